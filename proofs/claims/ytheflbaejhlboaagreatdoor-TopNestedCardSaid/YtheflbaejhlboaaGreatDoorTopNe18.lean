/- Lemmas for a law of confluencetop. -/
import Derived.Test.YtheflbaejhlboaaGreatDoorTopNe16
set_option linter.all false
set_option maxRecDepth 1000000
namespace Go.Proofs.YtheflbaejhlboaaGreatDoor
open Tryz
namespace Ev
open Go Go.Proofs
noncomputable section
namespace Aw
def e4:Ent:=⟨339,[(vP 370 0),(vI 0),x0],
 [(366,b20),(367,bM [] 0),(368,b21),(369,b24),(370,b25)],
 2446,(.tuple [(.agg [(vI 0),(vI 0),(vX 0 0)]),(vI 0)]),
 [(366,b68),(367,bM [] 0),(368,b62),(369,b69),(370,b70),(2601,b65),(2603,b71),(2606,b65),(2608,b72)],2612⟩
theorem Zjp:Qh prog BP ME 1000000 200 e4=true:=by decide +kernel
end Aw
end
end Ev
namespace Ev
open Go Go.Proofs
noncomputable section
namespace Aw
def e5:Ent:=⟨339,[(vP 377 0),(vI 0),x0],
 [(373,b20),(374,bM [] 0),(375,b21),(376,b26),(377,b27)],
 2615,(.tuple [(.agg [(vI 0),(vI 0),(vX 0 0)]),(vI 0)]),
 [(373,b73),(374,bM [] 0),(375,b62),(376,b74),(377,b75),(2770,b65),(2772,b76),(2775,b65),(2777,b77)],2781⟩
theorem Zjq:Qh prog BP ME 1000000 200 e5=true:=by decide +kernel
end Aw
end
end Ev
namespace Ev
open Go Go.Proofs
noncomputable section
namespace Aw
def e6:Ent:=⟨125,[(vP 1 0),(.agg [(vI 1),(vI 0),(vI 0),x2])],
 [(0,b34),(1,b1),(2,b35),(3,b36),(4,b37),(7,b38),(8,b39),(11,b40),(12,b41),(14,b9),(15,b42),(16,b43),(17,b44),(18,b45),(19,b30),(20,b46),
 (129,b42),(130,b47),(131,b44),(132,b48),(133,b49),(134,b46),(243,b42),(244,b50),(245,b44),(246,b51),(247,b52),(248,b46),(551,b53),(553,b54),
 (554,bM [] 0),(555,b55),(1225,b56),(1226,b57),(1500,b58),(1943,b59),(1961,b60),(1964,bO [x0] 1),(2163,b59),(2180,bO [x0] 1),(2243,b59),
 (2260,bO [x0] 1)],
 2891,.Za,
 [(0,b34),(1,b1),(2,b78),(3,b79),(4,b80),(7,b38),(8,b39),(11,b40),(12,b41),(14,b9),(15,b81),(16,b82),(17,b44),(18,b45),(19,b30),(20,b46),
 (129,b42),(130,b47),(131,b44),(132,b48),(133,b49),(134,b46),(243,b42),(244,b50),(245,b44),(246,b51),(247,b52),(248,b46),(551,b53),(553,b54),
 (554,bM [] 0),(555,b83),(1225,b56),(1226,b57),(1500,b84),(1961,b85),(1964,bO [x0] 1),(2163,b59),(2180,bO [x0] 1),(2243,b59),(2260,bO [x0] 1),
 (2952,b86),(2953,b87),(3064,b88),(3149,b89),(3225,b89)],3228⟩
theorem Zjr:Qh prog BP ME 1000000 200 e6=true:=by decide +kernel
end Aw
end
end Ev
namespace Ev
open Go Go.Proofs
noncomputable section
namespace Aw
def e7:Ent:=⟨133,[(vP 1 0),(vI 20000)],
 [(0,b34),(1,b1),(2,b78),(3,b79),(4,b80),(7,b38),(8,b39),(11,b40),(12,b41),(14,b9),(15,b81),(16,b82),(17,b44),(18,b45),(19,b30),(20,b46),
 (129,b42),(130,b47),(131,b44),(132,b48),(133,b49),(134,b46),(243,b42),(244,b50),(245,b44),(246,b51),(247,b52),(248,b46),(551,b53),(553,b54),
 (554,bM [] 0),(555,b83),(1225,b56),(1226,b57),(1500,b84),(1961,b85),(1964,bO [x0] 1),(2163,b59),(2180,bO [x0] 1),(2243,b59),(2260,bO [x0] 1),
 (2952,b86),(2953,b87),(3064,b88),(3149,b89),(3225,b89)],
 3247,(.tuple [(vL 3702 0 1),(vI 6)]),
 [(0,b90),(1,b1),(2,b35),(3,b91),(4,b92),(7,b93),(8,b94),(11,b95),(12,b96),(14,b9),(15,b81),(16,b82),(17,b97),(18,b98),(19,b30),(20,b99),
 (129,b81),(130,qZ),(131,b97),(132,q8),(133,b49),(134,b99),(243,b81),(244,q9),(245,b97),(246,rC),(247,b52),(248,b99),(551,b53),
 (553,b54),(554,bM [] 0),(555,b83),(1225,b56),(1226,b57),(1500,b58),(1961,b85),(2952,b56),(2953,b87),(3149,b89),(3225,b89),(3679,LX),
 (3697,b60),(3700,PX),(3702,bO [(vI 1),(vI 0),x2,(vI 1)] 4),(3899,LX),(3916,PX),(3979,LX),(3996,PX)],3997⟩
theorem Zjs:Qh prog BP ME 1000000 200 e7=true:=by decide +kernel
end Aw
end
end Ev
end Go.Proofs.YtheflbaejhlboaaGreatDoor
