/- Lemmas for a law of confluencetop. -/
import Derived.Test.YtheflbaejhlboaaGreatDoorTopGp16
set_option linter.all false
set_option maxRecDepth 1000000
namespace Go.Proofs.YtheflbaejhlboaaGreatDoor
open Tryz
namespace Ev
open Go Go.Proofs
noncomputable section
namespace Aw
def e0:Ent:=⟨37,[(vI 3)],
 [],
 0,(.tuple [(vP 358 0),(vI 0)]),
 [(0,b0),(1,b1),(2,b2),(3,b3),(4,b4),(7,b5),(8,b6),(11,b7),(12,b8),(14,b9),(15,bM [] 0),(16,b10),(17,bM [] 0),(18,b11),(19,b12),
 (20,bM [] 0),(128,b13),(129,bM [] 0),(130,b14),(131,bM [] 0),(132,b15),(133,b16),(134,bM [] 0),(242,b13),(243,bM [] 0),(244,b17),(245,bM [] 0),
 (246,b18),(247,b19),(248,bM [] 0),(356,b13),(357,bC [(vI 0),(vI 0),(vI 0)] 1),
 (358,bC [(vP 1 0),(vI 3),(vL 379 0 3),(.slice 357 0 3 (some 3)),vF,vF,(vI 0),(vI 0),(vI 0),(vI 0),(vI 0),(vX 0 0),(vI 0),(vI 0),(vI 0),(vX 0 0),(vX 0 0),.Za,.Za,(vX 0 0),(vI 0),(vI 0),vF,vF,(vI 0),(vI 0),(vI 0),(vI 0),(vI 0),(vX 0 0),(vI 0),(vI 0),(vI 0),(vX 0 0),(vX 0 0),.Za,.Za,(vX 0 0),(vI 0),(vI 0),vF,vF,(vI 0),(vI 0),(vI 0),(vI 0),(vI 0),(vX 0 0),(vI 0),(vI 0),(vI 0),(vX 0 0),(vX 0 0),.Za,.Za,(vX 0 0),(vI 0),(vI 0),vF,vF,(vI 0),(vI 0),(vI 0),(vI 0),(vI 0),(vX 0 0),(vI 0),(vI 0),(vI 0),(vX 0 0),(vX 0 0),.Za,.Za,(vX 0 0),(vI 0),(vI 0),vF,vF,(vI 0),(vI 0),(vI 0),(vI 0),(vI 0),(vX 0 0),(vI 0),(vI 0),(vI 0),(vX 0 0),(vX 0 0),.Za,.Za,(vX 0 0),(vI 0),(vI 0),vF,vF,(vI 0),(vI 0),(vI 0),(vI 0),(vI 0),(vX 0 0),(vI 0),(vI 0),(vI 0),(vX 0 0),(vX 0 0),.Za,.Za,(vX 0 0),(vI 0),(vI 0),vF,vF,(vI 0),(vI 0),(vI 0),(vI 0),(vI 0),(vX 0 0),(vI 0),(vI 0),(vI 0),(vX 0 0),(vX 0 0),.Za,.Za,(vX 0 0),(vI 0),(vI 0),vF,vF,(vI 0),(vI 0),(vI 0),(vI 0),(vI 0),(vX 0 0),(vI 0),(vI 0),(vI 0),(vX 0 0),(vX 0 0),.Za,.Za,(vX 0 0),(vI 0),(vI 0),vF,vF,(vI 0),(vI 0),(vI 0),(vI 0),(vI 0),(vX 0 0),(vI 0),(vI 0),(vI 0),(vX 0 0),(vX 0 0),.Za,.Za,(vX 0 0),(vI 0),(vI 0),vF,vF,(vI 0),(vI 0),(vI 0),(vI 0),(vI 0),(vX 0 0),(vI 0),(vI 0),(vI 0),(vX 0 0),(vX 0 0),.Za,.Za,(vX 0 0),(vI 0),(vI 0),vF,vF,(vI 0),(vI 0),(vI 0),(vI 0),(vI 0),(vX 0 0),(vI 0),(vI 0),(vI 0),(vX 0 0),(vX 0 0),.Za,.Za,(vX 0 0),(vI 0),(vI 0),vF,vF,(vI 0),(vI 0),(vI 0),(vI 0),(vI 0),(vX 0 0),(vI 0),(vI 0),(vI 0),(vX 0 0),(vX 0 0),.Za,.Za,(vX 0 0),(vI 0),(vI 0),vF,vF,(vI 0),(vI 0),(vI 0),(vI 0),(vI 0),(vX 0 0),(vI 0),(vI 0),(vI 0),(vX 0 0),(vX 0 0),.Za,.Za,(vX 0 0),(vI 0),(vI 0),vF,vF,(vI 0),(vI 0),(vI 0),(vI 0),(vI 0),(vX 0 0),(vI 0),(vI 0),(vI 0),(vX 0 0),(vX 0 0),.Za,.Za,(vX 0 0),(vI 0),(vI 0),vF,vF,(vI 0),(vI 0),(vI 0),(vI 0),(vI 0),(vX 0 0),(vI 0),(vI 0),(vI 0),(vX 0 0),(vX 0 0),.Za,.Za,(vX 0 0),(vI 0),(vI 0),vF,vF,(vI 0),(vI 0),(vI 0),(vI 0),(vI 0),(vX 0 0),(vI 0),(vI 0),(vI 0),(vX 0 0),(vX 0 0),.Za,.Za,(vX 0 0),(vI 0),(vI 0),(vI 0),.Za] 0),
 (359,b20),(360,bM [] 0),(361,b21),(362,b22),(363,b23),(366,b20),(367,bM [] 0),(368,b21),(369,b24),(370,b25),(373,b20),(374,bM [] 0),(375,b21),
 (376,b26),(377,b27),(379,bO [(vP 363 0),(vP 370 0),(vP 377 0)] 1)],380⟩
theorem Zja:Qe prog BP ME 1000000 200 e0=true:=by decide +kernel
end Aw
end
end Ev
namespace Ev
open Go Go.Proofs
noncomputable section
namespace Aw
def e1:Ent:=⟨125,[(vP 1 0),(.agg [(vI 1),(vI 0),(vI 0),x0])],
 [(0,b0),(1,b1),(2,b2),(3,b3),(4,b4),(7,b5),(8,b6),(11,b7),(12,b8),(14,b9),(15,bM [] 0),(16,b10),(17,bM [] 0),(18,b11),(19,b12),
 (20,bM [] 0),(128,b13),(129,bM [] 0),(130,b14),(131,bM [] 0),(132,b15),(133,b16),(134,bM [] 0),(242,b13),(243,bM [] 0),(244,b17),(245,bM [] 0),
 (246,b18),(247,b19),(248,bM [] 0),(356,b13)],
 545,.Za,
 [(0,b0),(1,b1),(2,b28),(3,b3),(4,b29),(7,b5),(8,b6),(11,b7),(12,b8),(14,b9),(15,bM [] 0),(16,b10),(17,bM [] 0),(18,b11),(19,b30),
 (20,bM [] 0),(128,b13),(129,bM [] 0),(130,b14),(131,bM [] 0),(132,b15),(133,b16),(134,bM [] 0),(242,b13),(243,bM [] 0),(244,b17),(245,bM [] 0),
 (246,b18),(247,b19),(248,bM [] 0),(356,b13),(547,b31),(551,bM [] 0),(553,bM [] 0),(554,bM [] 0),(555,bM [] 0),(627,b32),(699,b32),(701,b33)],702⟩
theorem Zjb:Qe prog BP ME 1000000 200 e1=true:=by decide +kernel
end Aw
end
end Ev
namespace Ev
open Go Go.Proofs
noncomputable section
namespace Aw
def e2:Ent:=⟨133,[(vP 1 0),(vI 20000)],
 [(0,b0),(1,b1),(2,b28),(3,b3),(4,b29),(7,b5),(8,b6),(11,b7),(12,b8),(14,b9),(15,bM [] 0),(16,b10),(17,bM [] 0),(18,b11),(19,b30),
 (20,bM [] 0),(128,b13),(129,bM [] 0),(130,b14),(131,bM [] 0),(132,b15),(133,b16),(134,bM [] 0),(242,b13),(243,bM [] 0),(244,b17),(245,bM [] 0),
 (246,b18),(247,b19),(248,bM [] 0),(356,b13),(547,b31),(551,bM [] 0),(553,bM [] 0),(554,bM [] 0),(555,bM [] 0),(627,b32),(699,b32),(701,b33)],
 721,(.tuple [(vL 1966 0 1),(vI 10)]),
 [(0,b34),(1,b1),(2,b35),(3,b36),(4,b37),(7,b38),(8,b39),(11,b40),(12,b41),(14,b9),(15,b42),(16,b43),(17,b44),(18,b45),(19,b30),(20,b46),
 (129,b42),(130,b47),(131,b44),(132,b48),(133,b49),(134,b46),(243,b42),(244,b50),(245,b44),(246,b51),(247,b52),(248,b46),
 (547,bO [(vI 0),(vI 1),(vI 1),vF,x0,(vI 0)] 6),(551,b53),(553,b54),(554,bM [] 0),(555,b55),(627,b32),(699,b32),(1225,b56),(1226,b57),(1500,b58),
 (1943,b59),(1961,b60),(1964,bO [x0] 1),(1966,bO [(vI 1),(vI 0),x0,(vI 0)] 4),(2163,b59),(2180,bO [x0] 1),(2243,b59),(2260,bO [x0] 1)],2261⟩
theorem Zjc:Qe prog BP ME 1000000 200 e2=true:=by decide +kernel
end Aw
end
end Ev
namespace Ev
open Go Go.Proofs
noncomputable section
namespace Aw
def e3:Ent:=⟨339,[(vP 363 0),(vI 0),x0],
 [(359,b20),(360,bM [] 0),(361,b21),(362,b22),(363,b23)],
 2264,(.tuple [(.agg [(vI 0),(vI 0),(vX 0 0)]),(vI 0)]),
 [(359,b61),(360,bM [] 0),(361,b62),(362,b63),(363,b64),(2419,b65),(2421,b66),(2424,b65),(2426,b67)],2430⟩
theorem Zjd:Qe prog BP ME 1000000 200 e3=true:=by decide +kernel
end Aw
end
end Ev
end Go.Proofs.YtheflbaejhlboaaGreatDoor
