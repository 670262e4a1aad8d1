/- Lemmas for a law of confluencetop. -/
import Derived.Test.YtheflbaejhlboaaGreatDoorTopNe16
set_option linter.all false
set_option maxRecDepth 1000000
namespace Go.Proofs.YtheflbaejhlboaaGreatDoor
open Tryz
namespace Ev
open Go Go.Proofs
noncomputable section
namespace Aw
def e8:Ent:=⟨339,[(vP 363 0),(vI 1),x2],
 [(359,b61),(360,bM [] 0),(361,b62),(362,b63),(363,b64),(2419,b65),(2421,b66),(2424,b65),(2426,b67)],
 4000,(.tuple [(.agg [(vI 0),(vI 0),(vX 0 0)]),(vI 0)]),
 [(359,b61),(360,Ag),(361,mK),(362,Ah),(363,Ai),(2419,b65),(2421,b66),(2424,b65),(2426,b67),(4088,b66),(4089,vS),(4176,Vp),
 (4185,Vq),(4529,Vr),(4777,vV),(4861,Vp),(4870,Vq),(5230,b65),(5234,vY),(5250,FK),(5254,Vr),(5256,vZ),(5265,b65),(5267,wh),
 (5272,FL),(5281,wm),(5282,wo),(5284,wu),(5285,bM [] 0),(5286,wE)],5294⟩
theorem Zjt:Qh prog BP ME 1000000 200 e8=true:=by decide +kernel
end Aw
end
end Ev
namespace Ev
open Go Go.Proofs
noncomputable section
namespace Aw
def e9:Ent:=⟨339,[(vP 370 0),(vI 1),x2],
 [(366,b68),(367,bM [] 0),(368,b62),(369,b69),(370,b70),(2601,b65),(2603,b71),(2606,b65),(2608,b72)],
 5308,(.tuple [(.agg [(vI 0),(vI 0),(vX 0 0)]),(vI 0)]),
 [(366,b68),(367,Aj),(368,mK),(369,Ak),(370,Am),(2601,b65),(2603,b71),(2606,b65),(2608,b72),(5396,b71),(5397,wF),(5484,Vp),
 (5493,Vq),(5837,Vr),(6085,wG),(6169,Vp),(6178,Vq),(6538,b65),(6542,wH),(6558,FK),(6562,Vr),(6564,wI),(6573,b65),(6575,wJ),
 (6580,FL),(6589,wK),(6590,wL),(6592,wM),(6593,bM [] 0),(6594,wN)],6602⟩
theorem Zju:Qh prog BP ME 1000000 200 e9=true:=by decide +kernel
end Aw
end
end Ev
namespace Ev
open Go Go.Proofs
noncomputable section
namespace Aw
def e10:Ent:=⟨339,[(vP 377 0),(vI 1),x2],
 [(373,b73),(374,bM [] 0),(375,b62),(376,b74),(377,b75),(2770,b65),(2772,b76),(2775,b65),(2777,b77)],
 6605,(.tuple [(.agg [(vI 0),(vI 0),(vX 0 0)]),(vI 0)]),
 [(373,b73),(374,Ao),(375,mK),(376,Ap),(377,Aq),(2770,b65),(2772,b76),(2775,b65),(2777,b77),(6693,b76),(6694,wO),(6781,Vp),
 (6790,Vq),(7134,Vr),(7382,wP),(7466,Vp),(7475,Vq),(7835,b65),(7839,wQ),(7855,FK),(7859,Vr),(7861,wR),(7870,b65),(7872,wS),
 (7877,FL),(7886,wT),(7887,wU),(7889,wV),(7890,bM [] 0),(7891,wW)],7899⟩
theorem Zgj:Qh prog BP ME 1000000 200 e10=true:=by decide +kernel
end Aw
end
end Ev
namespace Ev
open Go Go.Proofs
noncomputable section
namespace Aw
def e11:Ent:=⟨125,[(vP 1 0),(.agg [(vI 1),(vI 0),(vI 0),x6])],
 [(0,b90),(1,b1),(2,b35),(3,b91),(4,b92),(7,b93),(8,b94),(11,b95),(12,b96),(14,b9),(15,b81),(16,b82),(17,b97),(18,b98),(19,b30),(20,b99),
 (129,b81),(130,qZ),(131,b97),(132,q8),(133,b49),(134,b99),(243,b81),(244,q9),(245,b97),(246,rC),(247,b52),(248,b99),(551,b53),
 (553,b54),(554,bM [] 0),(555,b83),(1225,b56),(1226,b57),(1500,b58),(2952,b56),(2953,b87),(3679,LX),(3697,b60),(3700,PX),(3899,LX),
 (3916,PX),(3979,LX),(3996,PX)],
 8203,.Za,
 [(0,b90),(1,b1),(2,b78),(3,Ar),(4,Au),(7,b93),(8,b94),(11,b95),(12,b96),(14,b9),(15,Rs),(16,mM),(17,b97),(18,b98),(19,b30),
 (20,b99),(129,b81),(130,qZ),(131,b97),(132,q8),(133,b49),(134,b99),(243,b81),(244,q9),(245,b97),(246,rC),(247,b52),(248,b99),
 (551,b53),(553,b54),(554,bM [] 0),(555,UP),(1225,b56),(1226,b57),(1500,Av),(2952,b56),(2953,b87),(3697,xe),(3700,PX),(3899,LX),
 (3916,PX),(3979,LX),(3996,PX),(8264,b86),(8265,UQ),(8376,Ay),(8461,mO),(8537,mO)],8540⟩
theorem Zgk:Qh prog BP ME 1000000 200 e11=true:=by decide +kernel
end Aw
end
end Ev
end Go.Proofs.YtheflbaejhlboaaGreatDoor
