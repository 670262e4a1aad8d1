/- Lemmas for a law of confluencetop. -/
import Derived.Test.YtheflbaejhlboaaGreatDoorTopGp16
set_option linter.all false
set_option maxRecDepth 1000000
namespace Go.Proofs.YtheflbaejhlboaaGreatDoor
open Tryz
namespace Ev
open Go Go.Proofs
noncomputable section
namespace Aw
def e8:Ent:=⟨339,[(vP 363 0),(vI 1),x2],
 [(359,b61),(360,bM [] 0),(361,b62),(362,b63),(363,b64),(2419,b65),(2421,b66),(2424,b65),(2426,b67)],
 4000,(.tuple [(.agg [(vI 0),(vI 0),(vX 0 0)]),(vI 0)]),
 [(359,b61),(360,Ad),(361,mg),(362,Ae),(363,Af),(2419,b65),(2421,b66),(2424,b65),(2426,b67),(4088,b66),(4089,vG),(4176,Vf),
 (4185,Vg),(4529,Vh),(4777,vH),(4861,Vf),(4870,Vg),(5230,b65),(5234,vN),(5250,Fv),(5254,Vh),(5256,vO),(5265,b65),(5267,vQ),
 (5272,Fw),(5281,vR),(5282,vS),(5284,vV),(5285,bM [] 0),(5286,vY)],5294⟩
theorem Zji:Qe prog BP ME 1000000 200 e8=true:=by decide +kernel
end Aw
end
end Ev
namespace Ev
open Go Go.Proofs
noncomputable section
namespace Aw
def e9:Ent:=⟨339,[(vP 370 0),(vI 1),x2],
 [(366,b68),(367,bM [] 0),(368,b62),(369,b69),(370,b70),(2601,b65),(2603,b71),(2606,b65),(2608,b72)],
 5308,(.tuple [(.agg [(vI 0),(vI 0),(vX 0 0)]),(vI 0)]),
 [(366,b68),(367,Ag),(368,mg),(369,Ah),(370,Ai),(2601,b65),(2603,b71),(2606,b65),(2608,b72),(5396,b71),(5397,vZ),(5484,Vf),
 (5493,Vg),(5837,Vh),(6085,wh),(6169,Vf),(6178,Vg),(6538,b65),(6542,wm),(6558,Fv),(6562,Vh),(6564,wo),(6573,b65),(6575,wu),
 (6580,Fw),(6589,wF),(6590,wG),(6592,wH),(6593,bM [] 0),(6594,wI)],6602⟩
theorem Zjj:Qe prog BP ME 1000000 200 e9=true:=by decide +kernel
end Aw
end
end Ev
namespace Ev
open Go Go.Proofs
noncomputable section
namespace Aw
def e10:Ent:=⟨339,[(vP 377 0),(vI 1),x2],
 [(373,b73),(374,bM [] 0),(375,b62),(376,b74),(377,b75),(2770,b65),(2772,b76),(2775,b65),(2777,b77)],
 6605,(.tuple [(.agg [(vI 0),(vI 0),(vX 0 0)]),(vI 0)]),
 [(373,b73),(374,Aj),(375,mg),(376,Ak),(377,Am),(2770,b65),(2772,b76),(2775,b65),(2777,b77),(6693,b76),(6694,wJ),(6781,Vf),
 (6790,Vg),(7134,Vh),(7382,wK),(7466,Vf),(7475,Vg),(7835,b65),(7839,wL),(7855,Fv),(7859,Vh),(7861,wM),(7870,b65),(7872,wN),
 (7877,Fw),(7886,wO),(7887,wP),(7889,wQ),(7890,bM [] 0),(7891,wR)],7899⟩
theorem Zf6:Qe prog BP ME 1000000 200 e10=true:=by decide +kernel
end Aw
end
end Ev
namespace Ev
open Go Go.Proofs
noncomputable section
namespace Aw
def e11:Ent:=⟨125,[(vP 1 0),(.agg [(vI 1),(vI 0),(vI 0),x6])],
 [(0,b90),(1,b1),(2,b35),(3,b91),(4,b92),(7,b93),(8,b94),(11,b95),(12,b96),(14,b9),(15,b81),(16,b82),(17,b97),(18,b98),(19,b30),(20,b99),
 (129,b81),(130,qX),(131,b97),(132,qY),(133,b49),(134,b99),(243,b81),(244,qZ),(245,b97),(246,q8),(247,b52),(248,b99),(551,b53),
 (553,b54),(554,bM [] 0),(555,b83),(1225,b56),(1226,b57),(1500,b58),(2952,b56),(2953,b87),(3679,LF),(3697,b60),(3700,PN),(3899,LF),
 (3916,PN),(3979,LF),(3996,PN)],
 8203,.Za,
 [(0,b90),(1,b1),(2,b78),(3,Ao),(4,Ap),(7,b93),(8,b94),(11,b95),(12,b96),(14,b9),(15,Ra),(16,mh),(17,b97),(18,b98),(19,b30),
 (20,b99),(129,b81),(130,qX),(131,b97),(132,qY),(133,b49),(134,b99),(243,b81),(244,qZ),(245,b97),(246,q8),(247,b52),(248,b99),
 (551,b53),(553,b54),(554,bM [] 0),(555,UI),(1225,b56),(1226,b57),(1500,Aq),(2952,b56),(2953,b87),(3697,wS),(3700,PN),(3899,LF),
 (3916,PN),(3979,LF),(3996,PN),(8264,b86),(8265,UJ),(8376,Ar),(8461,mo),(8537,mo)],8540⟩
theorem Zf7:Qe prog BP ME 1000000 200 e11=true:=by decide +kernel
end Aw
end
end Ev
end Go.Proofs.YtheflbaejhlboaaGreatDoor
