/- Lemmas for a law of confluencetop. -/
import Derived.Test.YtheflbaejhlboaaGreatDoorTopTx16
set_option linter.all false
set_option maxRecDepth 1000000
namespace Go.Proofs.YtheflbaejhlboaaGreatDoor
open Tryz
namespace Ev
open Go Go.Proofs
noncomputable section
namespace Aw
def e8:Ent:=⟨339,[(vP 363 0),(vI 1),x2],
 [(359,b61),(360,bM [] 0),(361,b62),(362,b63),(363,b64),(2419,b65),(2421,b66),(2424,b65),(2426,b67)],
 4000,(.tuple [(.agg [(vI 0),(vI 0),(vX 0 0)]),(vI 0)]),
 [(359,b61),(360,Ad),(361,mR),(362,Ae),(363,Af),(2419,b65),(2421,b66),(2424,b65),(2426,b67),(4088,b66),(4089,vY),(4176,Ve),
 (4185,Vf),(4529,Vg),(4777,vZ),(4861,Ve),(4870,Vf),(5230,b65),(5234,wh),(5250,Fp),(5254,Vg),(5256,wm),(5265,b65),(5267,wo),
 (5272,Fq),(5281,wu),(5282,wE),(5284,wF),(5285,bM [] 0),(5286,wG)],5294⟩
theorem Zi2:Qd prog BP ME 1000000 200 e8=true:=by decide +kernel
end Aw
end
end Ev
namespace Ev
open Go Go.Proofs
noncomputable section
namespace Aw
def e9:Ent:=⟨339,[(vP 370 0),(vI 1),x2],
 [(366,b68),(367,bM [] 0),(368,b62),(369,b69),(370,b70),(2601,b65),(2603,b71),(2606,b65),(2608,b72)],
 5308,(.tuple [(.agg [(vI 0),(vI 0),(vX 0 0)]),(vI 0)]),
 [(366,b68),(367,Ag),(368,mR),(369,Ah),(370,Ai),(2601,b65),(2603,b71),(2606,b65),(2608,b72),(5396,b71),(5397,wH),(5484,Ve),
 (5493,Vf),(5837,Vg),(6085,wI),(6169,Ve),(6178,Vf),(6538,b65),(6542,wJ),(6558,Fp),(6562,Vg),(6564,wK),(6573,b65),(6575,wL),
 (6580,Fq),(6589,wM),(6590,wN),(6592,wO),(6593,bM [] 0),(6594,wP)],6602⟩
theorem Zi3:Qd prog BP ME 1000000 200 e9=true:=by decide +kernel
end Aw
end
end Ev
namespace Ev
open Go Go.Proofs
noncomputable section
namespace Aw
def e10:Ent:=⟨339,[(vP 377 0),(vI 1),x2],
 [(373,b73),(374,bM [] 0),(375,b62),(376,b74),(377,b75),(2770,b65),(2772,b76),(2775,b65),(2777,b77)],
 6605,(.tuple [(.agg [(vI 0),(vI 0),(vX 0 0)]),(vI 0)]),
 [(373,b73),(374,Aj),(375,mR),(376,Ak),(377,Am),(2770,b65),(2772,b76),(2775,b65),(2777,b77),(6693,b76),(6694,wQ),(6781,Ve),
 (6790,Vf),(7134,Vg),(7382,wR),(7466,Ve),(7475,Vf),(7835,b65),(7839,wS),(7855,Fp),(7859,Vg),(7861,wT),(7870,b65),(7872,wU),
 (7877,Fq),(7886,wV),(7887,wW),(7889,xe),(7890,bM [] 0),(7891,xg)],7899⟩
theorem ZfW:Qd prog BP ME 1000000 200 e10=true:=by decide +kernel
end Aw
end
end Ev
namespace Ev
open Go Go.Proofs
noncomputable section
namespace Aw
def e11:Ent:=⟨125,[(vP 1 0),(.agg [(vI 1),(vI 0),(vI 0),x6])],
 [(0,b90),(1,b1),(2,b35),(3,b91),(4,b92),(7,b93),(8,b94),(11,b95),(12,b96),(14,b9),(15,b81),(16,b82),(17,b97),(18,b98),(19,b30),(20,b99),
 (129,b81),(130,rQ),(131,b97),(132,rT),(133,b49),(134,b99),(243,b81),(244,rU),(245,b97),(246,rV),(247,b52),(248,b99),(551,b53),
 (553,b54),(554,bM [] 0),(555,b83),(1225,b56),(1226,b57),(1500,b58),(2952,b56),(2953,b87),(3679,Lu),(3697,b60),(3700,PG),(3899,Lu),
 (3916,PG),(3979,Lu),(3996,PG)],
 8203,.Za,
 [(0,b90),(1,b1),(2,b78),(3,Ao),(4,Ap),(7,b93),(8,b94),(11,b95),(12,b96),(14,b9),(15,Rh),(16,mU),(17,b97),(18,b98),(19,b30),
 (20,b99),(129,b81),(130,rQ),(131,b97),(132,rT),(133,b49),(134,b99),(243,b81),(244,rU),(245,b97),(246,rV),(247,b52),(248,b99),
 (551,b53),(553,b54),(554,bM [] 0),(555,Uv),(1225,b56),(1226,b57),(1500,Aq),(2952,b56),(2953,b87),(3697,xh),(3700,PG),(3899,Lu),
 (3916,PG),(3979,Lu),(3996,PG),(8264,b86),(8265,Uw),(8376,Ar),(8461,mV),(8537,mV)],8540⟩
theorem ZfX:Qd prog BP ME 1000000 200 e11=true:=by decide +kernel
end Aw
end
end Ev
end Go.Proofs.YtheflbaejhlboaaGreatDoor
