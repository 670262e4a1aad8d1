/- A part of the proof of a law of package confluencetop: lemmas, no condition of ours. -/
import Derived.Test.YtheflbaejhlboaaGreatDoorTopUn29
set_option linter.unusedVariables false
set_option linter.unusedSectionVars false
set_option linter.unusedSimpArgs false
namespace Go.Proofs.YtheflbaejhlboaaGreatDoor.Ev
open Go Go.Proofs
set_option maxRecDepth 1000000
noncomputable section
namespace Aw
def e8:Ent:=⟨339,[(vP 363 0),(vI 1),x2],
 [(359,b61),(360,bM [] 0),(361,b62),(362,b63),(363,b64),(2419,b65),(2421,b66),(2424,b65),(2426,b67)],
 4000,(.tuple [(.agg [(vI 0),(vI 0),(vX 0 0)]),(vI 0)]),
 [(359,b61),(360,Zh9),(361,U3),(362,Zia),(363,Zib),(2419,b65),(2421,b66),(2424,b65),(2426,b67),(4088,b66),(4089,Zf8),(4176,Wy),
 (4185,Wz),(4529,WA),(4777,Zf9),(4861,Wy),(4870,Wz),(5230,b65),(5234,Zga),(5250,Hn),(5254,WA),(5256,Zgb),(5265,b65),(5267,Zgc),
 (5272,Ho),(5281,Zgd),(5282,Zge),(5284,Zgf),(5285,bM [] 0),(5286,Zgg)],5294⟩
theorem ZgO:Z3 Tryz.prog BP ME 1000000 200 e8=true:=by decide +kernel
end Aw
end
end Go.Proofs.YtheflbaejhlboaaGreatDoor.Ev
namespace Go.Proofs.YtheflbaejhlboaaGreatDoor.Ev
open Go Go.Proofs
set_option maxRecDepth 1000000
noncomputable section
namespace Aw
def e9:Ent:=⟨339,[(vP 370 0),(vI 1),x2],
 [(366,b68),(367,bM [] 0),(368,b62),(369,b69),(370,b70),(2601,b65),(2603,b71),(2606,b65),(2608,b72)],
 5308,(.tuple [(.agg [(vI 0),(vI 0),(vX 0 0)]),(vI 0)]),
 [(366,b68),(367,Zic),(368,U3),(369,Zid),(370,Zie),(2601,b65),(2603,b71),(2606,b65),(2608,b72),(5396,b71),(5397,Zgh),(5484,Wy),
 (5493,Wz),(5837,WA),(6085,Zgi),(6169,Wy),(6178,Wz),(6538,b65),(6542,Zgj),(6558,Hn),(6562,WA),(6564,Zgk),(6573,b65),(6575,Zgl),
 (6580,Ho),(6589,Zgm),(6590,Zgn),(6592,Zgo),(6593,bM [] 0),(6594,Zgp)],6602⟩
theorem ZgP:Z3 Tryz.prog BP ME 1000000 200 e9=true:=by decide +kernel
end Aw
end
end Go.Proofs.YtheflbaejhlboaaGreatDoor.Ev
namespace Go.Proofs.YtheflbaejhlboaaGreatDoor.Ev
open Go Go.Proofs
set_option maxRecDepth 1000000
noncomputable section
namespace Aw
def e10:Ent:=⟨339,[(vP 377 0),(vI 1),x2],
 [(373,b73),(374,bM [] 0),(375,b62),(376,b74),(377,b75),(2770,b65),(2772,b76),(2775,b65),(2777,b77)],
 6605,(.tuple [(.agg [(vI 0),(vI 0),(vX 0 0)]),(vI 0)]),
 [(373,b73),(374,Zif),(375,U3),(376,Zig),(377,Zih),(2770,b65),(2772,b76),(2775,b65),(2777,b77),(6693,b76),(6694,Zgq),(6781,Wy),
 (6790,Wz),(7134,WA),(7382,Zgr),(7466,Wy),(7475,Wz),(7835,b65),(7839,Zgs),(7855,Hn),(7859,WA),(7861,Zgt),(7870,b65),(7872,Zgu),
 (7877,Ho),(7886,Zgv),(7887,Zgw),(7889,Zgx),(7890,bM [] 0),(7891,Zgy)],7899⟩
theorem ZdU:Z3 Tryz.prog BP ME 1000000 200 e10=true:=by decide +kernel
end Aw
end
end Go.Proofs.YtheflbaejhlboaaGreatDoor.Ev
namespace Go.Proofs.YtheflbaejhlboaaGreatDoor.Ev
open Go Go.Proofs
set_option maxRecDepth 1000000
noncomputable section
namespace Aw
def e11:Ent:=⟨125,[(vP 1 0),(.agg [(vI 1),(vI 0),(vI 0),x6])],
 [(0,b90),(1,b1),(2,b35),(3,b91),(4,b92),(7,b93),(8,b94),(11,b95),(12,b96),(14,b9),(15,b81),(16,b82),(17,b97),(18,b98),(19,b30),(20,b99),
 (129,b81),(130,ZdG),(131,b97),(132,ZdH),(133,b49),(134,b99),(243,b81),(244,ZdI),(245,b97),(246,ZdJ),(247,b52),(248,b99),(551,b53),
 (553,b54),(554,bM [] 0),(555,b83),(1225,b56),(1226,b57),(1500,b58),(2952,b56),(2953,b87),(3679,MI),(3697,b60),(3700,RY),(3899,MI),
 (3916,RY),(3979,MI),(3996,RY)],
 8203,.Za,
 [(0,b90),(1,b1),(2,b78),(3,Zii),(4,Zij),(7,b93),(8,b94),(11,b95),(12,b96),(14,b9),(15,Ts),(16,U4),(17,b97),(18,b98),(19,b30),
 (20,b99),(129,b81),(130,ZdG),(131,b97),(132,ZdH),(133,b49),(134,b99),(243,b81),(244,ZdI),(245,b97),(246,ZdJ),(247,b52),(248,b99),
 (551,b53),(553,b54),(554,bM [] 0),(555,Ck),(1225,b56),(1226,b57),(1500,Zik),(2952,b56),(2953,b87),(3697,Zgz),(3700,RY),(3899,MI),
 (3916,RY),(3979,MI),(3996,RY),(8264,b86),(8265,Cm),(8376,Zil),(8461,U5),(8537,U5)],8540⟩
theorem ZdV:Z3 Tryz.prog BP ME 1000000 200 e11=true:=by decide +kernel
end Aw
end
end Go.Proofs.YtheflbaejhlboaaGreatDoor.Ev
