/- A part of the proof of a law of package confluencetop: lemmas, no condition of ours. -/
import Derived.Test.YtheflbaejhlboaaGreatDoorTopUn29
set_option linter.unusedVariables false
set_option linter.unusedSectionVars false
set_option linter.unusedSimpArgs false
namespace Go.Proofs.YtheflbaejhlboaaGreatDoor.Ev
open Go Go.Proofs
set_option maxRecDepth 1000000
noncomputable section
namespace Aw
def e16:Ent:=⟨125,[(vP 1 0),(.agg [(vI 2),(vI 2),(vI 0),(vX 1 49)])],
 [(0,Zcl),(1,b1),(2,b35),(3,ZdK),(4,ZdL),(7,ZdM),(8,ZdN),(11,ZdO),(12,Zim),(14,b9),(15,Ts),(16,U4),(17,RZ),(18,ZdP),(19,b30),
 (20,R0),(129,Ts),(130,ZdQ),(131,RZ),(132,ZdR),(133,b49),(134,R0),(243,Ts),(244,ZdS),(245,RZ),(246,ZdT),(247,b52),(248,R0),
 (551,b53),(553,b54),(554,bM [] 0),(555,Ck),(1225,b56),(1226,b57),(1500,b58),(2952,b56),(2953,b87),(8264,b56),(8265,Cm),(8991,R4),
 (9009,b60),(9012,Yu),(9211,R4),(9228,Yu),(9291,R4),(9308,Yu)],
 10368,.Za,
 [(0,Zcl),(1,b1),(2,b78),(3,ZdK),(4,ZdL),(7,ZdM),(8,ZdN),(11,ZdO),(12,Zin),(14,b9),(15,Ts),(16,U4),(17,RZ),(18,ZdP),(19,b30),
 (20,R0),(129,Ts),(130,ZdQ),(131,RZ),(132,ZdR),(133,b49),(134,R0),(243,Ts),(244,ZdS),(245,RZ),(246,ZdT),(247,ZgB),(248,R0),
 (551,b53),(553,b54),(554,bM [] 0),(555,Ck),(1225,b56),(1226,b57),(1500,Zio),(2952,b56),(2953,b87),(8264,b56),(8265,Cm),(8991,R4),
 (9009,b60),(9012,Yu),(9211,R4),(9228,Yu),(9291,R4),(9308,Yu),(10370,Ziq),(10374,bM [] 0),(10376,bM [] 0),(10377,bM [] 0),(10378,bM [] 0),
 (10450,U7),(10521,U7)],10523⟩
theorem Zd0:Z3 Tryz.prog BP ME 1000000 200 e16=true:=by decide +kernel
end Aw
end
end Go.Proofs.YtheflbaejhlboaaGreatDoor.Ev
namespace Go.Proofs.YtheflbaejhlboaaGreatDoor.Ev
open Go Go.Proofs
set_option maxRecDepth 1000000
noncomputable section
namespace Aw
def e17:Ent:=⟨133,[(vP 1 0),(vI 20000)],
 [(0,Zcl),(1,b1),(2,b78),(3,ZdK),(4,ZdL),(7,ZdM),(8,ZdN),(11,ZdO),(12,Zin),(14,b9),(15,Ts),(16,U4),(17,RZ),(18,ZdP),(19,b30),
 (20,R0),(129,Ts),(130,ZdQ),(131,RZ),(132,ZdR),(133,b49),(134,R0),(243,Ts),(244,ZdS),(245,RZ),(246,ZdT),(247,ZgB),(248,R0),
 (551,b53),(553,b54),(554,bM [] 0),(555,Ck),(1225,b56),(1226,b57),(1500,Zio),(2952,b56),(2953,b87),(8264,b56),(8265,Cm),(8991,R4),
 (9009,b60),(9012,Yu),(9211,R4),(9228,Yu),(9291,R4),(9308,Yu),(10370,Ziq),(10374,bM [] 0),(10376,bM [] 0),(10377,bM [] 0),(10378,bM [] 0),
 (10450,U7),(10521,U7)],
 10526,(.tuple [(vL 11774 0 1),(vI 10)]),
 [(0,Zcl),(1,b1),(2,b35),(3,bC [(vL 11971 0 706),(vI 685)] 0),
 (4,bC [(vP 2 0),(vI 0),(vP 3 0),(vI 0),vT,(vI 706),(vI 1),(vP 16 0),(vP 19 0),(vP 18 0),(vI 4),(vM 20),(vI 3),(vI 0),(vI 0),.Zk,(vX 0 0),(vL 9009 0 0),(vI 3),(vI 0),(vM 551),(vI 3),(vI 0),(vI 0),vF] 0),
 (7,bC [(vL 12049 0 706),(vI 685)] 0),
 (8,bC [(vP 2 0),(vI 1),(vP 7 0),(vI 0),vT,(vI 706),(vI 1),(vP 130 0),(vP 133 0),(vP 132 0),(vI 4),(vM 134),(vI 3),(vI 0),(vI 0),.Zk,(vX 0 0),.Za,(vI 0),(vI 0),.Zk,(vI 0),(vI 0),(vI 0),vF] 0),
 (11,bC [(vL 11753 0 706),(vI 685)] 0),
 (12,bC [(vP 2 0),(vI 2),(vP 11 0),(vI 0),vT,(vI 706),(vI 1),(vP 244 0),(vP 247 0),(vP 246 0),(vI 4),(vM 248),(vI 3),(vI 0),(vI 0),.Zk,(vX 0 0),(vL 11771 0 0),(vI 1),(vI 2),(vM 10374),(vI 4),(vI 0),(vI 0),vF] 0),
 (14,b9),(15,ZgC),(16,bC [(vI 2),(vI 2),(vM 15),(vI 4)] 0),(17,ZgD),(18,bC [(vM 17),(vI 4)] 0),
 (19,bC [(vI 0),(vI 3),(vI 2),(vI 1),(vI 0),(vI 0),(vM 553),(vM 554),(vM 555)] 0),(20,ZgE),(129,ZgC),(130,bC [(vI 2),(vI 2),(vM 129),(vI 4)] 0),
 (131,ZgD),(132,bC [(vM 131),(vI 4)] 0),(133,bC [(vI 1),(vI 3),(vI 2),(vI 0),(vI 0),(vI 0),.Zk,.Zk,.Zk] 0),(134,ZgE),(243,ZgC),
 (244,bC [(vI 2),(vI 2),(vM 243),(vI 4)] 0),(245,ZgD),(246,bC [(vM 245),(vI 4)] 0),(247,ZgB),(248,ZgE),(551,b53),(553,b54),(554,bM [] 0),
 (555,Ck),(1225,b56),(1226,b57),(1500,b58),(2952,b56),(2953,b87),(8264,b56),(8265,Cm),(9009,b60),(9012,Yu),(9228,Yu),(9308,Yu),
 (10370,bO [(vI 2),(vI 1),(vI 1),vT,(vX 1 49),(vI 3)] 6),(10374,b86),(10376,bM [((vI 0),(vI 1),0),((vI 2),(vI 1),1)] 2),(10377,bM [] 0),
 (10378,bM [((vI 3),(vP 11037 0),0)] 1),(10450,U7),(10521,U7),(11036,bM [((vI 2),(vI 1),0),((vI 0),(vI 1),1),((vI 1),(vI 1),2)] 3),
 (11037,bC [x8,(vM 11036)] 0),(11753,ZgF),(11771,b60),(11774,bO [(vI 2),(vI 2),(vX 1 49),(vI 3)] 4),(11971,ZgF),(12049,ZgF)],12065⟩
theorem Zd1:Z3 Tryz.prog BP ME 1000000 200 e17=true:=by decide +kernel
end Aw
end
end Go.Proofs.YtheflbaejhlboaaGreatDoor.Ev
