/- Lemmas for a law of confluencetop. -/
import Derived.Test.YtheflbaejhlboaaGreatDoorTopGp16
set_option linter.all false
set_option maxRecDepth 1000000
namespace Go.Proofs.YtheflbaejhlboaaGreatDoor
open Tryz
namespace Ev
open Go Go.Proofs
noncomputable section
namespace Aw
def e16:Ent:=⟨125,[(vP 1 0),(.agg [(vI 2),(vI 2),(vI 0),(vX 1 49)])],
 [(0,pK),(1,b1),(2,b35),(3,q9),(4,rC),(7,rD),(8,rE),(11,rF),(12,Au),(14,b9),(15,Ra),(16,mh),(17,PO),(18,rG),(19,b30),
 (20,PQ),(129,Ra),(130,rH),(131,PO),(132,rJ),(133,b49),(134,PQ),(243,Ra),(244,rM),(245,PO),(246,rO),(247,b52),(248,PQ),
 (551,b53),(553,b54),(554,bM [] 0),(555,UI),(1225,b56),(1226,b57),(1500,b58),(2952,b56),(2953,b87),(8264,b56),(8265,UJ),(8991,PR),
 (9009,b60),(9012,Tk),(9211,PR),(9228,Tk),(9291,PR),(9308,Tk)],
 10368,.Za,
 [(0,pK),(1,b1),(2,b78),(3,q9),(4,rC),(7,rD),(8,rE),(11,rF),(12,Av),(14,b9),(15,Ra),(16,mh),(17,PO),(18,rG),(19,b30),
 (20,PQ),(129,Ra),(130,rH),(131,PO),(132,rJ),(133,b49),(134,PQ),(243,Ra),(244,rM),(245,PO),(246,rO),(247,wU),(248,PQ),
 (551,b53),(553,b54),(554,bM [] 0),(555,UI),(1225,b56),(1226,b57),(1500,Ay),(2952,b56),(2953,b87),(8264,b56),(8265,UJ),(8991,PR),
 (9009,b60),(9012,Tk),(9211,PR),(9228,Tk),(9291,PR),(9308,Tk),(10370,Az),(10374,bM [] 0),(10376,bM [] 0),(10377,bM [] 0),(10378,bM [] 0),
 (10450,mr),(10521,mr)],10523⟩
theorem Zgc:Qe prog BP ME 1000000 200 e16=true:=by decide +kernel
end Aw
end
end Ev
namespace Ev
open Go Go.Proofs
noncomputable section
namespace Aw
def e17:Ent:=⟨133,[(vP 1 0),(vI 20000)],
 [(0,pK),(1,b1),(2,b78),(3,q9),(4,rC),(7,rD),(8,rE),(11,rF),(12,Av),(14,b9),(15,Ra),(16,mh),(17,PO),(18,rG),(19,b30),
 (20,PQ),(129,Ra),(130,rH),(131,PO),(132,rJ),(133,b49),(134,PQ),(243,Ra),(244,rM),(245,PO),(246,rO),(247,wU),(248,PQ),
 (551,b53),(553,b54),(554,bM [] 0),(555,UI),(1225,b56),(1226,b57),(1500,Ay),(2952,b56),(2953,b87),(8264,b56),(8265,UJ),(8991,PR),
 (9009,b60),(9012,Tk),(9211,PR),(9228,Tk),(9291,PR),(9308,Tk),(10370,Az),(10374,bM [] 0),(10376,bM [] 0),(10377,bM [] 0),(10378,bM [] 0),
 (10450,mr),(10521,mr)],
 10526,(.tuple [(vL 11774 0 1),(vI 10)]),
 [(0,pK),(1,b1),(2,b35),(3,bC [(vL 11971 0 706),(vI 685)] 0),
 (4,bC [(vP 2 0),(vI 0),(vP 3 0),(vI 0),vT,(vI 706),(vI 1),(vP 16 0),(vP 19 0),(vP 18 0),(vI 4),(vM 20),(vI 3),(vI 0),(vI 0),.Zk,(vX 0 0),(vL 9009 0 0),(vI 3),(vI 0),(vM 551),(vI 3),(vI 0),(vI 0),vF] 0),
 (7,bC [(vL 12049 0 706),(vI 685)] 0),
 (8,bC [(vP 2 0),(vI 1),(vP 7 0),(vI 0),vT,(vI 706),(vI 1),(vP 130 0),(vP 133 0),(vP 132 0),(vI 4),(vM 134),(vI 3),(vI 0),(vI 0),.Zk,(vX 0 0),.Za,(vI 0),(vI 0),.Zk,(vI 0),(vI 0),(vI 0),vF] 0),
 (11,bC [(vL 11753 0 706),(vI 685)] 0),
 (12,bC [(vP 2 0),(vI 2),(vP 11 0),(vI 0),vT,(vI 706),(vI 1),(vP 244 0),(vP 247 0),(vP 246 0),(vI 4),(vM 248),(vI 3),(vI 0),(vI 0),.Zk,(vX 0 0),(vL 11771 0 0),(vI 1),(vI 2),(vM 10374),(vI 4),(vI 0),(vI 0),vF] 0),
 (14,b9),(15,wV),(16,bC [(vI 2),(vI 2),(vM 15),(vI 4)] 0),(17,wW),(18,bC [(vM 17),(vI 4)] 0),
 (19,bC [(vI 0),(vI 3),(vI 2),(vI 1),(vI 0),(vI 0),(vM 553),(vM 554),(vM 555)] 0),(20,xe),(129,wV),(130,bC [(vI 2),(vI 2),(vM 129),(vI 4)] 0),
 (131,wW),(132,bC [(vM 131),(vI 4)] 0),(133,bC [(vI 1),(vI 3),(vI 2),(vI 0),(vI 0),(vI 0),.Zk,.Zk,.Zk] 0),(134,xe),(243,wV),
 (244,bC [(vI 2),(vI 2),(vM 243),(vI 4)] 0),(245,wW),(246,bC [(vM 245),(vI 4)] 0),(247,wU),(248,xe),(551,b53),(553,b54),(554,bM [] 0),
 (555,UI),(1225,b56),(1226,b57),(1500,b58),(2952,b56),(2953,b87),(8264,b56),(8265,UJ),(9009,b60),(9012,Tk),(9228,Tk),(9308,Tk),
 (10370,bO [(vI 2),(vI 1),(vI 1),vT,(vX 1 49),(vI 3)] 6),(10374,b86),(10376,bM [((vI 0),(vI 1),0),((vI 2),(vI 1),1)] 2),(10377,bM [] 0),
 (10378,bM [((vI 3),(vP 11037 0),0)] 1),(10450,mr),(10521,mr),(11036,bM [((vI 2),(vI 1),0),((vI 0),(vI 1),1),((vI 1),(vI 1),2)] 3),
 (11037,bC [x8,(vM 11036)] 0),(11753,xg),(11771,b60),(11774,bO [(vI 2),(vI 2),(vX 1 49),(vI 3)] 4),(11971,xg),(12049,xg)],12065⟩
theorem Zgd:Qe prog BP ME 1000000 200 e17=true:=by decide +kernel
end Aw
end
end Ev
end Go.Proofs.YtheflbaejhlboaaGreatDoor
