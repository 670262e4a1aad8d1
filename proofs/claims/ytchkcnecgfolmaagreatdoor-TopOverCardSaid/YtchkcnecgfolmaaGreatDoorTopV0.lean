/-
  The run in the large: entries of TopOver's run. No condition of ours.
-/
import Derived.Test.YtchkcnecgfolmaaGreatDoorTopPlans
namespace Go.Proofs.YtchkcnecgfolmaaGreatDoor.Ev
open Go Go.Proofs
set_option maxRecDepth 1000000
set_option linter.unusedVariables false
set_option linter.unusedSectionVars false
noncomputable def s0 : Ent := ⟨68, [(vP 1353 0), (vL 1367 0 1)],
  [(901, bO [(vX 1 97)] 1), (908, bO [(vX 1 110), (vX 5 500069396323), (vX 0 0)] 3), (917, bO [(vI 1), (vX 1 117), .nilslice, .nilslice, .nilslice, .nilslice, .nilslice, .nilslice] 8), (1310, bC [(vI 7), (vX 0 0), .nilslice, .nilslice, (vL 901 0 1), .nilslice, (vL 908 0 1), (vL 917 0 1), (vL 1351 0 2), (vL 1318 0 1), (vL 1320 0 1), .nilslice, (vP 1338 0), .nilptr, .nilptr] 0),
  (1313, bC [(vI 1), (vX 1 117), .nilslice, .nilslice, .nilslice, .nilslice, .nilslice, .nilslice, (vL 1316 0 2), .nilslice, .nilslice, .nilslice, .nilptr, .nilptr, .nilptr] 0),
  (1316, bO [(vX 1 97), (vI 1), (vX 1 99), (vI 1)] 2), (1318, bO [(vP 1313 0)] 1), (1320, bO [(vL 1316 0 2)] 1), (1336, bO [(vI 0)] 1), (1337, bM [] 0),
  (1338, bC [(vL 1336 0 1), (vL 1342 0 1), (vM 1337)] 0),
  (1342, bO [(vX 5 500069396323), (vI 0)] 2), (1351, bO [(vX 1 97), (vI 1), (vX 1 110), (vI 1)] 2), (1352, bM [] 0),
  (1353, bC [(vP 1310 0),
  (vL 1364 0 1), (vM 1352)] 0),
  (1362, bO [(vX 1 97), (vI 1), (vX 1 99), (vI 1)] 2), (1364, bO [(vX 1 117), (vL 1362 0 2)] 2), (1367, bO [(vX 1 117), .nilslice] 2)],
  1368, (.tuple [.nilslice, (vI 0)]),
  [(901, bO [(vX 1 97)] 1), (908, bO [(vX 1 110), (vX 5 500069396323), (vX 0 0)] 3), (917, bO [(vI 1), (vX 1 117), .nilslice, .nilslice, .nilslice, .nilslice, .nilslice, .nilslice] 8), (1310, bC [(vI 7), (vX 0 0), .nilslice, .nilslice, (vL 901 0 1), .nilslice, (vL 908 0 1), (vL 917 0 1), (vL 1351 0 2), (vL 1318 0 1), (vL 1320 0 1), .nilslice, (vP 1338 0), .nilptr, .nilptr] 0),
  (1313, bC [(vI 1), (vX 1 117), .nilslice, .nilslice, .nilslice, .nilslice, .nilslice, .nilslice, (vL 1316 0 2), .nilslice, .nilslice, .nilslice, .nilptr, .nilptr, .nilptr] 0),
  (1316, bO [(vX 1 97), (vI 1), (vX 1 99), (vI 1)] 2), (1318, bO [(vP 1313 0)] 1), (1320, bO [(vL 1316 0 2)] 1), (1336, bO [(vI 0)] 1), (1337, bM [] 0),
  (1338, bC [(vL 1336 0 1), (vL 1342 0 1), (vM 1337)] 0),
  (1342, bO [(vX 5 500069396323), (vI 0)] 2), (1351, bO [(vX 1 97), (vI 1), (vX 1 110), (vI 1)] 2), (1352, bM [] 0),
  (1353, bC [(vP 1378 0),
  (vL 1364 0 1), (vM 1369)] 0),
  (1362, bO [(vX 1 97), (vI 1), (vX 1 99), (vI 1)] 2), (1364, bO [(vX 1 117), (vL 1362 0 2)] 2), (1367, bO [(vX 1 117), .nilslice] 2), (1369, bM [((vX 1 117), .nilslice, 0)] 1), (1378, bC [(vI 7), (vX 0 0), .nilslice, .nilslice, (vL 901 0 1), .nilslice, (vL 908 0 1), (vL 917 0 1), (vL 1351 0 2), (vL 1381 0 1), (vL 1320 0 1), .nilslice, (vP 1383 0), .nilptr, .nilptr] 0),
  (1379, bC [(vI 1), (vX 1 117), .nilslice, .nilslice, .nilslice, .nilslice, .nilslice, .nilslice, (vL 1316 0 2), .nilslice, .nilslice, .nilslice, .nilptr, .nilptr, .nilptr] 0),
  (1381, bO [(vP 1379 0)] 1), (1382, bM [] 0),
  (1383, bC [(vL 1336 0 1), (vL 1342 0 1), (vM 1382)] 0)], 1388⟩
noncomputable def s1 : Ent := ⟨68, [(vP 2697 0), (vL 2711 0 1)],
  [(2261, bO [(vX 1 110), (vX 3 7173491), (vX 1 99)] 3), (2270, bO [(vI 1), (vX 1 117), .nilslice, .nilslice, .nilslice, .nilslice, .nilslice, .nilslice] 8), (2660, bC [(vI 7), (vX 0 0), .nilslice, .nilslice, .nilslice, .nilslice, (vL 2261 0 1), (vL 2270 0 1), (vL 2695 0 1), (vL 2668 0 1), (vL 2670 0 1), .nilslice, (vP 2682 0), .nilptr, .nilptr] 0),
  (2663, bC [(vI 1), (vX 1 117), .nilslice, .nilslice, .nilslice, .nilslice, .nilslice, .nilslice, (vL 2666 0 2), .nilslice, .nilslice, .nilslice, .nilptr, .nilptr, .nilptr] 0),
  (2666, bO [(vX 1 97), (vI 1), (vX 1 99), (vI 1)] 2), (2668, bO [(vP 2663 0)] 1), (2670, bO [(vL 2666 0 2)] 1), (2681, bM [] 0),
  (2682, bC [.nilslice, (vL 2687 0 1), (vM 2681)] 0),
  (2687, bO [(vX 3 7173491), (vI 1)] 2), (2695, bO [(vX 1 110), (vI 1)] 2), (2696, bM [] 0),
  (2697, bC [(vP 2660 0),
  (vL 2708 0 1), (vM 2696)] 0),
  (2706, bO [(vX 1 97), (vI 1), (vX 1 99), (vI 1)] 2), (2708, bO [(vX 1 117), (vL 2706 0 2)] 2), (2711, bO [(vX 1 117), .nilslice] 2)],
  2712, (.tuple [.nilslice, (vI 0)]),
  [(2261, bO [(vX 1 110), (vX 3 7173491), (vX 1 99)] 3), (2270, bO [(vI 1), (vX 1 117), .nilslice, .nilslice, .nilslice, .nilslice, .nilslice, .nilslice] 8), (2660, bC [(vI 7), (vX 0 0), .nilslice, .nilslice, .nilslice, .nilslice, (vL 2261 0 1), (vL 2270 0 1), (vL 2695 0 1), (vL 2668 0 1), (vL 2670 0 1), .nilslice, (vP 2682 0), .nilptr, .nilptr] 0),
  (2663, bC [(vI 1), (vX 1 117), .nilslice, .nilslice, .nilslice, .nilslice, .nilslice, .nilslice, (vL 2666 0 2), .nilslice, .nilslice, .nilslice, .nilptr, .nilptr, .nilptr] 0),
  (2666, bO [(vX 1 97), (vI 1), (vX 1 99), (vI 1)] 2), (2668, bO [(vP 2663 0)] 1), (2670, bO [(vL 2666 0 2)] 1), (2681, bM [] 0),
  (2682, bC [.nilslice, (vL 2687 0 1), (vM 2681)] 0),
  (2687, bO [(vX 3 7173491), (vI 1)] 2), (2695, bO [(vX 1 110), (vI 1)] 2), (2696, bM [] 0),
  (2697, bC [(vP 2722 0),
  (vL 2708 0 1), (vM 2713)] 0),
  (2706, bO [(vX 1 97), (vI 1), (vX 1 99), (vI 1)] 2), (2708, bO [(vX 1 117), (vL 2706 0 2)] 2), (2711, bO [(vX 1 117), .nilslice] 2), (2713, bM [((vX 1 117), .nilslice, 0)] 1), (2722, bC [(vI 7), (vX 0 0), .nilslice, .nilslice, .nilslice, .nilslice, (vL 2261 0 1), (vL 2270 0 1), (vL 2695 0 1), (vL 2725 0 1), (vL 2670 0 1), .nilslice, (vP 2727 0), .nilptr, .nilptr] 0),
  (2723, bC [(vI 1), (vX 1 117), .nilslice, .nilslice, .nilslice, .nilslice, .nilslice, .nilslice, (vL 2666 0 2), .nilslice, .nilslice, .nilslice, .nilptr, .nilptr, .nilptr] 0),
  (2725, bO [(vP 2723 0)] 1), (2726, bM [] 0),
  (2727, bC [.nilslice, (vL 2687 0 1), (vM 2726)] 0)], 2732⟩
theorem s0_chk : entChkM Tryz.prog BP MO 1000000 200 s0 = true := by decide +kernel
theorem s1_chk : entChkM Tryz.prog BP MO 1000000 200 s1 = true := by decide +kernel
end Go.Proofs.YtchkcnecgfolmaaGreatDoor.Ev
