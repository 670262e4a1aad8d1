/-
  The run in the large: entries of TopOver's run. No condition of ours.
-/
import Derived.Test.YtchkcnecgfolmaaGreatDoorTopPlans
namespace Go.Proofs.YtchkcnecgfolmaaGreatDoor.Ev
open Go Go.Proofs
set_option maxRecDepth 1000000
set_option linter.unusedVariables false
set_option linter.unusedSectionVars false
noncomputable def s2 : Ent := ⟨68, [(vP 3266 0), (vL 2879 0 1)],
  [(901, bO [(vX 1 97)] 1), (908, bO [(vX 1 110), (vX 5 500069396323), (vX 0 0)] 3), (917, bO [(vI 1), (vX 1 117), .nilslice, .nilslice, .nilslice, .nilslice, .nilslice, .nilslice] 8), (1316, bO [(vX 1 97), (vI 1), (vX 1 99), (vI 1)] 2), (1320, bO [(vL 1316 0 2)] 1), (1336, bO [(vI 0)] 1), (1342, bO [(vX 5 500069396323), (vI 0)] 2), (1351, bO [(vX 1 97), (vI 1), (vX 1 110), (vI 1)] 2), (1362, bO [(vX 1 97), (vI 1), (vX 1 99), (vI 1)] 2), (1364, bO [(vX 1 117), (vL 1362 0 2)] 2), (1369, bM [((vX 1 117), .nilslice, 0)] 1), (1378, bC [(vI 7), (vX 0 0), .nilslice, .nilslice, (vL 901 0 1), .nilslice, (vL 908 0 1), (vL 917 0 1), (vL 1351 0 2), (vL 1381 0 1), (vL 1320 0 1), .nilslice, (vP 1383 0), .nilptr, .nilptr] 0),
  (1379, bC [(vI 1), (vX 1 117), .nilslice, .nilslice, .nilslice, .nilslice, .nilslice, .nilslice, (vL 1316 0 2), .nilslice, .nilslice, .nilslice, .nilptr, .nilptr, .nilptr] 0),
  (1381, bO [(vP 1379 0)] 1), (1382, bM [] 0),
  (1383, bC [(vL 1336 0 1), (vL 1342 0 1), (vM 1382)] 0),
  (2875, bO [(vI 1), (vI 1), (vX 0 0),
  (vI 1), (.sint .i64 (.ofNat 9223372036854775807) (.negSucc 0) (.ofNat 0)), (vX 0 0)] 3), (2877, bO [(vL 2875 0 2), (.cplx .f64 4607182418800017408 0)] 2), (2879, bO [(vX 1 117), (vL 2877 0 1)] 2), (3266, bC [(vP 1378 0),
  (vL 1364 0 1), (vM 1369)] 0)],
  3267, (.tuple [(vL 3496 0 1), (vI 0)]),
  [(901, bO [(vX 1 97)] 1), (908, bO [(vX 1 110), (vX 5 500069396323), (vX 0 0)] 3), (917, bO [(vI 1), (vX 1 117), .nilslice, .nilslice, .nilslice, .nilslice, .nilslice, .nilslice] 8), (1316, bO [(vX 1 97), (vI 1), (vX 1 99), (vI 1)] 2), (1320, bO [(vL 1316 0 2)] 1), (1336, bO [(vI 0)] 1), (1342, bO [(vX 5 500069396323), (vI 0)] 2), (1351, bO [(vX 1 97), (vI 1), (vX 1 110), (vI 1)] 2), (1362, bO [(vX 1 97), (vI 1), (vX 1 99), (vI 1)] 2), (1364, bO [(vX 1 117), (vL 1362 0 2)] 2), (1369, bM [((vX 1 117), .nilslice, 0)] 1), (1378, bC [(vI 7), (vX 0 0), .nilslice, .nilslice, (vL 901 0 1), .nilslice, (vL 908 0 1), (vL 917 0 1), (vL 1351 0 2), (vL 1381 0 1), (vL 1320 0 1), .nilslice, (vP 1383 0), .nilptr, .nilptr] 0),
  (1379, bC [(vI 1), (vX 1 117), .nilslice, .nilslice, .nilslice, .nilslice, .nilslice, .nilslice, (vL 1316 0 2), .nilslice, .nilslice, .nilslice, .nilptr, .nilptr, .nilptr] 0),
  (1381, bO [(vP 1379 0)] 1), (1382, bM [] 0),
  (1383, bC [(vL 1336 0 1), (vL 1342 0 1), (vM 1382)] 0),
  (2875, bO [(vI 1), (vI 1), (vX 0 0),
  (vI 1), (.sint .i64 (.ofNat 9223372036854775807) (.negSucc 0) (.ofNat 0)), (vX 0 0)] 3), (2877, bO [(vL 2875 0 2), (.cplx .f64 4607182418800017408 0)] 2), (2879, bO [(vX 1 117), (vL 2877 0 1)] 2), (3266, bC [(vP 3383 0),
  (vL 1364 0 1), (vM 3268)] 0),
  (3268, bM [((vX 1 117), (vL 3330 0 1), 0)] 1), (3328, bO [(vI 1), (vI 1), (vX 0 0),
  (vI 1), (.sint .i64 (.ofNat 9223372036854775807) (.negSucc 0) (.ofNat 0)), (vX 0 0)] 3), (3330, bO [(vL 3328 0 2), (.cplx .f64 4607182418800017408 0)] 2), (3383, bC [(vI 7), (vX 0 0), .nilslice, .nilslice, (vL 901 0 1), .nilslice, (vL 908 0 1), (vL 917 0 1), (vL 1351 0 2), (vL 3386 0 1), (vL 1320 0 1), (vL 3489 0 1), (vP 3388 0), .nilptr, .nilptr] 0),
  (3384, bC [(vI 1), (vX 1 117), .nilslice, .nilslice, .nilslice, .nilslice, .nilslice, .nilslice, (vL 1316 0 2), .nilslice, .nilslice, (vL 3434 0 1), .nilptr, .nilptr, .nilptr] 0),
  (3386, bO [(vP 3384 0)] 1), (3387, bM [((vX 10 65793), (.agg [(vL 3440 0 1), (vL 3441 0 1), (vL 3443 0 2)]), 0)] 1), (3388, bC [(vL 1336 0 1), (vL 1342 0 1), (vM 3387)] 0),
  (3432, bO [(vI 1), (vI 1), (vX 0 0),
  (vI 1), (.sint .i64 (.ofNat 9223372036854775807) (.negSucc 0) (.ofNat 0)), (vX 0 0)] 3), (3434, bO [(vL 3432 0 2), (.cplx .f64 4607182418800017408 0)] 2), (3440, bO [(vI 1), (vI 1), (vX 0 0)] 3), (3441, bO [(vL 3442 0 2), (.cplx .f64 4607182418800017408 0)] 2), (3442, bO [(vI 1), (vI 1), (vX 0 0),
  (vI 1), (.sint .i64 (.ofNat 9223372036854775807) (.negSucc 0) (.ofNat 0)), (vX 0 0)] 3), (3443, bO [(vI 1), (vI 1), (vX 0 0),
  (vI 1), (vI 1), (vX 0 0)] 3), (3487, bO [(vI 1), (vI 1), (vX 0 0),
  (vI 1), (vI 1), (vX 0 0)] 3), (3489, bO [(vL 3487 0 2), (.cplx .f64 4607182418800017408 0)] 2), (3494, bO [(vI 1), (vI 1), (vX 0 0),
  (vI 1), (vI 1), (vX 0 0)] 3), (3496, bO [(vL 3494 0 2), (.cplx .f64 4607182418800017408 0)] 2)], 3497⟩
noncomputable def s3 : Ent := ⟨68, [(vP 3505 0), (vL 2879 0 1)],
  [(2261, bO [(vX 1 110), (vX 3 7173491), (vX 1 99)] 3), (2270, bO [(vI 1), (vX 1 117), .nilslice, .nilslice, .nilslice, .nilslice, .nilslice, .nilslice] 8), (2666, bO [(vX 1 97), (vI 1), (vX 1 99), (vI 1)] 2), (2670, bO [(vL 2666 0 2)] 1), (2687, bO [(vX 3 7173491), (vI 1)] 2), (2695, bO [(vX 1 110), (vI 1)] 2), (2706, bO [(vX 1 97), (vI 1), (vX 1 99), (vI 1)] 2), (2708, bO [(vX 1 117), (vL 2706 0 2)] 2), (2713, bM [((vX 1 117), .nilslice, 0)] 1), (2722, bC [(vI 7), (vX 0 0), .nilslice, .nilslice, .nilslice, .nilslice, (vL 2261 0 1), (vL 2270 0 1), (vL 2695 0 1), (vL 2725 0 1), (vL 2670 0 1), .nilslice, (vP 2727 0), .nilptr, .nilptr] 0),
  (2723, bC [(vI 1), (vX 1 117), .nilslice, .nilslice, .nilslice, .nilslice, .nilslice, .nilslice, (vL 2666 0 2), .nilslice, .nilslice, .nilslice, .nilptr, .nilptr, .nilptr] 0),
  (2725, bO [(vP 2723 0)] 1), (2726, bM [] 0),
  (2727, bC [.nilslice, (vL 2687 0 1), (vM 2726)] 0),
  (2875, bO [(vI 1), (vI 1), (vX 0 0),
  (vI 1), (.sint .i64 (.ofNat 9223372036854775807) (.negSucc 0) (.ofNat 0)), (vX 0 0)] 3), (2877, bO [(vL 2875 0 2), (.cplx .f64 4607182418800017408 0)] 2), (2879, bO [(vX 1 117), (vL 2877 0 1)] 2), (3505, bC [(vP 2722 0),
  (vL 2708 0 1), (vM 2713)] 0)],
  3506, (.tuple [(vL 3717 0 1), (vI 0)]),
  [(2261, bO [(vX 1 110), (vX 3 7173491), (vX 1 99)] 3), (2270, bO [(vI 1), (vX 1 117), .nilslice, .nilslice, .nilslice, .nilslice, .nilslice, .nilslice] 8), (2666, bO [(vX 1 97), (vI 1), (vX 1 99), (vI 1)] 2), (2670, bO [(vL 2666 0 2)] 1), (2687, bO [(vX 3 7173491), (vI 1)] 2), (2695, bO [(vX 1 110), (vI 1)] 2), (2706, bO [(vX 1 97), (vI 1), (vX 1 99), (vI 1)] 2), (2708, bO [(vX 1 117), (vL 2706 0 2)] 2), (2713, bM [((vX 1 117), .nilslice, 0)] 1), (2722, bC [(vI 7), (vX 0 0), .nilslice, .nilslice, .nilslice, .nilslice, (vL 2261 0 1), (vL 2270 0 1), (vL 2695 0 1), (vL 2725 0 1), (vL 2670 0 1), .nilslice, (vP 2727 0), .nilptr, .nilptr] 0),
  (2723, bC [(vI 1), (vX 1 117), .nilslice, .nilslice, .nilslice, .nilslice, .nilslice, .nilslice, (vL 2666 0 2), .nilslice, .nilslice, .nilslice, .nilptr, .nilptr, .nilptr] 0),
  (2725, bO [(vP 2723 0)] 1), (2726, bM [] 0),
  (2727, bC [.nilslice, (vL 2687 0 1), (vM 2726)] 0),
  (2875, bO [(vI 1), (vI 1), (vX 0 0),
  (vI 1), (.sint .i64 (.ofNat 9223372036854775807) (.negSucc 0) (.ofNat 0)), (vX 0 0)] 3), (2877, bO [(vL 2875 0 2), (.cplx .f64 4607182418800017408 0)] 2), (2879, bO [(vX 1 117), (vL 2877 0 1)] 2), (3505, bC [(vP 3622 0),
  (vL 2708 0 1), (vM 3507)] 0),
  (3507, bM [((vX 1 117), (vL 3569 0 1), 0)] 1), (3567, bO [(vI 1), (vI 1), (vX 0 0),
  (vI 1), (.sint .i64 (.ofNat 9223372036854775807) (.negSucc 0) (.ofNat 0)), (vX 0 0)] 3), (3569, bO [(vL 3567 0 2), (.cplx .f64 4607182418800017408 0)] 2), (3622, bC [(vI 7), (vX 0 0), .nilslice, .nilslice, .nilslice, .nilslice, (vL 2261 0 1), (vL 2270 0 1), (vL 2695 0 1), (vL 3625 0 1), (vL 2670 0 1), (vL 3710 0 1), (vP 3627 0), .nilptr, .nilptr] 0),
  (3623, bC [(vI 1), (vX 1 117), .nilslice, .nilslice, .nilslice, .nilslice, .nilslice, .nilslice, (vL 2666 0 2), .nilslice, .nilslice, (vL 3673 0 1), .nilptr, .nilptr, .nilptr] 0),
  (3625, bO [(vP 3623 0)] 1), (3626, bM [((vX 1 0),
  (.agg [(vL 3679 0 0),
  (vL 3680 0 1), (vL 3682 0 1)]), 0)] 1), (3627, bC [.nilslice, (vL 2687 0 1), (vM 3626)] 0),
  (3671, bO [(vI 1), (vI 1), (vX 0 0),
  (vI 1), (.sint .i64 (.ofNat 9223372036854775807) (.negSucc 0) (.ofNat 0)), (vX 0 0)] 3), (3673, bO [(vL 3671 0 2), (.cplx .f64 4607182418800017408 0)] 2), (3679, bC [] 3), (3680, bO [(vL 3681 0 2), (.cplx .f64 4607182418800017408 0)] 2), (3681, bO [(vI 1), (vI 1), (vX 0 0),
  (vI 1), (.sint .i64 (.ofNat 9223372036854775807) (.negSucc 0) (.ofNat 0)), (vX 0 0)] 3), (3682, bO [(vI 1), (.sint .i64 (.ofNat 9223372036854775807) (.negSucc 0) (.ofNat 0)), (vX 0 0)] 3), (3708, bO [(vI 1), (.sint .i64 (.ofNat 9223372036854775807) (.negSucc 0) (.ofNat 0)), (vX 0 0)] 3), (3710, bO [(vL 3708 0 1), (.cplx .f64 4607182418800017408 0)] 2), (3715, bO [(vI 1), (.sint .i64 (.ofNat 9223372036854775807) (.negSucc 0) (.ofNat 0)), (vX 0 0)] 3), (3717, bO [(vL 3715 0 1), (.cplx .f64 4607182418800017408 0)] 2)], 3718⟩
theorem s2_chk : entChkM Tryz.prog BP MO 1000000 200 s2 = true := by decide +kernel
theorem s3_chk : entChkM Tryz.prog BP MO 1000000 200 s3 = true := by decide +kernel
end Go.Proofs.YtchkcnecgfolmaaGreatDoor.Ev
