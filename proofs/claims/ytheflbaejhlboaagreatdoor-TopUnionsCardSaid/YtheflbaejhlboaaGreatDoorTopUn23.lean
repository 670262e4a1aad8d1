/- A part of the proof of a law of package confluencetop: lemmas, no condition of ours. -/
import Derived.Shelf.SlIter.Sorted
import Derived.Shelf.SlIterI.Collect
import Derived.Shelf.SortM.Plain
import Derived.Shelf.SortM.SortNone
import Derived.Test.YtheflbaejhlboaaGreatDoorTopUn21
import Derived.Test.YtheflbaejhlboaaGreatDoorTopUn22
import Derived.Test.YtheflbaejhlboaaGreatDoorTopUn20
import Derived.Test.YtheflbaejhlboaaGreatDoorTopUn19
set_option linter.unusedVariables false
set_option linter.unusedSectionVars false
set_option linter.unusedSimpArgs false
namespace Go.Proofs.YtheflbaejhlboaaGreatDoor.Ev
open Go Go.Proofs Go.Shelf Go.Sort Go.Maps
set_option maxRecDepth 100000
variable [Sig]
def ZhE (n:Nat):FuncId:=match n with
 | 0=>0
 | 1=>1
 | 2=>2
 | 6=>410
 | 7=>411
 | 8=>488
 | 9=>109
 | 10=>489
 | 11=>554
 | 12=>168
 | 13=>89
 | 14=>273
 | 15=>274
 | 16=>275
 | 17=>276
 | 18=>277
 | 19=>278
 | 20=>279
 | 21=>280
 | 22=>281
 | 23=>147
 | 24=>148
 | 25=>390
 | 26=>221
 | 27=>222
 | 28=>391
 | 29=>392
 | 30=>90
 | 31=>479
 | 32=>637
 | 33=>638
 | 34=>639
 | 35=>640
 | 36=>641
 | 37=>642
 | 38=>643
 | 39=>644
 | 40=>645
 | 41=>646
 | 42=>647
 | 43=>648
 | 44=>649
 | 45=>650
 | 46=>651
 | 47=>668
 | _=>0
def ZhF (n:Nat):TypeId:=match n with
 | 0=>0
 | 1=>1
 | 2=>2
 | 3=>431
 | 4=>4
 | 5=>5
 | 6=>6
 | 7=>7
 | 8=>8
 | 9=>9
 | 10=>10
 | 11=>11
 | 12=>12
 | 13=>13
 | 14=>14
 | 15=>15
 | 16=>16
 | 17=>17
 | 18=>18
 | 19=>19
 | 20=>20
 | 21=>21
 | 23=>426
 | 24=>67
 | 25=>559
 | 26=>9
 | 27=>560
 | 28=>561
 | 29=>562
 | 32=>230
 | 33=>204
 | 34=>675
 | 35=>317
 | 36=>208
 | 37=>209
 | 38=>412
 | 39=>280
 | 40=>281
 | 41=>413
 | 42=>414
 | 43=>415
 | 44=>416
 | 45=>205
 | 46=>417
 | 47=>286
 | 48=>287
 | 49=>288
 | 50=>289
 | 51=>354
 | 52=>355
 | 53=>356
 | 54=>542
 | 55=>358
 | 56=>543
 | 57=>513
 | 58=>514
 | 59=>617
 | 60=>271
 | 61=>736
 | 62=>737
 | 63=>738
 | 64=>739
 | 65=>740
 | 66=>270
 | 67=>741
 | 68=>742
 | 69=>743
 | 70=>608
 | 71=>744
 | 72=>745
 | 73=>746
 | 74=>747
 | 75=>664
 | _=>0
def ZhG:Ren:=⟨ZhE,ZhF,fun x=>x⟩
theorem ZhH:SlLaysZ.n10 Tryz.prog ZhG where
 mixed:=by kernel_rfl
 f10:=⟨Tryz.f489.name,by kernel_rfl,by kernel_rfl⟩
 t0:=by kernel_rfl
 a0:=fun _=>by kernel_rfl
 z0:=fun _=>by kernel_rfl
 v0:=fun _=>by kernel_rfl
 t4:=by kernel_rfl
 a4:=fun _=>by kernel_rfl
 z4:=fun _=>by kernel_rfl
 v4:=fun _=>by kernel_rfl
 t23:=by kernel_rfl
 a23:=fun _=>by kernel_rfl
 z23:=fun _=>by kernel_rfl
 v23:=fun _=>by kernel_rfl
 t26:=by kernel_rfl
 a26:=fun _=>by kernel_rfl
 z26:=fun _=>by kernel_rfl
 v26:=fun _=>by kernel_rfl
 t33:=by kernel_rfl
 a33:=fun _=>by kernel_rfl
 z33:=fun _=>by kernel_rfl
 v33:=fun _=>by kernel_rfl
def ZhI (n:Nat):FuncId:=match n with
 | 0=>0
 | 1=>1
 | 2=>2
 | 6=>410
 | 8=>488
 | 9=>109
 | 11=>554
 | 12=>168
 | 13=>89
 | 14=>273
 | 15=>274
 | 16=>275
 | 17=>276
 | 18=>277
 | 19=>278
 | 20=>279
 | 21=>280
 | 22=>281
 | 23=>147
 | 24=>148
 | 25=>390
 | 26=>221
 | 27=>222
 | 28=>391
 | 29=>392
 | 30=>90
 | 31=>479
 | 32=>637
 | 33=>638
 | 34=>639
 | 35=>640
 | 36=>641
 | 37=>642
 | 38=>643
 | 39=>644
 | 40=>645
 | 41=>646
 | 42=>647
 | 43=>648
 | 44=>649
 | 45=>650
 | 46=>651
 | 47=>668
 | _=>0
def ZhJ (n:Nat):TypeId:=match n with
 | 0=>0
 | 1=>1
 | 2=>2
 | 3=>3
 | 4=>4
 | 5=>5
 | 6=>6
 | 7=>7
 | 8=>8
 | 9=>9
 | 10=>10
 | 11=>11
 | 12=>12
 | 13=>13
 | 14=>14
 | 15=>15
 | 16=>16
 | 17=>17
 | 18=>18
 | 19=>19
 | 20=>20
 | 21=>21
 | 24=>67
 | 25=>559
 | 26=>9
 | 27=>560
 | 28=>561
 | 32=>230
 | 33=>204
 | 34=>675
 | 35=>317
 | 36=>208
 | 37=>209
 | 38=>412
 | 39=>280
 | 40=>281
 | 41=>413
 | 42=>414
 | 43=>415
 | 44=>416
 | 45=>205
 | 46=>417
 | 47=>286
 | 48=>287
 | 49=>288
 | 50=>289
 | 51=>354
 | 52=>355
 | 53=>356
 | 54=>542
 | 55=>358
 | 56=>543
 | 57=>513
 | 58=>514
 | 59=>617
 | 60=>271
 | 61=>736
 | 62=>737
 | 63=>738
 | 64=>739
 | 65=>740
 | 66=>270
 | 67=>741
 | 68=>742
 | 69=>743
 | 70=>608
 | 71=>744
 | 72=>745
 | 73=>746
 | 74=>747
 | 75=>664
 | _=>0
def ZhK:Ren:=⟨ZhI,ZhJ,fun x=>x⟩
theorem ZhL:SlLaysZ.n6 Tryz.prog ZhK where
 mixed:=by kernel_rfl
 f6:=⟨Tryz.f410.name,by kernel_rfl,by kernel_rfl⟩
 f8:=⟨Tryz.f488.name,by kernel_rfl,by kernel_rfl⟩
 f11:=⟨Tryz.f554.name,by kernel_rfl,by kernel_rfl⟩
 t0:=by kernel_rfl
 a0:=fun _=>by kernel_rfl
 z0:=fun _=>by kernel_rfl
 v0:=fun _=>by kernel_rfl
 t24:=by kernel_rfl
 a24:=fun _=>by kernel_rfl
 z24:=fun _=>by kernel_rfl
 v24:=fun _=>by kernel_rfl
 t26:=by kernel_rfl
 a26:=fun _=>by kernel_rfl
 z26:=fun _=>by kernel_rfl
 v26:=fun _=>by kernel_rfl
 t28:=by kernel_rfl
 a28:=fun _=>by kernel_rfl
 z28:=fun _=>by kernel_rfl
 v28:=fun _=>by kernel_rfl
 i26:=by kernel_rfl
def ZhM (n:Nat):FuncId:=match n with
 | 0=>0
 | 1=>1
 | 2=>2
 | 6=>109
 | 8=>89
 | 9=>168
 | 19=>147
 | 20=>148
 | 21=>273
 | 22=>274
 | 23=>275
 | 24=>276
 | 25=>277
 | 26=>278
 | 27=>279
 | 28=>280
 | 29=>281
 | 31=>221
 | 32=>222
 | 36=>390
 | 37=>391
 | 38=>392
 | 39=>90
 | 41=>479
 | 42=>637
 | 43=>638
 | 44=>639
 | 45=>640
 | 46=>641
 | 47=>642
 | 48=>643
 | 49=>644
 | 50=>645
 | 51=>646
 | 52=>647
 | 53=>648
 | 54=>649
 | 55=>650
 | 56=>651
 | 57=>668
 | _=>0
def ZhN (n:Nat):TypeId:=match n with
 | 0=>0
 | 1=>1
 | 2=>2
 | 3=>3
 | 4=>4
 | 5=>5
 | 6=>6
 | 7=>7
 | 8=>8
 | 9=>9
 | 10=>10
 | 11=>11
 | 12=>12
 | 13=>13
 | 14=>14
 | 15=>15
 | 16=>16
 | 17=>17
 | 18=>18
 | 19=>19
 | 20=>20
 | 21=>21
 | 26=>67
 | 27=>67
 | 28=>230
 | 29=>9
 | 31=>208
 | 32=>209
 | 33=>317
 | 35=>280
 | 36=>281
 | 41=>205
 | 43=>286
 | 44=>287
 | 45=>288
 | 46=>289
 | 47=>412
 | 48=>413
 | 49=>414
 | 50=>415
 | 51=>416
 | 52=>417
 | 53=>354
 | 54=>355
 | 55=>356
 | 57=>358
 | 60=>542
 | 61=>543
 | 62=>204
 | 63=>513
 | 64=>514
 | 66=>617
 | 67=>271
 | 68=>736
 | 69=>737
 | 70=>738
 | 71=>739
 | 72=>740
 | 73=>270
 | 74=>741
 | 75=>742
 | 76=>743
 | 77=>608
 | 78=>744
 | 79=>745
 | 80=>746
 | 81=>747
 | 82=>664
 | _=>0
def ZiI:Ren:=⟨ZhM,ZhN,fun x=>x⟩
theorem ZeB:SlLaysM.n6 Tryz.prog ZiI where
 mixed:=by kernel_rfl
 f6:=⟨Tryz.f109.name,by kernel_rfl,by kernel_rfl⟩
 f8:=by kernel_rfl
 f9:=⟨Tryz.f168.name,by kernel_rfl,by kernel_rfl⟩
 f19:=by kernel_rfl
 f20:=by kernel_rfl
 f21:=⟨Tryz.f273.name,by kernel_rfl,by kernel_rfl⟩
 f22:=⟨Tryz.f274.name,by kernel_rfl,by kernel_rfl⟩
 f23:=⟨Tryz.f275.name,by kernel_rfl,by kernel_rfl⟩
 f24:=⟨Tryz.f276.name,by kernel_rfl,by kernel_rfl⟩
 f25:=⟨Tryz.f277.name,by kernel_rfl,by kernel_rfl⟩
 f26:=⟨Tryz.f278.name,by kernel_rfl,by kernel_rfl⟩
 f27:=⟨Tryz.f279.name,by kernel_rfl,by kernel_rfl⟩
 f28:=⟨Tryz.f280.name,by kernel_rfl,by kernel_rfl⟩
 f29:=⟨Tryz.f281.name,by kernel_rfl,by kernel_rfl⟩
 f31:=by kernel_rfl
 f32:=by kernel_rfl
 f36:=⟨Tryz.f390.name,by kernel_rfl,by kernel_rfl⟩
 f37:=⟨Tryz.f391.name,by kernel_rfl,by kernel_rfl⟩
 f38:=⟨Tryz.f392.name,by kernel_rfl,by kernel_rfl⟩
 f39:=⟨Tryz.f90.name,by kernel_rfl,by kernel_rfl⟩
 f41:=⟨Tryz.f479.name,by kernel_rfl,by kernel_rfl⟩
 t0:=by kernel_rfl
 a0:=fun _=>by kernel_rfl
 z0:=fun _=>by kernel_rfl
 v0:=fun _=>by kernel_rfl
 t3:=by kernel_rfl
 a3:=fun _=>by kernel_rfl
 z3:=fun _=>by kernel_rfl
 v3:=fun _=>by kernel_rfl
 t4:=by kernel_rfl
 a4:=fun _=>by kernel_rfl
 z4:=fun _=>by kernel_rfl
 v4:=fun _=>by kernel_rfl
 t5:=by kernel_rfl
 a5:=fun _=>by kernel_rfl
 z5:=fun _=>by kernel_rfl
 v5:=fun _=>by kernel_rfl
 t9:=by kernel_rfl
 a9:=fun _=>by kernel_rfl
 z9:=fun _=>by kernel_rfl
 v9:=fun _=>by kernel_rfl
 t26:=by kernel_rfl
 a26:=fun _=>by kernel_rfl
 z26:=fun _=>by kernel_rfl
 v26:=fun _=>by kernel_rfl
 t27:=by kernel_rfl
 a27:=fun _=>by kernel_rfl
 z27:=fun _=>by kernel_rfl
 v27:=fun _=>by kernel_rfl
 t29:=by kernel_rfl
 a29:=fun _=>by kernel_rfl
 z29:=fun _=>by kernel_rfl
 v29:=fun _=>by kernel_rfl
 t32:=by kernel_rfl
 a32:=fun _=>by kernel_rfl
 z32:=fun _=>by kernel_rfl
 v32:=fun _=>by kernel_rfl
 t35:=by kernel_rfl
 a35:=fun _=>by kernel_rfl
 z35:=fun _=>by kernel_rfl
 v35:=fun _=>by kernel_rfl
 t36:=by kernel_rfl
 a36:=fun _=>by kernel_rfl
 z36:=fun _=>by kernel_rfl
 v36:=fun _=>by kernel_rfl
 t41:=by kernel_rfl
 a41:=fun _=>by kernel_rfl
 z41:=fun _=>by kernel_rfl
 v41:=fun _=>by kernel_rfl
 t44:=by kernel_rfl
 a44:=fun _=>by kernel_rfl
 z44:=fun _=>by kernel_rfl
 v44:=fun _=>by kernel_rfl
 t46:=by kernel_rfl
 a46:=fun _=>by kernel_rfl
 z46:=fun _=>by kernel_rfl
 v46:=fun _=>by kernel_rfl
 t53:=by kernel_rfl
 a53:=fun _=>by kernel_rfl
 z53:=fun _=>by kernel_rfl
 v53:=fun _=>by kernel_rfl
 t57:=by kernel_rfl
 a57:=fun _=>by kernel_rfl
 z57:=fun _=>by kernel_rfl
 v57:=fun _=>by kernel_rfl
 t63:=by kernel_rfl
 a63:=fun _=>by kernel_rfl
 z63:=fun _=>by kernel_rfl
 v63:=fun _=>by kernel_rfl
 t64:=by kernel_rfl
 a64:=fun _=>by kernel_rfl
 z64:=fun _=>by kernel_rfl
 v64:=fun _=>by kernel_rfl
def ZfG (n:Nat):FuncId:=match n with
 | 0=>0
 | 1=>1
 | 2=>2
 | 6=>577
 | 7=>578
 | 8=>606
 | 9=>607
 | 10=>608
 | 11=>619
 | 12=>620
 | 13=>89
 | 14=>624
 | 15=>625
 | 16=>626
 | 17=>627
 | 18=>628
 | 19=>629
 | 20=>630
 | 21=>631
 | 22=>632
 | 23=>147
 | 24=>148
 | 25=>633
 | 26=>221
 | 27=>222
 | 28=>634
 | 29=>635
 | 30=>595
 | 31=>636
 | 32=>637
 | 33=>638
 | 34=>639
 | 35=>640
 | 36=>641
 | 37=>642
 | 38=>643
 | 39=>644
 | 40=>645
 | 41=>646
 | 42=>647
 | 43=>648
 | 44=>649
 | 45=>650
 | 46=>651
 | 47=>668
 | _=>0
def ZfH (n:Nat):TypeId:=match n with
 | 0=>0
 | 1=>1
 | 2=>2
 | 3=>3
 | 4=>4
 | 5=>5
 | 6=>6
 | 7=>7
 | 8=>8
 | 9=>9
 | 10=>10
 | 11=>11
 | 12=>12
 | 13=>13
 | 14=>14
 | 15=>15
 | 16=>16
 | 17=>17
 | 18=>18
 | 19=>19
 | 20=>20
 | 21=>21
 | 22=>258
 | 23=>258
 | 24=>134
 | 25=>691
 | 26=>3
 | 27=>692
 | 28=>693
 | 29=>694
 | 32=>710
 | 33=>269
 | 34=>721
 | 35=>722
 | 36=>208
 | 37=>209
 | 38=>728
 | 39=>280
 | 40=>281
 | 41=>729
 | 42=>730
 | 43=>51
 | 44=>731
 | 45=>205
 | 46=>732
 | 47=>286
 | 48=>287
 | 49=>288
 | 50=>289
 | 51=>354
 | 52=>355
 | 53=>356
 | 54=>733
 | 55=>358
 | 56=>734
 | 57=>513
 | 58=>514
 | 59=>735
 | 60=>271
 | 61=>736
 | 62=>737
 | 63=>738
 | 64=>739
 | 65=>740
 | 66=>270
 | 67=>741
 | 68=>742
 | 69=>743
 | 70=>608
 | 71=>744
 | 72=>745
 | 73=>746
 | 74=>747
 | 75=>664
 | _=>0
def ZeC:Ren:=⟨ZfG,ZfH,fun x=>x⟩
theorem ZfI:SlLaysZI.n10 Tryz.prog ZeC where
 mixed:=by kernel_rfl
 f10:=⟨Tryz.f608.name,by kernel_rfl,by kernel_rfl⟩
 t0:=by kernel_rfl
 a0:=fun _=>by kernel_rfl
 z0:=fun _=>by kernel_rfl
 v0:=fun _=>by kernel_rfl
 t4:=by kernel_rfl
 a4:=fun _=>by kernel_rfl
 z4:=fun _=>by kernel_rfl
 v4:=fun _=>by kernel_rfl
 t23:=by kernel_rfl
 a23:=fun _=>by kernel_rfl
 z23:=fun _=>by kernel_rfl
 v23:=fun _=>by kernel_rfl
 t26:=by kernel_rfl
 a26:=fun _=>by kernel_rfl
 z26:=fun _=>by kernel_rfl
 v26:=fun _=>by kernel_rfl
 t33:=by kernel_rfl
 a33:=fun _=>by kernel_rfl
 z33:=fun _=>by kernel_rfl
 v33:=fun _=>by kernel_rfl
def ZfJ (n:Nat):FuncId:=match n with
 | 0=>0
 | 1=>1
 | 2=>2
 | 6=>577
 | 8=>606
 | 9=>607
 | 11=>619
 | 12=>620
 | 13=>89
 | 14=>624
 | 15=>625
 | 16=>626
 | 17=>627
 | 18=>628
 | 19=>629
 | 20=>630
 | 21=>631
 | 22=>632
 | 23=>147
 | 24=>148
 | 25=>633
 | 26=>221
 | 27=>222
 | 28=>634
 | 29=>635
 | 30=>595
 | 31=>636
 | 32=>637
 | 33=>638
 | 34=>639
 | 35=>640
 | 36=>641
 | 37=>642
 | 38=>643
 | 39=>644
 | 40=>645
 | 41=>646
 | 42=>647
 | 43=>648
 | 44=>649
 | 45=>650
 | 46=>651
 | 47=>668
 | _=>0
def ZfK (n:Nat):TypeId:=match n with
 | 0=>0
 | 1=>1
 | 2=>2
 | 3=>3
 | 4=>4
 | 5=>5
 | 6=>6
 | 7=>7
 | 8=>8
 | 9=>9
 | 10=>10
 | 11=>11
 | 12=>12
 | 13=>13
 | 14=>14
 | 15=>15
 | 16=>16
 | 17=>17
 | 18=>18
 | 19=>19
 | 20=>20
 | 21=>21
 | 22=>258
 | 24=>134
 | 25=>691
 | 26=>3
 | 27=>692
 | 28=>693
 | 32=>710
 | 33=>269
 | 34=>721
 | 35=>722
 | 36=>208
 | 37=>209
 | 38=>728
 | 39=>280
 | 40=>281
 | 41=>729
 | 42=>730
 | 43=>51
 | 44=>731
 | 45=>205
 | 46=>732
 | 47=>286
 | 48=>287
 | 49=>288
 | 50=>289
 | 51=>354
 | 52=>355
 | 53=>356
 | 54=>733
 | 55=>358
 | 56=>734
 | 57=>513
 | 58=>514
 | 59=>735
 | 60=>271
 | 61=>736
 | 62=>737
 | 63=>738
 | 64=>739
 | 65=>740
 | 66=>270
 | 67=>741
 | 68=>742
 | 69=>743
 | 70=>608
 | 71=>744
 | 72=>745
 | 73=>746
 | 74=>747
 | 75=>664
 | _=>0
def ZhO:Ren:=⟨ZfJ,ZfK,fun x=>x⟩
theorem ZfL:SlLaysZI.n8 Tryz.prog ZhO where
 mixed:=by kernel_rfl
 f8:=⟨Tryz.f606.name,by kernel_rfl,by kernel_rfl⟩
 f11:=⟨Tryz.f619.name,by kernel_rfl,by kernel_rfl⟩
 t0:=by kernel_rfl
 a0:=fun _=>by kernel_rfl
 z0:=fun _=>by kernel_rfl
 v0:=fun _=>by kernel_rfl
 t24:=by kernel_rfl
 a24:=fun _=>by kernel_rfl
 z24:=fun _=>by kernel_rfl
 v24:=fun _=>by kernel_rfl
 t26:=by kernel_rfl
 a26:=fun _=>by kernel_rfl
 z26:=fun _=>by kernel_rfl
 v26:=fun _=>by kernel_rfl
 t28:=by kernel_rfl
 a28:=fun _=>by kernel_rfl
 z28:=fun _=>by kernel_rfl
 v28:=fun _=>by kernel_rfl
 i26:=by kernel_rfl
theorem Zbx (m:Nat):AnyZ.SortsIn Tryz.prog ZhK Fence.wide m :=
 ⟨fun blk off cap ss W hH hblk hsz=>callsIn_wide.2 (AnyM.slices_Sort_string ZeB blk off cap ss W hH hblk hsz),fun p cap W=>callsIn_wide.2 (AnyM.slices_Sort_string_none ZeB p cap W)⟩
theorem UL:Z4 Tryz.prog 410 (Sn 489):=by
 refine Hf Tryz.func410 (by kernel_rfl) rfl (k:=9) (by kernel_rfl) fun Bm m n D0 w hBm hm hown hsz => ?_
 have hseq:SeqGives Fence.wide 2 Tryz.prog 489 #[.pointer (some ⟨Bm,0,none⟩)] encStr (fun ss=>ss.Perm (strKeys D0)) (Maps.size D0) w :=
  AnyZ.keys_gives (ρ := ZhG) ZhH Fence.wide _ trivial rfl (by omega) Bm m n D0 w hBm hm hown
 exact callsIn_wide.1 (AnyZ.sorted_in ZhL Fence.wide 5 trivial trivial trivial trivial rfl (by omega) (Zbx _) (enters_of Tryz.func109 (by kernel_rfl) rfl) 489 #[.pointer (some ⟨Bm,0,none⟩)] trivial
  (enters_of Tryz.func489 (by kernel_rfl) rfl) _ (Maps.size D0) (Nat.le_trans hsz (by decide)) (by omega) w hseq)
theorem Zds:Z4 Tryz.prog 606 (Bl 608):=by
 refine D5 Tryz.func606 (by kernel_rfl) rfl (k:=3) (by kernel_rfl) fun Bm m n D0 w hBm hm hown hsz => ?_
 have hseq:SeqGives Fence.wide 2 Tryz.prog 608 #[.pointer (some ⟨Bm,0,none⟩)] encZ (fun ss=>ss.Perm (intKeys D0)) (Maps.size D0) w :=
  AnyZI.keys_gives (ρ := ZeC) ZfI Fence.wide _ trivial rfl (by omega) Bm m n D0 w hBm hm hown
 exact callsIn_wide.1 (AnyZI.collect_in ZfL Fence.wide 4 trivial trivial rfl (by omega) 608 #[.pointer (some ⟨Bm,0,none⟩)] trivial
  (enters_of Tryz.func608 (by kernel_rfl) rfl) _ (Maps.size D0) (Nat.le_trans hsz (by decide)) (by omega) w hseq)
end Go.Proofs.YtheflbaejhlboaaGreatDoor.Ev
namespace Go.Proofs.YtheflbaejhlboaaGreatDoor.Ev
open Go Go.Proofs
set_option maxRecDepth 100000
variable [Sig]
theorem ZfM:fnD (fnT.get 227)=Tryz.f227:=by kernel_rfl
theorem Zby:fnD (fnT.get 594)=Tryz.f594:=by kernel_rfl
theorem Zbz:fnD (fnT.get 593)=Tryz.f593:=by kernel_rfl
theorem ZbA:fnD (fnT.get 218)=Tryz.f218:=by kernel_rfl
theorem ZbB:KM 227 13=true:=by kernel_rfl
theorem Fs:∀ x∈OL,Z4 Tryz.prog x.1 x.2:=by
 intro x hx
 have hx:x∈[(NN.join,Za2),(NN.add,Zdb Tryz.prog ⟨NN.add,3,13,12,DY⟩ (KM NN.add) (fnD (fnT.get NN.add))),(NN.Za7,Sn NN.Za8),(NN.Za9,Bl NN.Zba),(NN.clone,Hc),(NN.Ff,W8 false (W7 Tryz.prog (fnD (fnT.get NN.Ff)))),
  (NN.Fg,W8 true (W7 Tryz.prog (fnD (fnT.get NN.Fg)))),(NN.Fh,W7 Tryz.prog (fnD (fnT.get NN.Fh))),(NN.Zbb,Zdj)]:=hx
 simp only [List.mem_cons,List.not_mem_nil,or_false] at hx
 rcases hx with rfl | rfl | rfl | rfl | rfl | rfl | rfl | rfl | rfl
 ·exact D2
 ·have h:=ZfF (KM 227) ZbB
  rw [← ZfM] at h
  exact h
 ·exact UL
 ·exact Zds
 ·exact Zbq
 ·have h:=Zbn
  rw [← Zby] at h
  exact h
 ·have h:=Zbo
  rw [← Zbz] at h
  exact h
 ·have h:=Zbp
  rw [← ZbA] at h
  exact h
 ·exact ZfE
theorem Tj {L:List (Nat×Orc)} (hL:∀ x∈L,Z4 Tryz.prog x.1 x.2):J9 Tryz.prog { fn:=fun f=>fnT.get f,Zi:=KM,reg:=fun _ _=>none,orc:=fun f=>(Z0 L .lf).get f } :=
 ⟨fun f fn h=>ZfD f fn h,fun f fn b _ _=>Qq.all (fun _ _ _ g hg=>by cases hg) b,fun f g h=>hL (f,g) (Q9 h)⟩
theorem ZbC:J9 Tryz.prog B0:=Tj Fs
end Go.Proofs.YtheflbaejhlboaaGreatDoor.Ev
