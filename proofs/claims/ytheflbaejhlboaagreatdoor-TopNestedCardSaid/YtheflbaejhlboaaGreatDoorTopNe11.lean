/- Lemmas for a law of confluencetop. -/
import Derived.Shelf.SlIter.Sorted
import Derived.Shelf.SlIterI.Collect
import Derived.Shelf.SortM.Plain
import Derived.Shelf.SortM.SortNone
import Derived.Test.YtheflbaejhlboaaGreatDoorTopNe10
import Derived.Shelf.Strings.OnBuilder
set_option linter.all false
set_option maxRecDepth 100000
namespace Go.Proofs.YtheflbaejhlboaaGreatDoor
open Tryz
namespace Ev
open Go Go.Proofs Go.Shelf Go.Sort Go.Maps
variable [Sig]
def Oq (n:Nat):FuncId:=match n with
 | 0=>0
 | 1=>1
 | 2=>2
 | 6=>410
 | 7=>411
 | 8=>488
 | 9=>109
 | 10=>489
 | 11=>554
 | 12=>168
 | 13=>89
 | 14=>273
 | 15=>274
 | 16=>275
 | 17=>276
 | 18=>277
 | 19=>278
 | 20=>279
 | 21=>280
 | 22=>281
 | 23=>147
 | 24=>148
 | 25=>390
 | 26=>221
 | 27=>222
 | 28=>391
 | 29=>392
 | 30=>90
 | 31=>479
 | 32=>637
 | 33=>638
 | 34=>639
 | 35=>640
 | 36=>641
 | 37=>642
 | 38=>643
 | 39=>644
 | 40=>645
 | 41=>646
 | 42=>647
 | 43=>648
 | 44=>649
 | 45=>650
 | 46=>651
 | 47=>668
 | _=>0
def Ot (n:Nat):TypeId:=match n with
 | 0=>0
 | 1=>1
 | 2=>2
 | 3=>431
 | 4=>4
 | 5=>5
 | 6=>6
 | 7=>7
 | 8=>8
 | 9=>9
 | 10=>10
 | 11=>11
 | 12=>12
 | 13=>13
 | 14=>14
 | 15=>15
 | 16=>16
 | 17=>17
 | 18=>18
 | 19=>19
 | 20=>20
 | 21=>21
 | 23=>426
 | 24=>67
 | 25=>559
 | 26=>9
 | 27=>560
 | 28=>561
 | 29=>562
 | 32=>230
 | 33=>204
 | 34=>675
 | 35=>317
 | 36=>208
 | 37=>209
 | 38=>412
 | 39=>280
 | 40=>281
 | 41=>413
 | 42=>414
 | 43=>415
 | 44=>416
 | 45=>205
 | 46=>417
 | 47=>286
 | 48=>287
 | 49=>288
 | 50=>289
 | 51=>354
 | 52=>355
 | 53=>356
 | 54=>542
 | 55=>358
 | 56=>543
 | 57=>513
 | 58=>514
 | 59=>617
 | 60=>271
 | 61=>736
 | 62=>737
 | 63=>738
 | 64=>739
 | 65=>740
 | 66=>270
 | 67=>741
 | 68=>742
 | 69=>743
 | 70=>608
 | 71=>744
 | 72=>745
 | 73=>746
 | 74=>747
 | 75=>664
 | _=>0
def Zib:Ren:=⟨Oq,Ot,fun x=>x⟩
theorem Zhm:SlLaysZ.n10 prog Zib where
 mixed:=by kernel_rfl
 f10:=⟨Tryz.f489.name,by kernel_rfl,by kernel_rfl⟩
 t0:=by kernel_rfl
 a0:=fun _=>by kernel_rfl
 z0:=fun _=>by kernel_rfl
 v0:=fun _=>by kernel_rfl
 t4:=by kernel_rfl
 a4:=fun _=>by kernel_rfl
 z4:=fun _=>by kernel_rfl
 v4:=fun _=>by kernel_rfl
 t23:=by kernel_rfl
 a23:=fun _=>by kernel_rfl
 z23:=fun _=>by kernel_rfl
 v23:=fun _=>by kernel_rfl
 t26:=by kernel_rfl
 a26:=fun _=>by kernel_rfl
 z26:=fun _=>by kernel_rfl
 v26:=fun _=>by kernel_rfl
 t33:=by kernel_rfl
 a33:=fun _=>by kernel_rfl
 z33:=fun _=>by kernel_rfl
 v33:=fun _=>by kernel_rfl
def Ou (n:Nat):FuncId:=match n with
 | 0=>0
 | 1=>1
 | 2=>2
 | 6=>410
 | 8=>488
 | 9=>109
 | 11=>554
 | 12=>168
 | 13=>89
 | 14=>273
 | 15=>274
 | 16=>275
 | 17=>276
 | 18=>277
 | 19=>278
 | 20=>279
 | 21=>280
 | 22=>281
 | 23=>147
 | 24=>148
 | 25=>390
 | 26=>221
 | 27=>222
 | 28=>391
 | 29=>392
 | 30=>90
 | 31=>479
 | 32=>637
 | 33=>638
 | 34=>639
 | 35=>640
 | 36=>641
 | 37=>642
 | 38=>643
 | 39=>644
 | 40=>645
 | 41=>646
 | 42=>647
 | 43=>648
 | 44=>649
 | 45=>650
 | 46=>651
 | 47=>668
 | _=>0
def Ov (n:Nat):TypeId:=match n with
 | 0=>0
 | 1=>1
 | 2=>2
 | 3=>3
 | 4=>4
 | 5=>5
 | 6=>6
 | 7=>7
 | 8=>8
 | 9=>9
 | 10=>10
 | 11=>11
 | 12=>12
 | 13=>13
 | 14=>14
 | 15=>15
 | 16=>16
 | 17=>17
 | 18=>18
 | 19=>19
 | 20=>20
 | 21=>21
 | 24=>67
 | 25=>559
 | 26=>9
 | 27=>560
 | 28=>561
 | 32=>230
 | 33=>204
 | 34=>675
 | 35=>317
 | 36=>208
 | 37=>209
 | 38=>412
 | 39=>280
 | 40=>281
 | 41=>413
 | 42=>414
 | 43=>415
 | 44=>416
 | 45=>205
 | 46=>417
 | 47=>286
 | 48=>287
 | 49=>288
 | 50=>289
 | 51=>354
 | 52=>355
 | 53=>356
 | 54=>542
 | 55=>358
 | 56=>543
 | 57=>513
 | 58=>514
 | 59=>617
 | 60=>271
 | 61=>736
 | 62=>737
 | 63=>738
 | 64=>739
 | 65=>740
 | 66=>270
 | 67=>741
 | 68=>742
 | 69=>743
 | 70=>608
 | 71=>744
 | 72=>745
 | 73=>746
 | 74=>747
 | 75=>664
 | _=>0
def Zkp:Ren:=⟨Ou,Ov,fun x=>x⟩
theorem Zhn:SlLaysZ.n6 prog Zkp where
 mixed:=by kernel_rfl
 f6:=⟨Tryz.f410.name,by kernel_rfl,by kernel_rfl⟩
 f8:=⟨Tryz.f488.name,by kernel_rfl,by kernel_rfl⟩
 f11:=⟨Tryz.f554.name,by kernel_rfl,by kernel_rfl⟩
 t0:=by kernel_rfl
 a0:=fun _=>by kernel_rfl
 z0:=fun _=>by kernel_rfl
 v0:=fun _=>by kernel_rfl
 t24:=by kernel_rfl
 a24:=fun _=>by kernel_rfl
 z24:=fun _=>by kernel_rfl
 v24:=fun _=>by kernel_rfl
 t26:=by kernel_rfl
 a26:=fun _=>by kernel_rfl
 z26:=fun _=>by kernel_rfl
 v26:=fun _=>by kernel_rfl
 t28:=by kernel_rfl
 a28:=fun _=>by kernel_rfl
 z28:=fun _=>by kernel_rfl
 v28:=fun _=>by kernel_rfl
 i26:=by kernel_rfl
def Ow (n:Nat):FuncId:=match n with
 | 0=>0
 | 1=>1
 | 2=>2
 | 6=>109
 | 8=>89
 | 9=>168
 | 19=>147
 | 20=>148
 | 21=>273
 | 22=>274
 | 23=>275
 | 24=>276
 | 25=>277
 | 26=>278
 | 27=>279
 | 28=>280
 | 29=>281
 | 31=>221
 | 32=>222
 | 36=>390
 | 37=>391
 | 38=>392
 | 39=>90
 | 41=>479
 | 42=>637
 | 43=>638
 | 44=>639
 | 45=>640
 | 46=>641
 | 47=>642
 | 48=>643
 | 49=>644
 | 50=>645
 | 51=>646
 | 52=>647
 | 53=>648
 | 54=>649
 | 55=>650
 | 56=>651
 | 57=>668
 | _=>0
def Ox (n:Nat):TypeId:=match n with
 | 0=>0
 | 1=>1
 | 2=>2
 | 3=>3
 | 4=>4
 | 5=>5
 | 6=>6
 | 7=>7
 | 8=>8
 | 9=>9
 | 10=>10
 | 11=>11
 | 12=>12
 | 13=>13
 | 14=>14
 | 15=>15
 | 16=>16
 | 17=>17
 | 18=>18
 | 19=>19
 | 20=>20
 | 21=>21
 | 26=>67
 | 27=>67
 | 28=>230
 | 29=>9
 | 31=>208
 | 32=>209
 | 33=>317
 | 35=>280
 | 36=>281
 | 41=>205
 | 43=>286
 | 44=>287
 | 45=>288
 | 46=>289
 | 47=>412
 | 48=>413
 | 49=>414
 | 50=>415
 | 51=>416
 | 52=>417
 | 53=>354
 | 54=>355
 | 55=>356
 | 57=>358
 | 60=>542
 | 61=>543
 | 62=>204
 | 63=>513
 | 64=>514
 | 66=>617
 | 67=>271
 | 68=>736
 | 69=>737
 | 70=>738
 | 71=>739
 | 72=>740
 | 73=>270
 | 74=>741
 | 75=>742
 | 76=>743
 | 77=>608
 | 78=>744
 | 79=>745
 | 80=>746
 | 81=>747
 | 82=>664
 | _=>0
def ZlY:Ren:=⟨Ow,Ox,fun x=>x⟩
theorem yU:SlLaysM.n6 prog ZlY where
 mixed:=by kernel_rfl
 f6:=⟨Tryz.f109.name,by kernel_rfl,by kernel_rfl⟩
 f8:=by kernel_rfl
 f9:=⟨Tryz.f168.name,by kernel_rfl,by kernel_rfl⟩
 f19:=by kernel_rfl
 f20:=by kernel_rfl
 f21:=⟨Tryz.f273.name,by kernel_rfl,by kernel_rfl⟩
 f22:=⟨Tryz.f274.name,by kernel_rfl,by kernel_rfl⟩
 f23:=⟨Tryz.f275.name,by kernel_rfl,by kernel_rfl⟩
 f24:=⟨Tryz.f276.name,by kernel_rfl,by kernel_rfl⟩
 f25:=⟨Tryz.f277.name,by kernel_rfl,by kernel_rfl⟩
 f26:=⟨Tryz.f278.name,by kernel_rfl,by kernel_rfl⟩
 f27:=⟨Tryz.f279.name,by kernel_rfl,by kernel_rfl⟩
 f28:=⟨Tryz.f280.name,by kernel_rfl,by kernel_rfl⟩
 f29:=⟨Tryz.f281.name,by kernel_rfl,by kernel_rfl⟩
 f31:=by kernel_rfl
 f32:=by kernel_rfl
 f36:=⟨Tryz.f390.name,by kernel_rfl,by kernel_rfl⟩
 f37:=⟨Tryz.f391.name,by kernel_rfl,by kernel_rfl⟩
 f38:=⟨Tryz.f392.name,by kernel_rfl,by kernel_rfl⟩
 f39:=⟨Tryz.f90.name,by kernel_rfl,by kernel_rfl⟩
 f41:=⟨Tryz.f479.name,by kernel_rfl,by kernel_rfl⟩
 t0:=by kernel_rfl
 a0:=fun _=>by kernel_rfl
 z0:=fun _=>by kernel_rfl
 v0:=fun _=>by kernel_rfl
 t3:=by kernel_rfl
 a3:=fun _=>by kernel_rfl
 z3:=fun _=>by kernel_rfl
 v3:=fun _=>by kernel_rfl
 t4:=by kernel_rfl
 a4:=fun _=>by kernel_rfl
 z4:=fun _=>by kernel_rfl
 v4:=fun _=>by kernel_rfl
 t5:=by kernel_rfl
 a5:=fun _=>by kernel_rfl
 z5:=fun _=>by kernel_rfl
 v5:=fun _=>by kernel_rfl
 t9:=by kernel_rfl
 a9:=fun _=>by kernel_rfl
 z9:=fun _=>by kernel_rfl
 v9:=fun _=>by kernel_rfl
 t26:=by kernel_rfl
 a26:=fun _=>by kernel_rfl
 z26:=fun _=>by kernel_rfl
 v26:=fun _=>by kernel_rfl
 t27:=by kernel_rfl
 a27:=fun _=>by kernel_rfl
 z27:=fun _=>by kernel_rfl
 v27:=fun _=>by kernel_rfl
 t29:=by kernel_rfl
 a29:=fun _=>by kernel_rfl
 z29:=fun _=>by kernel_rfl
 v29:=fun _=>by kernel_rfl
 t32:=by kernel_rfl
 a32:=fun _=>by kernel_rfl
 z32:=fun _=>by kernel_rfl
 v32:=fun _=>by kernel_rfl
 t35:=by kernel_rfl
 a35:=fun _=>by kernel_rfl
 z35:=fun _=>by kernel_rfl
 v35:=fun _=>by kernel_rfl
 t36:=by kernel_rfl
 a36:=fun _=>by kernel_rfl
 z36:=fun _=>by kernel_rfl
 v36:=fun _=>by kernel_rfl
 t41:=by kernel_rfl
 a41:=fun _=>by kernel_rfl
 z41:=fun _=>by kernel_rfl
 v41:=fun _=>by kernel_rfl
 t44:=by kernel_rfl
 a44:=fun _=>by kernel_rfl
 z44:=fun _=>by kernel_rfl
 v44:=fun _=>by kernel_rfl
 t46:=by kernel_rfl
 a46:=fun _=>by kernel_rfl
 z46:=fun _=>by kernel_rfl
 v46:=fun _=>by kernel_rfl
 t53:=by kernel_rfl
 a53:=fun _=>by kernel_rfl
 z53:=fun _=>by kernel_rfl
 v53:=fun _=>by kernel_rfl
 t57:=by kernel_rfl
 a57:=fun _=>by kernel_rfl
 z57:=fun _=>by kernel_rfl
 v57:=fun _=>by kernel_rfl
 t63:=by kernel_rfl
 a63:=fun _=>by kernel_rfl
 z63:=fun _=>by kernel_rfl
 v63:=fun _=>by kernel_rfl
 t64:=by kernel_rfl
 a64:=fun _=>by kernel_rfl
 z64:=fun _=>by kernel_rfl
 v64:=fun _=>by kernel_rfl
def Oy (n:Nat):FuncId:=match n with
 | 0=>0
 | 1=>1
 | 2=>2
 | 6=>577
 | 7=>578
 | 8=>606
 | 9=>607
 | 10=>608
 | 11=>619
 | 12=>620
 | 13=>89
 | 14=>624
 | 15=>625
 | 16=>626
 | 17=>627
 | 18=>628
 | 19=>629
 | 20=>630
 | 21=>631
 | 22=>632
 | 23=>147
 | 24=>148
 | 25=>633
 | 26=>221
 | 27=>222
 | 28=>634
 | 29=>635
 | 30=>595
 | 31=>636
 | 32=>637
 | 33=>638
 | 34=>639
 | 35=>640
 | 36=>641
 | 37=>642
 | 38=>643
 | 39=>644
 | 40=>645
 | 41=>646
 | 42=>647
 | 43=>648
 | 44=>649
 | 45=>650
 | 46=>651
 | 47=>668
 | _=>0
def Oz (n:Nat):TypeId:=match n with
 | 0=>0
 | 1=>1
 | 2=>2
 | 3=>3
 | 4=>4
 | 5=>5
 | 6=>6
 | 7=>7
 | 8=>8
 | 9=>9
 | 10=>10
 | 11=>11
 | 12=>12
 | 13=>13
 | 14=>14
 | 15=>15
 | 16=>16
 | 17=>17
 | 18=>18
 | 19=>19
 | 20=>20
 | 21=>21
 | 22=>258
 | 23=>258
 | 24=>134
 | 25=>691
 | 26=>3
 | 27=>692
 | 28=>693
 | 29=>694
 | 32=>710
 | 33=>269
 | 34=>721
 | 35=>722
 | 36=>208
 | 37=>209
 | 38=>728
 | 39=>280
 | 40=>281
 | 41=>729
 | 42=>730
 | 43=>51
 | 44=>731
 | 45=>205
 | 46=>732
 | 47=>286
 | 48=>287
 | 49=>288
 | 50=>289
 | 51=>354
 | 52=>355
 | 53=>356
 | 54=>733
 | 55=>358
 | 56=>734
 | 57=>513
 | 58=>514
 | 59=>735
 | 60=>271
 | 61=>736
 | 62=>737
 | 63=>738
 | 64=>739
 | 65=>740
 | 66=>270
 | 67=>741
 | 68=>742
 | 69=>743
 | 70=>608
 | 71=>744
 | 72=>745
 | 73=>746
 | 74=>747
 | 75=>664
 | _=>0
def Zhp:Ren:=⟨Oy,Oz,fun x=>x⟩
theorem Zie:SlLaysZI.n10 prog Zhp where
 mixed:=by kernel_rfl
 f10:=⟨Tryz.f608.name,by kernel_rfl,by kernel_rfl⟩
 t0:=by kernel_rfl
 a0:=fun _=>by kernel_rfl
 z0:=fun _=>by kernel_rfl
 v0:=fun _=>by kernel_rfl
 t4:=by kernel_rfl
 a4:=fun _=>by kernel_rfl
 z4:=fun _=>by kernel_rfl
 v4:=fun _=>by kernel_rfl
 t23:=by kernel_rfl
 a23:=fun _=>by kernel_rfl
 z23:=fun _=>by kernel_rfl
 v23:=fun _=>by kernel_rfl
 t26:=by kernel_rfl
 a26:=fun _=>by kernel_rfl
 z26:=fun _=>by kernel_rfl
 v26:=fun _=>by kernel_rfl
 t33:=by kernel_rfl
 a33:=fun _=>by kernel_rfl
 z33:=fun _=>by kernel_rfl
 v33:=fun _=>by kernel_rfl
def OB (n:Nat):FuncId:=match n with
 | 0=>0
 | 1=>1
 | 2=>2
 | 6=>577
 | 8=>606
 | 9=>607
 | 11=>619
 | 12=>620
 | 13=>89
 | 14=>624
 | 15=>625
 | 16=>626
 | 17=>627
 | 18=>628
 | 19=>629
 | 20=>630
 | 21=>631
 | 22=>632
 | 23=>147
 | 24=>148
 | 25=>633
 | 26=>221
 | 27=>222
 | 28=>634
 | 29=>635
 | 30=>595
 | 31=>636
 | 32=>637
 | 33=>638
 | 34=>639
 | 35=>640
 | 36=>641
 | 37=>642
 | 38=>643
 | 39=>644
 | 40=>645
 | 41=>646
 | 42=>647
 | 43=>648
 | 44=>649
 | 45=>650
 | 46=>651
 | 47=>668
 | _=>0
def OC (n:Nat):TypeId:=match n with
 | 0=>0
 | 1=>1
 | 2=>2
 | 3=>3
 | 4=>4
 | 5=>5
 | 6=>6
 | 7=>7
 | 8=>8
 | 9=>9
 | 10=>10
 | 11=>11
 | 12=>12
 | 13=>13
 | 14=>14
 | 15=>15
 | 16=>16
 | 17=>17
 | 18=>18
 | 19=>19
 | 20=>20
 | 21=>21
 | 22=>258
 | 24=>134
 | 25=>691
 | 26=>3
 | 27=>692
 | 28=>693
 | 32=>710
 | 33=>269
 | 34=>721
 | 35=>722
 | 36=>208
 | 37=>209
 | 38=>728
 | 39=>280
 | 40=>281
 | 41=>729
 | 42=>730
 | 43=>51
 | 44=>731
 | 45=>205
 | 46=>732
 | 47=>286
 | 48=>287
 | 49=>288
 | 50=>289
 | 51=>354
 | 52=>355
 | 53=>356
 | 54=>733
 | 55=>358
 | 56=>734
 | 57=>513
 | 58=>514
 | 59=>735
 | 60=>271
 | 61=>736
 | 62=>737
 | 63=>738
 | 64=>739
 | 65=>740
 | 66=>270
 | 67=>741
 | 68=>742
 | 69=>743
 | 70=>608
 | 71=>744
 | 72=>745
 | 73=>746
 | 74=>747
 | 75=>664
 | _=>0
def Zks:Ren:=⟨OB,OC,fun x=>x⟩
theorem Zih:SlLaysZI.n8 prog Zks where
 mixed:=by kernel_rfl
 f8:=⟨Tryz.f606.name,by kernel_rfl,by kernel_rfl⟩
 f11:=⟨Tryz.f619.name,by kernel_rfl,by kernel_rfl⟩
 t0:=by kernel_rfl
 a0:=fun _=>by kernel_rfl
 z0:=fun _=>by kernel_rfl
 v0:=fun _=>by kernel_rfl
 t24:=by kernel_rfl
 a24:=fun _=>by kernel_rfl
 z24:=fun _=>by kernel_rfl
 v24:=fun _=>by kernel_rfl
 t26:=by kernel_rfl
 a26:=fun _=>by kernel_rfl
 z26:=fun _=>by kernel_rfl
 v26:=fun _=>by kernel_rfl
 t28:=by kernel_rfl
 a28:=fun _=>by kernel_rfl
 z28:=fun _=>by kernel_rfl
 v28:=fun _=>by kernel_rfl
 i26:=by kernel_rfl
theorem D3 (m:Nat):AnyZ.SortsIn prog Zkp Fence.wide m :=
 ⟨fun blk off cap ss W hH hblk hsz=>callsIn_wide.2 (AnyM.slices_Sort_string yU blk off cap ss W hH hblk hsz),fun p cap W=>callsIn_wide.2 (AnyM.slices_Sort_string_none yU p cap W)⟩
theorem Zba:Qe prog 410 (Mc 489):=by
 refine Fe func410 (by kernel_rfl) rfl (k:=9) (by kernel_rfl) fun Bm m n D0 w hBm hm hown hsz => ?_
 have hseq:SeqGives Fence.wide 2 prog 489 #[.pointer (some ⟨Bm,0,none⟩)] encStr (fun ss=>ss.Perm (strKeys D0)) (Maps.size D0) w :=
  AnyZ.keys_gives (ρ := Zib) Zhm Fence.wide _ trivial rfl (by omega) Bm m n D0 w hBm hm hown
 exact callsIn_wide.1 (AnyZ.sorted_in Zhn Fence.wide 5 trivial trivial trivial trivial rfl (by omega) (D3 _) (enters_of func109 (by kernel_rfl) rfl) 489 #[.pointer (some ⟨Bm,0,none⟩)] trivial
  (enters_of func489 (by kernel_rfl) rfl) _ (Maps.size D0) (Nat.le_trans hsz (by decide)) (by omega) w hseq)
theorem ZfH:Qe prog 606 (EK 608):=by
 refine Ug func606 (by kernel_rfl) rfl (k:=3) (by kernel_rfl) fun Bm m n D0 w hBm hm hown hsz => ?_
 have hseq:SeqGives Fence.wide 2 prog 608 #[.pointer (some ⟨Bm,0,none⟩)] encZ (fun ss=>ss.Perm (intKeys D0)) (Maps.size D0) w :=
  AnyZI.keys_gives (ρ := Zhp) Zie Fence.wide _ trivial rfl (by omega) Bm m n D0 w hBm hm hown
 exact callsIn_wide.1 (AnyZI.collect_in Zih Fence.wide 4 trivial trivial rfl (by omega) 608 #[.pointer (some ⟨Bm,0,none⟩)] trivial
  (enters_of func608 (by kernel_rfl) rfl) _ (Maps.size D0) (Nat.le_trans hsz (by decide)) (by omega) w hseq)
end Ev
namespace Ev
open Go
variable [Sig] {P:Program}
theorem D4 {w:World} (n:Nat) (h:1<=n):∃ k w1,(choose (.mapNext n)).run P w = .ok k w1/\k<n/\(w1=w\/w1=w.drew):=by
 rw [run_choose];by_cases hf:(Question.mapNext n).forced=true
 ·rw [if_pos hf];exact ⟨0,w,rfl,h,.inl rfl⟩
 ·rw [if_neg hf];exact ⟨_,_,rfl,Nat.mod_lt _ h,.inr rfl⟩
theorem ERs.nth {r:Rho}:∀ {l:List Entry} {l':List MapEntry},ERs r l l'->∀ {k:Nat} {m:MapEntry},l'[k]? = some m->∃ e,e∈l/\ER r e m
 | _,_,.nil,k,m,h=>by cases h
 | _,_,.cons h t,0,m,e=>by cases e; exact ⟨_,List.mem_cons_self,h⟩
 | _,_,.cons h t,k+1,m,e=>by
  obtain ⟨x,h1,h2⟩:=ERs.nth t (k:=k) (by simpa using e);exact ⟨x,List.mem_cons_of_mem _ h1,h2⟩
theorem WU {s:St} {r m since c:Nat} {seen:List Nat}:∀ {l:List Entry} {e:Entry},e∈l ->
  sel (Nat.blt e.2.2 since) (R.ok (.tuple [.bool true,e.1,e.2.1]) (s.put r (.mapIter (some m) since (seen++[e.2.2]) c))) .bad∈VC s r m since c seen l
 | (k,v,b)::l,e,h=>by
  rcases List.mem_cons.1 h with h | h
  ·subst h; exact List.mem_cons_self
  ·exact List.mem_cons_of_mem _ (WU h)
theorem ERs.ZcT {r:Rho} {since:Nat}:∀ {l:List Entry} {l':List MapEntry},ERs r l l'->(∀ e∈l,Nat.blt e.2.2 since=true)->∀ m∈l',m.born<since
 | _,_,.nil,_,m,h=>by cases h
 | _,_,.cons h t,hl,m,hm=>by
  rcases List.mem_cons.1 hm with hm | hm
  ·subst hm;rw [h.2.2];exact QI (hl _ List.mem_cons_self)
  ·exact ERs.ZcT t (fun e he=>hl e (List.mem_cons_of_mem _ he)) m hm
theorem Zbb {r:Rho} {s:St} {w:World} (h:Rel r s w) {t:TypeId} {x:Zb} (hb:∀ y∈Tl s (.ok x),y ≠ .bad) {a:Value} (hx:VR r x a) :
  ∃ v s',R.ok v s'∈Tl s (.ok x)/\YS P r s w (Instr.next a false t) v s':=by
 unfold Tl at hb ⊢;split at hb
 ·rename_i y id hy;cases hy;cases hx with
  | ptr hr =>
   rename_i x
   replace hb:∀ y∈Fg s id (s.get id),y ≠ .bad:=hb
   show ∃ v s',R.ok v s'∈Fg s id (s.get id)/\_;unfold Fg at hb ⊢;split at hb
   ·rename_i since seen st hbk;obtain ⟨o,h1,h2⟩:=h.block id _ x hbk hr;have h2:o = .mapIter none since ⟨seen⟩ st:=h2;subst h2;refine ⟨_,_,List.mem_singleton.2 rfl,r,w,.tuple #[.bool false],?_,.tuple (.cons (.bool _) .nil),Ext.refl h⟩;simp only [Instr.next,Sem.run_bind,Jn h1,Result.andThen_ok,Sem.run_pure]
   ·rename_i m since seen last hbk;obtain ⟨o,h1,y,hy,rfl⟩:=h.block id _ x hbk hr;show ∃ v s',R.ok v s'∈Uh s id m since last seen (s.Xa m)/\_;unfold Uh at hb ⊢;split at hb
    ·rename_i es c aG;cases hg:TX last seen es
     ·rw [hg] at hb;have hb:∀ y∈Fh s id m since c seen (leftOf seen es),y ≠ .bad:=hb;show ∃ v s',R.ok v s'∈Fh s id m since c seen (leftOf seen es)/\_;obtain ⟨l,h4,h5⟩:=QM h.toRelB hy aG;have hlf:=Yr (seen:=seen) h5;have hga:=M1 h5 hg
      generalize hle:leftOf seen es=le at hb hlf
      cases le with
      | nil =>
       have hnil:l.filter (fun e => !seen.contains e.born)=[]:=hlf.Fi;refine ⟨_,_,List.mem_singleton.2 rfl,r,w,.tuple #[.bool false],?_,.tuple (.cons (.bool _) .nil),Ext.refl h⟩
       have hfl:(⟨l⟩:Array MapEntry).filter (fun e => !(⟨seen⟩:Array Nat).contains e.born) = #[]:=by
        apply Array.ext';simpa using hnil
       simp only [Instr.next,Sem.run_bind,Jn h1,Result.andThen_ok,Qs h4,hga,hfl,Bool.false_eq_true,if_false];simp [Fj]
      | cons e0 le =>
       have hb:∀ y∈VC s id m since c seen (e0::le),y ≠ .bad:=hb;show ∃ v s',R.ok v s'∈VC s id m since c seen (e0::le)/\_
       have hold:∀ e∈e0::le,Nat.blt e.2.2 since=true:=fun e he=>by
        cases hbl:Nat.blt e.2.2 since
        ·have:=hb _ (WU (s:=s) (r:=id) (m:=m) (c:=c) (seen:=seen) (since:=since) he);rw [hbl] at this;exact absurd rfl this
        ·rfl
       generalize hme:l.filter (fun e => !seen.contains e.born)=ms at hlf
       have hall:=hlf.ZcT hold
       have hfl:(⟨l⟩:Array MapEntry).filter (fun e => !(⟨seen⟩:Array Nat).contains e.born)=⟨ms⟩:=by
        apply Array.ext';simpa using hme
       have hf1:(⟨ms⟩:Array MapEntry).filter (fun e=>decide (e.born<since))=⟨ms⟩:=by
        apply Array.ext';rw [Array.toList_filter];exact List.filter_eq_self.2 fun m hm=>by simp [hall m hm]
       have hf2:(⟨ms⟩:Array MapEntry).filter (fun e=>decide (e.born>=since)) = #[]:=by
        apply Array.ext';rw [Array.toList_filter];show List.filter _ ms=[];rw [List.filter_eq_nil_iff];intro m hm;have:=hall m hm;simp;omega
       have hlen:=hlf.length
       have hne:(⟨ms⟩:Array MapEntry).isEmpty=false:=by
        cases ms with
        | nil=>simp at hlen
        | cons m ms=>rfl
       have nE:((if (⟨ms⟩:Array MapEntry).isEmpty=true then #[none] else #[])++Array.map some ((⟨ms⟩:Array MapEntry) ++ #[]))=(⟨ms.map some⟩:Array (Option MapEntry)):=by
        rw [hne];apply Array.ext';simp
       obtain ⟨k,w1,hk1,hk2,hk3⟩:=D4 (P:=P) (w:=w) ms.length (by rw [hlen]; simp);obtain ⟨me,hmk⟩:∃ me,ms[k]? = some me:=⟨_,List.getElem?_eq_getElem hk2⟩
       obtain ⟨⟨kk,u,b⟩,hin,hh⟩:=hlf.nth hmk;have mg:me.born=b:=hh.2.2;have hmem:=WU (s:=s) (r:=id) (m:=m) (c:=c) (seen:=seen) (since:=since) hin;rw [hold _ hin] at hmem
       have hw1:w1.heap=w.heap/\Rel r s w1/\Ext r s w r s w1:=by
        rcases hk3 with rfl | rfl
        ·exact ⟨rfl,h,Ext.refl h⟩
        ·exact ⟨rfl,h.drawn _,Ext.drawn h _⟩
       obtain ⟨hw2,hr1,hx1⟩:=hw1;have h1':w1.heap[x.blk]? = some (.mapIter (some y.blk) since ⟨seen⟩ last):=by rw [hw2]; exact h1
       refine ⟨_,_,hmem,r,_,.tuple #[.bool true,me.key,me.val],?_,.tuple (.cons (.bool _) (.cons hh.1 (.cons hh.2.1 .nil))),hx1.trans (D5 hr1 hr hy hbk h1' since c (seen++[b]))⟩;simp only [Instr.next,Sem.run_bind,Jn h1,Result.andThen_ok,Qs h4,hga,hfl,hf1,hf2,Bool.false_eq_true,if_false,nE];have hsz:(⟨ms.map some⟩:Array (Option MapEntry)).size=ms.length:=by simp
       rw [hsz,hk1];simp only [Result.andThen_ok];have hget:(⟨ms.map some⟩:Array (Option MapEntry))[k]? = some (some me):=by simp [hmk]
       rw [hget];simp [Q9 h1' (fun _ _ _ e=>by cases e),mg]
     ·rw [hg] at hb;exact absurd rfl (hb .bad (List.mem_singleton.2 rfl))
    ·exact absurd rfl (hb .bad (List.mem_singleton.2 rfl))
   ·exact absurd rfl (hb .bad (List.mem_singleton.2 rfl))
 ·exact absurd rfl (hb .bad (List.mem_singleton.2 rfl))
theorem Hm {is:Fl} {e:Env} {d:Option (List Bool)}:∀ {l:List R} {v:Zb} {s:St},R.ok v s∈l->Ys e is [v] (Wk e v d) s∈Hn is e d l
 | r::l,v,s,h=>by
  rcases List.mem_cons.1 h with h | h
  ·subst h; exact List.mem_cons_self
  ·exact List.mem_cons_of_mem _ (Hm h)
theorem Ho {is:Fl} {e:Env} {d:Option (List Bool)}:∀ {l:List R},R.bad∈l->Res.bad∈Hn is e d l
 | r::l,h=>by
  rcases List.mem_cons.1 h with h | h
  ·subst h; exact List.mem_cons_self
  ·exact List.mem_cons_of_mem _ (Ho h)
theorem OD {o:Oper} {it:Operand} (h:Fm o=some it):o.op = .next it false/\o.guard=none:=by
 unfold Fm at h;split at h
 ·rename_i h1 h2; cases h; exact ⟨h1,h2⟩
 ·cases h
theorem OE {call:Zz} (hcall:Z7 P call) {K:ZK} {id:Nat} {ops:Array Oper} {ex:Env->St->Res} (hex:QJ P K (.region id ops false) ex) :
  Zv P K (.region id ops false) fun e s=>nG P call K ops e s (ex e s) ops.toList (VD ops.toList):=by
 intro e s hb r w a Q hr he hQ;unfold nG at hb hQ;split at hb
 ·rename_i l it o rest jX hl hn;rw [hl] at hn hQ;have hn:Fm o=some jX:=hn;rw [show VD (o::rest)=some jX from hn] at hQ;simp only at hb hQ;obtain ⟨hop,hgu⟩:=OD hn;cases hdi:QB K o
  ·rw [hdi] at hb;exact absurd rfl (hb .bad (List.mem_singleton.2 rfl))
  ·rw [hdi] at hb hQ;have hb:∀ y∈Hn (JO P call K ops rest 1 (Qk 0 .nil o)) e (Xb K o) (Tl s (Zl [] e (Jz 0 .nil jX))),y ≠ .bad:=hb;have hQ:∀ x e' s',Res.ok x e' s'∈Hn (JO P call K ops rest 1 (Qk 0 .nil o)) e (Xb K o) (Tl s (Zl [] e (Jz 0 .nil jX)))->∀ q a' w',Ext r s w q s' w'->Qr K q e' a'->Q (Ui x) a' w':=hQ
   have hnb:∀ y∈Tl s (Zl [] e (Jz 0 .nil jX)),y ≠ .bad:=fun y hy hbad=>by
    subst hbad;exact hb .bad (Ho hy) rfl
   cases hv:Zl [] e (Jz 0 .nil jX) with
   | bad=>rw [hv] at hnb; exact absurd rfl (hnb .bad (List.mem_singleton.2 rfl))
   | ok x =>
    rw [hv] at hnb hb hQ;have inv:=Inv.start hr he;have hxv:=inv.cx o.op jX (by rw [hop]; simp [Op.operands]) x hv;refine wp_region ?_;rw [List.range_eq_range',<- Array.length_toList,hl,List.length_cons,List.range'_succ];have ho:ops[0]? = some o:=by rw [<- Array.getElem?_toList,hl]; rfl
    have hd':ops.toList.drop (0+1)=rest:=by rw [hl]; rfl
    have hw:Region.wanted o (yielded ops a.tmps)=true:=by unfold Region.wanted; rw [hgu]
    refine Yt ho (fun _ => ?_) fun hw'=>by rw [hw] at hw'; cases hw'
    obtain ⟨v,s1,hm,nH⟩:=Zbb (P:=P) (t:=o.type) hr hnb hxv;have nJ:Fo P o a r s w v s1:=nH.op (by unfold execOp; rw [hop]);refine nJ _ _ fun q u w1 hx aP => ?_;have hmm:=Hm (is:=JO P call K ops rest 1 (Qk 0 .nil o)) (e:=e) (d:=Xb K o) hm;have jY:=inv.step hdi aP hx;cases hrun:Ys e (JO P call K ops rest 1 (Qk 0 .nil o)) [v] (Wk e v (Xb K o)) s1 with
    | bad=>rw [hrun] at hmm; exact absurd rfl (hb .bad hmm)
    | ok x1 e1 s2 =>
     rw [hrun] at hmm;refine VE hcall rest (0+1) hd' 1 _ _ _ e1 s1 s2 x1 _ w1 q jY hrun fun q' a' w' hx' he' OG => ?_;subst OG;exact hQ .normal e1 s2 hmm q' a' w' (hx.trans hx') he'
 ·rename_i h1
  have:nG P call K ops e s (ex e s) ops.toList (VD ops.toList)=[ex e s]:=by
   unfold nG;split
   ·rename_i o rest it hl hn;exact (h1 o rest it hl hn).elim
   ·rfl
  refine Zv.of hex e s (fun y hy=>hb y hy) r w a Q hr he fun x e' s' hm=>hQ x e' s' ?_;simpa using hm
theorem Tm {i:Nat}:∀ {l:List Res} {y:Res},y∈l->Se i y∈M3 i l
 | z::l,y,h=>by
  rcases List.mem_cons.1 h with h | h
  ·subst h; exact List.mem_cons_self
  ·exact List.mem_cons_of_mem _ (Tm h)
theorem Zv.block {K:ZK} {i:Nat} {c:Code} {F:Env->St->List Res} (hf:Zv P K c F):Zv P K (.block i c) fun e s=>M3 i (F e s):=by
 intro e s hb r w a Q hr he hQ;refine wp_block (hf e s (fun y hy hbad => ?_) r w a _ hr he fun x e1 s1 hm q a1 w1 hx he1 => ?_)
 ·subst hbad;exact hb (Se i .bad) (Tm hy) rfl
 ·have hm':=Tm (i:=i) hm;cases x with
  | normal=>exact hQ .normal e1 s1 hm' q a1 w1 hx he1
  | exit j =>
   show (if j=i then Q .normal a1 w1 else Q (.exit j) a1 w1);have hm':sel (Nat.beq i j) (Res.ok .normal e1 s1) (.ok (.exit j) e1 s1)∈M3 i (F e s):=hm';cases hbq:Nat.beq i j
   ·rw [hbq] at hm';rw [if_neg (fun e=>JD hbq e.symm)];exact hQ (.exit j) e1 s1 hm' q a1 w1 hx he1
   ·rw [hbq] at hm';rw [if_pos (ZF hbq).symm];exact hQ .normal e1 s1 hm' q a1 w1 hx he1
  | goto l=>exact hQ (.goto l) e1 s1 hm' q a1 w1 hx he1
  | ret=>exact hQ .ret e1 s1 hm' q a1 w1 hx he1
theorem Zv.loop {K:ZK} {c:Code} {F:Env->St->List Res} (hf:Zv P K c F) (n:Nat):Zv P K (.loop c) (EN F n):=by
 intro e s hb r w a Q hr he hQ;refine wp_loop_rounds n ?_
 induction n generalizing e s r w a with
 | zero=>exact absurd rfl (hb .bad (List.mem_singleton.2 rfl))
 | succ n ih =>
  have hb:∀ y∈bindM (EN F n) (F e s),y ≠ .bad:=hb;have hQ:∀ x e' s',Res.ok x e' s'∈bindM (EN F n) (F e s)->∀ q a' w',Ext r s w q s' w'->Qr K q e' a'->Q (Ui x) a' w':=hQ;rw [rounds_succ];refine hf e s (fun y hy hbad => ?_) r w a _ hr he fun x e1 s1 hm q a1 w1 hx he1 => ?_
  ·subst hbad;exact hb .bad (QO (fun _ _ h=>by cases h) hy) rfl
  ·cases x with
   | normal=>exact ih e1 s1 (fun y hy=>hb y (Xc hm y hy)) q w1 a1 hx.rel he1 fun x e' s' hm' q' a' w' hx' he'=>hQ x e' s' (Xc hm _ hm') q' a' w' (hx.trans hx') he'
   | exit i=>exact hQ _ e1 s1 (QO (fun _ _ h=>by cases h) hm) q a1 w1 hx he1
   | goto i=>exact hQ _ e1 s1 (QO (fun _ _ h=>by cases h) hm) q a1 w1 hx he1
   | ret=>exact hQ _ e1 s1 (QO (fun _ _ h=>by cases h) hm) q a1 w1 hx he1
theorem Zv.sel {K:ZK} {c:Code} {F G:Env->St->List Res} (t:Bool) (hf:Zv P K c F) (hg:Zv P K c G):Zv P K c fun e s=>Ev.sel t (F e s) (G e s):=by
 cases t
 ·exact hg
 ·exact hf
theorem Ku {call:Zz} (hcall:Z7 P call) {K:ZK} {fuel:Nat} {ex:Code->Env->St->Res}:∀ c,(∀ d,Qv (fun _ _ _=>True) d->QJ P K d (ex d))->Zv P K c (YY P call K fuel ex c)
 | .seq a b,h=>Zv.sel _ (Zv.seq (Ku hcall a h) (Ku hcall b h)) (Zv.of (h _ (Qv.all (fun _ _ _=>trivial) _)))
 | .cond x a b,h=>Zv.sel _ (Zv.cond (Ku hcall a h) (Ku hcall b h)) (Zv.of (h _ (Qv.all (fun _ _ _=>trivial) _)))
 | .block i b,h=>Zv.sel _ (Zv.block (Ku hcall b h)) (Zv.of (h _ (Qv.all (fun _ _ _=>trivial) _)))
 | .loop b,h=>Zv.sel _ (Zv.loop (Ku hcall b h) fuel) (Zv.of (h _ (Qv.all (fun _ _ _=>trivial) _)))
 | .region id ops false,h=>OE hcall (h _ (Qv.all (fun _ _ _=>trivial) _))
 | .region id ops true,h=>Zv.of (h _ (Qv.all (fun _ _ _=>trivial) _))
 | .skip,h=>Zv.of (h _ (Qv.all (fun _ _ _=>trivial) _))
 | .label _,h=>Zv.of (h _ (Qv.all (fun _ _ _=>trivial) _))
 | .rangeFunc _ _ _ _,h=>Zv.of (h _ (Qv.all (fun _ _ _=>trivial) _))
 | .exit _,h=>Zv.of (h _ (Qv.all (fun _ _ _=>trivial) _))
 | .goto _,h=>Zv.of (h _ (Qv.all (fun _ _ _=>trivial) _))
 | .ret,h=>Zv.of (h _ (Qv.all (fun _ _ _=>trivial) _))
 | .refuse _,h=>Zv.of (h _ (Qv.all (fun _ _ _=>trivial) _))
 | .scope _,h=>Zv.of (h _ (Qv.all (fun _ _ _=>trivial) _))
end Ev
namespace Ev
open Go
variable [Sig] {P:Program}
theorem D6 (k:IntKind):keq k k=true:=by cases k <;> rfl
theorem Hp (k:FloatKind):Fp k k=true:=by cases k <;> rfl
theorem TY (n:Int):ieq n n=true:=by rw [QS]; exact beq_self_eq_true n
theorem Zy (n:Nat):Nat.beq n n=true:=Nat.beq_refl n
mutual
theorem WV:∀ v:Zb,XO v v=true
 | .bool b=>by cases b <;> rfl
 | .int k n=>by show Bool.and _ _=true; rw [D6,TY]; rfl
 | .flt k b=>by show Bool.and _ _=true; rw [Hp,Zy]; rfl
 | .Z4 k a b=>by show Bool.and _ (Bool.and _ _)=true; rw [Hp,Zy,Zy]; rfl
 | .str l=>by show QG l l=true; rw [Qp]; exact beq_self_eq_true l
 | .Zo=>rfl
 | .ptr i o=>by show Bool.and _ _=true; rw [Zy,Zy]; rfl
 | .Za=>rfl
 | .Z8=>rfl
 | .slice i o n none=>by show Bool.and _ (Bool.and _ _)=true; rw [Zy,Zy,Zy]; rfl
 | .slice i o n (some c)=>by show Bool.and _ (Bool.and _ (Bool.and _ _))=true; rw [Zy,Zy,Zy,Zy]; rfl
 | .Zk=>rfl
 | .map i=>Zy i
 | .func f a b=>by show Bool.and _ (Bool.and _ _)=true; rw [Zy,JV a,JV b]; rfl
 | .ZQ=>rfl
 | .nilIface=>rfl
 | .iface t v=>by show Bool.and _ _=true; rw [Zy,WV v]; rfl
 | .agg l=>JV l
 | .tuple l=>JV l
 | .sint k c a b=>by show Bool.and _ (Bool.and _ (Bool.and _ _))=true; rw [D6,TY,TY,TY]; rfl
 | .raw b=>by cases b <;> rfl
 | .gho i t=>by show Bool.and _ _=true; rw [Zy,Zy]; rfl
theorem JV:∀ l:List Zb,JP l l=true
 | []=>rfl
 | v::l=>by
  show Bool.and _ _=true;rw [WV v,JV l];rfl
end
theorem Po:∀ l:List Entry,Fq l l=true
 | []=>rfl
 | (a,b,n)::l=>by
  show sel _ (sel _ (sel _ _ _) _) _=true;rw [WV a,WV b,Zy,Po l];rfl
theorem Pp:∀ l:List Nat,Fs l l=true
 | []=>rfl
 | n::l=>by
  show sel _ _ _=true;rw [Zy,Pp l];rfl
theorem Uj:∀ b:Zd,D7 b b=true
 | .cells cs e o=>by
  show sel _ (sel _ _ _) _=true;rw [Zy,JV cs];cases o <;> rfl
 | .map es c=>by
  show sel _ _ _=true;rw [Zy,Po es];rfl
 | .mapIter m a l b=>by
  have hm:Uk m m=true:=by
   cases m with
   | none=>rfl
   | some m=>exact Zy m
  show sel _ (sel _ (sel _ _ _) _) _=true;rw [hm,Zy,Pp l,Zy];rfl
 | .opq i t=>by
  show sel _ _ _=true;rw [Zy,Zy];rfl
def Hq (q:Rho) (g:Vn) (p:Rho):Prop:=∀ i j x,g i=some j->q i=some x->p j=some x
theorem map_some {α β : Type} {o:Option α} {f : α -> β} {b : β} (h:o.map f=some b):∃ a,o=some a/\f a=b:=by
 cases o with
 | none=>cases h
 | some a=>cases h; exact ⟨a,rfl,rfl⟩
theorem ZcV {v:Option Zb} {l:Option (List Zb)} {x:List Zb} (h:ZcW v l=some x):∃ v' l',v=some v'/\l=some l'/\x=v'::l':=by
 unfold ZcW at h;split at h
 ·cases h; exact ⟨_,_,rfl,rfl,rfl⟩
 ·cases h
mutual
theorem VR.ren {q p:Rho} {g:Vn} (hg:Hq q g p):∀ {v:Zb} {u:Value},VR q v u->∀ {v':Zb},TZ g v=some v'->VR p v' u
 | _,_,.bool b,_,h=>by cases h; exact .bool b
 | _,_,.int k n,_,h=>by cases h; exact .int k n
 | _,_,.flt k b,_,h=>by cases h; exact .flt k b
 | _,_,.Z4 k a b,_,h=>by cases h; exact .Z4 k a b
 | _,_,.str l,_,h=>by cases h; exact .str l
 | _,_,.Zo,_,h=>by cases h; exact .Zo
 | _,_,.ptr hx,_,h=>by
  obtain ⟨j,h1,rfl⟩:=map_some h;exact .ptr (hg _ _ _ h1 hx)
 | _,_,.Za,_,h=>by cases h; exact .Za
 | _,_,.Z8 a c,_,h=>by cases h; exact .Z8 a c
 | _,_,.slice hx hn hc hu,_,h=>by
  obtain ⟨j,h1,rfl⟩:=map_some h;exact .slice (hg _ _ _ h1 hx) hn hc hu
 | _,_,.Zk,_,h=>by cases h; exact .Zk
 | _,_,.map hx,_,h=>by
  obtain ⟨j,h1,rfl⟩:=map_some h;exact .map (hg _ _ _ h1 hx)
 | .func f a b,_,.func _ ha hb,_,h=>by
  simp only [TZ] at h;split at h
  ·rename_i a' b' h1 h2;cases h;exact .func f (VRs.ren hg ha h1) (VRs.ren hg hb h2)
  ·cases h
 | _,_,.ZQ,_,h=>by cases h; exact .ZQ
 | _,_,.nilIface,_,h=>by cases h; exact .nilIface
 | .iface t v,_,.iface _ hv,_,h=>by
  simp only [TZ] at h;obtain ⟨v',h1,rfl⟩:=map_some h;exact .iface t (VR.ren hg hv h1)
 | .agg l,_,.agg hl,_,h=>by
  simp only [TZ] at h;obtain ⟨l',h1,rfl⟩:=map_some h;exact .agg (VRs.ren hg hl h1)
 | .tuple l,_,.tuple hl,_,h=>by
  simp only [TZ] at h;obtain ⟨l',h1,rfl⟩:=map_some h;exact .tuple (VRs.ren hg hl h1)
 | _,_,.sint k hn,_,h=>by cases h; exact .sint k hn
 | _,_,.raw hn,_,h=>by cases h; exact .raw hn
 | _,_,.gho hx hgh hu hm,_,h=>by
  obtain ⟨j,h1,rfl⟩:=map_some h;exact .gho (hg _ _ _ h1 hx) hgh hu hm
theorem VRs.ren {q p:Rho} {g:Vn} (hg:Hq q g p):∀ {l:List Zb} {u:List Value},VRs q l u->∀ {l':List Zb},YZ g l=some l'->VRs p l' u
 | _,_,.nil,_,h=>by cases h; exact .nil
 | v::l,_,.cons hv hl,_,h=>by
  simp only [YZ] at h;obtain ⟨v',l',h1,h2,rfl⟩:=ZcV h;exact .cons (VR.ren hg hv h1) (VRs.ren hg hl h2)
end
theorem ERs.ren {q p:Rho} {g:Vn} (hg:Hq q g p):∀ {l:List Entry} {u:List MapEntry},ERs q l u->∀ {l':List Entry},EO g l=some l'->ERs p l' u
 | _,_,.nil,_,h=>by cases h; exact .nil
 | (k,v,n)::l,_,.cons hh ht,_,h=>by
  simp only [EO] at h;split at h
  ·rename_i k' v' l' h1 h2 h3;cases h;exact .cons ⟨hh.1.ren hg h1,hh.2.1.ren hg h2,hh.2.2⟩ (ERs.ren hg ht h3)
  ·cases h
theorem BR.ren {q p:Rho} {g:Vn} (hg:Hq q g p) {b b':Zd} {x:RB} {o:Obj} (h:Sf g b=some b') (hb:BR q b x o):BR p b' x o:=by
 cases b with
 | cells cs e opn =>
  obtain ⟨cs',h1,rfl⟩:=map_some h;obtain ⟨h0,vs,rest,t,fr,h2,h3,h4⟩:=hb;exact ⟨h0,vs,rest,t,fr,h2,h3.ren hg h1,h4⟩
 | map es c =>
  obtain ⟨es',h1,rfl⟩:=map_some h;obtain ⟨l,h2,h3⟩:=hb;exact ⟨l,h2,h3.ren hg h1⟩
 | mapIter m a l c =>
  cases m with
  | none=>cases h; exact hb
  | some m =>
   obtain ⟨m',h1,rfl⟩:=map_some h;obtain ⟨y,h2,h3⟩:=hb;exact ⟨y,hg _ _ _ h1 h2,h3⟩
 | opq i t =>
  obtain ⟨j,h1,rfl⟩:=map_some h;obtain ⟨y,gg,h2,h3⟩:=hb;exact ⟨y,gg,hg _ _ _ h1 h2,h3⟩
theorem Sg:∀ {L:List Nat} {n i j:Nat},(i,j)∈Xd n L->n<=j/\j<n+L.length/\L[j-n]? = some i
 | a::L,n,i,j,h=>by
  rcases List.mem_cons.1 h with h | h
  ·cases h;exact ⟨Nat.le_refl _,by simp,by simp⟩
  ·obtain ⟨h1,h2,h3⟩:=Sg h;refine ⟨by omega,by simp; omega,?_⟩;have:j-n=(j-(n+1))+1:=by omega
   rw [this,List.getElem?_cons_succ];exact h3
theorem M4 {n:Nat}:∀ {L:List Nat},Hr n L=true->∀ i∈L,n<=i
 | a::L,h,i,hi=>by
  obtain ⟨h1,h2⟩:=ZG h;rcases List.mem_cons.1 hi with hi | hi
  ·subst hi; exact Ql h1
  ·exact M4 h2 i hi
theorem D8 {n:Nat}:∀ {L:List Nat},Hs n L=true->∀ i∈L,i<n
 | a::L,h,i,hi=>by
  obtain ⟨h1,h2⟩:=ZG h;rcases List.mem_cons.1 hi with hi | hi
  ·subst hi; exact QI h1
  ·exact D8 h2 i hi
theorem Pq:∀ {L:List Nat},distinct L=true->∀ (j k i:Nat),L[j]? = some i->L[k]? = some i->j=k
 | [],_,j,k,i,h,_=>by cases h
 | a::L,h,j,k,i,hj,hk=>by
  have h:sel (WT a L) false (distinct L)=true:=h
  have hin:∀ m,L[m]? = some a->False:=fun m hm=>by
   have:WT a L=true:=by rw [TW]; exact List.contains_iff_mem.2 (List.mem_of_getElem? hm)
   rw [this] at h;cases h
  cases ha:WT a L
  ·rw [ha] at h;cases j with
   | zero =>
    cases k with
    | zero=>rfl
    | succ k =>
     cases hj;exact (hin k (by simpa using hk)).elim
   | succ j =>
    cases k with
    | zero =>
     cases hk;exact (hin j (by simpa using hj)).elim
    | succ k=>rw [Pq (show distinct L=true from h) j k i (by simpa using hj) (by simpa using hk)]
  ·rw [ha] at h; cases h
theorem Ul {i j:Nat} {was now new:Option Zd} {l:List (Nat×Zd)} {b':Zd} (h:(j,b')∈Um i was now new l):(j=i/\∃ b,now=some b/\new=some b'/\(was=some b->b'=b))\/(j,b')∈l:=by
 unfold Um at h;split at h
 ·rename_i b c;rcases Ze (rfl:sel (sel (Kv b was) (D7 c b) true) ((i,c)::l) l=_) with ⟨h1,h2⟩ | ⟨_,h2⟩
  ·rw [<- h2] at h;rcases List.mem_cons.1 h with h | h
   ·cases h;refine .inl ⟨rfl,b,rfl,rfl,fun hw => ?_⟩;subst hw;have hs:Kv b (some b)=true:=Uj b;rw [hs] at h1;exact T0 _ _ h1
   ·exact .inr h
  ·rw [<- h2] at h; exact .inr h
 ·exact .inr h
theorem D9 {g:Vn} {S s:St}:∀ {ids:List Nat} {j:Nat} {b':Zd},(j,b')∈Ca g S s ids->j∈ids/\∃ b,s.get j=some b/\Sf g b=some b'/\(S.get j=some b->b'=b)
 | i::ids,j,b',h=>by
  rcases Ul h with ⟨rfl,b,h1,h2,h3⟩ | h
  ·refine ⟨List.mem_cons_self,b,h1,?_,h3⟩;rw [h1] at h2;exact h2
  ·obtain ⟨h1,h2⟩:=D9 h;exact ⟨List.mem_cons_of_mem _ h1,h2⟩
theorem Cb {g:Vn} {s:St}:∀ {N:List (Nat×Nat)} {j:Nat} {b':Zd},(j,b')∈M5 g s N->∃ i b,(i,j)∈N/\s.get i=some b/\Sf g b=some b'
 | (i,k)::N,j,b',h=>by
  have h:(j,b')∈Uo k (ZcX g (s.get i)) (M5 g s N):=h
  have go:(j,b')∈M5 g s N->∃ i' b,(i',j)∈(i,k)::N/\s.get i'=some b/\Sf g b=some b':=fun h=>by
   obtain ⟨i',b,h1,h2,h3⟩:=Cb h;exact ⟨i',b,List.mem_cons_of_mem _ h1,h2,h3⟩
  cases hs:s.get i with
  | none=>rw [hs] at h; exact go h
  | some b =>
   rw [hs] at h;have h:(j,b')∈Uo k (Sf g b) (M5 g s N):=h;cases hr:Sf g b with
   | none=>rw [hr] at h; exact go h
   | some c =>
    rw [hr] at h;rcases List.mem_cons.1 h with h | h
    ·cases h;exact ⟨i,b,List.mem_cons_self,hs,hr⟩
    ·exact go h
def Rho.names (q:Rho) (n:Nat) (L:List Nat):Rho:=fun j=>if j<n then q j else (L[j-n]?).bind q
theorem Cc (q:Rho) (n:Nat) (L:List Nat):Hq q (Vi n (Qc (Xd n L) .lf)) (q.names n L):=by
 intro i j x hg hx;unfold Vi at hg;rcases Ze hg with ⟨h1,h2⟩ | ⟨h1,h2⟩
 ·cases h2;show (if i<n then q i else _)=_;rw [if_pos (QI h1)];exact hx
 ·obtain ⟨h3,h4,h5⟩:=Sg (JA h2);show (if j<n then q j else (L[j-n]?).bind q)=_;rw [if_neg (by omega),h5];exact hx
theorem ZcY {r q:Rho} {S s:St} {w u:World} (hr:Rel r S w) (h:Ext r S w q s u) {L ids:List Nat} (hi:Hs S.next ids=true) (hge:Hr S.next L=true) (hd:distinct L=true) :
  Ext r S w (q.names S.next L) ⟨Qc (Ca (Vi S.next (Qc (Xd S.next L) .lf)) S s ids++M5 (Vi S.next (Qc (Xd S.next L) .lf)) s (Xd S.next L)) .lf,S.next+L.length⟩ u:=by
 have hg:=Cc q S.next L
 generalize Vi S.next (Qc (Xd S.next L) .lf)=g at hg
 generalize hT:(⟨Qc (Ca g S s ids++M5 g s (Xd S.next L)) .lf,S.next+L.length⟩:St)=T
 have yV:T.next=S.next+L.length:=by rw [<- hT]
 have low:∀ {i},i<S.next->q.names S.next L i=q i:=fun {i} hi=>if_pos hi;have high:∀ {i},¬ i<S.next->q.names S.next L i=(L[i-S.next]?).bind q:=fun {i} hi=>if_neg hi
 have from_:∀ i x,q.names S.next L i=some x->∃ k,q k=some x:=fun i x hx=>by
  by_cases hi:i<S.next
  ·rw [low hi] at hx; exact ⟨i,hx⟩
  ·rw [high hi] at hx;cases hl:L[i-S.next]? with
   | none=>rw [hl] at hx; cases hx
   | some k=>rw [hl] at hx; exact ⟨k,hx⟩
 have bV:∀ i b',T.get i=some b'->(i<S.next/\∃ b,s.get i=some b/\Sf g b=some b'/\(S.get i=some b->b'=b))\/(S.next<=i/\i<S.next+L.length/\∃ k b,L[i-S.next]? = some k/\s.get k=some b/\Sf g b=some b'):=by
  intro i b' hb;have hb:(Qc (Ca g S s ids++M5 g s (Xd S.next L)) .lf).get i=some b':=by rw [<- hT] at hb; exact hb
  rcases List.mem_append.1 (JA hb) with h1 | h1
  ·obtain ⟨h2,h3⟩:=D9 h1;exact .inl ⟨D8 hi i h2,h3⟩
  ·obtain ⟨k,b,h2,h3,h4⟩:=Cb h1;obtain ⟨h5,h6,h7⟩:=Sg h2;exact .inr ⟨h5,h6,k,b,h7,h3,h4⟩
 have gq:∀ i b' x,T.get i=some b'->q.names S.next L i=some x->∃ k b,s.get k=some b/\q k=some x/\Sf g b=some b'/\((i<S.next/\k=i)\/(S.next<=i/\L[i-S.next]? = some k)):=by
  intro i b' x hb hx;rcases bV i b' hb with ⟨h1,b,h2,h3,_⟩ | ⟨h1,_,k,b,h2,h3,h4⟩
  ·rw [low h1] at hx;exact ⟨i,b,h2,hx,h3,.inl ⟨h1,rfl⟩⟩
  ·rw [high (by omega),h2] at hx;exact ⟨k,b,h3,hx,h4,.inr ⟨h1,h2⟩⟩
 refine ⟨⟨⟨fun i b' x hb hx => ?_,fun i hi => ?_⟩,fun i j b c x y hb hc hx hy hxy => ?_,fun i x hx => ?_,fun i x g' hx hg' => ?_⟩,fun i x hx => ?_,by omega,h.os,h.tape,h.output,h.size,h.frame,fun i hi fT b hb => ?_,fun i hi hg' => ?_,fun k ⟨i,b,x,hb,hx,hk⟩ => ?_,fun i fT hq => ?_,fun k ⟨i,x,g',hx,hk⟩ => ?_⟩
 ·obtain ⟨k,b,h1,h2,h3,_⟩:=gq i b' x hb hx;obtain ⟨o,h4,h5⟩:=h.rel.block k b x h1 h2;exact ⟨o,h4,h5.ren hg h3⟩
 ·cases hb:T.get i with
  | none=>rfl
  | some b' =>
   rw [yV] at hi;rcases bV i b' hb with ⟨h1,_⟩ | ⟨_,h1,_⟩ <;> omega
 ·obtain ⟨k,b0,h1,h2,_,h3⟩:=gq i b x hb hx;obtain ⟨m,c0,h4,h5,_,h6⟩:=gq j c y hc hy;have:=h.rel.apart k m b0 c0 x y h1 h4 h2 h5 hxy;subst this;rcases h3 with ⟨h3,h7⟩ | ⟨h3,h7⟩ <;> rcases h6 with ⟨h6,h8⟩ | ⟨h6,h8⟩
  ·omega
  ·have:=M4 hge k (List.mem_of_getElem? h8); omega
  ·have:=M4 hge k (List.mem_of_getElem? h7); omega
  ·have:=Pq hd _ _ _ h7 h8; omega
 ·rw [yV];by_cases hi:i<S.next
  ·omega
  ·rw [high hi] at hx;cases hl:L[i-S.next]? with
   | none=>rw [hl] at hx; cases hx
   | some k =>
    have:=(List.getElem?_eq_some_iff.1 hl).1;omega
 ·obtain ⟨k,hk⟩:=from_ i x hx
  exact (h.rel.safe k x g' hk hg').step (Nat.le_refl _) (fun _ _ _=>rfl) fun k ⟨i,b,x,hb,hx,hk⟩=>by
   obtain ⟨m,b0,h1,h2,_⟩:=gq i b x hb hx;exact .inl ⟨m,b0,x,h1,h2,hk⟩
 ·rw [low (hr.known i x hx)];exact h.le i x hx
 ·rcases bV i b hb with ⟨_,b0,h1,_,h3⟩ | ⟨h1,_⟩
  ·have h4:=h.still i hi fT b0 h1;rw [h3 h4];exact h4
  ·omega
 ·cases hb:T.get i with
  | none=>rfl
  | some b' =>
   rcases bV i b' hb with ⟨_,b0,h1,_⟩ | ⟨h1,_⟩
   ·rw [h.dead i hi hg'] at h1; cases h1
   ·omega
 ·obtain ⟨m,b0,h1,h2,_⟩:=gq i b x hb hx;exact h.XP k ⟨m,b0,x,h1,h2,hk⟩
 ·by_cases hi:i<S.next
  ·rw [low hi] at hq;exact h.fresh i fT hq
  ·omega
 ·obtain ⟨m,hm⟩:=from_ i x hx;exact h.Wl k ⟨m,x,g',hm,hk⟩
end Ev
namespace Ev
open Go
variable [Sig] {P:Program}
theorem Tn {cs:List Can}:∀ {l:List (Nat×Zd)} {i:Nat} {b:Zd},(i,b)∈WW cs l->Kl i b cs=true
 | (j,c)::l,i,b,h=>by
  have h:(i,b)∈sel (Kl j c cs) ((j,c)::WW cs l) (WW cs l):=h;cases hh:Kl j c cs
  ·rw [hh] at h;exact Tn (l:=l) h
  ·rw [hh] at h;rcases List.mem_cons.1 h with h | h
   ·cases h; exact hh
   ·exact Tn (l:=l) h
theorem T2 {i:Nat} {b:Zd}:∀ {cs:List Can},Kl i b cs=true->∀ v post m,Can.mk v post m∈cs->(Qc post .lf).get i=some b
 | c::cs,h,v,post,m,hm=>by
  obtain ⟨h1,h2⟩:=ZG h;rcases List.mem_cons.1 hm with hm | hm
  ·subst hm;have h1:Kv b ((Qc post .lf).get i)=true:=h1;unfold Kv at h1;split at h1
   ·rename_i c hc; rw [hc,T0 _ _ h1]
   ·cases h1
  ·exact T2 h2 v post m hm
theorem Ht {v:Zb} {m:Nat}:∀ {cs:List Can},Up v m cs=true->∀ c∈cs,∃ post,c = .mk v post m
 | c::cs,h,d,hd=>by
  obtain ⟨h1,h2⟩:=ZG h;rcases List.mem_cons.1 hd with hd | hd
  ·subst hd;cases d with
   | bad=>cases h1
   | mk u post n =>
    obtain ⟨h3,h4⟩:=ZG h1;rw [QP _ _ h3,ZF h4];exact ⟨post,rfl⟩
  ·exact Ht h2 d hd
theorem Hu {S:St} {ids:List Nat}:∀ {l:List R} {y:R},y∈l->ZcZ S ids y∈Zc0 S ids l
 | z::l,y,h=>by
  rcases List.mem_cons.1 h with h | h
  ·subst h; exact List.mem_cons_self
  ·exact List.mem_cons_of_mem _ (Hu h)
theorem OH {S:St} {ids:List Nat} {y:R} {v':Zb} {post:List (Nat×Zd)} {m:Nat} (h:ZcZ S ids y = .mk v' post m):∃ v s L,y = .ok v s/\Hs S.next ids=true/\Hr S.next L=true/\distinct L=true /\
  TZ (Vi S.next (Qc (Xd S.next L) .lf)) v=some v'/\post=Ca (Vi S.next (Qc (Xd S.next L) .lf)) S s ids++M5 (Vi S.next (Qc (Xd S.next L) .lf)) s (Xd S.next L)/\m=S.next+L.length:=by
 unfold ZcZ at h;split at h
 ·rename_i v s
  generalize Uq ids v s=L at h
  unfold Zkt at h;rcases Ze h with ⟨h1,h⟩ | ⟨_,h⟩
  ·rcases Ze h with ⟨h2,h⟩ | ⟨_,h⟩
   ·rcases Ze h with ⟨h3,h⟩ | ⟨_,h⟩
    ·unfold yX yY at h;split at h
     ·rename_i v1 hv1;cases h;exact ⟨v,s,L,rfl,h1,h2,h3,hv1,rfl,rfl⟩
     ·cases h
    ·cases h
   ·cases h
  ·cases h
 ·cases h
theorem OI {call:Zz} (hcall:Z7 P call) (aR:∀ K,M6 P call K) {kn:Kw} {Zf:T3} {fuel:Nat} {f:FuncId} {fn:Func} {b:Code} (hfn:P.funcs[f]? = some fn) (hname:(fn.name== "runtime.NumGoroutine")=false) (hb:fn.body=some b)
  (aA:Qv (Zbd P ⟨fn.ntmps,Zf⟩ kn) b) (nK:∀ d,Qv (fun _ _ _=>True) d->Qv (Zbd P ⟨fn.ntmps,Zf⟩ kn) d) {args:List Zb} {s s':St} {v:Zb}
  (h:Zc1 P call kn Zf fuel f fn args s fn.body = .ok v s') {r:Rho} {w:World} {us:List Value} (hr:Rel r s w) (hv:VRs r args us) :
  XZ P f ⟨us⟩ w fun u w'=>∃ q,Ext r s w q s' w'/\VR q v u:=by
 rw [hb] at h;have h:Zc2 P call ⟨fn.ntmps,Zf⟩ kn fuel f (XQ P fn.results.toList) b args s (Ur args s) = .ok v s':=h
 generalize Ur args s=ids at h
 unfold Zc2 EP at h
 generalize hS:(⟨Qc (Jo s ids) .lf,s.next⟩:St)=S at h
 have mh:S.next=s.next:=by rw [<- hS]
 have hM:Zv P ⟨fn.ntmps,Zf⟩ b (YY P call ⟨fn.ntmps,Zf⟩ fuel (exL P call ⟨fn.ntmps,Zf⟩ kn fuel) b):=Ku hcall b fun d hd=>Md hcall (aR _) fuel d (nK d hd)
 generalize YY P call ⟨fn.ntmps,Zf⟩ fuel (exL P call ⟨fn.ntmps,Zf⟩ kn fuel) b=F at h hM
 generalize hy:F (Wm ⟨fn.ntmps,Zf⟩ 0 .lf args) S=ys at h
 have hs:∀ i b,S.get i=some b->s.get i=some b:=fun i b hb=>by rw [<- hS] at hb; exact Kx (JA hb)
 have yZ:Rel r S w:=hr.some hs mh
 have hys:∀ y∈ys,∃ v1 s1 L,T4 (XQ P fn.results.toList) y = .ok v1 s1/\Hs S.next ids=true/\Hr S.next L=true/\distinct L=true/\TZ (Vi S.next (Qc (Xd S.next L) .lf)) v1=some v /\
   ∃ E:Ent,E.S=S/\E.n=s.next/\s'=E.Ft s/\E.m=S.next+L.length /\
    ∀ i b,E.S'.get i=some b->(Qc (Ca (Vi S.next (Qc (Xd S.next L) .lf)) S s1 ids++M5 (Vi S.next (Qc (Xd S.next L) .lf)) s1 (Xd S.next L)) .lf).get i=some b:=by
  intro y hmem;have hc:=Hu (S:=S) (ids:=ids) (To (l:=XQ P fn.results.toList) hmem);unfold ES at h;split at h
  ·rename_i v0 post m l hcs;rcases Ze h with ⟨hall,h⟩ | ⟨_,h⟩
   ·cases h;rw [hcs] at hc
    have hex:∃ post',ZcZ S ids (T4 (XQ P fn.results.toList) y) = .mk v post' m/\Can.mk v post' m∈(Can.mk v post m::l):=by
     rcases List.mem_cons.1 hc with hc' | hc'
     ·exact ⟨post,hc',List.mem_cons_self⟩
     ·obtain ⟨post',h1⟩:=Ht hall _ hc';exact ⟨post',h1,h1▸List.mem_cons_of_mem _ hc'⟩
    obtain ⟨post',h1,h2⟩:=hex;obtain ⟨v1,s1,L,h3,h4,h5,h6,h7,h8,h9⟩:=OH h1;refine ⟨v1,s1,L,h3,h4,h5,h6,h7,⟨f,args,Jo s ids,S.next,v,WW (.mk v post m::l) post,m⟩,?_,mh,rfl,h9,fun i b hb => ?_⟩
    ·rw [<- hS];rfl
    ·have:=T2 (Tn (JA hb)) _ _ _ h2;rw [h8] at this;exact this
   ·cases h
  ·cases h
 have hcf:∀ args w,(callFunc f args).run P w = .ok (.enter f args) w:=fun args w=>by
  have hname':fn.name≠ "runtime.NumGoroutine":=by simpa using hname
  simp [callFunc,hfn,hname',hb]
 refine .inr ⟨hcf _ _,?_⟩;refine calls_of_wp hfn hb (hM _ S (fun y hmem hbad => ?_) r w _ _ yZ (M7 hv) fun x e' s1 hmem q a' w' hx he => ?_)
 ·rw [hy] at hmem;obtain ⟨v1,s1,L,h1,_⟩:=hys y hmem;subst hbad;cases h1
 ·rw [hy] at hmem;obtain ⟨v1,s2,L,h1,h4,h5,h6,h7,E,g1,g2,g3,g4,g5⟩:=hys _ hmem;obtain ⟨x',e1,h2,h3,h8⟩:=M8 h1;cases h2;obtain ⟨u,h9,h10⟩:=Tp hx.rel he h8;have tq:=ZcY yZ hx h4 h5 h6
  have hx':Ext r E.S w (q.names S.next L) E.S' w':=by
   rw [g1];exact tq.forget g5 g4
  have hx2:=hx'.beside hr (by rw [g1]; exact hs) g2;rw [<- g3] at hx2;have hv2:=h10.ren (Cc q S.next L) h7;rcases h3 with rfl | rfl
  ·exact ⟨he.defers,u,h9,u,rfl,_,hx2,hv2⟩
  ·exact ⟨he.defers,u,h9,u,rfl,_,hx2,hv2⟩
theorem Cd {B:YT} (hB:Xe P B) (aA:∀ f id,B.reg f id=none) (M:FuncId->Bool) {call:Zz} (hcall:Z7 P call) (aR:∀ K,M6 P call K) (fuel:Nat) (orc:FuncId->Option Orc) (gu:∀ f g,orc f=some g->Qe P f g) :
  Z7 P (fun f args s=>ET P B M call fuel f args s (orc f)):=by
 intro f args s v s' h r w us hr hv;have h:ET P B M call fuel f args s (orc f) = .ok v s':=h;have hB':Xe P { B with orc:=orc }:=⟨hB.fn,hB.reg,gu⟩
 cases ho:orc f with
 | some g =>
  rw [ho] at h;exact gu f g ho args s v s' h r w us hr hv
 | none =>
  rw [ho] at h;have h:sel (M f) (Zhq P call (B.reg f) (B.Zf f) fuel f args s (B.fn f)) (Sh P call (B.reg f) fuel args s (ZfL P call (B.Zf f) (B.reg f) (B.fn f))) = .ok v s':=h;rcases Ze h with ⟨_,h⟩ | ⟨_,h⟩
  ·cases hf:B.fn f with
   | none=>rw [hf] at h; cases h
   | some fn =>
    rw [hf] at h;have h:Zc1 P call (B.reg f) (B.Zf f) fuel f fn args s fn.body = .ok v s':=h;obtain ⟨hfn,hname⟩:=hB.fn f fn hf;cases hb:fn.body with
    | none=>rw [hb] at h; cases h
    | some b =>
     have hk:∀ d,Qv (Zbd P ⟨fn.ntmps,B.Zf f⟩ (B.reg f)) d:=fun d=>Qv.all (fun id ops d g hg=>by rw [aA] at hg; cases hg) d;exact OI hcall aR hfn hname hb (hk b) (fun d _=>hk d) h hr hv
  ·have hs:M9 P { B with orc:=orc } call fuel f args s ((fun _=>none:FuncId->Option Orc) f) = .ok v s':=h;exact Ce (B:={ B with orc:=fun _=>none }) ⟨hB.fn,hB.reg,fun f g h=>by cases h⟩ hcall aR fuel f args s v s' hs r w us hr hv
theorem Ww {B:YT} (hB:Xe P B) (aA:∀ f id,B.reg f id=none) (hm:P.follows .mixedOrders=true) (M:FuncId->Bool) (fuel:Nat):∀ d,Z7 P (Hv P B M fuel d)
 | 0=>fun f args s v s' h=>by cases h
 | d+1=>Cd hB aA M (Ww hB aA hm M fuel d) (fun K=>Fu hm (Ww hB aA hm M fuel d)) fuel B.orc hB.orc
theorem Qm {B:YT} (hB:Xe P B) (aA:∀ f id,B.reg f id=none) (hm:P.follows .mixedOrders=true) {M:FuncId->Bool} {fuel d:Nat} {e:Ent} (h:Qh P B M fuel d e=true):Cf P e:=by
 intro r w us hr hv;unfold Qh y5 at h;split at h
 ·rename_i v s1 he;obtain ⟨h1,h⟩:=ZG h;obtain ⟨h2,h3⟩:=ZG h;have hc:=Cd hB aA M (Ww hB aA hm M fuel d) (fun K=>Fu hm (Ww hB aA hm M fuel d)) fuel (fun _=>none) (fun f g h=>by cases h) e.f e.args e.S v s1 he r w us hr hv;refine hc.mono fun u w' ⟨q,h4,h5⟩=>⟨q,h4.forget (fun i b hb=>T5 h3 i b (JA hb)) (Nat.eq_of_beq_eq_true h2).symm,?_⟩
  rw [<- QP _ _ h1];exact h5
 ·cases h
end Ev
namespace Ev
open Go Go.Proofs Go.Shelf
variable [Sig]
def OJ (n:Nat):FuncId:=match n with
 | 156=>234
 | 165=>374
 | 166=>375
 | 169=>376
 | 240=>466
 | 241=>467
 | 276=>541
 | 277=>542
 | _=>0
def OM (n:Nat):TypeId:=match n with
 | 0=>0
 | 3=>3
 | 4=>4
 | 5=>5
 | 9=>9
 | 20=>20
 | 31=>67
 | 37=>326
 | 70=>526
 | 72=>528
 | 75=>530
 | 76=>531
 | 80=>271
 | 127=>608
 | 164=>664
 | _=>0
def Zkx:Ren:=⟨OJ,OM,fun x=>x⟩
theorem y7:Lays.n156 prog Zkx where
 mixed:=by kernel_rfl
 f156:=by kernel_rfl
 f165:=by kernel_rfl
 f166:=by kernel_rfl
 f169:=by kernel_rfl
 f240:=by kernel_rfl
 f241:=by kernel_rfl
 f276:=by kernel_rfl
 f277:=by kernel_rfl
 t0:=by kernel_rfl
 a0:=fun _=>by kernel_rfl
 z0:=fun _=>by kernel_rfl
 v0:=fun _=>by kernel_rfl
 t3:=by kernel_rfl
 a3:=fun _=>by kernel_rfl
 z3:=fun _=>by kernel_rfl
 v3:=fun _=>by kernel_rfl
 t4:=by kernel_rfl
 a4:=fun _=>by kernel_rfl
 z4:=fun _=>by kernel_rfl
 v4:=fun _=>by kernel_rfl
 t9:=by kernel_rfl
 a9:=fun _=>by kernel_rfl
 z9:=fun _=>by kernel_rfl
 v9:=fun _=>by kernel_rfl
 t20:=by kernel_rfl
 a20:=fun _=>by kernel_rfl
 z20:=fun _=>by kernel_rfl
 v20:=fun _=>by kernel_rfl
 t31:=by kernel_rfl
 a31:=fun _=>by kernel_rfl
 z31:=fun _=>by kernel_rfl
 v31:=fun _=>by kernel_rfl
 t37:=by kernel_rfl
 a37:=fun _=>by kernel_rfl
 z37:=fun _=>by kernel_rfl
 v37:=fun _=>by kernel_rfl
 t70:=by kernel_rfl
 a70:=fun _=>by kernel_rfl
 z70:=fun _=>by kernel_rfl
 v70:=fun _=>by kernel_rfl
 t72:=by kernel_rfl
 a72:=fun _=>by kernel_rfl
 z72:=fun _=>by kernel_rfl
 v72:=fun _=>by kernel_rfl
 t75:=by kernel_rfl
 a75:=fun _=>by kernel_rfl
 z75:=fun _=>by kernel_rfl
 v75:=fun _=>by kernel_rfl
 t76:=by kernel_rfl
 a76:=fun _=>by kernel_rfl
 z76:=fun _=>by kernel_rfl
 v76:=fun _=>by kernel_rfl
 t127:=by kernel_rfl
 a127:=fun _=>by kernel_rfl
 z127:=fun _=>by kernel_rfl
 v127:=fun _=>by kernel_rfl
 t164:=by kernel_rfl
 a164:=fun _=>by kernel_rfl
 z164:=fun _=>by kernel_rfl
 v164:=fun _=>by kernel_rfl
theorem y8:Builder.Extra prog Zkx where
 sizeBuilder:=by kernel_rfl
 liesBuilder:=by kernel_rfl
 t5:=by kernel_rfl
 a5:=fun _=>by kernel_rfl
 z5:=fun _=>by kernel_rfl
 v5:=fun _=>by kernel_rfl
 infoByte:=by kernel_rfl
 cellsByte:=by kernel_rfl
 sizeByte:=by kernel_rfl
 neB5:=by decide
theorem Cg {sep:List UInt8}:∀ {l:List Zb} {x:List UInt8},EU sep l=some x->∃ xs:List (List UInt8),l=xs.map Zb.str/\x=Lib.join xs sep
 | [],x,h=>by cases h; exact ⟨[],rfl,rfl⟩
 | [.str b],x,h=>by cases h; exact ⟨[b],rfl,(Lib.join_one b sep).symm⟩
 | .str b::v::l,x,h=>by
  have h:(match EU sep (v::l) with | some r=>some (b++(sep++r)) | none=>none)=some x:=h;split at h
  ·rename_i y hy;cases h;obtain ⟨xs,h1,h2⟩:=Cg hy;refine ⟨b::xs,by rw [h1]; rfl,?_⟩;cases xs with
   | nil=>cases h1
   | cons c xs =>
    rw [h2,Lib.join_cons,Lib.join_cons];show _=b++((sep++c)++Lib.joinTail sep xs)
    rw [List.append_assoc]
  ·cases h
theorem VRs.strs {r:Rho}:∀ {xs:List (List UInt8)} {us:List Value},VRs r (xs.map Zb.str) us->us=xs.map fun l=>Value.string ⟨⟨l⟩⟩
 | [],_,h=>by cases h; rfl
 | x::xs,_,h=>by
  cases h with
  | cons h t=>cases h; rw [VRs.strs t]; rfl
theorem Ext.below {r:Rho} {s:St} {w w':World} (hr:Rel r s w) (h:Go.RowKit.Below w.heap.size w w'):Ext r s w r s w' :=
 (Ext.refl hr).grow h.block h.size h.os h.tape h.output
theorem Us:Qe prog 234 Zc4:=by
 intro args s v s' h r w us hr hv;have h:tu args s = .ok v s':=h;unfold tu at h;split at h
 ·cases h;cases hv with
  | cons h1 ht =>
   cases ht with
   | cons h2 ht =>
    cases ht;cases h1;cases h2;rename_i sep;exact .inr ⟨call234 _ _,(Any.strings_Join_none y7 y8 none 0 ⟨⟨sep⟩⟩ w).mono fun e w' ⟨he,hw⟩=>⟨_,he,r,by subst hw; exact Ext.refl hr,.str []⟩⟩
 ·rename_i id off n c sep hne;cases hv with
  | cons h1 ht =>
   cases ht with
   | cons h2 ht =>
    cases ht;cases h2;cases h1 with
    | @slice _ _ _ _ x cap hx hn hc hu =>
     unfold Zhs at h;split at h
     ·rename_i cs e o hcs;unfold Na at h;split at h
      ·rename_i l hl;cases h;unfold y9 at hl;split at hl
       ·rename_i l' hsub;obtain ⟨hlen,rfl⟩:=sub_eq hsub;unfold Zky at hl;split at hl
        ·rename_i l2 hj;rcases Ze hl with ⟨g1,hl⟩ | ⟨_,hl⟩
         ·rcases Ze hl with ⟨g2,hl⟩ | ⟨_,hl⟩
          ·cases hl;obtain ⟨xs,h3,rfl⟩:=Cg hj;obtain ⟨b,hb,yT,vs,rest,et,fr,rfl,hvs,ze,hop,hfz⟩:=hr.block _ _ x (ZX hcs) hx
           have hxs:xs.length=n:=by
            have:=congrArg List.length h3;rw [List.length_map,List.length_take,List.length_drop] at this;omega
           have hvl:=hvs.length;have hst:=VRs.strs (h3▸(hvs.drop off).take n);have hdat:(xs.map fun l=>(⟨⟨l⟩⟩:ByteArray)).map (·.data.toList)=xs:=by rw [List.map_map]; exact List.map_id _
           refine .inr ⟨call234 _ _,?_⟩
           have hc:=Any.strings_Join y7 y8 x.blk off cap (xs.map fun l=>(⟨⟨l⟩⟩:ByteArray)) ⟨⟨sep⟩⟩ w (fun j y hy => ?_) (Array.getElem?_eq_some_iff.1 hb).1 (by rw [List.length_map]; have:=Nat.le_of_ble_eq_true g2; omega) (by rw [List.length_map]; omega)
            (by rw [hdat]; have:=Nat.le_of_ble_eq_true g1; exact Nat.le_trans this (by decide))
           ·rw [List.length_map,hxs,hdat] at hc;exact hc.mono fun e w' ⟨he,hw⟩=>⟨_,he,r,Ext.below hr hw,.str _⟩
           ·rw [cell_of hb]
            have hjl:j<n:=by
             have:=(List.getElem?_eq_some_iff.1 hy).1;rw [List.length_map] at this;omega
            have h4:((vs.drop off).take n)[j]? = some (.string y):=by
             rw [hst,List.getElem?_map];rw [List.getElem?_map] at hy;cases hq:xs[j]? with
             | none=>rw [hq] at hy; cases hy
             | some z=>rw [hq] at hy; cases hy; rfl
            rw [List.getElem?_take_of_lt hjl,List.getElem?_drop] at h4;rw [List.getElem?_append_left (by omega)];exact h4
          ·cases hl
         ·cases hl
        ·cases hl
       ·cases hl
      ·cases h
     ·cases h
 ·cases h
end Ev
namespace Ev
open Go Go.Proofs
variable [Sig]
noncomputable def Zkz:Two:=⟨227,3,13,12,Ut⟩
theorem OO {Zf:T3} (hk:Zf 13=true) {id:Nat} {ops:Array Oper} {o0 o1 o2 o3:Oper} (hops:ops = #[o0,o1,o2,o3]) (d0:o0.dst=some 12) (d1:o1.dst=none) (d2:o2.dst=none) (d3:o3.dst=some 13) (p0:o0.op = .alloc 4)
  (p1:o1.op = .store 4 (.tmp 12) (.const (.bool true))) (p2:o2.op = .store 4 (.tmp 12) (.const (.bool false))) (p3:o3.op = .load 4 (.tmp 12)) (g0:o0.guard=none) (g1:o1.guard=none) (g2:o2.guard=none) (g3:o3.guard=none)
  (r0:Region.ready .any ops #[false,false,false,false]=[0]) (r1:Region.ready .any ops #[true,false,false,false]=[1,2]) (r2:Region.ready .any ops #[true,true,false,false]=[2]) (r3:Region.ready .any ops #[true,false,true,false]=[1])
  (r4:Region.ready .any ops #[true,true,true,false]=[3]) (r5:Region.ready .any ops #[true,true,true,true]=[]) :
  Zv prog ⟨Tryz.f227.ntmps,Zf⟩ (.region id ops true) (Pr 13 12):=by
 subst hops;exact Uu Qt rfl rfl rfl rfl rfl d0 d1 d2 d3 p0 p1 p2 p3 g0 g1 g2 g3 r0 r1 r2 r3 r4 r5 (by kernel_rfl) (by kernel_rfl) (by decide) hk (show (13:Nat)<67 by decide) (show (12:Nat)<67 by decide)
theorem Zii (Zf:T3) (hk:Zf 13=true):Qe prog 227 (ZfM prog Zkz Zf Tryz.f227):=by
 refine OP (T:=Zkz) Qt func227 rfl call227 ?_;show Qv (fun id ops d=>id=3->Zv _ _ _ (Pr 13 12)) _
 repeat' first
  | exact trivial
  | refine And.intro ?_ ?_
  | exact fun h=>absurd h (by decide)
  | (intro _; refine OO hk rfl rfl rfl rfl rfl rfl rfl rfl rfl rfl rfl rfl rfl ?_ ?_ ?_ ?_ ?_ ?_ <;> kernel_rfl)
end Ev
namespace Ev
open Go Go.Proofs
variable [Sig]
theorem OQ:fnD (fnT.get 227)=Tryz.f227:=by kernel_rfl
theorem Zc7:fnD (fnT.get 594)=Tryz.f594:=by kernel_rfl
theorem Zc8:fnD (fnT.get 593)=Tryz.f593:=by kernel_rfl
theorem Zc9:fnD (fnT.get 218)=Tryz.f218:=by kernel_rfl
theorem Zda:VF 227 13=true:=by kernel_rfl
theorem Ch:∀ x∈OL,Qe prog x.1 x.2:=by
 intro x hx
 have hx:x∈[(NN.join,Zc4),(NN.add,ZfM prog ⟨NN.add,3,13,12,Ut⟩ (VF NN.add) (fnD (fnT.get NN.add))),(NN.Zdb,Mc NN.Zdc),(NN.Zdd,EK NN.Zde),(NN.clone,Fv),(NN.Ci,VG false (VH prog (fnD (fnT.get NN.Ci)))),
  (NN.Cj,VG true (VH prog (fnD (fnT.get NN.Cj)))),(NN.Ck,VH prog (fnD (fnT.get NN.Ck))),(NN.Zdf,ZfN)]:=hx
 simp only [List.mem_cons,List.not_mem_nil,or_false] at hx;rcases hx with rfl | rfl | rfl | rfl | rfl | rfl | rfl | rfl | rfl
 ·exact Us
 ·have h:=Zii (VF 227) Zda;rw [<- OQ] at h;exact h
 ·exact Zba
 ·exact ZfH
 ·exact Zdg
 ·have h:=Zdh;rw [<- Zc7] at h;exact h
 ·have h:=Zdi;rw [<- Zc8] at h;exact h
 ·have h:=Zdj;rw [<- Zc9] at h;exact h
 ·exact Zik
theorem T6 {L:List (Nat×Orc)} (hL:∀ x∈L,Qe prog x.1 x.2):Xe prog { fn:=fun f=>fnT.get f,Zf:=VF,reg:=fun _ _=>none,orc:=fun f=>(Qc L .lf).get f } :=
 ⟨fun f fn h=>OU f fn h,fun f fn b _ _=>Qv.all (fun _ _ _ g hg=>by cases hg) b,fun f g h=>hL (f,g) (JA h)⟩
theorem zf:Xe prog B0:=T6 Ch
end Ev
end Go.Proofs.YtheflbaejhlboaaGreatDoor
