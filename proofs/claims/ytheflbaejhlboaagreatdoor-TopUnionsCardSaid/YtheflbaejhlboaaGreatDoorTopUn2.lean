/- A part of the proof of a law of package confluencetop: lemmas, no condition of ours. -/
import Derived.Test.YtheflbaejhlboaaGreatDoorTopUn1
import Derived.Shelf.Abstract
import Derived.Test.YtheflbaejhlboaaGreatDoorTopUn0
set_option linter.unusedVariables false
set_option linter.unusedSectionVars false
set_option linter.unusedSimpArgs false
namespace Go.Proofs.YtheflbaejhlboaaGreatDoor
open Go.RowKit
def ZI (p:List Vl×Int):Itm:=⟨p.1,p.2.toNat,(-p.2).toNat⟩
def Zz (l:List (List Vl×Int)):List Itm:=l.map ZI
structure ZR (l:List (List Vl×Int)):Prop where
 row:∀ p∈l,Zl p.1=true
 net:∀ p∈l,p.2≠0 ∧ -1125899906842624≤p.2∧p.2≤1125899906842624
 ord:∀ j p q,l[j]? = some p→l[j+1]? = some q→R9 p.1 q.1=true
set_option maxHeartbeats 4000000 in
set_option maxRecDepth 100000 in
theorem XA {F:Nat→Prop} {w:World} {v:Value} {l:List (List Vl×Int)} (h:Zt F w v (Zz l)) (hz:ZR l) :
  Calls Tryz.prog 172 #[v] w fun e w'=>e = .returned (.bool true)∧Chg (fun _=>False) w w':=by
 obtain ⟨A,cap,rfl,hn,hcap,hat⟩:=h
 have hcl:(Zz l).length=l.length:=List.length_map _
 rw [hcl] at hn hat ⊢
 have HA:=Lib.hid hat
 have HZ:=Lib.hid hz
 clear hat hcl hz
 go_enter Tryz.func172,Tryz.ntmps172
 go_wp2_with fail
 go_loopw [7] (fun i wr=>∃ (I:Nat),I≤l.length∧i = .int .i64 I∧Chg (fun _=>False) w wr) (fun i _=>l.length-(intOf i).toNat)
 case atStart=>exact ⟨0,Nat.zero_le _,rfl,Chg.refl _ _⟩
 case round =>
  obtain ⟨I,hI,rfl,hcw⟩:=hrel
  by_cases hlt:I<l.length
  ·obtain ⟨b,off,rfl,_,hb,hx⟩:=HA.out (by omega)
   obtain ⟨⟨r,n⟩,hxI⟩:∃ x,l[I]? = some x:=⟨_,List.getElem?_eq_getElem hlt⟩
   have hm:=List.mem_of_getElem? hxI
   have hrr:=HZ.out.row _ hm
   obtain ⟨hn0,hnl,hnu⟩:=HZ.out.net _ hm
   simp only at hrr hn0 hnl hnu
   obtain ⟨⟨rv,p0,hrow⟩,p1,_⟩:=hx I (ZI (r,n)) (by rw [Zz,List.getElem?_map,hxI]; rfl)
   simp only [ZI] at hrow p1
   have q0:=hcw.cell p0 (fun h=>h)
   have q1:=hcw.cell p1 (fun h=>h)
   have hrw:=hrow.Zi hcw
   have hr1:∀ W,Chg (fun _=>False) wr W→Calls Tryz.prog 282 #[rv] W fun e w'=>e = .returned (.bool true)∧Chg (fun _=>False) W w':=fun W hc=>by
    have:=Q4 (hrw.Zi hc)
    rwa [hrr] at this
   have hr2:∀ W,Calls Tryz.prog 55 #[.complex .f64 (fl n.toNat) (fl (-n).toNat)] W fun e w'=>e = .returned (.bool true)∧Chg (fun _=>False) W w':=fun W=>Q5 (by omega) (by omega) W
   have hr3:∀ W,Calls Tryz.prog 289 #[.complex .f64 (fl n.toNat) (fl (-n).toNat)] W fun e w'=>e = .returned (.complex .f64 (fl n.toNat) (fl (-n).toNat))∧Chg (fun _=>False) W w':=fun W=>by
    have:=N9 (a:=n.toNat) (b:=(-n).toNat) (by omega) (by omega) W
    rwa [show ((n.toNat:Int)-((-n).toNat:Int))=n by omega] at this
   have he0:∀ W,(binOp .eql 57 (.complex .f64 (fl n.toNat) (fl (-n).toNat)) (.complex .f64 0 0)).run Tryz.prog W = .ok (.bool false) W:=fun W=>by
    have:=H8 (P:=Tryz.prog) (a:=n.toNat) (b:=(-n).toNat) (c:=0) (d:=0) (by omega) (by omega) (by omega) (by omega) 57 W
    rw [Xf] at this
    rw [this]
    congr 2
    by_cases e:n.toNat=0
    ·have:(-n).toNat≠0:=by omega
     simp [e,this]
    ·simp [e]
   have he1:∀ W,(binOp .neq 57 (.complex .f64 (fl n.toNat) (fl (-n).toNat)) (.complex .f64 (fl n.toNat) (fl (-n).toNat))).run Tryz.prog W = .ok (.bool false) W:=fun W=>by
    have:=Xk (P:=Tryz.prog) (a:=n.toNat) (b:=(-n).toNat) (c:=n.toNat) (d:=(-n).toNat) (by omega) (by omega) (by omega) (by omega) 57 W
    rw [this]
    simp
   obtain ⟨RA,rcap,rfl,hr⟩:=hrow
   unfold tc at q1 p1
   have hst:=Z5
   have hbw:=Nat.lt_of_lt_of_le hb hcw.size
   have HX:=Lib.hid hxI
   have HXX:=Lib.hid hx
   clear hxI hx p0 p1 hrr hm hr
   by_cases h0:I=0
   ·subst h0
    simp only [Nat.zero_mul,Nat.add_zero] at q0 q1
    go_wp2_with fail
    have hWd:Chg (fun _=>False) wr ((wr.alloc (.cells #[.slice RA r.length rcap,.complex .f64 (fl n.toNat) (fl (-n).toNat)] 59)).drew):=((Chg.refl _ wr).alloc _).drew
    have c0d:((wr.alloc (.cells #[.slice RA r.length rcap,.complex .f64 (fl n.toNat) (fl (-n).toNat)] 59)).drew).cell? ⟨wr.heap.size,0,none⟩=some (.slice RA r.length rcap):=by go_simp
    have c1d:((wr.alloc (.cells #[.slice RA r.length rcap,.complex .f64 (fl n.toNat) (fl (-n).toNat)] 59)).drew).cell? ⟨wr.heap.size,1,none⟩=some (.complex .f64 (fl n.toNat) (fl (-n).toNat)):=by go_simp
    refine wp_region_held_drew (S:=fun wx=>wx.cell? ⟨wr.heap.size,0,none⟩=some (.slice RA r.length rcap)∧wx.cell? ⟨wr.heap.size,1,none⟩=some (.complex .f64 (fl n.toNat) (fl (-n).toNat))) (by kernel_rfl) ⟨c0d,c1d⟩ (fun hHeld => ?_)
    refine Zg (i:=0) (some 12) (v := ?_) rfl rfl (by kernel_rfl) (by kernel_rfl) (by kernel_rfl) (fun _ _ _ h=>h) (Or.inl ⟨by rfl,?_⟩) (by assumption) ?_
    rotate_left
    ·(intro wx hSw; go_simp; try (with_reducible rfl))
    try simp only [Act.put,List.setIfInBounds_toArray,List.set_cons_zero,List.set_cons_succ]
    refine Zg (i:=1) (some 13) (v := ?_) rfl rfl (by kernel_rfl) (by kernel_rfl) (by kernel_rfl) (fun _ _ _ h=>h) (Or.inl ⟨by rfl,?_⟩) (by assumption) ?_
    rotate_left
    ·(intro wx hSw; go_simp; try (with_reducible rfl))
    try simp only [Act.put,List.setIfInBounds_toArray,List.set_cons_zero,List.set_cons_succ]
    refine wpAnyH_ready (rs:=[2]) (by kernel_rfl) (by simp) ?_
    refine AllReadyH.cons rfl (fun K hK => ?_) AllReadyH.nil
    go_simp
    refine (hr1 _ hWd).mono ?_
    rintro _ wA ⟨rfl,hA⟩
    have hWA:=hWd.trans hA fun _ _ h=>h
    have c0A:=hA.cell c0d (fun h=>h)
    have c1A:=hA.cell c1d (fun h=>h)
    go_wp2_with fail
    refine hK.out _ _ ?_ (fun hHeld => ?_)
    ·((refine ⟨?_,?_⟩ <;> assumption))
    clear hK K
    try simp only [Act.put,List.setIfInBounds_toArray,List.set_cons_zero,List.set_cons_succ]
    refine Zg (i:=3) (some 15) (v := ?_) rfl rfl (by kernel_rfl) (by kernel_rfl) (by kernel_rfl) (fun _ _ _ h=>h) (Or.inl ⟨by rfl,?_⟩) (by assumption) ?_
    rotate_left
    ·(intro wx hSw; go_simp; try (with_reducible rfl))
    try simp only [Act.put,List.setIfInBounds_toArray,List.set_cons_zero,List.set_cons_succ]
    refine Zg (i:=4) (some 16) (v := ?_) rfl rfl (by kernel_rfl) (by kernel_rfl) (by kernel_rfl) (fun _ _ _ h=>h) (Or.inl ⟨by rfl,?_⟩) (by assumption) ?_
    rotate_left
    ·(intro wx hSw; go_simp; try (with_reducible rfl))
    try simp only [Act.put,List.setIfInBounds_toArray,List.set_cons_zero,List.set_cons_succ]
    refine Zg (i:=5) (some 17) (v := ?_) rfl rfl (by kernel_rfl) (by kernel_rfl) (by kernel_rfl) (fun _ _ _ h=>h) (Or.inl ⟨by rfl,?_⟩) (by assumption) ?_
    rotate_left
    ·(intro wx hSw; go_simp; try (with_reducible rfl))
    try simp only [Act.put,List.setIfInBounds_toArray,List.set_cons_zero,List.set_cons_succ]
    refine Zg (i:=6) (some 18) (v := ?_) rfl rfl (by kernel_rfl) (by kernel_rfl) (by kernel_rfl) (fun _ _ _ h=>h) (Or.inl ⟨by rfl,?_⟩) (by assumption) ?_
    rotate_left
    ·(intro wx hSw; go_simp; try (with_reducible rfl))
    try simp only [Act.put,List.setIfInBounds_toArray,List.set_cons_zero,List.set_cons_succ]
    refine wpAnyH_ready (rs:=[7]) (by kernel_rfl) (by simp) ?_
    refine AllReadyH.cons rfl (fun K hK => ?_) AllReadyH.nil
    go_simp
    refine (hr2 _).mono ?_
    rintro _ wB ⟨rfl,hB⟩
    have hWB:=hWA.trans hB fun _ _ h=>h
    have c0B:=hB.cell c0A (fun h=>h)
    have c1B:=hB.cell c1A (fun h=>h)
    go_wp2_with fail
    refine hK.out _ _ ?_ (fun hHeld => ?_)
    ·((refine ⟨?_,?_⟩ <;> assumption))
    clear hK K
    try simp only [Act.put,List.setIfInBounds_toArray,List.set_cons_zero,List.set_cons_succ]
    refine Zg (i:=8) (some 20) (v := ?_) rfl rfl (by kernel_rfl) (by kernel_rfl) (by kernel_rfl) (fun _ _ _ h=>h) (Or.inl ⟨by rfl,?_⟩) (by assumption) ?_
    rotate_left
    ·(intro wx hSw; go_simp; try (with_reducible rfl))
    try simp only [Act.put,List.setIfInBounds_toArray,List.set_cons_zero,List.set_cons_succ]
    refine Zg (i:=9) (some 21) (v := ?_) rfl rfl (by kernel_rfl) (by kernel_rfl) (by kernel_rfl) (fun _ _ _ h=>h) (Or.inl ⟨by rfl,?_⟩) (by assumption) ?_
    rotate_left
    ·(intro wx hSw; go_simp; try (with_reducible rfl))
    try simp only [Act.put,List.setIfInBounds_toArray,List.set_cons_zero,List.set_cons_succ]
    refine Zg (i:=10) (some 22) (v := ?_) rfl rfl (by kernel_rfl) (by kernel_rfl) (by kernel_rfl) (fun _ _ _ h=>h) (Or.inl ⟨by rfl,?_⟩) (by assumption) ?_
    rotate_left
    ·(intro wx hSw; go_simp; try (with_reducible rfl))
    try simp only [Act.put,List.setIfInBounds_toArray,List.set_cons_zero,List.set_cons_succ]
    refine Zg (i:=11) (some 23) (v := ?_) rfl rfl (by kernel_rfl) (by kernel_rfl) (by kernel_rfl) (fun _ _ _ h=>h) (Or.inl ⟨by rfl,?_⟩) (by assumption) ?_
    rotate_left
    ·(intro wx hSw; go_simp; try (with_reducible rfl))
    try simp only [Act.put,List.setIfInBounds_toArray,List.set_cons_zero,List.set_cons_succ]
    refine Zg (i:=12) (some 24) (v := ?_) rfl rfl (by kernel_rfl) (by kernel_rfl) (by kernel_rfl) (fun _ _ _ h=>h) (Or.inl ⟨by rfl,?_⟩) (by assumption) ?_
    rotate_left
    ·(intro wx hSw; go_simp; try (with_reducible rfl))
    try simp only [Act.put,List.setIfInBounds_toArray,List.set_cons_zero,List.set_cons_succ]
    refine Zg (i:=13) (some 25) (v := ?_) rfl rfl (by kernel_rfl) (by kernel_rfl) (by kernel_rfl) (fun _ _ _ h=>h) (Or.inl ⟨by rfl,?_⟩) (by assumption) ?_
    rotate_left
    ·(intro wx hSw; go_simp; try (with_reducible rfl))
    try simp only [Act.put,List.setIfInBounds_toArray,List.set_cons_zero,List.set_cons_succ]
    refine Zg (i:=14) (some 26) (v := ?_) rfl rfl (by kernel_rfl) (by kernel_rfl) (by kernel_rfl) (fun _ _ _ h=>h) (Or.inl ⟨by rfl,?_⟩) (by assumption) ?_
    rotate_left
    ·(intro wx hSw; go_simp; try (with_reducible rfl))
    try simp only [Act.put,List.setIfInBounds_toArray,List.set_cons_zero,List.set_cons_succ]
    refine Zg (i:=15) (some 27) (v := ?_) rfl rfl (by kernel_rfl) (by kernel_rfl) (by kernel_rfl) (fun _ _ _ h=>h) (Or.inl ⟨by rfl,?_⟩) (by assumption) ?_
    rotate_left
    ·(intro wx hSw; go_simp; try (with_reducible rfl))
    try simp only [Act.put,List.setIfInBounds_toArray,List.set_cons_zero,List.set_cons_succ]
    refine Zg (i:=16) (some 28) (v := ?_) rfl rfl (by kernel_rfl) (by kernel_rfl) (by kernel_rfl) (fun _ _ _ h=>h) (Or.inl ⟨by rfl,?_⟩) (by assumption) ?_
    rotate_left
    ·(intro wx hSw; go_simp; try (with_reducible rfl))
    try simp only [Act.put,List.setIfInBounds_toArray,List.set_cons_zero,List.set_cons_succ]
    refine Zg (i:=17) (some 29) (v := ?_) rfl rfl (by kernel_rfl) (by kernel_rfl) (by kernel_rfl) (fun _ _ _ h=>h) (Or.inl ⟨by rfl,?_⟩) (by assumption) ?_
    rotate_left
    ·(intro wx hSw; go_simp; try (with_reducible rfl))
    try simp only [Act.put,List.setIfInBounds_toArray,List.set_cons_zero,List.set_cons_succ]
    refine Zg (i:=19) (some 31) (v := ?_) rfl rfl (by kernel_rfl) (by kernel_rfl) (by kernel_rfl) (fun _ _ _ h=>h) (Or.inl ⟨by rfl,?_⟩) (by assumption) ?_
    rotate_left
    ·(intro wx hSw; go_simp; try (with_reducible rfl))
    try simp only [Act.put,List.setIfInBounds_toArray,List.set_cons_zero,List.set_cons_succ]
    refine Zg (i:=20) (some 32) (v := ?_) rfl rfl (by kernel_rfl) (by kernel_rfl) (by kernel_rfl) (fun _ _ _ h=>h) (Or.inl ⟨by rfl,?_⟩) (by assumption) ?_
    rotate_left
    ·(intro wx hSw; go_simp; try (with_reducible rfl))
    try simp only [Act.put,List.setIfInBounds_toArray,List.set_cons_zero,List.set_cons_succ]
    refine wpAnyH_ready (rs:=[18]) (by kernel_rfl) (by simp) ?_
    refine AllReadyH.cons rfl (fun K hK => ?_) AllReadyH.nil
    go_simp
    refine (hr3 _).mono ?_
    rintro _ wC ⟨rfl,hC⟩
    have hWC:=hWB.trans hC fun _ _ h=>h
    have c0C:=hC.cell c0B (fun h=>h)
    have c1C:=hC.cell c1B (fun h=>h)
    go_wp2_with fail
    refine hK.out _ _ ?_ (fun hHeld => ?_)
    ·((refine ⟨?_,?_⟩ <;> assumption))
    clear hK K
    try simp only [Act.put,List.setIfInBounds_toArray,List.set_cons_zero,List.set_cons_succ]
    refine Zg (i:=21) (some 33) (v := ?_) rfl rfl (by kernel_rfl) (by kernel_rfl) (by kernel_rfl) (fun _ _ _ h=>h) (Or.inl ⟨by rfl,?_⟩) (by assumption) ?_
    rotate_left
    ·(intro wx hSw; go_simp; try (with_reducible rfl))
    try simp only [Act.put,List.setIfInBounds_toArray,List.set_cons_zero,List.set_cons_succ]
    refine Zg (i:=22) (some 34) (v := ?_) rfl rfl (by kernel_rfl) (by kernel_rfl) (by kernel_rfl) (fun _ _ _ h=>h) (Or.inl ⟨by rfl,?_⟩) (by assumption) ?_
    rotate_left
    ·(intro wx hSw; go_simp; try (with_reducible rfl))
    try simp only [Act.put,List.setIfInBounds_toArray,List.set_cons_zero,List.set_cons_succ]
    refine Zg (i:=23) (some 35) (v := ?_) rfl rfl (by kernel_rfl) (by kernel_rfl) (by kernel_rfl) (fun _ _ _ h=>h) (Or.inl ⟨by rfl,?_⟩) (by assumption) ?_
    rotate_left
    ·(intro wx hSw; go_simp; try (with_reducible rfl))
    try simp only [Act.put,List.setIfInBounds_toArray,List.set_cons_zero,List.set_cons_succ]
    refine Zg (i:=24) (some 36) (v := ?_) rfl rfl (by kernel_rfl) (by kernel_rfl) (by kernel_rfl) (fun _ _ _ h=>h) (Or.inl ⟨by rfl,?_⟩) (by assumption) ?_
    rotate_left
    ·(intro wx hSw; go_simp; try (with_reducible rfl))
    try simp only [Act.put,List.setIfInBounds_toArray,List.set_cons_zero,List.set_cons_succ]
    refine Zg (i:=25) (some 37) (v := ?_) rfl rfl (by kernel_rfl) (by kernel_rfl) (by kernel_rfl) (fun _ _ _ h=>h) (Or.inl ⟨by rfl,?_⟩) (by assumption) ?_
    rotate_left
    ·(intro wx hSw; go_simp; try (with_reducible rfl))
    try simp only [Act.put,List.setIfInBounds_toArray,List.set_cons_zero,List.set_cons_succ]
    refine Zg (i:=26) (some 38) (v := ?_) rfl rfl (by kernel_rfl) (by kernel_rfl) (by kernel_rfl) (fun _ _ _ h=>h) (Or.inl ⟨by rfl,?_⟩) (by assumption) ?_
    rotate_left
    ·(intro wx hSw; go_simp; try (with_reducible rfl))
    try simp only [Act.put,List.setIfInBounds_toArray,List.set_cons_zero,List.set_cons_succ]
    refine Zg (i:=27) (some 39) (v:=undef) rfl rfl (by kernel_rfl) (by kernel_rfl) (by kernel_rfl) (fun _ _ _ h=>h) (Or.inr ⟨by rfl,rfl⟩) (by assumption) ?_
    try simp only [Act.put,List.setIfInBounds_toArray,List.set_cons_zero,List.set_cons_succ]
    refine Zg (i:=28) (some 40) (v:=undef) rfl rfl (by kernel_rfl) (by kernel_rfl) (by kernel_rfl) (fun _ _ _ h=>h) (Or.inr ⟨by rfl,rfl⟩) (by assumption) ?_
    try simp only [Act.put,List.setIfInBounds_toArray,List.set_cons_zero,List.set_cons_succ]
    refine Zg (i:=29) (some 41) (v:=undef) rfl rfl (by kernel_rfl) (by kernel_rfl) (by kernel_rfl) (fun _ _ _ h=>h) (Or.inr ⟨by rfl,rfl⟩) (by assumption) ?_
    try simp only [Act.put,List.setIfInBounds_toArray,List.set_cons_zero,List.set_cons_succ]
    refine Zg (i:=30) (some 42) (v:=undef) rfl rfl (by kernel_rfl) (by kernel_rfl) (by kernel_rfl) (fun _ _ _ h=>h) (Or.inr ⟨by rfl,rfl⟩) (by assumption) ?_
    try simp only [Act.put,List.setIfInBounds_toArray,List.set_cons_zero,List.set_cons_succ]
    refine Zg (i:=31) (some 43) (v:=undef) rfl rfl (by kernel_rfl) (by kernel_rfl) (by kernel_rfl) (fun _ _ _ h=>h) (Or.inr ⟨by rfl,rfl⟩) (by assumption) ?_
    try simp only [Act.put,List.setIfInBounds_toArray,List.set_cons_zero,List.set_cons_succ]
    refine Zg (i:=32) (some 44) (v:=undef) rfl rfl (by kernel_rfl) (by kernel_rfl) (by kernel_rfl) (fun _ _ _ h=>h) (Or.inr ⟨by rfl,rfl⟩) (by assumption) ?_
    try simp only [Act.put,List.setIfInBounds_toArray,List.set_cons_zero,List.set_cons_succ]
    refine Zg (i:=33) (some 45) (v:=undef) rfl rfl (by kernel_rfl) (by kernel_rfl) (by kernel_rfl) (fun _ _ _ h=>h) (Or.inr ⟨by rfl,rfl⟩) (by assumption) ?_
    try simp only [Act.put,List.setIfInBounds_toArray,List.set_cons_zero,List.set_cons_succ]
    refine Zg (i:=34) (some 46) (v:=undef) rfl rfl (by kernel_rfl) (by kernel_rfl) (by kernel_rfl) (fun _ _ _ h=>h) (Or.inr ⟨by rfl,rfl⟩) (by assumption) ?_
    try simp only [Act.put,List.setIfInBounds_toArray,List.set_cons_zero,List.set_cons_succ]
    refine Zg (i:=35) (some 47) (v:=undef) rfl rfl (by kernel_rfl) (by kernel_rfl) (by kernel_rfl) (fun _ _ _ h=>h) (Or.inr ⟨by rfl,rfl⟩) (by assumption) ?_
    try simp only [Act.put,List.setIfInBounds_toArray,List.set_cons_zero,List.set_cons_succ]
    refine Zg (i:=36) (some 48) (v:=undef) rfl rfl (by kernel_rfl) (by kernel_rfl) (by kernel_rfl) (fun _ _ _ h=>h) (Or.inr ⟨by rfl,rfl⟩) (by assumption) ?_
    try simp only [Act.put,List.setIfInBounds_toArray,List.set_cons_zero,List.set_cons_succ]
    refine Zg (i:=37) (some 49) (v := ?_) rfl rfl (by kernel_rfl) (by kernel_rfl) (by kernel_rfl) (fun _ _ _ h=>h) (Or.inl ⟨by rfl,?_⟩) (by assumption) ?_
    rotate_left
    ·(intro wx hSw; go_simp; try (with_reducible rfl))
    try simp only [Act.put,List.setIfInBounds_toArray,List.set_cons_zero,List.set_cons_succ]
    refine Zg (i:=38) (some 50) (v := ?_) rfl rfl (by kernel_rfl) (by kernel_rfl) (by kernel_rfl) (fun _ _ _ h=>h) (Or.inl ⟨by rfl,?_⟩) (by assumption) ?_
    rotate_left
    ·(intro wx hSw; go_simp; try (with_reducible rfl))
    try simp only [Act.put,List.setIfInBounds_toArray,List.set_cons_zero,List.set_cons_succ]
    refine wpAnyH_done (by kernel_rfl) ?_ _
    go_wp2_with fail
    go_roundw
    case rel=>exact ⟨1,by omega,by go_num,hcw.trans hWC fun _ _ h=>h⟩
    case measure=>simp [intOf]; omega
   ·obtain ⟨J,rfl⟩:∃ J,I=J+1:=⟨I-1,by omega⟩
    obtain ⟨⟨r2,n2⟩,hxJ⟩:∃ x,l[J]? = some x:=⟨_,List.getElem?_eq_getElem (by omega)⟩
    have hless:=HZ.out.ord _ _ _ hxJ HX.out
    simp only at hless
    obtain ⟨⟨rv2,p2,hrow2⟩,_⟩:=HXX.out J (ZI (r2,n2)) (by rw [Zz,List.getElem?_map,hxJ]; rfl)
    simp only [ZI] at hrow2
    have q2:=hcw.cell p2 (fun h=>h)
    have hrw2:=hrow2.Zi hcw
    have hr4:∀ W,Chg (fun _=>False) wr W→Calls Tryz.prog 290 #[rv2,.slice RA r.length rcap] W fun e w'=>e = .returned (.bool true)∧Chg (fun _=>False) W w':=fun W hc=>by
     have:=Hx (hrw2.Zi hc) (hrw.Zi hc)
     rwa [hless] at this
    obtain ⟨RA2,rcap2,rfl,hr2'⟩:=hrow2
    clear hxJ hless p2 hr2'
    have hW1:IntKind.i64.wrap (J:Int)=(J:Int):=IntWalk.i64_in _ (by omega)
    have hJl:(J:Int)<(l.length:Int):=by omega
    have hJl2:J<l.length:=by omega
    go_wp2_with fail
    have hWd:Chg (fun _=>False) wr ((wr.alloc (.cells #[.slice RA r.length rcap,.complex .f64 (fl n.toNat) (fl (-n).toNat)] 59)).drew):=((Chg.refl _ wr).alloc _).drew
    have c0d:((wr.alloc (.cells #[.slice RA r.length rcap,.complex .f64 (fl n.toNat) (fl (-n).toNat)] 59)).drew).cell? ⟨wr.heap.size,0,none⟩=some (.slice RA r.length rcap):=by go_simp
    have c1d:((wr.alloc (.cells #[.slice RA r.length rcap,.complex .f64 (fl n.toNat) (fl (-n).toNat)] 59)).drew).cell? ⟨wr.heap.size,1,none⟩=some (.complex .f64 (fl n.toNat) (fl (-n).toNat)):=by go_simp
    have c2d:=hWd.cell q2 (fun h=>h)
    refine wp_region_held_drew (S:=fun wx=>wx.cell? ⟨wr.heap.size,0,none⟩=some (.slice RA r.length rcap)∧wx.cell? ⟨wr.heap.size,1,none⟩=some (.complex .f64 (fl n.toNat) (fl (-n).toNat))∧wx.cell? ⟨b,off+J*2,none⟩=some (.slice RA2 r2.length rcap2)) (by kernel_rfl) ⟨c0d,c1d,c2d⟩ (fun hHeld => ?_)
    refine Zg (i:=0) (some 12) (v := ?_) rfl rfl (by kernel_rfl) (by kernel_rfl) (by kernel_rfl) (fun _ _ _ h=>h) (Or.inl ⟨by rfl,?_⟩) (by assumption) ?_
    rotate_left
    ·(intro wx hSw; go_simp; try (with_reducible rfl))
    try simp only [Act.put,List.setIfInBounds_toArray,List.set_cons_zero,List.set_cons_succ]
    refine Zg (i:=1) (some 13) (v := ?_) rfl rfl (by kernel_rfl) (by kernel_rfl) (by kernel_rfl) (fun _ _ _ h=>h) (Or.inl ⟨by rfl,?_⟩) (by assumption) ?_
    rotate_left
    ·(intro wx hSw; go_simp; try (with_reducible rfl))
    try simp only [Act.put,List.setIfInBounds_toArray,List.set_cons_zero,List.set_cons_succ]
    refine wpAnyH_ready (rs:=[2]) (by kernel_rfl) (by simp) ?_
    refine AllReadyH.cons rfl (fun K hK => ?_) AllReadyH.nil
    go_simp
    refine (hr1 _ hWd).mono ?_
    rintro _ wA ⟨rfl,hA⟩
    have hWA:=hWd.trans hA fun _ _ h=>h
    have c0A:=hA.cell c0d (fun h=>h)
    have c1A:=hA.cell c1d (fun h=>h)
    have c2A:=hA.cell c2d (fun h=>h)
    go_wp2_with fail
    refine hK.out _ _ ?_ (fun hHeld => ?_)
    ·((refine ⟨?_,?_,?_⟩ <;> assumption))
    clear hK K
    try simp only [Act.put,List.setIfInBounds_toArray,List.set_cons_zero,List.set_cons_succ]
    refine Zg (i:=3) (some 15) (v := ?_) rfl rfl (by kernel_rfl) (by kernel_rfl) (by kernel_rfl) (fun _ _ _ h=>h) (Or.inl ⟨by rfl,?_⟩) (by assumption) ?_
    rotate_left
    ·(intro wx hSw; go_simp; try (with_reducible rfl))
    try simp only [Act.put,List.setIfInBounds_toArray,List.set_cons_zero,List.set_cons_succ]
    refine Zg (i:=4) (some 16) (v := ?_) rfl rfl (by kernel_rfl) (by kernel_rfl) (by kernel_rfl) (fun _ _ _ h=>h) (Or.inl ⟨by rfl,?_⟩) (by assumption) ?_
    rotate_left
    ·(intro wx hSw; go_simp; try (with_reducible rfl))
    try simp only [Act.put,List.setIfInBounds_toArray,List.set_cons_zero,List.set_cons_succ]
    refine Zg (i:=5) (some 17) (v := ?_) rfl rfl (by kernel_rfl) (by kernel_rfl) (by kernel_rfl) (fun _ _ _ h=>h) (Or.inl ⟨by rfl,?_⟩) (by assumption) ?_
    rotate_left
    ·(intro wx hSw; go_simp; try (with_reducible rfl))
    try simp only [Act.put,List.setIfInBounds_toArray,List.set_cons_zero,List.set_cons_succ]
    refine Zg (i:=6) (some 18) (v := ?_) rfl rfl (by kernel_rfl) (by kernel_rfl) (by kernel_rfl) (fun _ _ _ h=>h) (Or.inl ⟨by rfl,?_⟩) (by assumption) ?_
    rotate_left
    ·(intro wx hSw; go_simp; try (with_reducible rfl))
    try simp only [Act.put,List.setIfInBounds_toArray,List.set_cons_zero,List.set_cons_succ]
    refine wpAnyH_ready (rs:=[7]) (by kernel_rfl) (by simp) ?_
    refine AllReadyH.cons rfl (fun K hK => ?_) AllReadyH.nil
    go_simp
    refine (hr2 _).mono ?_
    rintro _ wB ⟨rfl,hB⟩
    have hWB:=hWA.trans hB fun _ _ h=>h
    have c0B:=hB.cell c0A (fun h=>h)
    have c1B:=hB.cell c1A (fun h=>h)
    have c2B:=hB.cell c2A (fun h=>h)
    go_wp2_with fail
    refine hK.out _ _ ?_ (fun hHeld => ?_)
    ·((refine ⟨?_,?_,?_⟩ <;> assumption))
    clear hK K
    try simp only [Act.put,List.setIfInBounds_toArray,List.set_cons_zero,List.set_cons_succ]
    refine Zg (i:=8) (some 20) (v := ?_) rfl rfl (by kernel_rfl) (by kernel_rfl) (by kernel_rfl) (fun _ _ _ h=>h) (Or.inl ⟨by rfl,?_⟩) (by assumption) ?_
    rotate_left
    ·(intro wx hSw; go_simp; try (with_reducible rfl))
    try simp only [Act.put,List.setIfInBounds_toArray,List.set_cons_zero,List.set_cons_succ]
    refine Zg (i:=9) (some 21) (v := ?_) rfl rfl (by kernel_rfl) (by kernel_rfl) (by kernel_rfl) (fun _ _ _ h=>h) (Or.inl ⟨by rfl,?_⟩) (by assumption) ?_
    rotate_left
    ·(intro wx hSw; go_simp; try (with_reducible rfl))
    try simp only [Act.put,List.setIfInBounds_toArray,List.set_cons_zero,List.set_cons_succ]
    refine Zg (i:=10) (some 22) (v := ?_) rfl rfl (by kernel_rfl) (by kernel_rfl) (by kernel_rfl) (fun _ _ _ h=>h) (Or.inl ⟨by rfl,?_⟩) (by assumption) ?_
    rotate_left
    ·(intro wx hSw; go_simp; try (with_reducible rfl))
    try simp only [Act.put,List.setIfInBounds_toArray,List.set_cons_zero,List.set_cons_succ]
    refine Zg (i:=11) (some 23) (v := ?_) rfl rfl (by kernel_rfl) (by kernel_rfl) (by kernel_rfl) (fun _ _ _ h=>h) (Or.inl ⟨by rfl,?_⟩) (by assumption) ?_
    rotate_left
    ·(intro wx hSw; go_simp; try (with_reducible rfl))
    try simp only [Act.put,List.setIfInBounds_toArray,List.set_cons_zero,List.set_cons_succ]
    refine Zg (i:=12) (some 24) (v := ?_) rfl rfl (by kernel_rfl) (by kernel_rfl) (by kernel_rfl) (fun _ _ _ h=>h) (Or.inl ⟨by rfl,?_⟩) (by assumption) ?_
    rotate_left
    ·(intro wx hSw; go_simp; try (with_reducible rfl))
    try simp only [Act.put,List.setIfInBounds_toArray,List.set_cons_zero,List.set_cons_succ]
    refine Zg (i:=13) (some 25) (v := ?_) rfl rfl (by kernel_rfl) (by kernel_rfl) (by kernel_rfl) (fun _ _ _ h=>h) (Or.inl ⟨by rfl,?_⟩) (by assumption) ?_
    rotate_left
    ·(intro wx hSw; go_simp; try (with_reducible rfl))
    try simp only [Act.put,List.setIfInBounds_toArray,List.set_cons_zero,List.set_cons_succ]
    refine Zg (i:=14) (some 26) (v := ?_) rfl rfl (by kernel_rfl) (by kernel_rfl) (by kernel_rfl) (fun _ _ _ h=>h) (Or.inl ⟨by rfl,?_⟩) (by assumption) ?_
    rotate_left
    ·(intro wx hSw; go_simp; try (with_reducible rfl))
    try simp only [Act.put,List.setIfInBounds_toArray,List.set_cons_zero,List.set_cons_succ]
    refine Zg (i:=15) (some 27) (v := ?_) rfl rfl (by kernel_rfl) (by kernel_rfl) (by kernel_rfl) (fun _ _ _ h=>h) (Or.inl ⟨by rfl,?_⟩) (by assumption) ?_
    rotate_left
    ·(intro wx hSw; go_simp; try (with_reducible rfl))
    try simp only [Act.put,List.setIfInBounds_toArray,List.set_cons_zero,List.set_cons_succ]
    refine Zg (i:=16) (some 28) (v := ?_) rfl rfl (by kernel_rfl) (by kernel_rfl) (by kernel_rfl) (fun _ _ _ h=>h) (Or.inl ⟨by rfl,?_⟩) (by assumption) ?_
    rotate_left
    ·(intro wx hSw; go_simp; try (with_reducible rfl))
    try simp only [Act.put,List.setIfInBounds_toArray,List.set_cons_zero,List.set_cons_succ]
    refine Zg (i:=17) (some 29) (v := ?_) rfl rfl (by kernel_rfl) (by kernel_rfl) (by kernel_rfl) (fun _ _ _ h=>h) (Or.inl ⟨by rfl,?_⟩) (by assumption) ?_
    rotate_left
    ·(intro wx hSw; go_simp; try (with_reducible rfl))
    try simp only [Act.put,List.setIfInBounds_toArray,List.set_cons_zero,List.set_cons_succ]
    refine Zg (i:=19) (some 31) (v := ?_) rfl rfl (by kernel_rfl) (by kernel_rfl) (by kernel_rfl) (fun _ _ _ h=>h) (Or.inl ⟨by rfl,?_⟩) (by assumption) ?_
    rotate_left
    ·(intro wx hSw; go_simp; try (with_reducible rfl))
    try simp only [Act.put,List.setIfInBounds_toArray,List.set_cons_zero,List.set_cons_succ]
    refine Zg (i:=20) (some 32) (v := ?_) rfl rfl (by kernel_rfl) (by kernel_rfl) (by kernel_rfl) (fun _ _ _ h=>h) (Or.inl ⟨by rfl,?_⟩) (by assumption) ?_
    rotate_left
    ·(intro wx hSw; go_simp; try (with_reducible rfl))
    try simp only [Act.put,List.setIfInBounds_toArray,List.set_cons_zero,List.set_cons_succ]
    refine wpAnyH_ready (rs:=[18]) (by kernel_rfl) (by simp) ?_
    refine AllReadyH.cons rfl (fun K hK => ?_) AllReadyH.nil
    go_simp
    refine (hr3 _).mono ?_
    rintro _ wC ⟨rfl,hC⟩
    have hWC:=hWB.trans hC fun _ _ h=>h
    have c0C:=hC.cell c0B (fun h=>h)
    have c1C:=hC.cell c1B (fun h=>h)
    have c2C:=hC.cell c2B (fun h=>h)
    go_wp2_with fail
    refine hK.out _ _ ?_ (fun hHeld => ?_)
    ·((refine ⟨?_,?_,?_⟩ <;> assumption))
    clear hK K
    try simp only [Act.put,List.setIfInBounds_toArray,List.set_cons_zero,List.set_cons_succ]
    refine Zg (i:=21) (some 33) (v := ?_) rfl rfl (by kernel_rfl) (by kernel_rfl) (by kernel_rfl) (fun _ _ _ h=>h) (Or.inl ⟨by rfl,?_⟩) (by assumption) ?_
    rotate_left
    ·(intro wx hSw; go_simp; try (with_reducible rfl))
    try simp only [Act.put,List.setIfInBounds_toArray,List.set_cons_zero,List.set_cons_succ]
    refine Zg (i:=22) (some 34) (v := ?_) rfl rfl (by kernel_rfl) (by kernel_rfl) (by kernel_rfl) (fun _ _ _ h=>h) (Or.inl ⟨by rfl,?_⟩) (by assumption) ?_
    rotate_left
    ·(intro wx hSw; go_simp; try (with_reducible rfl))
    try simp only [Act.put,List.setIfInBounds_toArray,List.set_cons_zero,List.set_cons_succ]
    refine Zg (i:=23) (some 35) (v := ?_) rfl rfl (by kernel_rfl) (by kernel_rfl) (by kernel_rfl) (fun _ _ _ h=>h) (Or.inl ⟨by rfl,?_⟩) (by assumption) ?_
    rotate_left
    ·(intro wx hSw; go_simp; try (with_reducible rfl))
    try simp only [Act.put,List.setIfInBounds_toArray,List.set_cons_zero,List.set_cons_succ]
    refine Zg (i:=24) (some 36) (v := ?_) rfl rfl (by kernel_rfl) (by kernel_rfl) (by kernel_rfl) (fun _ _ _ h=>h) (Or.inl ⟨by rfl,?_⟩) (by assumption) ?_
    rotate_left
    ·(intro wx hSw; go_simp; try (with_reducible rfl))
    try simp only [Act.put,List.setIfInBounds_toArray,List.set_cons_zero,List.set_cons_succ]
    refine Zg (i:=25) (some 37) (v := ?_) rfl rfl (by kernel_rfl) (by kernel_rfl) (by kernel_rfl) (fun _ _ _ h=>h) (Or.inl ⟨by rfl,?_⟩) (by assumption) ?_
    rotate_left
    ·(intro wx hSw; go_simp; try (with_reducible rfl))
    try simp only [Act.put,List.setIfInBounds_toArray,List.set_cons_zero,List.set_cons_succ]
    refine Zg (i:=26) (some 38) (v := ?_) rfl rfl (by kernel_rfl) (by kernel_rfl) (by kernel_rfl) (fun _ _ _ h=>h) (Or.inl ⟨by rfl,?_⟩) (by assumption) ?_
    rotate_left
    ·(intro wx hSw; go_simp; try (with_reducible rfl))
    try simp only [Act.put,List.setIfInBounds_toArray,List.set_cons_zero,List.set_cons_succ]
    refine Zg (i:=27) (some 39) (v := ?_) rfl rfl (by kernel_rfl) (by kernel_rfl) (by kernel_rfl) (fun _ _ _ h=>h) (Or.inl ⟨by rfl,?_⟩) (by assumption) ?_
    rotate_left
    ·(intro wx hSw; go_simp; try (with_reducible rfl))
    try simp only [Act.put,List.setIfInBounds_toArray,List.set_cons_zero,List.set_cons_succ]
    refine Zg (i:=28) (some 40) (v := ?_) rfl rfl (by kernel_rfl) (by kernel_rfl) (by kernel_rfl) (fun _ _ _ h=>h) (Or.inl ⟨by rfl,?_⟩) (by assumption) ?_
    rotate_left
    ·(intro wx hSw; go_simp; try (with_reducible rfl))
    try simp only [Act.put,List.setIfInBounds_toArray,List.set_cons_zero,List.set_cons_succ]
    refine Zg (i:=29) (some 41) (v := ?_) rfl rfl (by kernel_rfl) (by kernel_rfl) (by kernel_rfl) (fun _ _ _ h=>h) (Or.inl ⟨by rfl,?_⟩) (by assumption) ?_
    rotate_left
    ·(intro wx hSw; go_simp; try (with_reducible rfl))
    try simp only [Act.put,List.setIfInBounds_toArray,List.set_cons_zero,List.set_cons_succ]
    refine Zg (i:=30) (some 42) (v := ?_) rfl rfl (by kernel_rfl) (by kernel_rfl) (by kernel_rfl) (fun _ _ _ h=>h) (Or.inl ⟨by rfl,?_⟩) (by assumption) ?_
    rotate_left
    ·(intro wx hSw; go_simp; try (with_reducible rfl))
    try simp only [Act.put,List.setIfInBounds_toArray,List.set_cons_zero,List.set_cons_succ]
    refine Zg (i:=31) (some 43) (v := ?_) rfl rfl (by kernel_rfl) (by kernel_rfl) (by kernel_rfl) (fun _ _ _ h=>h) (Or.inl ⟨by rfl,?_⟩) (by assumption) ?_
    rotate_left
    ·(intro wx hSw; go_simp; try (with_reducible rfl))
    try simp only [Act.put,List.setIfInBounds_toArray,List.set_cons_zero,List.set_cons_succ]
    refine Zg (i:=32) (some 44) (v := ?_) rfl rfl (by kernel_rfl) (by kernel_rfl) (by kernel_rfl) (fun _ _ _ h=>h) (Or.inl ⟨by rfl,?_⟩) (by assumption) ?_
    rotate_left
    ·(intro wx hSw; go_simp; try (with_reducible rfl))
    try simp only [Act.put,List.setIfInBounds_toArray,List.set_cons_zero,List.set_cons_succ]
    refine Zg (i:=33) (some 45) (v := ?_) rfl rfl (by kernel_rfl) (by kernel_rfl) (by kernel_rfl) (fun _ _ _ h=>h) (Or.inl ⟨by rfl,?_⟩) (by assumption) ?_
    rotate_left
    ·(intro wx hSw; go_simp; try (with_reducible rfl))
    try simp only [Act.put,List.setIfInBounds_toArray,List.set_cons_zero,List.set_cons_succ]
    refine Zg (i:=34) (some 46) (v := ?_) rfl rfl (by kernel_rfl) (by kernel_rfl) (by kernel_rfl) (fun _ _ _ h=>h) (Or.inl ⟨by rfl,?_⟩) (by assumption) ?_
    rotate_left
    ·(intro wx hSw; go_simp; try (with_reducible rfl))
    try simp only [Act.put,List.setIfInBounds_toArray,List.set_cons_zero,List.set_cons_succ]
    refine wpAnyH_ready (rs:=[35]) (by kernel_rfl) (by simp) ?_
    refine AllReadyH.cons rfl (fun K hK => ?_) AllReadyH.nil
    go_simp
    refine (hr4 _ hWC).mono ?_
    rintro _ wD ⟨rfl,hD⟩
    have hWD:=hWC.trans hD fun _ _ h=>h
    have c0D:=hD.cell c0C (fun h=>h)
    have c1D:=hD.cell c1C (fun h=>h)
    have c2D:=hD.cell c2C (fun h=>h)
    go_wp2_with fail
    refine hK.out _ _ ?_ (fun hHeld => ?_)
    ·((refine ⟨?_,?_,?_⟩ <;> assumption))
    clear hK K
    try simp only [Act.put,List.setIfInBounds_toArray,List.set_cons_zero,List.set_cons_succ]
    refine Zg (i:=36) (some 48) (v := ?_) rfl rfl (by kernel_rfl) (by kernel_rfl) (by kernel_rfl) (fun _ _ _ h=>h) (Or.inl ⟨by rfl,?_⟩) (by assumption) ?_
    rotate_left
    ·(intro wx hSw; go_simp; try (with_reducible rfl))
    try simp only [Act.put,List.setIfInBounds_toArray,List.set_cons_zero,List.set_cons_succ]
    refine Zg (i:=37) (some 49) (v := ?_) rfl rfl (by kernel_rfl) (by kernel_rfl) (by kernel_rfl) (fun _ _ _ h=>h) (Or.inl ⟨by rfl,?_⟩) (by assumption) ?_
    rotate_left
    ·(intro wx hSw; go_simp; try (with_reducible rfl))
    try simp only [Act.put,List.setIfInBounds_toArray,List.set_cons_zero,List.set_cons_succ]
    refine Zg (i:=38) (some 50) (v := ?_) rfl rfl (by kernel_rfl) (by kernel_rfl) (by kernel_rfl) (fun _ _ _ h=>h) (Or.inl ⟨by rfl,?_⟩) (by assumption) ?_
    rotate_left
    ·(intro wx hSw; go_simp; try (with_reducible rfl))
    try simp only [Act.put,List.setIfInBounds_toArray,List.set_cons_zero,List.set_cons_succ]
    refine wpAnyH_done (by kernel_rfl) ?_ _
    go_wp2_with fail
    go_roundw
    case rel=>exact ⟨J+2,by omega,by go_num,hcw.trans hWD fun _ _ h=>h⟩
    case measure=>simp [intOf]; omega
  ·have hge:¬ ((I:Int)<(l.length:Int)):=by omega
   go_wp2_with fail
   go_ret
   exact ⟨rfl,hcw⟩
end Go.Proofs.YtheflbaejhlboaaGreatDoor
namespace Go.Proofs.YtheflbaejhlboaaGreatDoor
open Go.RowKit
def Ql:List (List Vl×Int)→List Vl→Int
 | [],_=>0
 | p::l,r=>if XX p.1 r then p.2 else Ql l r
theorem ZU (l:List (List Vl×Int)):(Zz l).length=l.length:=List.length_map _
theorem PT {l:List (List Vl×Int)} {j:Nat} {p:List Vl×Int} (h:l[j]? = some p):(Zz l)[j]? = some (ZI p):=by rw [Zz,List.getElem?_map,h]; rfl
theorem ZaY {α : Type} {l:List α} {I:Nat} {x : α} (h:l[I]? = some x):l.drop I=x::l.drop (I+1):=by
 obtain ⟨h1,h2⟩:=List.getElem?_eq_some_iff.1 h
 rw [← h2]
 exact List.drop_eq_getElem_cons h1
set_option maxHeartbeats 1000000 in
theorem TQ {F G:Nat→Prop} {w:World} {v u:Value} {l:List (List Vl×Int)} {r:List Vl} (h:Zt F w v (Zz l)) (hz:ZR l) (hu:Zq G w u r) :
  Calls Tryz.prog 166 #[v,u] w fun e w'=>e = .returned (tn (Ql l r))∧Chg (fun _=>False) w w':=by
 have hr:=XA h hz
 have hS:=fun (v2:Value) (q:List Vl) (hq:Zq F w v2 q) w1 (hc:Chg (fun _=>False) w w1)=>Ra (hq.Zi hc) (hu.Zi hc)
 obtain ⟨A,cap,rfl,hn,hcap,hat⟩:=h
 obtain ⟨UA,ucap,rfl,hu1,hu2,_⟩:=hu
 rw [ZU] at hn hat hr ⊢
 have HA:=Lib.hid hat
 have HZ:=Lib.hid hz
 clear hat hz
 go_enter Tryz.func166,Tryz.ntmps166
 go_wp2_with fail
 refine hr.mono ?_
 rintro _ w1 ⟨rfl,hc1⟩
 go_wp2_with fail
 go_loopw [12] (fun i wr=>∃ (I:Nat),I≤l.length∧i = .int .i64 I∧Hid (Ql l r=Ql (l.drop I) r)∧Chg (fun _=>False) w wr) (fun i _=>l.length-(intOf i).toNat)
 case atStart=>exact ⟨0,Nat.zero_le _,rfl,Lib.hid (by simp),hc1⟩
 case round =>
  obtain ⟨I,hI,rfl,HC,hcw⟩:=hrel
  by_cases hlt:I<l.length
  ·obtain ⟨b,off,rfl,_,hb,hx⟩:=HA.out (by omega)
   obtain ⟨⟨q,n⟩,hxI⟩:∃ x,l[I]? = some x:=⟨_,List.getElem?_eq_getElem hlt⟩
   obtain ⟨⟨rv,p0,hrow⟩,p1,_⟩:=hx I (ZI (q,n)) (PT hxI)
   simp only [ZI] at hrow p1
   have q0:=hcw.cell p0 (fun h=>h)
   have q1:=hcw.cell p1 (fun h=>h)
   have hs:=hS rv q hrow
   have HD:=Lib.hid (HC.out.trans (by rw [ZaY hxI,Ql]))
   obtain ⟨RA,rcap,rfl,hr'⟩:=hrow
   unfold tc at q1 p1
   have hst:=Z5
   obtain ⟨sb,hsb⟩:∃ b,XX q r=b:=⟨_,rfl⟩
   simp only [hsb] at hs HD
   clear hxI hx p0 p1 hr' hr hS HC hsb
   cases sb
   ·go_wp2_with fail
    refine (hs _ (hcw.trans ((Chg.refl _ wr).alloc _) fun _ _ h=>h)).mono ?_
    rintro _ w2 ⟨rfl,hc2⟩
    go_wp2_with fail
    go_roundw
    case rel=>exact ⟨I+1,by omega,by go_num,Lib.hid (by simpa using HD.out),(hcw.trans ((Chg.refl _ wr).alloc _) fun _ _ h=>h).trans hc2 fun _ _ h=>h⟩
    case measure=>simp [intOf]; omega
   ·go_wp2_with fail
    refine (hs _ (hcw.trans ((Chg.refl _ wr).alloc _) fun _ _ h=>h)).mono ?_
    rintro _ w2 ⟨rfl,hc2⟩
    have hbk:w2.heap[wr.heap.size]? = some (.cells #[.slice RA q.length rcap,.complex .f64 (fl n.toNat) (fl (-n).toNat)] 59 (0,0)):=hc2.heap (heap_alloc_new wr _) fun h=>h
    obtain ⟨k0,k1,_,_⟩:=Lb hbk
    go_wp2_with fail
    go_ret
    exact ⟨by rw [HD.out]; rfl,(hcw.trans ((Chg.refl _ wr).alloc _) fun _ _ h=>h).trans hc2 fun _ _ h=>h⟩
  ·have hge:¬ ((I:Int)<(l.length:Int)):=by omega
   go_wp2_with fail
   go_ret
   refine ⟨?_,hcw⟩
   rw [HC.out,show I=l.length by omega,List.drop_length]
   show _=Ending.returned (tn 0)
   rw [La]
   rfl
set_option maxRecDepth 100000 in
set_option maxHeartbeats 1000000 in
theorem PU {F:Nat→Prop} {w:World} {v:Value} {l:List Itm} {g:FuncId} {fs:Array Value} (eg:∀ args W,(callFunc g args).run Tryz.prog W = .ok (.enter g args) W) (h:Zt F w v l)
  (hg:∀ rv x W,x∈l→Zq F w rv x.row→x.a≤1125899906842624→x.b≤1125899906842624→Chg (fun _=>False) w W→Calls Tryz.prog g (#[.agg #[rv,tc x.a x.b]]++fs) W fun e w'=>e = .returned (.bool false)∧Chg (fun _=>False) W w') :
  Calls Tryz.prog 270 #[v,.func (.func g) #[] fs] w fun e w'=>e = .returned (.int .i64 (-1))∧Chg (fun _=>False) w w':=by
 obtain ⟨A,cap,rfl,hn,hcap,hat⟩:=h
 have HA:=Lib.hid hat
 have HG:=Lib.hid hg
 clear hat hg
 go_enter Tryz.func270,Tryz.ntmps270
 go_wp2_with fail
 go_loopw [8] (fun i wr=>∃ (I:Nat),I≤l.length∧i = .int .i64 I∧Chg (fun _=>False) w wr) (fun i _=>l.length-(intOf i).toNat)
 case atStart=>exact ⟨0,Nat.zero_le _,rfl,Chg.refl _ _⟩
 case round =>
  obtain ⟨I,hI,rfl,hcw⟩:=hrel
  by_cases hlt:I<l.length
  ·obtain ⟨b,off,rfl,_,hb,hx⟩:=HA.out (by omega)
   obtain ⟨x,hxI⟩:∃ x,l[I]? = some x:=⟨_,List.getElem?_eq_getElem hlt⟩
   obtain ⟨⟨rv,p0,hrow⟩,p1,ha,hbb,_⟩:=hx I x hxI
   have q0:=hcw.cell p0 (fun h=>h)
   have q1:=hcw.cell p1 (fun h=>h)
   have hs:=HG.out rv x wr (List.mem_of_getElem? hxI) hrow ha hbb hcw
   obtain ⟨RA,rcap,rfl,hr'⟩:=hrow
   unfold tc at q1 p1 hs
   clear hxI hx p0 p1 hr' ha hbb
   go_wp2_with fail
   refine hs.mono ?_
   rintro _ w1 ⟨rfl,hc⟩
   go_wp2_with fail
   go_roundw
   case rel=>exact ⟨I+1,by omega,by go_num,hcw.trans hc fun _ _ h=>h⟩
   case measure=>simp [intOf]; omega
  ·have hge:¬ ((I:Int)<(l.length:Int)):=by omega
   go_wp2_with fail
   go_ret
   exact ⟨rfl,hcw⟩
theorem Ko {F:Nat→Prop} {w:World} {v:Value} {l:List Itm} {g:FuncId} {fs:Array Value} (eg:∀ args W,(callFunc g args).run Tryz.prog W = .ok (.enter g args) W) (h:Zt F w v l)
  (hg:∀ rv x W,x∈l→Zq F w rv x.row→x.a≤1125899906842624→x.b≤1125899906842624→Chg (fun _=>False) w W→Calls Tryz.prog g (#[.agg #[rv,tc x.a x.b]]++fs) W fun e w'=>e = .returned (.bool false)∧Chg (fun _=>False) W w') :
  Calls Tryz.prog 162 #[v,.func (.func g) #[] fs] w fun e w'=>e = .returned (.bool false)∧Chg (fun _=>False) w w':=by
 have h1:=PU eg h hg
 go_enter Tryz.func162,Tryz.ntmps162
 go_wp2_with fail
 refine h1.mono ?_
 rintro _ w1 ⟨rfl,hc⟩
 go_wp2_with fail
 go_ret
 exact ⟨rfl,hc⟩
theorem Ux {F:Nat→Prop} {w:World} {rv:Value} {r:List Vl} {a b:Nat} (hr:Zq F w rv r) (ha:a≤1125899906842624) (hb:b≤1125899906842624) (hab:b≤a) :
  Calls Tryz.prog 269 #[.agg #[rv,tc a b]] w fun e w'=>e = .returned (.bool false)∧Chg (fun _=>False) w w':=by
 have h1:=fun w=>Jx ha hb w
 obtain ⟨RA,rcap,rfl,_⟩:=hr
 have hd:¬ ((a:Int)-(b:Int)<0):=by omega
 unfold tc at h1 ⊢
 go_enter Tryz.func269,Tryz.ntmps269
 go_wp2_with fail
 refine (h1 _).mono ?_
 rintro _ w1 ⟨rfl,hc⟩
 go_wp2_with fail
 go_ret
 exact ⟨by simp; exact hab,((Chg.refl _ w).alloc _).trans hc fun _ _ h=>h⟩
theorem Ha {F:Nat→Prop} {w:World} {v:Value} {l:List (List Vl×Int)} (h:Zt F w v (Zz l)) (hz:ZR l) (hp:∀ p∈l,0≤p.2) :
  Calls Tryz.prog 161 #[v] w fun e w'=>e = .returned (.bool true)∧Chg (fun _=>False) w w':=by
 have h1:=XA h hz
 have h2:=fun w1 (hc:Chg (fun _=>False) w w1)=>Ko (g:=269) (fs := #[]) (enters_of Tryz.func269 (by kernel_rfl) rfl) (h.Zi hc) fun rv x W hx hrow ha hb hcW=>by
  obtain ⟨p,hpm,rfl⟩:=List.mem_map.1 hx
  have:=hp p hpm
  exact Ux (hrow.Zi hcW) ha hb (by simp only [ZI]; omega)
 obtain ⟨A,cap,rfl,_⟩:=h
 go_enter Tryz.func161,Tryz.ntmps161
 go_wp2_with fail
 refine h1.mono ?_
 rintro _ w1 ⟨rfl,hc⟩
 go_wp2_with fail
 refine (h2 _ hc).mono ?_
 rintro _ w2 ⟨rfl,hc2⟩
 go_wp2_with fail
 go_ret
 exact ⟨rfl,hc.trans hc2 fun _ _ h=>h⟩
end Go.Proofs.YtheflbaejhlboaaGreatDoor
namespace Go.Proofs.YtheflbaejhlboaaGreatDoor
theorem Nx:∀ a:List UInt8,Op.bytesLess a a=false
 | []=>rfl
 | a::x=>by simp [Op.bytesLess,Nx x]
theorem ZaZ:∀ a b:List UInt8,Op.bytesLess a b=false→Op.bytesLess b a=false→a=b
 | [],[],_,_=>rfl
 | [],_::_,h,_=>by cases h
 | _::_,[],_,h=>by cases h
 | a::x,b::y,h,k=>by
  simp only [Op.bytesLess,Bool.or_eq_false_iff,decide_eq_false_iff_not,Bool.and_eq_false_iff,beq_eq_false_iff_ne] at h k
  have e:a=b:=by
   have h1:¬ a.toNat<b.toNat:=fun e=>h.1 (UInt8.lt_iff_toNat_lt.2 e)
   have h2:¬ b.toNat<a.toNat:=fun e=>k.1 (UInt8.lt_iff_toNat_lt.2 e)
   exact UInt8.toNat_inj.1 (by omega)
  subst e
  rw [ZaZ x y (h.2.resolve_left (fun n=>n rfl)) (k.2.resolve_left (fun n=>n rfl))]
theorem G9:∀ a b c:List UInt8,Op.bytesLess a b=true→Op.bytesLess b c=true→Op.bytesLess a c=true
 | [],[],_,h,_=>by cases h
 | _::_,[],_,h,_=>by cases h
 | [],_::_,[],_,k=>by cases k
 | _::_,_::_,[],_,k=>by cases k
 | [],_::_,_::_,_,_=>rfl
 | a::x,b::y,c::z,h,k=>by
  simp only [Op.bytesLess,Bool.or_eq_true,decide_eq_true_eq,Bool.and_eq_true,beq_iff_eq] at h k ⊢
  rcases h with h | ⟨rfl,h⟩
  ·rcases k with k | ⟨rfl,k⟩
   ·exact .inl (UInt8.lt_trans h k)
   ·exact .inl h
  ·rcases k with k | ⟨rfl,k⟩
   ·exact .inl k
   ·exact .inr ⟨rfl,G9 x y z h k⟩
theorem Ju {a b:Vl} (ha:a.right=true) (hb:b.right=true):a.less b=if a.k=b.k then (if a.k=1 then decide (a.n<b.n) else Op.bytesLess a.s b.s) else decide (a.k=1):=by
 unfold Vl.less
 rw [ha,hb]
 rfl
theorem XS {a:Vl} (h:a.right=true):(a.k=1∧a.s=[])∨(a.k=2∧a.n=0):=by
 unfold Vl.right at h
 split at h
 ·rename_i h1; exact .inl ⟨h1,by simpa using h⟩
 ·split at h
  ·rename_i h2
   simp at h
   exact .inr ⟨h2,h.1⟩
  ·cases h
theorem Zeu {a b:Vl} (h1:a.k=b.k) (h2:a.n=b.n) (h3:a.s=b.s):a=b:=by cases a; cases b; simp_all
theorem Tf {a:Vl} (ha:a.right=true):a.less a=false:=by
 rw [Ju ha ha,if_pos rfl]
 split
 ·simp
 ·exact Nx _
theorem Uy {a b:Vl} (ha:a.right=true) (hb:b.right=true) (h:a.less b=false) (k:b.less a=false):a=b:=by
 rw [Ju ha hb] at h
 rw [Ju hb ha] at k
 rcases XS ha with ⟨a1,a2⟩ | ⟨a1,a2⟩ <;> rcases XS hb with ⟨b1,b2⟩ | ⟨b1,b2⟩
 ·rw [if_pos (by omega),if_pos a1] at h
  rw [if_pos (by omega),if_pos b1] at k
  simp at h k
  exact Zeu (by omega) (by omega) (by rw [a2,b2])
 ·rw [if_neg (by omega)] at h; simp [a1] at h
 ·rw [if_neg (by omega)] at k; simp [b1] at k
 ·rw [if_pos (by omega),if_neg (by omega)] at h
  rw [if_pos (by omega),if_neg (by omega)] at k
  exact Zeu (by omega) (by omega) (ZaZ _ _ h k)
theorem RD {a b c:Vl} (ha:a.right=true) (hb:b.right=true) (hc:c.right=true) (h:a.less b=true) (k:b.less c=true):a.less c=true:=by
 rw [Ju ha hb] at h
 rw [Ju hb hc] at k
 rw [Ju ha hc]
 rcases XS ha with ⟨a1,a2⟩ | ⟨a1,a2⟩ <;> rcases XS hb with ⟨b1,b2⟩ | ⟨b1,b2⟩ <;> rcases XS hc with ⟨c1,c2⟩ | ⟨c1,c2⟩
 all_goals simp only [a1,b1,c1] at h k ⊢
 all_goals simp at h k ⊢
 ·omega
 ·exact G9 _ _ _ h k
theorem JC {a b:Vl} (ha:a.right=true) (hb:b.right=true):Wu a b=0↔a=b:=by
 unfold Wu
 constructor
 ·intro h
  split at h
  ·cases h
  ·split at h
   ·cases h
   ·rename_i h1 h2
    exact Uy ha hb (by simpa using h1) (by simpa using h2)
 ·rintro rfl
  rw [Tf ha]
  rfl
theorem W5 {a b:Vl}:Wu a b<0↔a.less b=true:=by
 unfold Wu
 split
 ·simp [*]
 ·rename_i h
  split
  ·simp [h]
  ·simp [h]
theorem Fa {a b:Vl} (ha:a.right=true) (hb:b.right=true) (h:a.less b=true):b.less a=false:=by
 cases e:b.less a
 ·rfl
 ·have:=RD ha hb ha h e
  rw [Tf ha] at this
  cases this
theorem Za0 {a b:Vl} (ha:a.right=true) (hb:b.right=true):0<Wu a b↔b.less a=true:=by
 unfold Wu
 split
 ·rename_i h
  rw [Fa ha hb h]
  simp
 ·split
  ·simp [*]
  ·rename_i h2
   simp [h2]
def RV (r:List Vl):Prop:=∀ x∈r,x.right=true
theorem RV.tail {a:Vl} {r:List Vl} (h:RV (a::r)):RV r:=fun x hx=>h x (List.mem_cons_of_mem _ hx)
theorem RV.head {a:Vl} {r:List Vl} (h:RV (a::r)):a.right=true:=h a (by simp)
theorem ZG {r:List Vl} (h:Zl r=true):RV r:=by
 unfold Zl at h
 simp at h
 exact fun x hx=>h.2 x hx
theorem QI:∀ {r q:List Vl},RV r→RV q→(Qp r q=0↔r=q)
 | [],[],_,_=>by simp [Qp]
 | [],_::_,_,_=>by simp [Qp]
 | _::_,[],_,_=>by simp [Qp]
 | a::r,b::q,h,k=>by
  rw [Qp]
  split
  ·rename_i e
   rw [QI h.tail k.tail,(JC h.head k.head).1 e]
   simp
  ·rename_i e
   constructor
   ·intro x; exact absurd x e
   ·intro x
    injection x with x1 x2
    exact absurd ((JC h.head k.head).2 x1) e
theorem TR:∀ {r q:List Vl},RV r→RV q→(Qp r q<0↔0<Qp q r)
 | [],[],_,_=>by simp [Qp]
 | [],_::_,_,_=>by simp [Qp]
 | _::_,[],_,_=>by simp [Qp]
 | a::r,b::q,h,k=>by
  rw [Qp,Qp]
  by_cases e:Wu a b=0
  ·have e2:Wu b a=0:=(JC k.head h.head).2 ((JC h.head k.head).1 e).symm
   rw [if_pos e,if_pos e2]
   exact TR h.tail k.tail
  ·have e2:¬ Wu b a=0:=fun x=>e ((JC h.head k.head).2 ((JC k.head h.head).1 x).symm)
   rw [if_neg e,if_neg e2,W5,Za0 k.head h.head]
theorem XT:∀ {r q p:List Vl},RV r→RV q→RV p→Qp r q<0→Qp q p<0→Qp r p<0
 | [],[],_,_,_,_,h,_=>by simp [Qp] at h
 | [],_::_,[],_,_,_,_,k=>by simp [Qp] at k
 | [],_::_,_::_,_,_,_,_,_=>by simp [Qp]
 | _::_,[],_,_,_,_,h,_=>by simp [Qp] at h
 | _::_,_::_,[],_,_,_,_,k=>by simp [Qp] at k
 | a::r,b::q,c::p,hr,hq,hp,h,k=>by
  rw [Qp] at h k ⊢
  by_cases e:Wu a b=0
  ·have e':=(JC hr.head hq.head).1 e
   subst e'
   rw [if_pos e] at h
   by_cases e2:Wu a c=0
   ·rw [if_pos e2] at k ⊢
    exact XT hr.tail hq.tail hp.tail h k
   ·rw [if_neg e2] at k ⊢
    exact k
  ·rw [if_neg e] at h
   by_cases e2:Wu b c=0
   ·have e':=(JC hq.head hp.head).1 e2
    subst e'
    rw [if_neg e]
    exact h
   ·rw [if_neg e2] at k
    have h1:=W5.1 h
    have h2:=W5.1 k
    have h3:=RD hr.head hq.head hp.head h1 h2
    have h4:=W5.2 h3
    rw [if_neg (by omega)]
    exact h4
def rle (r q:List Vl):Prop:=Qp r q≤0
theorem PV {r:List Vl} (h:RV r):rle r r:=by unfold rle; rw [(QI h h).2 rfl]; exact Int.le_refl _
theorem Uz {r q:List Vl} (h:RV r) (k:RV q):rle r q∨rle q r:=by
 unfold rle
 by_cases e:Qp r q≤0
 ·exact .inl e
 ·have:=(TR k h).2 (by omega)
  exact .inr (by omega)
theorem UB {r q p:List Vl} (h:RV r) (k:RV q) (m:RV p) (h1:rle r q) (h2:rle q p):rle r p:=by
 unfold rle at h1 h2 ⊢
 by_cases e:Qp r q=0
 ·rw [(QI h k).1 e]; exact h2
 ·by_cases e2:Qp q p=0
  ·rw [← (QI k m).1 e2]; exact h1
  ·have:=XT h k m (by omega) (by omega)
   omega
end Go.Proofs.YtheflbaejhlboaaGreatDoor
namespace Go.Proofs.YtheflbaejhlboaaGreatDoor
open Go.RowKit
def Arr (w:World) (g:Nat) (ps:List PI):Prop :=
 (∃ cur,w.heap[g]? = some (.cells cur 59 (0,0))∧cur.toList.take (ps.length*2)=ZC ps)∧∀ p∈ps,p.1.oneCell'=true
theorem Arr.chg {T:Nat→Prop} {w w':World} {g:Nat} {ps:List PI} (h:Arr w g ps) (hc:Chg T w w') (hn:¬ T g):Arr w' g ps:=by
 obtain ⟨⟨cur,h1,h2⟩,h3⟩:=h
 exact ⟨⟨cur,hc.heap h1 hn,h2⟩,h3⟩
theorem Arr.Zi {w w':World} {g:Nat} {ps:List PI} (h:Arr w g ps) (hc:Chg (fun _=>False) w w'):Arr w' g ps:=h.chg hc fun h=>h
theorem Arr.lt {w:World} {g:Nat} {ps:List PI} (h:Arr w g ps):g<w.heap.size:=by
 obtain ⟨⟨cur,h1,_⟩,_⟩:=h
 exact lt_of_block h1
theorem Arr.one {w:World} {g:Nat} {ps:List PI} (h:Arr w g ps) {j:Nat} {p:PI} (hp:ps[j]? = some p):∀ a m W,(store a p.1 m).run Tryz.prog W=stored Tryz.prog W a p.1 m :=
 fun a m W=>run_store Tryz.prog W a _ m (h.2 p (List.mem_of_getElem? hp))
theorem Arr.cells {w:World} {g:Nat} {ps:List PI} (h:Arr w g ps) {j:Nat} {p:PI} (hp:ps[j]? = some p) :
  w.cell? ⟨g,j*2,none⟩=some p.1∧w.cell? ⟨g,j*2+1,none⟩=some (.complex .f64 (fl p.2.a) (fl p.2.b))∧w.frozen? ⟨g,j*2,none⟩=false∧w.frozen? ⟨g,j*2+1,none⟩=false:=by
 obtain ⟨⟨cur,h1,h2⟩,_⟩:=h
 obtain ⟨g0,g1⟩:=Yb hp
 have hj:=(List.getElem?_eq_some_iff.1 hp).1
 rw [← h2] at g0 g1
 rw [List.getElem?_take,if_pos (by omega)] at g0 g1
 refine ⟨?_,?_,frozen_of_row w g _ cur _ h1,frozen_of_row w g _ cur _ h1⟩
 ·rw [cell_of_row w g _ cur _ (0,0) h1]; simpa using g0
 ·rw [cell_of_row w g _ cur _ (0,0) h1]; simpa [tc] using g1
theorem Fb {α : Type} (f : α → List Value) (x y : α → Value) (hf:∀ a,f a=[x a,y a]):∀ (l:List α) (j:Nat) (a : α),((l.flatMap f).set (j*2) (x a)).set (j*2+1) (y a)=(l.set j a).flatMap f
 | [],j,a=>by simp
 | b::l,0,a=>by simp [List.flatMap_cons,hf]
 | b::l,j+1,a=>by
  rw [List.flatMap_cons,List.set_cons_succ,List.flatMap_cons,hf b,← Fb f x y hf l j a]
  rw [show (j+1)*2=j*2+1+1 by omega,show j*2+1+1+1=j*2+1+1+1 from rfl]
  simp [List.set_cons_succ]
theorem Arr.set {w:World} {g:Nat} {ps:List PI} (h:Arr w g ps) (j:Nat) (p:PI) (hp:p.1.oneCell'=true) :
  Arr ((w.setCell ⟨g,j*2,none⟩ p.1).setCell ⟨g,j*2+1,none⟩ (.complex .f64 (fl p.2.a) (fl p.2.b))) g (ps.set j p):=by
 obtain ⟨⟨cur,h1,h2⟩,h0⟩:=h
 have h3:=heap_setCell_same w g (j*2) cur 59 p.1 h1
 have h4:=heap_setCell_same _ g (j*2+1) _ 59 (.complex .f64 (fl p.2.a) (fl p.2.b)) h3
 refine ⟨⟨_,h4,?_⟩,fun q hq => ?_⟩
 rotate_left
 ·rcases List.mem_or_eq_of_mem_set hq with hq | rfl
  ·exact h0 q hq
  ·exact hp
 rw [Array.toList_setIfInBounds,Array.toList_setIfInBounds,List.length_set,List.take_set,List.take_set,h2]
 exact Fb (fun p:PI=>[p.1,tc p.2.a p.2.b]) (fun p=>p.1) (fun p=>tc p.2.a p.2.b) (fun _=>rfl) ps j p
def Zev (w:World) (g i j:Nat) (p q:PI):World :=
 (((w.setCell ⟨g,i*2,none⟩ q.1).setCell ⟨g,i*2+1,none⟩ (.complex .f64 (fl q.2.a) (fl q.2.b))).setCell ⟨g,j*2,none⟩ p.1).setCell ⟨g,j*2+1,none⟩ (.complex .f64 (fl p.2.a) (fl p.2.b))
theorem Arr.swap {w:World} {g:Nat} {ps:List PI} (h:Arr w g ps) {i j:Nat} {p q:PI} (hp:ps[i]? = some p) (hq:ps[j]? = some q):Arr (Zev w g i j p q) g ((ps.set i q).set j p):=(h.set i q (h.2 q (List.mem_of_getElem? hq))).set j p (h.2 p (List.mem_of_getElem? hp))
theorem VB (w:World) (g i j:Nat) (p q:PI):Chg (fun b=>b=g) w (Zev w g i j p q) :=
 Chg.Jc (T:=fun b=>b=g) (Chg.Jc (T:=fun b=>b=g) (Chg.Jc (T:=fun b=>b=g) (Chg.Jc (T:=fun b=>b=g) (Chg.refl _ w) (D:=g) rfl _ _) (D:=g) rfl _ _) (D:=g) rfl _ _) (D:=g) rfl _ _
def J3 (p q:PI):Int:=Qp p.2.row q.2.row
set_option maxHeartbeats 1000000 in
theorem QY {F:Nat→Prop} {w:World} {p q:PI} (hp:POk F w p) (hq:POk F w q) :
  Calls Tryz.prog 285 #[.agg #[p.1,.complex .f64 (fl p.2.a) (fl p.2.b)],.agg #[q.1,.complex .f64 (fl q.2.a) (fl q.2.b)]] w fun e w'=>e = .returned (.int .i64 (J3 p q))∧Chg (fun _=>False) w w':=by
 have h1:=fun w1 (hc:Chg (fun _=>False) w w1)=>V9 (hp.1.Zi hc) (hq.1.Zi hc)
 obtain ⟨rv,x⟩:=p
 obtain ⟨rv2,y⟩:=q
 obtain ⟨⟨A,c,e1,_⟩,_⟩:=hp
 obtain ⟨⟨A2,c2,e2,_⟩,_⟩:=hq
 simp only at e1 e2
 subst e1
 subst e2
 unfold J3
 simp only at h1 ⊢
 go_enter Tryz.func285,Tryz.ntmps285
 go_wp2_with fail
 refine (h1 _ (((Chg.refl _ w).alloc _).alloc _)).mono ?_
 rintro _ w1 ⟨rfl,hc⟩
 go_wp2_with fail
 go_ret
 exact ⟨rfl,(((Chg.refl _ w).alloc _).alloc _).trans hc fun _ _ h=>h⟩
end Go.Proofs.YtheflbaejhlboaaGreatDoor
