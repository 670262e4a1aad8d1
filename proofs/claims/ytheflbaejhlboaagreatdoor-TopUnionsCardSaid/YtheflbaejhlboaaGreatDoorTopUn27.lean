/- A part of the proof of a law of package confluencetop: lemmas, no condition of ours. -/
import Derived.Test.YtheflbaejhlboaaGreatDoorTopUn26
import Derived.Test.YtheflbaejhlboaaGreatDoorTopUn25
set_option linter.unusedVariables false
set_option linter.unusedSectionVars false
set_option linter.unusedSimpArgs false
namespace Go.Proofs.YtheflbaejhlboaaGreatDoor
open Go.RowKit
set_option maxHeartbeats 8000000 in
set_option maxRecDepth 100000 in
theorem Ci {F G:Nat→Prop} {w:World} {v u:Value} {r:List Vl} (h:Zq F w v r) (hu:Zq G w u r) :
  Calls Tryz.prog 26 #[v,u] w fun e w'=>e = .returned (.bool true)∧Chg (fun _=>False) w w':=by
 obtain ⟨A,cap,rfl,hn,hcap,hat⟩:=h
 obtain ⟨B,cap2,rfl,hn2,hcap2,hbt⟩:=hu
 have HA:=Lib.hid hat
 have HB:=Lib.hid hbt
 clear hat hbt
 go_enter Tryz.func26,Tryz.ntmps26
 go_wp2_with fail
 go_loopw [5] (fun i wr=>∃ I:Nat,I≤r.length∧i = .int .i64 I∧Chg (fun _=>False) w wr) (fun i _=>r.length-(intOf i).toNat)
 case atStart=>exact ⟨0,Nat.zero_le _,rfl,Chg.refl _ _⟩
 case round =>
  obtain ⟨I,hI,rfl,hcw⟩:=hrel
  by_cases hlt:I<r.length
  ·obtain ⟨b,off,rfl,_,hb,hx⟩:=HA.out (by omega)
   obtain ⟨b2,off2,rfl,_,hb2,hx2⟩:=HB.out (by omega)
   obtain ⟨x,hxI⟩:∃ x,r[I]? = some x:=⟨_,List.getElem?_eq_getElem hlt⟩
   obtain ⟨q0,q1,q2,_⟩:=(hx I x hxI).chg hcw (fun h=>h)
   obtain ⟨p0,p1,p2,_⟩:=(hx2 I x hxI).chg hcw (fun h=>h)
   go_wp2_with fail
   go_region_held (fun wx=>wx.cell? ⟨b,off+I*3,none⟩=some (.int .i64 x.k)∧wx.cell? ⟨b,off+I*3+1,none⟩=some (.int .i64 x.n)∧wx.cell? ⟨b,off+I*3+2,none⟩=some (.string (str x.s))∧wx.cell? ⟨b2,off2+I*3,none⟩=some (.int .i64 x.k)∧wx.cell? ⟨b2,off2+I*3+1,none⟩=some (.int .i64 x.n)∧wx.cell? ⟨b2,off2+I*3+2,none⟩=some (.string (str x.s))) (go_keep) (fail)
   go_wp2_with fail
   go_roundw
   case rel=>exact ⟨I+1,by omega,by go_num,hcw.drew⟩
   case measure=>simp [intOf]; omega
  ·have hge:¬ ((I:Int)<(r.length:Int)):=by omega
   go_wp2_with fail
   go_ret
   exact ⟨rfl,hcw⟩
def vlI (n:Int):Vl:=⟨1,n,[]⟩
set_option maxHeartbeats 8000000 in
set_option maxRecDepth 100000 in
theorem Mc {w:World} {b cap:Nat} {l:List Int} (h:∀ j x,l[j]? = some x→w.cell? ⟨b,j,none⟩=some (.int .i64 x)) (hlen:l.length≤1000) :
  Calls Tryz.prog 18 #[.slice (some ⟨b,0,none⟩) l.length cap] w (Neu w fun u w'=>Zq (new w) w' u (l.map vlI)):=by
 have HAT:=Lib.hid h
 have HL:=Lib.hid hlen
 have hNum:=NP
 clear h
 go_enter Tryz.func18,Tryz.ntmps18
 go_wp2_with fail
 go_loopw [3,4] (fun s i wr=>∃ (I:Nat) (own:Option Nat) (B:Option Addr) (cc:Nat),I≤l.length∧i = .int .i64 I∧s = .slice B I cc∧Hid (QE wr 55 3 own B I cc (QR ((l.map vlI).take I)))∧Hid (∀ g,own=some g→w.heap.size≤g)∧Chg (fun _=>False) w wr) (fun _ i _=>l.length-(intOf i).toNat)
 case atStart=>exact ⟨0,none,none,0,Nat.zero_le _,rfl,rfl,Lib.hid (by simpa [QR] using QE.Ws _ _ _ _),Lib.hid (fun g h=>by cases h),Chg.refl _ _⟩
 case round =>
  obtain ⟨I,own,B,cc,hI,rfl,rfl,HO,HN,hcw⟩:=hrel
  by_cases hlt:I<l.length
  ·obtain ⟨x,hxI⟩:∃ x,l[I]? = some x:=⟨_,List.getElem?_eq_getElem hlt⟩
   have q0:=hcw.cell (HAT.out I x hxI) (fun h=>h)
   have HX:=Lib.hid hxI
   have HLT:=Lib.hid hlt
   clear hxI
   go_wp2_with fail
   refine (hNum _ _).mono ?_
   rintro _ w1 ⟨rfl,hc⟩
   have hcc:=hcw.trans hc fun _ _ h=>h
   have H3:=Lib.hid (FN w1 (.int .i64 1) (.int .i64 x) (.string ⟨#[]⟩) 55)
   have hca:Chg (fun _=>False) wr (w1.alloc (.cells #[.int .i64 1,.int .i64 x,.string ⟨#[]⟩] 55)):=hc.alloc _
   have HO2:=Lib.hid (HO.out.chg hca fun _ _ h=>h)
   go_wp2_with (at_builtin; refine ZK rfl _ _ 39 39 rfl 55 3 32 F7 own B I cc 1 (QR ((l.map vlI).take I)) [.int .i64 1,.int .i64 x,.string ⟨#[]⟩] _ rfl rfl HO2.out (Kt.slice H3.out) (by simp [Value.oneCell']) (I+1) rfl (by have:=HL.out; omega) (by have:=HL.out; omega) ?_)
   intro own' B' c' w3 hown hor hchg
   have HO3:=Lib.hid hown
   clear hown
   go_wp2_with fail
   go_roundw
   case rel =>
    have hlt:=HLT.out
    have hszp:=hca.size
    have hsz0:=hcw.size
    have hsz1:=hcc.size
    have e1:(w1.alloc (.cells #[.int .i64 1,.int .i64 x,.string ⟨#[]⟩] 55)).heap.size=w1.heap.size+1:=Array.size_push _
    refine ⟨I+1,own',B',c',by omega,by go_num,rfl,Lib.hid ?_,Lib.hid fun g hg => ?_,(hcw.trans hca fun _ _ h=>h).trans hchg fun i hi hg=>by have:=HN.out i hg; omega⟩
    ·have e:QR ((l.map vlI).take (I+1))=QR ((l.map vlI).take I)++[.int .i64 1,.int .i64 x,.string ⟨#[]⟩]:=by
      rw [List.take_add_one,List.getElem?_map,HX.out]
      simp [QR,vlI,Vl.cells,str]
     rw [e]
     exact HO3.out
    ·rcases hor with h0 | h0
     ·exact HN.out g (h0▸hg)
     ·rw [h0] at hg
      injection hg with hg
      omega
   case measure=>have hlt:=HLT.out; simp [intOf]; omega
  ·have hge:¬ ((I:Int)<(l.length:Int)):=by omega
   go_wp2_with fail
   go_ret
   have e:I=l.length:=by omega
   have ho:=HO.out
   have hl:(l.map vlI).length=l.length:=List.length_map _
   rw [e,← hl,List.take_length] at ho
   have h1:=Zq.F8 (r:=l.map vlI) (F:=new w) (cap:=cc) ho (fun g hg=>HN.out g hg) (fun y hy=>by obtain ⟨n,_,rfl⟩:=List.mem_map.1 hy; simp [vlI])
   rw [hl] at h1
   exact ⟨_,by rw [e]; rfl,h1,hcw⟩
set_option maxHeartbeats 8000000 in
theorem NQ {F:Nat→Prop} {w:World} {rv:Value} {r:List Vl} {n:Nat} (hr:Zq F w rv r) (hn:n≤1125899906842624) (hlen:r.length≤1000000) :
  Calls Tryz.prog 21 #[.int .i64 (n:Int),rv] w (Neu w fun u w'=>∃ b,w.heap.size≤b∧u = .slice (some ⟨b,0,none⟩) 1 1∧w'.cell? ⟨b,0,none⟩=some rv∧w'.cell? ⟨b,1,none⟩=some (tc n 0)):=by
 have h0:¬ ((n:Int)<0):=by omega
 have h2:=fun w=>Ya n 2 85 w (by kernel_rfl) (by kernel_rfl)
 obtain ⟨A,cap,rfl,hn1,hcap,hat⟩:=hr
 unfold tc
 go_enter Tryz.func21,Tryz.ntmps21
 go_wp2_with fail
 go_ret
 refine ⟨_,rfl,⟨w.heap.size,Nat.le_refl _,rfl,?_,?_⟩,(Chg.refl _ w).alloc _⟩
 ·go_simp
 ·go_simp
  exact Xf.symm
end Go.Proofs.YtheflbaejhlboaaGreatDoor
namespace Go.Proofs.YtheflbaejhlboaaGreatDoor
open Go.RowKit
set_option maxHeartbeats 8000000 in
set_option maxRecDepth 100000 in
theorem Md {F G:Nat→Prop} {w:World} {v u:Value} {l:List Itm} (h:Zt F w v l) (hu:Zt G w u l) :
  Calls Tryz.prog 20 #[v,u] w fun e w'=>e = .returned (.bool true)∧Chg (fun _=>False) w w':=by
 obtain ⟨A,cap,rfl,hn,hcap,hat⟩:=h
 obtain ⟨B,cap2,rfl,hn2,hcap2,hbt⟩:=hu
 have HA:=Lib.hid hat
 have HB:=Lib.hid hbt
 clear hat hbt
 go_enter Tryz.func20,Tryz.ntmps20
 go_wp2_with fail
 go_loopw [5] (fun i wr=>∃ I:Nat,I≤l.length∧i = .int .i64 I∧Chg (fun _=>False) w wr) (fun i _=>l.length-(intOf i).toNat)
 case atStart=>exact ⟨0,Nat.zero_le _,rfl,Chg.refl _ _⟩
 case round =>
  obtain ⟨I,hI,rfl,hcw⟩:=hrel
  by_cases hlt:I<l.length
  ·obtain ⟨b,off,rfl,_,hb,hx⟩:=HA.out (by omega)
   obtain ⟨b2,off2,rfl,_,hb2,hx2⟩:=HB.out (by omega)
   obtain ⟨x,hxI⟩:∃ x,l[I]? = some x:=⟨_,List.getElem?_eq_getElem hlt⟩
   obtain ⟨⟨rv,q0,r0⟩,q1,ha,hbb,hrl⟩:=hx I x hxI
   obtain ⟨⟨rv2,p0,r1⟩,p1,_,_,_⟩:=hx2 I x hxI
   have hrow:∀ W,Chg (fun _=>False) w W→Calls Tryz.prog 26 #[rv,rv2] W fun e w'=>e = .returned (.bool true)∧Chg (fun _=>False) W w':=fun W hc=>Ci (r0.Zi hc) (r1.Zi hc)
   have he1:∀ W,(binOp .neq 57 (.complex .f64 (fl x.a) (fl x.b)) (.complex .f64 (fl x.a) (fl x.b))).run Tryz.prog W = .ok (.bool false) W:=fun W=>by
    have:=Xk (P:=Tryz.prog) (a:=x.a) (b:=x.b) (c:=x.a) (d:=x.b) (by omega) (by omega) (by omega) (by omega) 57 W
    rw [this]
    simp
   obtain ⟨RA,rcap,rfl,_⟩:=r0
   obtain ⟨RB,rcap2,rfl,_⟩:=r1
   unfold tc at q1 p1
   clear hx hx2 hxI
   go_wp2_with fail
   have hWd:Chg (fun _=>False) w wr.drew:=hcw.drew
   have c0:wr.drew.cell? ⟨b,off+I*2,none⟩=some (.slice RA x.row.length rcap):=hWd.cell q0 (fun h=>h)
   have c1:wr.drew.cell? ⟨b,off+I*2+1,none⟩=some (.complex .f64 (fl x.a) (fl x.b)):=hWd.cell q1 (fun h=>h)
   have c2:wr.drew.cell? ⟨b2,off2+I*2,none⟩=some (.slice RB x.row.length rcap2):=hWd.cell p0 (fun h=>h)
   have c3:wr.drew.cell? ⟨b2,off2+I*2+1,none⟩=some (.complex .f64 (fl x.a) (fl x.b)):=hWd.cell p1 (fun h=>h)
   refine wp_region_held_drew (S:=fun wx=>wx.cell? ⟨b,off+I*2,none⟩=some (.slice RA x.row.length rcap)∧wx.cell? ⟨b,off+I*2+1,none⟩=some (.complex .f64 (fl x.a) (fl x.b))∧wx.cell? ⟨b2,off2+I*2,none⟩=some (.slice RB x.row.length rcap2)∧wx.cell? ⟨b2,off2+I*2+1,none⟩=some (.complex .f64 (fl x.a) (fl x.b))) (by kernel_rfl) ⟨c0,c1,c2,c3⟩ (fun hHeld => ?_)
   refine Zg (i:=0) (some 17) (v := ?_) rfl rfl (by kernel_rfl) (by kernel_rfl) (by kernel_rfl) (fun _ _ _ h=>h) (Or.inl ⟨by rfl,?_⟩) (by assumption) ?_
   rotate_left
   ·(intro wx hSw; go_simp; try (with_reducible rfl))
   try simp only [Act.put,List.setIfInBounds_toArray,List.set_cons_zero,List.set_cons_succ]
   refine Zg (i:=1) (some 18) (v := ?_) rfl rfl (by kernel_rfl) (by kernel_rfl) (by kernel_rfl) (fun _ _ _ h=>h) (Or.inl ⟨by rfl,?_⟩) (by assumption) ?_
   rotate_left
   ·(intro wx hSw; go_simp; try (with_reducible rfl))
   try simp only [Act.put,List.setIfInBounds_toArray,List.set_cons_zero,List.set_cons_succ]
   refine Zg (i:=2) (some 19) (v := ?_) rfl rfl (by kernel_rfl) (by kernel_rfl) (by kernel_rfl) (fun _ _ _ h=>h) (Or.inl ⟨by rfl,?_⟩) (by assumption) ?_
   rotate_left
   ·(intro wx hSw; go_simp; try (with_reducible rfl))
   try simp only [Act.put,List.setIfInBounds_toArray,List.set_cons_zero,List.set_cons_succ]
   refine Zg (i:=3) (some 20) (v := ?_) rfl rfl (by kernel_rfl) (by kernel_rfl) (by kernel_rfl) (fun _ _ _ h=>h) (Or.inl ⟨by rfl,?_⟩) (by assumption) ?_
   rotate_left
   ·(intro wx hSw; go_simp; try (with_reducible rfl))
   try simp only [Act.put,List.setIfInBounds_toArray,List.set_cons_zero,List.set_cons_succ]
   refine Zg (i:=4) (some 21) (v := ?_) rfl rfl (by kernel_rfl) (by kernel_rfl) (by kernel_rfl) (fun _ _ _ h=>h) (Or.inl ⟨by rfl,?_⟩) (by assumption) ?_
   rotate_left
   ·(intro wx hSw; go_simp; try (with_reducible rfl))
   try simp only [Act.put,List.setIfInBounds_toArray,List.set_cons_zero,List.set_cons_succ]
   refine Zg (i:=5) (some 22) (v := ?_) rfl rfl (by kernel_rfl) (by kernel_rfl) (by kernel_rfl) (fun _ _ _ h=>h) (Or.inl ⟨by rfl,?_⟩) (by assumption) ?_
   rotate_left
   ·(intro wx hSw; go_simp; try (with_reducible rfl))
   try simp only [Act.put,List.setIfInBounds_toArray,List.set_cons_zero,List.set_cons_succ]
   refine Zg (i:=6) (some 23) (v := ?_) rfl rfl (by kernel_rfl) (by kernel_rfl) (by kernel_rfl) (fun _ _ _ h=>h) (Or.inl ⟨by rfl,?_⟩) (by assumption) ?_
   rotate_left
   ·(intro wx hSw; go_simp; try (with_reducible rfl))
   try simp only [Act.put,List.setIfInBounds_toArray,List.set_cons_zero,List.set_cons_succ]
   refine Zg (i:=7) (some 24) (v := ?_) rfl rfl (by kernel_rfl) (by kernel_rfl) (by kernel_rfl) (fun _ _ _ h=>h) (Or.inl ⟨by rfl,?_⟩) (by assumption) ?_
   rotate_left
   ·(intro wx hSw; go_simp; try (with_reducible rfl))
   try simp only [Act.put,List.setIfInBounds_toArray,List.set_cons_zero,List.set_cons_succ]
   refine Zg (i:=8) (some 25) (v := ?_) rfl rfl (by kernel_rfl) (by kernel_rfl) (by kernel_rfl) (fun _ _ _ h=>h) (Or.inl ⟨by rfl,?_⟩) (by assumption) ?_
   rotate_left
   ·(intro wx hSw; go_simp; try (with_reducible rfl))
   try simp only [Act.put,List.setIfInBounds_toArray,List.set_cons_zero,List.set_cons_succ]
   refine Zg (i:=9) (some 26) (v := ?_) rfl rfl (by kernel_rfl) (by kernel_rfl) (by kernel_rfl) (fun _ _ _ h=>h) (Or.inl ⟨by rfl,?_⟩) (by assumption) ?_
   rotate_left
   ·(intro wx hSw; go_simp; try (with_reducible rfl))
   try simp only [Act.put,List.setIfInBounds_toArray,List.set_cons_zero,List.set_cons_succ]
   refine wpAnyH_ready (rs:=[10]) (by kernel_rfl) (by simp) ?_
   refine AllReadyH.cons rfl (fun K hK => ?_) AllReadyH.nil
   go_simp
   refine (hrow _ hWd).mono ?_
   rintro _ w1 ⟨rfl,h1⟩
   have hW1:=hWd.trans h1 fun _ _ h=>h
   have d0:=h1.cell c0 (fun h=>h)
   have d1:=h1.cell c1 (fun h=>h)
   have d2:=h1.cell c2 (fun h=>h)
   have d3:=h1.cell c3 (fun h=>h)
   go_wp2_with fail
   refine hK.out _ _ ?_ (fun hHeld => ?_)
   ·((refine ⟨?_,?_,?_,?_⟩ <;> assumption))
   clear hK K
   try simp only [Act.put,List.setIfInBounds_toArray,List.set_cons_zero,List.set_cons_succ]
   refine Zg (i:=11) (some 28) (v := ?_) rfl rfl (by kernel_rfl) (by kernel_rfl) (by kernel_rfl) (fun _ _ _ h=>h) (Or.inl ⟨by rfl,?_⟩) (by assumption) ?_
   rotate_left
   ·(intro wx hSw; go_simp; try (with_reducible rfl))
   try simp only [Act.put,List.setIfInBounds_toArray,List.set_cons_zero,List.set_cons_succ]
   refine Zg (i:=12) (some 29) (v := ?_) rfl rfl (by kernel_rfl) (by kernel_rfl) (by kernel_rfl) (fun _ _ _ h=>h) (Or.inl ⟨by rfl,?_⟩) (by assumption) ?_
   rotate_left
   ·(intro wx hSw; go_simp; try (with_reducible rfl))
   try simp only [Act.put,List.setIfInBounds_toArray,List.set_cons_zero,List.set_cons_succ]
   refine Zg (i:=13) (some 30) (v := ?_) rfl rfl (by kernel_rfl) (by kernel_rfl) (by kernel_rfl) (fun _ _ _ h=>h) (Or.inl ⟨by rfl,?_⟩) (by assumption) ?_
   rotate_left
   ·(intro wx hSw; go_simp; try (with_reducible rfl))
   try simp only [Act.put,List.setIfInBounds_toArray,List.set_cons_zero,List.set_cons_succ]
   refine Zg (i:=14) (some 31) (v := ?_) rfl rfl (by kernel_rfl) (by kernel_rfl) (by kernel_rfl) (fun _ _ _ h=>h) (Or.inl ⟨by rfl,?_⟩) (by assumption) ?_
   rotate_left
   ·(intro wx hSw; go_simp; try (with_reducible rfl))
   try simp only [Act.put,List.setIfInBounds_toArray,List.set_cons_zero,List.set_cons_succ]
   refine Zg (i:=15) (some 32) (v := ?_) rfl rfl (by kernel_rfl) (by kernel_rfl) (by kernel_rfl) (fun _ _ _ h=>h) (Or.inl ⟨by rfl,?_⟩) (by assumption) ?_
   rotate_left
   ·(intro wx hSw; go_simp; try (with_reducible rfl))
   try simp only [Act.put,List.setIfInBounds_toArray,List.set_cons_zero,List.set_cons_succ]
   refine Zg (i:=16) (some 33) (v := ?_) rfl rfl (by kernel_rfl) (by kernel_rfl) (by kernel_rfl) (fun _ _ _ h=>h) (Or.inl ⟨by rfl,?_⟩) (by assumption) ?_
   rotate_left
   ·(intro wx hSw; go_simp; try (with_reducible rfl))
   try simp only [Act.put,List.setIfInBounds_toArray,List.set_cons_zero,List.set_cons_succ]
   refine Zg (i:=17) (some 34) (v := ?_) rfl rfl (by kernel_rfl) (by kernel_rfl) (by kernel_rfl) (fun _ _ _ h=>h) (Or.inl ⟨by rfl,?_⟩) (by assumption) ?_
   rotate_left
   ·(intro wx hSw; go_simp; try (with_reducible rfl))
   try simp only [Act.put,List.setIfInBounds_toArray,List.set_cons_zero,List.set_cons_succ]
   refine Zg (i:=18) (some 35) (v := ?_) rfl rfl (by kernel_rfl) (by kernel_rfl) (by kernel_rfl) (fun _ _ _ h=>h) (Or.inl ⟨by rfl,?_⟩) (by assumption) ?_
   rotate_left
   ·(intro wx hSw; go_simp; try (with_reducible rfl))
   try simp only [Act.put,List.setIfInBounds_toArray,List.set_cons_zero,List.set_cons_succ]
   refine Zg (i:=19) (some 36) (v := ?_) rfl rfl (by kernel_rfl) (by kernel_rfl) (by kernel_rfl) (fun _ _ _ h=>h) (Or.inl ⟨by rfl,?_⟩) (by assumption) ?_
   rotate_left
   ·(intro wx hSw; go_simp; try (with_reducible rfl))
   try simp only [Act.put,List.setIfInBounds_toArray,List.set_cons_zero,List.set_cons_succ]
   refine Zg (i:=20) (some 37) (v := ?_) rfl rfl (by kernel_rfl) (by kernel_rfl) (by kernel_rfl) (fun _ _ _ h=>h) (Or.inl ⟨by rfl,?_⟩) (by assumption) ?_
   rotate_left
   ·(intro wx hSw; go_simp; try (with_reducible rfl))
   try simp only [Act.put,List.setIfInBounds_toArray,List.set_cons_zero,List.set_cons_succ]
   refine Zg (i:=21) (some 38) (v := ?_) rfl rfl (by kernel_rfl) (by kernel_rfl) (by kernel_rfl) (fun _ _ _ h=>h) (Or.inl ⟨by rfl,?_⟩) (by assumption) ?_
   rotate_left
   ·(intro wx hSw; go_simp; try (with_reducible rfl))
   try simp only [Act.put,List.setIfInBounds_toArray,List.set_cons_zero,List.set_cons_succ]
   refine Zg (i:=22) (some 39) (v := ?_) rfl rfl (by kernel_rfl) (by kernel_rfl) (by kernel_rfl) (fun _ _ _ h=>h) (Or.inl ⟨by rfl,?_⟩) (by assumption) ?_
   rotate_left
   ·(intro wx hSw; go_simp; try (with_reducible rfl))
   try simp only [Act.put,List.setIfInBounds_toArray,List.set_cons_zero,List.set_cons_succ]
   refine Zg (i:=23) (some 40) (v := ?_) rfl rfl (by kernel_rfl) (by kernel_rfl) (by kernel_rfl) (fun _ _ _ h=>h) (Or.inl ⟨by rfl,?_⟩) (by assumption) ?_
   rotate_left
   ·(intro wx hSw; go_simp; try (with_reducible rfl))
   try simp only [Act.put,List.setIfInBounds_toArray,List.set_cons_zero,List.set_cons_succ]
   refine Zg (i:=24) (some 41) (v := ?_) rfl rfl (by kernel_rfl) (by kernel_rfl) (by kernel_rfl) (fun _ _ _ h=>h) (Or.inl ⟨by rfl,?_⟩) (by assumption) ?_
   rotate_left
   ·(intro wx hSw; go_simp; try (with_reducible rfl))
   try simp only [Act.put,List.setIfInBounds_toArray,List.set_cons_zero,List.set_cons_succ]
   refine wpAnyH_done (by kernel_rfl) ?_ _
   go_wp2_with fail
   go_roundw
   case rel=>exact ⟨I+1,by omega,by go_num,hW1⟩
   case measure=>simp [intOf]; omega
  ·have hge:¬ ((I:Int)<(l.length:Int)):=by omega
   go_wp2_with fail
   go_ret
   exact ⟨rfl,hcw⟩
end Go.Proofs.YtheflbaejhlboaaGreatDoor
namespace Go.Proofs.YtheflbaejhlboaaGreatDoor.Ev
open Go Go.Proofs
set_option maxRecDepth 1000000
theorem Zcb:Kp (cG0 (tbU false true)) (VU false) false false P9=true:=by decide +kernel
end Go.Proofs.YtheflbaejhlboaaGreatDoor.Ev
namespace Go.Proofs.YtheflbaejhlboaaGreatDoor.Ev
open Go Go.Proofs
set_option maxRecDepth 1000000
theorem Zcc:Kp (cG0 (tbU false false)) (VU false) false true P9=true:=by decide +kernel
end Go.Proofs.YtheflbaejhlboaaGreatDoor.Ev
namespace Go.Proofs.YtheflbaejhlboaaGreatDoor.Ev
open Go Go.Proofs
set_option maxRecDepth 1000000
theorem Zcd:Kp (cG0 (tbR false)) VA false true ZfY=true:=by decide +kernel
end Go.Proofs.YtheflbaejhlboaaGreatDoor.Ev
namespace Go.Proofs.YtheflbaejhlboaaGreatDoor.Ev
open Go Go.Proofs
set_option maxRecDepth 1000000
theorem Zce:Kp (cG0 (tbU true true)) (VU true) true false P9=true:=by decide +kernel
end Go.Proofs.YtheflbaejhlboaaGreatDoor.Ev
namespace Go.Proofs.YtheflbaejhlboaaGreatDoor.Ev
open Go Go.Proofs
set_option maxRecDepth 1000000
theorem Zcf:Kp (cG0 (tbU true false)) (VU true) true true P9=true:=by decide +kernel
end Go.Proofs.YtheflbaejhlboaaGreatDoor.Ev
namespace Go.Proofs.YtheflbaejhlboaaGreatDoor.Ev
open Go Go.Proofs
set_option maxRecDepth 1000000
theorem Zcg:Kp (cG0 (tbR true)) VA true true ZfY=true:=by decide +kernel
end Go.Proofs.YtheflbaejhlboaaGreatDoor.Ev
namespace Go.Proofs.YtheflbaejhlboaaGreatDoor.Ev
open Go Go.Proofs
section
variable {S S':Sig} (hx:S'.x=S.x) (hy:S'.y=S.y) (ha:S'.arg=S.arg) (hm:∀ t F w v,S.Q6 t F w v→S'.Q6 t F w v) {r:Rho}
include hx hy ha hm
mutual
theorem VR.sig:∀ {v:Zc} {u:Value},@VR S r v u→@VR S' r v u:=fun {v u} h=>by
 cases h with
 | bool b=>exact @VR.bool S' r b
 | int k n=>exact @VR.int S' r k n
 | flt k b=>exact @VR.flt S' r k b
 | ZW k a b=>exact @VR.ZW S' r k a b
 | str l=>exact @VR.str S' r l
 | Zh=>exact @VR.Zh S' r
 | ptr h=>exact @VR.ptr S' r _ _ _ h
 | Za=>exact @VR.Za S' r
 | ZX a c=>exact @VR.ZX S' r a c
 | slice h hn hc hu=>exact @VR.slice S' r _ _ _ _ _ _ h hn hc hu
 | Zk=>exact @VR.Zk S' r
 | map h=>exact @VR.map S' r _ _ h
 | func f ha' hb=>exact @VR.func S' r f _ _ _ _ (VRs.sig ha') (VRs.sig hb)
 | ZH=>exact @VR.ZH S' r
 | nilIface=>exact @VR.nilIface S' r
 | iface t h=>exact @VR.iface S' r t _ _ (VR.sig h)
 | agg h=>exact @VR.agg S' r _ _ (VRs.sig h)
 | tuple h=>exact @VR.tuple S' r _ _ (VRs.sig h)
 | sint k h=>exact @VR.sint S' r k _ _ _ _ (by rw [hx,hy]; exact h)
 | raw h=>exact @VR.raw S' r _ _ (by rw [ha]; exact h)
 | gho h hg hu hm'=>exact @VR.gho S' r _ _ _ _ _ h hg hu (hm _ _ _ _ hm')
theorem VRs.sig:∀ {l:List Zc} {l':List Value},@VRs S r l l'→@VRs S' r l l':=fun {l l'} h=>by
 cases h with
 | nil=>exact @VRs.nil S' r
 | cons h t=>exact @VRs.cons S' r _ _ _ _ (VR.sig h) (VRs.sig t)
end
theorem ERs.sig {l:List Entry} {l':List MapEntry} (h:@ERs S r l l'):@ERs S' r l l':=by
 induction h with
 | nil=>exact @ERs.nil S' r
 | cons h _ ih=>exact @ERs.cons S' r _ _ _ _ ⟨VR.sig hx hy ha hm h.1,VR.sig hx hy ha hm h.2.1,h.2.2⟩ ih
theorem BR.sig {b:Zd} {x:RB} {o:Obj} (h:@BR S r b x o):@BR S' r b x o:=by
 cases b with
 | cells cs e opn =>
  obtain ⟨h0,vs,rest,t,fr,h1,h2,h3⟩:=h
  exact ⟨h0,vs,rest,t,fr,h1,VRs.sig hx hy ha hm h2,h3⟩
 | map es c =>
  obtain ⟨l,h1,h2⟩:=h
  exact ⟨l,h1,ERs.sig hx hy ha hm h2⟩
 | mapIter m since seen st =>
  cases m with
  | none=>exact h
  | some m=>exact h
theorem Kn.sig {s:St} {T:Nat→Prop} {w:World} {L:List Zc} {U:List Value} (h:Kn S s T w L U):Kn S' s T w L U:=by
 obtain ⟨r,⟨⟨h1,h2⟩,h3,h4,h5⟩,h6,h7⟩:=h
 refine ⟨r,@Rel.mk S' _ _ _ (@RelB.mk S' _ _ _ (fun i b x hb hx' => ?_) h2) h3 h4 h5,VRs.sig hx hy ha hm h6,h7⟩
 obtain ⟨o,k1,k2⟩:=h1 i b x hb hx'
 exact ⟨o,k1,BR.sig hx hy ha hm k2⟩
end
end Go.Proofs.YtheflbaejhlboaaGreatDoor.Ev
namespace Go.Proofs.YtheflbaejhlboaaGreatDoor.Ev
open Go Go.Proofs Go.RowKit
def unB (σ : Kq) (t:Nat):Mn:=match t with
 | 0 => .nz
 | 1 => .set σ.T
 | 2 => .set σ.U
 | 3 => .set σ.P
 | 4 => .set σ.Q
 | 5 => .set σ.A
 | 6 => .set (Wj σ.A)
 | _ => .none
def σ0:Kq:=⟨[],[],[],[],[]⟩
noncomputable abbrev S1 (σ : Kq) (x y:Int) (hx:0≤x∧x≤1000) (hy:0≤y∧y≤1000):Sig:=Zb3 (unB σ) rfl x y hx hy
noncomputable abbrev S2 (σ : Kq) (u b:Bool) (r:List Vl) (x y:Int) (hx:0≤x∧x≤1000) (hy:0≤y∧y≤1000):Sig:=Zb3 (unM σ u b r) rfl x y hx hy
abbrev TT (w:World):Nat→Prop:=fun k=>w.heap.size≤k
theorem Zh6 (σ : Kq) (u b:Bool) (r:List Vl):∀ t F w v,Qx (unB σ) t F w v→Qx (unM σ u b r) t F w v:=by
 intro t F w v h
 unfold unB Qx at h
 unfold unM Qx
 match t,h with
 | 0,h=>exact h
 | 1,h=>exact h
 | 2,h=>exact h
 | 3,h=>exact h
 | 4,h=>exact h
 | 5,h=>exact h
 | 6,h=>exact h
 | (t+7),h=>exact absurd h (by simp)
theorem Kn.low {S:Sig} {s:St} {T:Nat→Prop} {w0 w w':World} {L:List Zc} {U:List Value} (h:Kn S s (fun k=>T k∨w.heap.size≤k) w' L U) (hT:∀ k,T k→w0.heap.size≤k) (hw:w0.heap.size≤w.heap.size):Kn S s (TT w0) w' L U :=
 h.mono fun k hk _=>by
  rcases hk with hk | hk
  ·exact hT k hk
  ·show w0.heap.size≤k
   omega
def Cj (w0 w2:World) (g ch:Value) (c q:Int) (R:Value→World→Prop):Prop :=
 ∃ P1 P2:Value→World→Prop,
  Calls Tryz.prog 16 #[ch] w2 (fun e w'=>∃ u,e = .returned u∧P1 u w') ∧
  (∀ u w',P1 u w'→Calls Tryz.prog 11 #[u,.int .i64 c,.int .i64 q] w' fun e w'=>∃ u,e = .returned u∧P2 u w') ∧
  (∀ u w',P2 u w'→Calls Tryz.prog 10 #[g,u] w' fun e w'=>∃ u,e = .returned u∧R u w')
set_option maxHeartbeats 4000000 in
theorem NS {S S':Sig} {B:VO} (hB:@J9 S Tryz.prog B) (hreg:∀ f id,B.reg f id=none) {V:Vd} {rep:Zc} {u rem:Bool} {g ch:Value} {w0 w2:World} {T:Nat→Prop} {row:Value}
  (chk:Kp (Rw Tryz.prog B ME 1000000 200) V u rem rep=true) (K:Kn S (stU u rem) T w2 [.slice 104 0 1 none,.gho 103 8,.ptr 0 0] [ch,row,g]) (hT:∀ k,T k→w0.heap.size≤k) (hc:Chg (fun _=>False) w0 w2)
  {q:Int} (hq:q=1+S.x) (hz:V.z=false) (hd:S'.x=S.x+V.d) (hk:S'.y=V.k)
  (htg:∀ a b,(a,b)∈V.tg→∀ F w v,S.Q6 a F w v→S'.Q6 b F w v) (hte:V.te=[]) {ra rb:Int} (hrep:rep = .agg [.int .i64 ra,.int .i64 rb,.str []]) :
  Cj w0 w2 g ch 1 q fun v w'=>v = .agg #[.int .i64 ra,.int .i64 rb,.string ⟨#[]⟩]∧Kn S' V.S (TT w0) w' [.ptr 0 0] [g]∧Chg (fun _=>False) w0 w':=by
 obtain ⟨e,s1,y,s2,s3,c1,c2,c3,hv⟩:=@UZ S _ _ _ _ _ chk
 subst hrep
 refine ⟨fun v w'=>Kn S s1 (TT w0) w' [e,.ptr 0 0] [v,g]∧Chg (fun _=>False) w0 w',fun v w'=>Kn S s2 (TT w0) w' [y,.ptr 0 0] [v,g]∧Chg (fun _=>False) w0 w',?_,?_,?_⟩
 ·refine (K.call hB hreg c1 (fun us W=>Tryz.call16 us W) (us:=[ch]) (fun r h=>vc (vh h) vn)).mono ?_
  rintro _ w' ⟨v,rfl,K',h'⟩
  exact ⟨v,rfl,(K'.low (w0:=w0) hT hc.size).pick fun r h=>vc (vh h) (vc (vh (vt (vt (vt h)))) vn),hc.trans h' fun i hi hk=>by have:=hT i hk; omega⟩
 ·rintro v w' ⟨K',h'⟩
  refine (K'.call hB hreg c2 (fun us W=>Tryz.call11 us W) (us:=[v,.int .i64 1,.int .i64 q]) (fun r h=>vc (vh h) (vc vi (vc (@VR.sint S r .i64 (.ofNat 1) (.ofNat 1) (.ofNat 0) q (by rw [hq]; show 1+S.x=1+1*S.x+0*S.y; omega)) vn)))).mono ?_
  rintro _ w3 ⟨v2,rfl,K2,h2⟩
  exact ⟨v2,rfl,(K2.low (w0:=w0) (fun k hk=>hk) h'.size).pick fun r h=>vc (vh h) (vc (vh (vt (vt h))) vn),h'.trans h2 fun i hi hk=>by have hk:w0.heap.size≤i:=hk; omega⟩
 ·rintro v w' ⟨K',h'⟩
  refine (K'.call hB hreg c3 (fun us W=>Tryz.call10 us W) (us:=[g,v]) (fun r h=>vc (vh (vt h)) (vc (vh h) vn))).mono ?_
  rintro _ w3 ⟨v2,rfl,K2,h2⟩
  have K3:=K2.low (w0:=w0) (fun k hk=>hk) h'.size
  exact ⟨v2,rfl,K3.rep,K3.view (fun r h=>vh (vt (vt h))) hv (fun h=>by rw [hz] at h; cases h) (fun _=>hd) hk htg (fun b hb=>by rw [hte] at hb; cases hb),h'.trans h2 fun i hi hk=>by have hk:w0.heap.size≤i:=hk; omega⟩
def FO (u:Bool):ByteArray:=if u then ⟨#[117]⟩ else ⟨#[116]⟩
theorem Zf4 {S:Sig} {r:Rho} (u:Bool):@VR S r (ZfZ u) (.string (FO u)):=by
 cases u
 ·exact @VR.str S r [116]
 ·exact @VR.str S r [117]
def BC (w0:World) (g:Value) (x:Int) (n:Nat) (w':World):Prop :=
 ∃ σ y hx hy,Jm n σ ∧ Kn (S1 σ x y hx hy) VA.S (TT w0) w' [.ptr 0 0] [g]∧Chg (fun _=>False) w0 w'
set_option maxHeartbeats 4000000 in
theorem Zf5 {σ : Kq} {k:Nat} {y:Int} {hx:0≤(k:Int)∧(k:Int)≤1000} {hy:0≤y∧y≤1000} {w0 wr w1:World} {g:Value} {rb len:Nat} {row:List Vl} {u rem:Bool}
  (hi:Jm k σ) (hk:k≤40) (K:Kn (S1 σ k y hx hy) VA.S (TT w0) wr [.ptr 0 0] [g]) (h0:Chg (fun _=>False) w0 wr) (hc:Chg (fun _=>False) wr w1) (hrow:Zq (fun b=>b=rb) w1 (.slice (some ⟨rb,0,none⟩) len len) row) (hrb:wr.heap.size≤rb) (hlt:rb<w1.heap.size)
  (hxr:FJ u row) (hx1:0≤(k:Int)+1∧(k:Int)+1≤1000) :
  Cj w0 (w1.alloc (.cells #[.string (FO u),.slice (some ⟨rb,0,none⟩) len len,.bool rem] 41)) g (.slice (some ⟨w1.heap.size,0,none⟩) 1 1) 1 (1+(k:Int)) fun v w'=>BC w0 g (k+1) (k+1) w':=by
 have hrr:=hxr.right.1
 have hsz0:=h0.size
 have hsz1:=hc.size
 have ready:∀ b:Bool,Kn (S2 σ u b row k y hx hy) (stU u rem) (fun j=>((((w0.heap.size≤j∧j<wr.heap.size)∨j=rb))∨j=w1.heap.size)) (w1.alloc (.cells #[.string (FO u),.slice (some ⟨rb,0,none⟩) len len,.bool rem] 41))
   [.slice 104 0 1 none,.gho 103 8,.ptr 0 0] [.slice (some ⟨w1.heap.size,0,none⟩) 1 1,.slice (some ⟨rb,0,none⟩) len len,g]:=fun b=>by
  have Ka:Kn (S2 σ u b row k y hx hy) VA.S (TT w0) wr [.ptr 0 0] [g]:=Kn.sig (S:=S1 σ k y hx hy) (S':=S2 σ u b row k y hx hy) rfl rfl rfl (Zh6 σ u b row) K
  have Kb:=(Ka.mono (T':=fun j=>w0.heap.size≤j∧j<wr.heap.size) fun j hj hl=>⟨hj,hl⟩).Zi hc
  have Kc:=Kb.gho (t:=8) (u := .slice (some ⟨rb,0,none⟩) len len) (F:=fun b=>b=rb) rfl (fun b h=>by cases h) (fun j hj hT=>by omega) ⟨hrr,hrow⟩
  have Kd:=Kc.Zi ((Chg.refl (fun _=>False) w1).alloc (.cells #[.string (FO u),.slice (some ⟨rb,0,none⟩) len len,.bool rem] 41))
  exact Kd.blk (k:=w1.heap.size) (e:=3) (cs:=[ZfZ u,.gho 103 8,.bool rem]) (vs:=[.string (FO u),.slice (some ⟨rb,0,none⟩) len len,.bool rem]) (fun r h=>vc (Zf4 u) (vc (vh h) (vc vb vn))) (heap_alloc_new w1 _) (fun h=>by omega) 1 rfl
 have hT:∀ j,(((w0.heap.size≤j∧j<wr.heap.size)∨j=rb)∨j=w1.heap.size)→w0.heap.size≤j:=fun j hj=>by omega
 have hcw:Chg (fun _=>False) w0 (w1.alloc (.cells #[.string (FO u),.slice (some ⟨rb,0,none⟩) len len,.bool rem] 41)):=(h0.trans hc fun _ _ h=>h).alloc _
 have done:∀ (b:Bool),(b=false→1≤nf (σ.tab u) row)→Kp (Rw Tryz.prog (BG (tbU u b)) ME 1000000 200) (VU u) u rem P9=true →
   Cj w0 (w1.alloc (.cells #[.string (FO u),.slice (some ⟨rb,0,none⟩) len len,.bool rem] 41)) g (.slice (some ⟨w1.heap.size,0,none⟩) 1 1) 1 (1+(k:Int)) fun v w'=>BC w0 g (k+1) (k+1) w':=fun b hb chk=>by
  have hB:=@Zb5 (S2 σ u b row k y hx hy) (unM σ u b row) rfl (tbU u b) (Zf1 (by omega) hi hxr hb)
  have hinv:=hi.step hxr hb
  obtain ⟨P1,P2,p1,p2,p3⟩:=NS (S':=S1 (σ.step u b row) ((k:Int)+1) 0 hx1 (by decide)) hB (fun _ _=>rfl) chk (ready b) hT hcw (q:=1+(k:Int)) rfl rfl rfl rfl (fun a c hac F w v h=>by
   cases u
   ·have hac:(a,c)∈[(9,1),(2,2),(10,3),(4,4),(11,5),(12,6)]:=hac
    simp only [List.mem_cons,List.not_mem_nil,or_false,Prod.mk.injEq] at hac
    rcases hac with ⟨rfl,rfl⟩ | ⟨rfl,rfl⟩ | ⟨rfl,rfl⟩ | ⟨rfl,rfl⟩ | ⟨rfl,rfl⟩ | ⟨rfl,rfl⟩ <;> exact h
   ·have hac:(a,c)∈[(1,1),(9,2),(3,3),(10,4),(11,5),(12,6)]:=hac
    simp only [List.mem_cons,List.not_mem_nil,or_false,Prod.mk.injEq] at hac
    rcases hac with ⟨rfl,rfl⟩ | ⟨rfl,rfl⟩ | ⟨rfl,rfl⟩ | ⟨rfl,rfl⟩ | ⟨rfl,rfl⟩ | ⟨rfl,rfl⟩ <;> exact h) rfl (ra:=0) (rb:=0) rfl
  exact ⟨P1,P2,p1,p2,fun v w' h=>(p3 v w' h).mono fun e w'' ⟨v',e1,_,h2,h3⟩=>⟨v',e1,σ.step u b row,0,hx1,by decide,hinv,h2,h3⟩⟩
 by_cases hrem:rem=false
 ·subst hrem
  refine done true (fun h=>by cases h) ?_
  cases u
  ·exact Zcb
  ·exact Zce
 ·have hrem:rem=true:=by simpa using hrem
  subst hrem
  by_cases hth:1≤nf (σ.tab u) row
  ·refine done false (fun _=>hth) ?_
   cases u
   ·exact Zcc
   ·exact Zcf
  ·have hno:nf (σ.tab u) row=0:=by
    have:0≤nf (σ.tab u) row:=by
     cases u
     ·exact Vc hi.RX row
     ·exact Vc hi.Ma row
    omega
   have hB:=@Zb5 (S2 σ u true row k y hx hy) (unM σ u true row) rfl (tbR u) (Zf0 (by omega) hi hxr hno)
   have chk:Kp (Rw Tryz.prog (BG (tbR u)) ME 1000000 200) VA u true ZfY=true:=by
    cases u
    ·exact Zcd
    ·exact Zcg
   obtain ⟨P1,P2,p1,p2,p3⟩:=NS (S':=S1 σ ((k:Int)+1) 25 hx1 (by decide)) hB (fun _ _=>rfl) chk (ready true) hT hcw (q:=1+(k:Int)) rfl rfl rfl rfl (fun a c hac F w v h=>by
    have hac:(a,c)∈[(1,1),(2,2),(3,3),(4,4),(5,5),(6,6)]:=hac
    simp only [List.mem_cons,List.not_mem_nil,or_false,Prod.mk.injEq] at hac
    rcases hac with ⟨rfl,rfl⟩ | ⟨rfl,rfl⟩ | ⟨rfl,rfl⟩ | ⟨rfl,rfl⟩ | ⟨rfl,rfl⟩ | ⟨rfl,rfl⟩ <;> exact h) rfl (ra:=25) (rb:=0) rfl
   exact ⟨P1,P2,p1,p2,fun v w' h=>(p3 v w' h).mono fun e w'' ⟨v',e1,_,h2,h3⟩=>⟨v',e1,σ,25,hx1,by decide,hi.mono (Nat.le_succ k),h2,h3⟩⟩
end Go.Proofs.YtheflbaejhlboaaGreatDoor.Ev
namespace Go.Proofs.YtheflbaejhlboaaGreatDoor
def Xd:List Itm→Int→Int
 | [],_=>0
 | x::l,k=>(if (x.row.headD vl0).n=k then x.net else 0)+Xd l k
theorem RJ (l m:List Itm) (k:Int):Xd (l++m) k=Xd l k+Xd m k:=by
 induction l with
 | nil=>simp [Xd]
 | cons x l ih=>rw [List.cons_append,Xd,Xd,ih]; omega
theorem Xe:∀ (l:List Itm) (k:Int),(∀ x∈l,x.b=0)→0≤Xd l k∧Xd l k≤(ZJ l:Int)
 | [],k,_=>by simp [Xd,ZJ]
 | x::l,k,h=>by
  have h1:=Xe l k fun y hy=>h y (by simp [hy])
  have h2:=h x (by simp)
  have h3:x.net=(x.a:Int):=by unfold Itm.net; omega
  rw [Xd,ZJ]
  split <;> omega
theorem NT (l:List Itm) (n:Nat):ZJ (l.take n)≤ZJ l:=by
 have h:=X9 (l.take n) (l.drop n)
 rw [List.take_append_drop] at h
 omega
def Fst (r:List Vl):Prop:=∃ (n:Int) (t:List Vl),r=vlI n::t ∧ -3≤n∧n≤3
theorem Ce.fst {r:List Vl} (h:Ce r):Fst r:=by obtain ⟨n,m,s,rfl,h1,h2,_⟩:=h; exact ⟨n,_,rfl,h1,h2⟩
theorem Cf.fst {r:List Vl} (h:Cf r):Fst r:=by obtain ⟨n,m,rfl,h1,h2⟩:=h; exact ⟨n,_,rfl,h1,h2⟩
theorem T3:∀ (S:Zs) (k:Int),(∀ p∈S,Fst p.1)→Xd (Zz S) k=nf (prS S) [vlI k]
 | [],_,_=>rfl
 | p::S,k,h=>by
  obtain ⟨n,t,e,_,_⟩:=h p (by simp)
  show Xd (ZI p::Zz S) k=nf ((p.1.take 1,p.2)::prS S) [vlI k]
  rw [Xd,nf,T3 S k fun q hq=>h q (by simp [hq])]
  have h2:(ZI p).net=p.2:=by unfold ZI Itm.net; simp only; omega
  have a:((ZI p).row.headD vl0).n=n:=by rw [show (ZI p).row=vlI n::t from e]; rfl
  have b:p.1.take 1=[vlI n]:=by rw [e]; rfl
  congr 1
  by_cases hk:n=k
  ·rw [if_pos (a.trans hk),if_pos (by rw [b,hk]),h2]
  ·rw [if_neg fun x=>hk (a.symm.trans x),if_neg fun x=>hk (by rw [b] at x; simpa [vlI] using x)]
theorem Ve {S:Zs} (h:∀ p∈S,0≤p.2):∀ x∈Zz S,x.b=0:=fun x hx=>by
 obtain ⟨p,hp,rfl⟩:=List.mem_map.1 hx
 have:=h p hp
 unfold ZI
 simp only
 omega
def lS (N:Nat→Int) (j:Nat):Zs:=(List.range j).filterMap fun i=>if 0<N i then some ([vlI ((i:Int)-3)],N i) else none
theorem Sr (N:Nat→Int) (j:Nat):lS N (j+1)=lS N j++if 0<N j then [([vlI ((j:Int)-3)],N j)] else []:=by
 unfold lS
 rw [List.range_succ,List.filterMap_append]
 congr 1
 by_cases h:0<N j
 ·simp [h]
 ·simp [h]
theorem Hm {N:Nat→Int} {j:Nat} {p:List Vl×Int} (h:p∈lS N j):∃ i,i<j∧0<N i∧p=([vlI ((i:Int)-3)],N i):=by
 obtain ⟨i,hi,e⟩:=List.mem_filterMap.1 h
 split at e
 ·rename_i h0
  cases e
  exact ⟨i,List.mem_range.1 hi,h0,rfl⟩
 ·cases e
theorem U1 (n:Int):Zl [vlI n]=true:=by simp [Zl,vlI,Vl.right]
theorem Zch {a b:Int} (h:a<b):Qp [vlI a] [vlI b]<0:=by
 have:Wu (vlI a) (vlI b)<0:=by
  rw [W5,Ju (by simp [vlI,Vl.right]) (by simp [vlI,Vl.right])]
  simp [vlI,h]
 rw [Qp,if_neg (by omega)]
 exact this
theorem ZeO (N:Nat→Int) (j:Nat):ZP (lS N j) where
 row:=fun p hp=>by obtain ⟨i,_,_,rfl⟩:=Hm hp; exact U1 _
 net:=fun p hp=>by obtain ⟨i,_,h,rfl⟩:=Hm hp; show N i≠0; omega
 ord:=by
  unfold lS
  refine List.Pairwise.filterMap _ (fun a a' hab b hb b' hb' => ?_) List.pairwise_lt_range
  split at hb
  ·split at hb'
   ·cases hb; cases hb'
    exact Zch (by omega)
   ·cases hb'
  ·cases hb
theorem ZeP {A:Zs} (hA:ZP A) (hp:∀ p∈A,0≤p.2) (hr:∀ p∈A,∃ k:Int,p.1=[vlI k] ∧ -3≤k∧k≤3) {N:Nat→Int} (hN:∀ i,i<7→N i=nf A [vlI ((i:Int)-3)]):lS N 7=A:=by
 refine ZP.uniq (ZeO N 7) hA fun r => ?_
 by_cases h:∃ i:Nat,i<7∧r=[vlI ((i:Int)-3)]
 ·obtain ⟨i,hi,rfl⟩:=h
  rw [← hN i hi]
  by_cases h0:0<N i
  ·have hm:([vlI ((i:Int)-3)],N i)∈lS N 7:=List.mem_filterMap.2 ⟨i,List.mem_range.2 hi,by rw [if_pos h0]⟩
   exact (ZeO N 7).P7 hm
  ·have h1:0≤N i:=by rw [hN i hi]; exact Vc hp _
   rw [Wk fun p hpm e => ?_]
   ·omega
   ·obtain ⟨i',_,h2,rfl⟩:=Hm hpm
    have h3:vlI ((i':Int)-3)=vlI ((i:Int)-3):=by simpa using e
    have h4:(i':Int)-3=(i:Int)-3:=congrArg Vl.n h3
    have:i'=i:=by omega
    subst this
    exact h0 h2
 ·rw [Wk fun p hpm e => ?_,Wk fun p hpm e => ?_]
  ·obtain ⟨k,h1,h2,h3⟩:=hr p hpm
   exact h ⟨(k+3).toNat,by omega,by rw [← e,h1]; congr 2; omega⟩
  ·obtain ⟨i',h1,_,rfl⟩:=Hm hpm
   exact h ⟨i',h1,e.symm⟩
theorem NU (S:Zs) (p:List Vl×Int):Zz (S++[p])=Zz S++[ZI p]:=by simp [Zz]
theorem Jm.Zh7 {k:Nat} {σ : Kq} (h:Jm k σ):∀ p ∈ σ.A,∃ k:Int,p.1=[vlI k] ∧ -3≤k∧k≤3:=fun p hp=>by
 have h1:=h.a.set.P7 hp
 have h2:=h.a.set.net p hp
 have h3:=h.ha p.1
 have pr:∀ S:Zs,(∀ p∈S,Fst p.1)→nf (prS S) p.1≠0→∃ k:Int,p.1=[vlI k] ∧ -3≤k∧k≤3:=fun S hS hn=>by
  obtain ⟨q,hq,e⟩:=ZP.mem_of hn
  obtain ⟨q0,hq0,rfl⟩:=List.mem_map.1 hq
  obtain ⟨n,t,e1,e2,e3⟩:=hS q0 hq0
  simp only at e
  rw [e1] at e
  exact ⟨n,by rw [← e]; rfl,e2,e3⟩
 by_cases h4:nf (prS σ.T) p.1=0
 ·refine pr σ.U (fun q hq=>(h.FL q hq).fst) ?_
  omega
 ·exact pr σ.T (fun q hq=>(h.FK q hq).fst) h4
theorem Jm.Zh8 {k:Nat} {σ : Kq} (h:Jm k σ):∀ p ∈ σ.A,0≤p.2:=ZbU h.a.set fun r=>by
 rw [h.ha]
 have:=ZbT h.RX r
 have:=ZbT h.Ma r
 omega
theorem Zci {k:Nat} {σ : Kq} (h:Jm k σ) {N:Nat→Int} (hN:∀ i,i<7→N i=Xd (Zz σ.T) ((i:Int)-3)+Xd (Zz σ.U) ((i:Int)-3)) :
  lS N 7 = σ.A∧lS (fun i=>if 0<N i then 1 else 0) 7=Wj σ.A:=by
 have hN':∀ i,i<7→N i=nf σ.A [vlI ((i:Int)-3)]:=fun i hi=>by
  rw [hN i hi,h.ha,T3 _ _ fun p hp=>(h.FK p hp).fst,T3 _ _ fun p hp=>(h.FL p hp).fst]
 refine ⟨ZeP h.a.set h.Zh8 h.Zh7 hN',ZeP h.a.one.set (fun p hp => ?_) (fun p hp => ?_) fun i hi => ?_⟩
 ·obtain ⟨q,hq,rfl⟩:=List.mem_map.1 hp
  simp
 ·obtain ⟨q,hq,rfl⟩:=List.mem_map.1 hp
  exact h.Zh7 q hq
 ·have h1:0≤N i:=by rw [hN' i hi]; exact Vc h.Zh8 _
  rw [Hi h.a.set,← hN' i hi]
  by_cases h2:N i=0
  ·rw [if_pos h2,if_neg (by omega)]
  ·rw [if_neg h2,if_pos (by omega)]
def Wm (w:World) (B:Nat) (N:Nat→Int):Prop:=∃ cur,w.heap[B]? = some (.cells cur 65 (0,0))∧cur.size=7∧∀ j,j<7→cur[j]? = some (.int .i64 (N j))
theorem Wm.cell {w:World} {B:Nat} {N:Nat→Int} (h:Wm w B N) {j:Nat} (hj:j<7):w.cell? ⟨B,j,none⟩=some (.int .i64 (N j))∧w.frozen? ⟨B,j,none⟩=false:=by
 obtain ⟨cur,h1,h2,h3⟩:=h
 exact ⟨by rw [cell_of_row w B j cur _ (0,0) h1]; exact h3 j hj,frozen_of_row w B j cur _ h1⟩
theorem Wm.set {w:World} {B:Nat} {N:Nat→Int} (h:Wm w B N) {j:Nat} (v:Int):Wm (w.setCell ⟨B,j,none⟩ (.int .i64 v)) B (fun i=>if i=j then v else N i):=by
 obtain ⟨cur,h1,h2,h3⟩:=h
 refine ⟨_,heap_setCell_same w B j cur _ (.int .i64 v) h1,by simp [h2],fun i hi => ?_⟩
 rw [Array.getElem?_setIfInBounds]
 by_cases e:j=i
 ·subst e
  rw [if_pos rfl,if_pos (by omega)]
  simp
 ·rw [if_neg e]
  have e2:¬ i=j:=fun e2=>e e2.symm
  simp only [e2,if_false]
  exact h3 i hi
theorem Wm.chg {T:Nat→Prop} {w w':World} {B:Nat} {N:Nat→Int} (h:Wm w B N) (hc:Chg T w w') (hn:¬ T B):Wm w' B N:=by
 obtain ⟨cur,h1,h2⟩:=h
 exact ⟨cur,hc.heap h1 hn,h2⟩
theorem Wm.lt {w:World} {B:Nat} {N:Nat→Int} (h:Wm w B N):B<w.heap.size:=by
 obtain ⟨cur,h1,_⟩:=h
 exact lt_of_block h1
theorem Wm.congr {w:World} {B:Nat} {N M:Nat→Int} (h:Wm w B N) (e:∀ i,i<7→N i=M i):Wm w B M:=by
 obtain ⟨cur,h1,h2,h3⟩:=h
 exact ⟨cur,h1,h2,fun j hj=>by rw [← e j hj]; exact h3 j hj⟩
end Go.Proofs.YtheflbaejhlboaaGreatDoor
namespace Go.Proofs.YtheflbaejhlboaaGreatDoor.Ev
open Go Go.Proofs
set_option maxRecDepth 1000000
theorem U2:ZeL (cG0 tbE)=true:=by decide +kernel
end Go.Proofs.YtheflbaejhlboaaGreatDoor.Ev
