/- A part of the proof of a law of package confluencetop: lemmas, no condition of ours. -/
import Derived.Test.YtheflbaejhlboaaGreatDoorTopUn26
import Derived.Test.YtheflbaejhlboaaGreatDoorTopUn27
import Derived.Test.YtheflbaejhlboaaGreatDoorTopUn9
import Derived.Test.YtheflbaejhlboaaGreatDoorTopUn3
set_option linter.unusedVariables false
set_option linter.unusedSectionVars false
set_option linter.unusedSimpArgs false
namespace Go.Proofs.YtheflbaejhlboaaGreatDoor.Ev
open Go Go.Proofs Go.RowKit
theorem Zf6 {k:Nat} (hk:k≤62) {σ : Kq} (h:Jm k σ):ZbY (unB σ) tbE:=by
 refine ⟨rfl,?_,?_,?_,?_,?_,?_,?_,?_,?_,?_,?_,?_,?_⟩
 all_goals intro a
 ·intro _ _ h; cases h
 ·intro _ _ _ h; cases h
 ·intro _ h; cases h
 ·intro c hc
  have hc:(a,c)∈[(1,1),(2,2),(5,5),(6,6)]:=hc
  simp only [List.mem_cons,List.not_mem_nil,or_false,Prod.mk.injEq] at hc
  rcases hc with ⟨rfl,rfl⟩ | ⟨rfl,rfl⟩ | ⟨rfl,rfl⟩ | ⟨rfl,rfl⟩
  ·exact ⟨_,rfl,rfl,h.t.sm (by omega)⟩
  ·exact ⟨_,rfl,rfl,h.u.sm (by omega)⟩
  ·exact ⟨_,rfl,rfl,h.a.sm (by omega)⟩
  ·exact ⟨_,rfl,rfl,h.a.one.sm (by omega)⟩
 ·intro h; cases h
 ·intro h; cases h
 ·intro h; cases h
 ·intro h; cases h
 ·intro _ h; cases h
 ·intro _ h; cases h
 ·intro _ _ h; cases h
 ·intro _ _ _ h; cases h
 ·intro _ h; cases h
theorem Kn.tup {S:Sig} {s:St} {T:Nat→Prop} {w:World} {L:List Zc} {U:List Value} {u:Value} {i t:Nat} {M:Nat→Mn} {A:Zs} (h:Kn S s T w (.tuple [.gho i t,.bool true]::L) (u::U)) (hM:S.Q6=Qx M) (hA:M t = .set A) :
  ∃ sv,u = .tuple #[sv,.bool true]∧Sm A∧Zt T w sv (Zz A):=by
 have h':=h
 obtain ⟨r,_,hv,_⟩:=h'
 have hx:=vh hv
 have key:∃ sv,u = .tuple #[sv,.bool true]:=by
  cases hx with
  | tuple hx=>cases hx with
   | cons h1 hx=>cases hx with
    | cons h2 hx=>cases hx; cases h2; exact ⟨_,rfl⟩
 obtain ⟨sv,rfl⟩:=key
 have hk:Kn S s T w [.gho i t] [sv]:=h.pick fun r h=>by
  have hx:=vh h
  cases hx with
  | tuple hx=>exact vc (vh hx) vn
 obtain ⟨h1,h2⟩:=hk.set hM (fun r h=>vh h) hA
 exact ⟨sv,rfl,h1,h2⟩
theorem Kn.KM {S:Sig} {s:St} {T T':Nat→Prop} {w w':World} {L:List Zc} {U:List Value} (h:Kn S s T w L U) (hc:Chg T' w w') (hd:∀ k,T k→¬ T' k):Kn S s T w' L U:=by
 obtain ⟨r,⟨⟨h1,h2⟩,h3,h4,h5⟩,h6,h7⟩:=h
 refine ⟨r,@Rel.mk S _ _ _ (@RelB.mk S _ _ _ (fun i b x hb hx => ?_) h2) h3 h4 (fun i x g hx hg => ?_),h6,h7⟩
 ·obtain ⟨o,k1,k2⟩:=h1 i b x hb hx
  exact ⟨o,hc.heap k1 (hd _ (h7 _ (.inl ⟨i,b,x,hb,hx,rfl⟩))),k2⟩
 ·obtain ⟨k1,k2⟩:=h5 i x g hx hg
  have hs:=hc.size
  refine ⟨Nat.le_trans k1 hs,fun k hk hl=>⟨?_,(k2 k hk hl).2⟩⟩
  rw [hc.block k (by omega) (hd k (h7 k (.inr ⟨i,x,g,hx,hg,hk,hl⟩)))]
  exact (k2 k hk hl).1
theorem Zcj {w:World} {b:Nat} {x y:Value} (h0:w.cell? ⟨b,0,none⟩=some x) (h1:w.cell? ⟨b,1,none⟩=some y):CsK w (fun i=>i=b) 2 (some ⟨b,0,none⟩) 1 [x,y] :=
 ⟨rfl,fun _=>⟨b,0,rfl,rfl,World.block_lt_of_cell? w _ h0,fun j u hu=>by
  match j,hu with
  | 0,hu=>simp at hu; subst hu; simpa using h0
  | 1,hu=>simp at hu; subst hu; simpa using h1
  | j+2,hu=>simp at hu⟩⟩
theorem Zck:∀ b∈V4.te,∀ w,(S1 σ0 0 0 (by decide) (by decide)).Q6 b (fun _=>False) w (.slice none 0 0):=by
 intro b hb w
 have hb:b∈[1,2,3,4,5,6]:=hb
 have h:Sm []∧Zt (fun _=>False) w (.slice none 0 0) (Zz []):=⟨Bd.nil.sm (by omega),Zt.Ws _ _⟩
 simp only [List.mem_cons,List.not_mem_nil,or_false] at hb
 rcases hb with rfl | rfl | rfl | rfl | rfl | rfl <;> exact h
theorem BD {S:Sig} {r:Rho} {a b c:Int} {n t:List UInt8}:@VR S r (.agg [.int .i64 a,.int .i64 b,.int .i64 c,.str n,.str t,.Za,.Za]) (.agg #[.int .i64 a,.int .i64 b,.int .i64 c,.string ⟨⟨n⟩⟩,.string ⟨⟨t⟩⟩,.slice none 0 0,.slice none 0 0]) :=
 @VR.agg S r _ _ (vc vi (vc vi (vc vi (vc vs (vc vs (vc (@VR.Za S r) (vc (@VR.Za S r) vn)))))))
theorem Zf7 {w:World} {rb len:Nat} {row:List Vl} {u:Bool} (h:Zq (fun b=>b=rb) w (.slice (some ⟨rb,0,none⟩) len len) row) (hx:FJ u row):rb<w.heap.size:=by
 obtain ⟨A,cap,e,_,_,h3⟩:=h
 have hl:0<row.length:=by
  cases u
  ·obtain ⟨n,m,s,rfl,_⟩:=hx
   simp
  ·obtain ⟨n,m,rfl,_⟩:=hx
   simp
 obtain ⟨b,off,e2,hb,hlt,_⟩:=h3 hl
 injection e with e3
 rw [e2] at e3
 injection e3 with e3
 injection e3 with e3
 subst e3
 exact hlt
set_option maxHeartbeats 16000000 in
set_option maxRecDepth 100000 in
theorem ZdF {w:World} {A:Option Addr} {n c:Nat} (haw:∀ W,Calls Tryz.prog 22 #[] W fun e W'=>e = .returned (.bool true)∧Chg (fun _=>False) W W') (h:BE w A n c) :
  Calls Tryz.prog 8 #[.slice A n c] w fun e w'=>e = .returned (.bool true)∧Chg (fun _=>False) w w':=by
 obtain ⟨hnc,hcm,harg⟩:=h
 have HARG:=Lib.hid harg
 clear harg
 have hR:=@Zf2 S0
 have K0:=Kn.start (S:=S0) (T:=TT w) w
 obtain ⟨s1,ct,s2,s3,cu,s4,s5,s6,s7,b1,s8,s9,b2,s10,s11,call1,call2,call3,call4,call5,call6,call7,call8,call9,call10,call11,view2⟩:=@Cg S0 _ Zb6
 obtain ⟨b3,s12,s13,call12,call13,view3⟩:=@Mb S0 _ _ _ _ _ Zb7
 obtain ⟨b4,s14,s15,call14,call15,view4⟩:=@Mb S0 _ _ _ _ _ Zb8
 go_enter Tryz.func8,Tryz.ntmps8
 go_wp2_with fail
 refine (K0.call hR (fun _ _=>rfl) call1 (fun us W=>Tryz.call9 us W) (fun r _=>vn)).mono ?_
 rintro _ w1 ⟨u1,rfl,K1,h1⟩
 obtain ⟨gb,rfl⟩:=K1.ptr
 have K1:=K1.low (w0:=w) (fun k hk=>hk) (Nat.le_refl _)
 have hc1:Chg (fun _=>False) w w1:=(Chg.refl _ w).trans h1 fun i hi hk=>by have hk:w.heap.size≤i:=hk; omega
 clear h1
 go_wp2_with fail
 refine (K1.call hR (fun _ _=>rfl) call2 (fun us W=>Tryz.call25 us W) (fun r h=>vn)).mono ?_
 rintro _ w2 ⟨u2,rfl,K2,h2⟩
 have K2:=K2.low (w0:=w) (fun k hk=>hk) hc1.size
 have hc2:Chg (fun _=>False) w w2:=hc1.trans h2 fun i hi hk=>by have hk:w.heap.size≤i:=hk; omega
 clear h2
 go_wp2_with fail
 refine (K2.call hR (fun _ _=>rfl) call3 (fun us W=>Tryz.call12 us W) (us:=[.string ⟨⟨[116]⟩⟩,u2]) (fun r h=>vc vs (vc (vh h) vn))).mono ?_
 rintro _ w3 ⟨u3,rfl,K3,h3⟩
 obtain ⟨N3,X3,A3,c3,rfl⟩:∃ N X A c,u3 = .agg #[.int .i64 0,.int .i64 0,.int .i64 1,.string N,.string X,.slice A 3 c,.slice none 0 0]:=by
  obtain ⟨A,c,e⟩:=K3.entry
  exact ⟨_,_,A,c,e⟩
 have K3:=K3.low (w0:=w) (fun k hk=>hk) hc2.size
 have hc3:Chg (fun _=>False) w w3:=hc2.trans h3 fun i hi hk=>by have hk:w.heap.size≤i:=hk; omega
 clear h3
 go_wp2_with fail
 refine (K3.call hR (fun _ _=>rfl) call4 (fun us W=>Tryz.call13 us W) (fun r h=>vn)).mono ?_
 rintro _ w4 ⟨u4,rfl,K4,h4⟩
 have K4:=K4.low (w0:=w) (fun k hk=>hk) hc3.size
 have hc4:Chg (fun _=>False) w w4:=hc3.trans h4 fun i hi hk=>by have hk:w.heap.size≤i:=hk; omega
 clear h4
 go_wp2_with fail
 refine (K4.call hR (fun _ _=>rfl) call5 (fun us W=>Tryz.call12 us W) (us:=[.string ⟨⟨[117]⟩⟩,u4]) (fun r h=>vc vs (vc (vh h) vn))).mono ?_
 rintro _ w5 ⟨u5,rfl,K5,h5⟩
 obtain ⟨N5,X5,A5,c5,rfl⟩:∃ N X A c,u5 = .agg #[.int .i64 0,.int .i64 0,.int .i64 1,.string N,.string X,.slice A 2 c,.slice none 0 0]:=by
  obtain ⟨A,c,e⟩:=K5.entry
  exact ⟨_,_,A,c,e⟩
 have K5:=K5.low (w0:=w) (fun k hk=>hk) hc4.size
 have hc5:Chg (fun _=>False) w w5:=hc4.trans h5 fun i hi hk=>by have hk:w.heap.size≤i:=hk; omega
 clear h5
 go_wp2_with fail
 refine (K5.call hR (fun _ _=>rfl) call6 (fun us W=>Tryz.call14 us W) (fun r h=>vc vs (vc vs vn))).mono ?_
 rintro _ w6 ⟨u6,rfl,K6,h6⟩
 have E6:∀ r,@VR S0 r eT3 u6:=by
  rw [K6.Hl]
  exact fun r=>BD
 obtain ⟨N6,X6,rfl⟩:∃ N X,u6 = .agg #[.int .i64 0,.int .i64 0,.int .i64 3,.string N,.string X,.slice none 0 0,.slice none 0 0]:=⟨_,_,K6.Hl⟩
 have K6:=K6.low (w0:=w) (fun k hk=>hk) hc5.size
 have hc6:Chg (fun _=>False) w w6:=hc5.trans h6 fun i hi hk=>by have hk:w.heap.size≤i:=hk; omega
 clear h6
 go_wp2_with fail
 refine (K6.call hR (fun _ _=>rfl) call7 (fun us W=>Tryz.call14 us W) (fun r h=>vc vs (vc vs vn))).mono ?_
 rintro _ w7 ⟨u7,rfl,K7,h7⟩
 have E7:∀ r,@VR S0 r eT4 u7:=by
  rw [K7.Hl]
  exact fun r=>BD
 obtain ⟨N7,X7,rfl⟩:∃ N X,u7 = .agg #[.int .i64 0,.int .i64 0,.int .i64 3,.string N,.string X,.slice none 0 0,.slice none 0 0]:=⟨_,_,K7.Hl⟩
 have K7:=K7.low (w0:=w) (fun k hk=>hk) hc6.size
 have hc7:Chg (fun _=>False) w w7:=hc6.trans h7 fun i hi hk=>by have hk:w.heap.size≤i:=hk; omega
 clear h7
 go_wp2_with fail
 obtain ⟨w8,hw8⟩:∃ x,x=w7.alloc (.cells #[.int .i64 0,.int .i64 0,.int .i64 1,.string N3,.string X3,.slice A3 3 c3,.slice none 0 0,.int .i64 0,.int .i64 0,.int .i64 1,.string N5,.string X5,.slice A5 2 c5,.slice none 0 0,.int .i64 0,.int .i64 0,.int .i64 3,.string N6,.string X6,.slice none 0 0,.slice none 0 0,.int .i64 0,.int .i64 0,.int .i64 3,.string N7,.string X7,.slice none 0 0,.slice none 0 0] 31):=⟨_,rfl⟩
 rw [← hw8]
 have HAB:w8.heap[w7.heap.size]? = some (.cells #[.int .i64 0,.int .i64 0,.int .i64 1,.string N3,.string X3,.slice A3 3 c3,.slice none 0 0,.int .i64 0,.int .i64 0,.int .i64 1,.string N5,.string X5,.slice A5 2 c5,.slice none 0 0,.int .i64 0,.int .i64 0,.int .i64 3,.string N6,.string X6,.slice none 0 0,.slice none 0 0,.int .i64 0,.int .i64 0,.int .i64 3,.string N7,.string X7,.slice none 0 0,.slice none 0 0] 31):=by rw [hw8]; exact heap_alloc_new w7 _
 have ha8:Chg (fun _=>False) w7 w8:=hw8▸(Chg.refl _ w7).alloc _
 clear hw8
 have hc8:=hc7.trans ha8 fun _ _ h=>h
 have KI:Kn S0 s7 (fun k=>w.heap.size≤k∧k≠w7.heap.size) w8 [.ptr 3 0,eT1,eT2] _:=((K7.mono (T':=fun k=>w.heap.size≤k∧k≠w7.heap.size) fun k hk hl=>⟨hk,by omega⟩).Zi ha8).pick (fun r h=>vc (vh (vt (vt (vt (vt (vt (vt h))))))) (vc (vh (vt (vt (vt (vt h))))) (vc (vh (vt (vt h))) vn)))
 have hsz7:=hc7.size
 have hsz8:w7.heap.size<w8.heap.size:=lt_of_block HAB
 obtain ⟨AB,hAB⟩:∃ x,x=w7.heap.size:=⟨_,rfl⟩
 rw [← hAB] at HAB KI hsz7 hsz8 ⊢
 obtain ⟨V1,hV1⟩:∃ x:Value,x = .agg #[.int .i64 0,.int .i64 0,.int .i64 1,.string N3,.string X3,.slice A3 3 c3,.slice none 0 0]:=⟨_,rfl⟩
 obtain ⟨V2',hV2⟩:∃ x:Value,x = .agg #[.int .i64 0,.int .i64 0,.int .i64 1,.string N5,.string X5,.slice A5 2 c5,.slice none 0 0]:=⟨_,rfl⟩
 obtain ⟨V3',hV3⟩:∃ x:Value,x = .agg #[.int .i64 0,.int .i64 0,.int .i64 3,.string N6,.string X6,.slice none 0 0,.slice none 0 0]:=⟨_,rfl⟩
 obtain ⟨V4',hV4⟩:∃ x:Value,x = .agg #[.int .i64 0,.int .i64 0,.int .i64 3,.string N7,.string X7,.slice none 0 0,.slice none 0 0]:=⟨_,rfl⟩
 have E3:∀ r,@VR S0 r eT3 V3':=fun r=>hV3▸E6 r
 have E4:∀ r,@VR S0 r eT4 V4':=fun r=>hV4▸E7 r
 rw [← hV1,← hV2] at KI
 have HV:=Lib.hid (And.intro hV1 (And.intro hV2 (And.intro hV3 hV4)))
 have HAB':=Lib.hid HAB
 clear hAB ha8 hV1 hV2 hV3 hV4 K0 K1 K2 K3 K4 K5 K6 K7 call1 call2 call3 call4 call5 call6 call7 E6 E7 hc1 hc2 hc3 hc4 hc5 hc6 hc7 HAB
 go_loopw [32] (fun i wr=>Chg (fun _=>False) w wr∧Hid (wr.heap[AB]? = some (.cells #[.int .i64 0,.int .i64 0,.int .i64 1,.string N3,.string X3,.slice A3 3 c3,.slice none 0 0,.int .i64 0,.int .i64 0,.int .i64 1,.string N5,.string X5,.slice A5 2 c5,.slice none 0 0,.int .i64 0,.int .i64 0,.int .i64 3,.string N6,.string X6,.slice none 0 0,.slice none 0 0,.int .i64 0,.int .i64 0,.int .i64 3,.string N7,.string X7,.slice none 0 0,.slice none 0 0] 31))∧((i = .int .i64 0∧Kn S0 s7 (fun k=>w.heap.size≤k∧k≠AB) wr [.ptr 3 0,eT1,eT2] [.pointer (some ⟨gb,0,none⟩),V1,V2'])∨(i = .int .i64 1∧Kn S0 s9 (fun k=>w.heap.size≤k∧k≠AB) wr [.ptr 3 0,eT2] [.pointer (some ⟨gb,0,none⟩),V2'])∨(i = .int .i64 2∧Kn S0 V2.S (fun k=>w.heap.size≤k∧k≠AB) wr [.ptr 0 0] [.pointer (some ⟨gb,0,none⟩)]) ∨
  (i = .int .i64 3∧Kn S0 V3.S (fun k=>w.heap.size≤k∧k≠AB) wr [.ptr 0 0] [.pointer (some ⟨gb,0,none⟩)])∨(i = .int .i64 4∧Kn (S1 σ0 0 0 (by decide) (by decide)) V4.S (fun k=>w.heap.size≤k∧k≠AB) wr [.ptr 0 0] [.pointer (some ⟨gb,0,none⟩)]))) (fun i _=>4-(intOf i).toNat)
 case atStart=>exact ⟨hc8,HAB',.inl ⟨rfl,KI⟩⟩
 case round =>
  obtain ⟨hcw,HAB,hcase⟩:=hrel
  rcases hcase with ⟨rfl,K⟩ | ⟨rfl,K⟩ | ⟨rfl,K⟩ | ⟨rfl,K⟩ | ⟨rfl,K⟩
  ·obtain ⟨V,hV⟩:∃ x:Value,x = .agg #[.int .i64 0,.int .i64 0,.int .i64 1,.string N3,.string X3,.slice A3 3 c3,.slice none 0 0]:=⟨_,rfl⟩
   have q0:wr.cell? ⟨AB,0,none⟩=some (.int .i64 0):=by rw [cell_of_row _ _ _ _ _ _ HAB.out]; rfl
   have q1:wr.cell? ⟨AB,1,none⟩=some (.int .i64 0):=by rw [cell_of_row _ _ _ _ _ _ HAB.out]; rfl
   have q2:wr.cell? ⟨AB,2,none⟩=some (.int .i64 1):=by rw [cell_of_row _ _ _ _ _ _ HAB.out]; rfl
   have q3:wr.cell? ⟨AB,3,none⟩=some (.string N3):=by rw [cell_of_row _ _ _ _ _ _ HAB.out]; rfl
   have q4:wr.cell? ⟨AB,4,none⟩=some (.string X3):=by rw [cell_of_row _ _ _ _ _ _ HAB.out]; rfl
   have q5:wr.cell? ⟨AB,5,none⟩=some (.slice A3 3 c3):=by rw [cell_of_row _ _ _ _ _ _ HAB.out]; rfl
   have q6:wr.cell? ⟨AB,6,none⟩=some (.slice none 0 0):=by rw [cell_of_row _ _ _ _ _ _ HAB.out]; rfl
   go_wp2_with fail
   have ka:=(Chg.refl (fun _=>False) wr).alloc (.cells #[.int .i64 0,.int .i64 0,.int .i64 1,.string N3,.string X3,.slice A3 3 c3,.slice none 0 0] 31)
   refine ((K.Zi ka).call hR (fun _ _=>rfl) call8 (fun us W=>Tryz.call11 us W) (us:=[.agg #[.int .i64 0,.int .i64 0,.int .i64 1,.string N3,.string X3,.slice A3 3 c3,.slice none 0 0],.int .i64 0,.int .i64 1]) (fun r h=>vc (HV.out.1▸vh (vt h)) (vc vi (vc vi vn)))).mono ?_
   rintro _ y1 ⟨x1,rfl,Ka,ha⟩
   have cA:=ha.heap (ka.heap HAB.out fun h=>h) (fun h=>h.2 rfl)
   have hsz:=hcw.size
   have hszk:=ka.size
   have cw:=(hcw.trans ka fun _ _ h=>h).trans ha fun i hi hk=>by have hk:=hk.1; omega
   have HA:=Lib.hid cA
   clear cA
   go_wp2_with fail
   refine (Ka.call hR (fun _ _=>rfl) call9 (fun us W=>Tryz.call10 us W) (us:=[.pointer (some ⟨gb,0,none⟩),x1]) (fun r h=>vc (vh (vt h)) (vc (vh h) vn))).mono ?_
   rintro _ y2 ⟨x2,rfl,Kb,hb⟩
   obtain rfl:x2 = .agg #[.int .i64 0,.int .i64 0,.string ⟨#[]⟩]:=Kb.rep
   have hya:=ha.size
   have hltA:=lt_of_block HAB.out
   have cA:=hb.heap HA.out (fun h=>by rcases h with h | h; exact h.2 rfl; omega)
   have hszb:=cw.size
   have cw2:=cw.trans hb fun i hi hk=>by rcases hk with hk | hk; have hk:=hk.1; omega; omega
   have HA2:=Lib.hid cA
   clear cA
   have Kc:=Kb.mono (T':=fun k=>w.heap.size≤k∧k≠AB) fun k hk hl=>by
    have hlw:=lt_of_block HAB.out
    rcases hk with (hk | hk) | hk
    ·exact hk
    ·exact ⟨by omega,by omega⟩
    ·exact ⟨by omega,by omega⟩
   go_wp2_with fail
   go_roundw
   case rel=>exact ⟨cw2,HA2,.inr (.inl ⟨rfl,Kc.pick fun r h=>vc (vh (vt (vt h))) (vc (vh (vt (vt (vt (vt h))))) vn)⟩)⟩
   case measure=>simp [intOf]
  ·obtain ⟨V,hV⟩:∃ x:Value,x = .agg #[.int .i64 0,.int .i64 0,.int .i64 1,.string N5,.string X5,.slice A5 2 c5,.slice none 0 0]:=⟨_,rfl⟩
   have q0:wr.cell? ⟨AB,7,none⟩=some (.int .i64 0):=by rw [cell_of_row _ _ _ _ _ _ HAB.out]; rfl
   have q1:wr.cell? ⟨AB,8,none⟩=some (.int .i64 0):=by rw [cell_of_row _ _ _ _ _ _ HAB.out]; rfl
   have q2:wr.cell? ⟨AB,9,none⟩=some (.int .i64 1):=by rw [cell_of_row _ _ _ _ _ _ HAB.out]; rfl
   have q3:wr.cell? ⟨AB,10,none⟩=some (.string N5):=by rw [cell_of_row _ _ _ _ _ _ HAB.out]; rfl
   have q4:wr.cell? ⟨AB,11,none⟩=some (.string X5):=by rw [cell_of_row _ _ _ _ _ _ HAB.out]; rfl
   have q5:wr.cell? ⟨AB,12,none⟩=some (.slice A5 2 c5):=by rw [cell_of_row _ _ _ _ _ _ HAB.out]; rfl
   have q6:wr.cell? ⟨AB,13,none⟩=some (.slice none 0 0):=by rw [cell_of_row _ _ _ _ _ _ HAB.out]; rfl
   go_wp2_with fail
   have ka:=(Chg.refl (fun _=>False) wr).alloc (.cells #[.int .i64 0,.int .i64 0,.int .i64 1,.string N5,.string X5,.slice A5 2 c5,.slice none 0 0] 31)
   refine ((K.Zi ka).call hR (fun _ _=>rfl) call10 (fun us W=>Tryz.call11 us W) (us:=[.agg #[.int .i64 0,.int .i64 0,.int .i64 1,.string N5,.string X5,.slice A5 2 c5,.slice none 0 0],.int .i64 0,.int .i64 2]) (fun r h=>vc (HV.out.2.1▸vh (vt h)) (vc vi (vc vi vn)))).mono ?_
   rintro _ y1 ⟨x1,rfl,Ka,ha⟩
   have cA:=ha.heap (ka.heap HAB.out fun h=>h) (fun h=>h.2 rfl)
   have hsz:=hcw.size
   have hszk:=ka.size
   have cw:=(hcw.trans ka fun _ _ h=>h).trans ha fun i hi hk=>by have hk:=hk.1; omega
   have HA:=Lib.hid cA
   clear cA
   go_wp2_with fail
   refine (Ka.call hR (fun _ _=>rfl) call11 (fun us W=>Tryz.call10 us W) (us:=[.pointer (some ⟨gb,0,none⟩),x1]) (fun r h=>vc (vh (vt h)) (vc (vh h) vn))).mono ?_
   rintro _ y2 ⟨x2,rfl,Kb,hb⟩
   obtain rfl:x2 = .agg #[.int .i64 0,.int .i64 0,.string ⟨#[]⟩]:=Kb.rep
   have hya:=ha.size
   have hltA:=lt_of_block HAB.out
   have cA:=hb.heap HA.out (fun h=>by rcases h with h | h; exact h.2 rfl; omega)
   have hszb:=cw.size
   have cw2:=cw.trans hb fun i hi hk=>by rcases hk with hk | hk; have hk:=hk.1; omega; omega
   have HA2:=Lib.hid cA
   clear cA
   have Kc:=Kb.mono (T':=fun k=>w.heap.size≤k∧k≠AB) fun k hk hl=>by
    have hlw:=lt_of_block HAB.out
    rcases hk with (hk | hk) | hk
    ·exact hk
    ·exact ⟨by omega,by omega⟩
    ·exact ⟨by omega,by omega⟩
   go_wp2_with fail
   go_roundw
   case rel=>exact ⟨cw2,HA2,.inr (.inr (.inl ⟨rfl,Kc.view (fun r h=>vh (vt (vt h))) view2 (fun h=>by cases h) (fun _=>rfl) rfl (fun a b h=>by cases h) (fun b h=>by cases h)⟩))⟩
   case measure=>simp [intOf]
  ·obtain ⟨V,hV⟩:∃ x:Value,x = .agg #[.int .i64 0,.int .i64 0,.int .i64 3,.string N6,.string X6,.slice none 0 0,.slice none 0 0]:=⟨_,rfl⟩
   have q0:wr.cell? ⟨AB,14,none⟩=some (.int .i64 0):=by rw [cell_of_row _ _ _ _ _ _ HAB.out]; rfl
   have q1:wr.cell? ⟨AB,15,none⟩=some (.int .i64 0):=by rw [cell_of_row _ _ _ _ _ _ HAB.out]; rfl
   have q2:wr.cell? ⟨AB,16,none⟩=some (.int .i64 3):=by rw [cell_of_row _ _ _ _ _ _ HAB.out]; rfl
   have q3:wr.cell? ⟨AB,17,none⟩=some (.string N6):=by rw [cell_of_row _ _ _ _ _ _ HAB.out]; rfl
   have q4:wr.cell? ⟨AB,18,none⟩=some (.string X6):=by rw [cell_of_row _ _ _ _ _ _ HAB.out]; rfl
   have q5:wr.cell? ⟨AB,19,none⟩=some (.slice none 0 0):=by rw [cell_of_row _ _ _ _ _ _ HAB.out]; rfl
   have q6:wr.cell? ⟨AB,20,none⟩=some (.slice none 0 0):=by rw [cell_of_row _ _ _ _ _ _ HAB.out]; rfl
   go_wp2_with fail
   have ka:=(Chg.refl (fun _=>False) wr).alloc (.cells #[.int .i64 0,.int .i64 0,.int .i64 3,.string N6,.string X6,.slice none 0 0,.slice none 0 0] 31)
   refine ((K.Zi ka).call hR (fun _ _=>rfl) call12 (fun us W=>Tryz.call11 us W) (us:=[.agg #[.int .i64 0,.int .i64 0,.int .i64 3,.string N6,.string X6,.slice none 0 0,.slice none 0 0],.int .i64 0,.int .i64 3]) (fun r h=>vc (HV.out.2.2.1▸E3 r) (vc vi (vc vi vn)))).mono ?_
   rintro _ y1 ⟨x1,rfl,Ka,ha⟩
   have cA:=ha.heap (ka.heap HAB.out fun h=>h) (fun h=>h.2 rfl)
   have hsz:=hcw.size
   have hszk:=ka.size
   have cw:=(hcw.trans ka fun _ _ h=>h).trans ha fun i hi hk=>by have hk:=hk.1; omega
   have HA:=Lib.hid cA
   clear cA
   go_wp2_with fail
   refine (Ka.call hR (fun _ _=>rfl) call13 (fun us W=>Tryz.call10 us W) (us:=[.pointer (some ⟨gb,0,none⟩),x1]) (fun r h=>vc (vh (vt h)) (vc (vh h) vn))).mono ?_
   rintro _ y2 ⟨x2,rfl,Kb,hb⟩
   obtain rfl:x2 = .agg #[.int .i64 0,.int .i64 0,.string ⟨#[]⟩]:=Kb.rep
   have hya:=ha.size
   have hltA:=lt_of_block HAB.out
   have cA:=hb.heap HA.out (fun h=>by rcases h with h | h; exact h.2 rfl; omega)
   have hszb:=cw.size
   have cw2:=cw.trans hb fun i hi hk=>by rcases hk with hk | hk; have hk:=hk.1; omega; omega
   have HA2:=Lib.hid cA
   clear cA
   have Kc:=Kb.mono (T':=fun k=>w.heap.size≤k∧k≠AB) fun k hk hl=>by
    have hlw:=lt_of_block HAB.out
    rcases hk with (hk | hk) | hk
    ·exact hk
    ·exact ⟨by omega,by omega⟩
    ·exact ⟨by omega,by omega⟩
   go_wp2_with fail
   go_roundw
   case rel=>exact ⟨cw2,HA2,.inr (.inr (.inr (.inl ⟨rfl,Kc.view (fun r h=>vh (vt (vt h))) view3 (fun h=>by cases h) (fun _=>rfl) rfl (fun a b h=>by cases h) (fun b h=>by cases h)⟩)))⟩
   case measure=>simp [intOf]
  ·obtain ⟨V,hV⟩:∃ x:Value,x = .agg #[.int .i64 0,.int .i64 0,.int .i64 3,.string N7,.string X7,.slice none 0 0,.slice none 0 0]:=⟨_,rfl⟩
   have q0:wr.cell? ⟨AB,21,none⟩=some (.int .i64 0):=by rw [cell_of_row _ _ _ _ _ _ HAB.out]; rfl
   have q1:wr.cell? ⟨AB,22,none⟩=some (.int .i64 0):=by rw [cell_of_row _ _ _ _ _ _ HAB.out]; rfl
   have q2:wr.cell? ⟨AB,23,none⟩=some (.int .i64 3):=by rw [cell_of_row _ _ _ _ _ _ HAB.out]; rfl
   have q3:wr.cell? ⟨AB,24,none⟩=some (.string N7):=by rw [cell_of_row _ _ _ _ _ _ HAB.out]; rfl
   have q4:wr.cell? ⟨AB,25,none⟩=some (.string X7):=by rw [cell_of_row _ _ _ _ _ _ HAB.out]; rfl
   have q5:wr.cell? ⟨AB,26,none⟩=some (.slice none 0 0):=by rw [cell_of_row _ _ _ _ _ _ HAB.out]; rfl
   have q6:wr.cell? ⟨AB,27,none⟩=some (.slice none 0 0):=by rw [cell_of_row _ _ _ _ _ _ HAB.out]; rfl
   go_wp2_with fail
   have ka:=(Chg.refl (fun _=>False) wr).alloc (.cells #[.int .i64 0,.int .i64 0,.int .i64 3,.string N7,.string X7,.slice none 0 0,.slice none 0 0] 31)
   refine ((K.Zi ka).call hR (fun _ _=>rfl) call14 (fun us W=>Tryz.call11 us W) (us:=[.agg #[.int .i64 0,.int .i64 0,.int .i64 3,.string N7,.string X7,.slice none 0 0,.slice none 0 0],.int .i64 0,.int .i64 4]) (fun r h=>vc (HV.out.2.2.2▸E4 r) (vc vi (vc vi vn)))).mono ?_
   rintro _ y1 ⟨x1,rfl,Ka,ha⟩
   have cA:=ha.heap (ka.heap HAB.out fun h=>h) (fun h=>h.2 rfl)
   have hsz:=hcw.size
   have hszk:=ka.size
   have cw:=(hcw.trans ka fun _ _ h=>h).trans ha fun i hi hk=>by have hk:=hk.1; omega
   have HA:=Lib.hid cA
   clear cA
   go_wp2_with fail
   refine (Ka.call hR (fun _ _=>rfl) call15 (fun us W=>Tryz.call10 us W) (us:=[.pointer (some ⟨gb,0,none⟩),x1]) (fun r h=>vc (vh (vt h)) (vc (vh h) vn))).mono ?_
   rintro _ y2 ⟨x2,rfl,Kb,hb⟩
   obtain rfl:x2 = .agg #[.int .i64 0,.int .i64 0,.string ⟨#[]⟩]:=Kb.rep
   have hya:=ha.size
   have hltA:=lt_of_block HAB.out
   have cA:=hb.heap HA.out (fun h=>by rcases h with h | h; exact h.2 rfl; omega)
   have hszb:=cw.size
   have cw2:=cw.trans hb fun i hi hk=>by rcases hk with hk | hk; have hk:=hk.1; omega; omega
   have HA2:=Lib.hid cA
   clear cA
   have Kc:=Kb.mono (T':=fun k=>w.heap.size≤k∧k≠AB) fun k hk hl=>by
    have hlw:=lt_of_block HAB.out
    rcases hk with (hk | hk) | hk
    ·exact hk
    ·exact ⟨by omega,by omega⟩
    ·exact ⟨by omega,by omega⟩
   go_wp2_with fail
   go_roundw
   case rel=>exact ⟨cw2,HA2,.inr (.inr (.inr (.inr ⟨rfl,Kc.view (fun r h=>vh (vt (vt h))) view4 (fun _=>rfl) (fun h=>by cases h) rfl (fun a b h=>by cases h) (fun b h w=>Zck b h w)⟩)))⟩
   case measure=>simp [intOf]
  ·have KL:=K.mono (T':=TT w) fun k hk _=>hk.1
   clear HV HAB' E3 E4 hc8 hsz7 hsz8 KI K call8 call9 call10 call11 call12 call13 call14 call15 view2 view3 view4 hR HAB
   have hst:BC w (.pointer (some ⟨gb,0,none⟩)) 0 0 wr:=⟨σ0,0,by decide,by decide,Jm.start,KL,hcw⟩
   clear KL hcw
   obtain ⟨w00,hw00⟩:∃ x,x=wr:=⟨_,rfl⟩
   rw [← hw00] at hst
   subst hw00
   go_wp2_with fail
   go_loopw [6] (fun i wr=>∃ k:Nat,k≤30∧i = .int .i64 k∧BC w (.pointer (some ⟨gb,0,none⟩)) k k wr) (fun i _=>30-(intOf i).toNat)
   case atStart=>exact ⟨0,by omega,rfl,hst⟩
   case round =>
    obtain ⟨k,hk30,rfl,σ,y,hx,hy,hi,K,hcw⟩:=hrel
    by_cases hkn:k<n∧k<30
    ·have l0:(k:Int)<(n:Int):=by omega
     have l1:(k:Int)<30:=by omega
     obtain ⟨b,off,rfl,hb,hall⟩:=HARG.out (by omega)
     obtain ⟨tab,rv,r,rem,q0,q1,q2,hr⟩:=hall k hkn.1
     have q0:=hcw.cell q0 (fun h=>h)
     have q1:=hcw.cell q1 (fun h=>h)
     have q2:=hcw.cell q2 (fun h=>h)
     have hr:=hr.Zi hcw
     have HT:=Lib.hid (Ch (tab:=tab) (rem:=rem) hr)
     obtain ⟨RA,rcap,rfl,_⟩:=hr
     clear hall
     go_wp2_with fail
     refine HT.out.mono ?_
     rintro _ v1 ⟨rb,len,row,rfl,hrb,hrow,hxr,hc⟩
     obtain ⟨u,hu⟩:∃ u,(!decide (tab.size%2=0))=u:=⟨_,rfl⟩
     rw [hu] at hxr ⊢
     obtain ⟨P1,P2,p1,p2,p3⟩:=Zf5 (rem:=rem) hi (by omega) K hcw hc hrow hrb (Zf7 hrow hxr) hxr (by omega)
     obtain ⟨tb,htb⟩:∃ x,x=FO u:=⟨_,rfl⟩
     rw [← htb] at p1
     rw [show (if u=true then ⟨#[117]⟩ else ⟨#[116]⟩:ByteArray)=tb from htb.symm]
     clear htb hu K hi
     go_wp2_with fail
     refine p1.mono ?_
     rintro _ v2 ⟨x1,rfl,h1⟩
     go_wp2_with fail
     refine (p2 _ _ h1).mono ?_
     rintro _ v3 ⟨x2,rfl,h2⟩
     go_wp2_with fail
     refine (p3 _ _ h2).mono ?_
     rintro _ v4 ⟨x3,rfl,h3⟩
     go_wp2_with fail
     go_roundw
     case rel=>exact ⟨k+1,by omega,by go_num,h3⟩
     case measure=>simp [intOf]; omega
    ·have hgo:(¬ (k:Int)<(n:Int))∨((k:Int)<(n:Int)∧¬ (k:Int)<30):=by omega
     clear hkn
     rcases hgo with l0 | ⟨l0,l1⟩
     all_goals
      have KB:=K.mono (T':=fun q=>w.heap.size≤q∧q≠wr.heap.size∧q≠wr.heap.size+1) fun q hq hl=>⟨hq,by omega,by omega⟩
      clear K
      obtain ⟨i1,s1t,i2,s2t,i3,s3t,i4,s4t,rd1,rd2,rd3,rd4⟩:=FM U2
      have hE:=@Zb5 (S1 σ k y hx hy) (unB σ) rfl tbE (Zf6 (by omega) hi)
      have HI:=Lib.hid hi
      clear hi hst
      go_wp2_with fail
      obtain ⟨w3,hw3⟩:∃ x,x=(wr.alloc (.cells #[.int .i64 0,.int .i64 0,.int .i64 0,.int .i64 0,.int .i64 0,.int .i64 0,.int .i64 0] 65)).alloc (.cells #[.string ⟨#[116]⟩,.string ⟨#[117]⟩] 9):=⟨_,rfl⟩
      rw [← hw3]
      have t2:=Qd (w:=wr) (o := .cells #[.int .i64 0,.int .i64 0,.int .i64 0,.int .i64 0,.int .i64 0,.int .i64 0,.int .i64 0] 65) (p := .cells #[.string ⟨#[116]⟩,.string ⟨#[117]⟩] 9) (w1:=w3) (hw3▸Chg.refl _ _)
      have h3:Chg (fun _=>False) wr w3:=hw3▸((Chg.refl _ wr).alloc _).alloc _
      clear hw3
      have HN0:Wm w3 wr.heap.size (fun _=>0):=⟨_,t2.1,rfl,fun j hj=>by
       match j,hj with
       | 0,_=>rfl
       | 1,_=>rfl
       | 2,_=>rfl
       | 3,_=>rfl
       | 4,_=>rfl
       | 5,_=>rfl
       | 6,_=>rfl
       | j+7,h=>omega⟩
      have HS0:=t2.2
      have KC:=KB.Zi h3
      have hcw3:=hcw.trans h3 fun _ _ h=>h
      have hwr:=hcw.size
      clear t2 h3 KB
      obtain ⟨NB,hNB⟩:∃ x,x=wr.heap.size:=⟨_,rfl⟩
      rw [← hNB] at HN0 HS0 KC hwr ⊢
      have HN0:=Lib.hid HN0
      have HS0:=Lib.hid HS0
      clear hNB hcw
      go_loopw [70] (fun i wq=>∃ N:Nat→Int,Hid (Wm wq NB N)∧Hid (wq.heap[NB+1]? = some (.cells #[.string ⟨#[116]⟩,.string ⟨#[117]⟩] 9 (0,0)))∧Chg (fun _=>False) w wq∧((i = .int .i64 0∧Hid (∀ j,j<7→N j=0)∧Kn (S1 σ k y hx hy) VA.S (fun q=>w.heap.size≤q∧q≠NB∧q≠NB+1) wq [.ptr 0 0] [.pointer (some ⟨gb,0,none⟩)]) ∨
       (i = .int .i64 1∧Hid (∀ j,j<7→N j=Xd (Zz σ.T) ((j:Int)-3))∧Kn (S1 σ k y hx hy) s1t (fun q=>w.heap.size≤q∧q≠NB∧q≠NB+1) wq [.ptr 0 0] [.pointer (some ⟨gb,0,none⟩)]) ∨
       (i = .int .i64 2∧Hid (∀ j,j<7→N j=Xd (Zz σ.T) ((j:Int)-3)+Xd (Zz σ.U) ((j:Int)-3))∧Kn (S1 σ k y hx hy) s2t (fun q=>w.heap.size≤q∧q≠NB∧q≠NB+1) wq [.ptr 0 0] [.pointer (some ⟨gb,0,none⟩)]))) (fun i _=>2-(intOf i).toNat)
      case atStart=>exact ⟨_,HN0,HS0,hcw3,.inl ⟨rfl,Lib.hid fun _ _=>rfl,KC⟩⟩
      case round =>
       obtain ⟨N,HN,HS,hcq,hcase⟩:=hrel
       rcases hcase with ⟨rfl,HNe,K⟩ | ⟨rfl,HNe,K⟩ | ⟨rfl,HNe,K⟩
       ·have q0:wr.cell? ⟨NB+1,0,none⟩=some (.string ⟨#[116]⟩):=by rw [cell_of_row _ _ _ _ _ _ HS.out]; rfl
        have hNlt:=HN.out.lt
        have hSlt:=lt_of_block HS.out
        have hwq:=hcq.size
        have HBD:=Lib.hid (show ∀ j,j<7→0≤N j∧N j≤40 from fun j hj=>by have:=HNe.out j hj; omega)
        go_wp2_with fail
        refine (K.call hE (fun _ _=>rfl) rd1 (fun us W=>Tryz.call29 us W) (us:=[.pointer (some ⟨gb,0,none⟩),.string ⟨⟨[116]⟩⟩]) (fun r h=>vc (vh h) (vc vs vn))).mono ?_
        rintro _ y1 ⟨u1,rfl,Ka,ha⟩
        obtain ⟨sv,rfl,hsm,hset⟩:=Ka.tup rfl (A := σ.T) rfl
        have HN1:=Lib.hid (HN.out.chg ha fun h=>h.2.1 rfl)
        have HS1:=Lib.hid (ha.heap HS.out fun h=>h.2.2 rfl)
        have hcy:=hcq.trans ha fun i hi hk=>by have:=hk.1; omega
        have Kb:=(Ka.pick fun r h=>vt h).mono (T':=fun q=>w.heap.size≤q∧q≠NB∧q≠NB+1) fun q hq hl=>by
         rcases hq with hq | hq
         ·exact hq
         ·exact ⟨by omega,by omega,by omega⟩
        have HFST:=Lib.hid (show ∀ x∈Zz σ.T,Fst x.row from fun x hx=>by obtain ⟨p,hp,rfl⟩:=List.mem_map.1 hx; exact (HI.out.FK p hp).fst)
        have HPOS:=Lib.hid (Ve HI.out.RX)
        have HSUM:=Lib.hid (show ZJ (Zz σ.T)≤30 from by have:=HI.out.t.sum; omega)
        have HLEN:=Lib.hid (show (Zz σ.T).length≤30 from by have:=HI.out.t.len; rw [ZU]; omega)
        obtain ⟨SL,hSL⟩:∃ x,x=Zz σ.T:=⟨_,rfl⟩
        rw [← hSL] at hset HFST HPOS HSUM HLEN
        have HSL:=Lib.hid hSL
        clear hSL
        obtain ⟨SA,scap,rfl,hsn,hscap,hsat⟩:=hset
        have HAT:=Lib.hid hsat
        have hlen30:=HLEN.out
        have HYS:=Lib.hid ha.size
        clear hsat Ka ha hcq K hsm
        obtain ⟨wp,hwp⟩:∃ x,x=wr:=⟨_,rfl⟩
        rw [← hwp] at hNlt hSlt HAT HYS
        clear hwp q0
        go_wp2_with fail
        go_loopw [12] (fun i wz=>∃ I:Nat,I≤SL.length∧i = .int .i64 I∧Hid (Wm wz NB (fun j=>N j+Xd (SL.take I) ((j:Int)-3)))∧Chg (fun b=>b=NB) y1 wz) (fun i _=>SL.length-(intOf i).toNat)
        case atStart=>exact ⟨0,Nat.zero_le _,rfl,Lib.hid (HN1.out.congr fun j _=>by simp [Xd]),Chg.refl _ _⟩
        case round =>
         obtain ⟨I,hI,rfl,HNI,hcz⟩:=hrel
         by_cases hlt:I<SL.length
         ·obtain ⟨b,off,rfl,hTb,hb,hx⟩:=HAT.out (by omega)
          obtain ⟨x,hxI⟩:∃ x,SL[I]? = some x:=⟨_,List.getElem?_eq_getElem hlt⟩
          obtain ⟨⟨rv,p0,hrow⟩,p1,hxa,hxb,hrl⟩:=hx I x hxI
          have hxm:=List.mem_of_getElem? hxI
          obtain ⟨nn,tl,hfst,hn1,hn2⟩:=HFST.out x hxm
          have hxb0:=HPOS.out x hxm
          rw [hfst] at hrow
          obtain ⟨RA,rcap,rfl,hrn,hrc,hrat⟩:=hrow
          obtain ⟨rb,roff,rfl,hTr,hrb,hrx⟩:=hrat (by simp)
          obtain ⟨v0,v1,v2,_⟩:=hrx 0 (vlI nn) rfl
          simp only [Nat.zero_mul,Nat.add_zero] at v0 v1 v2
          have hbN:b≠NB:=by rcases hTb with h | h; exact h.2.1; omega
          have hrbN:rb≠NB:=by rcases hTr with h | h; exact h.2.1; omega
          have p0:=hcz.cell p0 hbN
          have p1:=hcz.cell p1 hbN
          have v0:=hcz.cell v0 hrbN
          have v1:=hcz.cell v1 hrbN
          have v2:=hcz.cell v2 hrbN
          obtain ⟨j,hj⟩:∃ j:Nat,nn+3=(j:Int):=⟨(nn+3).toNat,by omega⟩
          have hj7:j<7:=by omega
          have hval:(vlI nn).n=nn:=rfl
          rw [hval] at v1
          have hnn1:¬ nn < -3:=by omega
          have hnn2:¬ 3<nn:=by omega
          have hrlen:(0:Int)<(((vlI nn::tl).length:Nat):Int):=by simp
          obtain ⟨RL0,hRL⟩:∃ x,x=(vlI nn::tl).length:=⟨_,rfl⟩
          rw [← hRL] at hrlen p0 hrn
          have hw3:IntKind.i64.wrap (j:Int)=(j:Int):=IntWalk.i64_in _ (by omega)
          have hjlt:(j:Int)<7:=by omega
          have hltI:(I:Int)<(SL.length:Int):=by omega
          have hj0:(0:Int)≤(j:Int):=by omega
          unfold tc at p1
          have hnet:∀ W,Calls Tryz.prog 30 #[.complex .f64 (fl x.a) (fl x.b)] W fun e w'=>e = .returned (.int .i64 ((x.a:Int)-(x.b:Int)))∧Chg (fun _=>False) W w':=fun W=>Jx hxa hxb W
          have hbd:=HBD.out j hj7
          have hsb:=Xe (SL.take I) ((j:Int)-3) fun z hz=>HPOS.out z (List.mem_of_mem_take hz)
          have hsb2:=NT SL I
          have hsb3:=HSUM.out
          have hxw:=P4 hxm
          obtain ⟨V,hV⟩:∃ v,v=N j+Xd (SL.take I) ((j:Int)-3):=⟨_,rfl⟩
          have hVb:0≤V∧V≤100:=by omega
          have e0':=(HNI.out.cell hj7).1
          have y0':=(HNI.out.cell hj7).2
          rw [← hV] at e0'
          have hsumw:IntKind.i64.wrap (V+((x.a:Int)-(x.b:Int)))=V+((x.a:Int)-(x.b:Int)):=IntWalk.i64_in _ (by omega)
          have HX:=Lib.hid (And.intro hxI (And.intro hfst hV))
          have HST:=Lib.hid hxb0
          clear hx hrat hrx hfst hxm hbd hsb hsb2 hsb3 hxw hV hxI hval hRL hbN hrbN hTb hTr hxb0 v0 v2
          go_wp2_with fail
          have hdr:Chg (fun _=>False) wr wr.drew:=(Chg.refl _ wr).drew
          have HNd:=Lib.hid (HNI.out.chg hdr fun h=>h)
          have e0:wr.drew.cell? ⟨NB,j,none⟩=some (.int .i64 V):=hdr.cell e0' fun h=>h
          have e1:wr.drew.cell? ⟨b,off+I*2+1,none⟩=some (.complex .f64 (fl x.a) (fl x.b)):=hdr.cell p1 fun h=>h
          refine Zm [5,10] (S:=fun wx=>wx.cell? ⟨NB,j,none⟩=some (.int .i64 V)∧wx.cell? ⟨b,off+I*2+1,none⟩=some (.complex .f64 (fl x.a) (fl x.b))) (by kernel_rfl) ⟨e0,e1⟩ (fun hHeld => ?_)
          refine Zb (i:=0) (some 100) (v := ?_) rfl rfl (by kernel_rfl) (by kernel_rfl) (by kernel_rfl) (fun _ _ _ h=>h) (Or.inl ⟨by rfl,?_⟩) ?_
          rotate_left
          ·(intro wx hSw; clear hSw; go_simp; try (with_reducible rfl))
          try simp only [Act.put,List.setIfInBounds_toArray,List.set_cons_zero,List.set_cons_succ]
          refine Zb (i:=1) (some 101) (v := ?_) rfl rfl (by kernel_rfl) (by kernel_rfl) (by kernel_rfl) (fun _ _ _ h=>h) (Or.inl ⟨by rfl,?_⟩) ?_
          rotate_left
          ·(intro wx hSw; clear hSw; go_simp; try (with_reducible rfl))
          try simp only [Act.put,List.setIfInBounds_toArray,List.set_cons_zero,List.set_cons_succ]
          refine Zb (i:=2) (some 102) (v := ?_) rfl rfl (by kernel_rfl) (by kernel_rfl) (by kernel_rfl) (fun _ _ _ h=>h) (Or.inl ⟨by rfl,?_⟩) ?_
          rotate_left
          ·(intro wx hSw; clear hSw; go_simp; try (with_reducible rfl))
          try simp only [Act.put,List.setIfInBounds_toArray,List.set_cons_zero,List.set_cons_succ]
          refine Zb (i:=3) (some 103) (v := ?_) rfl rfl (by kernel_rfl) (by kernel_rfl) (by kernel_rfl) (fun _ _ _ h=>h) (Or.inl ⟨by rfl,?_⟩) ?_
          rotate_left
          ·(intro wx hSw; clear hSw; go_simp; try (with_reducible rfl))
          try simp only [Act.put,List.setIfInBounds_toArray,List.set_cons_zero,List.set_cons_succ]
          refine Zb (i:=4) (some 104) (v := ?_) rfl rfl (by kernel_rfl) (by kernel_rfl) (by kernel_rfl) (fun _ _ _ h=>h) (Or.inl ⟨by rfl,?_⟩) ?_
          rotate_left
          ·(intro wx hSw; clear hSw; go_simp; try (with_reducible rfl))
          try simp only [Act.put,List.setIfInBounds_toArray,List.set_cons_zero,List.set_cons_succ]
          refine Zp (i:=5) (some 105) (v := ?_) (by decide) rfl rfl (by kernel_rfl) (by kernel_rfl) (by kernel_rfl) (fun _ _ _ h=>h) (Or.inl ⟨by rfl,?_⟩) (by assumption) ?_
          rotate_left
          ·(intro wx hSw; go_simp; try (with_reducible rfl))
          try simp only [Act.put,List.setIfInBounds_toArray,List.set_cons_zero,List.set_cons_succ]
          refine Zb (i:=6) (some 106) (v := ?_) rfl rfl (by kernel_rfl) (by kernel_rfl) (by kernel_rfl) (fun _ _ _ h=>h) (Or.inl ⟨by rfl,?_⟩) ?_
          rotate_left
          ·(intro wx hSw; clear hSw; go_simp; try (with_reducible rfl))
          try simp only [Act.put,List.setIfInBounds_toArray,List.set_cons_zero,List.set_cons_succ]
          refine Zb (i:=7) (some 107) (v := ?_) rfl rfl (by kernel_rfl) (by kernel_rfl) (by kernel_rfl) (fun _ _ _ h=>h) (Or.inl ⟨by rfl,?_⟩) ?_
          rotate_left
          ·(intro wx hSw; clear hSw; go_simp; try (with_reducible rfl))
          try simp only [Act.put,List.setIfInBounds_toArray,List.set_cons_zero,List.set_cons_succ]
          refine Zb (i:=8) (some 108) (v := ?_) rfl rfl (by kernel_rfl) (by kernel_rfl) (by kernel_rfl) (fun _ _ _ h=>h) (Or.inl ⟨by rfl,?_⟩) ?_
          rotate_left
          ·(intro wx hSw; clear hSw; go_simp; try (with_reducible rfl))
          try simp only [Act.put,List.setIfInBounds_toArray,List.set_cons_zero,List.set_cons_succ]
          refine Zb (i:=9) (some 109) (v := ?_) rfl rfl (by kernel_rfl) (by kernel_rfl) (by kernel_rfl) (fun _ _ _ h=>h) (Or.inl ⟨by rfl,?_⟩) ?_
          rotate_left
          ·(intro wx hSw; clear hSw; go_simp; try (with_reducible rfl))
          try simp only [Act.put,List.setIfInBounds_toArray,List.set_cons_zero,List.set_cons_succ]
          refine Zp (i:=10) (some 110) (v := ?_) (by decide) rfl rfl (by kernel_rfl) (by kernel_rfl) (by kernel_rfl) (fun _ _ _ h=>h) (Or.inl ⟨by rfl,?_⟩) (by assumption) ?_
          rotate_left
          ·(intro wx hSw; go_simp; try (with_reducible rfl))
          try simp only [Act.put,List.setIfInBounds_toArray,List.set_cons_zero,List.set_cons_succ]
          refine Zj (rs:=[11]) (by kernel_rfl) (by simp) ?_
          refine Zf.cons rfl (fun K hK => ?_) Zf.nil
          go_simp
          refine (hnet _).mono ?_
          rintro _ wA ⟨rfl,hA⟩
          have d0:=hA.cell e0 (fun h=>h)
          have d1:=hA.cell e1 (fun h=>h)
          have z0:=Wm.cell (HNd.out.chg hA fun h=>h) hj7
          go_wp2_with fail
          refine hK.out _ _ ?_ ?_
          ·(intro _; exact ⟨d0,d1⟩)
          clear hK K
          try simp only [Act.put,List.setIfInBounds_toArray,List.set_cons_zero,List.set_cons_succ]
          refine Zb (i:=12) (some 112) (v := ?_) rfl rfl (by kernel_rfl) (by kernel_rfl) (by kernel_rfl) (fun _ _ _ h=>h) (Or.inl ⟨by rfl,?_⟩) ?_
          rotate_left
          ·(intro wx hSw; clear hSw; go_simp; try (with_reducible rfl))
          try simp only [Act.put,List.setIfInBounds_toArray,List.set_cons_zero,List.set_cons_succ]
          refine Zb (i:=13) (some 113) (v := ?_) rfl rfl (by kernel_rfl) (by kernel_rfl) (by kernel_rfl) (fun _ _ _ h=>h) (Or.inl ⟨by rfl,?_⟩) ?_
          rotate_left
          ·(intro wx hSw; clear hSw; go_simp; try (with_reducible rfl))
          try simp only [Act.put,List.setIfInBounds_toArray,List.set_cons_zero,List.set_cons_succ]
          refine Zj (rs:=[14]) (by kernel_rfl) (by simp) ?_
          refine Zf.Qc rfl (by kernel_rfl) (fun K hK => ?_) Zf.nil
          go_simp
          refine hK.out _ _ ?_
          clear hK K
          try simp only [Act.put,List.setIfInBounds_toArray,List.set_cons_zero,List.set_cons_succ]
          refine Zw (by kernel_rfl) ?_ _
          go_wp2_with fail
          go_roundw
          case rel =>
           have hchg:Chg (fun b=>b=NB) wr (wA.setCell ⟨NB,j,none⟩ (.int .i64 (V+((x.a:Int)-(x.b:Int))))):=Chg.Jc (T:=fun b=>b=NB) ((hdr.trans hA fun _ _ h=>h).mono fun _ _ h=>h.elim) (D:=NB) rfl j _
           have hNS:=(HNd.out.chg hA fun h=>h).set (j:=j) (V+((x.a:Int)-(x.b:Int)))
           refine ⟨I+1,by omega,by go_num,Lib.hid (hNS.congr fun i hi => ?_),hcz.trans hchg fun _ _ h=>h⟩
           obtain ⟨hxI,hfst,hV⟩:=HX.out
           have hxb0:=HST.out
           rw [List.take_add_one,hxI,RJ]
           simp only [Option.toList_some,Xd,hfst,List.headD_cons,Int.add_zero]
           have hvn:(vlI nn).n=nn:=rfl
           rw [hvn]
           by_cases hij:i=j
           ·subst hij
            rw [if_pos rfl,if_pos (by omega),hV]
            unfold Itm.net
            omega
           ·rw [if_neg hij,if_neg (by omega)]
            omega
          case measure=>simp [intOf]; omega
         ·have hge:¬ ((I:Int)<(SL.length:Int)):=by omega
          have eI:I=SL.length:=by omega
          have hNf:=HNI.out
          rw [eI,List.take_length] at hNf
          have HNf:=Lib.hid hNf
          have HS2:=Lib.hid (hcz.heap HS1.out fun h=>by omega)
          have Kf:=Kb.KM hcz fun q hq e=>hq.2.1 e
          have hcf:=hcy.trans hcz fun i hi e=>by omega
          clear hNf Kb hcz
          go_wp2_with fail
          go_roundw
          case rel=>exact ⟨_,HNf,HS2,hcf,.inr (.inl ⟨rfl,Lib.hid fun j hj=>by rw [HNe.out j hj,HSL.out,Int.zero_add],Kf⟩)⟩
          case measure=>simp [intOf]
       ·have q0:wr.cell? ⟨NB+1,1,none⟩=some (.string ⟨#[117]⟩):=by rw [cell_of_row _ _ _ _ _ _ HS.out]; rfl
        have hNlt:=HN.out.lt
        have hSlt:=lt_of_block HS.out
        have hwq:=hcq.size
        have HBD:=Lib.hid (show ∀ j,j<7→0≤N j∧N j≤40 from fun j hj=>by have:=HNe.out j hj; have h2:=Xe (Zz σ.T) ((j:Int)-3) (Ve HI.out.RX); have h3:=HI.out.t.sum; omega)
        go_wp2_with fail
        refine (K.call hE (fun _ _=>rfl) rd2 (fun us W=>Tryz.call29 us W) (us:=[.pointer (some ⟨gb,0,none⟩),.string ⟨⟨[117]⟩⟩]) (fun r h=>vc (vh h) (vc vs vn))).mono ?_
        rintro _ y1 ⟨u1,rfl,Ka,ha⟩
        obtain ⟨sv,rfl,hsm,hset⟩:=Ka.tup rfl (A := σ.U) rfl
        have HN1:=Lib.hid (HN.out.chg ha fun h=>h.2.1 rfl)
        have HS1:=Lib.hid (ha.heap HS.out fun h=>h.2.2 rfl)
        have hcy:=hcq.trans ha fun i hi hk=>by have:=hk.1; omega
        have Kb:=(Ka.pick fun r h=>vt h).mono (T':=fun q=>w.heap.size≤q∧q≠NB∧q≠NB+1) fun q hq hl=>by
         rcases hq with hq | hq
         ·exact hq
         ·exact ⟨by omega,by omega,by omega⟩
        have HFST:=Lib.hid (show ∀ x∈Zz σ.U,Fst x.row from fun x hx=>by obtain ⟨p,hp,rfl⟩:=List.mem_map.1 hx; exact (HI.out.FL p hp).fst)
        have HPOS:=Lib.hid (Ve HI.out.Ma)
        have HSUM:=Lib.hid (show ZJ (Zz σ.U)≤30 from by have:=HI.out.u.sum; omega)
        have HLEN:=Lib.hid (show (Zz σ.U).length≤30 from by have:=HI.out.u.len; rw [ZU]; omega)
        obtain ⟨SL,hSL⟩:∃ x,x=Zz σ.U:=⟨_,rfl⟩
        rw [← hSL] at hset HFST HPOS HSUM HLEN
        have HSL:=Lib.hid hSL
        clear hSL
        obtain ⟨SA,scap,rfl,hsn,hscap,hsat⟩:=hset
        have HAT:=Lib.hid hsat
        have hlen30:=HLEN.out
        have HYS:=Lib.hid ha.size
        clear hsat Ka ha hcq K hsm
        obtain ⟨wp,hwp⟩:∃ x,x=wr:=⟨_,rfl⟩
        rw [← hwp] at hNlt hSlt HAT HYS
        clear hwp q0
        go_wp2_with fail
        go_loopw [12] (fun i wz=>∃ I:Nat,I≤SL.length∧i = .int .i64 I∧Hid (Wm wz NB (fun j=>N j+Xd (SL.take I) ((j:Int)-3)))∧Chg (fun b=>b=NB) y1 wz) (fun i _=>SL.length-(intOf i).toNat)
        case atStart=>exact ⟨0,Nat.zero_le _,rfl,Lib.hid (HN1.out.congr fun j _=>by simp [Xd]),Chg.refl _ _⟩
        case round =>
         obtain ⟨I,hI,rfl,HNI,hcz⟩:=hrel
         by_cases hlt:I<SL.length
         ·obtain ⟨b,off,rfl,hTb,hb,hx⟩:=HAT.out (by omega)
          obtain ⟨x,hxI⟩:∃ x,SL[I]? = some x:=⟨_,List.getElem?_eq_getElem hlt⟩
          obtain ⟨⟨rv,p0,hrow⟩,p1,hxa,hxb,hrl⟩:=hx I x hxI
          have hxm:=List.mem_of_getElem? hxI
          obtain ⟨nn,tl,hfst,hn1,hn2⟩:=HFST.out x hxm
          have hxb0:=HPOS.out x hxm
          rw [hfst] at hrow
          obtain ⟨RA,rcap,rfl,hrn,hrc,hrat⟩:=hrow
          obtain ⟨rb,roff,rfl,hTr,hrb,hrx⟩:=hrat (by simp)
          obtain ⟨v0,v1,v2,_⟩:=hrx 0 (vlI nn) rfl
          simp only [Nat.zero_mul,Nat.add_zero] at v0 v1 v2
          have hbN:b≠NB:=by rcases hTb with h | h; exact h.2.1; omega
          have hrbN:rb≠NB:=by rcases hTr with h | h; exact h.2.1; omega
          have p0:=hcz.cell p0 hbN
          have p1:=hcz.cell p1 hbN
          have v0:=hcz.cell v0 hrbN
          have v1:=hcz.cell v1 hrbN
          have v2:=hcz.cell v2 hrbN
          obtain ⟨j,hj⟩:∃ j:Nat,nn+3=(j:Int):=⟨(nn+3).toNat,by omega⟩
          have hj7:j<7:=by omega
          have hval:(vlI nn).n=nn:=rfl
          rw [hval] at v1
          have hnn1:¬ nn < -3:=by omega
          have hnn2:¬ 3<nn:=by omega
          have hrlen:(0:Int)<(((vlI nn::tl).length:Nat):Int):=by simp
          obtain ⟨RL0,hRL⟩:∃ x,x=(vlI nn::tl).length:=⟨_,rfl⟩
          rw [← hRL] at hrlen p0 hrn
          have hw3:IntKind.i64.wrap (j:Int)=(j:Int):=IntWalk.i64_in _ (by omega)
          have hjlt:(j:Int)<7:=by omega
          have hltI:(I:Int)<(SL.length:Int):=by omega
          have hj0:(0:Int)≤(j:Int):=by omega
          unfold tc at p1
          have hnet:∀ W,Calls Tryz.prog 30 #[.complex .f64 (fl x.a) (fl x.b)] W fun e w'=>e = .returned (.int .i64 ((x.a:Int)-(x.b:Int)))∧Chg (fun _=>False) W w':=fun W=>Jx hxa hxb W
          have hbd:=HBD.out j hj7
          have hsb:=Xe (SL.take I) ((j:Int)-3) fun z hz=>HPOS.out z (List.mem_of_mem_take hz)
          have hsb2:=NT SL I
          have hsb3:=HSUM.out
          have hxw:=P4 hxm
          obtain ⟨V,hV⟩:∃ v,v=N j+Xd (SL.take I) ((j:Int)-3):=⟨_,rfl⟩
          have hVb:0≤V∧V≤100:=by omega
          have e0':=(HNI.out.cell hj7).1
          have y0':=(HNI.out.cell hj7).2
          rw [← hV] at e0'
          have hsumw:IntKind.i64.wrap (V+((x.a:Int)-(x.b:Int)))=V+((x.a:Int)-(x.b:Int)):=IntWalk.i64_in _ (by omega)
          have HX:=Lib.hid (And.intro hxI (And.intro hfst hV))
          have HST:=Lib.hid hxb0
          clear hx hrat hrx hfst hxm hbd hsb hsb2 hsb3 hxw hV hxI hval hRL hbN hrbN hTb hTr hxb0 v0 v2
          go_wp2_with fail
          have hdr:Chg (fun _=>False) wr wr.drew:=(Chg.refl _ wr).drew
          have HNd:=Lib.hid (HNI.out.chg hdr fun h=>h)
          have e0:wr.drew.cell? ⟨NB,j,none⟩=some (.int .i64 V):=hdr.cell e0' fun h=>h
          have e1:wr.drew.cell? ⟨b,off+I*2+1,none⟩=some (.complex .f64 (fl x.a) (fl x.b)):=hdr.cell p1 fun h=>h
          refine Zm [5,10] (S:=fun wx=>wx.cell? ⟨NB,j,none⟩=some (.int .i64 V)∧wx.cell? ⟨b,off+I*2+1,none⟩=some (.complex .f64 (fl x.a) (fl x.b))) (by kernel_rfl) ⟨e0,e1⟩ (fun hHeld => ?_)
          refine Zb (i:=0) (some 100) (v := ?_) rfl rfl (by kernel_rfl) (by kernel_rfl) (by kernel_rfl) (fun _ _ _ h=>h) (Or.inl ⟨by rfl,?_⟩) ?_
          rotate_left
          ·(intro wx hSw; clear hSw; go_simp; try (with_reducible rfl))
          try simp only [Act.put,List.setIfInBounds_toArray,List.set_cons_zero,List.set_cons_succ]
          refine Zb (i:=1) (some 101) (v := ?_) rfl rfl (by kernel_rfl) (by kernel_rfl) (by kernel_rfl) (fun _ _ _ h=>h) (Or.inl ⟨by rfl,?_⟩) ?_
          rotate_left
          ·(intro wx hSw; clear hSw; go_simp; try (with_reducible rfl))
          try simp only [Act.put,List.setIfInBounds_toArray,List.set_cons_zero,List.set_cons_succ]
          refine Zb (i:=2) (some 102) (v := ?_) rfl rfl (by kernel_rfl) (by kernel_rfl) (by kernel_rfl) (fun _ _ _ h=>h) (Or.inl ⟨by rfl,?_⟩) ?_
          rotate_left
          ·(intro wx hSw; clear hSw; go_simp; try (with_reducible rfl))
          try simp only [Act.put,List.setIfInBounds_toArray,List.set_cons_zero,List.set_cons_succ]
          refine Zb (i:=3) (some 103) (v := ?_) rfl rfl (by kernel_rfl) (by kernel_rfl) (by kernel_rfl) (fun _ _ _ h=>h) (Or.inl ⟨by rfl,?_⟩) ?_
          rotate_left
          ·(intro wx hSw; clear hSw; go_simp; try (with_reducible rfl))
          try simp only [Act.put,List.setIfInBounds_toArray,List.set_cons_zero,List.set_cons_succ]
          refine Zb (i:=4) (some 104) (v := ?_) rfl rfl (by kernel_rfl) (by kernel_rfl) (by kernel_rfl) (fun _ _ _ h=>h) (Or.inl ⟨by rfl,?_⟩) ?_
          rotate_left
          ·(intro wx hSw; clear hSw; go_simp; try (with_reducible rfl))
          try simp only [Act.put,List.setIfInBounds_toArray,List.set_cons_zero,List.set_cons_succ]
          refine Zp (i:=5) (some 105) (v := ?_) (by decide) rfl rfl (by kernel_rfl) (by kernel_rfl) (by kernel_rfl) (fun _ _ _ h=>h) (Or.inl ⟨by rfl,?_⟩) (by assumption) ?_
          rotate_left
          ·(intro wx hSw; go_simp; try (with_reducible rfl))
          try simp only [Act.put,List.setIfInBounds_toArray,List.set_cons_zero,List.set_cons_succ]
          refine Zb (i:=6) (some 106) (v := ?_) rfl rfl (by kernel_rfl) (by kernel_rfl) (by kernel_rfl) (fun _ _ _ h=>h) (Or.inl ⟨by rfl,?_⟩) ?_
          rotate_left
          ·(intro wx hSw; clear hSw; go_simp; try (with_reducible rfl))
          try simp only [Act.put,List.setIfInBounds_toArray,List.set_cons_zero,List.set_cons_succ]
          refine Zb (i:=7) (some 107) (v := ?_) rfl rfl (by kernel_rfl) (by kernel_rfl) (by kernel_rfl) (fun _ _ _ h=>h) (Or.inl ⟨by rfl,?_⟩) ?_
          rotate_left
          ·(intro wx hSw; clear hSw; go_simp; try (with_reducible rfl))
          try simp only [Act.put,List.setIfInBounds_toArray,List.set_cons_zero,List.set_cons_succ]
          refine Zb (i:=8) (some 108) (v := ?_) rfl rfl (by kernel_rfl) (by kernel_rfl) (by kernel_rfl) (fun _ _ _ h=>h) (Or.inl ⟨by rfl,?_⟩) ?_
          rotate_left
          ·(intro wx hSw; clear hSw; go_simp; try (with_reducible rfl))
          try simp only [Act.put,List.setIfInBounds_toArray,List.set_cons_zero,List.set_cons_succ]
          refine Zb (i:=9) (some 109) (v := ?_) rfl rfl (by kernel_rfl) (by kernel_rfl) (by kernel_rfl) (fun _ _ _ h=>h) (Or.inl ⟨by rfl,?_⟩) ?_
          rotate_left
          ·(intro wx hSw; clear hSw; go_simp; try (with_reducible rfl))
          try simp only [Act.put,List.setIfInBounds_toArray,List.set_cons_zero,List.set_cons_succ]
          refine Zp (i:=10) (some 110) (v := ?_) (by decide) rfl rfl (by kernel_rfl) (by kernel_rfl) (by kernel_rfl) (fun _ _ _ h=>h) (Or.inl ⟨by rfl,?_⟩) (by assumption) ?_
          rotate_left
          ·(intro wx hSw; go_simp; try (with_reducible rfl))
          try simp only [Act.put,List.setIfInBounds_toArray,List.set_cons_zero,List.set_cons_succ]
          refine Zj (rs:=[11]) (by kernel_rfl) (by simp) ?_
          refine Zf.cons rfl (fun K hK => ?_) Zf.nil
          go_simp
          refine (hnet _).mono ?_
          rintro _ wA ⟨rfl,hA⟩
          have d0:=hA.cell e0 (fun h=>h)
          have d1:=hA.cell e1 (fun h=>h)
          have z0:=Wm.cell (HNd.out.chg hA fun h=>h) hj7
          go_wp2_with fail
          refine hK.out _ _ ?_ ?_
          ·(intro _; exact ⟨d0,d1⟩)
          clear hK K
          try simp only [Act.put,List.setIfInBounds_toArray,List.set_cons_zero,List.set_cons_succ]
          refine Zb (i:=12) (some 112) (v := ?_) rfl rfl (by kernel_rfl) (by kernel_rfl) (by kernel_rfl) (fun _ _ _ h=>h) (Or.inl ⟨by rfl,?_⟩) ?_
          rotate_left
          ·(intro wx hSw; clear hSw; go_simp; try (with_reducible rfl))
          try simp only [Act.put,List.setIfInBounds_toArray,List.set_cons_zero,List.set_cons_succ]
          refine Zb (i:=13) (some 113) (v := ?_) rfl rfl (by kernel_rfl) (by kernel_rfl) (by kernel_rfl) (fun _ _ _ h=>h) (Or.inl ⟨by rfl,?_⟩) ?_
          rotate_left
          ·(intro wx hSw; clear hSw; go_simp; try (with_reducible rfl))
          try simp only [Act.put,List.setIfInBounds_toArray,List.set_cons_zero,List.set_cons_succ]
          refine Zj (rs:=[14]) (by kernel_rfl) (by simp) ?_
          refine Zf.Qc rfl (by kernel_rfl) (fun K hK => ?_) Zf.nil
          go_simp
          refine hK.out _ _ ?_
          clear hK K
          try simp only [Act.put,List.setIfInBounds_toArray,List.set_cons_zero,List.set_cons_succ]
          refine Zw (by kernel_rfl) ?_ _
          go_wp2_with fail
          go_roundw
          case rel =>
           have hchg:Chg (fun b=>b=NB) wr (wA.setCell ⟨NB,j,none⟩ (.int .i64 (V+((x.a:Int)-(x.b:Int))))):=Chg.Jc (T:=fun b=>b=NB) ((hdr.trans hA fun _ _ h=>h).mono fun _ _ h=>h.elim) (D:=NB) rfl j _
           have hNS:=(HNd.out.chg hA fun h=>h).set (j:=j) (V+((x.a:Int)-(x.b:Int)))
           refine ⟨I+1,by omega,by go_num,Lib.hid (hNS.congr fun i hi => ?_),hcz.trans hchg fun _ _ h=>h⟩
           obtain ⟨hxI,hfst,hV⟩:=HX.out
           have hxb0:=HST.out
           rw [List.take_add_one,hxI,RJ]
           simp only [Option.toList_some,Xd,hfst,List.headD_cons,Int.add_zero]
           have hvn:(vlI nn).n=nn:=rfl
           rw [hvn]
           by_cases hij:i=j
           ·subst hij
            rw [if_pos rfl,if_pos (by omega),hV]
            unfold Itm.net
            omega
           ·rw [if_neg hij,if_neg (by omega)]
            omega
          case measure=>simp [intOf]; omega
         ·have hge:¬ ((I:Int)<(SL.length:Int)):=by omega
          have eI:I=SL.length:=by omega
          have hNf:=HNI.out
          rw [eI,List.take_length] at hNf
          have HNf:=Lib.hid hNf
          have HS2:=Lib.hid (hcz.heap HS1.out fun h=>by omega)
          have Kf:=Kb.KM hcz fun q hq e=>hq.2.1 e
          have hcf:=hcy.trans hcz fun i hi e=>by omega
          clear hNf Kb hcz
          go_wp2_with fail
          go_roundw
          case rel=>exact ⟨_,HNf,HS2,hcf,.inr (.inr ⟨rfl,Lib.hid fun j hj=>by rw [HNe.out j hj,HSL.out],Kf⟩)⟩
          case measure=>simp [intOf]
       ·have HLST:=Lib.hid (Zci HI.out (N:=N) fun i hi=>HNe.out i hi)
        have HNP:=Lib.hid (show ∀ j,j<7→0≤N j∧N j≤80 from fun j hj=>by
         have h1:=HNe.out j hj
         have h2:=Xe (Zz σ.T) ((j:Int)-3) (Ve HI.out.RX)
         have h3:=HI.out.t.sum
         have h4:=Xe (Zz σ.U) ((j:Int)-3) (Ve HI.out.Ma)
         have h5:=HI.out.u.sum
         omega)
        have hwe:=hcq.size
        have hNBw:=HN.out.lt
        clear hwr hcw3 HN0 HS0 HS HNe KC
        obtain ⟨wE,hwE⟩:∃ x,x=wr:=⟨_,rfl⟩
        rw [← hwE] at HN hcq K hwe hNBw ⊢
        clear hwE
        have K:=K.mono (T':=fun q=>w.heap.size≤q∧q<wE.heap.size) fun q hq hl=>⟨hq.1,hl⟩
        go_wp2_with fail
        go_loopw [16,14,15] (fun kv av ov wr=>∃ (j:Nat) (kk:Int) (oA oO:Option Nat) (BA BO:Option Addr) (LA LO cA cO:Nat) (pA pO:List PI),j≤7∧kk+3=(j:Int)∧kv = .int .i64 kk∧av = .slice BA LA cA∧ov = .slice BO LO cO∧LA≤j∧LO≤j∧Hid (pA.map (·.2)=Zz (lS N j))∧Hid (pO.map (·.2)=Zz (lS (fun i=>if 0<N i then 1 else 0) j)) ∧
         Hid (QE wr 59 2 oA BA LA cA (ZC pA))∧Hid (QE wr 59 2 oO BO LO cO (ZC pO))∧Hid (∀ g,oA=some g→wE.heap.size≤g∧oO≠some g)∧Hid (∀ g,oO=some g→wE.heap.size≤g)∧Hid (∀ p∈pA++pO,POk (fun b=>wE.heap.size≤b∧oA≠some b∧oO≠some b) wr p)∧Chg (fun _=>False) wE wr) (fun kv _ _ _=>(4-intOf kv).toNat)
        case atStart=>exact ⟨0,-3,none,none,none,none,0,0,0,0,[],[],by omega,rfl,rfl,rfl,rfl,Nat.le_refl _,Nat.le_refl _,Lib.hid rfl,Lib.hid rfl,Lib.hid (QE.Ws _ _ _ _),Lib.hid (QE.Ws _ _ _ _),Lib.hid (fun g h=>by cases h),Lib.hid (fun g h=>by cases h),Lib.hid (fun p h=>by cases h),Chg.refl _ _⟩
        case round =>
         obtain ⟨j,kk,oA,oO,BA,BO,LA,LO,cA,cO,pA,pO,hj7',hj,rfl,rfl,rfl,hLA,hLO,HMA,HMO,HOA,HOO,HDA,HDO,HPK,hcE⟩:=hrel
         by_cases hj7:j<7
         ·have hk3:kk≤3:=by omega
          have hk0 : -3≤kk:=by omega
          have hjlt:(j:Int)<7:=by omega
          have hj0:(0:Int)≤(j:Int):=by omega
          have hwj:IntKind.i64.wrap (j:Int)=(j:Int):=IntWalk.i64_in _ (by omega)
          have hNr:=(HN.out.chg hcE fun h=>h).cell hj7
          have hNp:=HNP.out j hj7
          obtain ⟨vn,hvn⟩:∃ n:Nat,N j=(n:Int):=⟨(N j).toNat,by omega⟩
          have e0:=hNr.1
          rw [hvn] at e0 hNp
          have HVN:=Lib.hid hvn
          clear hvn hNr
          by_cases hpos:0<vn
          ·have hpos':(0:Int)<(vn:Int):=by omega
           have hNBA:oA≠some NB:=fun e=>by have:=(HDA.out NB e).1; omega
           have hdr:Chg (fun _=>False) wr wr.drew:=(Chg.refl _ wr).drew
           have f0:wr.drew.cell? ⟨NB,j,none⟩=some (.int .i64 (vn:Int)):=hdr.cell e0 fun h=>h
           go_wp2_with fail
           refine wp_region_held_drew (S:=fun wx=>wx.cell? ⟨NB,j,none⟩=some (.int .i64 (vn:Int))) (by kernel_rfl) f0 (fun hHeld => ?_)
           refine Zg (i:=0) (some 124) (v := ?_) rfl rfl (by kernel_rfl) (by kernel_rfl) (by kernel_rfl) (fun _ _ _ h=>h) (Or.inl ⟨by rfl,?_⟩) (by assumption) ?_
           rotate_left
           ·(intro wx hSw; go_simp; try (with_reducible rfl))
           try simp only [Act.put,List.setIfInBounds_toArray,List.set_cons_zero,List.set_cons_succ]
           refine Zg (i:=1) (some 125) (v := ?_) rfl rfl (by kernel_rfl) (by kernel_rfl) (by kernel_rfl) (fun _ _ _ h=>h) (Or.inl ⟨by rfl,?_⟩) (by assumption) ?_
           rotate_left
           ·(intro wx hSw; go_simp; try (with_reducible rfl))
           try simp only [Act.put,List.setIfInBounds_toArray,List.set_cons_zero,List.set_cons_succ]
           refine Zg (i:=2) (some 126) (v := ?_) rfl rfl (by kernel_rfl) (by kernel_rfl) (by kernel_rfl) (fun _ _ _ h=>h) (Or.inl ⟨by rfl,?_⟩) (by assumption) ?_
           rotate_left
           ·(intro wx hSw; go_simp; try (with_reducible rfl))
           try simp only [Act.put,List.setIfInBounds_toArray,List.set_cons_zero,List.set_cons_succ]
           refine Zg (i:=3) (some 127) (v := ?_) rfl rfl (by kernel_rfl) (by kernel_rfl) (by kernel_rfl) (fun _ _ _ h=>h) (Or.inl ⟨by rfl,?_⟩) (by assumption) ?_
           rotate_left
           ·(intro wx hSw; go_simp; try (with_reducible rfl))
           try simp only [Act.put,List.setIfInBounds_toArray,List.set_cons_zero,List.set_cons_succ]
           refine Zg (i:=4) (some 128) (v := ?_) rfl rfl (by kernel_rfl) (by kernel_rfl) (by kernel_rfl) (fun _ _ _ h=>h) (Or.inl ⟨by rfl,?_⟩) (by assumption) ?_
           rotate_left
           ·(intro wx hSw; go_simp; try (with_reducible rfl))
           try simp only [Act.put,List.setIfInBounds_toArray,List.set_cons_zero,List.set_cons_succ]
           refine Zg (i:=5) (some 129) (v := ?_) rfl rfl (by kernel_rfl) (by kernel_rfl) (by kernel_rfl) (fun _ _ _ h=>h) (Or.inl ⟨by rfl,?_⟩) (by assumption) ?_
           rotate_left
           ·(intro wx hSw; go_simp; try (with_reducible rfl))
           try simp only [Act.put,List.setIfInBounds_toArray,List.set_cons_zero,List.set_cons_succ]
           refine wpAnyH_ready (rs:=[6]) (by kernel_rfl) (by simp) ?_
           refine AllReadyH.cons rfl (fun K hK => ?_) AllReadyH.nil
           go_simp
           have f1:(wr.drew.alloc (.cells #[.int .i64 kk] 2)).cell? ⟨NB,j,none⟩=some (.int .i64 (vn:Int)):=((Chg.refl (fun _=>False) wr.drew).alloc _).cell f0 (fun h=>h)
           refine hK.out _ _ ?_ (fun hHeld => ?_)
           ·(exact f1)
           clear hK K
           try simp only [Act.put,List.setIfInBounds_toArray,List.set_cons_zero,List.set_cons_succ]
           refine wpAnyH_ready (rs:=[7]) (by kernel_rfl) (by simp) ?_
           refine AllReadyH.cons rfl (fun K hK => ?_) AllReadyH.nil
           go_simp
           refine (Mc (w:=wr.drew.alloc (.cells #[.int .i64 kk] 2)) (b:=wr.heap.size) (cap:=1) (l:=[kk]) (fun i x hi=>by cases i with | zero=>(simp at hi; subst hi; go_simp) | succ i=>simp at hi) (by simp)).mono ?_
           rintro _ wA ⟨ra,rfl,hra,hA⟩
           have f2:=hA.cell f1 (fun h=>h)
           have hra0:=hra
           obtain ⟨RA,rcA,rfl,_⟩:=hra
           have HRA:=Lib.hid hra0
           clear hra0
           go_wp2_with fail
           refine hK.out _ _ ?_ (fun hHeld => ?_)
           ·(exact f2)
           clear hK K
           try simp only [Act.put,List.setIfInBounds_toArray,List.set_cons_zero,List.set_cons_succ]
           refine wpAnyH_ready (rs:=[8]) (by kernel_rfl) (by simp) ?_
           refine AllReadyH.cons rfl (fun K hK => ?_) AllReadyH.nil
           go_simp
           refine (NQ (n:=vn) HRA.out (by omega) (by simp)).mono ?_
           rintro _ wB ⟨ub,rfl,⟨ob,hob,rfl,o0,o1⟩,hB⟩
           have f3:=hB.cell f2 (fun h=>h)
           have H1:=Lib.hid (Zcj o0 o1)
           clear o0 o1
           go_wp2_with fail
           refine hK.out _ _ ?_ (fun hHeld => ?_)
           ·(exact f3)
           clear hK K
           try simp only [Act.put,List.setIfInBounds_toArray,List.set_cons_zero,List.set_cons_succ]
           refine wpAnyH_ready (rs:=[9]) (by kernel_rfl) (by simp) ?_
           refine AllReadyH.cons rfl (fun K hK => ?_) AllReadyH.nil
           have HA2:=Lib.hid (HOA.out.chg (((hdr.alloc (.cells #[.int .i64 kk] 2)).trans hA fun _ _ h=>h).trans hB fun _ _ h=>h) fun _ _ h=>h)
           refine Xw rfl _ _ 45 45 rfl 59 2 40 Kh oA _ LA cA 1 (ZC pA) [.slice RA 1 rcA,.complex .f64 (fl vn) (fl 0)] _ rfl rfl HA2.out (Kt.slice H1.out) (by simp [Value.oneCell']) (LA+1) rfl ?_ ?_ ?_
           ·omega
           ·omega
           intro oA' BA' cA' w2 hownA horA hchgA
           have HA3:=Lib.hid hownA
           clear hownA
           have f4:=hchgA.cell f3 (fun h=>hNBA h)
           refine hK.out _ _ ?_ (fun hHeld => ?_)
           ·(exact f4)
           clear hK K
           try simp only [Act.put,List.setIfInBounds_toArray,List.set_cons_zero,List.set_cons_succ]
           refine Zg (i:=10) (some 14) (v := ?_) rfl rfl (by kernel_rfl) (by kernel_rfl) (by kernel_rfl) (fun _ _ _ h=>h) (Or.inl ⟨by rfl,?_⟩) (by assumption) ?_
           rotate_left
           ·(intro wx hSw; go_simp; try (with_reducible rfl))
           try simp only [Act.put,List.setIfInBounds_toArray,List.set_cons_zero,List.set_cons_succ]
           refine wpAnyH_done (by kernel_rfl) ?_ _
           go_wp2_with fail
           refine (Mc (w:=w2.alloc (.cells #[.int .i64 kk] 2)) (b:=w2.heap.size) (cap:=1) (l:=[kk]) (fun i x hi=>by cases i with | zero=>(simp at hi; subst hi; go_simp) | succ i=>simp at hi) (by simp)).mono ?_
           rintro _ wC ⟨rc,rfl,hrc,hC⟩
           have hrc0:=hrc
           obtain ⟨RC,rcC,rfl,_⟩:=hrc
           have HRC:=Lib.hid hrc0
           clear hrc0
           go_wp2_with fail
           refine (NQ (n:=1) HRC.out (by omega) (by simp)).mono ?_
           rintro _ wD ⟨ud,rfl,⟨od,hod,rfl,o0,o1⟩,hD⟩
           have H2:=Lib.hid (Zcj o0 o1)
           clear o0 o1
           have zdA:Chg (fun _=>False) wr wB:=((hdr.alloc (.cells #[.int .i64 kk] 2)).trans hA fun _ _ h=>h).trans hB fun _ _ h=>h
           have hW2:Chg (fun b=>oA=some b) wr w2:=(zdA.mono fun _ _ h=>h.elim).trans hchgA fun _ _ h=>h
           have hW2D:Chg (fun _=>False) w2 wD:=(((Chg.refl _ w2).alloc (.cells #[.int .i64 kk] 2)).trans hC fun _ _ h=>h).trans hD fun _ _ h=>h
           have HO2:=Lib.hid ((HOO.out.chg hW2 fun g e1 e2=>(HDA.out g e2).2 e1).chg hW2D fun _ _ h=>h)
           go_wp2_with (at_builtin; refine ZK rfl _ _ 45 45 rfl 59 2 40 Kh oO BO LO cO 1 (ZC pO) [.slice RC 1 rcC,.complex .f64 (fl 1) (fl 0)] _ rfl rfl HO2.out (Kt.slice H2.out) (by simp [Value.oneCell']) (LO+1) rfl (by omega) (by omega) ?_)
           intro oO' BO' cO' w3 hownO horO hchgO
           have HO3:=Lib.hid hownO
           clear hownO
           go_wp2_with fail
           go_roundw
           case rel =>
            have z1:(wr.drew.alloc (.cells #[.int .i64 kk] 2)).heap.size=wr.heap.size+1:=Array.size_push _
            have zA:=hA.size
            have zB:=hB.size
            have zw2:=hchgA.size
            have z2:(w2.alloc (.cells #[.int .i64 kk] 2)).heap.size=w2.heap.size+1:=Array.size_push _
            have zC:=hC.size
            have zD:=hD.size
            have zw3:=hchgO.size
            have zE:=hcE.size
            have gA:∀ g,oA=some g→g<wr.heap.size:=fun g e=>HOA.out.lt e
            have gO:∀ g,oO=some g→g<wr.heap.size:=fun g e=>HOO.out.lt e
            have nA:∀ g,oA'=some g→oA=some g∨g=wB.heap.size:=fun g e=>by
             rcases horA with h | h
             ·exact .inl (h▸e)
             ·rw [h] at e; injection e with e; exact .inr e.symm
            have nO:∀ g,oO'=some g→oO=some g∨g=wD.heap.size:=fun g e=>by
             rcases horO with h | h
             ·exact .inl (h▸e)
             ·rw [h] at e; injection e with e; exact .inr e.symm
            have hBw3:Chg (fun b=>oA=some b∨oO=some b) wB w3:=((hchgA.mono fun _ _ h => .inl h).trans hW2D fun _ _ h=>h.elim).trans hchgO fun _ _ h => .inr h
            have hall:Chg (fun b=>oA=some b∨oO=some b) wr w3:=(zdA.mono fun _ _ h=>h.elim).trans hBw3 fun _ _ h=>h
            have hkk:(j:Int)-3=kk:=by omega
            have hvn:=HVN.out
            refine ⟨j+1,kk+1,oA',oO',BA',BO',LA+1,LO+1,cA',cO',pA++[(.slice RA 1 rcA,⟨[vlI kk],vn,0⟩)],pO++[(.slice RC 1 rcC,⟨[vlI kk],1,0⟩)],by omega,by omega,by go_num,rfl,rfl,by omega,by omega,Lib.hid ?_,Lib.hid ?_,Lib.hid ?_,Lib.hid ?_,Lib.hid fun g hg => ?_,Lib.hid fun g hg => ?_,Lib.hid fun p hp => ?_,hcE.trans hall fun i hi e => ?_⟩
            ·rw [List.map_append,HMA.out,Sr,if_pos (by omega),NU,hkk,hvn]
             have:ZI ([vlI kk],(vn:Int))=⟨[vlI kk],vn,0⟩:=by unfold ZI; simp
             rw [this]
             rfl
            ·rw [List.map_append,HMO.out,Sr,if_pos (by rw [if_pos (by omega)]; decide),NU,hkk,if_pos (by omega)]
             have:ZI ([vlI kk],(1:Int))=⟨[vlI kk],1,0⟩:=by unfold ZI; simp
             rw [this]
             rfl
            ·rw [Qe]
             exact (HA3.out.chg hW2D fun _ _ h=>h).chg hchgO fun g e1 e2=>by
              rcases nA g e1 with h | h
              ·exact (HDA.out g h).2 e2
              ·have:=gO g e2; omega
            ·rw [Qe]
             exact HO3.out
            ·rcases nA g hg with h | h
             ·refine ⟨(HDA.out g h).1,fun e => ?_⟩
              rcases nO g e with h2 | h2
              ·exact (HDA.out g h).2 h2
              ·have:=gA g h; omega
             ·refine ⟨by omega,fun e => ?_⟩
              rcases nO g e with h2 | h2
              ·have:=gO g h2; omega
              ·have hown:=HA3.out.lt hg
               omega
            ·rcases nO g hg with h | h
             ·exact HDO.out g h
             ·omega
            ·have cases3:p∈pA++pO∨p=(.slice RA 1 rcA,⟨[vlI kk],vn,0⟩)∨p=(.slice RC 1 rcC,⟨[vlI kk],1,0⟩):=by
              simp only [List.mem_append,List.mem_singleton] at hp ⊢
              rcases hp with (h | h) | (h | h)
              ·exact .inl (.inl h)
              ·exact .inr (.inl h)
              ·exact .inl (.inr h)
              ·exact .inr (.inr h)
             rcases cases3 with hm | rfl | rfl
             ·exact (((HPK.out p hm).mono (G:=fun b=>(wE.heap.size≤b∧oA≠some b∧oO≠some b)∧b<wr.heap.size) fun b hb hl=>⟨hb,hl⟩).chg hall fun b hb _ e=>e.elim hb.1.2.1 hb.1.2.2).mono fun b hb _=>⟨hb.1.1,fun e=>by
               rcases nA b e with h | h
               ·exact hb.1.2.1 h
               ·have:=hb.2; omega,fun e=>by
               rcases nO b e with h | h
               ·exact hb.1.2.2 h
               ·have:=hb.2; omega⟩
             ·refine ⟨?_,by simp only; omega,by simp only; omega,by simp⟩
              have hr1:Zq (fun b=>wr.heap.size<b∧b<wA.heap.size) wA (.slice RA 1 rcA) [vlI kk]:=HRA.out.mono fun b hb hl=>⟨by have hb:(wr.drew.alloc (.cells #[.int .i64 kk] 2)).heap.size≤b:=hb; omega,hl⟩
              exact ((hr1.chg hB fun _ _ _ h=>h).chg hBw3 fun b hb _ e=>by
               rcases e with e | e
               ·have:=gA b e; omega
               ·have:=gO b e; omega).mono fun b hb _=>⟨by omega,fun e=>by
               rcases nA b e with h | h
               ·have:=gA b h; omega
               ·omega,fun e=>by
               rcases nO b e with h | h
               ·have:=gO b h; omega
               ·omega⟩
             ·refine ⟨?_,by simp,by simp,by simp⟩
              have hr1:Zq (fun b=>w2.heap.size<b∧b<wC.heap.size) wC (.slice RC 1 rcC) [vlI kk]:=HRC.out.mono fun b hb hl=>⟨by have hb:(w2.alloc (.cells #[.int .i64 kk] 2)).heap.size≤b:=hb; omega,hl⟩
              exact ((hr1.chg hD fun _ _ _ h=>h).chg hchgO fun b hb _ e=>by have:=gO b e; omega).mono fun b hb _=>⟨by omega,fun e=>by
               rcases nA b e with h | h
               ·have:=gA b h; omega
               ·omega,fun e=>by
               rcases nO b e with h | h
               ·have:=gO b h; omega
               ·omega⟩
            ·rcases e with e | e
             ·have:=(HDA.out i e).1; omega
             ·have:=HDO.out i e; omega
           case measure=>simp [intOf]; omega
          ·have hpos':¬ (0:Int)<(vn:Int):=by omega
           go_wp2_with fail
           go_roundw
           case rel =>
            have hvn:=HVN.out
            refine ⟨j+1,kk+1,oA,oO,BA,BO,LA,LO,cA,cO,pA,pO,by omega,by omega,by go_num,rfl,rfl,by omega,by omega,Lib.hid ?_,Lib.hid ?_,HOA,HOO,HDA,HDO,HPK,hcE⟩
            ·rw [HMA.out,Sr,if_neg (by omega),List.append_nil]
            ·rw [HMO.out,Sr,if_neg (by rw [if_neg (by omega)]; decide),List.append_nil]
           case measure=>simp [intOf]; omega
         ·have hj:j=7:=by omega
          subst hj
          have hk4:kk=4:=by omega
          subst hk4
          have zE:=hcE.size
          obtain ⟨hl1,hl2⟩:=HLST.out
          have hma:=HMA.out
          have hmo:=HMO.out
          rw [hl1] at hma
          rw [hl2] at hmo
          have lenA:pA.length=LA:=by have h1:=HOA.out.1; rw [Xg] at h1; omega
          have lenO:pO.length=LO:=by have h1:=HOO.out.1; rw [Xg] at h1; omega
          have RU:Zt (fun b=>wE.heap.size≤b∧b<wr.heap.size) wr (.slice BA LA cA) (Zz σ.A):=hma▸(Zt.Rf (F:=fun b=>wE.heap.size≤b) (HOA.out.cs.mono fun g hg _=>(HDA.out g hg).1) lenA.symm HOA.out.fits HOA.out.Kg fun p hp=>(HPK.out p (List.mem_append_left _ hp)).mono fun b hb _=>hb.1).mono fun b hb hl=>⟨hb,hl⟩
          have setO:Zt (fun b=>wE.heap.size≤b∧b<wr.heap.size) wr (.slice BO LO cO) (Zz (Wj σ.A)):=hmo▸(Zt.Rf (F:=fun b=>wE.heap.size≤b) (HOO.out.cs.mono fun g hg _=>HDO.out g hg) lenO.symm HOO.out.fits HOO.out.Kg fun p hp=>(HPK.out p (List.mem_append_right _ hp)).mono fun b hb _=>hb.1).mono fun b hb hl=>⟨hb,hl⟩
          have KE:=K.Zi hcE
          have hcW:=hcq.trans hcE fun _ _ h=>h
          have SA:=Lib.hid RU
          have SO:=Lib.hid setO
          clear RU setO hma hmo hl1 hl2 K
          go_wp2_with fail
          refine (KE.call hE (fun _ _=>rfl) rd3 (fun us W=>Tryz.call19 us W) (us:=[.pointer (some ⟨gb,0,none⟩),.string ⟨⟨[97,108,108]⟩⟩]) (fun r h=>vc (vh h) (vc vs vn))).mono ?_
          rintro _ v1 ⟨u1,rfl,Kv1,hv1⟩
          obtain ⟨sv1,rfl,_,_⟩:=Kv1.tup rfl (A := σ.A) rfl
          go_wp2_with fail
          refine (Kv1.call hE (fun _ _=>rfl) rd4 (fun us W=>Tryz.call19 us W) (us:=[.pointer (some ⟨gb,0,none⟩),.string ⟨⟨[111,110,99,101]⟩⟩]) (fun r h=>vc (vh (vt h)) (vc vs vn))).mono ?_
          rintro _ v2 ⟨u2,rfl,Kv2,hv2⟩
          obtain ⟨sv2,rfl,_,hset2⟩:=Kv2.tup rfl (A:=Wj σ.A) rfl
          obtain ⟨sv1',es1,_,hset1⟩:=(Kv2.pick fun r h=>vt h).tup rfl (A := σ.A) rfl
          obtain rfl:sv1=sv1':=by injection es1 with es1; injection es1 with es1; injection es1 with es1 _
          have hd1:∀ b,(w.heap.size≤b∧b<wE.heap.size)→¬ (wE.heap.size≤b∧b<wr.heap.size):=fun b h1 h2=>by omega
          have RU:=(SA.out.chg hv1 fun b hb _ h=>hd1 b h hb).chg hv2 fun b hb _ h=>by
           rcases h with h | h
           ·exact hd1 b h hb
           ·omega
          have setO:=(SO.out.chg hv1 fun b hb _ h=>hd1 b h hb).chg hv2 fun b hb _ h=>by
           rcases h with h | h
           ·exact hd1 b h hb
           ·omega
          have hcF:Chg (fun _=>False) w v2:=(hcW.trans hv1 fun i hi h=>by omega).trans hv2 fun i hi h=>by
           have:=hcW.size
           rcases h with h | h <;> omega
          have call1:=Md hset1 RU
          have call2:=fun W (hc:Chg (fun _=>False) v2 W)=>Md (hset2.Zi hc) (setO.Zi hc)
          clear RU setO hset1 hset2 Kv1 Kv2 hv1 hv2 es1
          go_wp2_with fail
          refine call1.mono ?_
          rintro _ v3 ⟨rfl,hc3⟩
          go_wp2_with fail
          refine (call2 _ hc3).mono ?_
          rintro _ v4 ⟨rfl,hc4⟩
          go_wp2_with fail
          refine (haw _).mono ?_
          rintro _ v5 ⟨rfl,hc5⟩
          go_wp2_with fail
          go_ret
          exact ⟨rfl,((hcF.trans hc3 fun _ _ h=>h).trans hc4 fun _ _ h=>h).trans hc5 fun _ _ h=>h⟩
end Go.Proofs.YtheflbaejhlboaaGreatDoor.Ev
