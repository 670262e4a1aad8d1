/- A part of the proof of a law of package confluencetop: lemmas, no condition of ours. -/
import Derived.Test.YtheflbaejhlboaaGreatDoorTopUn18
set_option linter.unusedVariables false
set_option linter.unusedSectionVars false
set_option linter.unusedSimpArgs false
namespace Go.Proofs.YtheflbaejhlboaaGreatDoor.Ev
open Go
noncomputable section
def bindM (k:Env→St→List Res):List Res→List Res
 | []=>[]
 | y::l=>(match y with | .ok .normal e s=>k e s | y=>[y])++bindM k l
def Y9 (a b:Env→St→List Res) (e:Env) (s:St) (v:V):List Res:=match v with
 | .ok (.bool true)=>a e s
 | .ok (.bool false)=>b e s
 | _=>[.bad]
def Rv (t u:Tmp) (e:Env) (s:St):List Res:=[.ok .normal ((e.set u none).set t (some (.bool true))) ⟨s.heap,s.next+1⟩,.ok .normal ((e.set u none).set t (some (.bool false))) ⟨s.heap,s.next+1⟩]
def WZ (ex:Code→Env→St→Res) (W0:Nat) (t u:Tmp):Code→Env→St→List Res
 | .seq a b=>fun e s=>bindM (WZ ex W0 t u b) (WZ ex W0 t u a e s)
 | .cond x a b=>fun e s=>Y9 (WZ ex W0 t u a) (WZ ex W0 t u b) e s (Zn [] e (Q7 0 .nil x))
 | .region id ops d=>fun e s=>sel (Nat.beq id W0) (Rv t u e s) [ex (.region id ops d) e s]
 | c=>fun e s=>[ex c e s]
def QX (s:St):List Nat→List (Nat×Zd)
 | []=>[]
 | i::l=>match s.get i with
  | some b=>(i,b)::QX s l
  | none=>QX s l
def L6 (v:Zc) (m:Nat):List R→Bool
 | []=>true
 | .ok u s::l=>sel (Jz u v) (sel (Nat.beq s.next m) (L6 v m l) false) false
 | .bad::_=>false
def TN (b:Zd) (i:Nat):List R→Bool
 | []=>true
 | .ok _ s::l=>sel (XP b (s.get i)) (TN b i l) false
 | .bad::_=>false
def Nk (rs:List R):List (Nat×Zd)→List (Nat×Zd)
 | []=>[]
 | (i,b)::l=>sel (TN b i rs) ((i,b)::Nk rs l) (Nk rs l)
def Zhi (n:Nat):Nat→List Nat
 | 0=>[]
 | k+1=>(n+k)::Zhi n k
def Zhj (f:FuncId) (args:List Zc) (s:St) (ids:List Nat) (v:Zc) (s1:St) (rs:List R):Ent :=
 ⟨f,args,QX s ids,s.next,v,Nk rs (QX s1 (ids++Zhi s.next (s1.next-s.next))),s1.next⟩
def Zfx (f:FuncId) (args:List Zc) (s:St) (ids:List Nat):List R→R
 | .ok v s1::rs=>sel (L6 v s1.next rs) (.ok v ((Zhj f args s ids v s1 rs).L5 s)) .bad
 | _ => .bad
def PM (l:List RV):List Res→List R
 | []=>[]
 | y::ys=>Y0 l y::PM l ys
structure Two where
 f:FuncId
 W0:Nat
 t:Tmp
 u:Tmp
 ids:List Zc→St→List Nat
def exT (P:Program) (K:ZF) (c:Code):Env→St→Res:=M6 P (fun _ _ _ => .bad) K (fun _=>none) 1 1 (cc P (fun _ _ _ => .bad) K (fun _=>none) c)
def Zhk (P:Program) (T:Two) (Zi:YW) (fn:Func) (args:List Zc) (s:St) (b:Option Code):R:=match b with
 | some b=>Zfx T.f args s (T.ids args s) (PM (Xo P fn.results.toList) (WZ (exT P ⟨fn.ntmps,Zi⟩) T.W0 T.t T.u b (Km ⟨fn.ntmps,Zi⟩ 0 .lf args) ⟨Z0 (QX s (T.ids args s)) .lf,s.next⟩))
 | none => .bad
def Zdb (P:Program) (T:Two) (Zi:YW) (fn:Func):Orc:=⟨fun args s=>Zhk P T Zi fn args s fn.body⟩
end
variable [Sig]
variable {P:Program}
def Zv (P:Program) (K:ZF) (c:Code) (F:Env→St→List Res):Prop :=
 ∀ (e:Env) (s:St),(∀ y∈F e s,y ≠ .bad)→∀ (r:Rho) (w:World) (a:Act) (Q:Exit→Act→World→Prop),Rel r s w→Qk K r e a →
  (∀ x e' s',Res.ok x e' s'∈F e s→∀ q a' w',Ext r s w q s' w'→Qk K q e' a'→Q (DL x) a' w')→c.wp P Q a w
theorem Zv.of {K:ZF} {c:Code} {f:Env→St→Res} (h:Qz P K c f):Zv P K c fun e s=>[f e s]:=by
 intro e s hb r w a Q hr he hQ
 cases hy:f e s with
 | bad=>exact absurd hy (hb _ (List.mem_singleton.2 rfl))
 | ok x e' s'=>exact h e s x e' s' hy r w a Q hr he fun q a' w' hx he'=>hQ x e' s' (by show _∈[f e s]; rw [hy]; exact List.mem_singleton.2 rfl) q a' w' hx he'
theorem JV {k:Env→St→List Res} {e:Env} {s:St}:∀ {l:List Res},Res.ok .normal e s∈l→∀ z∈k e s,z∈bindM k l
 | y::l,h,z,hz=>by
  rcases List.mem_cons.1 h with h | h
  ·subst h; exact List.mem_append_left _ hz
  ·exact List.mem_append_right _ (JV h z hz)
theorem QB {k:Env→St→List Res} {y:Res} (hy:∀ e s,y ≠ .ok .normal e s):∀ {l:List Res},y∈l→y∈bindM k l
 | z::l,h=>by
  rcases List.mem_cons.1 h with h | h
  ·subst h
   refine List.mem_append_left _ ?_
   split
   ·rename_i e s; exact absurd rfl (hy e s)
   ·exact List.mem_singleton.2 rfl
  ·exact List.mem_append_right _ (QB hy h)
theorem Zv.seq {K:ZF} {c d:Code} {F G:Env→St→List Res} (hf:Zv P K c F) (hg:Zv P K d G):Zv P K (.seq c d) fun e s=>bindM G (F e s):=by
 intro e s hb r w a Q hr he hQ
 refine wp_seq (hf e s (fun y hy hbad => ?_) r w a _ hr he fun x e1 s1 hm q a1 w1 hx he1 => ?_)
 ·subst hbad
  exact hb .bad (QB (fun _ _ h=>by cases h) hy) rfl
 ·cases x with
  | normal=>exact hg e1 s1 (fun y hy=>hb y (JV hm y hy)) q w1 a1 Q hx.rel he1 fun x e' s' hm' q' a' w' hx' he'=>hQ x e' s' (JV hm _ hm') q' a' w' (hx.trans hx') he'
  | exit i=>exact hQ _ e1 s1 (QB (fun _ _ h=>by cases h) hm) q a1 w1 hx he1
  | goto i=>exact hQ _ e1 s1 (QB (fun _ _ h=>by cases h) hm) q a1 w1 hx he1
  | ret=>exact hQ _ e1 s1 (QB (fun _ _ h=>by cases h) hm) q a1 w1 hx he1
theorem Zv.cond {K:ZF} {x:Operand} {c d:Code} {F G:Env→St→List Res} (hf:Zv P K c F) (hg:Zv P K d G):Zv P K (.cond x c d) fun e s=>Y9 F G e s (Zn [] e (Q7 0 .nil x)):=by
 intro e s hb r w a Q hr he hQ
 cases hv:Zn [] e (Q7 0 .nil x) with
 | bad=>exact absurd rfl (hb .bad (by show _∈Y9 F G e s _; rw [hv]; exact List.mem_singleton.2 rfl))
 | ok v =>
  have hc:=(Inv.start hr he).cx (.move x) x (by simp [Op.operands]) v hv
  have hb':∀ y∈Y9 F G e s (.ok v),y ≠ .bad:=fun y hy=>hb y (by show _∈Y9 F G e s _; rw [hv]; exact hy)
  have hQ':∀ x e' s',Res.ok x e' s'∈Y9 F G e s (.ok v)→∀ q a' w',Ext r s w q s' w'→Qk K q e' a'→Q (DL x) a' w':=fun x e' s' hm=>hQ x e' s' (by show _∈Y9 F G e s _; rw [hv]; exact hm)
  unfold Y9 at hb' hQ'
  split at hb'
  ·rename_i e1
   cases e1
   generalize hg2:a.eval x=u at hc
   cases hc
   exact wp_cond_true hg2 (hf e s hb' r w a Q hr he hQ')
  ·rename_i e1
   cases e1
   generalize hg2:a.eval x=u at hc
   cases hc
   exact wp_cond_false hg2 (hg e s hb' r w a Q hr he hQ')
  ·exact absurd rfl (hb' .bad (List.mem_singleton.2 rfl))
theorem W1 {K:ZF} {ex:Code→Env→St→Res} {W0:Nat} {t u:Tmp} (hex:∀ c,Qz P K c (ex c)):∀ c,Qq (fun id ops d=>id=W0→Zv P K (.region id ops d) (Rv t u)) c→Zv P K c (WZ ex W0 t u c)
 | .seq a b,h=>Zv.seq (W1 hex a h.1) (W1 hex b h.2)
 | .cond x a b,h=>Zv.cond (W1 hex a h.1) (W1 hex b h.2)
 | .region id ops d,h=>by
  have e1:WZ ex W0 t u (.region id ops d)=fun e s=>sel (Nat.beq id W0) (Rv t u e s) [ex (.region id ops d) e s]:=by unfold WZ; rfl
  rw [e1]
  cases hc:Nat.beq id W0
  ·exact Zv.of (hex _)
  ·exact h (Nat.eq_of_beq_eq_true hc)
 | .skip,_=>Zv.of (hex _)
 | .label _,_=>Zv.of (hex _)
 | .rangeFunc _ _ _ _,_=>Zv.of (hex _)
 | .exit _,_=>Zv.of (hex _)
 | .goto _,_=>Zv.of (hex _)
 | .ret,_=>Zv.of (hex _)
 | .refuse _,_=>Zv.of (hex _)
 | .block _ _,_=>Zv.of (hex _)
 | .loop _,_=>Zv.of (hex _)
 | .scope _,_=>Zv.of (hex _)
theorem XQ {s:St}:∀ {l:List Nat} {i:Nat} {b:Zd},(i,b)∈QX s l→s.get i=some b
 | j::l,i,b,h=>by
  unfold QX at h
  split at h
  ·rename_i c hc
   rcases List.mem_cons.1 h with h | h
   ·cases h; exact hc
   ·exact XQ h
  ·exact XQ h
theorem Ta {rs:List R}:∀ {l:List (Nat×Zd)} {i:Nat} {b:Zd},(i,b)∈Nk rs l→(i,b)∈l∧TN b i rs=true
 | (j,c)::l,i,b,h=>by
  have h:(i,b)∈sel (TN c j rs) ((j,c)::Nk rs l) (Nk rs l):=h
  cases hh:TN c j rs
  ·rw [hh] at h
   obtain ⟨h1,h2⟩:=Ta (l:=l) h
   exact ⟨List.mem_cons_of_mem _ h1,h2⟩
  ·rw [hh] at h
   rcases List.mem_cons.1 h with h | h
   ·cases h; exact ⟨List.mem_cons_self,hh⟩
   ·obtain ⟨h1,h2⟩:=Ta (l:=l) h
    exact ⟨List.mem_cons_of_mem _ h1,h2⟩
theorem Nl {b:Zd} {i:Nat}:∀ {rs:List R},TN b i rs=true→∀ v s,R.ok v s∈rs→s.get i=some b
 | .ok u s::l,h,v,t,hm=>by
  obtain ⟨h1,h2⟩:=ZE h
  rcases List.mem_cons.1 hm with hm | hm
  ·cases hm
   unfold XP at h1
   split at h1
   ·rename_i c hc; rw [hc,Y7 _ _ h1]
   ·cases h1
  ·exact Nl h2 v t hm
 | .bad::l,h,_,_,_=>by cases h
theorem PN {v:Zc} {m:Nat}:∀ {rs:List R},L6 v m rs=true→∀ y∈rs,∃ s,y = .ok v s∧s.next=m
 | .ok u s::l,h,y,hm=>by
  obtain ⟨h1,h⟩:=ZE h
  obtain ⟨h2,h3⟩:=ZE h
  rcases List.mem_cons.1 hm with hm | hm
  ·subst hm; exact ⟨s,by rw [Qj _ _ h1],Nat.eq_of_beq_eq_true h2⟩
  ·exact PN h3 y hm
 | .bad::l,h,_,_=>by cases h
theorem Ym {l:List RV}:∀ {ys:List Res} {y:Res},y∈ys→Y0 l y∈PM l ys
 | z::ys,y,h=>by
  rcases List.mem_cons.1 h with h | h
  ·subst h; exact List.mem_cons_self
  ·exact List.mem_cons_of_mem _ (Ym h)
theorem Uu (hm:P.follows .mixedOrders=true) {T:Two} {Zi:YW} {fn:Func} {b:Code} (hfn:P.funcs[T.f]? = some fn) (hb:fn.body=some b) (hcf:∀ args w,(callFunc T.f args).run P w = .ok (.enter T.f args) w)
  (hc:Qq (fun id ops d=>id=T.W0→Zv P ⟨fn.ntmps,Zi⟩ (.region id ops d) (Rv T.t T.u)) b):Z4 P T.f (Zdb P T Zi fn):=by
 intro args s v s' h r w us hr hv
 have h:Zhk P T Zi fn args s fn.body = .ok v s':=h
 rw [hb] at h
 have h:Zfx T.f args s (T.ids args s) (PM (Xo P fn.results.toList) (WZ (exT P ⟨fn.ntmps,Zi⟩) T.W0 T.t T.u b (Km ⟨fn.ntmps,Zi⟩ 0 .lf args) ⟨Z0 (QX s (T.ids args s)) .lf,s.next⟩)) = .ok v s':=h
 have hbadc:ZZ P (fun _ _ _=>R.bad):=fun f args s v s' h=>by cases h
 have hM:Zv P ⟨fn.ntmps,Zi⟩ b (WZ (exT P ⟨fn.ntmps,Zi⟩) T.W0 T.t T.u b):=W1 (fun c=>Sl hbadc (LZ hm hbadc) 1 c (Qq.all (fun _ _ _ g hg=>by cases hg) c)) b hc
 generalize WZ (exT P ⟨fn.ntmps,Zi⟩) T.W0 T.t T.u b=F at h hM
 generalize hids:T.ids args s=ids at h
 generalize hy:F (Km ⟨fn.ntmps,Zi⟩ 0 .lf args) ⟨Z0 (QX s ids) .lf,s.next⟩=ys at h
 have hys:∀ y∈ys,∃ s1,Y0 (Xo P fn.results.toList) y = .ok v s1∧∃ E:Ent,E.f=T.f∧E.args=args∧E.pre=QX s ids∧E.n=s.next∧E.v=v∧E.m=s1.next∧s'=E.L5 s∧∀ i b,(i,b)∈E.post→s1.get i=some b:=by
  intro y hmem
  have hd:=Ym (l:=Xo P fn.results.toList) hmem
  unfold Zfx at h
  split at h
  ·rename_i v1 s1 rs hrs
   rcases Ze h with ⟨hs,h⟩ | ⟨_,h⟩
   ·cases h
    rw [hrs] at hd
    rcases List.mem_cons.1 hd with hd | hd
    ·exact ⟨s1,hd,_,rfl,rfl,rfl,rfl,rfl,rfl,rfl,fun i b hi=>XQ (Ta hi).1⟩
    ·obtain ⟨s2,h1,h2⟩:=PN hs _ hd
     refine ⟨s2,h1,_,rfl,rfl,rfl,rfl,rfl,h2.symm,rfl,fun i b hi => ?_⟩
     rw [h1] at hd
     exact Nl (Ta hi).2 v s2 hd
   ·cases h
  ·cases h
 have hs:∀ i b,(⟨Z0 (QX s ids) .lf,s.next⟩:St).get i=some b→s.get i=some b:=fun i b hb=>XQ (Q9 hb)
 refine .inr ⟨hcf _ _,?_⟩
 refine calls_of_wp hfn hb (hM _ ⟨Z0 (QX s ids) .lf,s.next⟩ (fun y hmem hbad => ?_) r w _ _ (hr.some hs rfl) (Pq hv) fun x e' s1 hmem q a' w' hx he => ?_)
 ·rw [hy] at hmem
  obtain ⟨s1,h1,_⟩:=hys y hmem
  subst hbad
  cases h1
 ·rw [hy] at hmem
  obtain ⟨s2,h1,E,g1,g2,g3,g4,g5,g6,g7,g8⟩:=hys _ hmem
  obtain ⟨x',e1,h2,h3,h4⟩:=Pr h1
  cases h2
  obtain ⟨u,h5,h6⟩:=Yj hx.rel he h4
  have hES:E.S=⟨Z0 (QX s ids) .lf,s.next⟩:=by unfold Ent.S; rw [g3,g4]
  have hx':Ext r E.S w q E.S' w':=by
   rw [hES]
   exact hx.forget (fun i b hb=>g8 i b (Q9 hb)) g6
  have hx2:=hx'.beside hr (by rw [hES]; exact hs) g4
  rw [← g7] at hx2
  rcases h3 with rfl | rfl
  ·exact ⟨he.defers,u,h5,u,rfl,q,hx2,h6⟩
  ·exact ⟨he.defers,u,h5,u,rfl,q,hx2,h6⟩
end Go.Proofs.YtheflbaejhlboaaGreatDoor.Ev
namespace Go.Proofs.YtheflbaejhlboaaGreatDoor.Ev
open Go
noncomputable section
mutual
def ZaM:Zc→List Nat
 | .ptr i _=>[i]
 | .slice i _ _ _=>[i]
 | .map i=>[i]
 | .gho i _=>[i]
 | .func _ a b=>PO a++PO b
 | .iface _ v=>ZaM v
 | .agg l=>PO l
 | .tuple l=>PO l
 | _=>[]
def PO:List Zc→List Nat
 | []=>[]
 | v::l=>ZaM v++PO l
end
def Zes:List Entry→List Nat
 | []=>[]
 | (k,v,_)::l=>ZaM k++(ZaM v++Zes l)
def Zhl:Zd→List Nat
 | .cells cs _ _=>PO cs
 | .map es _=>Zes es
 | .mapIter (some m) _ _ _=>[m]
 | .mapIter none _ _ _=>[]
def Zhm (o:Option Zd):List Nat:=match o with
 | some b=>Zhl b
 | none=>[]
def Zdc (go:List Nat→Tr Unit→List Nat→List Nat) (s:St) (t:Tr Unit) (acc:List Nat) (i:Nat) (l:List Nat) (seen:Option Unit):List Nat:=match seen with
 | some _=>go l t acc
 | none=>match s.get i with
  | some b=>go (Zhl b++l) (t.set i (some ())) (i::acc)
  | none=>go l (t.set i (some ())) (i::acc)
def ZaN (s:St) (n:Nat):List Nat→Tr Unit→List Nat→List Nat :=
 @Nat.rec (fun _=>List Nat→Tr Unit→List Nat→List Nat) (fun _ _ acc=>acc)
  (fun _ ih l t acc=>@List.rec Nat (fun _=>List Nat) acc (fun i l _=>Zdc ih s t acc i l (t.get i)) l) n
def Zhn (l:List Nat):Tr Unit:=@List.rec Nat (fun _=>Tr Unit) .lf (fun i _ ih=>ih.set i (some ())) l
def Zfy (s:St) (l:List Nat):List Nat:=@List.rec Nat (fun _=>List Nat) [] (fun i _ ih=>Zhm (s.get i)++ih) l
def Nn:Nat:=100000
def DQ (args:List Zc) (s:St):List Nat:=(ZaN s Nn (PO args) .lf []).reverse
def DR (ids:List Nat) (v:Zc) (s:St):List Nat:=(ZaN s Nn (ZaM v++Zfy s ids) (Zhn ids) []).reverse
abbrev Wx:=Nat→Option Nat
def ZaO (v:Option Zc) (l:Option (List Zc)):Option (List Zc):=match v,l with
 | some v,some l=>some (v::l)
 | _,_=>none
mutual
def Tc (g:Wx):Zc→Option Zc
 | .ptr i o=>(g i).map fun j => .ptr j o
 | .slice i o n c=>(g i).map fun j => .slice j o n c
 | .map i=>(g i).map .map
 | .gho i t=>(g i).map fun j => .gho j t
 | .func f a b=>match VY g a,VY g b with
  | some a,some b=>some (.func f a b)
  | _,_=>none
 | .iface t v=>(Tc g v).map (.iface t)
 | .agg l=>(VY g l).map .agg
 | .tuple l=>(VY g l).map .tuple
 | v=>some v
def VY (g:Wx):List Zc→Option (List Zc)
 | []=>some []
 | v::l=>ZaO (Tc g v) (VY g l)
end
def Bb (g:Wx):List Entry→Option (List Entry)
 | []=>some []
 | (k,v,n)::l=>match Tc g k,Tc g v,Bb g l with
  | some k,some v,some l=>some ((k,v,n)::l)
  | _,_,_=>none
def TO (g:Wx):Zd→Option Zd
 | .cells cs e o=>(VY g cs).map fun cs => .cells cs e o
 | .map es c=>(Bb g es).map fun es => .map es c
 | .mapIter (some m) a l b=>(g m).map fun m => .mapIter (some m) a l b
 | .mapIter none a l b=>some (.mapIter none a l b)
def ZaP (g:Wx) (o:Option Zd):Option Zd:=match o with
 | some b=>TO g b
 | none=>none
def JW (n:Nat):List Nat→List (Nat×Nat)
 | []=>[]
 | i::l=>(i,n)::JW (n+1) l
def Wr (n:Nat) (T:Tr Nat):Wx:=fun i=>sel (Nat.blt i n) (some i) (T.get i)
def DS (i:Nat) (was now new:Option Zd) (l:List (Nat×Zd)):List (Nat×Zd):=match now,new with
 | some b,some b'=>sel (sel (XP b was) (GY b' b) true) ((i,b')::l) l
 | _,_=>l
def G1 (g:Wx) (S s:St):List Nat→List (Nat×Zd)
 | []=>[]
 | i::l=>DS i (S.get i) (s.get i) (ZaP g (s.get i)) (G1 g S s l)
def DT (i:Nat) (b:Option Zd) (l:List (Nat×Zd)):List (Nat×Zd):=match b with
 | some b=>(i,b)::l
 | none=>l
def PQ (g:Wx) (s:St):List (Nat×Nat)→List (Nat×Zd)
 | []=>[]
 | (i,j)::l=>DT j (ZaP g (s.get i)) (PQ g s l)
def No (n:Nat):List Nat→Bool
 | []=>true
 | i::l=>sel (Nat.ble n i) (No n l) false
def distinct:List Nat→Bool
 | []=>true
 | i::l=>sel (Wv i l) false (distinct l)
inductive Can where
 | mk (v:Zc) (post:List (Nat×Zd)) (m:Nat)
 | bad
def Zho (v:Option Zc) (post:List (Nat×Zd)) (m:Nat):Can:=match v with
 | some v => .mk v post m
 | none => .bad
def Zhp (S s:St) (ids:List Nat) (L:List Nat) (v:Zc) (N:List (Nat×Nat)) (g:Wx):Can :=
 Zho (Tc g v) (G1 g S s ids++PQ g s N) (S.next+L.length)
def Np (n:Nat):List Nat→Bool
 | []=>true
 | i::l=>sel (Nat.blt i n) (Np n l) false
def Zhq (S s:St) (ids:List Nat) (v:Zc) (L:List Nat):Can:=sel (Np S.next ids) (sel (No S.next L) (sel (distinct L)
 (Zhp S s ids L v (JW S.next L) (Wr S.next (Z0 (JW S.next L) .lf))) .bad) .bad) .bad
def ZaQ (S:St) (ids:List Nat) (r:R):Can:=match r with
 | .ok v s=>Zhq S s ids v (DR ids v s)
 | .bad => .bad
def Zdd (v:Zc) (m:Nat) (c:Can):Bool:=match c with
 | .mk u _ n=>sel (Jz u v) (Nat.beq n m) false
 | .bad=>false
def Zfz (i:Nat) (b:Zd) (c:Can):Bool:=match c with
 | .mk _ post _=>XP b ((Z0 post .lf).get i)
 | .bad=>false
def DU (v:Zc) (m:Nat):List Can→Bool
 | []=>true
 | c::l=>sel (Zdd v m c) (DU v m l) false
def XE (i:Nat) (b:Zd):List Can→Bool
 | []=>true
 | c::l=>sel (Zfz i b c) (XE i b l) false
def Wa (cs:List Can):List (Nat×Zd)→List (Nat×Zd)
 | []=>[]
 | (i,b)::l=>sel (XE i b cs) ((i,b)::Wa cs l) (Wa cs l)
def ZaR (S:St) (ids:List Nat):List R→List Can
 | []=>[]
 | r::l=>ZaQ S ids r::ZaR S ids l
def Bc (f:FuncId) (args:List Zc) (S s:St) (pre:List (Nat×Zd)) (cs:List Can):R:=match cs with
 | .mk v post m::l=>sel (DU v m l) (.ok v ((⟨f,args,pre,S.next,v,Wa (.mk v post m::l) post,m⟩:Ent).L5 s)) .bad
 | _ => .bad
def W2 (s:St) (r m since c:Nat) (seen:List Nat):List Entry→List R
 | []=>[]
 | (k,v,b)::l=>sel (Nat.blt b since) (.ok (.tuple [.bool true,k,v]) (s.put r (.mapIter (some m) since (seen++[b]) c))) .bad::W2 s r m since c seen l
def L7 (s:St) (r m since c:Nat) (seen:List Nat) (es:List Entry):List R:=match es with
 | []=>[.ok (.tuple [.bool false]) s]
 | es=>W2 s r m since c seen es
def DV (s:St) (r m since last:Nat) (seen:List Nat) (x:Mp):List R:=match x with
 | .mk es c=>sel (YE last seen es) [.bad] (L7 s r m since c seen (leftOf seen es))
 | .bad=>[.bad]
def L8 (s:St) (r:Nat) (b:Option Zd):List R:=match b with
 | some (.mapIter none _ _ _)=>[.ok (.tuple [.bool false]) s]
 | some (.mapIter (some m) since seen last)=>DV s r m since last seen (s.JI m)
 | _=>[.bad]
def Yn (s:St) (v:V):List R:=match v with
 | .ok (.ptr r 0)=>L8 s r (s.get r)
 | _=>[.bad]
def L9 (o:Oper):Option Operand:=match o.op,o.guard with
 | .next it false,none=>some it
 | _,_=>none
def W3 (ops:List Oper):Option Operand:=match ops with
 | o::_=>L9 o
 | []=>none
def hasNext:Code→Bool
 | .seq a b=>sel (hasNext a) true (hasNext b)
 | .cond _ a b=>sel (hasNext a) true (hasNext b)
 | .block _ b=>hasNext b
 | .loop b=>hasNext b
 | .region _ ops false=>isSome (W3 ops.toList)
 | _=>false
def Nq (is:LD) (e:Env) (d:Option (List Bool)):List R→List Res
 | []=>[]
 | r::l=>(match r with | .ok v s=>Vr e is [v] (Kl e v d) s | .bad => .bad)::Nq is e d l
def ZaS (P:Program) (call:Zu) (K:ZF) (ops:Array Oper) (e:Env) (s:St) (ex:Res) (l:List Oper) (it:Option Operand):List Res:=match l,it with
 | o::rest,some it=>sel (Qr K o) (Nq (Js P call K ops rest 1 (Qa 0 .nil o)) e (JT K o) (Yn s (Zn [] e (Q7 0 .nil it)))) [.bad]
 | _,_=>[ex]
def Be (f:Env→St→List Res) (n:Nat):Env→St→List Res :=
 @Nat.rec (fun _=>Env→St→List Res) (fun _ _=>[.bad]) (fun _ ih e s=>bindM ih (f e s)) n
def PR (i:Nat):List Res→List Res
 | []=>[]
 | r::l=>TH i r::PR i l
def VZ (P:Program) (call:Zu) (K:ZF) (fuel:Nat) (ex:Code→Env→St→Res):Code→Env→St→List Res
 | .seq a b=>fun e s=>sel (sel (hasNext a) true (hasNext b)) (bindM (VZ P call K fuel ex b) (VZ P call K fuel ex a e s)) [ex (.seq a b) e s]
 | .cond x a b=>fun e s=>sel (sel (hasNext a) true (hasNext b)) (Y9 (VZ P call K fuel ex a) (VZ P call K fuel ex b) e s (Zn [] e (Q7 0 .nil x))) [ex (.cond x a b) e s]
 | .block i b=>fun e s=>sel (hasNext b) (PR i (VZ P call K fuel ex b e s)) [ex (.block i b) e s]
 | .loop b=>fun e s=>sel (hasNext b) (Be (VZ P call K fuel ex b) fuel e s) [ex (.loop b) e s]
 | .region id ops false=>fun e s=>ZaS P call K ops e s (ex (.region id ops false) e s) ops.toList (W3 ops.toList)
 | c=>fun e s=>[ex c e s]
def exL (P:Program) (call:Zu) (K:ZF) (kn:XL) (fuel:Nat) (c:Code):Env→St→Res:=M6 P call K kn fuel fuel (cc P call K kn c)
def Bf (P:Program) (call:Zu) (K:ZF) (kn:XL) (fuel:Nat) (f:FuncId) (rv:List RV) (b:Code) (args:List Zc) (s:St) (ids:List Nat) (pre:List (Nat×Zd)) (S:St):R :=
 Bc f args S s pre (ZaR S ids (PM rv (VZ P call K fuel (exL P call K kn fuel) b (Km K 0 .lf args) S)))
def ZaT (P:Program) (call:Zu) (K:ZF) (kn:XL) (fuel:Nat) (f:FuncId) (rv:List RV) (b:Code) (args:List Zc) (s:St) (ids:List Nat):R :=
 Bf P call K kn fuel f rv b args s ids (QX s ids) ⟨Z0 (QX s ids) .lf,s.next⟩
def ZaU (P:Program) (call:Zu) (kn:XL) (Zi:YW) (fuel:Nat) (f:FuncId) (fn:Func) (args:List Zc) (s:St) (b:Option Code):R:=match b with
 | some b=>ZaT P call ⟨fn.ntmps,Zi⟩ kn fuel f (Xo P fn.results.toList) b args s (DQ args s)
 | none => .bad
def Zet (P:Program) (call:Zu) (kn:XL) (Zi:YW) (fuel:Nat) (f:FuncId) (args:List Zc) (s:St) (fn:Option Func):R:=match fn with
 | some fn=>ZaU P call kn Zi fuel f fn args s fn.body
 | none => .bad
def Bg (P:Program) (B:VO) (M:FuncId→Bool) (call:Zu) (fuel:Nat) (f:FuncId) (args:List Zc) (s:St) (o:Option Orc):R :=
 @Option.rec Orc (fun _=>R) (sel (M f) (Zet P call (B.reg f) (B.Zi f) fuel f args s (B.fn f)) (TI P call (B.reg f) fuel args s (Zc0 P call (B.Zi f) (B.reg f) (B.fn f)))) (fun g=>g.run args s) o
def Rw (P:Program) (B:VO) (M:FuncId→Bool) (fuel:Nat) (d:Nat):Zu :=
 @Nat.rec (fun _=>Zu) (fun _ _ _ => .bad) (fun _ ih f args s=>Bg P B M ih fuel f args s (B.orc f)) d
def Z3 (P:Program) (B:VO) (M:FuncId→Bool) (fuel d:Nat) (e:Ent):Bool :=
 Zhh e (Bg P B M (Rw P B M fuel d) fuel e.f e.args e.S none)
end
end Go.Proofs.YtheflbaejhlboaaGreatDoor.Ev
namespace Go.Proofs.YtheflbaejhlboaaGreatDoor.Ev
open Go
variable [Sig] {P:Program}
theorem G2 {w:World} (n:Nat) (h:1≤n):∃ k w1,(choose (.mapNext n)).run P w = .ok k w1∧k<n∧(w1=w∨w1=w.drew):=by
 rw [run_choose]
 by_cases hf:(Question.mapNext n).forced=true
 ·rw [if_pos hf]
  exact ⟨0,w,rfl,h,.inl rfl⟩
 ·rw [if_neg hf]
  exact ⟨_,_,rfl,Nat.mod_lt _ h,.inr rfl⟩
theorem ERs.nth {r:Rho}:∀ {l:List Entry} {l':List MapEntry},ERs r l l'→∀ {k:Nat} {m:MapEntry},l'[k]? = some m→∃ e,e∈l∧ER r e m
 | _,_,.nil,k,m,h=>by cases h
 | _,_,.cons h t,0,m,e=>by cases e; exact ⟨_,List.mem_cons_self,h⟩
 | _,_,.cons h t,k+1,m,e=>by
  obtain ⟨x,h1,h2⟩:=ERs.nth t (k:=k) (by simpa using e)
  exact ⟨x,List.mem_cons_of_mem _ h1,h2⟩
theorem Wb {s:St} {r m since c:Nat} {seen:List Nat}:∀ {l:List Entry} {e:Entry},e∈l →
  sel (Nat.blt e.2.2 since) (R.ok (.tuple [.bool true,e.1,e.2.1]) (s.put r (.mapIter (some m) since (seen++[e.2.2]) c))) .bad∈W2 s r m since c seen l
 | (k,v,b)::l,e,h=>by
  rcases List.mem_cons.1 h with h | h
  ·subst h; exact List.mem_cons_self
  ·exact List.mem_cons_of_mem _ (Wb h)
theorem ERs.ZaV {r:Rho} {since:Nat}:∀ {l:List Entry} {l':List MapEntry},ERs r l l'→(∀ e∈l,Nat.blt e.2.2 since=true)→∀ m∈l',m.born<since
 | _,_,.nil,_,m,h=>by cases h
 | _,_,.cons h t,hl,m,hm=>by
  rcases List.mem_cons.1 hm with hm | hm
  ·subst hm
   rw [h.2.2]
   exact Qy (hl _ List.mem_cons_self)
  ·exact ERs.ZaV t (fun e he=>hl e (List.mem_cons_of_mem _ he)) m hm
theorem Uv {r:Rho} {s:St} {w:World} (h:Rel r s w) {t:TypeId} {x:Zc} (hb:∀ y∈Yn s (.ok x),y ≠ .bad) {a:Value} (hx:VR r x a) :
  ∃ v s',R.ok v s'∈Yn s (.ok x)∧VN P r s w (Instr.next a false t) v s':=by
 unfold Yn at hb ⊢
 split at hb
 ·rename_i y id hy
  cases hy
  cases hx with
  | ptr hr =>
   rename_i x
   replace hb:∀ y∈L8 s id (s.get id),y ≠ .bad:=hb
   show ∃ v s',R.ok v s'∈L8 s id (s.get id)∧_
   unfold L8 at hb ⊢
   split at hb
   ·rename_i since seen st hbk
    obtain ⟨o,h1,h2⟩:=h.block id _ x hbk hr
    have h2:o = .mapIter none since ⟨seen⟩ st:=h2
    subst h2
    refine ⟨_,_,List.mem_singleton.2 rfl,r,w,.tuple #[.bool false],?_,.tuple (.cons (.bool _) .nil),Ext.refl h⟩
    simp only [Instr.next,Sem.run_bind,QU h1,Result.andThen_ok,Sem.run_pure]
   ·rename_i m since seen last hbk
    obtain ⟨o,h1,y,hy,rfl⟩:=h.block id _ x hbk hr
    show ∃ v s',R.ok v s'∈DV s id m since last seen (s.JI m)∧_
    unfold DV at hb ⊢
    split at hb
    ·rename_i es c hma
     cases hg:YE last seen es
     ·rw [hg] at hb
      have hb:∀ y∈L7 s id m since c seen (leftOf seen es),y ≠ .bad:=hb
      show ∃ v s',R.ok v s'∈L7 s id m since c seen (leftOf seen es)∧_
      obtain ⟨l,h4,h5⟩:=QA h.toRelB hy hma
      have hlf:=Vq (seen:=seen) h5
      have hga:=S4 h5 hg
      generalize hle:leftOf seen es=le at hb hlf
      cases le with
      | nil =>
       have hnil:l.filter (fun e => !seen.contains e.born)=[]:=hlf.Lz
       refine ⟨_,_,List.mem_singleton.2 rfl,r,w,.tuple #[.bool false],?_,.tuple (.cons (.bool _) .nil),Ext.refl h⟩
       have hfl:(⟨l⟩:Array MapEntry).filter (fun e => !(⟨seen⟩:Array Nat).contains e.born) = #[]:=by
        apply Array.ext'
        simpa using hnil
       simp only [Instr.next,Sem.run_bind,QU h1,Result.andThen_ok,Qm h4,hga,hfl,Bool.false_eq_true,if_false]
       simp [LB]
      | cons e0 le =>
       have hb:∀ y∈W2 s id m since c seen (e0::le),y ≠ .bad:=hb
       show ∃ v s',R.ok v s'∈W2 s id m since c seen (e0::le)∧_
       have hold:∀ e∈e0::le,Nat.blt e.2.2 since=true:=fun e he=>by
        cases hbl:Nat.blt e.2.2 since
        ·have:=hb _ (Wb (s:=s) (r:=id) (m:=m) (c:=c) (seen:=seen) (since:=since) he)
         rw [hbl] at this
         exact absurd rfl this
        ·rfl
       generalize hme:l.filter (fun e => !seen.contains e.born)=ms at hlf
       have hall:=hlf.ZaV hold
       have hfl:(⟨l⟩:Array MapEntry).filter (fun e => !(⟨seen⟩:Array Nat).contains e.born)=⟨ms⟩:=by
        apply Array.ext'
        simpa using hme
       have hf1:(⟨ms⟩:Array MapEntry).filter (fun e=>decide (e.born<since))=⟨ms⟩:=by
        apply Array.ext'
        rw [Array.toList_filter]
        exact List.filter_eq_self.2 fun m hm=>by simp [hall m hm]
       have hf2:(⟨ms⟩:Array MapEntry).filter (fun e=>decide (e.born≥since)) = #[]:=by
        apply Array.ext'
        rw [Array.toList_filter]
        show List.filter _ ms=[]
        rw [List.filter_eq_nil_iff]
        intro m hm
        have:=hall m hm
        simp
        omega
       have hlen:=hlf.length
       have hne:(⟨ms⟩:Array MapEntry).isEmpty=false:=by
        cases ms with
        | nil=>simp at hlen
        | cons m ms=>rfl
       have hcand:((if (⟨ms⟩:Array MapEntry).isEmpty=true then #[none] else #[])++Array.map some ((⟨ms⟩:Array MapEntry) ++ #[]))=(⟨ms.map some⟩:Array (Option MapEntry)):=by
        rw [hne]
        apply Array.ext'
        simp
       obtain ⟨k,w1,hk1,hk2,hk3⟩:=G2 (P:=P) (w:=w) ms.length (by rw [hlen]; simp)
       obtain ⟨me,hmk⟩:∃ me,ms[k]? = some me:=⟨_,List.getElem?_eq_getElem hk2⟩
       obtain ⟨⟨kk,u,b⟩,hin,hh⟩:=hlf.nth hmk
       have hbo:me.born=b:=hh.2.2
       have hmem:=Wb (s:=s) (r:=id) (m:=m) (c:=c) (seen:=seen) (since:=since) hin
       rw [hold _ hin] at hmem
       have hw1:w1.heap=w.heap∧Rel r s w1∧Ext r s w r s w1:=by
        rcases hk3 with rfl | rfl
        ·exact ⟨rfl,h,Ext.refl h⟩
        ·exact ⟨rfl,h.drawn _,Ext.drawn h _⟩
       obtain ⟨hw2,hr1,hx1⟩:=hw1
       have h1':w1.heap[x.blk]? = some (.mapIter (some y.blk) since ⟨seen⟩ last):=by rw [hw2]; exact h1
       refine ⟨_,_,hmem,r,_,.tuple #[.bool true,me.key,me.val],?_,.tuple (.cons (.bool _) (.cons hh.1 (.cons hh.2.1 .nil))),hx1.trans (GA hr1 hr hy hbk h1' since c (seen++[b]))⟩
       simp only [Instr.next,Sem.run_bind,QU h1,Result.andThen_ok,Qm h4,hga,hfl,hf1,hf2,Bool.false_eq_true,if_false,hcand]
       have hsz:(⟨ms.map some⟩:Array (Option MapEntry)).size=ms.length:=by simp
       rw [hsz,hk1]
       simp only [Result.andThen_ok]
       have hget:(⟨ms.map some⟩:Array (Option MapEntry))[k]? = some (some me):=by simp [hmk]
       rw [hget]
       simp [QL h1' (fun _ _ _ e=>by cases e),hbo]
     ·rw [hg] at hb
      exact absurd rfl (hb .bad (List.mem_singleton.2 rfl))
    ·exact absurd rfl (hb .bad (List.mem_singleton.2 rfl))
   ·exact absurd rfl (hb .bad (List.mem_singleton.2 rfl))
 ·exact absurd rfl (hb .bad (List.mem_singleton.2 rfl))
theorem Nr {is:LD} {e:Env} {d:Option (List Bool)}:∀ {l:List R} {v:Zc} {s:St},R.ok v s∈l→Vr e is [v] (Kl e v d) s∈Nq is e d l
 | r::l,v,s,h=>by
  rcases List.mem_cons.1 h with h | h
  ·subst h; exact List.mem_cons_self
  ·exact List.mem_cons_of_mem _ (Nr h)
theorem Ns {is:LD} {e:Env} {d:Option (List Bool)}:∀ {l:List R},R.bad∈l→Res.bad∈Nq is e d l
 | r::l,h=>by
  rcases List.mem_cons.1 h with h | h
  ·subst h; exact List.mem_cons_self
  ·exact List.mem_cons_of_mem _ (Ns h)
theorem Uw {o:Oper} {it:Operand} (h:L9 o=some it):o.op = .next it false∧o.guard=none:=by
 unfold L9 at h
 split at h
 ·rename_i h1 h2; cases h; exact ⟨h1,h2⟩
 ·cases h
theorem Zde {call:Zu} (hcall:ZZ P call) {K:ZF} {id:Nat} {ops:Array Oper} {ex:Env→St→Res} (hex:Qz P K (.region id ops false) ex) :
  Zv P K (.region id ops false) fun e s=>ZaS P call K ops e s (ex e s) ops.toList (W3 ops.toList):=by
 intro e s hb r w a Q hr he hQ
 unfold ZaS at hb hQ
 split at hb
 ·rename_i l it o rest it0 hl hn
  rw [hl] at hn hQ
  have hn:L9 o=some it0:=hn
  rw [show W3 (o::rest)=some it0 from hn] at hQ
  simp only at hb hQ
  obtain ⟨hop,hgu⟩:=Uw hn
  cases hdi:Qr K o
  ·rw [hdi] at hb
   exact absurd rfl (hb .bad (List.mem_singleton.2 rfl))
  ·rw [hdi] at hb hQ
   have hb:∀ y∈Nq (Js P call K ops rest 1 (Qa 0 .nil o)) e (JT K o) (Yn s (Zn [] e (Q7 0 .nil it0))),y ≠ .bad:=hb
   have hQ:∀ x e' s',Res.ok x e' s'∈Nq (Js P call K ops rest 1 (Qa 0 .nil o)) e (JT K o) (Yn s (Zn [] e (Q7 0 .nil it0)))→∀ q a' w',Ext r s w q s' w'→Qk K q e' a'→Q (DL x) a' w':=hQ
   have hnb:∀ y∈Yn s (Zn [] e (Q7 0 .nil it0)),y ≠ .bad:=fun y hy hbad=>by
    subst hbad
    exact hb .bad (Ns hy) rfl
   cases hv:Zn [] e (Q7 0 .nil it0) with
   | bad=>rw [hv] at hnb; exact absurd rfl (hnb .bad (List.mem_singleton.2 rfl))
   | ok x =>
    rw [hv] at hnb hb hQ
    have inv:=Inv.start hr he
    have hxv:=inv.cx o.op it0 (by rw [hop]; simp [Op.operands]) x hv
    refine wp_region ?_
    rw [List.range_eq_range',← Array.length_toList,hl,List.length_cons,List.range'_succ]
    have ho:ops[0]? = some o:=by rw [← Array.getElem?_toList,hl]; rfl
    have hd':ops.toList.drop (0+1)=rest:=by rw [hl]; rfl
    have hw:Region.wanted o (yielded ops a.tmps)=true:=by unfold Region.wanted; rw [hgu]
    refine Vu ho (fun _ => ?_) fun hw'=>by rw [hw] at hw'; cases hw'
    obtain ⟨v,s1,hm,hdoes⟩:=Uv (P:=P) (t:=o.type) hr hnb hxv
    have hopok:LJ P o a r s w v s1:=hdoes.op (by unfold execOp; rw [hop])
    refine hopok _ _ fun q u w1 hx hvr => ?_
    have hmm:=Nr (is:=Js P call K ops rest 1 (Qa 0 .nil o)) (e:=e) (d:=JT K o) hm
    have inv':=inv.step hdi hvr hx
    cases hrun:Vr e (Js P call K ops rest 1 (Qa 0 .nil o)) [v] (Kl e v (JT K o)) s1 with
    | bad=>rw [hrun] at hmm; exact absurd rfl (hb .bad hmm)
    | ok x1 e1 s2 =>
     rw [hrun] at hmm
     refine WV hcall rest (0+1) hd' 1 _ _ _ e1 s1 s2 x1 _ w1 q inv' hrun fun q' a' w' hx' he' hxn => ?_
     subst hxn
     exact hQ .normal e1 s2 hmm q' a' w' (hx.trans hx') he'
 ·rename_i h1
  have:ZaS P call K ops e s (ex e s) ops.toList (W3 ops.toList)=[ex e s]:=by
   unfold ZaS
   split
   ·rename_i o rest it hl hn
    exact (h1 o rest it hl hn).elim
   ·rfl
  refine Zv.of hex e s (fun y hy=>hb y hy) r w a Q hr he fun x e' s' hm=>hQ x e' s' ?_
  simpa using hm
theorem Yo {i:Nat}:∀ {l:List Res} {y:Res},y∈l→TH i y∈PR i l
 | z::l,y,h=>by
  rcases List.mem_cons.1 h with h | h
  ·subst h; exact List.mem_cons_self
  ·exact List.mem_cons_of_mem _ (Yo h)
theorem Zv.block {K:ZF} {i:Nat} {c:Code} {F:Env→St→List Res} (hf:Zv P K c F):Zv P K (.block i c) fun e s=>PR i (F e s):=by
 intro e s hb r w a Q hr he hQ
 refine wp_block (hf e s (fun y hy hbad => ?_) r w a _ hr he fun x e1 s1 hm q a1 w1 hx he1 => ?_)
 ·subst hbad
  exact hb (TH i .bad) (Yo hy) rfl
 ·have hm':=Yo (i:=i) hm
  cases x with
  | normal=>exact hQ .normal e1 s1 hm' q a1 w1 hx he1
  | exit j =>
   show (if j=i then Q .normal a1 w1 else Q (.exit j) a1 w1)
   have hm':sel (Nat.beq i j) (Res.ok .normal e1 s1) (.ok (.exit j) e1 s1)∈PR i (F e s):=hm'
   cases hbq:Nat.beq i j
   ·rw [hbq] at hm'
    rw [if_neg (fun e=>Je hbq e.symm)]
    exact hQ (.exit j) e1 s1 hm' q a1 w1 hx he1
   ·rw [hbq] at hm'
    rw [if_pos (ZD hbq).symm]
    exact hQ .normal e1 s1 hm' q a1 w1 hx he1
  | goto l=>exact hQ (.goto l) e1 s1 hm' q a1 w1 hx he1
  | ret=>exact hQ .ret e1 s1 hm' q a1 w1 hx he1
theorem Zv.loop {K:ZF} {c:Code} {F:Env→St→List Res} (hf:Zv P K c F) (n:Nat):Zv P K (.loop c) (Be F n):=by
 intro e s hb r w a Q hr he hQ
 refine wp_loop_rounds n ?_
 induction n generalizing e s r w a with
 | zero=>exact absurd rfl (hb .bad (List.mem_singleton.2 rfl))
 | succ n ih =>
  have hb:∀ y∈bindM (Be F n) (F e s),y ≠ .bad:=hb
  have hQ:∀ x e' s',Res.ok x e' s'∈bindM (Be F n) (F e s)→∀ q a' w',Ext r s w q s' w'→Qk K q e' a'→Q (DL x) a' w':=hQ
  rw [rounds_succ]
  refine hf e s (fun y hy hbad => ?_) r w a _ hr he fun x e1 s1 hm q a1 w1 hx he1 => ?_
  ·subst hbad
   exact hb .bad (QB (fun _ _ h=>by cases h) hy) rfl
  ·cases x with
   | normal=>exact ih e1 s1 (fun y hy=>hb y (JV hm y hy)) q w1 a1 hx.rel he1 fun x e' s' hm' q' a' w' hx' he'=>hQ x e' s' (JV hm _ hm') q' a' w' (hx.trans hx') he'
   | exit i=>exact hQ _ e1 s1 (QB (fun _ _ h=>by cases h) hm) q a1 w1 hx he1
   | goto i=>exact hQ _ e1 s1 (QB (fun _ _ h=>by cases h) hm) q a1 w1 hx he1
   | ret=>exact hQ _ e1 s1 (QB (fun _ _ h=>by cases h) hm) q a1 w1 hx he1
theorem Zv.sel {K:ZF} {c:Code} {F G:Env→St→List Res} (t:Bool) (hf:Zv P K c F) (hg:Zv P K c G):Zv P K c fun e s=>Ev.sel t (F e s) (G e s):=by
 cases t
 ·exact hg
 ·exact hf
theorem XR {call:Zu} (hcall:ZZ P call) {K:ZF} {fuel:Nat} {ex:Code→Env→St→Res}:∀ c,(∀ d,Qq (fun _ _ _=>True) d→Qz P K d (ex d))→Zv P K c (VZ P call K fuel ex c)
 | .seq a b,h=>Zv.sel _ (Zv.seq (XR hcall a h) (XR hcall b h)) (Zv.of (h _ (Qq.all (fun _ _ _=>trivial) _)))
 | .cond x a b,h=>Zv.sel _ (Zv.cond (XR hcall a h) (XR hcall b h)) (Zv.of (h _ (Qq.all (fun _ _ _=>trivial) _)))
 | .block i b,h=>Zv.sel _ (Zv.block (XR hcall b h)) (Zv.of (h _ (Qq.all (fun _ _ _=>trivial) _)))
 | .loop b,h=>Zv.sel _ (Zv.loop (XR hcall b h) fuel) (Zv.of (h _ (Qq.all (fun _ _ _=>trivial) _)))
 | .region id ops false,h=>Zde hcall (h _ (Qq.all (fun _ _ _=>trivial) _))
 | .region id ops true,h=>Zv.of (h _ (Qq.all (fun _ _ _=>trivial) _))
 | .skip,h=>Zv.of (h _ (Qq.all (fun _ _ _=>trivial) _))
 | .label _,h=>Zv.of (h _ (Qq.all (fun _ _ _=>trivial) _))
 | .rangeFunc _ _ _ _,h=>Zv.of (h _ (Qq.all (fun _ _ _=>trivial) _))
 | .exit _,h=>Zv.of (h _ (Qq.all (fun _ _ _=>trivial) _))
 | .goto _,h=>Zv.of (h _ (Qq.all (fun _ _ _=>trivial) _))
 | .ret,h=>Zv.of (h _ (Qq.all (fun _ _ _=>trivial) _))
 | .refuse _,h=>Zv.of (h _ (Qq.all (fun _ _ _=>trivial) _))
 | .scope _,h=>Zv.of (h _ (Qq.all (fun _ _ _=>trivial) _))
end Go.Proofs.YtheflbaejhlboaaGreatDoor.Ev
namespace Go.Proofs.YtheflbaejhlboaaGreatDoor.Ev
open Go
variable [Sig] {P:Program}
theorem G3 (k:IntKind):keq k k=true:=by cases k <;> rfl
theorem Nt (k:FloatKind):Lq k k=true:=by cases k <;> rfl
theorem Td (n:Int):ieq n n=true:=by rw [QC]; exact beq_self_eq_true n
theorem ZA (n:Nat):Nat.beq n n=true:=Nat.beq_refl n
mutual
theorem Wc:∀ v:Zc,Jz v v=true
 | .bool b=>by cases b <;> rfl
 | .int k n=>by show Bool.and _ _=true; rw [G3,Td]; rfl
 | .flt k b=>by show Bool.and _ _=true; rw [Nt,ZA]; rfl
 | .ZW k a b=>by show Bool.and _ (Bool.and _ _)=true; rw [Nt,ZA,ZA]; rfl
 | .str l=>by show Qv l l=true; rw [Qh]; exact beq_self_eq_true l
 | .Zh=>rfl
 | .ptr i o=>by show Bool.and _ _=true; rw [ZA,ZA]; rfl
 | .Za=>rfl
 | .ZX=>rfl
 | .slice i o n none=>by show Bool.and _ (Bool.and _ _)=true; rw [ZA,ZA,ZA]; rfl
 | .slice i o n (some c)=>by show Bool.and _ (Bool.and _ (Bool.and _ _))=true; rw [ZA,ZA,ZA,ZA]; rfl
 | .Zk=>rfl
 | .map i=>ZA i
 | .func f a b=>by show Bool.and _ (Bool.and _ _)=true; rw [ZA,JB a,JB b]; rfl
 | .ZH=>rfl
 | .nilIface=>rfl
 | .iface t v=>by show Bool.and _ _=true; rw [ZA,Wc v]; rfl
 | .agg l=>JB l
 | .tuple l=>JB l
 | .sint k c a b=>by show Bool.and _ (Bool.and _ (Bool.and _ _))=true; rw [G3,Td,Td,Td]; rfl
 | .raw b=>by cases b <;> rfl
 | .gho i t=>by show Bool.and _ _=true; rw [ZA,ZA]; rfl
theorem JB:∀ l:List Zc,Jt l l=true
 | []=>rfl
 | v::l=>by
  show Bool.and _ _=true
  rw [Wc v,JB l]
  rfl
end
theorem Rx:∀ l:List Entry,L3 l l=true
 | []=>rfl
 | (a,b,n)::l=>by
  show sel _ (sel _ (sel _ _ _) _) _=true
  rw [Wc a,Wc b,ZA,Rx l]
  rfl
theorem Ry:∀ l:List Nat,L4 l l=true
 | []=>rfl
 | n::l=>by
  show sel _ _ _=true
  rw [ZA,Ry l]
  rfl
theorem DW:∀ b:Zd,GY b b=true
 | .cells cs e o=>by
  show sel _ (sel _ _ _) _=true
  rw [ZA,JB cs]
  cases o <;> rfl
 | .map es c=>by
  show sel _ _ _=true
  rw [ZA,Rx es]
  rfl
 | .mapIter m a l b=>by
  have hm:DP m m=true:=by
   cases m with
   | none=>rfl
   | some m=>exact ZA m
  show sel _ (sel _ (sel _ _ _) _) _=true
  rw [hm,ZA,Ry l,ZA]
  rfl
def Nu (q:Rho) (g:Wx) (p:Rho):Prop:=∀ i j x,g i=some j→q i=some x→p j=some x
theorem map_some {α β : Type} {o:Option α} {f : α → β} {b : β} (h:o.map f=some b):∃ a,o=some a∧f a=b:=by
 cases o with
 | none=>cases h
 | some a=>cases h; exact ⟨a,rfl,rfl⟩
theorem ZaW {v:Option Zc} {l:Option (List Zc)} {x:List Zc} (h:ZaO v l=some x):∃ v' l',v=some v'∧l=some l'∧x=v'::l':=by
 unfold ZaO at h
 split at h
 ·cases h; exact ⟨_,_,rfl,rfl,rfl⟩
 ·cases h
mutual
theorem VR.ren {q p:Rho} {g:Wx} (hg:Nu q g p):∀ {v:Zc} {u:Value},VR q v u→∀ {v':Zc},Tc g v=some v'→VR p v' u
 | _,_,.bool b,_,h=>by cases h; exact .bool b
 | _,_,.int k n,_,h=>by cases h; exact .int k n
 | _,_,.flt k b,_,h=>by cases h; exact .flt k b
 | _,_,.ZW k a b,_,h=>by cases h; exact .ZW k a b
 | _,_,.str l,_,h=>by cases h; exact .str l
 | _,_,.Zh,_,h=>by cases h; exact .Zh
 | _,_,.ptr hx,_,h=>by
  obtain ⟨j,h1,rfl⟩:=map_some h
  exact .ptr (hg _ _ _ h1 hx)
 | _,_,.Za,_,h=>by cases h; exact .Za
 | _,_,.ZX a c,_,h=>by cases h; exact .ZX a c
 | _,_,.slice hx hn hc hu,_,h=>by
  obtain ⟨j,h1,rfl⟩:=map_some h
  exact .slice (hg _ _ _ h1 hx) hn hc hu
 | _,_,.Zk,_,h=>by cases h; exact .Zk
 | _,_,.map hx,_,h=>by
  obtain ⟨j,h1,rfl⟩:=map_some h
  exact .map (hg _ _ _ h1 hx)
 | .func f a b,_,.func _ ha hb,_,h=>by
  simp only [Tc] at h
  split at h
  ·rename_i a' b' h1 h2
   cases h
   exact .func f (VRs.ren hg ha h1) (VRs.ren hg hb h2)
  ·cases h
 | _,_,.ZH,_,h=>by cases h; exact .ZH
 | _,_,.nilIface,_,h=>by cases h; exact .nilIface
 | .iface t v,_,.iface _ hv,_,h=>by
  simp only [Tc] at h
  obtain ⟨v',h1,rfl⟩:=map_some h
  exact .iface t (VR.ren hg hv h1)
 | .agg l,_,.agg hl,_,h=>by
  simp only [Tc] at h
  obtain ⟨l',h1,rfl⟩:=map_some h
  exact .agg (VRs.ren hg hl h1)
 | .tuple l,_,.tuple hl,_,h=>by
  simp only [Tc] at h
  obtain ⟨l',h1,rfl⟩:=map_some h
  exact .tuple (VRs.ren hg hl h1)
 | _,_,.sint k hn,_,h=>by cases h; exact .sint k hn
 | _,_,.raw hn,_,h=>by cases h; exact .raw hn
 | _,_,.gho hx hgh hu hm,_,h=>by
  obtain ⟨j,h1,rfl⟩:=map_some h
  exact .gho (hg _ _ _ h1 hx) hgh hu hm
theorem VRs.ren {q p:Rho} {g:Wx} (hg:Nu q g p):∀ {l:List Zc} {u:List Value},VRs q l u→∀ {l':List Zc},VY g l=some l'→VRs p l' u
 | _,_,.nil,_,h=>by cases h; exact .nil
 | v::l,_,.cons hv hl,_,h=>by
  simp only [VY] at h
  obtain ⟨v',l',h1,h2,rfl⟩:=ZaW h
  exact .cons (VR.ren hg hv h1) (VRs.ren hg hl h2)
end
theorem ERs.ren {q p:Rho} {g:Wx} (hg:Nu q g p):∀ {l:List Entry} {u:List MapEntry},ERs q l u→∀ {l':List Entry},Bb g l=some l'→ERs p l' u
 | _,_,.nil,_,h=>by cases h; exact .nil
 | (k,v,n)::l,_,.cons hh ht,_,h=>by
  simp only [Bb] at h
  split at h
  ·rename_i k' v' l' h1 h2 h3
   cases h
   exact .cons ⟨hh.1.ren hg h1,hh.2.1.ren hg h2,hh.2.2⟩ (ERs.ren hg ht h3)
  ·cases h
theorem BR.ren {q p:Rho} {g:Wx} (hg:Nu q g p) {b b':Zd} {x:RB} {o:Obj} (h:TO g b=some b') (hb:BR q b x o):BR p b' x o:=by
 cases b with
 | cells cs e opn =>
  obtain ⟨cs',h1,rfl⟩:=map_some h
  obtain ⟨h0,vs,rest,t,fr,h2,h3,h4⟩:=hb
  exact ⟨h0,vs,rest,t,fr,h2,h3.ren hg h1,h4⟩
 | map es c =>
  obtain ⟨es',h1,rfl⟩:=map_some h
  obtain ⟨l,h2,h3⟩:=hb
  exact ⟨l,h2,h3.ren hg h1⟩
 | mapIter m a l c =>
  cases m with
  | none=>cases h; exact hb
  | some m =>
   obtain ⟨m',h1,rfl⟩:=map_some h
   obtain ⟨y,h2,h3⟩:=hb
   exact ⟨y,hg _ _ _ h1 h2,h3⟩
theorem TP:∀ {L:List Nat} {n i j:Nat},(i,j)∈JW n L→n≤j∧j<n+L.length∧L[j-n]? = some i
 | a::L,n,i,j,h=>by
  rcases List.mem_cons.1 h with h | h
  ·cases h
   exact ⟨Nat.le_refl _,by simp,by simp⟩
  ·obtain ⟨h1,h2,h3⟩:=TP h
   refine ⟨by omega,by simp; omega,?_⟩
   have:j-n=(j-(n+1))+1:=by omega
   rw [this,List.getElem?_cons_succ]
   exact h3
theorem PS {n:Nat}:∀ {L:List Nat},No n L=true→∀ i∈L,n≤i
 | a::L,h,i,hi=>by
  obtain ⟨h1,h2⟩:=ZE h
  rcases List.mem_cons.1 hi with hi | hi
  ·subst hi; exact Z6 h1
  ·exact PS h2 i hi
theorem G4 {n:Nat}:∀ {L:List Nat},Np n L=true→∀ i∈L,i<n
 | a::L,h,i,hi=>by
  obtain ⟨h1,h2⟩:=ZE h
  rcases List.mem_cons.1 hi with hi | hi
  ·subst hi; exact Qy h1
  ·exact G4 h2 i hi
theorem Rz:∀ {L:List Nat},distinct L=true→∀ (j k i:Nat),L[j]? = some i→L[k]? = some i→j=k
 | [],_,j,k,i,h,_=>by cases h
 | a::L,h,j,k,i,hj,hk=>by
  have h:sel (Wv a L) false (distinct L)=true:=h
  have hin:∀ m,L[m]? = some a→False:=fun m hm=>by
   have:Wv a L=true:=by rw [YU]; exact List.contains_iff_mem.2 (List.mem_of_getElem? hm)
   rw [this] at h
   cases h
  cases ha:Wv a L
  ·rw [ha] at h
   cases j with
   | zero =>
    cases k with
    | zero=>rfl
    | succ k =>
     cases hj
     exact (hin k (by simpa using hk)).elim
   | succ j =>
    cases k with
    | zero =>
     cases hk
     exact (hin j (by simpa using hj)).elim
    | succ k=>rw [Rz (show distinct L=true from h) j k i (by simpa using hj) (by simpa using hk)]
  ·rw [ha] at h; cases h
theorem DX {i j:Nat} {was now new:Option Zd} {l:List (Nat×Zd)} {b':Zd} (h:(j,b')∈DS i was now new l):(j=i∧∃ b,now=some b∧new=some b'∧(was=some b→b'=b))∨(j,b')∈l:=by
 unfold DS at h
 split at h
 ·rename_i b c
  rcases Ze (rfl:sel (sel (XP b was) (GY c b) true) ((i,c)::l) l=_) with ⟨h1,h2⟩ | ⟨_,h2⟩
  ·rw [← h2] at h
   rcases List.mem_cons.1 h with h | h
   ·cases h
    refine .inl ⟨rfl,b,rfl,rfl,fun hw => ?_⟩
    subst hw
    have hs:XP b (some b)=true:=DW b
    rw [hs] at h1
    exact Y7 _ _ h1
   ·exact .inr h
  ·rw [← h2] at h; exact .inr h
 ·exact .inr h
theorem G5 {g:Wx} {S s:St}:∀ {ids:List Nat} {j:Nat} {b':Zd},(j,b')∈G1 g S s ids→j∈ids∧∃ b,s.get j=some b∧TO g b=some b'∧(S.get j=some b→b'=b)
 | i::ids,j,b',h=>by
  rcases DX h with ⟨rfl,b,h1,h2,h3⟩ | h
  ·refine ⟨List.mem_cons_self,b,h1,?_,h3⟩
   rw [h1] at h2
   exact h2
  ·obtain ⟨h1,h2⟩:=G5 h
   exact ⟨List.mem_cons_of_mem _ h1,h2⟩
theorem G6 {g:Wx} {s:St}:∀ {N:List (Nat×Nat)} {j:Nat} {b':Zd},(j,b')∈PQ g s N→∃ i b,(i,j)∈N∧s.get i=some b∧TO g b=some b'
 | (i,k)::N,j,b',h=>by
  have h:(j,b')∈DT k (ZaP g (s.get i)) (PQ g s N):=h
  have go:(j,b')∈PQ g s N→∃ i' b,(i',j)∈(i,k)::N∧s.get i'=some b∧TO g b=some b':=fun h=>by
   obtain ⟨i',b,h1,h2,h3⟩:=G6 h
   exact ⟨i',b,List.mem_cons_of_mem _ h1,h2,h3⟩
  cases hs:s.get i with
  | none=>rw [hs] at h; exact go h
  | some b =>
   rw [hs] at h
   have h:(j,b')∈DT k (TO g b) (PQ g s N):=h
   cases hr:TO g b with
   | none=>rw [hr] at h; exact go h
   | some c =>
    rw [hr] at h
    rcases List.mem_cons.1 h with h | h
    ·cases h
     exact ⟨i,b,List.mem_cons_self,hs,hr⟩
    ·exact go h
def Rho.names (q:Rho) (n:Nat) (L:List Nat):Rho:=fun j=>if j<n then q j else (L[j-n]?).bind q
theorem G7 (q:Rho) (n:Nat) (L:List Nat):Nu q (Wr n (Z0 (JW n L) .lf)) (q.names n L):=by
 intro i j x hg hx
 unfold Wr at hg
 rcases Ze hg with ⟨h1,h2⟩ | ⟨h1,h2⟩
 ·cases h2
  show (if i<n then q i else _)=_
  rw [if_pos (Qy h1)]
  exact hx
 ·obtain ⟨h3,h4,h5⟩:=TP (Q9 h2)
  show (if j<n then q j else (L[j-n]?).bind q)=_
  rw [if_neg (by omega),h5]
  exact hx
theorem ZaX {r q:Rho} {S s:St} {w u:World} (hr:Rel r S w) (h:Ext r S w q s u) {L ids:List Nat} (hi:Np S.next ids=true) (hge:No S.next L=true) (hd:distinct L=true) :
  Ext r S w (q.names S.next L) ⟨Z0 (G1 (Wr S.next (Z0 (JW S.next L) .lf)) S s ids++PQ (Wr S.next (Z0 (JW S.next L) .lf)) s (JW S.next L)) .lf,S.next+L.length⟩ u:=by
 have hg:=G7 q S.next L
 generalize Wr S.next (Z0 (JW S.next L) .lf)=g at hg
 generalize hT:(⟨Z0 (G1 g S s ids++PQ g s (JW S.next L)) .lf,S.next+L.length⟩:St)=T
 have hTn:T.next=S.next+L.length:=by rw [← hT]
 have low:∀ {i},i<S.next→q.names S.next L i=q i:=fun {i} hi=>if_pos hi
 have high:∀ {i},¬ i<S.next→q.names S.next L i=(L[i-S.next]?).bind q:=fun {i} hi=>if_neg hi
 have from_:∀ i x,q.names S.next L i=some x→∃ k,q k=some x:=fun i x hx=>by
  by_cases hi:i<S.next
  ·rw [low hi] at hx; exact ⟨i,hx⟩
  ·rw [high hi] at hx
   cases hl:L[i-S.next]? with
   | none=>rw [hl] at hx; cases hx
   | some k=>rw [hl] at hx; exact ⟨k,hx⟩
 have cases2:∀ i b',T.get i=some b'→(i<S.next∧∃ b,s.get i=some b∧TO g b=some b'∧(S.get i=some b→b'=b))∨(S.next≤i∧i<S.next+L.length∧∃ k b,L[i-S.next]? = some k∧s.get k=some b∧TO g b=some b'):=by
  intro i b' hb
  have hb:(Z0 (G1 g S s ids++PQ g s (JW S.next L)) .lf).get i=some b':=by rw [← hT] at hb; exact hb
  rcases List.mem_append.1 (Q9 hb) with h1 | h1
  ·obtain ⟨h2,h3⟩:=G5 h1
   exact .inl ⟨G4 hi i h2,h3⟩
  ·obtain ⟨k,b,h2,h3,h4⟩:=G6 h1
   obtain ⟨h5,h6,h7⟩:=TP h2
   exact .inr ⟨h5,h6,k,b,h7,h3,h4⟩
 have orig:∀ i b' x,T.get i=some b'→q.names S.next L i=some x→∃ k b,s.get k=some b∧q k=some x∧TO g b=some b'∧((i<S.next∧k=i)∨(S.next≤i∧L[i-S.next]? = some k)):=by
  intro i b' x hb hx
  rcases cases2 i b' hb with ⟨h1,b,h2,h3,_⟩ | ⟨h1,_,k,b,h2,h3,h4⟩
  ·rw [low h1] at hx
   exact ⟨i,b,h2,hx,h3,.inl ⟨h1,rfl⟩⟩
  ·rw [high (by omega),h2] at hx
   exact ⟨k,b,h3,hx,h4,.inr ⟨h1,h2⟩⟩
 refine ⟨⟨⟨fun i b' x hb hx => ?_,fun i hi => ?_⟩,fun i j b c x y hb hc hx hy hxy => ?_,fun i x hx => ?_,fun i x g' hx hg' => ?_⟩,fun i x hx => ?_,by omega,h.os,h.tape,h.output,h.size,h.frame,fun i hi hri b hb => ?_,fun i hi hg' => ?_,fun k ⟨i,b,x,hb,hx,hk⟩ => ?_,fun i hri hq => ?_,fun k ⟨i,x,g',hx,hk⟩ => ?_⟩
 ·obtain ⟨k,b,h1,h2,h3,_⟩:=orig i b' x hb hx
  obtain ⟨o,h4,h5⟩:=h.rel.block k b x h1 h2
  exact ⟨o,h4,h5.ren hg h3⟩
 ·cases hb:T.get i with
  | none=>rfl
  | some b' =>
   rw [hTn] at hi
   rcases cases2 i b' hb with ⟨h1,_⟩ | ⟨_,h1,_⟩ <;> omega
 ·obtain ⟨k,b0,h1,h2,_,h3⟩:=orig i b x hb hx
  obtain ⟨m,c0,h4,h5,_,h6⟩:=orig j c y hc hy
  have:=h.rel.apart k m b0 c0 x y h1 h4 h2 h5 hxy
  subst this
  rcases h3 with ⟨h3,h7⟩ | ⟨h3,h7⟩ <;> rcases h6 with ⟨h6,h8⟩ | ⟨h6,h8⟩
  ·omega
  ·have:=PS hge k (List.mem_of_getElem? h8); omega
  ·have:=PS hge k (List.mem_of_getElem? h7); omega
  ·have:=Rz hd _ _ _ h7 h8; omega
 ·rw [hTn]
  by_cases hi:i<S.next
  ·omega
  ·rw [high hi] at hx
   cases hl:L[i-S.next]? with
   | none=>rw [hl] at hx; cases hx
   | some k =>
    have:=(List.getElem?_eq_some_iff.1 hl).1
    omega
 ·obtain ⟨k,hk⟩:=from_ i x hx
  exact (h.rel.safe k x g' hk hg').step (Nat.le_refl _) (fun _ _ _=>rfl) fun k ⟨i,b,x,hb,hx,hk⟩=>by
   obtain ⟨m,b0,h1,h2,_⟩:=orig i b x hb hx
   exact .inl ⟨m,b0,x,h1,h2,hk⟩
 ·rw [low (hr.known i x hx)]
  exact h.le i x hx
 ·rcases cases2 i b hb with ⟨_,b0,h1,_,h3⟩ | ⟨h1,_⟩
  ·have h4:=h.still i hi hri b0 h1
   rw [h3 h4]
   exact h4
  ·omega
 ·cases hb:T.get i with
  | none=>rfl
  | some b' =>
   rcases cases2 i b' hb with ⟨_,b0,h1,_⟩ | ⟨h1,_⟩
   ·rw [h.dead i hi hg'] at h1; cases h1
   ·omega
 ·obtain ⟨m,b0,h1,h2,_⟩:=orig i b x hb hx
  exact h.Xs k ⟨m,b0,x,h1,h2,hk⟩
 ·by_cases hi:i<S.next
  ·rw [low hi] at hq
   exact h.fresh i hri hq
  ·omega
 ·obtain ⟨m,hm⟩:=from_ i x hx
  exact h.Kz k ⟨m,x,g',hm,hk⟩
end Go.Proofs.YtheflbaejhlboaaGreatDoor.Ev
namespace Go.Proofs.YtheflbaejhlboaaGreatDoor.Ev
open Go
variable [Sig] {P:Program}
theorem Yp {cs:List Can}:∀ {l:List (Nat×Zd)} {i:Nat} {b:Zd},(i,b)∈Wa cs l→XE i b cs=true
 | (j,c)::l,i,b,h=>by
  have h:(i,b)∈sel (XE j c cs) ((j,c)::Wa cs l) (Wa cs l):=h
  cases hh:XE j c cs
  ·rw [hh] at h
   exact Yp (l:=l) h
  ·rw [hh] at h
   rcases List.mem_cons.1 h with h | h
   ·cases h; exact hh
   ·exact Yp (l:=l) h
theorem Te {i:Nat} {b:Zd}:∀ {cs:List Can},XE i b cs=true→∀ v post m,Can.mk v post m∈cs→(Z0 post .lf).get i=some b
 | c::cs,h,v,post,m,hm=>by
  obtain ⟨h1,h2⟩:=ZE h
  rcases List.mem_cons.1 hm with hm | hm
  ·subst hm
   have h1:XP b ((Z0 post .lf).get i)=true:=h1
   unfold XP at h1
   split at h1
   ·rename_i c hc; rw [hc,Y7 _ _ h1]
   ·cases h1
  ·exact Te h2 v post m hm
theorem Nv {v:Zc} {m:Nat}:∀ {cs:List Can},DU v m cs=true→∀ c∈cs,∃ post,c = .mk v post m
 | c::cs,h,d,hd=>by
  obtain ⟨h1,h2⟩:=ZE h
  rcases List.mem_cons.1 hd with hd | hd
  ·subst hd
   cases d with
   | bad=>cases h1
   | mk u post n =>
    obtain ⟨h3,h4⟩:=ZE h1
    rw [Qj _ _ h3,ZD h4]
    exact ⟨post,rfl⟩
  ·exact Nv h2 d hd
theorem Nw {S:St} {ids:List Nat}:∀ {l:List R} {y:R},y∈l→ZaQ S ids y∈ZaR S ids l
 | z::l,y,h=>by
  rcases List.mem_cons.1 h with h | h
  ·subst h; exact List.mem_cons_self
  ·exact List.mem_cons_of_mem _ (Nw h)
theorem Zdf {S:St} {ids:List Nat} {y:R} {v':Zc} {post:List (Nat×Zd)} {m:Nat} (h:ZaQ S ids y = .mk v' post m):∃ v s L,y = .ok v s∧Np S.next ids=true∧No S.next L=true∧distinct L=true ∧
  Tc (Wr S.next (Z0 (JW S.next L) .lf)) v=some v'∧post=G1 (Wr S.next (Z0 (JW S.next L) .lf)) S s ids++PQ (Wr S.next (Z0 (JW S.next L) .lf)) s (JW S.next L)∧m=S.next+L.length:=by
 unfold ZaQ at h
 split at h
 ·rename_i v s
  generalize DR ids v s=L at h
  unfold Zhq at h
  rcases Ze h with ⟨h1,h⟩ | ⟨_,h⟩
  ·rcases Ze h with ⟨h2,h⟩ | ⟨_,h⟩
   ·rcases Ze h with ⟨h3,h⟩ | ⟨_,h⟩
    ·unfold Zhp Zho at h
     split at h
     ·rename_i v1 hv1
      cases h
      exact ⟨v,s,L,rfl,h1,h2,h3,hv1,rfl,rfl⟩
     ·cases h
    ·cases h
   ·cases h
  ·cases h
 ·cases h
theorem Zdg {call:Zu} (hcall:ZZ P call) (hdraw:∀ K,Po P call K) {kn:XL} {Zi:YW} {fuel:Nat} {f:FuncId} {fn:Func} {b:Code} (hfn:P.funcs[f]? = some fn) (hname:(fn.name== "runtime.NumGoroutine")=false) (hb:fn.body=some b)
  (hreg:Qq (Um P ⟨fn.ntmps,Zi⟩ kn) b) (hregs:∀ d,Qq (fun _ _ _=>True) d→Qq (Um P ⟨fn.ntmps,Zi⟩ kn) d) {args:List Zc} {s s':St} {v:Zc}
  (h:ZaU P call kn Zi fuel f fn args s fn.body = .ok v s') {r:Rho} {w:World} {us:List Value} (hr:Rel r s w) (hv:VRs r args us) :
  Xt P f ⟨us⟩ w fun u w'=>∃ q,Ext r s w q s' w'∧VR q v u:=by
 rw [hb] at h
 have h:ZaT P call ⟨fn.ntmps,Zi⟩ kn fuel f (Xo P fn.results.toList) b args s (DQ args s) = .ok v s':=h
 generalize DQ args s=ids at h
 unfold ZaT Bf at h
 generalize hS:(⟨Z0 (QX s ids) .lf,s.next⟩:St)=S at h
 have hSn:S.next=s.next:=by rw [← hS]
 have hM:Zv P ⟨fn.ntmps,Zi⟩ b (VZ P call ⟨fn.ntmps,Zi⟩ fuel (exL P call ⟨fn.ntmps,Zi⟩ kn fuel) b):=XR hcall b fun d hd=>Sl hcall (hdraw _) fuel d (hregs d hd)
 generalize VZ P call ⟨fn.ntmps,Zi⟩ fuel (exL P call ⟨fn.ntmps,Zi⟩ kn fuel) b=F at h hM
 generalize hy:F (Km ⟨fn.ntmps,Zi⟩ 0 .lf args) S=ys at h
 have hs:∀ i b,S.get i=some b→s.get i=some b:=fun i b hb=>by rw [← hS] at hb; exact XQ (Q9 hb)
 have hrS:Rel r S w:=hr.some hs hSn
 have hys:∀ y∈ys,∃ v1 s1 L,Y0 (Xo P fn.results.toList) y = .ok v1 s1∧Np S.next ids=true∧No S.next L=true∧distinct L=true∧Tc (Wr S.next (Z0 (JW S.next L) .lf)) v1=some v ∧
   ∃ E:Ent,E.S=S∧E.n=s.next∧s'=E.L5 s∧E.m=S.next+L.length ∧
    ∀ i b,E.S'.get i=some b→(Z0 (G1 (Wr S.next (Z0 (JW S.next L) .lf)) S s1 ids++PQ (Wr S.next (Z0 (JW S.next L) .lf)) s1 (JW S.next L)) .lf).get i=some b:=by
  intro y hmem
  have hc:=Nw (S:=S) (ids:=ids) (Ym (l:=Xo P fn.results.toList) hmem)
  unfold Bc at h
  split at h
  ·rename_i v0 post m l hcs
   rcases Ze h with ⟨hall,h⟩ | ⟨_,h⟩
   ·cases h
    rw [hcs] at hc
    have hex:∃ post',ZaQ S ids (Y0 (Xo P fn.results.toList) y) = .mk v post' m∧Can.mk v post' m∈(Can.mk v post m::l):=by
     rcases List.mem_cons.1 hc with hc' | hc'
     ·exact ⟨post,hc',List.mem_cons_self⟩
     ·obtain ⟨post',h1⟩:=Nv hall _ hc'
      exact ⟨post',h1,h1▸List.mem_cons_of_mem _ hc'⟩
    obtain ⟨post',h1,h2⟩:=hex
    obtain ⟨v1,s1,L,h3,h4,h5,h6,h7,h8,h9⟩:=Zdf h1
    refine ⟨v1,s1,L,h3,h4,h5,h6,h7,⟨f,args,QX s ids,S.next,v,Wa (.mk v post m::l) post,m⟩,?_,hSn,rfl,h9,fun i b hb => ?_⟩
    ·rw [← hS]
     rfl
    ·have:=Te (Yp (Q9 hb)) _ _ _ h2
     rw [h8] at this
     exact this
   ·cases h
  ·cases h
 have hcf:∀ args w,(callFunc f args).run P w = .ok (.enter f args) w:=fun args w=>by
  have hname':fn.name≠ "runtime.NumGoroutine":=by simpa using hname
  simp [callFunc,hfn,hname',hb]
 refine .inr ⟨hcf _ _,?_⟩
 refine calls_of_wp hfn hb (hM _ S (fun y hmem hbad => ?_) r w _ _ hrS (Pq hv) fun x e' s1 hmem q a' w' hx he => ?_)
 ·rw [hy] at hmem
  obtain ⟨v1,s1,L,h1,_⟩:=hys y hmem
  subst hbad
  cases h1
 ·rw [hy] at hmem
  obtain ⟨v1,s2,L,h1,h4,h5,h6,h7,E,g1,g2,g3,g4,g5⟩:=hys _ hmem
  obtain ⟨x',e1,h2,h3,h8⟩:=Pr h1
  cases h2
  obtain ⟨u,h9,h10⟩:=Yj hx.rel he h8
  have hcan:=ZaX hrS hx h4 h5 h6
  have hx':Ext r E.S w (q.names S.next L) E.S' w':=by
   rw [g1]
   exact hcan.forget g5 g4
  have hx2:=hx'.beside hr (by rw [g1]; exact hs) g2
  rw [← g3] at hx2
  have hv2:=h10.ren (G7 q S.next L) h7
  rcases h3 with rfl | rfl
  ·exact ⟨he.defers,u,h9,u,rfl,_,hx2,hv2⟩
  ·exact ⟨he.defers,u,h9,u,rfl,_,hx2,hv2⟩
theorem G8 {B:VO} (hB:J9 P B) (hreg:∀ f id,B.reg f id=none) (M:FuncId→Bool) {call:Zu} (hcall:ZZ P call) (hdraw:∀ K,Po P call K) (fuel:Nat) (orc:FuncId→Option Orc) (horc:∀ f g,orc f=some g→Z4 P f g) :
  ZZ P (fun f args s=>Bg P B M call fuel f args s (orc f)):=by
 intro f args s v s' h r w us hr hv
 have h:Bg P B M call fuel f args s (orc f) = .ok v s':=h
 have hB':J9 P { B with orc:=orc }:=⟨hB.fn,hB.reg,horc⟩
 cases ho:orc f with
 | some g =>
  rw [ho] at h
  exact horc f g ho args s v s' h r w us hr hv
 | none =>
  rw [ho] at h
  have h:sel (M f) (Zet P call (B.reg f) (B.Zi f) fuel f args s (B.fn f)) (TI P call (B.reg f) fuel args s (Zc0 P call (B.Zi f) (B.reg f) (B.fn f))) = .ok v s':=h
  rcases Ze h with ⟨_,h⟩ | ⟨_,h⟩
  ·cases hf:B.fn f with
   | none=>rw [hf] at h; cases h
   | some fn =>
    rw [hf] at h
    have h:ZaU P call (B.reg f) (B.Zi f) fuel f fn args s fn.body = .ok v s':=h
    obtain ⟨hfn,hname⟩:=hB.fn f fn hf
    cases hb:fn.body with
    | none=>rw [hb] at h; cases h
    | some b =>
     have hk:∀ d,Qq (Um P ⟨fn.ntmps,B.Zi f⟩ (B.reg f)) d:=fun d=>Qq.all (fun id ops d g hg=>by rw [hreg] at hg; cases hg) d
     exact Zdg hcall hdraw hfn hname hb (hk b) (fun d _=>hk d) h hr hv
  ·have hs:Pg P { B with orc:=orc } call fuel f args s ((fun _=>none:FuncId→Option Orc) f) = .ok v s':=h
   exact GQ (B:={ B with orc:=fun _=>none }) ⟨hB.fn,hB.reg,fun f g h=>by cases h⟩ hcall hdraw fuel f args s v s' hs r w us hr hv
theorem W4 {B:VO} (hB:J9 P B) (hreg:∀ f id,B.reg f id=none) (hm:P.follows .mixedOrders=true) (M:FuncId→Bool) (fuel:Nat):∀ d,ZZ P (Rw P B M fuel d)
 | 0=>fun f args s v s' h=>by cases h
 | d+1=>G8 hB hreg M (W4 hB hreg hm M fuel d) (fun K=>LZ hm (W4 hB hreg hm M fuel d)) fuel B.orc hB.orc
theorem Qb {B:VO} (hB:J9 P B) (hreg:∀ f id,B.reg f id=none) (hm:P.follows .mixedOrders=true) {M:FuncId→Bool} {fuel d:Nat} {e:Ent} (h:Z3 P B M fuel d e=true):G0 P e:=by
 intro r w us hr hv
 unfold Z3 Zhh at h
 split at h
 ·rename_i v s1 he
  obtain ⟨h1,h⟩:=ZE h
  obtain ⟨h2,h3⟩:=ZE h
  have hc:=G8 hB hreg M (W4 hB hreg hm M fuel d) (fun K=>LZ hm (W4 hB hreg hm M fuel d)) fuel (fun _=>none) (fun f g h=>by cases h) e.f e.args e.S v s1 he r w us hr hv
  refine hc.mono fun u w' ⟨q,h4,h5⟩=>⟨q,h4.forget (fun i b hb=>Y8 h3 i b (Q9 hb)) (Nat.eq_of_beq_eq_true h2).symm,?_⟩
  rw [← Qj _ _ h1]
  exact h5
 ·cases h
end Go.Proofs.YtheflbaejhlboaaGreatDoor.Ev
