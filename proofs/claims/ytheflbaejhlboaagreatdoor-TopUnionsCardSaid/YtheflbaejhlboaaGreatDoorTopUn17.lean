/- A part of the proof of a law of package confluencetop: lemmas, no condition of ours. -/
import Derived.Test.YtheflbaejhlboaaGreatDoorTopUn16
set_option linter.unusedVariables false
set_option linter.unusedSectionVars false
set_option linter.unusedSimpArgs false
namespace Go.Proofs.YtheflbaejhlboaaGreatDoor.Ev
open Go
variable [Sig] {P:Program} {X:Nat→Nat→Prop}
def LQ (ops:Array Oper) (o:Oper):List Tmp:=Pa o.op.operands.toList++YX ops o
def QW (P:Program) (ops:Array Oper) (j:Nat):Prop:=∃ o,ops.toList[j]? = some o∧(KG P o.op).isE=true
structure QM (X:Nat→Nat→Prop) (P:Program) (call:Zu) (K:ZF) (ops:Array Oper) (e0:Env) (vs:List Zc) (st:Nat→St):Prop where
 len:vs.length=ops.toList.length
 step:∀ j o,ops.toList[j]? = some o→∃ v,vs[j]? = some v∧Zep P call K ops e0 j o (JU ops.toList 0 .nil j) (vs.take j).reverse (st j) v (st (j+1))
 back:∀ j o,ops.toList[j]? = some o→∀ e∈o.after.toList,Region.binds .any e=true→e.on<j
 reads:∀ i j o t,ops.toList[j]? = some o→t∈LQ ops o→ZN ops.toList i=some t→(i<j→Xp (Zx ops.toList []) j i)∧(j<i→Xp (Zx ops.toList []) i j)
 writes:∀ i j t,i<j→ZN ops.toList i=some t→ZN ops.toList j=some t→Xp (Zx ops.toList []) j i
 WW:∀ i j,i<j→¬ X i j→QW P ops i→QW P ops j→Xp (Zx ops.toList []) j i
 look:∀ j o v,ops.toList[j]? = some o→KG P o.op = .look→vs[j]? = some v→wanted (vs.take j).reverse e0 (guardOf (Q7 j (JU ops.toList 0 .nil j)) ops o) = .yes →
  ∀ p,(p=ops.toList.length∨QW P ops p)→(∀ i,QW P ops i→Xp (Zx ops.toList []) j i→i<p)→(∀ i,QW P ops i→i<p→¬ Xp (Zx ops.toList []) i j) →
   ∃ s',(comp (Q7 j (JU ops.toList 0 .nil j)) P call o.op).run (vs.take j).reverse e0 (st p) = .ok v s'
theorem Pw {n:Nat}:∀ {l:List Nat},Wv n l=true↔n∈l
 | []=>by simp [Wv]
 | m::l=>by
  rw [YU]
  simp
theorem C8 {o:Option Tmp} {l:List Tmp}:inO o l=true↔∃ t,o=some t∧t∈l:=by
 cases o with
 | none=>simp [inO]
 | some t=>simp [inO,Pw]
theorem LR {x y:DI} {t:Tmp} (h:x.dst=some t) (hm:t∈y.names):J4 x y=true:=by
 unfold J4
 rw [show inO x.dst y.names=true from C8.2 ⟨t,h,hm⟩]
 rfl
theorem LU {x y:DI} {t:Tmp} (h:y.dst=some t) (hm:t∈x.names):J4 x y=true:=by
 unfold J4
 rw [show inO y.dst x.names=true from C8.2 ⟨t,h,hm⟩]
 cases inO x.dst y.names <;> rfl
theorem LV {x y:DI} {t:Tmp} (h:x.dst=some t) (k:y.dst=some t):J4 x y=true:=by
 unfold J4
 have:Zaq x.dst y.dst=true:=by rw [h,k]; exact Uj
 rw [this]
 cases inO x.dst y.names <;> cases inO y.dst x.names <;> rfl
theorem Px {x y:DI} (h:x.eff=true) (k:y.eff=true):J4 x y=true:=by
 unfold J4
 rw [h,k]
 cases inO x.dst y.names <;> cases inO y.dst x.names <;> cases Zaq x.dst y.dst <;> rfl
theorem Yl {i:Nat}:∀ {es:List Edge},YZ i es=true→∀ e∈es,Region.binds .any e=true→e.on<i
 | [],_,_,h,_=>by cases h
 | e::es,h,e',he,hb=>by
  simp only [YZ] at h
  rcases Ze h with ⟨h1,h2⟩ | ⟨h1,h2⟩
  ·rcases Ze h2 with ⟨h3,h4⟩ | ⟨_,h4⟩
   ·rcases List.mem_cons.1 he with rfl | he
    ·exact Qy h3
    ·exact Yl h4 e' he hb
   ·cases h4
  ·rcases List.mem_cons.1 he with rfl | he
   ·rw [h1] at hb; cases hb
   ·exact Yl h2 e' he hb
theorem M9:∀ (l:List Oper) (i:Nat),Yh l i=true→∀ k o,l[k]? = some o→∀ e∈o.after.toList,Region.binds .any e=true→e.on<i+k
 | [],_,_,k,o,h,_,_,_=>by simp at h
 | x::l,i,h,k,o,hk,e,he,hb=>by
  simp only [Yh] at h
  rcases Ze h with ⟨h1,h2⟩ | ⟨_,h2⟩
  ·cases k with
   | zero=>cases hk; rw [Nat.add_zero]; exact Yl h1 e he hb
   | succ k =>
    have:=M9 l (i+1) h2 k o hk e he hb
    omega
  ·cases h2
theorem Py {f:St→R} {v:Zc} {lo hi:Nat}:∀ (ss:List St) (m:Nat),looksAt f v lo hi ss m=true→∀ k s,ss[k]? = some s→lo≤m+k→m+k≤hi→∃ s',f s = .ok v s'
 | [],_,_,k,s,h,_,_=>by simp at h
 | t::ss,m,h,k,s,hk,h1,h2=>by
  simp only [looksAt] at h
  cases k with
  | zero =>
   cases hk
   have hc:Bool.and (Nat.ble lo m) (Nat.ble m hi)=true:=by
    rw [Bool.and_eq_true]
    exact ⟨Nat.ble_eq_true_of_le h1,Nat.ble_eq_true_of_le h2⟩
   rw [hc] at h
   have h:sel (Zar v (f t)) (looksAt f v lo hi ss (m+1)) false=true:=h
   rcases Ze h with ⟨h3,_⟩ | ⟨_,h3⟩
   ·unfold Zar at h3
    split at h3
    ·rename_i u s' hf
     rw [← Qj _ _ h3]
     exact ⟨s',hf⟩
    ·cases h3
   ·cases h3
  | succ k =>
   have hn:looksAt f v lo hi ss (m+1)=true:=by
    rcases Ze h with ⟨_,h3⟩ | ⟨_,h3⟩
    ·rcases Ze h3 with ⟨_,h4⟩ | ⟨_,h4⟩
     ·exact h4
     ·cases h4
    ·exact h3
   exact Py ss (m+1) hn k s hk (by omega) (by omega)
theorem GV {call:Zu} {K:ZF} {ops:Array Oper} {dis:List DI} {e0:Env} {SS:List St}:∀ (rest:List Oper) (ds:List DI) (n:Nat) (al:Al) (vs l:List Zc),ds.length=rest.length →
  looks e0 SS (Qi P call K ops dis rest ds n al) vs l=true →
  ∀ k o v d,rest[k]? = some o→vs[k]? = some v→ds[k]? = some d→d.look=true→Qr K o=true →
   wanted ((vs.take k).reverse++l) e0 (guardOf (Q7 (n+k) (JU rest n al k)) ops o) = .yes →
   looksAt ((comp (Q7 (n+k) (JU rest n al k)) P call o.op).run ((vs.take k).reverse++l) e0) v (Pd d.bf dis 0) (Pe (n+k) dis) SS 0=true
 | [],_,_,_,_,_,_,_,k,o,_,_,h,_,_,_,_,_=>by simp at h
 | x::rest,[],n,al,vs,l,h,_,_,_,_,_,_,_,_,_,_,_=>by cases h
 | x::rest,d::ds,n,al,[],l,hl,h,k,o,v,d',hk,hv,_,_,_,_=>by simp at hv
 | x::rest,d::ds,n,al,u::vs,l,hl,h,k,o,v,d',hk,hv,hd,hlk,hdi,hw=>by
  have h:sel d.look (sel (Zas l e0 u (Pd d.bf dis 0) (Pe n dis) SS (VW P call K ops n al x)) (looks e0 SS (Qi P call K ops dis rest ds (n+1) (Qa n al x)) vs (u::l)) false)
   (looks e0 SS (Qi P call K ops dis rest ds (n+1) (Qa n al x)) vs (u::l))=true:=h
  cases k with
  | zero =>
   cases hk
   cases hv
   cases hd
   rw [hlk] at h
   have h:sel (Zas l e0 u (Pd d.bf dis 0) (Pe n dis) SS (VW P call K ops n al x)) (looks e0 SS (Qi P call K ops dis rest ds (n+1) (Qa n al x)) vs (u::l)) false=true:=h
   rcases Ze h with ⟨h1,_⟩ | ⟨_,h1⟩
   ·unfold VW at h1
    rw [hdi] at h1
    have h1:@Wt.rec (fun _=>Bool) (looksAt ((comp (Q7 n al) P call x.op).run l e0) u (Pd d.bf dis 0) (Pe n dis) SS 0) true false (wanted l e0 (guardOf (Q7 n al) ops x))=true:=h1
    have hw:wanted l e0 (guardOf (Q7 n al) ops x) = .yes:=hw
    rw [hw] at h1
    exact h1
   ·cases h1
  | succ k =>
   have hn:looks e0 SS (Qi P call K ops dis rest ds (n+1) (Qa n al x)) vs (u::l)=true:=by
    rcases Ze h with ⟨_,h3⟩ | ⟨_,h3⟩
    ·rcases Ze h3 with ⟨_,h4⟩ | ⟨_,h4⟩
     ·exact h4
     ·cases h4
    ·exact h3
   have e1:n+1+k=n+(k+1):=by omega
   have e2:(vs.take k).reverse++(u::l)=((u::vs).take (k+1)).reverse++l:=by simp
   have:=GV rest ds (n+1) (Qa n al x) vs (u::l) (by simpa using hl) hn k o v d' hk hv hd hlk hdi (by rw [e1,e2]; exact hw)
   rw [e1,e2] at this
   exact this
theorem ZaG (ops:List Oper) {j:Nat} (h:j<ops.length):∃ b,(Zx ops [])[j]? = some b:=by
 obtain ⟨t,h1,h2⟩:=Vx ops []
 rw [h1,List.nil_append]
 exact ⟨t[j],List.getElem?_eq_getElem (by omega)⟩
theorem Pz (ops:List Oper):(Zx ops []).length=ops.length:=by
 obtain ⟨t,h1,h2⟩:=Vx ops []
 rw [h1,List.nil_append,h2]
theorem Na {x y:DI} (h:J4 x (MD y)=true):J4 x y=true:=by
 unfold J4 at h ⊢
 have e1:(MD y).names=y.names:=rfl
 have e2:(MD y).dst=y.dst:=rfl
 have e3:(MD y).eff=false:=rfl
 rw [e1,e2,e3] at h
 rcases Ze h with ⟨g,_⟩ | ⟨g,h⟩
 ·rw [g]; rfl
 ·rw [g]
  rcases Ze h with ⟨g,_⟩ | ⟨g,h⟩
  ·rw [g]; rfl
  ·rw [g]
   rcases Ze h with ⟨g,_⟩ | ⟨g,h⟩
   ·rw [g]; rfl
   ·rw [Bool.and_false] at h; cases h
theorem Nb {call:Zu} {K:ZF} {ops:Array Oper} {e0 e':Env} {s s':St} {x:Ex} {dis:List DI} (hdis:QH P ops ops.toList (Zx ops.toList [])=dis) {L:List Zc} {E:Env} {S:St} {SS:List St}
  (hr:MC e0 (Qi P call K ops dis ops.toList dis 0 .nil) [] e0 s [] = .ok L E S SS) (h:Pf e0 (Qi P call K ops dis ops.toList dis 0 .nil) (.ok L E S SS) = .ok x e' s') (hback:Yh ops.toList 0=true)
  (hcl0:∀ i j x y,i<j→dis[i]? = some x→dis[j]? = some y→J4 x (MD y)=true→Nat.testBit y.bf i=true)
  (hef0:∀ i j x y,i<j→¬ X i j→dis[i]? = some x→dis[j]? = some y→x.eff=true→y.eff=true→Nat.testBit y.bf i=true) :
  x = .normal∧∃ (vs:List Zc) (st:Nat→St),QM X P call K ops e0 vs st∧st 0=s∧st ops.toList.length=s'∧e'=Q8 K ops.toList vs e0∧vs=L.reverse:=by
 have hbl:=Pz ops.toList
 have hdl:=K8 (P:=P) (ops:=ops) ops.toList (Zx ops.toList []) hbl
 rw [hdis] at hdl
 have h:sel (looks e0 ((S::SS).reverse) (Qi P call K ops dis ops.toList dis 0 .nil) L.reverse []) (Res.ok .normal E S) .bad = .ok x e' s':=h
 cases hl:looks e0 ((S::SS).reverse) (Qi P call K ops dis ops.toList dis 0 .nil) L.reverse []
 ·rw [hl] at h; cases h
 ·rw [hl] at h
  cases h
  obtain ⟨vs,sts,h1,h2,h3,h4,h5,h6,h7⟩:=trace ops.toList dis 0 .nil [] L e0 e' s s' [] SS hdl hr
  rw [List.append_nil] at h3 h5
  rw [h3,List.reverse_reverse] at hl
  have hss:(s'::SS).reverse=XN dis sts++[s']:=by rw [List.reverse_cons,h5,List.reverse_reverse]
  rw [hss] at hl
  have hdi:∀ j o,ops.toList[j]? = some o→∃ b,(Zx ops.toList [])[j]? = some b∧dis[j]? = some (Pb P ops o b):=fun j o hj=>by
   obtain ⟨b,hb⟩:=ZaG ops.toList (List.getElem?_eq_some_iff.1 hj).1
   refine ⟨b,hb,?_⟩
   rw [← hdis]
   exact Pv ops.toList _ j hj hb
  have hcl:∀ i j oi oj bi bj,i<j→ops.toList[i]? = some oi→ops.toList[j]? = some oj→dis[i]? = some (Pb P ops oi bi)→dis[j]? = some (Pb P ops oj bj)→(Zx ops.toList [])[j]? = some bj →
    J4 (Pb P ops oi bi) (MD (Pb P ops oj bj))=true→Xp (Zx ops.toList []) j i:=fun i j oi oj bi bj hij _ _ hi hj hb hc =>
   ⟨bj,hb,hcl0 i j _ _ hij hi hj hc⟩
  have dstop:∀ {i t},ZN ops.toList i=some t→∃ o,ops.toList[i]? = some o∧o.dst=some t:=fun {i t} hd=>by
   unfold ZN at hd
   rw [Option.bind_eq_some_iff] at hd
   exact hd
  refine ⟨rfl,vs,fun j=>((sts++[s'])[j]?).getD s',⟨h1,fun j o hj => ?_,fun j o hj e he hb => ?_,fun i j o t hj ht hd => ?_,fun i j t hij hi hj => ?_,fun i j hij hX hi hj => ?_,?_⟩,?_,?_,h4,by rw [h3,List.reverse_reverse]⟩
  ·obtain ⟨v,s1,s2,g1,g2,g3,g4⟩:=h7 j o hj
   rw [List.append_nil,Nat.zero_add] at g4
   refine ⟨v,g1,?_⟩
   have e1:(sts++[s'])[j]? = some s1:=by
    rw [List.getElem?_append_left (List.getElem?_eq_some_iff.1 g2).1]
    exact g2
   simp only [e1,g3,Option.getD_some]
   exact g4
  ·have:=M9 ops.toList 0 hback j o hj e he hb
   omega
  ·obtain ⟨oi,hi,hdi'⟩:=dstop hd
   obtain ⟨bi,hbi,hdii⟩:=hdi i oi hi
   obtain ⟨bj,hbj,hdij⟩:=hdi j o hj
   exact ⟨fun hij=>hcl i j oi o bi bj hij hi hj hdii hdij hbj (LR (t:=t) hdi' ht),fun hji=>hcl j i o oi bj bi hji hj hi hdij hdii hbi (LU (t:=t) hdi' ht)⟩
  ·obtain ⟨oi,hi,hdi'⟩:=dstop hi
   obtain ⟨oj,hj,hdj'⟩:=dstop hj
   obtain ⟨bi,hbi,hdii⟩:=hdi i oi hi
   obtain ⟨bj,hbj,hdij⟩:=hdi j oj hj
   exact hcl i j oi oj bi bj hij hi hj hdii hdij hbj (LV (t:=t) hdi' hdj')
  ·obtain ⟨oi,hi,hei⟩:=hi
   obtain ⟨oj,hj,hej⟩:=hj
   obtain ⟨bi,hbi,hdii⟩:=hdi i oi hi
   obtain ⟨bj,hbj,hdij⟩:=hdi j oj hj
   exact ⟨bj,hbj,hef0 i j _ _ hij hX hdii hdij hei hej⟩
  ·intro j o v hj hk hv hw p hp hlo hhi
   obtain ⟨b,hb,hd⟩:=hdi j o hj
   obtain ⟨v',g1,hst⟩:=h7 j o hj
   have hdin:Qr K o=true:=by
    obtain ⟨_,_,_,_,g⟩:=hst
    exact g.1
   have hla:=GV ops.toList dis 0 .nil vs [] hdl hl j o v _ hj hv hd (by show (KG P o.op).isL=true; rw [hk]; rfl) hdin (by rw [List.append_nil,Nat.zero_add]; exact hw)
   rw [List.append_nil,Nat.zero_add] at hla
   have opOf:∀ {k y},dis[k]? = some y→∃ o b,ops.toList[k]? = some o∧(Zx ops.toList [])[k]? = some b∧y=Pb P ops o b:=fun {k y} hy=>by
    have hkl:k<ops.toList.length:=by
     rw [← hdl]
     exact (List.getElem?_eq_some_iff.1 hy).1
    obtain ⟨b,hb,hd⟩:=hdi k _ (List.getElem?_eq_getElem hkl)
    rw [hd] at hy
    cases hy
    exact ⟨_,b,List.getElem?_eq_getElem hkl,hb,rfl⟩
   have hat:=GU s' dis sts p (by rw [hdl,h2]) (by
    rcases hp with rfl | ⟨o',g1,g2⟩
    ·exact .inl hdl.symm
    ·obtain ⟨b',_,g3⟩:=hdi p o' g1
     exact .inr ⟨_,g3,g2⟩)
   have hpl:p≤ops.toList.length:=by
    rcases hp with rfl | ⟨o',g1,_⟩
    ·exact Nat.le_refl _
    ·exact Nat.le_of_lt (List.getElem?_eq_some_iff.1 g1).1
   have hsp:(sts++[s'])[p]? = some (((sts++[s'])[p]?).getD s'):=by
    rw [List.getElem?_eq_getElem (by rw [List.length_append,h2,List.length_singleton]; omega)]
    rfl
   rw [hsp] at hat
   refine Py _ 0 hla (cnt dis p) _ hat ?_ ?_
   ·rw [Nat.zero_add]
    refine lo_le b dis 0 p fun k y hy he htb => ?_
    obtain ⟨o',b',g1,g2,rfl⟩:=opOf hy
    rw [Nat.zero_add] at htb
    exact hlo k ⟨o',g1,he⟩ ⟨b,hb,htb⟩
   ·rw [Nat.zero_add]
    refine Zeq j dis p fun k y hy hkp he => ?_
    obtain ⟨o',b',g1,g2,rfl⟩:=opOf hy
    cases htb:Nat.testBit (Pb P ops o' b').bf j
    ·rfl
    ·exact absurd ⟨b',g2,htb⟩ (hhi k ⟨o',g1,he⟩ hkp)
  ·simp only [h6]
   rfl
  ·have:(sts++[s'])[ops.toList.length]? = some s':=by rw [← h2,List.getElem?_append_right (Nat.le_refl _)]; simp
   simp only [this]
   rfl
theorem Zc7 {call:Zu} {K:ZF} {ops:Array Oper} {e0 e':Env} {s s':St} {x:Ex} (hg:GI P ops (QH P ops ops.toList (Zx ops.toList []))=true)
  (h:Sj (Qi P call K ops (QH P ops ops.toList (Zx ops.toList [])) ops.toList (QH P ops ops.toList (Zx ops.toList [])) 0 .nil) e0 s = .ok x e' s') :
  x = .normal∧∃ (vs:List Zc) (st:Nat→St),QM (fun _ _=>False) P call K ops e0 vs st∧st 0=s∧st ops.toList.length=s'∧e'=Q8 K ops.toList vs e0:=by
 generalize hdis:QH P ops ops.toList (Zx ops.toList [])=dis at h hg
 have h:Pf e0 (Qi P call K ops dis ops.toList dis 0 .nil) (MC e0 (Qi P call K ops dis ops.toList dis 0 .nil) [] e0 s []) = .ok x e' s':=h
 have hgood:Yh ops.toList 0=true∧Vs [] dis=true:=by
  unfold GI at hg
  rcases Ze hg with ⟨g1,g2⟩ | ⟨_,g2⟩
  ·exact ⟨g1,g2⟩
  ·cases g2
 have hcl:∀ i j x y,i<j→dis[i]? = some x→dis[j]? = some y→J4 x y=true→Nat.testBit y.bf i=true:=fun i j x y hij hi hj hc =>
  XO dis [] hgood.2 j _ hj i _ (by rw [List.nil_append]; exact hi) (by simpa using hij) hc
 cases hr:MC e0 (Qi P call K ops dis ops.toList dis 0 .nil) [] e0 s [] with
 | bad=>rw [hr] at h; cases h
 | ok L E S SS =>
  rw [hr] at h
  obtain ⟨h1,vs,st,h2,h3,h4,h5,_⟩:=Nb (X:=fun _ _=>False) hdis hr h hgood.1 (fun i j x y hij hi hj hc=>hcl i j x y hij hi hj (Na hc))
   (fun i j x y hij _ hi hj hx hy=>hcl i j x y hij hi hj (Px hx hy))
  exact ⟨h1,vs,st,h2,h3,h4,h5⟩
end Go.Proofs.YtheflbaejhlboaaGreatDoor.Ev
namespace Go.Proofs.YtheflbaejhlboaaGreatDoor.Ev
open Go
variable [Sig] {P:Program} {X:Nat→Nat→Prop}
def Rho.Qt (r:Rho) (n:Nat):Rho:=fun i=>if i<n then r i else none
theorem Rho.XD {r:Rho} {n i:Nat} {x:RB} (h:r.Qt n i=some x):i<n∧r i=some x:=by
 unfold Rho.Qt at h
 split at h
 ·rename_i hi; exact ⟨hi,h⟩
 ·cases h
theorem Rho.Qf {r:Rho} {n i:Nat} (h:i<n):r.Qt n i=r i:=if_pos h
theorem Rho.Xi {r:Rho} {n i:Nat} (h:n≤i):r.Qt n i=none:=if_neg (by omega)
theorem Rho.Y5 {r q:Rho} {n m:Nat} (h:r.le q) (hn:n≤m):(r.Qt n).le (q.Qt m):=fun i x hx=>by
 obtain ⟨h1,h2⟩:=Rho.XD hx
 rw [Rho.Qf (Nat.lt_of_lt_of_le h1 hn)]
 exact h i x h2
theorem Rho.LW {r:Rho} {n:Nat} (h:∀ i x,r i=some x→i<n):r.Qt n=r:=by
 funext i
 by_cases hi:i<n
 ·exact Rho.Qf hi
 ·rw [Rho.Xi (by omega)]
  cases e:r i with
  | none=>rfl
  | some x=>exact absurd (h i x e) hi
theorem Rho.C9 {r:Rho} {n m:Nat} {x:RB} (h:n<m):(r.at n x).Qt m=(r.Qt m).at n x:=by
 funext i
 by_cases hi:i=n
 ·subst hi
  rw [Rho.Qf h,Rho.Zo,Rho.Zo]
 ·rw [Rho.Zy _ x hi]
  unfold Rho.Qt
  rw [Rho.Zy r x hi]
theorem Rho.DN {r:Rho} {n m:Nat} {x:RB} (h:m≤n):(r.at n x).Qt m=r.Qt m:=by
 funext i
 by_cases hi:i<m
 ·rw [Rho.Qf hi,Rho.Qf hi,Rho.Zy _ x (by omega)]
 ·rw [Rho.Xi (by omega),Rho.Xi (by omega)]
theorem Rho.Nc {r:Rho} {n:Nat} {x:RB} (h:r n=some x):r.Qt (n+1)=(r.Qt n).at n x:=by
 funext i
 by_cases hi:i=n
 ·subst hi
  rw [Rho.Qf (Nat.lt_succ_self _),Rho.Zo,h]
 ·rw [Rho.Zy _ x hi]
  by_cases h1:i<n
  ·rw [Rho.Qf h1,Rho.Qf (by omega)]
  ·rw [Rho.Xi (by omega),Rho.Xi (by omega)]
theorem Rho.Uq {r:Rho} {n:Nat} (h:r n=none):r.Qt (n+1)=r.Qt n:=by
 funext i
 by_cases hi:i=n
 ·subst hi
  rw [Rho.Qf (Nat.lt_succ_self _),Rho.Xi (Nat.le_refl _),h]
 ·by_cases h1:i<n
  ·rw [Rho.Qf h1,Rho.Qf (by omega)]
  ·rw [Rho.Xi (by omega),Rho.Xi (by omega)]
theorem Rho.PA {r q:Rho} {n:Nat} {x:RB} (h:r.le q):(r.at n x).le (q.at n x):=fun i y hy=>by
 by_cases hi:i=n
 ·subst hi; rw [Rho.Zo] at hy ⊢; exact hy
 ·rw [Rho.Zy _ x hi] at hy ⊢; exact h i y hy
section
variable {r0 q:Rho} {s0 s:St} {w0 w w':World}
theorem Ext.grow (h:Ext r0 s0 w0 q s w) (hf:∀ k,k<w.heap.size→w'.heap[k]? = w.heap[k]?) (hs:w.heap.size≤w'.heap.size) (ho:w'.os=w.os) (ht:w'.tape=w.tape) (hp:w'.output=w.output) :
  Ext r0 s0 w0 q s w' where
 rel:=by
  refine ⟨⟨fun i b x hb hx => ?_,h.rel.far⟩,h.rel.apart,h.rel.known,fun i x g hx hg=>(h.rel.safe i x g hx hg).step hs (fun k hk _=>hf k hk) fun k hk => .inl hk⟩
  obtain ⟨o,h1,h2⟩:=h.rel.block i b x hb hx
  exact ⟨o,by rw [hf _ (Array.getElem?_eq_some_iff.1 h1).1]; exact h1,h2⟩
 le:=h.le
 next:=h.next
 os:=ho.trans h.os
 tape:=ht.trans h.tape
 output:=hp.trans h.output
 size:=Nat.le_trans h.size hs
 frame:=fun k hk hn=>(hf k (Nat.lt_of_lt_of_le hk h.size)).trans (h.frame k hk hn)
 still:=h.still
 dead:=h.dead
 Xs:=h.Xs
 fresh:=h.fresh
 Kz:=h.Kz
theorem Ext.born (h:Ext r0 s0 w0 q s w) {n:Nat} {b:Zd} {y:RB} {o:Obj} (hq:q n=none) (hb:∀ c,s.get n=some c→c=b) (hns:n<s.next) (hn:s0.next≤n) (hy:w.heap.size≤y.blk) (hu:w'.heap[y.blk]? = some o) (hr:BR (q.at n y) b y o)
  (hf:∀ k,k<w.heap.size→w'.heap[k]? = w.heap[k]?) (hs:w.heap.size≤w'.heap.size) (ho:w'.os=w.os) (ht:w'.tape=w.tape) (hp:w'.output=w.output) (hgn:y.gho=none:=by rfl):Ext r0 s0 w0 (q.at n y) s w':=by
 have h1:=h.grow hf hs ho ht hp
 have hle:=q.JL y hq
 have blk:∀ {i c x},s.get i=some c→q i=some x→x.blk<w.heap.size:=fun {i c x} hc hx=>by
  obtain ⟨o',g1,_⟩:=h.rel.block i c x hc hx
  exact (Array.getElem?_eq_some_iff.1 g1).1
 refine ⟨⟨⟨fun i c x hc hx => ?_,h.rel.far⟩,fun i j c d x z hc hd hx hz hxz => ?_,fun i x hx => ?_,fun i x g hx hg => ?_⟩,Rho.le_trans h.le hle,h1.next,h1.os,h1.tape,h1.output,h1.size,h1.frame,h1.still,h1.dead,fun k ⟨i,c,x,hc,hx,hk⟩ => ?_,fun i hi hne => ?_,fun k hk=>h.Kz k (hk.Vm hgn)⟩
 ·by_cases hi:i=n
  ·subst hi
   rw [Rho.Zo] at hx
   cases hx
   rw [hb c hc]
   exact ⟨o,hu,hr⟩
  ·rw [Rho.Zy _ y hi] at hx
   obtain ⟨o',g1,g2⟩:=h1.rel.block i c x hc hx
   exact ⟨o',g1,g2.mono hle⟩
 ·by_cases hi:i=n <;> by_cases hj:j=n
  ·rw [hi,hj]
  ·subst hi
   rw [Rho.Zo] at hx
   cases hx
   rw [Rho.Zy _ y hj] at hz
   have:=blk hd hz
   omega
  ·subst hj
   rw [Rho.Zo] at hz
   cases hz
   rw [Rho.Zy _ y hi] at hx
   have:=blk hc hx
   omega
  ·rw [Rho.Zy _ y hi] at hx
   rw [Rho.Zy _ y hj] at hz
   exact h.rel.apart i j c d x z hc hd hx hz hxz
 ·by_cases hi:i=n
  ·subst hi; exact hns
  ·rw [Rho.Zy _ y hi] at hx
   exact h.rel.known i x hx
 ·by_cases hi:i=n
  ·subst hi
   rw [Rho.Zo] at hx
   cases hx
   rw [hgn] at hg
   cases hg
  ·rw [Rho.Zy _ y hi] at hx
   refine (h.rel.safe i x g hx hg).step hs (fun k hk _=>hf k hk) fun k ⟨i,c,x,hc,hx,hk⟩ => ?_
   by_cases hi:i=n
   ·subst hi
    rw [Rho.Zo] at hx
    cases hx
    exact .inr (by omega)
   ·rw [Rho.Zy _ y hi] at hx
    exact .inl ⟨i,c,x,hc,hx,hk⟩
 ·by_cases hi:i=n
  ·subst hi
   rw [Rho.Zo] at hx
   cases hx
   have:=h.size
   exact .inr (by omega)
  ·rw [Rho.Zy _ y hi] at hx
   exact h.Xs k ⟨i,c,x,hc,hx,hk⟩
 ·by_cases hin:i=n
  ·subst hin; exact hn
  ·rw [Rho.Zy _ y hin] at hne
   exact h.fresh i hi hne
theorem Ext.skip (h:Ext r0 s0 w0 q s w) (b:Zd):Ext r0 s0 w0 q (s.new b) w:=by
 have hn:=h.rel.Z7 (Nat.le_refl s.next)
 have back:∀ {i c x},(s.new b).get i=some c→q i=some x→s.get i=some c:=fun {i c x} hc hx=>by
  rw [St.ZB] at hc
  by_cases hi:s.next=i
  ·subst hi; rw [hn] at hx; cases hx
  ·rw [if_neg hi] at hc; exact hc
 refine ⟨⟨⟨fun i c x hc hx=>h.rel.block i c x (back hc hx) hx,fun i hi => ?_⟩,fun i j c d x z hc hd hx hz=>h.rel.apart i j c d x z (back hc hx) (back hd hz) hx hz,fun i x hx => ?_,fun i x g hx hg=>(h.rel.safe i x g hx hg).step (Nat.le_refl _) (fun _ _ _=>rfl) fun k ⟨i,c,x,hc,hx,hk⟩ => .inl ⟨i,c,x,back hc hx,hx,hk⟩⟩,h.le,?_,h.os,h.tape,h.output,h.size,h.frame,fun i hi hr d hd => ?_,fun i hi hg => ?_,fun k ⟨i,c,x,hc,hx,hk⟩=>h.Xs k ⟨i,c,x,back hc hx,hx,hk⟩,h.fresh,h.Kz⟩
 ·rw [St.Qg] at hi
  rw [St.ZB,if_neg (by omega)]
  exact h.rel.far i (by omega)
 ·rw [St.Qg]
  have:=h.rel.known i x hx
  omega
 ·rw [St.Qg]
  have:=h.next
  omega
 ·have:=h.next
  rw [St.ZB,if_neg (by omega)] at hd
  exact h.still i hi hr d hd
 ·have:=h.next
  rw [St.ZB,if_neg (by omega)]
  exact h.dead i hi hg
theorem Ext.Zfs (h:Ext r0 s0 w0 q s w) {b:Zd} {x:RB} {o:Obj} (hx:w.heap[x.blk]? = some o) (hr:BR (q.at s.next x) b x o) (hh:¬ Hit q s x.blk) (h0:w0.heap.size≤x.blk) (hgn:x.gho=none) (hft:¬ JZ q x.blk):Ext r0 s0 w0 (q.at s.next x) (s.new b) w:=by
 have hn:=h.rel.Z7 (Nat.le_refl s.next)
 have hle:=q.JL x hn
 have h1:=h.skip b
 have back:∀ {i c z},(s.new b).get i=some c→(q.at s.next x) i=some z→(i=s.next∧c=b∧z=x)∨(i≠s.next∧s.get i=some c∧q i=some z):=fun {i c z} hc hz=>by
  rw [St.ZB] at hc
  by_cases hi:s.next=i
  ·subst hi
   rw [if_pos rfl] at hc
   cases hc
   rw [Rho.Zo] at hz
   cases hz
   exact .inl ⟨rfl,rfl,rfl⟩
  ·rw [if_neg hi] at hc
   rw [Rho.Zy _ x (Ne.symm hi)] at hz
   exact .inr ⟨Ne.symm hi,hc,hz⟩
 refine ⟨⟨⟨fun i c z hc hz => ?_,h1.rel.far⟩,fun i j c d y z hc hd hy hz hyz => ?_,fun i z hz => ?_,fun i z g hz hg => ?_⟩,Rho.le_trans h.le hle,h1.next,h1.os,h1.tape,h1.output,h1.size,h1.frame,h1.still,h1.dead,fun k ⟨i,c,z,hc,hz,hk⟩ => ?_,fun i hi hne => ?_,fun k hk=>h.Kz k (hk.Vm hgn)⟩
 ·rcases back hc hz with ⟨rfl,rfl,rfl⟩ | ⟨g1,g2,g3⟩
  ·exact ⟨o,hx,hr⟩
  ·obtain ⟨o',g4,g5⟩:=h.rel.block i c z g2 g3
   exact ⟨o',g4,g5.mono hle⟩
 ·rcases back hc hy with ⟨rfl,rfl,rfl⟩ | ⟨g1,g2,g3⟩ <;> rcases back hd hz with ⟨rfl,rfl,rfl⟩ | ⟨k1,k2,k3⟩
  ·rfl
  ·exact absurd ⟨j,d,z,k2,k3,hyz.symm⟩ hh
  ·exact absurd ⟨i,c,y,g2,g3,hyz⟩ hh
  ·exact h.rel.apart i j c d y z g2 k2 g3 k3 hyz
 ·rw [St.Qg]
  by_cases hi:i=s.next
  ·omega
  ·rw [Rho.Zy _ x hi] at hz
   have:=h.rel.known i z hz
   omega
 ·by_cases hi:i=s.next
  ·subst hi
   rw [Rho.Zo] at hz
   cases hz
   rw [hgn] at hg
   cases hg
  ·rw [Rho.Zy _ x hi] at hz
   obtain ⟨g1,g2⟩:=h.rel.safe i z g hz hg
   refine ⟨g1,fun k hk hl=>⟨(g2 k hk hl).1,fun ⟨j,c,y,hc,hy,hjk⟩ => ?_⟩⟩
   rcases back hc hy with ⟨rfl,rfl,rfl⟩ | ⟨k1,k2,k3⟩
   ·subst hjk
    exact hft ⟨i,z,g,hz,hg,hk,hl⟩
   ·exact (g2 k hk hl).2 ⟨j,c,y,k2,k3,hjk⟩
 ·rcases back hc hz with ⟨rfl,rfl,rfl⟩ | ⟨g1,g2,g3⟩
  ·exact .inr (by omega)
  ·exact h.Xs k ⟨i,c,z,g2,g3,hk⟩
 ·by_cases hin:i=s.next
  ·rw [hin]; exact h.next
  ·rw [Rho.Zy _ x hin] at hne
   exact h.fresh i hi hne
end
end Go.Proofs.YtheflbaejhlboaaGreatDoor.Ev
namespace Go.Proofs.YtheflbaejhlboaaGreatDoor.Ev
open Go
variable [Sig] {P:Program} {X:Nat→Nat→Prop}
mutual
theorem VR.low {r:Rho} {n:Nat}:∀ {v:Zc} {u:Value},VR r v u→RW n v=true→VR (r.Qt n) v u
 | _,_,.bool b,_ => .bool b
 | _,_,.int k m,_ => .int k m
 | _,_,.flt k b,_ => .flt k b
 | _,_,.ZW k a b,_ => .ZW k a b
 | _,_,.str l,_ => .str l
 | _,_,.Zh,_ => .Zh
 | _,_,.ptr h,hl => .ptr (by rw [Rho.Qf (Qy hl)]; exact h)
 | _,_,.Za,_ => .Za
 | _,_,.ZX a c,_ => .ZX a c
 | _,_,.slice h hn hc hu,hl => .slice (by rw [Rho.Qf (Qy hl)]; exact h) hn hc hu
 | _,_,.Zk,_ => .Zk
 | _,_,.map h,hl => .map (by rw [Rho.Qf (Qy hl)]; exact h)
 | .func f a b,_,.func _ ha hb,hl=>by
  have hl:Bool.and (WU n a) (WU n b)=true:=hl
  rw [Bool.and_eq_true] at hl
  exact .func f (VRs.low ha hl.1) (VRs.low hb hl.2)
 | _,_,.ZH,_ => .ZH
 | _,_,.nilIface,_ => .nilIface
 | .iface t v,_,.iface _ h,hl=>by
  have hl:RW n v=true:=hl
  exact .iface t (VR.low h hl)
 | .agg l,_,.agg h,hl=>by
  have hl:WU n l=true:=hl
  exact .agg (VRs.low h hl)
 | .tuple l,_,.tuple h,hl=>by
  have hl:WU n l=true:=hl
  exact .tuple (VRs.low h hl)
 | _,_,.sint k h,_ => .sint k h
 | _,_,.raw h,_ => .raw h
 | .gho id _,_,.gho h hg hu hm,hl => .gho (by rw [Rho.Qf (show id<n from by simpa [RW] using hl)]; exact h) hg hu hm
theorem VRs.low {r:Rho} {n:Nat}:∀ {l:List Zc} {l':List Value},VRs r l l'→WU n l=true→VRs (r.Qt n) l l'
 | _,_,.nil,_ => .nil
 | v::l,_,.cons h t,hl=>by
  have hl:Bool.and (RW n v) (WU n l)=true:=hl
  rw [Bool.and_eq_true] at hl
  exact .cons (VR.low h hl.1) (VRs.low t hl.2)
end
section
variable {call:Zu} {K:ZF} {ops:Array Oper} {e0:Env} {vs:List Zc} {st:Nat→St}
noncomputable abbrev J5 (ops:Array Oper) (j:Nat):Cod:=Q7 j (JU ops.toList 0 .nil j)
def Made (P:Program) (ops:Array Oper) (e0:Env) (vs:List Zc) (j:Nat):Prop :=
 ∃ o,ops.toList[j]? = some o∧KG P o.op = .make∧wanted (vs.take j).reverse e0 (guardOf (J5 ops j) ops o) = .yes
theorem QM.LX (hp:QM X P call K ops e0 vs st) (hcall:ZZ P call) {j:Nat} (hj:j<ops.toList.length) (he:¬ QW P ops j) :
  (Made P ops e0 vs j∧∃ b,st (j+1)=(st j).new b)∨(¬ Made P ops e0 vs j∧st (j+1)=st j):=by
 have ho:ops.toList[j]? = some ops.toList[j]:=List.getElem?_eq_getElem hj
 obtain ⟨v,hv,_,hn,_,h⟩:=hp.step j _ ho
 rcases h with ⟨hw,hr⟩ | ⟨hw,rfl,hs⟩
 ·have h1:=Rt hcall hr
  cases hk:KG P (ops.toList[j]).op with
  | pure =>
   rw [hk] at h1
   refine .inr ⟨fun ⟨o,g1,g2,_⟩ => ?_,h1.1⟩
   rw [ho] at g1; cases g1; rw [hk] at g2; cases g2
  | look =>
   rw [hk] at h1
   refine .inr ⟨fun ⟨o,g1,g2,_⟩ => ?_,h1.1⟩
   rw [ho] at g1; cases g1; rw [hk] at g2; cases g2
  | make =>
   rw [hk] at h1
   obtain ⟨mk,b,_,h2,_⟩:=h1
   exact .inl ⟨⟨_,ho,hk,hw⟩,b,h2⟩
  | eff=>exact absurd ⟨_,ho,by rw [hk]; rfl⟩ he
 ·refine .inr ⟨fun ⟨o,g1,_,g3⟩ => ?_,hs⟩
  rw [ho] at g1; cases g1; rw [hw] at g3; cases g3
theorem QM.Nd (hp:QM X P call K ops e0 vs st):∀ (d i:Nat),i+d≤ops.toList.length→(st i).next≤(st (i+d)).next
 | 0,i,_=>Nat.le_refl _
 | d+1,i,h=>by
  have ho:ops.toList[i+d]? = some ops.toList[i+d]:=List.getElem?_eq_getElem (by omega)
  obtain ⟨v,hv,_,hn,_,_⟩:=hp.step _ _ ho
  exact Nat.le_trans (QM.Nd hp d i (by omega)) hn
theorem QM.K9 (hp:QM X P call K ops e0 vs st) {i j:Nat} (h:i≤j) (hj:j≤ops.toList.length):(st i).next≤(st j).next:=by
 have:=hp.Nd (j-i) i (by omega)
 rw [show i+(j-i)=j by omega] at this
 exact this
theorem Made.lt {j:Nat} (h:Made P ops e0 vs j):j<ops.toList.length:=by
 obtain ⟨o,h1,_⟩:=h
 exact (List.getElem?_eq_some_iff.1 h1).1
theorem Made.PB {j:Nat} (h:Made P ops e0 vs j):¬ QW P ops j:=by
 obtain ⟨o,h1,h2,_⟩:=h
 rintro ⟨o',g1,g2⟩
 rw [h1] at g1; cases g1; rw [h2] at g2; cases g2
theorem QM.Ur (hp:QM X P call K ops e0 vs st) (hcall:ZZ P call) {j:Nat} (h:Made P ops e0 vs j):∃ b,st (j+1)=(st j).new b:=by
 rcases hp.LX hcall h.lt h.PB with ⟨_,h1⟩ | ⟨h1,_⟩
 ·exact h1
 ·exact absurd h h1
theorem QM.Vy (hp:QM X P call K ops e0 vs st) (hcall:ZZ P call) {j m:Nat} (h:Made P ops e0 vs j) (hjm:j<m) (hm:m≤ops.toList.length):(st j).next<(st m).next:=by
 obtain ⟨b,hb⟩:=hp.Ur hcall h
 have h1:=hp.K9 (show j+1≤m from hjm) hm
 rw [hb,St.Qg] at h1
 omega
theorem QM.Zc8 (hp:QM X P call K ops e0 vs st) (hcall:ZZ P call) {j k:Nat} (h:Made P ops e0 vs j) (h':Made P ops e0 vs k) (hn:(st j).next=(st k).next):j=k:=by
 rcases Nat.lt_trichotomy j k with h1 | h1 | h1
 ·have:=hp.Vy hcall h h1 (Nat.le_of_lt h'.lt); omega
 ·exact h1
 ·have:=hp.Vy hcall h' h1 (Nat.le_of_lt h.lt); omega
structure Iv (P:Program) (call:Zu) (K:ZF) (ops:Array Oper) (e0:Env) (vs:List Zc) (st:Nat→St) (r0:Rho) (w0:World) (a0:Act) (D:Nat→Prop) (m:Nat) (r:Rho) (a:Act) (w:World):Prop where
 closed:LP (Zx ops.toList []) D
 WW:∀ i,QW P ops i→(D i↔i<m)
 le:m≤ops.toList.length
 ext:Ext r0 (st 0) w0 (r.Qt (st m).next) (st m) w
 PC:∀ i t v,D i→ZN ops.toList i=some t→(∀ k,i<k→D k→ZN ops.toList k≠some t)→vs[i]? = some v→VR r v (a.tmps.getD t undef)
 PD:∀ t,(∀ k,D k→ZN ops.toList k≠some t)→a.tmps.getD t undef=a0.tmps.getD t undef
 size:a.tmps.size=a0.tmps.size
 defs:a.defers=[]
 early:∀ j,m≤j→D j→Made P ops e0 vs j→∃ x b o,r (st j).next=some x∧(st (j+1)).get (st j).next=some b∧BR (r.Qt ((st j).next+1)) b x o∧w.heap[x.blk]? = some o∧w0.heap.size≤x.blk∧¬ Hit (r.Qt (st m).next) (st m) x.blk∧x.gho=none∧¬ JZ (r.Qt (st m).next) x.blk
 apart:∀ j k x y,m≤j→m≤k→D j→D k→Made P ops e0 vs j→Made P ops e0 vs k→r (st j).next=some x→r (st k).next=some y→x.blk=y.blk→j=k
 later:∀ j,¬ D j→Made P ops e0 vs j→r (st j).next=none∧(j<m→∀ b,(st m).get (st j).next=some b→(st (j+1)).get (st j).next=some b)
 known:∀ i x,r i=some x→i<(st m).next∨∃ j,m≤j∧D j∧Made P ops e0 vs j∧i=(st j).next
variable {r0:Rho} {w0:World} {a0:Act} {D:Nat→Prop} {m:Nat} {r:Rho} {a:Act} {w:World}
theorem Iv.start (hp:QM X P call K ops e0 vs st) (hr:Rel r0 (st 0) w0) (ha:a0.defers=[]):Iv P call K ops e0 vs st r0 w0 a0 (fun _=>False) 0 r0 a0 w0:=by
 have ht:r0.Qt (st 0).next=r0:=Rho.LW hr.known
 refine ⟨fun j hj=>hj.elim,fun i _=>⟨fun h=>h.elim,fun h=>by omega⟩,Nat.zero_le _,by rw [ht]; exact Ext.refl hr,fun i t v h=>h.elim,fun t _=>rfl,rfl,ha,fun j _ h=>h.elim,fun j k x y _ _ h=>h.elim,fun j _ hm => ?_,fun i x h => .inl (hr.known i x h)⟩
 exact ⟨hr.Z7 (hp.K9 (Nat.zero_le j) (Nat.le_of_lt hm.lt)),fun h=>by omega⟩
theorem Iv.on (hp:QM X P call K ops e0 vs st) (hcall:ZZ P call) (h:Iv P call K ops e0 vs st r0 w0 a0 D m r a w) (hm:m<ops.toList.length) (he:¬ QW P ops m) :
  Iv P call K ops e0 vs st r0 w0 a0 D (m+1) r a w:=by
 have heffs:∀ i,QW P ops i→(D i↔i<m+1):=fun i hi=>by
  rw [h.WW i hi]
  refine ⟨fun h=>by omega,fun h => ?_⟩
  by_cases hi':i=m
  ·subst hi'; exact absurd hi he
  ·omega
 rcases hp.LX hcall hm he with ⟨hmade,b,hb⟩ | ⟨hmade,hs⟩
 ·have hnx:(st (m+1)).next=(st m).next+1:=by rw [hb,St.Qg]
  by_cases hD:D m
  ·obtain ⟨x,b',o,h1,h2,h3,h4,h5,h6,h7,h8⟩:=h.early m (Nat.le_refl _) hD hmade
   have hbb:b'=b:=by
    rw [hb,St.ZB,if_pos rfl] at h2
    cases h2; rfl
   subst hbb
   have ht:r.Qt (st (m+1)).next=(r.Qt (st m).next).at (st m).next x:=by rw [hnx]; exact Rho.Nc h1
   have hext:Ext r0 (st 0) w0 ((r.Qt (st m).next).at (st m).next x) ((st m).new b') w:=h.ext.Zfs h4 (by rw [← Rho.Nc h1]; exact h3) h6 h5 h7 h8
   refine ⟨h.closed,heffs,hm,by rw [ht,hb]; exact hext,h.PC,h.PD,h.size,h.defs,fun j hj hDj hMj => ?_,fun j k y z hj hk=>h.apart j k y z (by omega) (by omega),fun j hDj hMj => ?_,fun i y hy => ?_⟩
   ·obtain ⟨y,c,o',g1,g2,g3,g4,g5,g6,g7,g8⟩:=h.early j (by omega) hDj hMj
    refine ⟨y,c,o',g1,g2,g3,g4,g5,?_,g7,by rw [ht]; exact fun hf=>g8 (hf.Vm h7)⟩
    rw [ht,hb]
    rintro ⟨i,d,z,k1,k2,k3⟩
    by_cases hi:i=(st m).next
    ·subst hi
     rw [Rho.Zo] at k2
     cases k2
     have:=h.apart m j x y (Nat.le_refl _) (by omega) hD hDj hmade hMj h1 g1 k3
     omega
    ·rw [Rho.Zy _ x hi] at k2
     rw [St.ZB,if_neg (Ne.symm hi)] at k1
     exact g6 ⟨i,d,z,k1,k2,k3⟩
   ·obtain ⟨g1,g2⟩:=h.later j hDj hMj
    refine ⟨g1,fun hjm d hd => ?_⟩
    have hjm':j<m:=by
     rcases Nat.lt_or_ge j m with h7 | h7
     ·exact h7
     ·have:j=m:=by omega
      subst this; exact absurd hD hDj
    have:=hp.Vy hcall hMj hjm' (Nat.le_of_lt hm)
    rw [hb,St.ZB,if_neg (by omega)] at hd
    exact g2 hjm' d hd
   ·rcases h.known i y hy with g | ⟨j,g1,g2,g3,g4⟩
    ·exact .inl (by omega)
    ·by_cases hjm:j=m
     ·subst hjm; exact .inl (by omega)
     ·exact .inr ⟨j,by omega,g2,g3,g4⟩
  ·obtain ⟨h1,_⟩:=h.later m hD hmade
   have ht:r.Qt (st (m+1)).next=r.Qt (st m).next:=by rw [hnx]; exact Rho.Uq h1
   refine ⟨h.closed,heffs,hm,by rw [ht,hb]; exact h.ext.skip b,h.PC,h.PD,h.size,h.defs,fun j hj hDj hMj => ?_,fun j k y z hj hk=>h.apart j k y z (by omega) (by omega),fun j hDj hMj => ?_,fun i y hy => ?_⟩
   ·obtain ⟨y,c,o',g1,g2,g3,g4,g5,g6,g7,g8⟩:=h.early j (by omega) hDj hMj
    refine ⟨y,c,o',g1,g2,g3,g4,g5,?_,g7,by rw [ht]; exact g8⟩
    rw [ht,hb]
    rintro ⟨i,d,z,k1,k2,k3⟩
    have hi:i≠(st m).next:=fun e=>by
     have:=(Rho.XD k2).1
     omega
    rw [St.ZB,if_neg (Ne.symm hi)] at k1
    exact g6 ⟨i,d,z,k1,k2,k3⟩
   ·obtain ⟨g1,g2⟩:=h.later j hDj hMj
    refine ⟨g1,fun hjm d hd => ?_⟩
    by_cases hjm':j=m
    ·subst hjm'; exact hd
    ·have:=hp.Vy hcall hMj (show j<m by omega) (Nat.le_of_lt hm)
     rw [hb,St.ZB,if_neg (by omega)] at hd
     exact g2 (by omega) d hd
   ·rcases h.known i y hy with g | ⟨j,g1,g2,g3,g4⟩
    ·exact .inl (by omega)
    ·by_cases hjm:j=m
     ·subst hjm; exact absurd g2 hD
     ·exact .inr ⟨j,by omega,g2,g3,g4⟩
 ·refine ⟨h.closed,heffs,hm,by rw [hs]; exact h.ext,h.PC,h.PD,h.size,h.defs,fun j hj hDj hMj => ?_,fun j k y z hj hk=>h.apart j k y z (by omega) (by omega),fun j hDj hMj => ?_,fun i y hy => ?_⟩
  ·obtain ⟨y,c,o',g1,g2,g3,g4,g5,g6,g7,g8⟩:=h.early j (by omega) hDj hMj
   exact ⟨y,c,o',g1,g2,g3,g4,g5,by rw [hs]; exact g6,g7,by rw [hs]; exact g8⟩
  ·obtain ⟨g1,g2⟩:=h.later j hDj hMj
   refine ⟨g1,fun hjm d hd => ?_⟩
   by_cases hjm':j=m
   ·subst hjm'; exact absurd hMj hmade
   ·rw [hs] at hd; exact g2 (by omega) d hd
  ·rcases h.known i y hy with g | ⟨j,g1,g2,g3,g4⟩
   ·exact .inl (by rw [hs]; exact g)
   ·by_cases hjm:j=m
    ·subst hjm; exact absurd g3 hmade
    ·exact .inr ⟨j,by omega,g2,g3,g4⟩
theorem Iv.full (hp:QM X P call K ops e0 vs st) (hcall:ZZ P call):∀ (d:Nat) {m:Nat},ops.toList.length-m=d→Iv P call K ops e0 vs st r0 w0 a0 D m r a w →
  ∃ p,Iv P call K ops e0 vs st r0 w0 a0 D p r a w∧(p=ops.toList.length∨QW P ops p)
 | 0,m,hd,h=>⟨m,h,.inl (by have:=h.le; omega)⟩
 | d+1,m,hd,h=>by
  by_cases he:QW P ops m
  ·exact ⟨m,h,.inr he⟩
  ·exact Iv.full hp hcall d (m:=m+1) (by omega) (h.on hp hcall (by omega) he)
end
end Go.Proofs.YtheflbaejhlboaaGreatDoor.Ev
namespace Go.Proofs.YtheflbaejhlboaaGreatDoor.Ev
open Go
variable [Sig] {P:Program} {X:Nat→Nat→Prop}
theorem Xa {t:Tmp}:∀ {l:List Operand},Operand.tmp t∈l→t∈Pa l
 | .tmp u::l,h=>by
  rcases List.mem_cons.1 h with h | h
  ·cases h; exact List.mem_cons_self ..
  ·exact List.mem_cons_of_mem _ (Xa h)
 | .const v::l,h=>by
  rcases List.mem_cons.1 h with h | h
  ·cases h
  ·exact Xa (l:=l) h
 | .global g::l,h=>by
  rcases List.mem_cons.1 h with h | h
  ·cases h
  ·exact Xa (l:=l) h
 | .func f::l,h=>by
  rcases List.mem_cons.1 h with h | h
  ·cases h
  ·exact Xa (l:=l) h
section
variable {call:Zu} {K:ZF} {ops:Array Oper} {e0:Env} {vs:List Zc} {st:Nat→St}
variable {r0:Rho} {w0:World} {a0:Act} {D D':Nat→Prop} {m:Nat} {r:Rho} {a:Act} {w:World}
theorem Iv.read (hp:QM X P call K ops e0 vs st) (hr0:Rel r0 (st 0) w0) (he0:Qk K r0 e0 a0) (h:Iv P call K ops e0 vs st r0 w0 a0 D m r a w) {j:Nat} {o:Oper} (ho:ops.toList[j]? = some o) (hD:¬ D j)
  (hr:∀ i,Xp (Zx ops.toList []) j i→D i) {t:Tmp} (ht:t∈LQ ops o) {v:Zc} (hv:Zn (vs.take j).reverse e0 (J5 ops j (.tmp t)) = .ok v):VR (r.Qt (st j).next) v (a.tmps.getD t undef):=by
 have hjl:=(List.getElem?_eq_some_iff.1 ho).1
 have behind:∀ k,j<k→D k→ZN ops.toList k≠some t:=fun k hjk hDk hk=>hD (h.closed k hDk j ((hp.reads k j o t ho ht hk).2 hjk))
 rcases Ps (Nat.le_of_lt hjl) hp.len hv with ⟨i,hij,hdi,hlast,hvi⟩ | ⟨hnone,hget⟩
 ·have hDi:D i:=hr i ((hp.reads i j o t ho ht hdi).1 hij)
  have h1:=h.PC i t v hDi hdi (fun k hik hDk hk=>by
   rcases Nat.lt_trichotomy k j with g | g | g
   ·exact hlast k hik g hk
   ·subst g; exact hD hDk
   ·exact behind k g hDk hk) hvi
  obtain ⟨v',hv',_,_,hlow,_⟩:=hp.step i _ (List.getElem?_eq_getElem (show i<ops.toList.length by omega))
  rw [hvi] at hv'
  cases hv'
  exact (h1.low hlow).mono (Rho.Y5 r.le_refl (hp.K9 hij (Nat.le_of_lt hjl)))
 ·rw [h.PD t fun k hDk hk=>by
   rcases Nat.lt_trichotomy k j with g | g | g
   ·exact hnone k g hk
   ·subst g; exact hD hDk
   ·exact behind k g hDk hk]
  refine (he0.env t v hget).2.mono fun i x hx => ?_
  have h1:=hr0.known i x hx
  have h2:=hp.K9 (Nat.zero_le j) (Nat.le_of_lt hjl)
  rw [Rho.Qf (by omega)]
  exact (Rho.XD (h.ext.le i x hx)).2
theorem Iv.cx (hp:QM X P call K ops e0 vs st) (hr0:Rel r0 (st 0) w0) (he0:Qk K r0 e0 a0) (h:Iv P call K ops e0 vs st r0 w0 a0 D m r a w) {j:Nat} {o:Oper} (ho:ops.toList[j]? = some o) (hD:¬ D j)
  (hr:∀ i,Xp (Zx ops.toList []) j i→D i):Cx (r.Qt (st j).next) (vs.take j).reverse e0 (J5 ops j) a o.op:=by
 intro x hx v hv
 cases x with
 | tmp t=>exact h.read hp hr0 he0 ho hD hr (List.mem_append_left _ (Xa (Array.mem_toList_iff.2 hx))) hv
 | const u =>
  have hv:Zn (vs.take j).reverse e0 (RT u) = .ok v:=hv
  unfold RT at hv
  split at hv
  ·rename_i b hb
   cases hv
   exact TC _ u _ hb
  ·cases hv
 | func f =>
  cases hv
  exact .func f .nil .nil
 | _=>cases hv
theorem Iv.put (hp:QM X P call K ops e0 vs st) (he0:Qk K r0 e0 a0) (h:Iv P call K ops e0 vs st r0 w0 a0 D m r a w) {j:Nat} {o:Oper} (ho:ops.toList[j]? = some o) (hdi:Qr K o=true) (hD:¬ D j)
  (hD':∀ k,D' k↔D k∨k=j) {r':Rho} (hle:r.le r') {v:Zc} {u:Value} (hv:vs[j]? = some v) (hvr:VR r' v u) :
  (∀ i t v,D' i→ZN ops.toList i=some t→(∀ k,i<k→D' k→ZN ops.toList k≠some t)→vs[i]? = some v→VR r' v ((a.put o.dst u).tmps.getD t undef)) ∧
   (∀ t,(∀ k,D' k→ZN ops.toList k≠some t)→(a.put o.dst u).tmps.getD t undef=a0.tmps.getD t undef):=by
 have hdst:ZN ops.toList j=o.dst:=by unfold ZN; rw [ho]; rfl
 have hDj:D' j:=(hD' j).2 (.inr rfl)
 have ne:∀ {t},o.dst≠some t→(a.put o.dst u).tmps.getD t undef=a.tmps.getD t undef:=fun {t} hn=>by
  cases hd:o.dst with
  | none=>rfl
  | some d=>exact QV fun e=>hn (by rw [hd,e])
 refine ⟨fun i t v' hDi hit hlast hvi => ?_,fun t hn => ?_⟩
 ·by_cases hij:i=j
  ·subst hij
   rw [hv] at hvi
   cases hvi
   rw [hdst] at hit
   rw [hit]
   rw [Ji]
   ·exact hvr
   ·unfold Qr at hdi
    rw [hit] at hdi
    rw [h.size]
    exact Nat.lt_of_lt_of_le (Qy hdi) he0.size
  ·have hDi':D i:=((hD' i).1 hDi).resolve_right hij
   have hn:o.dst≠some t:=fun e=>by
    rcases Nat.lt_or_ge i j with g | g
    ·exact hlast j g hDj (by rw [hdst,e])
    ·exact hD (h.closed i hDi' j (hp.writes j i t (by omega) (by rw [hdst,e]) hit))
   rw [ne hn]
   exact (h.PC i t v' hDi' hit (fun k hik hDk=>hlast k hik ((hD' k).2 (.inl hDk))) hvi).mono hle
 ·rw [ne (fun e=>hn j hDj (by rw [hdst,e]))]
  exact h.PD t fun k hDk=>hn k ((hD' k).2 (.inl hDk))
theorem Iv.Y6 (h:Iv P call K ops e0 vs st r0 w0 a0 D m r a w) {j:Nat} (hr:∀ i,Xp (Zx ops.toList []) j i→D i) (hD':∀ k,D' k↔D k∨k=j):LP (Zx ops.toList []) D':=fun k hk i hi=>by
 rcases (hD' k).1 hk with g | g
 ·exact (hD' i).2 (.inl (h.closed k g i hi))
 ·subst g; exact (hD' i).2 (.inl (hr i hi))
theorem Vz (h:Iv P call K ops e0 vs st r0 w0 a0 D m r a w) (d:Option Tmp) (u:Value):(a.put d u).tmps.size=a0.tmps.size∧(a.put d u).defers=[] :=
 ⟨by rw [Y1]; exact h.size,by rw [Y2]; exact h.defs⟩
theorem Iv.quiet (hp:QM X P call K ops e0 vs st) (he0:Qk K r0 e0 a0) (h:Iv P call K ops e0 vs st r0 w0 a0 D m r a w) {j:Nat} {o:Oper} (ho:ops.toList[j]? = some o) (hD:¬ D j)
  (hr:∀ i,Xp (Zx ops.toList []) j i→D i) (hD':∀ k,D' k↔D k∨k=j) (hne:¬ QW P ops j) (hnm:¬ Made P ops e0 vs j) {v:Zc} {u:Value} (hdi:Qr K o=true) (hv:vs[j]? = some v) (hvr:VR r v u) :
  Iv P call K ops e0 vs st r0 w0 a0 D' m r (a.put o.dst u) w:=by
 obtain ⟨h1,h2⟩:=h.put hp he0 ho hdi hD hD' r.le_refl hv hvr
 obtain ⟨h3,h4⟩:=Vz h o.dst u
 have dm:∀ {k},D' k→Made P ops e0 vs k→D k:=fun {k} hk hm=>((hD' k).1 hk).resolve_right fun e=>hnm (e▸hm)
 refine ⟨h.Y6 hr hD',fun i hi => ?_,h.le,h.ext,h1,h2,h3,h4,fun k hk hDk hMk=>h.early k hk (dm hDk hMk) hMk,fun k l x y hk hl hDk hDl hMk hMl=>h.apart k l x y hk hl (dm hDk hMk) (dm hDl hMl) hMk hMl,
  fun k hDk hMk=>h.later k (fun g=>hDk ((hD' k).2 (.inl g))) hMk,fun i x hx => ?_⟩
 ·rw [← h.WW i hi,hD' i]
  exact ⟨fun g=>g.resolve_right fun e=>hne (e▸hi),.inl⟩
 ·rcases h.known i x hx with g | ⟨k,g1,g2,g3,g4⟩
  ·exact .inl g
  ·exact .inr ⟨k,g1,(hD' k).2 (.inl g2),g3,g4⟩
theorem Iv.ZaH (hp:QM X P call K ops e0 vs st) (he0:Qk K r0 e0 a0) (h:Iv P call K ops e0 vs st r0 w0 a0 D m r a w) {o:Oper} (ho:ops.toList[m]? = some o) (hD:¬ D m)
  (hr:∀ i,Xp (Zx ops.toList []) m i→D i) (hD':∀ k,D' k↔D k∨k=m) (hne:QW P ops m) {v:Zc} {u:Value} (hdi:Qr K o=true) (hv:vs[m]? = some v) (hvr:VR r v u) (hs:st (m+1)=st m) :
  Iv P call K ops e0 vs st r0 w0 a0 D' (m+1) r (a.put o.dst u) w:=by
 obtain ⟨h1,h2⟩:=h.put hp he0 ho hdi hD hD' r.le_refl hv hvr
 obtain ⟨h3,h4⟩:=Vz h o.dst u
 have hml:=(List.getElem?_eq_some_iff.1 ho).1
 have nm:∀ {k},Made P ops e0 vs k→k≠m:=fun {k} hk e=>by subst e; exact hk.PB hne
 have dm:∀ {k},D' k→Made P ops e0 vs k→D k:=fun {k} hk hm=>((hD' k).1 hk).resolve_right (nm hm)
 refine ⟨h.Y6 hr hD',fun i hi => ?_,hml,by rw [hs]; exact h.ext,h1,h2,h3,h4,fun k hk hDk hMk=>by rw [hs]; exact h.early k (by omega) (dm hDk hMk) hMk,fun k l x y hk hl hDk hDl hMk hMl=>h.apart k l x y (by omega) (by omega) (dm hDk hMk) (dm hDl hMl) hMk hMl,
  fun k hDk hMk => ?_,fun i x hx => ?_⟩
 ·rw [hD' i,h.WW i hi]
  omega
 ·obtain ⟨g1,g2⟩:=h.later k (fun g=>hDk ((hD' k).2 (.inl g))) hMk
  have:=nm hMk
  exact ⟨g1,fun hk d hd=>by rw [hs] at hd; exact g2 (by omega) d hd⟩
 ·rcases h.known i x hx with g | ⟨k,g1,g2,g3,g4⟩
  ·exact .inl (by rw [hs]; exact g)
  ·have:=nm g3
   exact .inr ⟨k,by omega,(hD' k).2 (.inl g2),g3,g4⟩
theorem Iv.effect (hp:QM X P call K ops e0 vs st) (hcall:ZZ P call) (he0:Qk K r0 e0 a0) (h:Iv P call K ops e0 vs st r0 w0 a0 D m r a w) {o:Oper} (ho:ops.toList[m]? = some o) (hD:¬ D m)
  (hr:∀ i,Xp (Zx ops.toList []) m i→D i) (hD':∀ k,D' k↔D k∨k=m) (hne:QW P ops m) {v:Zc} {u:Value} (hdi:Qr K o=true) (hv:vs[m]? = some v) {q:Rho} {w':World}
  (hx:Ext (r.Qt (st m).next) (st m) w q (st (m+1)) w') (hvr:VR q v u) :
  ∃ r',Iv P call K ops e0 vs st r0 w0 a0 D' (m+1) r' (a.put o.dst u) w':=by
 have hml:=(List.getElem?_eq_some_iff.1 ho).1
 have nm:∀ {k},Made P ops e0 vs k→k≠m:=fun {k} hk e=>by subst e; exact hk.PB hne
 have dm:∀ {k},D' k→Made P ops e0 vs k→D k:=fun {k} hk hm=>((hD' k).1 hk).resolve_right (nm hm)
 have up:∀ {k},Made P ops e0 vs k→m≤k→(st (m+1)).next≤(st k).next:=fun {k} hk hmk=>hp.K9 (by have:=nm hk; omega) (Nat.le_of_lt hk.lt)
 have hnn:=hx.next
 let r':Rho:=fun i=>if i<(st (m+1)).next then q i else r i
 have rlt:∀ {i},i<(st (m+1)).next→r' i=q i:=fun hi=>if_pos hi
 have rge:∀ {i},(st (m+1)).next≤i→r' i=r i:=fun hi=>if_neg (by omega)
 have hle:r.le r':=fun i x hi=>by
  rcases h.known i x hi with g | ⟨k,g1,g2,g3,g4⟩
  ·rw [rlt (by omega)]
   exact hx.le i x (by rw [Rho.Qf g]; exact hi)
  ·have:=up g3 g1
   rw [rge (by omega)]
   exact hi
 have htill:r'.Qt (st (m+1)).next=q:=by
  funext i
  by_cases hi:i<(st (m+1)).next
  ·rw [Rho.Qf hi,rlt hi]
  ·rw [Rho.Xi (by omega)]
   exact (hx.rel.Z7 (by omega)).symm
 have hqr:q.le r':=fun i x hi=>by rw [rlt (hx.rel.known i x hi)]; exact hi
 obtain ⟨h1,h2⟩:=h.put hp he0 ho hdi hD hD' hle hv (hvr.mono hqr)
 obtain ⟨h3,h4⟩:=Vz h o.dst u
 refine ⟨r',h.Y6 hr hD',fun i hi => ?_,hml,by rw [htill]; exact h.ext.trans hx,h1,h2,h3,h4,fun k hk hDk hMk => ?_,fun k l x y hk hl hDk hDl hMk hMl hxk hyl => ?_,fun k hDk hMk => ?_,fun i x hi => ?_⟩
 ·rw [hD' i,h.WW i hi]
  omega
 ·obtain ⟨x,b,ob,g1,g2,g3,g4,g5,g6,g7,g8⟩:=h.early k (by omega) (dm hDk hMk) hMk
  have hsz:=(Array.getElem?_eq_some_iff.1 g4).1
  refine ⟨x,b,ob,by rw [rge (up hMk (by omega))]; exact g1,g2,g3.mono (Rho.Y5 hle (Nat.le_refl _)),by rw [hx.frame _ hsz g6]; exact g4,g5,?_,g7,by
   rw [htill]
   intro hh
   rcases hx.Kz _ hh with g | g
   ·exact g8 g
   ·omega⟩
  rw [htill]
  intro hh
  rcases hx.Xs _ hh with g | g
  ·exact g6 g
  ·omega
 ·rw [rge (up hMk (by omega))] at hxk
  rw [rge (up hMl (by omega))] at hyl
  exact h.apart k l x y (by omega) (by omega) (dm hDk hMk) (dm hDl hMl) hMk hMl hxk hyl
 ·obtain ⟨g1,g2⟩:=h.later k (fun g=>hDk ((hD' k).2 (.inl g))) hMk
  have hkm:=nm hMk
  rcases Nat.lt_or_ge k m with hlt | hge
  ·have hkn:=hp.Vy hcall hMk hlt (Nat.le_of_lt hml)
   have hn:(r.Qt (st m).next) (st k).next=none:=by rw [Rho.Qf hkn]; exact g1
   refine ⟨?_,fun _ d hd=>g2 hlt d (hx.still _ hkn hn d hd)⟩
   rw [rlt (by omega)]
   cases e:q (st k).next with
   | none=>rfl
   | some x=>exact absurd (hx.fresh _ hn (by rw [e]; exact fun h=>by cases h)) (by omega)
  ·exact ⟨by rw [rge (up hMk hge)]; exact g1,fun hk=>by omega⟩
 ·by_cases hin:i<(st (m+1)).next
  ·exact .inl hin
  ·rw [rge (by omega)] at hi
   rcases h.known i x hi with g | ⟨k,g1,g2,g3,g4⟩
   ·exact .inl (by omega)
   ·have:=nm g3
    exact .inr ⟨k,by omega,(hD' k).2 (.inl g2),g3,g4⟩
theorem Iv.made (hp:QM X P call K ops e0 vs st) (hcall:ZZ P call) (he0:Qk K r0 e0 a0) (h:Iv P call K ops e0 vs st r0 w0 a0 D m r a w) {j:Nat} {o:Oper} (ho:ops.toList[j]? = some o) (hD:¬ D j)
  (hr:∀ i,Xp (Zx ops.toList []) j i→D i) (hD':∀ k,D' k↔D k∨k=j) (hM:Made P ops e0 vs j) (hjm:j≠m) {v:Zc} {u:Value} (hdi:Qr K o=true) (hv:vs[j]? = some v) {b:Zd} (hb:st (j+1)=(st j).new b)
  {w':World} {y:RB} {ob:Obj} (hy:y.blk=w.heap.size) (hgn:y.gho=none) (hu:w'.heap[y.blk]? = some ob) (hf:∀ k,k<w.heap.size→w'.heap[k]? = w.heap[k]?) (hs:w.heap.size≤w'.heap.size) (hos:w'.os=w.os) (hta:w'.tape=w.tape)
  (hout:w'.output=w.output) (hbr:BR ((r.Qt (st j).next).at (st j).next y) b y ob) (hvr:VR ((r.Qt (st j).next).at (st j).next y) v u) :
  ∃ r',Iv P call K ops e0 vs st r0 w0 a0 D' m r' (a.put o.dst u) w':=by
 have hjl:=(List.getElem?_eq_some_iff.1 ho).1
 have hne:=hM.PB
 obtain ⟨hrn,hst⟩:=h.later j hD hM
 have hle:r.le (r.at (st j).next y):=r.JL y hrn
 have hatle:((r.Qt (st j).next).at (st j).next y).le (r.at (st j).next y):=Rho.PA fun i x hx=>(Rho.XD hx).2
 obtain ⟨h1,h2⟩:=h.put hp he0 ho hdi hD hD' hle hv (hvr.mono hatle)
 obtain ⟨h3,h4⟩:=Vz h o.dst u
 have hnx:(st (j+1)).next=(st j).next+1:=by rw [hb,St.Qg]
 have hget:(st (j+1)).get (st j).next=some b:=by rw [hb,St.ZB,if_pos rfl]
 have ne:∀ {k},Made P ops e0 vs k→k≠j→(st k).next≠(st j).next:=fun {k} hk hkj e=>hkj (hp.Zc8 hcall hk hM e)
 have WW:∀ i,QW P ops i→(D' i↔i<m):=fun i hi=>by
  rw [← h.WW i hi,hD' i]
  exact ⟨fun g=>g.resolve_right fun e=>hne (e▸hi),.inl⟩
 have later:∀ k,¬ D' k→Made P ops e0 vs k→(r.at (st j).next y) (st k).next=none∧(k<m→∀ b,(st m).get (st k).next=some b→(st (k+1)).get (st k).next=some b):=fun k hDk hMk=>by
  have hkj:k≠j:=fun e=>hDk ((hD' k).2 (.inr e))
  rw [Rho.Zy r y (ne hMk hkj)]
  exact h.later k (fun g=>hDk ((hD' k).2 (.inl g))) hMk
 have old:∀ {k},m≤k→D k→Made P ops e0 vs k→∃ x c oc,(r.at (st j).next y) (st k).next=some x∧(st (k+1)).get (st k).next=some c∧BR ((r.at (st j).next y).Qt ((st k).next+1)) c x oc∧w'.heap[x.blk]? = some oc∧w0.heap.size≤x.blk ∧
   ¬ Hit (r.Qt (st m).next) (st m) x.blk∧x.blk<w.heap.size∧x.gho=none∧¬ JZ (r.Qt (st m).next) x.blk:=fun {k} hk hDk hMk=>by
  obtain ⟨x,c,oc,g1,g2,g3,g4,g5,g6,g7,g8⟩:=h.early k hk hDk hMk
  have hsz:=(Array.getElem?_eq_some_iff.1 g4).1
  exact ⟨x,c,oc,hle _ _ g1,g2,g3.mono (Rho.Y5 hle (Nat.le_refl _)),by rw [hf _ hsz]; exact g4,g5,g6,hsz,g7,g8⟩
 have hw0:=h.ext.size
 rcases Nat.lt_or_ge j m with hlt | hge
 ·have hjn:=hp.Vy hcall hM hlt h.le
  have ht:(r.at (st j).next y).Qt (st m).next=(r.Qt (st m).next).at (st j).next y:=Rho.C9 hjn
  have hq:(r.Qt (st m).next) (st j).next=none:=by rw [Rho.Qf hjn]; exact hrn
  have hext:=h.ext.born (n:=(st j).next) hq (fun c hc=>by have:=hst hlt c hc; rw [hget] at this; cases this; rfl) hjn (hp.K9 (Nat.zero_le j) (Nat.le_of_lt hjl)) (by omega) hu (hbr.mono (Rho.PA (Rho.Y5 r.le_refl (Nat.le_of_lt hjn)))) hf hs hos hta hout hgn
  have dj:∀ {k},m≤k→D' k→D k:=fun {k} hk hDk=>((hD' k).1 hDk).resolve_right (by omega)
  refine ⟨_,h.Y6 hr hD',WW,h.le,by rw [ht]; exact hext,h1,h2,h3,h4,fun k hk hDk hMk => ?_,fun k l x z hk hl hDk hDl hMk hMl hxk hyl => ?_,later,fun i x hx => ?_⟩
  ·obtain ⟨x,c,oc,g1,g2,g3,g4,g5,g6,g7,g8,g9⟩:=old hk (dj hk hDk) hMk
   refine ⟨x,c,oc,g1,g2,g3,g4,g5,?_,g8,by rw [ht]; exact fun hf=>g9 (hf.Vm hgn)⟩
   rw [ht]
   rintro ⟨i,d,z,k1,k2,k3⟩
   by_cases hi:i=(st j).next
   ·subst hi
    rw [Rho.Zo] at k2
    cases k2
    omega
   ·rw [Rho.Zy _ y hi] at k2
    exact g6 ⟨i,d,z,k1,k2,k3⟩
  ·rw [Rho.Zy r y (ne hMk (by omega))] at hxk
   rw [Rho.Zy r y (ne hMl (by omega))] at hyl
   exact h.apart k l x z hk hl (dj hk hDk) (dj hl hDl) hMk hMl hxk hyl
  ·by_cases hi:i=(st j).next
   ·exact .inl (by omega)
   ·rw [Rho.Zy r y hi] at hx
    rcases h.known i x hx with g | ⟨k,g1,g2,g3,g4⟩
    ·exact .inl g
    ·exact .inr ⟨k,g1,(hD' k).2 (.inl g2),g3,g4⟩
 ·have hmn:=hp.K9 (show m≤j from hge) (Nat.le_of_lt hjl)
  have ht:(r.at (st j).next y).Qt (st m).next=r.Qt (st m).next:=Rho.DN hmn
  refine ⟨_,h.Y6 hr hD',WW,h.le,by rw [ht]; exact h.ext.grow hf hs hos hta hout,h1,h2,h3,h4,fun k hk hDk hMk => ?_,fun k l x z hk hl hDk hDl hMk hMl hxk hyl => ?_,later,fun i x hx => ?_⟩
  ·rw [ht]
   by_cases hkj:k=j
   ·subst hkj
    refine ⟨y,b,ob,Rho.Zo r _ y,hget,hbr.mono ?_,hu,by omega,fun hh => ?_,hgn,fun ⟨i,z,g,e1,e2,e3,e4⟩ => ?_⟩
    ·rw [Rho.C9 (Nat.lt_succ_self _)]
     exact Rho.PA (Rho.Y5 r.le_refl (by omega))
    ·have:=h.ext.rel.lt hh
     omega
    ·have:=(h.ext.rel.safe i z g e1 e2).1
     omega
   ·obtain ⟨x,c,oc,g1,g2,g3,g4,g5,g6,g7,g8,g9⟩:=old hk (((hD' k).1 hDk).resolve_right hkj) hMk
    exact ⟨x,c,oc,g1,g2,g3,g4,g5,g6,g8,g9⟩
  ·intro hxz
   by_cases hkj:k=j <;> by_cases hlj:l=j
   ·omega
   ·subst hkj
    rw [Rho.Zo] at hxk
    cases hxk
    obtain ⟨x',c,oc,g1,g2,g3,g4,g5,g6,g7⟩:=old hl (((hD' l).1 hDl).resolve_right hlj) hMl
    rw [g1] at hyl
    cases hyl
    omega
   ·subst hlj
    rw [Rho.Zo] at hyl
    cases hyl
    obtain ⟨x',c,oc,g1,g2,g3,g4,g5,g6,g7⟩:=old hk (((hD' k).1 hDk).resolve_right hkj) hMk
    rw [g1] at hxk
    cases hxk
    omega
   ·rw [Rho.Zy r y (ne hMk hkj)] at hxk
    rw [Rho.Zy r y (ne hMl hlj)] at hyl
    exact h.apart k l x z hk hl (((hD' k).1 hDk).resolve_right hkj) (((hD' l).1 hDl).resolve_right hlj) hMk hMl hxk hyl hxz
  ·by_cases hi:i=(st j).next
   ·exact .inr ⟨j,hge,(hD' j).2 (.inr rfl),hM,hi⟩
   ·rw [Rho.Zy r y hi] at hx
    rcases h.known i x hx with g | ⟨k,g1,g2,g3,g4⟩
    ·exact .inl g
    ·exact .inr ⟨k,g1,(hD' k).2 (.inl g2),g3,g4⟩
end
end Go.Proofs.YtheflbaejhlboaaGreatDoor.Ev
