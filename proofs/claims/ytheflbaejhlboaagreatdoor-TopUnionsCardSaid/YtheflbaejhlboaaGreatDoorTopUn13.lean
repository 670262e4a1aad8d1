/- A part of the proof of a law of package confluencetop: lemmas, no condition of ours. -/
import Derived.Test.YtheflbaejhlboaaGreatDoorTopUn12
set_option linter.unusedVariables false
set_option linter.unusedSectionVars false
set_option linter.unusedSimpArgs false
namespace Go.Proofs.YtheflbaejhlboaaGreatDoor.Ev
open Go
variable [Sig] {P:Program} {r:Rho} {s:St} {w:World}
theorem Zhd {op:UnOp} {x v:Zc} (h:unV P op x = .ok v) {a:Value} (hx:VR r x a):ZO P r w (Op.unary op a) v:=by
 have slow:∀ op,De P op (toV x) = .ok v→ZO P r w (Op.unary op a) v:=by
  intro op h
  unfold De at h
  split at h
  ·rename_i u hu
   have:=toV_ok r x u a hu hx
   subst this
   exact YM h
  ·cases h
 have slow:∀ op,unS P op x = .ok v→ZO P r w (Op.unary op a) v:=by
  intro op h
  unfold unS at h
  split at h
  ·cases hx with
   | sint _ hn=>subst hn; exact E9 h
  ·exact slow op h
 cases op with
 | not =>
  change Ze0 x = .ok v at h
  unfold Ze0 at h
  split at h
  ·cases h; cases hx; exact QT (.bool _)
  ·cases h
 | neg=>exact slow .neg h
 | xor=>exact slow .xor h
 | plus=>exact slow .plus h
theorem CV {t:TypeId} {o n:Nat} {g:Bool} (hs:Z2 P t=some n) (hg:Jq P t=some g) {cs:List Zc} {vs:List Value} (hv:VRs r cs vs) {v:Zc} (h:SD cs o n g = .ok v) :
  ZO P r w (part t ⟨vs⟩ o) v:=by
 obtain ⟨h1,h2⟩:=Gl (rest:=[]) hv h
 rw [List.append_nil] at h2
 rcases h2 with ⟨rfl,h2⟩ | ⟨rfl,rfl,u,h2,h3⟩
 ·refine ⟨_,?_,h2⟩
  simp only [part,Sem.run_bind,Vn hg,Result.andThen_ok,if_true,run_sizeOf hs,Sem.run_pure]
  congr 3
  rw [List.extract_toArray]
  simp [List.extract_eq_take_drop]
 ·exact ⟨u,Jy hg h2,h3⟩
theorem Du {t:TypeId} {f:Nat} {x v:Zc} (h:Ll (Ki P t f) x = .ok v) {a:Value} (hx:VR r x a):ZO P r w (Instr.field t a f) v:=by
 unfold Ll at h
 split at h
 ·rename_i cs o n g hp
  obtain ⟨fs,y,h1,h2,h3,h4,h5⟩:=TD hp
  cases hx with
  | agg hc =>
   obtain ⟨u,h6,h7⟩:=CV (P:=P) (w:=w) h4 h5 hc h
   refine ⟨u,?_,h7⟩
   simp only [Instr.field,Sem.run_bind,run_underlying h1,Result.andThen_ok,h2,asAgg,Sem.run_pure,h3,h6]
 ·cases h
theorem Sh {c:Bool} {x:V} {v:Zc} (h:sel c .bad x = .ok v):c=false∧x = .ok v:=by
 rcases Ze h with ⟨_,h2⟩ | ⟨h1,h2⟩
 ·cases h2
 ·exact ⟨h1,h2⟩
theorem ZM {c:Bool} {x:V} {v:Zc} (h:sel c x .bad = .ok v):c=true∧x = .ok v:=by
 rcases Ze h with ⟨h1,h2⟩ | ⟨_,h2⟩
 ·exact ⟨h1,h2⟩
 ·cases h2
theorem WO {c:Bool} {x:R} {v:Zc} {s':St} (h:sel c .bad x = .ok v s'):c=false∧x = .ok v s':=by
 rcases Ze h with ⟨_,h2⟩ | ⟨h1,h2⟩
 ·cases h2
 ·exact ⟨h1,h2⟩
theorem Zr {c:Bool} {x:R} {v:Zc} {s':St} (h:sel c x .bad = .ok v s'):c=true∧x = .ok v s':=by
 rcases Ze h with ⟨h1,h2⟩ | ⟨_,h2⟩
 ·exact ⟨h1,h2⟩
 ·cases h2
theorem Je {a b:Nat} (h:Nat.beq a b=false):a≠b:=by
 rintro rfl
 rw [Nat.beq_refl] at h
 cases h
theorem ZD {a b:Nat} (h:Nat.beq a b=true):a=b:=Nat.eq_of_beq_eq_true h
theorem Z6 {a b:Nat} (h:Nat.ble a b=true):a≤b:=Nat.le_of_ble_eq_true h
theorem Qy {a b:Nat} (h:Nat.blt a b=true):a<b:=Nat.le_of_ble_eq_true h
theorem YR {a b:Nat} (h:Nat.ble a b=false):b<a:=by
 rcases Nat.lt_or_ge b a with h1 | h1
 ·exact h1
 ·rw [Nat.ble_eq_true_of_le h1] at h; cases h
theorem ZcM {a b:Nat} (h:Nat.blt a b=false):b≤a:=by have:=YR h; omega
theorem Dv {t:TypeId} {f:Nat} {x v:Zc} (h:Lk (Ki P t f) x = .ok v) {a:Value} (hx:VR r x a):ZO P r w (Instr.fieldAt t a f) v:=by
 unfold Lk at h
 split at h
 ·rename_i id off o n g hp
  obtain ⟨h0,h⟩:=Sh h
  cases h
  have hn:=Je h0
  obtain ⟨fs,y,h1,h2,rfl,h4,h5⟩:=TD hp
  cases hx with
  | ptr hr =>
   refine ⟨_,?_,.ptr hr⟩
   simp only [Instr.fieldAt,Sem.run_bind,run_underlying h1,Result.andThen_ok,h2,Instr.sureAddr,Sem.run_pure,fieldPlace,run_sizeOf h4,hn,if_false,JM]
 ·cases h
theorem ZcN {t:TypeId} {sz:Nat} (h:Mu P t = .sl sz):∃ e,P.underlying t=some (.slice e)∧Z2 P e=some sz∧sz≠0:=by
 unfold Mu at h
 split at h
 ·rename_i e h1
  split at h
  ·rename_i n h2
   rcases Ze h with ⟨_,h3⟩ | ⟨h3,h4⟩
   ·cases h3
   ·cases h4; exact ⟨e,h1,h2,Je h3⟩
  ·cases h
 ·split at h
  ·rcases Ze h with ⟨_,h3⟩ | ⟨h3,h4⟩
   ·cases h3
   ·cases h4
  ·cases h
 ·cases h
 ·cases h
theorem Gu {t:TypeId} {n sz:Nat} {g:Bool} (h:Mu P t = .arr n sz g):∃ e,P.underlying t=some (.array n e)∧Z2 P e=some sz∧Jq P e=some g∧sz≠0:=by
 unfold Mu at h
 split at h
 ·split at h
  ·rcases Ze h with ⟨_,h3⟩ | ⟨h3,h4⟩
   ·cases h3
   ·cases h4
  ·cases h
 ·rename_i m e h1
  split at h
  ·rename_i k g' h2 h2'
   rcases Ze h with ⟨_,h3⟩ | ⟨h3,h4⟩
   ·cases h3
   ·cases h4; exact ⟨e,h1,h2,h2',Je h3⟩
  ·cases h
 ·cases h
 ·cases h
theorem Zaa {t:TypeId} (h:Mu P t = .str):P.underlying t=some .string:=by
 unfold Mu at h
 split at h
 ·split at h
  ·rcases Ze h with ⟨_,h3⟩ | ⟨h3,h4⟩
   ·cases h3
   ·cases h4
  ·cases h
 ·split at h
  ·rcases Ze h with ⟨_,h3⟩ | ⟨h3,h4⟩
   ·cases h3
   ·cases h4
  ·cases h
 ·rename_i h1; exact h1
 ·cases h
theorem JQ {x:Zc} {n:Nat} (h:asNat x=some n) {a:Value} (hx:VR r x a):∃ k,a = .int k (Int.ofNat n):=by
 unfold asNat at h
 split at h
 ·cases h; cases hx; exact ⟨_,rfl⟩
 ·cases h
theorem B1 {t:TypeId} {x i v:Zc} (h:Dm (Mu P t) (asNat i) x = .ok v) {a b:Value} (hx:VR r x a) (hi:VR r i b):ZO P r w (Instr.indexAt t a b) v:=by
 unfold Dm at h
 split at h
 ·rename_i id off n c sz m hix hn
  obtain ⟨h0,h⟩:=ZM h
  cases h
  have hlt:=Qy h0
  obtain ⟨k,rfl⟩:=JQ hn hi
  obtain ⟨e,h1,h2,h3⟩:=ZcN hix
  cases hx with
  | slice hr hcap hc hu =>
   refine ⟨_,?_,.ptr hr⟩
   have h4:(0:Int)≤Int.ofNat m∧Int.ofNat m<(n:Int):=by
    constructor
    ·show (0:Int)≤(m:Int); omega
    ·show (m:Int)<(n:Int); omega
   simp only [Instr.indexAt,Sem.run_bind,asIntOf,Sem.run_pure,Result.andThen_ok,run_underlying h1,if_pos h4,run_sizeOf h2]
   rw [JM]
   rfl
 ·rename_i id off n sz g m hix hn
  obtain ⟨h0,h⟩:=ZM h
  cases h
  have hlt:=Qy h0
  obtain ⟨k,rfl⟩:=JQ hn hi
  obtain ⟨e,h1,h2,_,h3⟩:=Gu hix
  cases hx with
  | ptr hr =>
   refine ⟨_,?_,.ptr hr⟩
   have h4:(0:Int)≤Int.ofNat m∧Int.ofNat m<(n:Int):=by
    constructor
    ·show (0:Int)≤(m:Int); omega
    ·show (m:Int)<(n:Int); omega
   simp only [Instr.indexAt,Sem.run_bind,asIntOf,Sem.run_pure,Result.andThen_ok,run_underlying h1,Instr.sureAddr,if_pos h4,run_sizeOf h2]
   rw [JM]
   rfl
 ·cases h
theorem MS:∀ (n:Nat) {l:List UInt8} {v:Zc},ES n l = .ok v→∃ b,l[n]? = some b∧v = .int .u8 (Int.ofNat b.toNat)
 | 0,[],v,h=>by cases h
 | 0,a::l,v,h=>by cases h; exact ⟨a,rfl,rfl⟩
 | n+1,[],v,h=>by cases h
 | n+1,a::l,v,h=>by
  obtain ⟨b,h1,h2⟩:=MS n (l:=l) h
  exact ⟨b,by rw [List.getElem?_cons_succ]; exact h1,h2⟩
theorem B3 {l:List UInt8} {m:Nat} {b:UInt8} (h:l[m]? = some b):(ByteArray.mk ⟨l⟩)[m]? = some b:=by
 obtain ⟨h5,h6⟩:=List.getElem?_eq_some_iff.1 h
 have h7:m<(ByteArray.mk ⟨l⟩).size:=h5
 rw [getElem?_pos (ByteArray.mk ⟨l⟩) m h7]
 exact congrArg some h6
theorem Zab {t:TypeId} {x i v:Zc} (h:ET (Mu P t) (asNat i) x = .ok v) {a b:Value} (hx:VR r x a) (hi:VR r i b):ZO P r w (Instr.index t a b) v:=by
 unfold ET at h
 split at h
 ·rename_i l m hix hn
  obtain ⟨b',h1,rfl⟩:=MS m h
  obtain ⟨k,rfl⟩:=JQ hn hi
  have h2:=Zaa hix
  cases hx
  refine ⟨_,?_,.int _ _⟩
  have h3:(0:Int)≤Int.ofNat m:=by show (0:Int)≤(m:Int); omega
  have h4:=B3 h1
  have h5:(Int.ofNat m).toNat=m:=rfl
  simp only [Instr.index,Sem.run_bind,asIntOf,Sem.run_pure,Result.andThen_ok,run_underlying h2,if_pos h3,h5,h4]
  rfl
 ·rename_i cs n sz g m hix hn
  obtain ⟨h0,h⟩:=ZM h
  have hlt:=Qy h0
  obtain ⟨k,rfl⟩:=JQ hn hi
  obtain ⟨e,h1,h2,h2',h3⟩:=Gu hix
  cases hx with
  | agg hc =>
   obtain ⟨u,h6,h7⟩:=CV (P:=P) (w:=w) h2 h2' hc h
   refine ⟨u,?_,h7⟩
   have h4:(0:Int)≤Int.ofNat m∧Int.ofNat m<(n:Int):=by
    constructor
    ·show (0:Int)≤(m:Int); omega
    ·show (m:Int)<(n:Int); omega
   have h5:(Int.ofNat m).toNat=m:=rfl
   simp only [Instr.index,Sem.run_bind,asIntOf,Sem.run_pure,Result.andThen_ok,run_underlying h1,if_pos h4,run_sizeOf h2,h5,h6]
 ·cases h
theorem Zac {i:Nat} {x v:Zc} (h:EU i x = .ok v) {a:Value} (hx:VR r x a):ZO P r w (Instr.extract a i) v:=by
 unfold EU at h
 split at h
 ·rename_i vs
  have h1:=YK i h
  cases hx with
  | tuple hc =>
   obtain ⟨u,h2,h3⟩:=hc.get h1
   refine ⟨u,?_,h3⟩
   simp [Instr.extract,h2]
 ·cases h
theorem Gv {t:TypeId} (h:RelB r s w) {x v:Zc} (hl:MN s (Jr P t) x = .ok v) {a:Value} (hx:VR r x a):ZO P r w (Instr.loadAt t a) v:=by
 unfold MN at hl
 split at hl
 ·rename_i id off
  unfold Ew at hl
  split at hl
  ·rename_i cs e o z n g hc hp
   obtain ⟨h1,h2⟩:=MP hp
   cases hx with
   | ptr hr =>
    obtain ⟨u,h3,h4⟩:=Gm h hr hc h1 h2 hl
    exact ⟨u,by simp only [Instr.loadAt,Instr.sureAddr,Sem.run_bind,Sem.run_pure,Result.andThen_ok,h3],h4⟩
  ·cases hl
 ·cases hl
theorem Zad {t:TypeId} (h:Mw P t = .str):P.underlying t=some .string:=by
 unfold Mw at h
 split at h <;> first | assumption | cases h
theorem Lx {t:TypeId} (h:Mw P t = .sl):∃ e,P.underlying t=some (.slice e):=by
 unfold Mw at h
 split at h <;> first | exact ⟨_,by assumption⟩ | cases h
theorem CW {t:TypeId} (h:Mw P t = .mp):∃ k e,P.underlying t=some (.map k e):=by
 unfold Mw at h
 split at h <;> first | exact ⟨_,_,by assumption⟩ | cases h
theorem Zae {t:TypeId} {n:Nat} (h:Mw P t = .arr n):∃ e,P.underlying t=some (.array n e):=by
 unfold Mw at h
 split at h
 all_goals first | (cases h; done) | (cases h; exact ⟨_,by assumption⟩)
theorem QA (h:RelB r s w) {id:Nat} {x:RB} (hx:r id=some x) {es:List Entry} {c:Nat} (hm:s.JI id = .mk es c) :
  ∃ l,w.heap[x.blk]? = some (.map ⟨l⟩ c)∧ERs r es l:=by
 obtain ⟨o,h1,l,rfl,h3⟩:=h.block id _ x (JO hm) hx
 exact ⟨l,h1,h3⟩
theorem Qm {b:Nat} {l:List MapEntry} {c:Nat} (h:w.heap[b]? = some (.map ⟨l⟩ c)):(getObj b).run P w = .ok (.map ⟨l⟩ c) w:=by
 simp [getObj,Sem.run,h]
theorem ZcO {t:TypeId} {ts:Array TypeId} {ty:TypeId} (ht:ts[0]? = some t) (h:RelB r s w) {x v:Zc} (hl:Ze9 (Mw P t) s x = .ok v) {a:Value} (hx:VR r x a):ZO P r w (Builtin.len_ ts ty #[a]) v:=by
 unfold Ze9 at hl
 split at hl
 ·rename_i l hk
  cases hl; cases hx
  exact ⟨_,by simp [Builtin.len_,ht,run_underlying (Zad hk)]; rfl,.int _ _⟩
 ·rename_i hk
  cases hl; cases hx
  obtain ⟨e,he⟩:=Lx hk
  exact ⟨_,by simp [Builtin.len_,ht,run_underlying he]; rfl,.int _ _⟩
 ·rename_i hk
  cases hl; cases hx
  obtain ⟨e,he⟩:=Lx hk
  exact ⟨_,by simp [Builtin.len_,ht,run_underlying he]; rfl,.int _ _⟩
 ·rename_i hk
  cases hl; cases hx
  obtain ⟨e,he⟩:=Lx hk
  exact ⟨_,by simp [Builtin.len_,ht,run_underlying he]; rfl,.int _ _⟩
 ·rename_i hk
  cases hl; cases hx
  obtain ⟨k,e,he⟩:=CW hk
  exact ⟨_,by simp [Builtin.len_,ht,run_underlying he]; rfl,.int _ _⟩
 ·rename_i id hk
  obtain ⟨k,e,he⟩:=CW hk
  unfold Zha at hl
  split at hl
  ·rename_i es c hm
   cases hl
   cases hx with
   | map hr =>
    obtain ⟨l,h1,h2⟩:=QA h hr hm
    refine ⟨.int .i64 (Int.ofNat es.length),?_,.int _ _⟩
    have h3:(getObj _).run P w = .ok (.map ⟨l⟩ c) w:=Qm h1
    have h4:l.length=es.length:=h2.length
    simp [Builtin.len_,ht,run_underlying he,h3]
    rw [h4]
    rfl
  ·cases hl
 ·rename_i n hk
  cases hl
  obtain ⟨e,he⟩:=Zae hk
  exact ⟨_,by simp [Builtin.len_,ht,run_underlying he]; rfl,.int _ _⟩
 ·cases hl
theorem ZcP {t:TypeId} {ts:Array TypeId} {ty:TypeId} (ht:ts[0]? = some t) (h:RelB r s w) {x v:Zc} (hl:Zfa (Jf P t) s x = .ok v) {a:Value} (hx:VR r x a):ZO P r w (Builtin.cap_ ts ty #[a]) v:=by
 unfold Zfa at hl
 split at hl
 ·rename_i hp
  obtain ⟨he,_,_⟩:=QG hp
  cases hl; cases hx
  exact ⟨_,by simp [Builtin.cap_,ht,run_underlying he]; rfl,.int _ _⟩
 ·rename_i c hp
  obtain ⟨he,_,_⟩:=QG hp
  cases hl
  cases hx with
  | slice hr hn hc hu =>
   have:=hc _ rfl
   subst this
   exact ⟨_,by simp [Builtin.cap_,ht,run_underlying he]; rfl,.int _ _⟩
 ·rename_i id off n hp
  obtain ⟨he,_,_⟩:=QG hp
  unfold Zhb at hl
  split at hl
  ·rename_i cs e o hc
   obtain ⟨ho,hl⟩:=Sh hl
   obtain ⟨h1,hl⟩:=ZM hl
   obtain ⟨h2,hl⟩:=Sh hl
   cases hl
   have h1:=ZD h1
   have h2:=Je h2
   cases hx with
   | slice hr hn hcp hu =>
    rename_i y cap
    obtain ⟨ob,hb,he',vs,rest,et,fr,rfl,hvs,hlen,hop,_⟩:=h.block _ _ _ (ZL hc) hr
    have hrest:=hop ho
    subst hrest
    rw [List.append_nil] at hlen
    have h3:=hvs.length
    have h4:=hu rfl
    have h5:cap=(cs.length-off) / e:=by
     rw [← h3,hlen,← h4,Nat.add_sub_cancel_left,he',Nat.mul_div_cancel _ (Nat.pos_of_ne_zero (by rw [h1]; exact h2))]
    refine ⟨_,?_,.int _ _⟩
    simp [Builtin.cap_,ht,run_underlying he]
    rw [h5,h1]
    rfl
  ·cases hl
 ·cases hl
theorem Zff {ts:Array TypeId} {ty:TypeId} {x v:Zc} (h:reV x = .ok v) {a:Value} (hx:VR r x a):ZO P r w (Builtin.real_ ts ty #[a]) v:=by
 unfold reV at h
 split at h
 ·cases h; cases hx; exact QT (.flt _ _)
 ·cases h
theorem Zfg {ts:Array TypeId} {ty:TypeId} {x v:Zc} (h:imV x = .ok v) {a:Value} (hx:VR r x a):ZO P r w (Builtin.imag_ ts ty #[a]) v:=by
 unfold imV at h
 split at h
 ·cases h; cases hx; exact QT (.flt _ _)
 ·cases h
theorem YS {j k:FloatKind} (h:Lq j k=true):j=k:=by
 cases j <;> cases k <;> first | rfl | cases h
theorem Zfh {ts:Array TypeId} {ty:TypeId} {x y v:Zc} (h:cxV x y = .ok v) {a b:Value} (hx:VR r x a) (hy:VR r y b):ZO P r w (Builtin.complex_ ts ty #[a,b]) v:=by
 unfold cxV at h
 split at h
 ·obtain ⟨h0,h9⟩:=ZM h
  clear h
  have h8:=YS h0
  subst h8
  cases h9; cases hx; cases hy
  refine ⟨_,?_,.ZW _ _ _⟩
  rename_i j m n
  show (if j=j then pure (Value.complex j m n) else stuck _:Sem Value).run P w=_
  rw [if_pos rfl]
  rfl
 ·cases h
theorem ZcQ {ts:Array TypeId} {ty:TypeId} {x y v:Zc} (h:mmV true x y = .ok v) {a b:Value} (hx:VR r x a) (hy:VR r y b):ZO P r w (Builtin.max_ ts ty #[a,b]) v:=by
 unfold mmV at h
 split at h
 ·rename_i j m k n
  obtain ⟨h0,h9⟩:=ZM h
  clear h
  have h8:=Jd h0
  subst h8
  cases h9; cases hx; cases hy
  refine ⟨_,?_,.int _ _⟩
  simp only [Builtin.max_,List.foldlM_cons,List.foldlM_nil,Builtin.max2,Jg,JP]
  by_cases h1:n≤m
  ·have h2:¬ n>m:=by omega
   simp [h1,h2,Jg]
  ·have h2:n>m:=by omega
   simp [h1,h2,QO]
 ·cases h
theorem ZcR {ts:Array TypeId} {ty:TypeId} {x y v:Zc} (h:mmV false x y = .ok v) {a b:Value} (hx:VR r x a) (hy:VR r y b):ZO P r w (Builtin.min_ ts ty #[a,b]) v:=by
 unfold mmV at h
 split at h
 ·rename_i j m k n
  obtain ⟨h0,h9⟩:=ZM h
  clear h
  have h8:=Jd h0
  subst h8
  cases h9; cases hx; cases hy
  refine ⟨_,?_,.int _ _⟩
  simp only [Builtin.min_,List.foldlM_cons,List.foldlM_nil,Builtin.min2,QO,JP]
  by_cases h1:m≤n
  ·have h2:¬ n<m:=by omega
   simp [h1,h2,Jg]
  ·have h2:n<m:=by omega
   simp [h1,h2,QO]
 ·cases h
theorem CX {e:TypeId} (h:Mr P e=true):P.underlying e=some (.int .u8):=by
 unfold Mr at h
 split at h
 ·rename_i h1; exact h1
 ·cases h
theorem SU (f:Value→ByteArray→Sem (ForInStep ByteArray)) (hf:∀ n b,f (.int .u8 n) b=pure (.yield (b.push (UInt8.ofNat n.toNat)))):∀ {l:List Zc} {x:List UInt8},bytesOf l=some x →
  ∀ {vs:List Value},VRs r l vs→∀ (acc:ByteArray) (P:Program) (w:World),(forIn (m:=Sem) vs acc f).run P w = .ok ⟨acc.data++⟨x⟩⟩ w
 | [],x,h,_,.nil,acc,P,w=>by cases h; simp
 | v::l,x,h,_,.cons hv ht,acc,P,w=>by
  unfold bytesOf at h
  split at h
  ·rename_i n
   split at h
   ·rename_i y hy
    cases h
    cases hv
    have ih:=SU f hf hy ht (acc.push (UInt8.ofNat n.toNat)) P w
    simp only [List.forIn_cons,hf,Sem.run_bind,Sem.run_pure,Result.andThen_ok]
    rw [ih]
    congr 2
    simp [ByteArray.push]
   ·cases h
  ·cases h
theorem Zfi (h:RelB r s w) {id off n:Nat} {x:RB} (hx:r id=some x) {cs:List Zc} {e:Nat} {o:Bool} (hc:s.ZQ id = .mk cs e o) {l:List Zc} (hs:sub cs off n=some l) :
  ∃ vs,(loadCells ⟨x.blk,off,none⟩ n).run P w = .ok ⟨vs⟩ w∧VRs r l vs∧vs.length=n:=by
 obtain ⟨ob,hb,hr⟩:=h.block id _ x (ZL hc) hx
 obtain ⟨_,vs,rest,et,fr,rfl,hvs,hlen,_,_⟩:=hr
 obtain ⟨h1,rfl⟩:=sub_eq hs
 have hcl:=hvs.length
 exact ⟨_,Jh hb (by simp only [List.length_append]; omega),hvs.range h1,by simp only [List.length_take,List.length_drop,List.length_append]; omega⟩
theorem MT {s':St} {o:Option (List UInt8)} {v:Zc} (h:SG s o = .ok v s'):∃ l,o=some l∧v = .str l∧s'=s:=by
 unfold SG at h
 split at h
 ·cases h; exact ⟨_,rfl,rfl,rfl⟩
 ·cases h
theorem Gw (h:RelB r s w) {x v:Zc} {s':St} (hb:Xl s x = .ok v s') {a:Value} (hx:VR r x a):s'=s∧ZO P r w (Conv.bytesToString a) v:=by
 unfold Xl at hb
 split at hb
 ·cases hb; cases hx
  exact ⟨rfl,QT (.str [])⟩
 ·rename_i id off n c
  unfold Di at hb
  split at hb
  ·rename_i cs e o hc
   obtain ⟨l,h1,rfl,rfl⟩:=MT hb
   refine ⟨rfl,?_⟩
   split at h1
   ·rename_i l' hl'
    cases hx with
    | slice hr hn hcp hu =>
     obtain ⟨vs,h2,h3,_⟩:=Zfi (P:=P) h hr hc hl'
     refine ⟨_,?_,.str l⟩
     simp only [Conv.bytesToString,Sem.run_bind,h2,Result.andThen_ok]
     rw [← Array.forIn_toList]
     rw [SU _ (fun _ _=>rfl) h1 h3 ByteArray.empty P w]
     simp only [Result.andThen_ok,Sem.run_pure]
     congr 3
     simp [ByteArray.empty,ByteArray.emptyWithCapacity]
     rfl
   ·cases h1
  ·cases hb
 ·cases hb
theorem Zaf {x:V} {n:Nat} (h:onV x = .some n):∃ v,x = .ok v∧asNat v=some n:=by
 unfold onV at h
 split at h
 ·unfold onO at h
  split at h
  ·rename_i m hm; cases h; exact ⟨_,rfl,hm⟩
  ·cases h
 ·cases h
def NR (o:ON) (x:Option Value):Prop:=match o with
 | .none=>x=none
 | .some n=>∃ k,x=some (.int k (Int.ofNat n))
 | .bad=>True
theorem run_sliceBound {k:IntKind} {n y:Nat} {c:BoundsCode} (h:n≤y):(Instr.sliceBound (.int k (n:Int)) y c).run P w = .ok n w:=by
 have h1:(0:Int)≤(n:Int)∧(n:Int)≤(y:Int):=by omega
 simp only [Instr.sliceBound,Sem.run_bind,asIntOf,Sem.run_pure,Result.andThen_ok,if_pos h1]
 rfl
theorem Ly {isS:Bool} {len cap:Nat} {lo hi:ON} {x y:Option Value} (hx:NR lo x) (hy:NR hi y) (g1:lo.Ms=true) (g2:hi.Ms=true)
  (h1:hi.get len≤cap) (h2:lo.get 0≤hi.get len):(Instr.sliceBounds isS len cap x y none).run P w = .ok (lo.get 0,hi.get len,cap) w:=by
 cases hi with
 | bad=>cases g2
 | none =>
  cases hy
  cases lo with
  | bad=>cases g1
  | none =>
   cases hx
   simp [Instr.sliceBounds,ON.get]
  | some n =>
   obtain ⟨k,rfl⟩:=hx
   have h3:n≤len:=h2
   simp [Instr.sliceBounds,ON.get,run_sliceBound (P:=P) (w:=w) (k:=k) h3]
 | some m =>
  obtain ⟨j,rfl⟩:=hy
  have h4:m≤cap:=h1
  cases lo with
  | bad=>cases g1
  | none =>
   cases hx
   simp [Instr.sliceBounds,ON.get,run_sliceBound (P:=P) (w:=w) (k:=j) h4]
  | some n =>
   obtain ⟨k,rfl⟩:=hx
   have h3:n≤m:=h2
   simp [Instr.sliceBounds,ON.get,run_sliceBound (P:=P) (w:=w) (k:=j) h4,run_sliceBound (P:=P) (w:=w) (k:=k) h3]
theorem ZcS {isS:Bool} {len cap h m:Nat} {lo:ON} {x y z:Option Value} (hx:NR lo x) (hy:NR (.some h) y) (hz:NR (.some m) z) (g1:lo.Ms=true)
  (h1:m≤cap) (h2:h≤m) (h3:lo.get 0≤h):(Instr.sliceBounds isS len cap x y z).run P w = .ok (lo.get 0,h,m) w:=by
 obtain ⟨j,rfl⟩:=hy
 obtain ⟨i,rfl⟩:=hz
 cases lo with
 | bad=>cases g1
 | none =>
  cases hx
  simp [Instr.sliceBounds,ON.get,run_sliceBound (P:=P) (w:=w) (k:=i) h1,run_sliceBound (P:=P) (w:=w) (k:=j) h2]
 | some n =>
  obtain ⟨k,rfl⟩:=hx
  have h4:n≤h:=h3
  simp [Instr.sliceBounds,ON.get,run_sliceBound (P:=P) (w:=w) (k:=i) h1,run_sliceBound (P:=P) (w:=w) (k:=j) h2,run_sliceBound (P:=P) (w:=w) (k:=k) h4]
end Go.Proofs.YtheflbaejhlboaaGreatDoor.Ev
namespace Go.Proofs.YtheflbaejhlboaaGreatDoor.Ev
open Go
variable [Sig] {P:Program} {r:Rho} {s:St} {w:World}
theorem VT (l:List UInt8) (a h:Nat):(ByteArray.mk ⟨l⟩).extract a h=⟨⟨(l.take h).drop a⟩⟩:=by
 apply ByteArray.ext
 rw [ByteArray.data_extract]
 show (l.toArray).extract a h=_
 rw [List.extract_toArray]
 simp only [List.extract_eq_take_drop]
 rw [List.drop_take]
theorem B4 {t:TypeId} (h:Lj P t=true):P.underlying t=some .string:=by
 unfold Lj at h
 split at h
 ·rename_i h1; exact h1
 ·cases h
theorem Xh {t:TypeId} {d:TypeDesc} (h:P.underlying t=some d) (hd:∀ n e,d ≠ .array n e) (x:Value) (lo hi mx:Option Value):(Instr.sliceAt t x lo hi mx).run P w=(Instr.slice t x lo hi mx).run P w:=by
 simp only [Instr.sliceAt,Sem.run_bind,run_underlying h,Result.andThen_ok]
 try (cases d <;> first | rfl | exact absurd rfl (hd _ _))
theorem ON.CY {o:ON} (h:o.zero=true) (g:o.Ms=true) (d:Nat) (hd:d=0):o.get d=0:=by
 cases o with
 | none=>exact hd
 | some n=>exact (Nat.eq_of_beq_eq_true h)
 | bad=>cases g
theorem B5 (h:RelB r s w) {t:TypeId} {lo hi mx:ON} (g1:lo.Ms=true) (g2:hi.Ms=true) (g3:mx.Ms=true) {x y z:Option Value} (hx:NR lo x) (hy:NR hi y) (hz:NR mx z)
  {a v:Zc} (hs:Dl s (Lj P t) (Jf P t) lo hi mx a = .ok v) {b:Value} (ha:VR r a b):ZO P r w (Instr.sliceAt t b x y z) v:=by
 unfold Dl at hs
 split at hs
 ·rename_i l
  obtain ⟨h0,h1⟩:=ZM hs
  have ht:=B4 h0
  cases ha
  cases mx with
  | bad=>cases g3
  | some m=>cases h1
  | none =>
   cases hz
   simp only [Zee] at h1
   obtain ⟨h2,h3⟩:=ZM h1
   obtain ⟨h4,h5⟩:=ZM h3
   cases h5
   have h2:=Z6 h2
   have h4:=Z6 h4
   refine ⟨_,?_,.str _⟩
   rw [Xh ht (fun _ _ e=>by cases e)]
   have hb:=Ly (P:=P) (w:=w) (isS:=false) (len:=l.length) (cap:=l.length) hx hy g1 g2 h2 h4
   have hsz:(ByteArray.mk ⟨l⟩).size=l.length:=rfl
   simp only [Instr.slice,Sem.run_bind,run_underlying ht,Result.andThen_ok,Option.isSome_none,Bool.false_eq_true,if_false,hsz]
   simp [hb,VT]
 ·split at hs
  ·rename_i e n g hp
   obtain ⟨h1,h2⟩:=ZM hs
   obtain ⟨h3,h4⟩:=ZM h2
   obtain ⟨ht,hsz,_⟩:=QG hp
   cases mx with
   | bad=>cases g3
   | some m=>cases h4
   | none =>
    cases h4; cases hz; cases ha
    have e1:=ON.CY h3 g2 0 rfl
    have e2:=ON.CY h1 g1 0 rfl
    refine ⟨.slice none 0 0,?_,.Za⟩
    rw [Xh ht (fun _ _ e=>by cases e)]
    have hb:=Ly (P:=P) (w:=w) (isS:=true) (len:=0) (cap:=0) hx hy g1 g2 (by rw [e1]; exact Nat.le_refl _) (by rw [e2]; exact Nat.zero_le _)
    simp [Instr.slice,run_underlying ht,hb,run_sizeOf hsz,e1,e2]
  ·cases hs
 ·rename_i id off len cap
  unfold slC at hs
  split at hs
  ·rename_i ep sz g cs e o hp hc
   obtain ⟨h1,hs1⟩:=ZM hs
   clear hs
   obtain ⟨h2,hs2⟩:=Sh hs1
   clear hs1
   have h1:=ZD h1
   subst h1
   have h2:=Je h2
   obtain ⟨ht,hsz,_⟩:=QG hp
   cases ha with
   | slice hr hn hcp hu =>
    rename_i y' cp
    obtain ⟨ob,hb,he',vs,rest,et,fr,rfl,hvs,hlen,hop,_⟩:=h.block _ _ _ (ZL hc) hr
    have hvl:=hvs.length
    have hpos:0<sz:=Nat.pos_of_ne_zero h2
    have hk:Kx cap cs.length off sz≤cp:=by
     unfold Kx
     split
     ·rw [hcp _ rfl]; exact Nat.le_refl _
     ·have h3:=hu rfl
      show (cs.length-off) / sz≤cp
      rw [he'] at h3
      rw [List.length_append] at hlen
      have h4:cs.length-off≤cp*sz:=by omega
      exact Nat.div_le_of_le_mul (by rw [Nat.mul_comm]; exact h4)
    have hex:SH cap o=true→Kx cap cs.length off sz=cp:=by
     intro hx'
     unfold Kx
     unfold SH at hx'
     split
     ·rw [hcp _ rfl]
     ·have h3:=hu rfl
      simp only [Bool.not_eq_true'] at hx'
      have:=hop hx'
      subst this
      show (cs.length-off) / sz=cp
      rw [he'] at h3
      rw [List.append_nil] at hlen
      have h4:cs.length-off=cp*sz:=by omega
      rw [h4,Nat.mul_div_cancel _ hpos]
    have mkcap:∀ k,k≤cp→(∀ c',YI cap k=some c'→cp-k=c')∧(YI cap k=none→off+k*sz+(cp-k)*y'.esz=y'.size):=by
     intro k hk'
     refine ⟨?_,?_⟩
     ·intro c' hc'
      unfold YI at hc'
      split at hc'
      ·rename_i c''
       cases hc'
       rw [hcp _ rfl]
      ·cases hc'
     ·intro hc'
      unfold YI at hc'
      split at hc'
      ·cases hc'
      ·have h3:=hu rfl
       rw [← h3,he',Nat.sub_mul]
       have:k*sz≤cp*sz:=Nat.mul_le_mul_right _ hk'
       omega
    unfold CG at hs2
    split at hs2
    ·rename_i m
     split at hs2
     ·rename_i hh
      unfold CF at hs2
      obtain ⟨q1,hs3⟩:=ZM hs2
      obtain ⟨q2,hs4⟩:=ZM hs3
      obtain ⟨q3,hs5⟩:=ZM hs4
      cases hs5
      have q1:=Z6 q1
      have q2:=Z6 q2
      have q3:=Z6 q3
      have hbb:=ZcS (P:=P) (w:=w) (isS:=true) (len:=len) (cap:=cp) hx hy hz g1 (by omega) q2 q3
      refine ⟨.slice (if m=lo.get 0 then some ⟨y'.blk,off,none⟩ else (some ⟨y'.blk,off,none⟩:Option Addr).map (·.add (lo.get 0*sz))) (hh-lo.get 0) (m-lo.get 0),?_,?_⟩
      ·rw [Xh ht (fun _ _ e=>by cases e)]
       simp only [Instr.slice,Sem.run_bind,run_underlying ht,Result.andThen_ok,hbb,run_sizeOf hsz,Sem.run_pure]
      ·by_cases hm:m=lo.get 0
       ·rw [if_pos hm]
        have:Nat.beq m (lo.get 0)=true:=by rw [hm]; exact Nat.beq_refl _
        rw [this,Jg]
        exact .slice hr (by omega) (fun k hk'=>by cases hk'; rfl) (fun hk'=>by cases hk')
       ·rw [if_neg hm]
        have:Nat.beq m (lo.get 0)=false:=by
         cases hb':Nat.beq m (lo.get 0)
         ·rfl
         ·exact absurd (ZD hb') hm
        rw [this,QO,Option.map_some,JM]
        exact .slice hr (by omega) (fun k hk'=>by cases hk'; rfl) (fun hk'=>by cases hk')
     ·cases hs2
    ·cases mx with
     | bad=>cases g3
     | some m=>rename_i hno; exact absurd rfl (hno m)
     | none =>
      cases hz
      unfold Zef at hs2
      obtain ⟨q1,hs3⟩:=ZM hs2
      obtain ⟨q2,hs4⟩:=ZM hs3
      have q1:=Z6 q1
      have q2:=Z6 q2
      have hbb:=Ly (P:=P) (w:=w) (isS:=true) (len:=len) (cap:=cp) hx hy g1 g2 (by omega) q2
      have run:(Instr.sliceAt t (.slice (some ⟨y'.blk,off,none⟩) len cp) x y none).run P w =
        .ok (.slice (if cp=lo.get 0 then some ⟨y'.blk,off,none⟩ else some ⟨y'.blk,off+lo.get 0*sz,none⟩) (hi.get len-lo.get 0) (cp-lo.get 0)) w:=by
       rw [Xh ht (fun _ _ e=>by cases e)]
       simp only [Instr.slice,Sem.run_bind,run_underlying ht,Result.andThen_ok,hbb,run_sizeOf hsz,Sem.run_pure,Option.map_some,JM]
      refine ⟨_,run,?_⟩
      rcases Ze hs4 with ⟨q3,hs5⟩ | ⟨q3,hs5⟩
      ·cases hs5
       have q3:=Qy q3
       rw [if_neg (by omega)]
       obtain ⟨a3,a4⟩:=mkcap (lo.get 0) (by omega)
       exact .slice hr (by omega) a3 a4
      ·have q3:=ZcM q3
       have q4:hi.get len=lo.get 0:=by omega
       rcases Ze hs5 with ⟨q5,hs6⟩ | ⟨q5,hs6⟩
       ·cases hs6
        have q6:=hex q5
        rw [if_pos (by omega),q4,Nat.sub_self,show cp-lo.get 0=0 by omega]
        exact .slice hr (Nat.le_refl _) (fun k hk'=>by cases hk'; rfl) (fun hk'=>by cases hk')
       ·rcases Ze hs6 with ⟨q7,hs7⟩ | ⟨q7,hs7⟩
        ·cases hs7
         have q7:=ZD q7
         rw [q4,q7,Nat.sub_zero,Nat.zero_mul,Nat.add_zero,ite_self]
         exact .slice hr (Nat.zero_le _) hcp hu
        ·cases hs7
         rw [q4,Nat.sub_self]
         by_cases hm:cp=lo.get 0
         ·rw [if_pos hm]; exact .ZX _ _
         ·rw [if_neg hm]; exact .ZX _ _
  ·cases hs
 ·cases hs
end Go.Proofs.YtheflbaejhlboaaGreatDoor.Ev
namespace Go.Proofs.YtheflbaejhlboaaGreatDoor.Ev
open Go
variable [Sig] {P:Program} {r:Rho} {s:St} {w:World}
def Zag (P:Program) (t:TypeId) (kk:KK):Prop:=match kk with
 | .one k=>XG P t=some k
 | .flat ks=>WD P t=some ks
theorem Si {t:TypeId} {kk:KK} {z:Zc} (h:Mq P t = .mk kk z):∃ k e,P.underlying t=some (.map k e)∧XZ P e=some z∧Zag P k kk:=by
 unfold Mq at h
 split at h
 ·rename_i k e h1
  split at h
  ·rename_i z' h2
   unfold mtK at h
   split at h
   ·rename_i h3; cases h; exact ⟨k,e,h1,h2,h3⟩
   ·rename_i h3; cases h; exact ⟨k,e,h1,h2,h3⟩
   ·cases h
  ·cases h
 ·cases h
theorem Gx {t:TypeId} {kk:KK} (hk:Zag P t kk) {x y:Zc} {b:Bool} (h:YD kk x y=some b) {u u':Value} (hx:VR r x u) (hy:VR r y u') :
  (Op.equal t u u').run P w = .ok b w∧(b=true→u=u'):=by
 cases kk with
 | one k=>exact Dr (k:=k) h hx hy hk 9999
 | flat ks =>
  simp only [YD] at h
  split at h
  ·cases hx with
   | agg ha=>cases hy with
    | agg hb =>
     obtain ⟨h1,h2⟩:=Gr (w:=w) (hk:WD P t=some ks) (Gq h) ha hb 9998
     exact ⟨h1,fun e=>by rw [h2 e]⟩
  ·cases h
theorem Rl {α : Type}:∀ (l:List α) (g : α → PUnit→Sem (ForInStep PUnit)),(∀ f∈l,(g f PUnit.unit).run P w = .ok (.yield PUnit.unit) w)→(forIn (m:=Sem) l PUnit.unit g).run P w = .ok PUnit.unit w
 | [],g,_=>by simp
 | f::l,g,h=>by
  simp only [List.forIn_cons,Sem.run_bind,h f (List.mem_cons_self ..),Result.andThen_ok]
  exact Rl l g fun x hx=>h x (List.mem_cons_of_mem _ hx)
theorem YT:∀ {fs:List Field} {i:Nat} {ks:List SK},Kw P i fs=some ks→∀ f∈fs,f.name≠ "_"∧(∃ k,XG P f.type=some k)∧i≤f.offset∧f.offset<i+ks.length
 | [],_,_,_,f,hf=>by cases hf
 | f::fs,i,ks,h,g,hg=>by
  obtain ⟨k,l,h1,h2,h3,rfl⟩:=SQ h
  rw [Bool.and_eq_true] at h1
  obtain ⟨h4,h5⟩:=h1
  have h4:=Nat.eq_of_beq_eq_true h4
  rcases List.mem_cons.1 hg with rfl | hg
  ·exact ⟨by simpa using h5,⟨k,h2⟩,by omega,by rw [List.length_cons]; omega⟩
  ·obtain ⟨a,b,c,d⟩:=YT h3 g hg
   exact ⟨a,b,by omega,by rw [List.length_cons]; omega⟩
theorem Rm {t:TypeId} {k:SK} (hk:XG P t=some k) (e:Bool) (n:Nat) (u:Value):(Instr.checkKey e (n+1) t u).run P w = .ok () w:=by
 unfold XG at hk
 split at hk
 ·rename_i h7; simp only [Instr.checkKey,Sem.run_bind,run_underlying h7,Result.andThen_ok]; rfl
 ·rename_i h7; simp only [Instr.checkKey,Sem.run_bind,run_underlying h7,Result.andThen_ok]; rfl
 ·rename_i h7; simp only [Instr.checkKey,Sem.run_bind,run_underlying h7,Result.andThen_ok]; rfl
 ·cases hk
theorem Rn:∀ {ks:List SK} {a b:List Zc},RS ks a b=some true→a.length=ks.length
 | [],[],_,_=>rfl
 | [],_::_,[],h=>by cases h
 | [],_::_,_::_,h=>by cases h
 | _::_,[],_,h=>by cases h
 | k::ks,x::xs,[],h=>by cases h
 | k::ks,x::xs,y::ys,h=>by
  simp only [RS] at h
  rcases Sg h with ⟨_,h2⟩ | ⟨_,h2⟩
  ·rw [List.length_cons,List.length_cons,Rn h2]
  ·cases h2
theorem Gy {kk:KK} {x:Zc} (h:Rj kk x=true):YD kk x x=some true:=by
 unfold Rj at h
 split at h
 ·assumption
 ·cases h
theorem run_checkKey {t:TypeId} {kk:KK} (hk:Zag P t kk) {x:Zc} (ho:Rj kk x=true) {u:Value} (hx:VR r x u) (e:Bool) (m:Nat) (hm:2≤m):(Instr.checkKey e m t u).run P w = .ok () w:=by
 have h:=Gy ho
 obtain ⟨n,rfl⟩:∃ n,m=n+1+1:=⟨m-2,by omega⟩
 cases kk with
 | one k=>exact Rm (k:=k) hk e (n+1) u
 | flat ks =>
  have hk:WD P t=some ks:=hk
  simp only [YD] at h
  split at h
  ·rename_i a b e1 e2
   cases hx with
   | @agg _ l' ha =>
    obtain ⟨fs,h1,_,h3⟩:=YP hk
    have hl:=Rn h
    have hlen:=ha.length
    have inner:∀ (t:TypeId) (k:SK) (u:Value),XG P t=some k→(Instr.checkKey e (n+1) t u).run P w = .ok () w:=fun t k u hk=>Rm hk e n u
    generalize n+1=m at inner ⊢
    simp only [Instr.checkKey,Sem.run_bind,run_underlying h1,Result.andThen_ok]
    rw [← Array.forIn_toList,Rl]
    ·rfl
    ·intro f hf
     obtain ⟨h5,⟨k,h6⟩,h7,h8⟩:=YT h3 f hf
     have h9:f.offset<l'.length:=by omega
     have h10:=Jy (P:=P) (w:=w) (Gp h6) (List.getElem?_eq_getElem h9)
     simp only [ne_eq,h5,not_false_eq_true,if_true,Sem.run_bind,h10,Result.andThen_ok,inner _ _ _ h6,Sem.run_pure]
  ·cases h
def FR (r:Rho) (u:Value) (es:List Entry) (l:List MapEntry) (i:Nat) (f:Fd) (o:Option (Nat×Value)):Prop:=match f with
 | .got j v b=>∃ k m key,j=i+k∧l[k]? = some m∧es[k]? = some (key,v,b)∧o=some (j,m.val)∧m.key=u
 | .none=>o=none
 | .bad=>True
theorem FR.step {u:Value} {e:Entry} {m:MapEntry} {es:List Entry} {l:List MapEntry} {i:Nat} {f:Fd} {o:Option (Nat×Value)} (h:FR r u es l (i+1) f o):FR r u (e::es) (m::l) i f o:=by
 cases f with
 | got j v b =>
  obtain ⟨k,m',key,h1,h2,h3,h4,h5⟩:=h
  exact ⟨k+1,m',key,by omega,by rw [List.getElem?_cons_succ]; exact h2,by rw [List.getElem?_cons_succ]; exact h3,h4,h5⟩
 | none=>exact h
 | bad=>trivial
theorem MU {k:SK} {x y:Zc} {c:Bool} (h:eqK k x y=some c):(k = .i∧∃ j a b,x = .int j a∧y = .int j b∧c=(a==b))∨(k = .s∧∃ a b,x = .str a∧y = .str b∧c=(a==b)) ∨
  (k = .b∧∃ a b,x = .bool a∧y = .bool b∧c=(a==b)):=by
 unfold eqK at h
 split at h
 ·rcases Ze h with ⟨h1,h2⟩ | ⟨_,h2⟩
  ·cases h2
   have h3:=Jd h1
   subst h3
   exact .inl ⟨rfl,_,_,_,rfl,rfl,QC _ _⟩
  ·cases h2
 ·cases h
  exact .inr (.inl ⟨rfl,_,_,rfl,rfl,Qh _ _⟩)
 ·rename_i a b
  cases h
  exact .inr (.inr ⟨rfl,_,_,rfl,rfl,by cases a <;> cases b <;> rfl⟩)
 ·cases h
theorem MV {t:TypeId} {k:SK} (hk:XG P t=some k):∃ d,P.underlying t=some d∧((k = .b∧d = .bool)∨(k = .i∧∃ j,d = .int j)∨(k = .s∧d = .string)):=by
 unfold XG at hk
 split at hk
 ·rename_i h7; cases hk; exact ⟨_,h7,.inl ⟨rfl,rfl⟩⟩
 ·rename_i h7; cases hk; exact ⟨_,h7,.inr (.inl ⟨rfl,_,rfl⟩)⟩
 ·rename_i h7; cases hk; exact ⟨_,h7,.inr (.inr ⟨rfl,rfl⟩)⟩
 ·cases hk
theorem MW (a b:List UInt8):((ByteArray.mk ⟨a⟩)==(ByteArray.mk ⟨b⟩))=(a==b):=by
 rw [beq_toListBytes,ByteArray.toList_eq,ByteArray.toList_eq]
theorem SV {t:TypeId} {k:SK} (hk:XG P t=some k) {d:TypeDesc} (hd:P.underlying t=some d) {x y:Zc} {u u':Value} (hx:VR r x u) (hy:VR r y u') {c:Bool} (h:eqK k x y=some c) :
  Instr.sameNow d u u'=some c∧(c=true→u'=u):=by
 obtain ⟨d',h1,h2⟩:=MV hk
 rw [hd] at h1
 cases h1
 rcases MU h with ⟨rfl,j,a,b,rfl,rfl,rfl⟩ | ⟨rfl,a,b,rfl,rfl,rfl⟩ | ⟨rfl,a,b,rfl,rfl,rfl⟩
 ·rcases h2 with ⟨h3,_⟩ | ⟨_,j',rfl⟩ | ⟨h3,_⟩
  ·cases h3
  ·cases hx; cases hy
   refine ⟨by simp [Instr.sameNow],fun e => ?_⟩
   rw [beq_iff_eq] at e
   rw [e]
  ·cases h3
 ·rcases h2 with ⟨h3,_⟩ | ⟨h3,_⟩ | ⟨_,rfl⟩
  ·cases h3
  ·cases h3
  ·cases hx; cases hy
   refine ⟨by simp [Instr.sameNow,MW],fun e => ?_⟩
   rw [beq_iff_eq] at e
   rw [e]
 ·rcases h2 with ⟨_,rfl⟩ | ⟨h3,_⟩ | ⟨h3,_⟩
  ·cases hx; cases hy
   refine ⟨by simp [Instr.sameNow],fun e => ?_⟩
   rw [beq_iff_eq] at e
   rw [e]
  ·cases h3
  ·cases h3
theorem SW {kk:KK} {x key v:Zc} {b:Nat} {es:List Entry} {i:Nat} (h:QP kk x ((key,v,b)::es) i ≠ .bad) :
  (YD kk x key=some true∧QP kk x ((key,v,b)::es) i = .got i v b)∨(YD kk x key=some false∧QP kk x ((key,v,b)::es) i=QP kk x es (i+1)):=by
 simp only [QP] at h ⊢
 split at h
 ·rename_i h1; exact .inl ⟨h1,rfl⟩
 ·rename_i h1; exact .inr ⟨h1,rfl⟩
 ·exact absurd rfl h
theorem SX {t:TypeId} {k:SK} (hk:XG P t=some k) {x:Zc} {u:Value} (hx:VR r x u) {d:TypeDesc} (hd:P.underlying t=some d):∀ {es:List Entry} {l:List MapEntry} (i:Nat),ERs r es l →
  QP (.one k) x es i ≠ .bad→∃ o,Instr.findNow d u l i=some o∧FR r u es l i (QP (.one k) x es i) o
 | _,_,i,.nil,_=>⟨none,rfl,rfl⟩
 | (key,v,b)::es,m::l,i,.cons he ht,hn=>by
  obtain ⟨he1,he2,he3⟩:=he
  rcases SW hn with ⟨h1,h2⟩ | ⟨h1,h2⟩
  ·obtain ⟨h3,h4⟩:=SV hk hd hx he1 (h1:eqK k x key=some true)
   rw [h2]
   refine ⟨some (i,m.val),by simp only [Instr.findNow,h3],0,m,key,rfl,rfl,rfl,rfl,h4 rfl⟩
  ·obtain ⟨h3,_⟩:=SV hk hd hx he1 (h1:eqK k x key=some false)
   rw [h2] at hn ⊢
   obtain ⟨o,h5,h6⟩:=SX hk hx hd (i+1) ht hn
   exact ⟨o,by simp only [Instr.findNow,h3]; exact h5,h6.step⟩
theorem VV {t:TypeId} {kk:KK} (hk:Zag P t kk) {x:Zc} {u:Value} (hx:VR r x u):∀ {es:List Entry} {l:List MapEntry} (i:Nat),ERs r es l →
  QP kk x es i ≠ .bad→∃ o,(Instr.findAsking t u l i).run P w = .ok o w∧FR r u es l i (QP kk x es i) o
 | _,_,i,.nil,_=>⟨none,rfl,rfl⟩
 | (key,v,b)::es,m::l,i,.cons he ht,hn=>by
  obtain ⟨he1,he2,he3⟩:=he
  rcases SW hn with ⟨h1,h2⟩ | ⟨h1,h2⟩
  ·obtain ⟨h3,h4⟩:=Gx (w:=w) hk h1 hx he1
   rw [h2]
   refine ⟨some (i,m.val),?_,0,m,key,rfl,rfl,rfl,rfl,(h4 rfl).symm⟩
   simp only [Instr.findAsking,Sem.run_bind,h3,Result.andThen_ok,if_true,Sem.run_pure]
  ·obtain ⟨h3,_⟩:=Gx (w:=w) hk h1 hx he1
   rw [h2] at hn ⊢
   obtain ⟨o,h5,h6⟩:=VV hk hx (i+1) ht hn
   refine ⟨o,?_,h6.step⟩
   simp only [Instr.findAsking,Sem.run_bind,h3,Result.andThen_ok,Bool.false_eq_true,if_false]
   exact h5
theorem run_findKey {t:TypeId} {kk:KK} (hk:Zag P t kk) {x:Zc} {u:Value} (hx:VR r x u) {es:List Entry} {l:List MapEntry} (he:ERs r es l) (hn:QP kk x es 0 ≠ .bad) :
  ∃ o,(Instr.findKey t u l).run P w = .ok o w∧FR r u es l 0 (QP kk x es 0) o:=by
 cases kk with
 | one k =>
  obtain ⟨d,h1,_⟩:=MV (hk:XG P t=some k)
  obtain ⟨o,h2,h3⟩:=SX (hk:XG P t=some k) hx h1 0 he hn
  exact ⟨o,by simp only [Instr.findKey,Sem.run_bind,run_underlying h1,Result.andThen_ok,h2,Sem.run_pure],h3⟩
 | flat ks =>
  obtain ⟨fs,h1,_⟩:=YP (hk:WD P t=some ks)
  obtain ⟨o,h2,h3⟩:=VV (w:=w) hk hx 0 he hn
  refine ⟨o,?_,h3⟩
  simp only [Instr.findKey,Sem.run_bind,run_underlying h1,Result.andThen_ok]
  cases l with
  | nil =>
   simp only [Instr.findNow]
   exact h2
  | cons m l =>
   have:Instr.findNow (.struct fs) u (m::l) 0=none:=by
    simp only [Instr.findNow]
    have:Instr.sameNow (.struct fs) u m.key=none:=rfl
    rw [this]
   rw [this]
   exact h2
theorem FR.val {u:Value} {es:List Entry} {l:List MapEntry} (he:ERs r es l) {i:Nat} {v:Zc} {b j:Nat} {o:Option (Nat×Value)} (h:FR r u es l j (.got i v b) o):∃ val,o=some (i,val)∧VR r v val:=by
 obtain ⟨k,m,key,h1,h2,h3,h4,_⟩:=h
 refine ⟨m.val,h4,?_⟩
 clear h4 h1
 induction he generalizing k with
 | nil=>cases h2
 | cons hh ht ih =>
  cases k with
  | zero=>cases h2; cases h3; exact hh.2.1
  | succ k=>exact ih k h2 h3
theorem Zah {t:TypeId} (h:RelB r s w) {ok:Bool} {k m v:Zc} (hl:EE s ok (Mq P t) k m = .ok v) {a b:Value} (hk:VR r k b) (hm:VR r m a):ZO P r w (Instr.lookup t a b ok) v:=by
 unfold EE at hl
 split at hl
 ·rename_i kk z hmt
  obtain ⟨hko,hl1⟩:=ZM hl
  obtain ⟨kt,et,h1,h2,h3⟩:=Si hmt
  obtain ⟨_,zu,_,_,hz,hzr⟩:=Xn h2
  have hck:=fun e=>run_checkKey (w:=w) h3 hko hk e 10000 (by decide)
  have fin:∀ (u:Value) (b':Bool) (v':Zc),VR r v' u→v=(sel ok (.tuple [v',.bool b']) v')→VR r v (if ok then .tuple #[u,.bool b'] else u):=by
   intro u b' v' hu hv
   subst hv
   cases ok
   ·exact hu
   ·exact .tuple (.cons hu (.cons (.bool _) .nil))
  unfold Zeb at hl1
  split at hl1
  ·cases hl1
   cases hm
   refine ⟨_,?_,fin zu false z (hzr r) rfl⟩
   have hfk:(Instr.findKey kt b []).run P w = .ok none w:=by
    obtain ⟨o,h5,h6⟩:=run_findKey (w:=w) h3 hk (es:=[]) (l:=[]) .nil (by intro e; cases e)
    have:o=none:=h6
    rw [h5,this]
   simp [Instr.lookup,run_underlying h1,hck,hfk,hz]
  ·rename_i id
   unfold Zea at hl1
   split at hl1
   ·rename_i es c hma
    cases hm with
    | map hr =>
     obtain ⟨l,h4,h5⟩:=QA h hr hma
     have hg:=Qm (P:=P) h4
     have hne:QP kk k es 0 ≠ .bad:=by
      intro e
      rw [e] at hl1
      cases hl1
     obtain ⟨o,h6,h7⟩:=run_findKey (w:=w) h3 hk h5 hne
     cases hf:QP kk k es 0 with
     | bad=>exact absurd hf hne
     | none =>
      rw [hf] at hl1 h7
      cases hl1
      have:o=none:=h7
      subst this
      refine ⟨_,?_,fin zu false z (hzr r) rfl⟩
      simp [Instr.lookup,run_underlying h1,hg,hck,h6,hz]
     | got i v' b' =>
      rw [hf] at hl1 h7
      cases hl1
      obtain ⟨val,rfl,hv⟩:=h7.val h5
      refine ⟨_,?_,fin val true v' hv rfl⟩
      simp [Instr.lookup,run_underlying h1,hg,hck,h6]
   ·cases hl1
  ·cases hl1
 ·cases hl
end Go.Proofs.YtheflbaejhlboaaGreatDoor.Ev
namespace Go.Proofs.YtheflbaejhlboaaGreatDoor.Ev
open Go
variable [Sig] {P:Program} {r:Rho} {s:St} {w:World}
def VN (P:Program) (r:Rho) (s:St) (w:World) (x:Sem Value) (v:Zc) (s':St):Prop:=∃ q w' u,x.run P w = .ok u w'∧VR q v u∧Ext r s w q s' w'
def Gz (P:Program) (r:Rho) (s:St) (w:World) (x:Sem Unit) (s':St):Prop:=∃ q w',x.run P w = .ok () w'∧Ext r s w q s' w'
theorem ZO.Zfj (h:Rel r s w) {x:Sem Value} {v:Zc} (hg:ZO P r w x v):VN P r s w x v s:=by
 obtain ⟨u,h1,h2⟩:=hg
 exact ⟨r,w,u,h1,h2,Ext.refl h⟩
theorem QL {b:Nat} {o o':Obj} (h:w.heap[b]? = some o') (hn:∀ c t f,o' ≠ .cells c t f):(setObj b o).run P w = .ok () (upd w b o):=by
 simp only [setObj,Sem.run,h]
 cases o' <;> first | rfl | exact absurd rfl (hn _ _ _)
theorem KX (h:Rel r s w) {id:Nat} {x:RB} (hx:r id=some x) {b:Zd} (hb:s.get id=some b) {o':Obj} (ho:w.heap[x.blk]? = some o') {es:List Entry} {l:List MapEntry} (he:ERs r es l) (c:Nat) :
  Ext r s w r (s.put id (.map es c)) (upd w x.blk (.map ⟨l⟩ c)) :=
 Ext.put h hb hx (KD ho) ⟨l,rfl,he⟩ (fun k hk=>SM _ hk) (WH _ _) rfl rfl rfl
theorem Ro {k:SK} {x:Zc} {c:Bool} (h:eqK k x x=some c) {u:Value} (hx:VR r x u) (n:Nat):Instr.sameBits n u u=true:=by
 rcases MU h with ⟨rfl,j,a,b,rfl,_,_⟩ | ⟨rfl,a,b,rfl,_,_⟩ | ⟨rfl,a,b,rfl,_,_⟩
 ·cases hx; simp [Instr.sameBits]
 ·cases hx; simp [Instr.sameBits,MW]
 ·cases hx; simp [Instr.sameBits]
theorem MX (n:Nat):∀ {ks:List SK} {a:List Zc} {xs:List Value},RS ks a a=some true→VRs r a xs→(xs.zip xs).all (fun (x,y)=>Instr.sameBits n x y)=true
 | _,_,_,_,.nil=>rfl
 | [],_,_,h,.cons _ _=>by cases h
 | k::ks,_,_,h,.cons hx ht=>by
  simp only [RS] at h
  rcases Sg h with ⟨h1,h2⟩ | ⟨_,h2⟩
  ·rw [List.zip_cons_cons,List.all_cons,MX n h2 ht]
   simp [Ro h1 hx n]
  ·cases h2
theorem MY {kk:KK} {x:Zc} (ho:Rj kk x=true) {u:Value} (hx:VR r x u):(Instr.keyThatStays u u).run P w = .ok u w:=by
 have h:=Gy ho
 have:Instr.sameBits 10000 u u=true:=by
  cases kk with
  | one k=>exact Ro (k:=k) h hx 10000
  | flat ks =>
   simp only [YD] at h
   split at h
   ·cases hx with
    | agg ha =>
     have:=MX 9999 h ha
     show (_ && _)=true
     rw [Bool.and_eq_true]
     exact ⟨by simp,this⟩
   ·cases h
 simp [Instr.keyThatStays,this]
theorem ERs.RU {u val:Value} {v:Zc} (hv:VR r v val):∀ {es:List Entry} {l:List MapEntry},ERs r es l→∀ (k:Nat) {m:MapEntry},l[k]? = some m→m.key=u →
  ERs r (RU v k es) (l.modify k fun e=>{ e with key:=u,val:=val })
 | _,_,.nil,_,_,h,_=>by cases h
 | (key,_,b)::es,m'::l,.cons he ht,0,m,h,hk=>by
  cases h
  subst hk
  exact .cons ⟨he.1,hv,he.2.2⟩ ht
 | _,_,.cons he ht,k+1,m,h,hk => .cons he (ERs.RU hv ht k h hk)
theorem ERs.CZ {u:Value}:∀ {es:List Entry} {l:List MapEntry},ERs r es l→∀ (k:Nat) {m:MapEntry},l[k]? = some m→m.key=u→ERs r es (l.modify k fun e=>{ e with key:=u })
 | _,_,.nil,_,_,h,_=>by cases h
 | (key,_,b)::es,m'::l,.cons he ht,0,m,h,hk=>by
  cases h
  subst hk
  exact .cons ⟨he.1,he.2.1,he.2.2⟩ ht
 | _,_,.cons he ht,k+1,m,h,hk => .cons he (ERs.CZ ht k h hk)
theorem ERs.append:∀ {es fs:List Entry} {l m:List MapEntry},ERs r es l→ERs r fs m→ERs r (es++fs) (l++m)
 | _,_,_,_,.nil,h=>h
 | _,_,_,_,.cons h t,k => .cons h (ERs.append t k)
theorem WQ {α : Type} (l:List α) (i:Nat) (f : α → α):(⟨l⟩:Array α).modify i f=⟨l.modify i f⟩:=by
 apply Array.ext'
 simp
theorem MZ {α : Type} (l:List α) (x : α):(⟨l⟩:Array α).push x=⟨l++[x]⟩:=by
 apply Array.ext'
 simp
theorem ZcT {t:TypeId} (h:Rel r s w) {k v m:Zc} {s':St} {v':Zc} (hl:Ze2 s (Mq P t) k v m = .ok v' s') {a b c:Value} (hk:VR r k b) (hv:VR r v c) (hm:VR r m a) :
  v'=Qu∧Gz P r s w (Instr.mapUpdate t a b c) s':=by
 unfold Ze2 at hl
 split at hl
 ·rename_i id kk z hmt
  obtain ⟨hko,hl1⟩:=Zr hl
  obtain ⟨kt,et,h1,h2,h3⟩:=Si hmt
  have hck:=fun e=>run_checkKey (w:=w) h3 hko hk e 10000 (by decide)
  unfold Zg0 at hl1
  split at hl1
  ·rename_i es cl hma
   cases hm with
   | map hr =>
    obtain ⟨l,h4,h5⟩:=QA h.toRelB hr hma
    have hg:=Qm (P:=P) h4
    have hne:QP kk k es 0 ≠ .bad:=by
     intro e
     rw [e] at hl1
     cases hl1
    obtain ⟨o,h6,h7⟩:=run_findKey (w:=w) h3 hk h5 hne
    cases hf:QP kk k es 0 with
    | bad=>exact absurd hf hne
    | none =>
     rw [hf] at hl1 h7
     cases hl1
     have:o=none:=h7
     subst this
     refine ⟨rfl,r,_,?_,KX h hr (JO hma) h4 (h5.append (.cons (m:=⟨b,c,cl⟩) ⟨hk,hv,rfl⟩ .nil)) (cl+1)⟩
     simp only [Instr.mapUpdate,Sem.run_bind,run_underlying h1,Result.andThen_ok,hg,hck,h6,MZ]
     exact QL h4 (fun _ _ _ e=>by cases e)
    | got i v' b' =>
     rw [hf] at hl1 h7
     cases hl1
     obtain ⟨j,m',key,e1,e2,e3,rfl,e5⟩:=h7
     have e1:i=j:=by omega
     subst e1
     refine ⟨rfl,r,_,?_,KX h hr (JO hma) h4 (h5.RU hv i e2 e5) cl⟩
     have hkey:(((⟨l⟩:Array MapEntry)[i]?).map (·.key)).getD b=b:=by
      rw [List.getElem?_toArray,e2]
      exact e5
     simp only [Instr.mapUpdate,Sem.run_bind,run_underlying h1,Result.andThen_ok,hg,hck,h6,hkey,MY hko hk,WQ]
     exact QL h4 (fun _ _ _ e=>by cases e)
  ·cases hl1
 ·cases hl
theorem B6 {t:TypeId} (h:Rel r s w) {k m:Zc} {s':St} {v:Zc} (hl:Df s (Mq P t) k m = .ok v s') {a b:Value} (hk:VR r k b) (hm:VR r m a) :
  VN P r s w (Instr.mapEntry t a b) v s':=by
 unfold Df at hl
 split at hl
 ·rename_i id kk z hmt
  obtain ⟨hko,hl1⟩:=Zr hl
  obtain ⟨kt,et,h1,h2,h3⟩:=Si hmt
  obtain ⟨_,zu,_,_,hz,hzr⟩:=Xn h2
  have hck:=fun e=>run_checkKey (w:=w) h3 hko hk e 10000 (by decide)
  unfold EH at hl1
  split at hl1
  ·rename_i es cl hma
   cases hm with
   | map hr =>
    obtain ⟨l,h4,h5⟩:=QA h.toRelB hr hma
    have hg:=Qm (P:=P) h4
    have hne:QP kk k es 0 ≠ .bad:=by
     intro e
     rw [e] at hl1
     cases hl1
    obtain ⟨o,h6,h7⟩:=run_findKey (w:=w) h3 hk h5 hne
    cases hf:QP kk k es 0 with
    | bad=>exact absurd hf hne
    | none =>
     rw [hf] at hl1 h7
     cases hl1
     have:o=none:=h7
     subst this
     refine ⟨r,_,.tuple #[zu,.int .i64 (Int.ofNat cl)],?_,.tuple (.cons (hzr r) (.cons (.int _ _) .nil)),KX h hr (JO hma) h4 (h5.append (.cons (m:=⟨b,zu,cl⟩) ⟨hk,hzr r,rfl⟩ .nil)) (cl+1)⟩
     simp only [Instr.mapEntry,Sem.run_bind,run_underlying h1,Result.andThen_ok,hg,hck,h6,MZ,hz]
     rw [QL h4 (fun _ _ _ e=>by cases e)]
     rfl
    | got i v' b' =>
     rw [hf] at hl1 h7
     cases hl1
     obtain ⟨val,hval,hvr⟩:=h7.val h5
     obtain ⟨j,m',key,e1,e2,e3,e4,e5⟩:=h7
     have e1:i=j:=by omega
     subst e1
     rw [e4] at hval
     cases hval
     subst e4
     have hborn:m'.born=b':=by
      clear h6 hf hne h4 hg hma hl e5 hvr e1
      induction h5 generalizing i with
      | nil=>cases e2
      | cons hh ht ih =>
       cases i with
       | zero=>cases e2; cases e3; exact hh.2.2
       | succ i=>exact ih i e2 e3
     refine ⟨r,_,.tuple #[m'.val,.int .i64 (Int.ofNat b')],?_,.tuple (.cons hvr (.cons (.int _ _) .nil)),KX h hr (JO hma) h4 (h5.CZ i e2 e5) cl⟩
     have hkey:(((⟨l⟩:Array MapEntry)[i]?).map (·.key)).getD b=b:=by
      rw [List.getElem?_toArray,e2]
      exact e5
     have hb2:(((⟨l⟩:Array MapEntry)[i]?).map (fun x=>(x.born:Int))).getD 0=(b':Int):=by
      rw [List.getElem?_toArray,e2]
      exact congrArg Int.ofNat hborn
     simp only [Instr.mapEntry,Sem.run_bind,run_underlying h1,Result.andThen_ok,hg,hck,h6,hkey,MY hko hk,WQ]
     rw [QL h4 (fun _ _ _ e=>by cases e)]
     simp only [Result.andThen_ok,hb2]
     rfl
  ·cases hl1
 ·cases hl
end Go.Proofs.YtheflbaejhlboaaGreatDoor.Ev
namespace Go.Proofs.YtheflbaejhlboaaGreatDoor.Ev
open Go
variable [Sig] {P:Program} {r:Rho} {s:St} {w:World}
theorem SY {b:Nat} {v:Zc} {val:Value} (hv:VR r v val):∀ {es es':List Entry} {l:List MapEntry},Sd b v es=some es'→ERs r es l →
  ∃ i,l.findIdx? (fun e=>(e.born:Int)==(b:Int))=some i∧ERs r es' (l.modify i fun e=>{ e with val:=val })
 | [],_,_,h,_=>by cases h
 | (k,u,c)::es,es',_,h,.cons (m:=m) (l':=l) hh ht=>by
  simp only [Sd] at h
  have hb:m.born=c:=hh.2.2
  rcases Ze h with ⟨h0,h1⟩ | ⟨h0,h1⟩
  ·cases h1
   have h2:=ZD h0
   subst h2
   refine ⟨0,?_,.cons ⟨hh.1,hv,hh.2.2⟩ ht⟩
   simp [List.findIdx?_cons,hb]
  ·split at h1
   ·rename_i es1 h2
    cases h1
    obtain ⟨i,h3,h4⟩:=SY hv h2 ht
    refine ⟨i+1,?_,.cons hh h4⟩
    have:b≠c:=Je h0
    have h5:((m.born:Int)==(b:Int))=false:=by
     rw [hb]
     simp
     omega
    rw [List.findIdx?_cons,h5]
    simp [h3]
   ·cases h1
theorem B7 (h:Rel r s w) {t:TypeId} {b v m:Zc} {s':St} {v':Zc} (hl:Dg s (asNat b) v m = .ok v' s') {x y z:Value} (hb:VR r b y) (hv:VR r v z) (hm:VR r m x) :
  v'=Qu∧Gz P r s w (Instr.entryStore t x y z) s':=by
 unfold Dg at hl
 split at hl
 ·rename_i id
  unfold EI at hl
  split at hl
  ·rename_i es c n hma hn
   obtain ⟨k,rfl⟩:=JQ hn hb
   cases hm with
   | map hr =>
    obtain ⟨l,h4,h5⟩:=QA h.toRelB hr hma
    have hg:=Qm (P:=P) h4
    unfold Cz at hl
    split at hl
    ·rename_i es' hes
     cases hl
     obtain ⟨i,h6,h7⟩:=SY hv hes h5
     refine ⟨rfl,r,_,?_,KX h hr (JO hma) h4 h7 c⟩
     have h8:(⟨l⟩:Array MapEntry).findIdx? (fun e=>(e.born:Int)==Int.ofNat n)=some i:=by
      rw [List.findIdx?_toArray]
      exact h6
     simp only [Instr.entryStore,Sem.run_bind,hg,Result.andThen_ok,asInt,asIntOf,Sem.run_pure,h8,WQ]
     exact QL h4 (fun _ _ _ e=>by cases e)
    ·cases hl
  ·cases hl
 ·cases hl
theorem ERs.erase:∀ {es:List Entry} {l:List MapEntry},ERs r es l→∀ (i:Nat),ERs r (Lg i es) (l.eraseIdx i)
 | _,_,.nil,i=>by cases i <;> exact .nil
 | _,_,.cons h t,0=>t
 | _,_,.cons h t,i+1 => .cons h (ERs.erase t i)
theorem Dw {α : Type} (l:List α) (i:Nat):(⟨l⟩:Array α).eraseIdxIfInBounds i=⟨l.eraseIdx i⟩:=by
 apply Array.ext'
 simp [Array.eraseIdxIfInBounds]
 split
 ·simp
 ·rename_i hi
  rw [List.eraseIdx_of_length_le (by omega)]
theorem ZcU {t:TypeId} {ts:Array TypeId} {ty:TypeId} (ht:ts[0]? = some t) (h:Rel r s w) {k m:Zc} {s':St} {v:Zc} (hl:Ze4 (Mq P t) s m k = .ok v s') {a b:Value} (hk:VR r k b) (hm:VR r m a) :
  VN P r s w (Builtin.delete_ ts ty #[a,b]) v s':=by
 unfold Ze4 at hl
 split at hl
 ·rename_i id kk z hmt
  obtain ⟨hko,hl1⟩:=Zr hl
  obtain ⟨kt,et,h1,h2,h3⟩:=Si hmt
  have hck:=fun e=>run_checkKey (w:=w) h3 hko hk e 10000 (by decide)
  unfold Zg2 at hl1
  split at hl1
  ·rename_i es cl hma
   cases hm with
   | map hr =>
    obtain ⟨l,h4,h5⟩:=QA h.toRelB hr hma
    have hg:=Qm (P:=P) h4
    have hne:QP kk k es 0 ≠ .bad:=by
     intro e
     rw [e] at hl1
     cases hl1
    obtain ⟨o,h6,h7⟩:=run_findKey (w:=w) h3 hk h5 hne
    cases hf:QP kk k es 0 with
    | bad=>exact absurd hf hne
    | none =>
     rw [hf] at hl1 h7
     cases hl1
     have:o=none:=h7
     subst this
     refine ⟨r,_,.tuple #[],?_,.tuple .nil,KX h hr (JO hma) h4 h5 cl⟩
     simp only [Builtin.delete_,ht,Sem.run_bind,run_underlying h1,Result.andThen_ok,hg,hck,h6,List.getElem?_toArray,List.getElem?_cons_zero,List.getElem?_cons_succ]
     rw [QL h4 (fun _ _ _ e=>by cases e)]
     rfl
    | got i v' b' =>
     rw [hf] at hl1 h7
     cases hl1
     obtain ⟨val,rfl,hvr⟩:=h7.val h5
     refine ⟨r,_,.tuple #[],?_,.tuple .nil,KX h hr (JO hma) h4 (h5.erase i) cl⟩
     simp only [Builtin.delete_,ht,Sem.run_bind,run_underlying h1,Result.andThen_ok,hg,hck,h6,List.getElem?_toArray,List.getElem?_cons_zero,List.getElem?_cons_succ,Dw]
     rw [QL h4 (fun _ _ _ e=>by cases e)]
     rfl
  ·cases hl1
 ·cases hl
theorem ERs.Lz {l:List MapEntry} (h:ERs r [] l):l=[]:=by cases h; rfl
theorem ERs.C0 {e:Entry} {l:List MapEntry} (h:ERs r [e] l):∃ m,l=[m]∧ER r e m:=by
 cases h with
 | cons h t=>exact ⟨_,by rw [t.Lz],h⟩
theorem QU {b:Nat} {m:Option Nat} {since st:Nat} {seen:List Nat} (h:w.heap[b]? = some (.mapIter m since ⟨seen⟩ st)) :
  (getObj b).run P w = .ok (.mapIter m since ⟨seen⟩ st) w:=by
 simp only [getObj,Sem.run,h]
theorem YU (n:Nat):∀ l:List Nat,Wv n l=l.contains n
 | []=>rfl
 | m::l=>by
  simp only [Wv,List.contains_cons,YU n l]
  cases h:Nat.beq n m
  ·have:=Je h
   have:(n==m)=false:=by simp [this]
   rw [this]
   rfl
  ·have:=ZD h
   subst this
   simp
   rfl
theorem Vq {seen:List Nat}:∀ {es:List Entry} {l:List MapEntry},ERs r es l→ERs r (leftOf seen es) (l.filter fun e => !seen.contains e.born)
 | _,_,.nil => .nil
 | (k,v,b)::es,m::l,.cons h t=>by
  have hb:m.born=b:=h.2.2
  simp only [leftOf,YU]
  cases hc:seen.contains b
  ·rw [List.filter_cons_of_pos (by rw [hb,hc]; rfl)]
   exact .cons h (Vq t)
  ·rw [List.filter_cons_of_neg (by rw [hb,hc]; simp)]
   exact Vq t
theorem SZ {last:Nat}:∀ {es:List Entry} {l:List MapEntry},ERs r es l→Se last es=l.all fun e=>decide (e.born≥last)
 | _,_,.nil=>rfl
 | (k,v,b)::es,m::l,.cons h t=>by
  have hb:m.born=b:=h.2.2
  simp only [Se,List.all_cons,hb,SZ t]
  cases hc:Nat.ble last b
  ·have:=YR hc
   have:decide (b≥last)=false:=by simp; omega
   rw [this]
   rfl
  ·have:=Z6 hc
   have:decide (b≥last)=true:=by simp; omega
   rw [this]
   rfl
theorem S4 {last:Nat} {seen:List Nat} {es:List Entry} {l:List MapEntry} (h:ERs r es l) (hg:YE last seen es=false) :
  (!(⟨seen⟩:Array Nat).isEmpty && !(⟨l⟩:Array MapEntry).isEmpty && (⟨l⟩:Array MapEntry).all fun e=>decide (e.born≥last))=false:=by
 cases seen with
 | nil=>simp
 | cons n seen =>
  cases h with
  | nil=>simp
  | cons hh ht =>
   have:=SZ (last:=last) (.cons hh ht)
   simp only [YE] at hg
   rw [hg] at this
   simp only [List.all_toArray]
   rw [← this]
   simp
theorem GA (h:Rel r s w) {id m:Nat} {x y:RB} (hx:r id=some x) (hy:r m=some y) {b:Zd} (hb:s.get id=some b) {o':Obj} (ho:w.heap[x.blk]? = some o') (since st:Nat) (seen:List Nat) :
  Ext r s w r (s.put id (.mapIter (some m) since seen st)) (upd w x.blk (.mapIter (some y.blk) since ⟨seen⟩ st)) :=
 Ext.put h hb hx (KD ho) ⟨y,hy,rfl⟩ (fun k hk=>SM _ hk) (WH _ _) rfl rfl rfl
theorem LB:(Question.mapNext 1).forced=true:=rfl
theorem Zai (h:Rel r s w) {t:TypeId} {x v:Zc} {s':St} (hl:EK s x = .ok v s') {a:Value} (hx:VR r x a):VN P r s w (Instr.next a false t) v s':=by
 unfold EK at hl
 split at hl
 ·rename_i id
  cases hx with
  | ptr hr =>
   rename_i x
   unfold Zed at hl
   split at hl
   ·rename_i since seen st hb
    cases hl
    obtain ⟨o,h1,h2⟩:=h.block id _ x hb hr
    have h2:o = .mapIter none since ⟨seen⟩ st:=h2
    subst h2
    refine ⟨r,w,.tuple #[.bool false],?_,.tuple (.cons (.bool _) .nil),Ext.refl h⟩
    simp only [Instr.next,Sem.run_bind,QU h1,Result.andThen_ok,Sem.run_pure]
   ·rename_i m since seen last hb
    obtain ⟨o,h1,y,hy,rfl⟩:=h.block id _ x hb hr
    unfold Zec at hl
    split at hl
    ·rename_i es c hma
     obtain ⟨hg,hl⟩:=WO hl
     obtain ⟨l,h4,h5⟩:=QA h.toRelB hy hma
     have hlf:=Vq (seen:=seen) h5
     have hga:=S4 h5 hg
     unfold EJ at hl
     split at hl
     ·rename_i he
      cases hl
      rw [he] at hlf
      have hnil:l.filter (fun e => !seen.contains e.born)=[]:=hlf.Lz
      refine ⟨r,w,.tuple #[.bool false],?_,.tuple (.cons (.bool _) .nil),Ext.refl h⟩
      have hfl:(⟨l⟩:Array MapEntry).filter (fun e => !(⟨seen⟩:Array Nat).contains e.born) = #[]:=by
       apply Array.ext'
       simpa using hnil
      simp only [Instr.next,Sem.run_bind,QU h1,Result.andThen_ok,Qm h4,hga,hfl,Bool.false_eq_true,if_false]
      simp [LB]
     ·rename_i k u b he
      obtain ⟨hbs,hl⟩:=Zr hl
      cases hl
      rw [he] at hlf
      have hbl:=Qy hbs
      obtain ⟨me,hme,hh⟩:=hlf.C0
      have hbo:me.born=b:=hh.2.2
      refine ⟨r,_,.tuple #[.bool true,me.key,me.val],?_,.tuple (.cons (.bool _) (.cons hh.1 (.cons hh.2.1 .nil))),GA h hr hy hb h1 since c (seen++[b])⟩
      have hfl:(⟨l⟩:Array MapEntry).filter (fun e => !(⟨seen⟩:Array Nat).contains e.born) = #[me]:=by
       apply Array.ext'
       simpa using hme
      have hf1:(#[me]:Array MapEntry).filter (fun e=>decide (e.born<since)) = #[me]:=by simp [hbo,hbl]
      have hf2:(#[me]:Array MapEntry).filter (fun e=>decide (e.born≥since)) = #[]:=by simp [hbo]; omega
      simp only [Instr.next,Sem.run_bind,QU h1,Result.andThen_ok,Qm h4,hga,hfl,hf1,hf2,Bool.false_eq_true,if_false]
      simp [LB,QL h1 (fun _ _ _ e=>by cases e),hbo]
     ·cases hl
    ·cases hl
   ·cases hl
 ·cases hl
end Go.Proofs.YtheflbaejhlboaaGreatDoor.Ev
