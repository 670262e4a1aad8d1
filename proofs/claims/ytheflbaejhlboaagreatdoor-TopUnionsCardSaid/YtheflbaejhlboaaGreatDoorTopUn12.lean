/- A part of the proof of a law of package confluencetop: lemmas, no condition of ours. -/
import Derived.Test.YtheflbaejhlboaaGreatDoorTopUn11
import Derived.Laws.StructEq
import Derived.IntWalk
set_option linter.unusedVariables false
set_option linter.unusedSectionVars false
set_option linter.unusedSimpArgs false
namespace Go.Proofs.YtheflbaejhlboaaGreatDoor.Ev
open Go
variable [Sig] {P:Program} {r:Rho} {s:St} {w:World}
theorem QC (a b:Int):ieq a b=(a==b):=by
 cases a with
 | ofNat a=>cases b with
  | ofNat b =>
   show Nat.beq a b=_
   rw [Bool.eq_iff_iff,beq_iff_eq]
   constructor
   ·intro h; rw [Nat.eq_of_beq_eq_true h]
   ·intro h; injection h with h; subst h; exact Nat.beq_refl a
  | negSucc b=>rfl
 | negSucc a=>cases b with
  | ofNat b=>rfl
  | negSucc b =>
   show Nat.beq a b=_
   rw [Bool.eq_iff_iff,beq_iff_eq]
   constructor
   ·intro h; rw [Nat.eq_of_beq_eq_true h]
   ·intro h; injection h with h; subst h; exact Nat.beq_refl a
theorem JP (a b:Int):ile a b=decide (a≤b):=by
 cases a with
 | ofNat a=>cases b with
  | ofNat b =>
   show Nat.ble a b=_
   rw [Bool.eq_iff_iff,decide_eq_true_iff,Nat.ble_eq]
   exact ⟨fun h=>Int.ofNat_le.2 h,fun h=>Int.ofNat_le.1 h⟩
  | negSucc b =>
   show false=_
   rw [eq_comm,decide_eq_false_iff_not]
   show ¬ ((a:Int)≤Int.negSucc b)
   omega
 | negSucc a=>cases b with
  | ofNat b =>
   show true=_
   rw [eq_comm,decide_eq_true_iff]
   show Int.negSucc a≤(b:Int)
   omega
  | negSucc b =>
   show Nat.ble b a=_
   rw [Bool.eq_iff_iff,decide_eq_true_iff,Nat.ble_eq]
   omega
theorem Jd {j k:IntKind} (h:keq j k=true):j=k:=by
 have:=Nat.eq_of_beq_eq_true h
 cases j <;> cases k <;> first | rfl | cases this
theorem Qh:∀ a b:List UInt8,Qv a b=(a==b)
 | [],[]=>rfl
 | [],_::_=>rfl
 | _::_,[]=>rfl
 | a::x,b::y=>by
  show sel (Nat.beq a.toNat b.toNat) (Qv x y) false=_
  cases h:Nat.beq a.toNat b.toNat
  ·rw [QO,eq_comm,beq_eq_false_iff_ne]
   intro e
   injection e with e1 _
   subst e1
   rw [Nat.beq_refl] at h
   cases h
  ·have e:a=b:=UInt8.toNat_inj.1 (Nat.eq_of_beq_eq_true h)
   subst e
   rw [Jg,Qh x y,Bool.eq_iff_iff,beq_iff_eq,beq_iff_eq]
   exact ⟨fun e=>by rw [e],fun e=>by injection e⟩
theorem J8:∀ a b:List UInt8,Jn a b=Op.bytesLess a b
 | [],[]=>rfl
 | [],_::_=>rfl
 | _::_,[]=>rfl
 | a::x,b::y=>by
  show sel (Nat.beq a.toNat b.toNat) (Jn x y) (Nat.blt a.toNat b.toNat)=(decide (a<b) || (a==b && Op.bytesLess x y))
  cases h:Nat.beq a.toNat b.toNat
  ·rw [QO]
   have hne:(a==b)=false:=by
    rw [beq_eq_false_iff_ne]
    intro e
    subst e
    rw [Nat.beq_refl] at h
    cases h
   rw [hne,Bool.false_and,Bool.or_false,Bool.eq_iff_iff,decide_eq_true_iff,UInt8.lt_iff_toNat_lt]
   show Nat.ble (a.toNat+1) b.toNat=true↔_
   rw [Nat.ble_eq]
   exact Iff.rfl
  ·have e:a=b:=UInt8.toNat_inj.1 (Nat.eq_of_beq_eq_true h)
   subst e
   rw [Jg,J8 x y]
   simp
theorem SN (k:IntKind) (m:Nat) (h:∀ n:Nat,k.wrap n=((n%m:Nat):Int)) (n:Int):Ct k m n=k.wrap n:=by
 cases n with
 | ofNat n=>exact (h n).symm
 | negSucc n=>rfl
theorem WI (k:IntKind) (n:Int):VQ k n=k.wrap n:=by
 cases k with
 | i64 =>
  cases n with
  | ofNat n =>
   simp only [VQ,Ld]
   generalize hb:Nat.blt n 9223372036854775808=c
   cases c
   ·exact QO _ _
   ·have h2:n+1≤9223372036854775808:=Nat.le_of_ble_eq_true hb
    rw [Jg]
    exact (IntWalk.i64_in _ (by show -9223372036854775808≤(n:Int)∧(n:Int)≤9223372036854775807; omega)).symm
  | negSucc n =>
   simp only [VQ,Ld]
   generalize hb:Nat.blt n 9223372036854775808=c
   cases c
   ·exact QO _ _
   ·have h2:n+1≤9223372036854775808:=Nat.le_of_ble_eq_true hb
    rw [Jg]
    exact (IntWalk.i64_in _ (by omega)).symm
 | u64=>exact SN .u64 _ (fun n=>by simp [IntKind.wrap,IntKind.signed,IntKind.bits]) n
 | u32=>exact SN .u32 _ (fun n=>by rw [IntKind.wrap_u32]; omega) n
 | u8=>exact SN .u8 _ (fun n=>by rw [IntKind.wrap_u8]; omega) n
 | i8=>rfl
 | i16=>rfl
 | i32=>rfl
 | u16=>rfl
def ZO (P:Program) (r:Rho) (w:World) (x:Sem Value) (v:Zc):Prop:=∃ u,x.run P w = .ok u w∧VR r v u
theorem Dr {k:SK} {x y:Zc} {b:Bool} (h:eqK k x y=some b) {u u':Value} (hx:VR r x u) (hy:VR r y u') {t:TypeId} (ht:XG P t=some k) (d:Nat) :
  (Op.equalIn (d+1) t u u').run P w = .ok b w∧(b=true→u=u'):=by
 unfold eqK at h
 split at h
 ·rename_i j a k b'
  cases hx; cases hy
  rcases Ze h with ⟨h1,h2⟩ | ⟨_,h2⟩
  ·cases h2
   have:=Jd h1
   subst this
   unfold XG at ht
   split at ht
   ·cases ht
   ·rename_i k' h3
    refine ⟨by rw [run_equalIn_int w d t _ k' _ _ h3,QC],fun e => ?_⟩
    rw [QC,beq_iff_eq] at e
    rw [e]
   ·cases ht
   ·cases ht
  ·cases h2
 ·rename_i a b'
  cases hx; cases hy; cases h
  unfold XG at ht
  split at ht
  ·cases ht
  ·cases ht
  ·rename_i h3
   refine ⟨by rw [run_equalIn_string w d t _ _ h3,Qh,ByteArray.toList_eq,ByteArray.toList_eq],fun e => ?_⟩
   rw [Qh,beq_iff_eq] at e
   rw [e]
  ·cases ht
 ·rename_i a b'
  cases hx; cases hy; cases h
  unfold XG at ht
  split at ht
  ·rename_i h3
   refine ⟨by rw [run_equalIn_bool' w d t _ _ h3]; cases a <;> cases b' <;> rfl,fun e => ?_⟩
   cases a <;> cases b' <;> first | rfl | cases e
  ·cases ht
  ·cases ht
  ·cases ht
 ·cases h
theorem CK (n:Int) {x:Int} (h:0≤x∧x≤1000):ZeT n≤n*x:=by
 cases n with
 | ofNat n=>exact Int.mul_nonneg (Int.natCast_nonneg n) h.1
 | negSucc n =>
  show Int.negSucc n*1000≤_
  exact Int.mul_le_mul_of_nonpos_left (by omega) h.2
theorem CL (n:Int) {x:Int} (h:0≤x∧x≤1000):n*x≤ZeU n:=by
 cases n with
 | ofNat n =>
  show (n:Int)*x≤((n*1000:Nat):Int)
  rw [Int.natCast_mul]
  exact Int.mul_le_mul_of_nonneg_left h.2 (Int.natCast_nonneg n)
 | negSucc n =>
  show Int.negSucc n*x≤0
  exact Int.mul_nonpos_of_nonpos_of_nonneg (by omega) h.1
theorem YN (c a b:Int):Ku c a b≤c+a*Sig.x+b*Sig.y:=by
 have h1:=CK a Sig.hx
 have h2:=CK b Sig.hy
 unfold Ku
 omega
theorem YO (c a b:Int):c+a*Sig.x+b*Sig.y≤RR c a b:=by
 have h1:=CL a Sig.hx
 have h2:=CL b Sig.hy
 unfold RR
 omega
theorem Sf {c a b:Int} {t:Bool} (h:BS c a b=some t):t=decide (0<c+a*Sig.x+b*Sig.y):=by
 have h1:=YN c a b
 have h2:=YO c a b
 unfold BS at h
 rw [JP,JP] at h
 rcases Ze h with ⟨h3,h4⟩ | ⟨_,h4⟩
 ·cases h4
  rw [decide_eq_true_iff] at h3
  have h3:(1:Int)≤Ku c a b:=h3
  exact (decide_eq_true (by omega)).symm
 ·rcases Ze h4 with ⟨h3,h4⟩ | ⟨_,h4⟩
  ·cases h4
   rw [decide_eq_true_iff] at h3
   have h3:RR c a b≤0:=h3
   exact (decide_eq_false (by omega)).symm
  ·cases h4
theorem Qw {a b:Bool} (h:sel a b false=true):a=true∧b=true:=by
 cases a
 ·cases h
 ·exact ⟨rfl,h⟩
theorem SP {c a b:Int} {t:Bool} (h:Ga c a b=some t):t=decide (0=c+a*Sig.x+b*Sig.y):=by
 have h1:=YN c a b
 have h2:=YO c a b
 unfold Ga at h
 rcases Ze h with ⟨h3,h4⟩ | ⟨_,h4⟩
 ·cases h4
  obtain ⟨h5,h6⟩:=Qw h3
  obtain ⟨h6,h7⟩:=Qw h6
  rw [QC] at h5 h6 h7
  have h5:c=0:=eq_of_beq h5
  have h6:a=0:=eq_of_beq h6
  have h7:b=0:=eq_of_beq h7
  subst h5 h6 h7
  simp
 ·rw [JP,JP] at h4
  rcases Ze h4 with ⟨h3,h4⟩ | ⟨_,h4⟩
  ·cases h4
   rw [decide_eq_true_iff] at h3
   have h3:(1:Int)≤Ku c a b:=h3
   exact (decide_eq_false (by omega)).symm
  ·rcases Ze h4 with ⟨h3,h4⟩ | ⟨_,h4⟩
   ·cases h4
    rw [decide_eq_true_iff] at h3
    have h3:RR c a b ≤ -1:=h3
    exact (decide_eq_false (by omega)).symm
   ·cases h4
theorem Ds (k:IntKind) {c a b n:Int} (h:n=c+a*Sig.x+b*Sig.y):VR r (mkS k c a b) (.int k n):=by
 unfold mkS
 generalize hc:sel (ieq a (.ofNat 0)) (ieq b (.ofNat 0)) false=t
 cases t
 ·exact .sint k h
 ·obtain ⟨h6,h7⟩:=Qw hc
  rw [QC] at h6 h7
  have h6:a=0:=eq_of_beq h6
  have h7:b=0:=eq_of_beq h7
  subst h6 h7
  have:n=c:=by rw [h]; simp
  subst this
  exact .int k _
theorem Gn {k:IntKind} {mx:Nat} {c a b d:Int} {v:Zc} (h:Cu k mx c a b d = .ok v):RR (c+d) a b≤mx∧∀ n,n=c+d+a*Sig.x+b*Sig.y→VR r v (.int k n):=by
 unfold Cu at h
 rcases Ze h with ⟨h1,h2⟩ | ⟨_,h2⟩
 ·cases h2
  rw [JP,decide_eq_true_iff] at h1
  exact ⟨h1,fun n hn=>Ds k hn⟩
 ·cases h2
theorem KF {k:IntKind} {c a b:Int} {v:Zc} (h:Rg k c a b = .ok v):VR r v (.int k (k.wrap (c+a*Sig.x+b*Sig.y))):=by
 have h1:=YN c a b
 unfold Rg at h
 split at h
 ·obtain ⟨h2,h3⟩:=Gn (r:=r) h
  have h4:=YO (c+(VQ .i64 (Ku c a b)-Ku c a b)) a b
  refine h3 _ ?_
  rw [WI] at h2 h4 ⊢
  generalize Ku c a b=m at h1 h2 h4 ⊢
  generalize RR _ a b=mx at h2 h4
  generalize a*Sig.x=p at h1 h4 ⊢
  generalize b*Sig.y=q at h1 h4 ⊢
  rw [IntKind.wrap_i64] at h4 ⊢
  rw [IntKind.wrap_i64]
  omega
 ·obtain ⟨h2,h3⟩:=Gn (r:=r) h
  have h4:=YO (c+(VQ .u64 (Ku c a b)-Ku c a b)) a b
  refine h3 _ ?_
  rw [WI] at h2 h4 ⊢
  generalize Ku c a b=m at h1 h2 h4 ⊢
  generalize RR _ a b=mx at h2 h4
  generalize a*Sig.x=p at h1 h4 ⊢
  generalize b*Sig.y=q at h1 h4 ⊢
  have hw:∀ n:Int,IntKind.u64.wrap n=n%18446744073709551616:=fun n=>by simp [IntKind.wrap,IntKind.signed,IntKind.bits]
  rw [hw] at h4 ⊢
  rw [hw]
  omega
 ·cases h
theorem KW {x y:Zc} {k:IntKind} {c a b d e f:Int} (h:Xx x y = .mk k c a b d e f) {u u':Value} (hx:VR r x u) (hy:VR r y u') :
  u = .int k (c+a*Sig.x+b*Sig.y)∧u' = .int k (d+e*Sig.x+f*Sig.y):=by
 unfold Xx at h
 split at h
 ·rcases Ze h with ⟨h1,h2⟩ | ⟨_,h2⟩
  ·cases h2
   have:=Jd h1
   subst this
   cases hx with
   | sint _ h3=>cases hy with
    | sint _ h4=>subst h3 h4; exact ⟨rfl,rfl⟩
  ·cases h2
 ·rcases Ze h with ⟨h1,h2⟩ | ⟨_,h2⟩
  ·cases h2
   have:=Jd h1
   subst this
   cases hx with
   | sint _ h3=>cases hy with
    | int=>subst h3; exact ⟨rfl,by simp⟩
  ·cases h2
 ·rcases Ze h with ⟨h1,h2⟩ | ⟨_,h2⟩
  ·cases h2
   have:=Jd h1
   subst this
   cases hx with
   | int=>cases hy with
    | sint _ h4=>subst h4; exact ⟨by simp,rfl⟩
  ·cases h2
 ·cases h
theorem CM {k:SK} {x y:Zc} {b:Bool} (h:Zcw k x y=some b) {u u':Value} (hx:VR r x u) (hy:VR r y u') {t:TypeId} (ht:XG P t=some k) (d:Nat) :
  (Op.equalIn (d+1) t u u').run P w = .ok b w∧(b=true→u=u'):=by
 unfold Zcw at h
 split at h
 ·unfold Zcv at h
  split at h
  ·rename_i k c a b' d' e f hs
   obtain ⟨rfl,rfl⟩:=KW hs hx hy
   have hb:=SP h
   have he:decide (0=c-d'+(a-e)*Sig.x+(b'-f)*Sig.y)=(c+a*Sig.x+b'*Sig.y==d'+e*Sig.x+f*Sig.y):=by
    rw [Int.sub_mul,Int.sub_mul,Bool.eq_iff_iff,decide_eq_true_iff,beq_iff_eq]
    omega
   rw [he] at hb
   unfold XG at ht
   split at ht
   ·cases ht
   ·rename_i k' h3
    refine ⟨by rw [run_equalIn_int w d t _ k' _ _ h3,hb],fun e => ?_⟩
    rw [hb,beq_iff_eq] at e
    rw [e]
   ·cases ht
   ·cases ht
  ·exact Dr h hx hy ht d
 ·exact Dr h hx hy ht d
theorem CN {k:SK} {x y:Zc} {b:Bool} (h:eqK k x y=some b):Zcw k x y=some b:=by
 cases k
 ·exact h
 ·show Zcv x y=_
  unfold Zcv
  split
  ·rename_i hs
   unfold eqK at h
   split at h
   ·rename_i hx
    unfold Xx at hs
    split at hs <;> first | (rename_i e1 e2; cases e1; done) | (rename_i e1; cases e1; done) | cases hs
   ·cases hs
   ·cases hs
   ·cases h
  ·exact h
 ·exact h
theorem Gp {t:TypeId} {k:SK} (h:XG P t=some k):Jq P t=some false:=by
 unfold XG at h
 unfold Jq
 split at h <;> rename_i h1 <;> first | (simp only [h1]; done) | cases h
theorem Dt {t:TypeId} {k:SK} (h:XG P t=some k) (d:Nat):P.eqGuardType (d+1) t=false:=by
 unfold XG at h
 unfold Program.eqGuardType
 split at h <;> rename_i h1 <;> first | (simp only [h1]; done) | cases h
theorem SQ {c:Bool} {k:Option SK} {l:Option (List SK)} {ks:List SK} (h:EB c k l=some ks):∃ k' l',c=true∧k=some k'∧l=some l'∧ks=k'::l':=by
 unfold EB at h
 split at h
 ·cases h; exact ⟨_,_,rfl,rfl,rfl,rfl⟩
 ·cases h
theorem Sg {a b:Option Bool} {c:Bool} (h:Zcu a b=some c):(a=some true∧b=some c)∨(a=some false∧c=false):=by
 unfold Zcu at h
 split at h
 ·exact .inl ⟨rfl,h⟩
 ·cases h; exact .inr ⟨rfl,rfl⟩
 ·cases h
theorem Jy {t:TypeId} (h:Jq P t=some false) {L:List Value} {i:Nat} {u:Value} (hu:L[i]? = some u):(part t ⟨L⟩ i).run P w = .ok u w:=by
 simp [part,Vn h,hu]
theorem Rk (d:Nat):∀ (fs:List Field) (i:Nat) (ks:List SK) (a b:List Zc) (xs ys:List Value) (c:Bool),
  Kw P i fs=some ks→Rh ks a b=some c→∀ (X Y:List Value),X.drop i=xs→Y.drop i=ys→VRs r a xs→VRs r b ys →
  (Op.eqFields (d+1) ⟨X⟩ ⟨Y⟩ fs).run P w = .ok c w∧(c=true→xs=ys)
 | [],i,ks,a,b,xs,ys,c,hf,he,X,Y,hX,hY,ha,hb=>by
  cases hf
  unfold Rh at he
  split at he
  ·cases he
   cases ha; cases hb
   exact ⟨by simp [Op.eqFields],fun _=>rfl⟩
  ·rename_i h; cases h
  ·cases he
 | f::fs,i,ks,a,b,xs,ys,c,hf,he,X,Y,hX,hY,ha,hb=>by
  obtain ⟨k,l,h1,h2,h3,rfl⟩:=SQ hf
  rw [Bool.and_eq_true] at h1
  obtain ⟨h4,h5⟩:=h1
  have h4:=Nat.eq_of_beq_eq_true h4
  cases ha with
  | nil=>cases he
  | cons hx hxs=>cases hb with
   | nil=>cases he
   | @cons y v b' ys' hy hys =>
    rename_i x u a' xs'
    have hXi:X[i]? = some u:=by
     have:=congrArg (·[0]?) hX
     simpa using this
    have hYi:Y[i]? = some v:=by
     have:=congrArg (·[0]?) hY
     simpa using this
    have hX':X.drop (i+1)=xs':=by rw [← List.drop_drop,hX]; rfl
    have hY':Y.drop (i+1)=ys':=by rw [← List.drop_drop,hY]; rfl
    have hn:f.name≠ "_":=by simpa using h5
    have hagg:=Gp h2
    simp only [Rh] at he
    rcases Sg he with ⟨e1,e2⟩ | ⟨e1,rfl⟩
    ·obtain ⟨q1,q2⟩:=CM (w:=w) e1 hx hy h2 d
     obtain ⟨p1,p2⟩:=Rk d fs (i+1) l a' b' xs' ys' c h3 e2 X Y hX' hY' hxs hys
     refine ⟨?_,fun e=>by rw [q2 rfl,p2 e]⟩
     simp only [Op.eqFields,ne_eq,hn,not_false_eq_true,if_true,Sem.run_bind]
     rw [h4,Jy hagg hXi]
     simp only [Result.andThen_ok]
     rw [Jy hagg hYi]
     simp only [Result.andThen_ok,q1,Bool.not_true,Bool.false_eq_true,if_false]
     exact p1
    ·obtain ⟨q1,q2⟩:=CM (w:=w) e1 hx hy h2 d
     refine ⟨?_,fun e=>by cases e⟩
     simp only [Op.eqFields,ne_eq,hn,not_false_eq_true,if_true,Sem.run_bind]
     rw [h4,Jy hagg hXi]
     simp only [Result.andThen_ok]
     rw [Jy hagg hYi]
     simp only [Result.andThen_ok,q1,Bool.not_false,if_true]
     rfl
theorem Gq:∀ {ks:List SK} {a b:List Zc} {c:Bool},RS ks a b=some c→Rh ks a b=some c
 | [],[],[],c,h=>h
 | k::ks,x::xs,y::ys,c,h=>by
  simp only [RS] at h
  simp only [Rh]
  rcases Sg h with ⟨e1,e2⟩ | ⟨e1,rfl⟩
  ·rw [CN e1,Gq e2]; rfl
  ·rw [CN e1]; rfl
 | [],_::_,_,_,h=>by simp [RS] at h
 | [],[],_::_,_,h=>by simp [RS] at h
 | _::_,[],_,_,h=>by simp [RS] at h
 | _::_,_::_,[],_,h=>by simp [RS] at h
theorem YP {t:TypeId} {ks:List SK} (h:WD P t=some ks):∃ fs,P.underlying t=some (.struct fs)∧P.stoodInHeld t=false∧Kw P 0 fs.toList=some ks:=by
 unfold WD at h
 split at h
 ·rename_i fs h1
  rcases Ze h with ⟨_,h2⟩ | ⟨h2,h3⟩
  ·cases h2
  ·exact ⟨fs,h1,h2,h3⟩
 ·cases h
theorem WJ:∀ (fs:List Field) (i:Nat) (ks:List SK) (d:Nat),Kw P i fs=some ks→fs.any (fun f=>f.name != "_" && P.eqGuardType (d+1) f.type)=false
 | [],_,_,_,_=>rfl
 | f::fs,i,ks,d,h=>by
  obtain ⟨k,l,_,h2,h3,_⟩:=SQ h
  rw [List.any_cons,Dt h2 d,Bool.and_false,Bool.false_or]
  exact WJ fs (i+1) l d h3
theorem Gr {t:TypeId} {ks:List SK} (h:WD P t=some ks) {a b:List Zc} {c:Bool} (he:Rh ks a b=some c) {xs ys:List Value} (ha:VRs r a xs) (hb:VRs r b ys) (d:Nat) :
  (Op.equalIn (d+2) t (.agg ⟨xs⟩) (.agg ⟨ys⟩)).run P w = .ok c w∧(c=true→xs=ys):=by
 obtain ⟨fs,h1,h2,h3⟩:=YP h
 have hfo:P.fieldsOf t=fs:=by unfold Program.fieldsOf; rw [h1]
 rw [run_equalIn_struct w (d+1) t ⟨xs⟩ ⟨ys⟩ (by rw [hfo]; exact h1) h2,hfo]
 exact Rk d fs.toList 0 ks a b xs ys c h3 he xs ys rfl rfl ha hb
theorem Gs {t:TypeId} {ks:List SK} (h:WD P t=some ks):P.eqGuardType P.depth t=false:=by
 obtain ⟨fs,h1,_,h3⟩:=YP h
 have:P.depth=(2*(P.types.size+Made.depth))+1+1:=rfl
 rw [this]
 unfold Program.eqGuardType
 simp only [h1]
 rw [← Array.any_toList]
 exact WJ fs.toList 0 ks _ h3
theorem WK (op:BinOp) (t:TypeId) (x y:Operand) (a b:Value) (h1:∀ (e:a = .nilIface),b ≠ .nilIface) (h2:∀ c d,a = .agg c→b ≠ .agg d):(eqGuard op t x y a b).run P w = .ok () w:=by
 cases op <;> first
  | rfl
  | (cases a <;> cases b <;> first
    | rfl
    | exact absurd rfl (h1 rfl)
    | exact absurd rfl (h2 _ _ rfl))
theorem X2 {op:BinOp} {t:TypeId} {x y:Operand} {a b u:Value} (hg:(eqGuard op t x y a b).run P w = .ok () w) (hb:(binOp op t a b).run P w = .ok u w) :
  (do eqGuard op t x y a b; binOp op t a b:Sem Value).run P w = .ok u w:=by
 simp only [Sem.run_bind,hg,Result.andThen_ok,hb]
abbrev My (op:BinOp) (t:TypeId) (x y:Operand) (a b:Value):Sem Value:=do eqGuard op t x y a b; binOp op t a b
theorem toV_notIface {v:Zc} {u:Value} (h:toV v=some u) (hn:v ≠ .nilIface):u ≠ .nilIface:=by
 rintro rfl
 cases v <;> first
  | exact hn rfl
  | (simp only [toV] at h; cases h; done)
  | (simp only [toV,Option.map_eq_some_iff] at h; obtain ⟨_,_,h⟩:=h; cases h; done)
  | cases h
theorem TE (op:BinOp) (t:TypeId) (x y x' y':Operand) (a b:Value) (h:a ≠ .nilIface):eqGuard op t x y a b=eqGuard op t x' y' a b:=by
 cases op <;> first
  | rfl
  | (cases a <;> cases b <;> first | rfl | exact absurd rfl h)
theorem E8 {op:BinOp} {t:TypeId} {x y:Option Value} {v:Zc} (h:Ey P op t x y = .ok v):∃ a b,x=some a∧y=some b∧∀ (r:Rho) w,ZO P r w (My op t (.tmp 0) (.const .nilIface) a b) v:=by
 unfold Ey at h
 split at h
 ·exact ⟨_,_,rfl,rfl,fun r w=>YM h⟩
 ·cases h
theorem Vo {neg:Bool} {o:Option Bool} {v:Zc} (h:Gb neg o = .ok v):∃ b,o=some b∧v = .bool (if neg then !b else b):=by
 unfold Gb at h
 split at h
 ·rename_i b
  cases h
  exact ⟨b,rfl,by cases neg <;> rfl⟩
 ·cases h
theorem ZcI {k:IntKind} {c a b d e f:Int} {v:Zc} (h:ZeV k c a b d e f = .ok v):VR r v (.int k (k.wrap ((c+a*Sig.x+b*Sig.y)*(d+e*Sig.x+f*Sig.y)))):=by
 unfold ZeV at h
 rcases Ze h with ⟨h1,h2⟩ | ⟨_,h2⟩
 ·obtain ⟨h6,h7⟩:=Qw h1
  rw [QC] at h6 h7
  have h6:a=0:=eq_of_beq h6
  have h7:b=0:=eq_of_beq h7
  subst h6 h7
  have h3:=KF (r:=r) h2
  have e1:c*d+c*e*Sig.x+c*f*Sig.y=(c+0*Sig.x+0*Sig.y)*(d+e*Sig.x+f*Sig.y):=by
   rw [Int.zero_mul,Int.zero_mul,Int.add_zero,Int.add_zero,Int.mul_add,Int.mul_add,Int.mul_assoc,Int.mul_assoc]
  rw [e1] at h3
  exact h3
 ·rcases Ze h2 with ⟨h1,h2⟩ | ⟨_,h2⟩
  ·obtain ⟨h6,h7⟩:=Qw h1
   rw [QC] at h6 h7
   have h6:e=0:=eq_of_beq h6
   have h7:f=0:=eq_of_beq h7
   subst h6 h7
   have h3:=KF (r:=r) h2
   have e1:d*c+d*a*Sig.x+d*b*Sig.y=(c+a*Sig.x+b*Sig.y)*(d+0*Sig.x+0*Sig.y):=by
    rw [Int.zero_mul,Int.zero_mul,Int.add_zero,Int.add_zero,Int.mul_comm _ d,Int.mul_add,Int.mul_add,Int.mul_assoc,Int.mul_assoc]
   rw [e1] at h3
   exact h3
  ·cases h2
theorem Kk (op:BinOp) (t:TypeId) (k:IntKind) (a b:Int) (h:op ≠ .shl∧op ≠ .shr):binOp op t (.int k a) (.int k b)=(match op with
   | .add | .sub | .mul=>Op.intArith op k a b
   | .quo | .rem=>Op.intDiv op k a b
   | .and | .or | .xor | .andNot=>Op.intBits op k a b
   | _=>Op.intCmp op a b):=by
 cases op <;> first
  | exact absurd rfl h.1
  | exact absurd rfl h.2
  | (simp [binOp])
theorem ZcJ {k:IntKind} {c a b d e f:Int} {v:Zc} (h:ZeW k c a b d e f = .ok v):v = .int k ((c+a*Sig.x+b*Sig.y).tmod (d+e*Sig.x+f*Sig.y))∧d+e*Sig.x+f*Sig.y≠0:=by
 unfold ZeW at h
 rcases Ze h with ⟨h1,hA⟩ | ⟨_,hA⟩
 ·clear h
  rcases Ze hA with ⟨h2,hB⟩ | ⟨_,hB⟩
  ·clear hA
   rcases Ze hB with ⟨h3,hC⟩ | ⟨_,hC⟩
   ·clear hB
    rcases Ze hC with ⟨h4,hD⟩ | ⟨_,hD⟩
    ·clear hC
     obtain ⟨h6,h7⟩:=Qw h1
     rw [QC] at h6 h7
     have h6:e=0:=eq_of_beq h6
     have h7:f=0:=eq_of_beq h7
     rw [JP,decide_eq_true_iff] at h2
     have h2:(1:Int)≤d:=h2
     rw [JP,decide_eq_true_iff] at h3
     have h3:(0:Int)≤Ku c a b:=h3
     obtain ⟨h8,h9⟩:=Qw h4
     rw [QC] at h8 h9
     have h8:a%d=0:=eq_of_beq h8
     have h9:b%d=0:=eq_of_beq h9
     have hv:v = .int k (c%d):=by cases hD; rfl
     have e1:d+e*Sig.x+f*Sig.y=d:=by rw [h6,h7]; omega
     rw [e1,hv]
     have hn:0≤c+a*Sig.x+b*Sig.y:=Int.le_trans h3 (YN c a b)
     refine ⟨?_,by omega⟩
     rw [Int.tmod_eq_emod_of_nonneg hn]
     have ha:a*Sig.x=d*(a / d*Sig.x):=by rw [← Int.mul_assoc,Int.mul_ediv_cancel' (Int.dvd_of_emod_eq_zero h8)]
     have hb:b*Sig.y=d*(b / d*Sig.y):=by rw [← Int.mul_assoc,Int.mul_ediv_cancel' (Int.dvd_of_emod_eq_zero h9)]
     rw [ha,hb,Int.add_mul_emod_self_left,Int.add_mul_emod_self_left]
    ·cases hD
   ·cases hC
  ·cases hB
 ·cases hA
theorem BY {op:BinOp} {t:TypeId} {k:IntKind} {c a b d e f:Int} {v:Zc} (h:Da op k c a b d e f = .ok v) :
  ZO P r w (binOp op t (.int k (c+a*Sig.x+b*Sig.y)) (.int k (d+e*Sig.x+f*Sig.y))) v:=by
 have hz:decide (0=c-d+(a-e)*Sig.x+(b-f)*Sig.y)=(c+a*Sig.x+b*Sig.y==d+e*Sig.x+f*Sig.y):=by
  rw [Int.sub_mul,Int.sub_mul,Bool.eq_iff_iff,decide_eq_true_iff,beq_iff_eq]
  omega
 have hp:decide (0<c-d+(a-e)*Sig.x+(b-f)*Sig.y)=decide (d+e*Sig.x+f*Sig.y<c+a*Sig.x+b*Sig.y):=by
  rw [Int.sub_mul,Int.sub_mul,Bool.eq_iff_iff,decide_eq_true_iff,decide_eq_true_iff]
  omega
 have hq:decide (0<d-c+(e-a)*Sig.x+(f-b)*Sig.y)=decide (c+a*Sig.x+b*Sig.y<d+e*Sig.x+f*Sig.y):=by
  rw [Int.sub_mul,Int.sub_mul,Bool.eq_iff_iff,decide_eq_true_iff,decide_eq_true_iff]
  omega
 have ha:c+d+(a+e)*Sig.x+(b+f)*Sig.y=(c+a*Sig.x+b*Sig.y)+(d+e*Sig.x+f*Sig.y):=by
  rw [Int.add_mul,Int.add_mul]; omega
 have hs:c-d+(a-e)*Sig.x+(b-f)*Sig.y=(c+a*Sig.x+b*Sig.y)-(d+e*Sig.x+f*Sig.y):=by
  rw [Int.sub_mul,Int.sub_mul]; omega
 unfold Da at h
 split at h
 ·obtain ⟨t',h1,rfl⟩:=Vo h
  have h2:=SP h1
  rw [hz] at h2
  rw [Kk _ _ _ _ _ (by decide),h2]
  exact ⟨_,by simp only [Op.intCmp]; rfl,.bool _⟩
 ·obtain ⟨t',h1,rfl⟩:=Vo h
  have h2:=SP h1
  rw [hz] at h2
  rw [Kk _ _ _ _ _ (by decide),h2]
  exact ⟨_,by simp only [Op.intCmp]; rfl,.bool _⟩
 ·obtain ⟨t',h1,rfl⟩:=Vo h
  have h2:=Sf h1
  rw [hq] at h2
  rw [Kk _ _ _ _ _ (by decide),h2]
  exact ⟨_,by simp only [Op.intCmp]; rfl,.bool _⟩
 ·obtain ⟨t',h1,rfl⟩:=Vo h
  have h2:=Sf h1
  rw [hp] at h2
  rw [Kk _ _ _ _ _ (by decide),h2]
  exact ⟨_,by simp only [Op.intCmp]; rfl,.bool _⟩
 ·obtain ⟨t',h1,rfl⟩:=Vo h
  have h2:=Sf h1
  rw [hp] at h2
  rw [Kk _ _ _ _ _ (by decide)]
  refine ⟨.bool (decide (c+a*Sig.x+b*Sig.y≤d+e*Sig.x+f*Sig.y)),by simp only [Op.intCmp]; rfl,?_⟩
  have h3:(if true=true then !t' else t')=decide (c+a*Sig.x+b*Sig.y≤d+e*Sig.x+f*Sig.y):=by
   rw [h2,if_pos rfl,Bool.eq_iff_iff,Bool.not_eq_true',decide_eq_false_iff_not,decide_eq_true_iff]
   omega
  rw [h3]
  exact .bool _
 ·obtain ⟨t',h1,rfl⟩:=Vo h
  have h2:=Sf h1
  rw [hq] at h2
  rw [Kk _ _ _ _ _ (by decide)]
  refine ⟨.bool (decide (c+a*Sig.x+b*Sig.y≥d+e*Sig.x+f*Sig.y)),by simp only [Op.intCmp]; rfl,?_⟩
  have h3:(if true=true then !t' else t')=decide (c+a*Sig.x+b*Sig.y≥d+e*Sig.x+f*Sig.y):=by
   rw [h2,if_pos rfl,Bool.eq_iff_iff,Bool.not_eq_true',decide_eq_false_iff_not,decide_eq_true_iff]
   omega
  rw [h3]
  exact .bool _
 ·have h1:=KF (r:=r) h
  rw [ha] at h1
  rw [Kk _ _ _ _ _ (by decide)]
  exact ⟨_,rfl,h1⟩
 ·have h1:=KF (r:=r) h
  rw [hs] at h1
  rw [Kk _ _ _ _ _ (by decide)]
  exact ⟨_,rfl,h1⟩
 ·have h1:=ZcI (r:=r) h
  rw [Kk _ _ _ _ _ (by decide)]
  exact ⟨_,rfl,h1⟩
 ·obtain ⟨rfl,h2⟩:=ZcJ h
  rw [Kk _ _ _ _ _ (by decide)]
  refine ⟨_,?_,.int _ _⟩
  simp only [Op.intDiv]
  rw [if_neg h2]
  rfl
 ·cases h
theorem E9 {op:UnOp} {k:IntKind} {c a b:Int} {v:Zc} (h:Et op k c a b = .ok v):ZO P r w (Op.unary op (.int k (c+a*Sig.x+b*Sig.y))) v:=by
 unfold Et at h
 split at h
 ·have h1:=KF (r:=r) h
  have e : -c + -a*Sig.x + -b*Sig.y=0-(c+a*Sig.x+b*Sig.y):=by
   rw [Int.neg_mul,Int.neg_mul]; omega
  rw [e] at h1
  exact ⟨_,rfl,h1⟩
 ·cases h
theorem QD {op:BinOp} {t:TypeId} {x y v:Zc} (h:X1 P op t x y = .ok v) {a b:Value} (hx:VR r x a) (hy:VR r y b) (p q:Operand) :
  ZO P r w (My op t p q a b) v:=by
 unfold X1 at h
 split at h
 ·rename_i hs
  obtain ⟨rfl,rfl⟩:=KW hs hx hy
  obtain ⟨u,h1,h2⟩:=BY (r:=r) (w:=w) (P:=P) (t:=t) h
  exact ⟨u,X2 (WK op t p q _ _ (fun e=>by cases e) (fun _ _ e=>by cases e)) h1,h2⟩
 ·split at h
  ·cases h
  ·cases hx with
   | gho hx hg hu hm =>
    unfold EA at h
    split at h
    all_goals first | (cases h; done) | skip
    all_goals
     unfold Ez at h
     rcases Ze h with ⟨g1,h⟩ | ⟨_,h⟩
     ·rcases Ze h with ⟨g2,h⟩ | ⟨_,h⟩
      ·rcases Ze h with ⟨g3,h⟩ | ⟨_,h⟩
       ·cases h
        have g1:=Nat.eq_of_beq_eq_true g1
        have g2:=Nat.eq_of_beq_eq_true g2
        have g3:=Nat.eq_of_beq_eq_true g3
        subst g1 g2 g3
        cases hy
        obtain ⟨⟨_,_,rfl⟩,hz⟩:=Sig.nz _ _ _ hm
        exact ⟨_,X2 (WK _ t p q _ _ (fun e=>by cases e) (fun _ _ e=>by cases e)) (by first | exact (hz P t w).1 | exact (hz P t w).2),.bool _⟩
       ·cases h
      ·cases h
     ·cases h
  ·rename_i hn _
   obtain ⟨a',b',h1,h2,h3⟩:=E8 h
   have e1:=toV_ok r x a' a h1 hx
   have e2:=toV_ok r y b' b h2 hy
   subst e1 e2
   obtain ⟨u,h4,h5⟩:=h3 r w
   refine ⟨u,?_,h5⟩
   rw [← h4]
   unfold My
   rw [TE op t p q (.tmp 0) (.const .nilIface) a b (toV_notIface h1 fun e=>hn e)]
theorem WL {neg:Bool} {o:Option Bool} {v:Zc} (h:SF neg o = .ok v):∃ b,o=some b∧v = .bool (if neg then !b else b):=by
 unfold SF at h
 split at h
 ·rename_i b
  cases h
  exact ⟨b,rfl,by cases neg <;> rfl⟩
 ·cases h
theorem ZcK {t:TypeId} {neg:Bool} {op:BinOp} (ho:op=if neg then .neq else .eql) {a b:Value} {c:Bool} (h:(Op.equal t a b).run P w = .ok c w)
  (h0:binOp op t a b=(if neg then (do pure (.bool (!(← Op.equal t a b)))) else (do pure (.bool (← Op.equal t a b))):Sem Value)) :
  (binOp op t a b).run P w = .ok (.bool (if neg then !c else c)) w:=by
 rw [h0]
 cases neg <;> simp [h]
end Go.Proofs.YtheflbaejhlboaaGreatDoor.Ev
namespace Go.Proofs.YtheflbaejhlboaaGreatDoor.Ev
open Go
variable [Sig] {P:Program} {r:Rho} {s:St} {w:World}
theorem QT {v:Zc} {u:Value} (h:VR r v u):ZO P r w (pure u) v:=⟨u,rfl,h⟩
theorem Xz {op:BinOp} {t:TypeId} {p q:Operand} {a b:Value} {v:Zc} (h1:∀ (e:a = .nilIface),b ≠ .nilIface) (h2:∀ c d,a = .agg c→b ≠ .agg d)
  (h:ZO P r w (binOp op t a b) v):ZO P r w (My op t p q a b) v:=by
 obtain ⟨u,h3,h4⟩:=h
 exact ⟨u,X2 (WK op t p q a b h1 h2) h3,h4⟩
theorem CO {f:Int→Int→Bool} {j k:IntKind} {a b:Int} {v:Zc} (h:Zcx f j k a b = .ok v):j=k∧v = .bool (f a b):=by
 unfold Zcx at h
 rcases Ze h with ⟨h1,h2⟩ | ⟨_,h2⟩
 ·cases h2; exact ⟨Jd h1,rfl⟩
 ·cases h2
theorem MR (op:BinOp) (t:TypeId) (a b:ByteArray):binOp op t (.string a) (.string b)=Op.stringOp op a b:=by
 cases op <;> rfl
theorem WM (op:BinOp) (t:TypeId) (k:IntKind) (a b:Int) (h:op ≠ .shl∧op ≠ .shr):binOp op t (.int k a) (.int k b)=(match op with
   | .add | .sub | .mul=>Op.intArith op k a b
   | .quo | .rem=>Op.intDiv op k a b
   | .and | .or | .xor | .andNot=>Op.intBits op k a b
   | _=>Op.intCmp op a b):=by
 cases op <;> first
  | exact absurd rfl h.1
  | exact absurd rfl h.2
  | (simp [binOp])
section
variable (d:Nat) {t:TypeId}
theorem Lu {e:TypeId} (h:P.underlying t=some (.pointer e)) (b:Option Addr):(Op.equalIn (d+1) t (.pointer none) (.pointer b)).run P w = .ok b.isNone w:=by
 simp [Op.equalIn,run_underlying h]
theorem Lv {e:TypeId} (h:P.underlying t=some (.pointer e)) (a:Addr):(Op.equalIn (d+1) t (.pointer (some a)) (.pointer none)).run P w = .ok false w:=by
 simp [Op.equalIn,run_underlying h]
theorem CP {e:TypeId} (h:P.underlying t=some (.slice e)) (b:Option Addr) (n c m k:Nat):(Op.equalIn (d+1) t (.slice none n c) (.slice b m k)).run P w = .ok b.isNone w:=by
 simp [Op.equalIn,run_underlying h]
theorem CQ {e:TypeId} (h:P.underlying t=some (.slice e)) (a:Addr) (n c m k:Nat):(Op.equalIn (d+1) t (.slice (some a) n c) (.slice none m k)).run P w = .ok false w:=by
 simp [Op.equalIn,run_underlying h]
theorem CR {k e:TypeId} (h:P.underlying t=some (.map k e)) (b:Option Nat):(Op.equalIn (d+1) t (.map none) (.map b)).run P w = .ok b.isNone w:=by
 simp [Op.equalIn,run_underlying h]
theorem CS {k e:TypeId} (h:P.underlying t=some (.map k e)) (a:Nat):(Op.equalIn (d+1) t (.map (some a)) (.map none)).run P w = .ok false w:=by
 simp [Op.equalIn,run_underlying h]
theorem CT {a b:Array TypeId} {v:Bool} (h:P.underlying t=some (.func a b v)):(Op.equalIn (d+1) t .nilFunc .nilFunc).run P w = .ok true w:=by
 simp [Op.equalIn,run_underlying h]
theorem CU {a b:Array TypeId} {v:Bool} (h:P.underlying t=some (.func a b v)) (f:Fn) (x y:Array Value):(Op.equalIn (d+1) t (.func f x y) .nilFunc).run P w = .ok false w:=by
 simp [Op.equalIn,run_underlying h]
end
theorem BZ (a b:Int):(a != b) = !(a==b):=rfl
set_option maxHeartbeats 1000000 in
theorem Gt {op:BinOp} {t:TypeId} {neg:Bool} (ho:op=if neg then .neq else .eql) {x y v:Zc} (h:Cw P op t (YC P t) neg x y = .ok v) {a b:Value} (hx:VR r x a) (hy:VR r y b) (p q:Operand) :
  ZO P r w (My op t p q a b) v:=by
 unfold Cw at h
 split at h
 ·rename_i i m j n
  obtain ⟨rfl,rfl⟩:=CO h
  cases hx; cases hy
  refine Xz (fun e=>by cases e) (fun _ _ e=>by cases e) ?_
  refine ⟨_,?_,.bool _⟩
  subst ho
  cases neg
  ·rw [show ((if false=true then BinOp.neq else BinOp.eql)) = .eql from rfl,WM .eql t i m n (by decide)]
   simp [Op.intCmp,QO,QC]
  ·rw [show ((if true=true then BinOp.neq else BinOp.eql)) = .neq from rfl,WM .neq t i m n (by decide)]
   simp [Op.intCmp,Jg,QC,BZ]
 ·rename_i m n
  cases h
  cases hx; cases hy
  refine Xz (fun e=>by cases e) (fun _ _ e=>by cases e) ?_
  refine ⟨_,?_,.bool _⟩
  subst ho
  rw [MR]
  cases neg
  ·simp [Op.stringOp,QO,Qh,ByteArray.toList_eq]
  ·simp [Op.stringOp,Jg,Qh,ByteArray.toList_eq]
 ·rename_i hn1 hn2
  have fin:∀ c:Bool,(Op.equal t a b).run P w = .ok c w→(∀ i m j n,a = .int i m→b ≠ .int j n)→(∀ i m,a = .string i→b ≠ .string m)→(∀ i m j n,a = .float i m→b ≠ .float j n) →
    (∀ i m m' j n n',a = .complex i m m'→b ≠ .complex j n n')→(binOp op t a b).run P w = .ok (.bool (if neg then !c else c)) w:=by
   intro c hc h1 h2 h3 h4
   refine ZcK ho hc ?_
   subst ho
   cases neg
   ·cases a <;> cases b <;> first
     | rfl
     | exact absurd rfl (h1 _ _ _ _ rfl)
     | exact absurd rfl (h2 _ _ rfl)
     | exact absurd rfl (h3 _ _ _ _ rfl)
     | exact absurd rfl (h4 _ _ _ _ _ _ rfl)
   ·cases a <;> cases b <;> first
     | rfl
     | exact absurd rfl (h1 _ _ _ _ rfl)
     | exact absurd rfl (h2 _ _ rfl)
     | exact absurd rfl (h3 _ _ _ _ rfl)
     | exact absurd rfl (h4 _ _ _ _ _ _ rfl)
  have done:∀ c:Bool,v = .bool (if neg then !c else c)→(Op.equal t a b).run P w = .ok c w→(∀ (e:a = .nilIface),b ≠ .nilIface)→(∀ c d,a = .agg c→b ≠ .agg d) →
    (∀ i m j n,a = .int i m→b ≠ .int j n)→(∀ i m,a = .string i→b ≠ .string m)→(∀ i m j n,a = .float i m→b ≠ .float j n) →
    (∀ i m m' j n n',a = .complex i m m'→b ≠ .complex j n n')→ZO P r w (My op t p q a b) v:=by
   intro c hv hc e1 e2 h1 h2 h3 h4
   subst hv
   exact Xz e1 e2 ⟨_,fin c hc h1 h2 h3 h4,.bool _⟩
  cases hk:YC P t <;> rw [hk] at h <;> simp only [ED] at h
  ·obtain ⟨c,h1,h2⟩:=WL h
   have ht:∃ e,P.underlying t=some (.pointer e):=by
    unfold YC at hk
    split at hk <;> first | (rename_i e h0; exact ⟨e,h0⟩) | cases hk | (unfold BU at hk; split at hk <;> cases hk)
   obtain ⟨e,ht⟩:=ht
   unfold EC at h1
   split at h1 <;> first | (cases h1; done) | skip
   all_goals
    cases h1
    cases hx
    cases hy
    refine done _ h2 ?_ (fun e=>by cases e) (fun _ _ e=>by cases e) (fun _ _ _ _ e=>by cases e) (fun _ _ e=>by cases e) (fun _ _ _ _ e=>by cases e) (fun _ _ _ _ _ _ e=>by cases e)
    first
     | exact Lu 9999 ht _
     | exact Lv 9999 ht _
     | exact CP 9999 ht _ _ _ _ _
     | exact CQ 9999 ht _ _ _ _ _
     | exact CR 9999 ht _
     | exact CS 9999 ht _
     | exact CT 9999 ht
     | exact CU 9999 ht _ _ _
  ·obtain ⟨c,h1,h2⟩:=WL h
   have ht:∃ e,P.underlying t=some (.slice e):=by
    unfold YC at hk
    split at hk <;> first | (cases hk; done) | (rename_i e h0; exact ⟨e,h0⟩) | (unfold BU at hk; split at hk <;> cases hk)
   obtain ⟨e,ht⟩:=ht
   unfold Zd5 at h1
   split at h1 <;> first | (cases h1; done) | skip
   all_goals
    cases h1
    cases hx
    cases hy
    refine done _ h2 ?_ (fun e=>by cases e) (fun _ _ e=>by cases e) (fun _ _ _ _ e=>by cases e) (fun _ _ e=>by cases e) (fun _ _ _ _ e=>by cases e) (fun _ _ _ _ _ _ e=>by cases e)
    first
     | exact Lu 9999 ht _
     | exact Lv 9999 ht _
     | exact CP 9999 ht _ _ _ _ _
     | exact CQ 9999 ht _ _ _ _ _
     | exact CR 9999 ht _
     | exact CS 9999 ht _
     | exact CT 9999 ht
     | exact CU 9999 ht _ _ _
  ·obtain ⟨c,h1,h2⟩:=WL h
   have ht:∃ d e,P.underlying t=some (.map d e):=by
    unfold YC at hk
    split at hk <;> first | (cases hk; done) | (rename_i d e h0; exact ⟨d,e,h0⟩) | (unfold BU at hk; split at hk <;> cases hk)
   obtain ⟨d,e,ht⟩:=ht
   unfold Zd6 at h1
   split at h1 <;> first | (cases h1; done) | skip
   all_goals
    cases h1
    cases hx
    cases hy
    refine done _ h2 ?_ (fun e=>by cases e) (fun _ _ e=>by cases e) (fun _ _ _ _ e=>by cases e) (fun _ _ e=>by cases e) (fun _ _ _ _ e=>by cases e) (fun _ _ _ _ _ _ e=>by cases e)
    first
     | exact Lu 9999 ht _
     | exact Lv 9999 ht _
     | exact CP 9999 ht _ _ _ _ _
     | exact CQ 9999 ht _ _ _ _ _
     | exact CR 9999 ht _
     | exact CS 9999 ht _
     | exact CT 9999 ht
     | exact CU 9999 ht _ _ _
  ·obtain ⟨c,h1,h2⟩:=WL h
   have ht:∃ d e f,P.underlying t=some (.func d e f):=by
    unfold YC at hk
    split at hk <;> first | (cases hk; done) | (rename_i d e f h0; exact ⟨d,e,f,h0⟩) | (unfold BU at hk; split at hk <;> cases hk)
   obtain ⟨d,e,f,ht⟩:=ht
   unfold Zd7 at h1
   split at h1 <;> first | (cases h1; done) | skip
   all_goals
    cases h1
    cases hx
    cases hy
    refine done _ h2 ?_ (fun e=>by cases e) (fun _ _ e=>by cases e) (fun _ _ _ _ e=>by cases e) (fun _ _ e=>by cases e) (fun _ _ _ _ e=>by cases e) (fun _ _ _ _ _ _ e=>by cases e)
    first
     | exact Lu 9999 ht _
     | exact Lv 9999 ht _
     | exact CP 9999 ht _ _ _ _ _
     | exact CQ 9999 ht _ _ _ _ _
     | exact CR 9999 ht _
     | exact CS 9999 ht _
     | exact CT 9999 ht
     | exact CU 9999 ht _ _ _
  ·rename_i ks
   obtain ⟨c,h1,h2⟩:=WL h
   have ht:WD P t=some ks:=by
    unfold YC at hk
    split at hk <;> first | (cases hk; done) | (unfold BU at hk; split at hk <;> first | (cases hk; assumption) | cases hk)
   unfold Zd8 at h1
   split at h1
   ·cases hx with
    | agg ha=>cases hy with
     | agg hb =>
      obtain ⟨q1,_⟩:=Gr (w:=w) ht h1 ha hb 9998
      subst h2
      refine ⟨_,X2 (run_eqGuard_agg w op t p q _ _ (Gs ht)) ?_,.bool _⟩
      exact fin c q1 (fun _ _ _ _ e=>by cases e) (fun _ _ e=>by cases e) (fun _ _ _ _ e=>by cases e) (fun _ _ _ _ _ _ e=>by cases e)
   ·cases h1
  ·exact QD h hx hy p q
theorem Vp {op:BinOp} {t:TypeId} {f:Int→Int→Bool} {g:List UInt8→List UInt8→Bool} (ho:op ≠ .shl∧op ≠ .shr)
  (hi:∀ k a b,binOp op t (.int k a) (.int k b)=pure (.bool (f a b))) (hs:∀ a b,binOp op t (.string ⟨⟨a⟩⟩) (.string ⟨⟨b⟩⟩)=pure (.bool (g a b)))
  {x y v:Zc} (h:Tz P op t f g x y = .ok v) {a b:Value} (hx:VR r x a) (hy:VR r y b) (p q:Operand):ZO P r w (My op t p q a b) v:=by
 unfold Tz at h
 split at h
 ·obtain ⟨rfl,rfl⟩:=CO h
  cases hx; cases hy
  refine Xz (fun e=>by cases e) (fun _ _ e=>by cases e) ?_
  rw [hi]
  exact QT (.bool _)
 ·cases h
  cases hx; cases hy
  refine Xz (fun e=>by cases e) (fun _ _ e=>by cases e) ?_
  rw [hs]
  exact QT (.bool _)
 ·exact QD h hx hy p q
theorem WN {op:BinOp} {t:TypeId} {f:Int→Int→Int} (hi:∀ k a b,binOp op t (.int k a) (.int k b)=pure (.int k (k.wrap (f a b))))
  {x y v:Zc} (h:WE P op t f x y = .ok v) {a b:Value} (hx:VR r x a) (hy:VR r y b) (p q:Operand):ZO P r w (My op t p q a b) v:=by
 unfold WE at h
 split at h
 ·rename_i j m k n
  rcases Ze h with ⟨h1,h2⟩ | ⟨_,h2⟩
  ·cases h2
   have:=Jd h1
   subst this
   cases hx; cases hy
   refine Xz (fun e=>by cases e) (fun _ _ e=>by cases e) ?_
   rw [hi,WI]
   exact QT (.int _ _)
  ·cases h2
 ·exact QD h hx hy p q
theorem SR {op:BinOp} {t:TypeId} {f:Nat→Nat→Nat} (hi:∀ a b:Nat,binOp op t (.int .u32 (Int.ofNat a)) (.int .u32 (Int.ofNat b))=pure (.int .u32 (Int.ofNat (f (Nat.mod a 4294967296) (Nat.mod b 4294967296)))))
  {x y v:Zc} (h:Sc P op t f x y = .ok v) {a b:Value} (hx:VR r x a) (hy:VR r y b) (p q:Operand):ZO P r w (My op t p q a b) v:=by
 unfold Sc at h
 split at h
 ·cases h
  cases hx; cases hy
  refine Xz (fun e=>by cases e) (fun _ _ e=>by cases e) ?_
  rw [hi]
  exact QT (.int _ _)
 ·exact QD h hx hy p q
theorem YQ (a:Nat):(BitVec.ofInt 32 (Int.ofNat a)).toNat=a%4294967296:=by
 rw [BitVec.toNat_ofInt]
 show ((a:Int)%((2^32:Nat):Int)).toNat=_
 omega
theorem wrap_u32 (n:Nat) (h:n<4294967296):IntKind.u32.wrap (n:Int)=Int.ofNat n:=IntWalk.u32_in _ (by omega)
theorem ZcL (a b:Nat):Nat.land (a%4294967296) (b%4294967296)<4294967296 :=
 Nat.lt_of_le_of_lt (Nat.and_le_left) (Nat.mod_lt _ (by decide))
theorem Zfd (a b:Nat):Nat.xor (a%4294967296) (b%4294967296)<4294967296 :=
 Nat.xor_lt_two_pow (n:=32) (Nat.mod_lt _ (by decide)) (Nat.mod_lt _ (by decide))
theorem Lw (a b:Int):decide (a<b) = !decide (b≤a):=by
 by_cases h:b≤a
 ·have:¬ a<b:=by omega
  simp [h]
 ·have:a<b:=by omega
  simp [h,this]
theorem bytes_total:∀ a b:List UInt8,(Op.bytesLess a b || (a==b)) = !Op.bytesLess b a
 | [],[]=>rfl
 | [],_::_=>rfl
 | _::_,[]=>rfl
 | a::x,b::y=>by
  have ih:=bytes_total x y
  simp only [Op.bytesLess]
  by_cases h1:a<b
  ·have h2:¬ b<a:=by rw [UInt8.lt_iff_toNat_lt] at h1 ⊢; omega
   have h3:(b==a)=false:=by rw [beq_eq_false_iff_ne]; rintro rfl; rw [UInt8.lt_iff_toNat_lt] at h1; omega
   simp [h1,h2,h3]
  ·by_cases h2:b<a
   ·have h3:(a==b)=false:=by rw [beq_eq_false_iff_ne]; rintro rfl; exact h1 h2
    have h4:(a::x==b::y)=false:=by rw [beq_eq_false_iff_ne]; intro e; injection e with e _; subst e; exact h1 h2
    simp [h1,h2,h3,h4]
   ·have h3:a=b:=UInt8.toNat_inj.1 (by rw [UInt8.lt_iff_toNat_lt] at h1 h2; omega)
    subst h3
    have h4:(a::x==a::y)=(x==y):=by
     rw [Bool.eq_iff_iff,beq_iff_eq,beq_iff_eq]
     exact ⟨fun e=>by injection e,fun e=>by rw [e]⟩
    simp [h4,ih]
theorem Zfe {op:BinOp} {t:TypeId} {x y v:Zc} (h:(Zd9 P op t).run x y = .ok v) {a b:Value} (hx:VR r x a) (hy:VR r y b) (p q:Operand) :
  ZO P r w (My op t p q a b) v:=by
 cases op
 case eql=>exact Gt (neg:=false) rfl h hx hy p q
 case neq=>exact Gt (neg:=true) rfl h hx hy p q
 case lss=>exact Vp (by decide) (fun k a b=>by rw [WM _ _ _ _ _ (by decide)]; simp [Op.intCmp,JP,Lw]) (fun a b=>by rw [MR]; simp [Op.stringOp,J8,ByteArray.toList_eq]) h hx hy p q
 case leq=>exact Vp (by decide) (fun k a b=>by rw [WM _ _ _ _ _ (by decide)]; simp [Op.intCmp,JP,Lw]) (fun a b=>by rw [MR]; simp [Op.stringOp,J8,ByteArray.toList_eq,bytes_total]) h hx hy p q
 case gtr=>exact Vp (by decide) (fun k a b=>by rw [WM _ _ _ _ _ (by decide)]; simp [Op.intCmp,JP,Lw]) (fun a b=>by rw [MR]; simp [Op.stringOp,J8,ByteArray.toList_eq,bytes_total]) h hx hy p q
 case geq=>exact Vp (by decide) (fun k a b=>by rw [WM _ _ _ _ _ (by decide)]; simp [Op.intCmp,JP,Lw]) (fun a b=>by rw [MR]; simp [Op.stringOp,J8,ByteArray.toList_eq]) h hx hy p q
 case add =>
  change Dc P t x y = .ok v at h
  unfold Dc at h
  split at h
  ·rename_i m n
   rcases Ze h with ⟨h1,h2⟩ | ⟨_,h2⟩
   ·cases h2
    have h3:m.length+n.length≤16777216:=Nat.le_of_ble_eq_true h1
    cases hx; cases hy
    refine Xz (fun e=>by cases e) (fun _ _ e=>by cases e) ⟨.string ⟨⟨m++n⟩⟩,?_,.str _⟩
    rw [MR]
    have h4:¬ (((m.length+n.length:Nat):Int)>IntKind.i64.max):=by
     rw [show IntKind.i64.max=9223372036854775807 by decide]
     omega
    have h5:(⟨⟨m⟩⟩:ByteArray).size=m.length:=rfl
    have h6:(⟨⟨n⟩⟩:ByteArray).size=n.length:=rfl
    simp only [Op.stringOp,h5,h6,if_neg h4,Sem.run_pure]
    rfl
   ·cases h2
  ·exact WN (fun k a b=>by rw [WM _ _ _ _ _ (by decide)]; rfl) h hx hy p q
 case sub=>exact WN (fun k a b=>by rw [WM _ _ _ _ _ (by decide)]; rfl) h hx hy p q
 case mul=>exact WN (fun k a b=>by rw [WM _ _ _ _ _ (by decide)]; rfl) h hx hy p q
 case and =>
  exact SR (op := .and) (t:=t) (f:=Nat.land) (fun a b=>by
  rw [WM _ t _ _ _ (by decide)]
  show (pure (.int .u32 (IntKind.u32.wrap _)):Sem Value)=_
  rw [BitVec.toNat_and]
  change (pure (.int .u32 (IntKind.u32.wrap (((BitVec.ofInt 32 (Int.ofNat a)).toNat&&&(BitVec.ofInt 32 (Int.ofNat b)).toNat:Nat):Int))):Sem Value)=_
  rw [YQ,YQ]
  change (pure (.int .u32 (IntKind.u32.wrap ((Nat.land (a%4294967296) (b%4294967296):Nat):Int))):Sem Value)=_
  rw [wrap_u32 _ (ZcL a b)]
  rfl) h hx hy p q
 case xor =>
  exact SR (op := .xor) (t:=t) (f:=Nat.xor) (fun a b=>by
  rw [WM _ t _ _ _ (by decide)]
  show (pure (.int .u32 (IntKind.u32.wrap _)):Sem Value)=_
  rw [BitVec.toNat_xor]
  change (pure (.int .u32 (IntKind.u32.wrap (((BitVec.ofInt 32 (Int.ofNat a)).toNat^^^(BitVec.ofInt 32 (Int.ofNat b)).toNat:Nat):Int))):Sem Value)=_
  rw [YQ,YQ]
  change (pure (.int .u32 (IntKind.u32.wrap ((Nat.xor (a%4294967296) (b%4294967296):Nat):Int))):Sem Value)=_
  rw [wrap_u32 _ (Zfd a b)]
  rfl) h hx hy p q
 case shr =>
  change Dd P t x y = .ok v at h
  unfold Dd at h
  split at h
  ·rename_i j m k n
   cases h
   cases hx; cases hy
   refine Xz (fun e=>by cases e) (fun _ _ e=>by cases e) ⟨_,?_,.int _ _⟩
   have h1:¬ ((Int.ofNat n)<0):=by show ¬ ((n:Int)<0); omega
   simp only [binOp,Op.shift,if_neg h1,Sem.run_pure]
   have h2:(Int.ofNat n).toNat=n:=rfl
   rw [h2]
   generalize min n j.bits=k
   congr 2
   show ((m:Int)).fdiv ((2:Int)^k)=((m / 2^k:Nat):Int)
   rw [Int.fdiv_eq_ediv_of_nonneg _ (Int.le_of_lt (Int.pow_pos (by decide))),Int.natCast_ediv,Int.natCast_pow]
   rfl
  ·exact QD h hx hy p q
 case quo=>exact QD h hx hy p q
 case rem=>exact QD h hx hy p q
 case or=>exact QD h hx hy p q
 case shl=>exact QD h hx hy p q
 case andNot=>exact QD h hx hy p q
end Go.Proofs.YtheflbaejhlboaaGreatDoor.Ev
