/- Lemmas for a law of confluencetop. -/
import Derived.Test.YtheflbaejhlboaaGreatDoorTopGp4
import Derived.Laws.StructEq
import Derived.IntWalk
set_option linter.all false
set_option maxHeartbeats 1000000
namespace Go.Proofs.YtheflbaejhlboaaGreatDoor
namespace Ev
open Go
variable [Sig] {P:Program} {r:Rho} {s:St} {w:World}
theorem QP (a b:Int):ieq a b=(a==b):=by
 cases a with
 | ofNat a=>cases b with
  | ofNat b =>
   show Nat.beq a b=_;rw [Bool.eq_iff_iff,beq_iff_eq];constructor
   ·intro h; rw [Nat.eq_of_beq_eq_true h]
   ·intro h; injection h with h; subst h; exact Nat.beq_refl a
  | negSucc b=>rfl
 | negSucc a=>cases b with
  | ofNat b=>rfl
  | negSucc b =>
   show Nat.beq a b=_;rw [Bool.eq_iff_iff,beq_iff_eq];constructor
   ·intro h; rw [Nat.eq_of_beq_eq_true h]
   ·intro h; injection h with h; subst h; exact Nat.beq_refl a
theorem Xo (a b:Int):ile a b=decide (a<=b):=by
 cases a with
 | ofNat a=>cases b with
  | ofNat b =>
   show Nat.ble a b=_;rw [Bool.eq_iff_iff,decide_eq_true_iff,Nat.ble_eq];exact ⟨fun h=>Int.ofNat_le.2 h,fun h=>Int.ofNat_le.1 h⟩
  | negSucc b =>
   show false=_;rw [eq_comm,decide_eq_false_iff_not];show ¬ ((a:Int)<=Int.negSucc b);omega
 | negSucc a=>cases b with
  | ofNat b =>
   show true=_;rw [eq_comm,decide_eq_true_iff];show Int.negSucc a<=(b:Int);omega
  | negSucc b =>
   show Nat.ble b a=_;rw [Bool.eq_iff_iff,decide_eq_true_iff,Nat.ble_eq];omega
theorem JD {j k:IntKind} (h:keq j k=true):j=k:=by
 have:=Nat.eq_of_beq_eq_true h;cases j <;> cases k <;> first | rfl | cases this
theorem Qo:∀ a b:List UInt8,QG a b=(a==b)
 | [],[]=>rfl
 | [],_::_=>rfl
 | _::_,[]=>rfl
 | a::x,b::y=>by
  show sel (Nat.beq a.toNat b.toNat) (QG x y) false=_;cases h:Nat.beq a.toNat b.toNat
  ·rw [Je,eq_comm,beq_eq_false_iff_ne];intro e;injection e with e1 _
   subst e1;rw [Nat.beq_refl] at h;cases h
  ·have e:a=b:=UInt8.toNat_inj.1 (Nat.eq_of_beq_eq_true h);subst e;rw [JG,Qo x y,Bool.eq_iff_iff,beq_iff_eq,beq_iff_eq];exact ⟨fun e=>by rw [e],fun e=>by injection e⟩
theorem Xz:∀ a b:List UInt8,JK a b=Op.bytesLess a b
 | [],[]=>rfl
 | [],_::_=>rfl
 | _::_,[]=>rfl
 | a::x,b::y=>by
  show sel (Nat.beq a.toNat b.toNat) (JK x y) (Nat.blt a.toNat b.toNat)=(decide (a<b) || (a==b && Op.bytesLess x y));cases h:Nat.beq a.toNat b.toNat
  ·rw [Je]
   have hne:(a==b)=false:=by
    rw [beq_eq_false_iff_ne];intro e;subst e;rw [Nat.beq_refl] at h;cases h
   rw [hne,Bool.false_and,Bool.or_false,Bool.eq_iff_iff,decide_eq_true_iff,UInt8.lt_iff_toNat_lt];show Nat.ble (a.toNat+1) b.toNat=true↔_;rw [Nat.ble_eq];exact Iff.rfl
  ·have e:a=b:=UInt8.toNat_inj.1 (Nat.eq_of_beq_eq_true h);subst e;rw [JG,Xz x y];simp
theorem NG (k:IntKind) (m:Nat) (h:∀ n:Nat,k.wrap n=((n%m:Nat):Int)) (n:Int):E8 k m n=k.wrap n:=by
 cases n with
 | ofNat n=>exact (h n).symm
 | negSucc n=>rfl
theorem Vq (k:IntKind) (n:Int):YW k n=k.wrap n:=by
 cases k with
 | i64 =>
  cases n with
  | ofNat n =>
   simp only [YW,FE]
   generalize hb:Nat.blt n 9223372036854775808=c
   cases c
   ·exact Je _ _
   ·have h2:n+1<=9223372036854775808:=Nat.le_of_ble_eq_true hb;rw [JG];exact (IntWalk.i64_in _ (by show -9223372036854775808<=(n:Int)/\(n:Int)<=9223372036854775807; omega)).symm
  | negSucc n =>
   simp only [YW,FE]
   generalize hb:Nat.blt n 9223372036854775808=c
   cases c
   ·exact Je _ _
   ·have h2:n+1<=9223372036854775808:=Nat.le_of_ble_eq_true hb;rw [JG];exact (IntWalk.i64_in _ (by omega)).symm
 | u64=>exact NG .u64 _ (fun n=>by simp [IntKind.wrap,IntKind.signed,IntKind.bits]) n
 | u32=>exact NG .u32 _ (fun n=>by rw [IntKind.wrap_u32]; omega) n
 | u8=>exact NG .u8 _ (fun n=>by rw [IntKind.wrap_u8]; omega) n
 | i8=>rfl
 | i16=>rfl
 | i32=>rfl
 | u16=>rfl
def ZW (P:Program) (r:Rho) (w:World) (x:Sem Value) (v:Zb):Prop:=∃ u,x.run P w = .ok u w/\VR r v u
theorem U6 {k:SK} {x y:Zb} {b:Bool} (h:eqK k x y=some b) {u u':Value} (hx:VR r x u) (hy:VR r y u') {t:TypeId} (ht:Kx P t=some k) (d:Nat) :
  (Op.equalIn (d+1) t u u').run P w = .ok b w/\(b=true->u=u'):=by
 unfold eqK at h;split at h
 ·rename_i j a k b';cases hx; cases hy
  rcases Ze h with ⟨h1,h2⟩ | ⟨_,h2⟩
  ·cases h2;have:=JD h1;subst this;unfold Kx at ht;split at ht
   ·cases ht
   ·rename_i k' h3;refine ⟨by rw [run_equalIn_int w d t _ k' _ _ h3,QP],fun e => ?_⟩;rw [QP,beq_iff_eq] at e;rw [e]
   ·cases ht
   ·cases ht
  ·cases h2
 ·rename_i a b';cases hx; cases hy; cases h
  unfold Kx at ht;split at ht
  ·cases ht
  ·cases ht
  ·rename_i h3;refine ⟨by rw [run_equalIn_string w d t _ _ h3,Qo,ByteArray.toList_eq,ByteArray.toList_eq],fun e => ?_⟩;rw [Qo,beq_iff_eq] at e;rw [e]
  ·cases ht
 ·rename_i a b';cases hx; cases hy; cases h
  unfold Kx at ht;split at ht
  ·rename_i h3;refine ⟨by rw [run_equalIn_bool' w d t _ _ h3]; cases a <;> cases b' <;> rfl,fun e => ?_⟩;cases a <;> cases b' <;> first | rfl | cases e
  ·cases ht
  ·cases ht
  ·cases ht
 ·cases h
theorem Zam (n:Int) {x:Int} (h:0<=x/\x<=1000):Zjo n<=n*x:=by
 cases n with
 | ofNat n=>exact Int.mul_nonneg (Int.natCast_nonneg n) h.1
 | negSucc n =>
  show Int.negSucc n*1000<=_;exact Int.mul_le_mul_of_nonpos_left (by omega) h.2
theorem Zan (n:Int) {x:Int} (h:0<=x/\x<=1000):n*x<=Zjp n:=by
 cases n with
 | ofNat n =>
  show (n:Int)*x<=((n*1000:Nat):Int);rw [Int.natCast_mul];exact Int.mul_le_mul_of_nonneg_left h.2 (Int.natCast_nonneg n)
 | negSucc n =>
  show Int.negSucc n*x<=0;exact Int.mul_nonpos_of_nonpos_of_nonneg (by omega) h.1
theorem Rq (c a b:Int):Ww c a b<=c+a*Sig.x+b*Sig.y:=by
 have h1:=Zam a Sig.hx;have h2:=Zam b Sig.hy;unfold Ww;omega
theorem Rr (c a b:Int):c+a*Sig.x+b*Sig.y<=PW c a b:=by
 have h1:=Zan a Sig.hx;have h2:=Zan b Sig.hy;unfold PW;omega
theorem Me {c a b:Int} {t:Bool} (h:ZbD c a b=some t):t=decide (0<c+a*Sig.x+b*Sig.y):=by
 have h1:=Rq c a b;have h2:=Rr c a b;unfold ZbD at h;rw [Xo,Xo] at h;rcases Ze h with ⟨h3,h4⟩ | ⟨_,h4⟩
 ·cases h4;rw [decide_eq_true_iff] at h3;have h3:(1:Int)<=Ww c a b:=h3;exact (decide_eq_true (by omega)).symm
 ·rcases Ze h4 with ⟨h3,h4⟩ | ⟨_,h4⟩
  ·cases h4;rw [decide_eq_true_iff] at h3;have h3:PW c a b<=0:=h3;exact (decide_eq_false (by omega)).symm
  ·cases h4
theorem QF {a b:Bool} (h:sel a b false=true):a=true/\b=true:=by
 cases a
 ·cases h
 ·exact ⟨rfl,h⟩
theorem NH {c a b:Int} {t:Bool} (h:CR c a b=some t):t=decide (0=c+a*Sig.x+b*Sig.y):=by
 have h1:=Rq c a b;have h2:=Rr c a b;unfold CR at h;rcases Ze h with ⟨h3,h4⟩ | ⟨_,h4⟩
 ·cases h4;obtain ⟨h5,h6⟩:=QF h3;obtain ⟨h6,h7⟩:=QF h6;rw [QP] at h5 h6 h7;have h5:c=0:=eq_of_beq h5;have h6:a=0:=eq_of_beq h6;have h7:b=0:=eq_of_beq h7;subst h5 h6 h7;simp
 ·rw [Xo,Xo] at h4;rcases Ze h4 with ⟨h3,h4⟩ | ⟨_,h4⟩
  ·cases h4;rw [decide_eq_true_iff] at h3;have h3:(1:Int)<=Ww c a b:=h3;exact (decide_eq_false (by omega)).symm
  ·rcases Ze h4 with ⟨h3,h4⟩ | ⟨_,h4⟩
   ·cases h4;rw [decide_eq_true_iff] at h3;have h3:PW c a b <= -1:=h3;exact (decide_eq_false (by omega)).symm
   ·cases h4
theorem U7 (k:IntKind) {c a b n:Int} (h:n=c+a*Sig.x+b*Sig.y):VR r (mkS k c a b) (.int k n):=by
 unfold mkS
 generalize hc:sel (ieq a (.ofNat 0)) (ieq b (.ofNat 0)) false=t
 cases t
 ·exact .sint k h
 ·obtain ⟨h6,h7⟩:=QF hc;rw [QP] at h6 h7;have h6:a=0:=eq_of_beq h6;have h7:b=0:=eq_of_beq h7;subst h6 h7;have:n=c:=by rw [h]; simp
  subst this;exact .int k _
theorem C4 {k:IntKind} {mx:Nat} {c a b d:Int} {v:Zb} (h:E9 k mx c a b d = .ok v):PW (c+d) a b<=mx/\∀ n,n=c+d+a*Sig.x+b*Sig.y->VR r v (.int k n):=by
 unfold E9 at h;rcases Ze h with ⟨h1,h2⟩ | ⟨_,h2⟩
 ·cases h2;rw [Xo,decide_eq_true_iff] at h1;exact ⟨h1,fun n hn=>U7 k hn⟩
 ·cases h2
theorem WC {k:IntKind} {c a b:Int} {v:Zb} (h:Po k c a b = .ok v):VR r v (.int k (k.wrap (c+a*Sig.x+b*Sig.y))):=by
 have h1:=Rq c a b;unfold Po at h;split at h
 ·obtain ⟨h2,h3⟩:=C4 (r:=r) h;have h4:=Rr (c+(YW .i64 (Ww c a b)-Ww c a b)) a b;refine h3 _ ?_;rw [Vq] at h2 h4 ⊢
  generalize Ww c a b=m at h1 h2 h4 ⊢
  generalize PW _ a b=mx at h2 h4
  generalize a*Sig.x=p at h1 h4 ⊢
  generalize b*Sig.y=q at h1 h4 ⊢
  rw [IntKind.wrap_i64] at h4 ⊢;rw [IntKind.wrap_i64];omega
 ·obtain ⟨h2,h3⟩:=C4 (r:=r) h;have h4:=Rr (c+(YW .u64 (Ww c a b)-Ww c a b)) a b;refine h3 _ ?_;rw [Vq] at h2 h4 ⊢
  generalize Ww c a b=m at h1 h2 h4 ⊢
  generalize PW _ a b=mx at h2 h4
  generalize a*Sig.x=p at h1 h4 ⊢
  generalize b*Sig.y=q at h1 h4 ⊢
  have hw:∀ n:Int,IntKind.u64.wrap n=n%18446744073709551616:=fun n=>by simp [IntKind.wrap,IntKind.signed,IntKind.bits]
  rw [hw] at h4 ⊢;rw [hw];omega
 ·cases h
theorem W3 {x y:Zb} {k:IntKind} {c a b d e f:Int} (h:X7 x y = .mk k c a b d e f) {u u':Value} (hx:VR r x u) (hy:VR r y u') :
  u = .int k (c+a*Sig.x+b*Sig.y)/\u' = .int k (d+e*Sig.x+f*Sig.y):=by
 unfold X7 at h;split at h
 ·rcases Ze h with ⟨h1,h2⟩ | ⟨_,h2⟩
  ·cases h2;have:=JD h1;subst this;cases hx with
   | sint _ h3=>cases hy with
    | sint _ h4=>subst h3 h4; exact ⟨rfl,rfl⟩
  ·cases h2
 ·rcases Ze h with ⟨h1,h2⟩ | ⟨_,h2⟩
  ·cases h2;have:=JD h1;subst this;cases hx with
   | sint _ h3=>cases hy with
    | int=>subst h3; exact ⟨rfl,by simp⟩
  ·cases h2
 ·rcases Ze h with ⟨h1,h2⟩ | ⟨_,h2⟩
  ·cases h2;have:=JD h1;subst this;cases hx with
   | int=>cases hy with
    | sint _ h4=>subst h4; exact ⟨by simp,rfl⟩
  ·cases h2
 ·cases h
theorem Zao {k:SK} {x y:Zb} {b:Bool} (h:Zgh k x y=some b) {u u':Value} (hx:VR r x u) (hy:VR r y u') {t:TypeId} (ht:Kx P t=some k) (d:Nat) :
  (Op.equalIn (d+1) t u u').run P w = .ok b w/\(b=true->u=u'):=by
 unfold Zgh at h;split at h
 ·unfold Zgg at h;split at h
  ·rename_i k c a b' d' e f hs;obtain ⟨rfl,rfl⟩:=W3 hs hx hy;have hb:=NH h
   have he:decide (0=c-d'+(a-e)*Sig.x+(b'-f)*Sig.y)=(c+a*Sig.x+b'*Sig.y==d'+e*Sig.x+f*Sig.y):=by
    rw [Int.sub_mul,Int.sub_mul,Bool.eq_iff_iff,decide_eq_true_iff,beq_iff_eq];omega
   rw [he] at hb;unfold Kx at ht;split at ht
   ·cases ht
   ·rename_i k' h3;refine ⟨by rw [run_equalIn_int w d t _ k' _ _ h3,hb],fun e => ?_⟩;rw [hb,beq_iff_eq] at e;rw [e]
   ·cases ht
   ·cases ht
  ·exact U6 h hx hy ht d
 ·exact U6 h hx hy ht d
theorem Ir {k:SK} {x y:Zb} {b:Bool} (h:eqK k x y=some b):Zgh k x y=some b:=by
 cases k
 ·exact h
 ·show Zgg x y=_;unfold Zgg;split
  ·rename_i hs;unfold eqK at h;split at h
   ·rename_i hx;unfold X7 at hs;split at hs <;> first | (rename_i e1 e2; cases e1; done) | (rename_i e1; cases e1; done) | cases hs
   ·cases hs
   ·cases hs
   ·cases h
  ·exact h
 ·exact h
theorem C5 {t:TypeId} {k:SK} (h:Kx P t=some k):JS P t=some false:=by
 unfold Kx at h;unfold JS;split at h <;> rename_i h1 <;> first | (simp only [h1]; done) | cases h
theorem U8 {t:TypeId} {k:SK} (h:Kx P t=some k) (d:Nat):P.eqGuardType (d+1) t=false:=by
 unfold Kx at h;unfold Program.eqGuardType;split at h <;> rename_i h1 <;> first | (simp only [h1]; done) | cases h
theorem NI {c:Bool} {k:Option SK} {l:Option (List SK)} {ks:List SK} (h:Zd5 c k l=some ks):∃ k' l',c=true/\k=some k'/\l=some l'/\ks=k'::l':=by
 unfold Zd5 at h;split at h
 ·cases h; exact ⟨_,_,rfl,rfl,rfl,rfl⟩
 ·cases h
theorem Mf {a b:Option Bool} {c:Bool} (h:Zgf a b=some c):(a=some true/\b=some c)\/(a=some false/\c=false):=by
 unfold Zgf at h;split at h
 ·exact .inl ⟨rfl,h⟩
 ·cases h; exact .inr ⟨rfl,rfl⟩
 ·cases h
theorem J4 {t:TypeId} (h:JS P t=some false) {L:List Value} {i:Nat} {u:Value} (hu:L[i]? = some u):(part t ⟨L⟩ i).run P w = .ok u w:=by
 simp [part,Yu h,hu]
theorem Ps (d:Nat):∀ (fs:List Field) (i:Nat) (ks:List SK) (a b:List Zb) (xs ys:List Value) (c:Bool),
  Wy P i fs=some ks->Pp ks a b=some c->∀ (X Y:List Value),X.drop i=xs->Y.drop i=ys->VRs r a xs->VRs r b ys ->
  (Op.eqFields (d+1) ⟨X⟩ ⟨Y⟩ fs).run P w = .ok c w/\(c=true->xs=ys)
 | [],i,ks,a,b,xs,ys,c,hf,he,X,Y,hX,hY,ha,hb=>by
  cases hf;unfold Pp at he;split at he
  ·cases he;cases ha; cases hb
   exact ⟨by simp [Op.eqFields],fun _=>rfl⟩
  ·rename_i h; cases h
  ·cases he
 | f::fs,i,ks,a,b,xs,ys,c,hf,he,X,Y,hX,hY,ha,hb=>by
  obtain ⟨k,l,h1,h2,h3,rfl⟩:=NI hf;rw [Bool.and_eq_true] at h1;obtain ⟨h4,h5⟩:=h1;have h4:=Nat.eq_of_beq_eq_true h4;cases ha with
  | nil=>cases he
  | cons hx hxs=>cases hb with
   | nil=>cases he
   | @cons y v b' ys' hy hys =>
    rename_i x u a' xs'
    have Iu:X[i]? = some u:=by
     have:=congrArg (·[0]?) hX;simpa using this
    have Iw:Y[i]? = some v:=by
     have:=congrArg (·[0]?) hY;simpa using this
    have hX':X.drop (i+1)=xs':=by rw [<- List.drop_drop,hX]; rfl
    have hY':Y.drop (i+1)=ys':=by rw [<- List.drop_drop,hY]; rfl
    have hn:f.name≠ "_":=by simpa using h5
    have hagg:=C5 h2;simp only [Pp] at he;rcases Mf he with ⟨e1,e2⟩ | ⟨e1,rfl⟩
    ·obtain ⟨q1,q2⟩:=Zao (w:=w) e1 hx hy h2 d;obtain ⟨p1,p2⟩:=Ps d fs (i+1) l a' b' xs' ys' c h3 e2 X Y hX' hY' hxs hys;refine ⟨?_,fun e=>by rw [q2 rfl,p2 e]⟩;simp only [Op.eqFields,ne_eq,hn,not_false_eq_true,if_true,Sem.run_bind];rw [h4,J4 hagg Iu];simp only [Result.andThen_ok];rw [J4 hagg Iw];simp only [Result.andThen_ok,q1,Bool.not_true,Bool.false_eq_true,if_false];exact p1
    ·obtain ⟨q1,q2⟩:=Zao (w:=w) e1 hx hy h2 d;refine ⟨?_,fun e=>by cases e⟩;simp only [Op.eqFields,ne_eq,hn,not_false_eq_true,if_true,Sem.run_bind];rw [h4,J4 hagg Iu];simp only [Result.andThen_ok];rw [J4 hagg Iw];simp only [Result.andThen_ok,q1,Bool.not_false,if_true];rfl
theorem C6:∀ {ks:List SK} {a b:List Zb} {c:Bool},PX ks a b=some c->Pp ks a b=some c
 | [],[],[],c,h=>h
 | k::ks,x::xs,y::ys,c,h=>by
  simp only [PX] at h;simp only [Pp];rcases Mf h with ⟨e1,e2⟩ | ⟨e1,rfl⟩
  ·rw [Ir e1,C6 e2]; rfl
  ·rw [Ir e1]; rfl
 | [],_::_,_,_,h=>by simp [PX] at h
 | [],[],_::_,_,h=>by simp [PX] at h
 | _::_,[],_,_,h=>by simp [PX] at h
 | _::_,_::_,[],_,h=>by simp [PX] at h
theorem Rs {t:TypeId} {ks:List SK} (h:VL P t=some ks):∃ fs,P.underlying t=some (.struct fs)/\P.stoodInHeld t=false/\Wy P 0 fs.toList=some ks:=by
 unfold VL at h;split at h
 ·rename_i fs h1;rcases Ze h with ⟨_,h2⟩ | ⟨h2,h3⟩
  ·cases h2
  ·exact ⟨fs,h1,h2,h3⟩
 ·cases h
theorem VQ:∀ (fs:List Field) (i:Nat) (ks:List SK) (d:Nat),Wy P i fs=some ks->fs.any (fun f=>f.name != "_" && P.eqGuardType (d+1) f.type)=false
 | [],_,_,_,_=>rfl
 | f::fs,i,ks,d,h=>by
  obtain ⟨k,l,_,h2,h3,_⟩:=NI h;rw [List.any_cons,U8 h2 d,Bool.and_false,Bool.false_or];exact VQ fs (i+1) l d h3
theorem C7 {t:TypeId} {ks:List SK} (h:VL P t=some ks) {a b:List Zb} {c:Bool} (he:Pp ks a b=some c) {xs ys:List Value} (ha:VRs r a xs) (hb:VRs r b ys) (d:Nat) :
  (Op.equalIn (d+2) t (.agg ⟨xs⟩) (.agg ⟨ys⟩)).run P w = .ok c w/\(c=true->xs=ys):=by
 obtain ⟨fs,h1,h2,h3⟩:=Rs h;have hfo:P.fieldsOf t=fs:=by unfold Program.fieldsOf; rw [h1]
 rw [run_equalIn_struct w (d+1) t ⟨xs⟩ ⟨ys⟩ (by rw [hfo]; exact h1) h2,hfo];exact Ps d fs.toList 0 ks a b xs ys c h3 he xs ys rfl rfl ha hb
theorem C8 {t:TypeId} {ks:List SK} (h:VL P t=some ks):P.eqGuardType P.depth t=false:=by
 obtain ⟨fs,h1,_,h3⟩:=Rs h;have:P.depth=(2*(P.types.size+Made.depth))+1+1:=rfl;rw [this];unfold Program.eqGuardType;simp only [h1];rw [<- Array.any_toList];exact VQ fs.toList 0 ks _ h3
theorem VS (op:BinOp) (t:TypeId) (x y:Operand) (a b:Value) (h1:∀ (e:a = .nilIface),b ≠ .nilIface) (h2:∀ c d,a = .agg c->b ≠ .agg d):(eqGuard op t x y a b).run P w = .ok () w:=by
 cases op <;> first
  | rfl
  | (cases a <;> cases b <;> first
    | rfl
    | exact absurd rfl (h1 rfl)
    | exact absurd rfl (h2 _ _ rfl))
theorem KV {op:BinOp} {t:TypeId} {x y:Operand} {a b u:Value} (hg:(eqGuard op t x y a b).run P w = .ok () w) (hb:(binOp op t a b).run P w = .ok u w) :
  (do eqGuard op t x y a b; binOp op t a b:Sem Value).run P w = .ok u w:=by
 simp only [Sem.run_bind,hg,Result.andThen_ok,hb]
abbrev LO (op:BinOp) (t:TypeId) (x y:Operand) (a b:Value):Sem Value:=do eqGuard op t x y a b; binOp op t a b
theorem toV_notIface {v:Zb} {u:Value} (h:toV v=some u) (hn:v ≠ .nilIface):u ≠ .nilIface:=by
 rintro rfl
 cases v <;> first
  | exact hn rfl
  | (simp only [toV] at h; cases h; done)
  | (simp only [toV,Option.map_eq_some_iff] at h; obtain ⟨_,_,h⟩:=h; cases h; done)
  | cases h
theorem SF (op:BinOp) (t:TypeId) (x y x' y':Operand) (a b:Value) (h:a ≠ .nilIface):eqGuard op t x y a b=eqGuard op t x' y' a b:=by
 cases op <;> first
  | rfl
  | (cases a <;> cases b <;> first | rfl | exact absurd rfl h)
theorem Zew {op:BinOp} {t:TypeId} {x y:Option Value} {v:Zb} (h:Zd2 P op t x y = .ok v):∃ a b,x=some a/\y=some b/\∀ (r:Rho) w,ZW P r w (LO op t (.tmp 0) (.const .nilIface) a b) v:=by
 unfold Zd2 at h;split at h
 ·exact ⟨_,_,rfl,rfl,fun r w=>Rp h⟩
 ·cases h
theorem Yv {neg:Bool} {o:Option Bool} {v:Zb} (h:CS neg o = .ok v):∃ b,o=some b/\v = .bool (if neg then !b else b):=by
 unfold CS at h;split at h
 ·rename_i b;cases h;exact ⟨b,rfl,by cases neg <;> rfl⟩
 ·cases h
theorem Zgt {k:IntKind} {c a b d e f:Int} {v:Zb} (h:Zjq k c a b d e f = .ok v):VR r v (.int k (k.wrap ((c+a*Sig.x+b*Sig.y)*(d+e*Sig.x+f*Sig.y)))):=by
 unfold Zjq at h;rcases Ze h with ⟨h1,h2⟩ | ⟨_,h2⟩
 ·obtain ⟨h6,h7⟩:=QF h1;rw [QP] at h6 h7;have h6:a=0:=eq_of_beq h6;have h7:b=0:=eq_of_beq h7;subst h6 h7;have h3:=WC (r:=r) h2
  have e1:c*d+c*e*Sig.x+c*f*Sig.y=(c+0*Sig.x+0*Sig.y)*(d+e*Sig.x+f*Sig.y):=by
   rw [Int.zero_mul,Int.zero_mul,Int.add_zero,Int.add_zero,Int.mul_add,Int.mul_add,Int.mul_assoc,Int.mul_assoc]
  rw [e1] at h3;exact h3
 ·rcases Ze h2 with ⟨h1,h2⟩ | ⟨_,h2⟩
  ·obtain ⟨h6,h7⟩:=QF h1;rw [QP] at h6 h7;have h6:e=0:=eq_of_beq h6;have h7:f=0:=eq_of_beq h7;subst h6 h7;have h3:=WC (r:=r) h2
   have e1:d*c+d*a*Sig.x+d*b*Sig.y=(c+a*Sig.x+b*Sig.y)*(d+0*Sig.x+0*Sig.y):=by
    rw [Int.zero_mul,Int.zero_mul,Int.add_zero,Int.add_zero,Int.mul_comm _ d,Int.mul_add,Int.mul_add,Int.mul_assoc,Int.mul_assoc]
   rw [e1] at h3;exact h3
  ·cases h2
theorem Wh (op:BinOp) (t:TypeId) (k:IntKind) (a b:Int) (h:op ≠ .shl/\op ≠ .shr):binOp op t (.int k a) (.int k b)=(match op with
   | .add | .sub | .mul=>Op.intArith op k a b
   | .quo | .rem=>Op.intDiv op k a b
   | .and | .or | .xor | .andNot=>Op.intBits op k a b
   | _=>Op.intCmp op a b):=by
 cases op <;> first
  | exact absurd rfl h.1
  | exact absurd rfl h.2
  | (simp [binOp])
theorem Zgu {k:IntKind} {c a b d e f:Int} {v:Zb} (h:Zjr k c a b d e f = .ok v):v = .int k ((c+a*Sig.x+b*Sig.y).tmod (d+e*Sig.x+f*Sig.y))/\d+e*Sig.x+f*Sig.y≠0:=by
 unfold Zjr at h;rcases Ze h with ⟨h1,hA⟩ | ⟨_,hA⟩
 ·clear h;rcases Ze hA with ⟨h2,hB⟩ | ⟨_,hB⟩
  ·clear hA;rcases Ze hB with ⟨h3,hC⟩ | ⟨_,hC⟩
   ·clear hB;rcases Ze hC with ⟨h4,hD⟩ | ⟨_,hD⟩
    ·clear hC;obtain ⟨h6,h7⟩:=QF h1;rw [QP] at h6 h7;have h6:e=0:=eq_of_beq h6;have h7:f=0:=eq_of_beq h7;rw [Xo,decide_eq_true_iff] at h2;have h2:(1:Int)<=d:=h2;rw [Xo,decide_eq_true_iff] at h3;have h3:(0:Int)<=Ww c a b:=h3;obtain ⟨h8,h9⟩:=QF h4;rw [QP] at h8 h9;have h8:a%d=0:=eq_of_beq h8;have h9:b%d=0:=eq_of_beq h9;have hv:v = .int k (c%d):=by cases hD; rfl
     have e1:d+e*Sig.x+f*Sig.y=d:=by rw [h6,h7]; omega
     rw [e1,hv];have hn:0<=c+a*Sig.x+b*Sig.y:=Int.le_trans h3 (Rq c a b);refine ⟨?_,by omega⟩;rw [Int.tmod_eq_emod_of_nonneg hn];have ha:a*Sig.x=d*(a / d*Sig.x):=by rw [<- Int.mul_assoc,Int.mul_ediv_cancel' (Int.dvd_of_emod_eq_zero h8)]
     have hb:b*Sig.y=d*(b / d*Sig.y):=by rw [<- Int.mul_assoc,Int.mul_ediv_cancel' (Int.dvd_of_emod_eq_zero h9)]
     rw [ha,hb,Int.add_mul_emod_self_left,Int.add_mul_emod_self_left]
    ·cases hD
   ·cases hC
  ·cases hB
 ·cases hA
theorem ZbI {op:BinOp} {t:TypeId} {k:IntKind} {c a b d e f:Int} {v:Zb} (h:UP op k c a b d e f = .ok v) :
  ZW P r w (binOp op t (.int k (c+a*Sig.x+b*Sig.y)) (.int k (d+e*Sig.x+f*Sig.y))) v:=by
 have hz:decide (0=c-d+(a-e)*Sig.x+(b-f)*Sig.y)=(c+a*Sig.x+b*Sig.y==d+e*Sig.x+f*Sig.y):=by
  rw [Int.sub_mul,Int.sub_mul,Bool.eq_iff_iff,decide_eq_true_iff,beq_iff_eq];omega
 have hp:decide (0<c-d+(a-e)*Sig.x+(b-f)*Sig.y)=decide (d+e*Sig.x+f*Sig.y<c+a*Sig.x+b*Sig.y):=by
  rw [Int.sub_mul,Int.sub_mul,Bool.eq_iff_iff,decide_eq_true_iff,decide_eq_true_iff];omega
 have hq:decide (0<d-c+(e-a)*Sig.x+(f-b)*Sig.y)=decide (c+a*Sig.x+b*Sig.y<d+e*Sig.x+f*Sig.y):=by
  rw [Int.sub_mul,Int.sub_mul,Bool.eq_iff_iff,decide_eq_true_iff,decide_eq_true_iff];omega
 have ha:c+d+(a+e)*Sig.x+(b+f)*Sig.y=(c+a*Sig.x+b*Sig.y)+(d+e*Sig.x+f*Sig.y):=by
  rw [Int.add_mul,Int.add_mul]; omega
 have hs:c-d+(a-e)*Sig.x+(b-f)*Sig.y=(c+a*Sig.x+b*Sig.y)-(d+e*Sig.x+f*Sig.y):=by
  rw [Int.sub_mul,Int.sub_mul]; omega
 unfold UP at h;split at h
 ·obtain ⟨t',h1,rfl⟩:=Yv h;have h2:=NH h1;rw [hz] at h2;rw [Wh _ _ _ _ _ (by decide),h2];exact ⟨_,by simp only [Op.intCmp]; rfl,.bool _⟩
 ·obtain ⟨t',h1,rfl⟩:=Yv h;have h2:=NH h1;rw [hz] at h2;rw [Wh _ _ _ _ _ (by decide),h2];exact ⟨_,by simp only [Op.intCmp]; rfl,.bool _⟩
 ·obtain ⟨t',h1,rfl⟩:=Yv h;have h2:=Me h1;rw [hq] at h2;rw [Wh _ _ _ _ _ (by decide),h2];exact ⟨_,by simp only [Op.intCmp]; rfl,.bool _⟩
 ·obtain ⟨t',h1,rfl⟩:=Yv h;have h2:=Me h1;rw [hp] at h2;rw [Wh _ _ _ _ _ (by decide),h2];exact ⟨_,by simp only [Op.intCmp]; rfl,.bool _⟩
 ·obtain ⟨t',h1,rfl⟩:=Yv h;have h2:=Me h1;rw [hp] at h2;rw [Wh _ _ _ _ _ (by decide)];refine ⟨.bool (decide (c+a*Sig.x+b*Sig.y<=d+e*Sig.x+f*Sig.y)),by simp only [Op.intCmp]; rfl,?_⟩
  have h3:(if true=true then !t' else t')=decide (c+a*Sig.x+b*Sig.y<=d+e*Sig.x+f*Sig.y):=by
   rw [h2,if_pos rfl,Bool.eq_iff_iff,Bool.not_eq_true',decide_eq_false_iff_not,decide_eq_true_iff];omega
  rw [h3];exact .bool _
 ·obtain ⟨t',h1,rfl⟩:=Yv h;have h2:=Me h1;rw [hq] at h2;rw [Wh _ _ _ _ _ (by decide)];refine ⟨.bool (decide (c+a*Sig.x+b*Sig.y>=d+e*Sig.x+f*Sig.y)),by simp only [Op.intCmp]; rfl,?_⟩
  have h3:(if true=true then !t' else t')=decide (c+a*Sig.x+b*Sig.y>=d+e*Sig.x+f*Sig.y):=by
   rw [h2,if_pos rfl,Bool.eq_iff_iff,Bool.not_eq_true',decide_eq_false_iff_not,decide_eq_true_iff];omega
  rw [h3];exact .bool _
 ·have h1:=WC (r:=r) h;rw [ha] at h1;rw [Wh _ _ _ _ _ (by decide)];exact ⟨_,rfl,h1⟩
 ·have h1:=WC (r:=r) h;rw [hs] at h1;rw [Wh _ _ _ _ _ (by decide)];exact ⟨_,rfl,h1⟩
 ·have h1:=Zgt (r:=r) h;rw [Wh _ _ _ _ _ (by decide)];exact ⟨_,rfl,h1⟩
 ·obtain ⟨rfl,h2⟩:=Zgu h;rw [Wh _ _ _ _ _ (by decide)];refine ⟨_,?_,.int _ _⟩;simp only [Op.intDiv];rw [if_neg h2];rfl
 ·cases h
theorem Zex {op:UnOp} {k:IntKind} {c a b:Int} {v:Zb} (h:ZdZ op k c a b = .ok v):ZW P r w (Op.unary op (.int k (c+a*Sig.x+b*Sig.y))) v:=by
 unfold ZdZ at h;split at h
 ·have h1:=WC (r:=r) h
  have e : -c + -a*Sig.x + -b*Sig.y=0-(c+a*Sig.x+b*Sig.y):=by
   rw [Int.neg_mul,Int.neg_mul]; omega
  rw [e] at h1;exact ⟨_,rfl,h1⟩
 ·cases h
theorem QR {op:BinOp} {t:TypeId} {x y v:Zb} (h:KU P op t x y = .ok v) {a b:Value} (hx:VR r x a) (hy:VR r y b) (p q:Operand) :
  ZW P r w (LO op t p q a b) v:=by
 unfold KU at h;split at h
 ·rename_i hs;obtain ⟨rfl,rfl⟩:=W3 hs hx hy;obtain ⟨u,h1,h2⟩:=ZbI (r:=r) (w:=w) (P:=P) (t:=t) h;exact ⟨u,KV (VS op t p q _ _ (fun e=>by cases e) (fun _ _ e=>by cases e)) h1,h2⟩
 ·split at h
  ·cases h
  ·cases hx with
   | gho hx hg hu hm =>
    unfold Zd4 at h;split at h
    all_goals first | (cases h; done) | skip
    all_goals
     unfold Zd3 at h;rcases Ze h with ⟨g1,h⟩ | ⟨_,h⟩
     ·rcases Ze h with ⟨g2,h⟩ | ⟨_,h⟩
      ·rcases Ze h with ⟨g3,h⟩ | ⟨_,h⟩
       ·cases h;have g1:=Nat.eq_of_beq_eq_true g1;have g2:=Nat.eq_of_beq_eq_true g2;have g3:=Nat.eq_of_beq_eq_true g3;subst g1 g2 g3;cases hy;obtain ⟨⟨_,_,rfl⟩,hz⟩:=Sig.nz _ _ _ hm;exact ⟨_,KV (VS _ t p q _ _ (fun e=>by cases e) (fun _ _ e=>by cases e)) (by first | exact (hz P t w).1 | exact (hz P t w).2),.bool _⟩
       ·cases h
      ·cases h
     ·cases h
  ·rename_i hn _;obtain ⟨a',b',h1,h2,h3⟩:=Zew h;have e1:=toV_ok r x a' a h1 hx;have e2:=toV_ok r y b' b h2 hy;subst e1 e2;obtain ⟨u,h4,h5⟩:=h3 r w;refine ⟨u,?_,h5⟩;rw [<- h4];unfold LO;rw [SF op t p q (.tmp 0) (.const .nilIface) a b (toV_notIface h1 fun e=>hn e)]
theorem VT {neg:Bool} {o:Option Bool} {v:Zb} (h:NB neg o = .ok v):∃ b,o=some b/\v = .bool (if neg then !b else b):=by
 unfold NB at h;split at h
 ·rename_i b;cases h;exact ⟨b,rfl,by cases neg <;> rfl⟩
 ·cases h
theorem Zgv {t:TypeId} {neg:Bool} {op:BinOp} (ho:op=if neg then .neq else .eql) {a b:Value} {c:Bool} (h:(Op.equal t a b).run P w = .ok c w)
  (h0:binOp op t a b=(if neg then (do pure (.bool (!(← Op.equal t a b)))) else (do pure (.bool (← Op.equal t a b))):Sem Value)) :
  (binOp op t a b).run P w = .ok (.bool (if neg then !c else c)) w:=by
 rw [h0];cases neg <;> simp [h]
end Ev
namespace Ev
open Go
variable [Sig] {P:Program} {r:Rho} {s:St} {w:World}
theorem Js {v:Zb} {u:Value} (h:VR r v u):ZW P r w (pure u) v:=⟨u,rfl,h⟩
theorem X9 {op:BinOp} {t:TypeId} {p q:Operand} {a b:Value} {v:Zb} (h1:∀ (e:a = .nilIface),b ≠ .nilIface) (h2:∀ c d,a = .agg c->b ≠ .agg d)
  (h:ZW P r w (binOp op t a b) v):ZW P r w (LO op t p q a b) v:=by
 obtain ⟨u,h3,h4⟩:=h;exact ⟨u,KV (VS op t p q a b h1 h2) h3,h4⟩
theorem Zaq {f:Int->Int->Bool} {j k:IntKind} {a b:Int} {v:Zb} (h:Zgi f j k a b = .ok v):j=k/\v = .bool (f a b):=by
 unfold Zgi at h;rcases Ze h with ⟨h1,h2⟩ | ⟨_,h2⟩
 ·cases h2; exact ⟨JD h1,rfl⟩
 ·cases h2
theorem Ge (op:BinOp) (t:TypeId) (a b:ByteArray):binOp op t (.string a) (.string b)=Op.stringOp op a b:=by
 cases op <;> rfl
theorem VV (op:BinOp) (t:TypeId) (k:IntKind) (a b:Int) (h:op ≠ .shl/\op ≠ .shr):binOp op t (.int k a) (.int k b)=(match op with
   | .add | .sub | .mul=>Op.intArith op k a b
   | .quo | .rem=>Op.intDiv op k a b
   | .and | .or | .xor | .andNot=>Op.intBits op k a b
   | _=>Op.intCmp op a b):=by
 cases op <;> first
  | exact absurd rfl h.1
  | exact absurd rfl h.2
  | (simp [binOp])
section
variable (d:Nat) {t:TypeId}
theorem FV {e:TypeId} (h:P.underlying t=some (.pointer e)) (b:Option Addr):(Op.equalIn (d+1) t (.pointer none) (.pointer b)).run P w = .ok b.isNone w:=by
 simp [Op.equalIn,run_underlying h]
theorem FW {e:TypeId} (h:P.underlying t=some (.pointer e)) (a:Addr):(Op.equalIn (d+1) t (.pointer (some a)) (.pointer none)).run P w = .ok false w:=by
 simp [Op.equalIn,run_underlying h]
theorem Zar {e:TypeId} (h:P.underlying t=some (.slice e)) (b:Option Addr) (n c m k:Nat):(Op.equalIn (d+1) t (.slice none n c) (.slice b m k)).run P w = .ok b.isNone w:=by
 simp [Op.equalIn,run_underlying h]
theorem Zas {e:TypeId} (h:P.underlying t=some (.slice e)) (a:Addr) (n c m k:Nat):(Op.equalIn (d+1) t (.slice (some a) n c) (.slice none m k)).run P w = .ok false w:=by
 simp [Op.equalIn,run_underlying h]
theorem Zat {k e:TypeId} (h:P.underlying t=some (.map k e)) (b:Option Nat):(Op.equalIn (d+1) t (.map none) (.map b)).run P w = .ok b.isNone w:=by
 simp [Op.equalIn,run_underlying h]
theorem Zau {k e:TypeId} (h:P.underlying t=some (.map k e)) (a:Nat):(Op.equalIn (d+1) t (.map (some a)) (.map none)).run P w = .ok false w:=by
 simp [Op.equalIn,run_underlying h]
theorem Zav {a b:Array TypeId} {v:Bool} (h:P.underlying t=some (.func a b v)):(Op.equalIn (d+1) t .nilFunc .nilFunc).run P w = .ok true w:=by
 simp [Op.equalIn,run_underlying h]
theorem Zaw {a b:Array TypeId} {v:Bool} (h:P.underlying t=some (.func a b v)) (f:Fn) (x y:Array Value):(Op.equalIn (d+1) t (.func f x y) .nilFunc).run P w = .ok false w:=by
 simp [Op.equalIn,run_underlying h]
end
theorem ZbJ (a b:Int):(a != b) = !(a==b):=rfl
theorem C9 {op:BinOp} {t:TypeId} {neg:Bool} (ho:op=if neg then .neq else .eql) {x y v:Zb} (h:rV P op t (Rh P t) neg x y = .ok v) {a b:Value} (hx:VR r x a) (hy:VR r y b) (p q:Operand) :
  ZW P r w (LO op t p q a b) v:=by
 unfold rV at h;split at h
 ·rename_i i m j n;obtain ⟨rfl,rfl⟩:=Zaq h;cases hx; cases hy
  refine X9 (fun e=>by cases e) (fun _ _ e=>by cases e) ?_;refine ⟨_,?_,.bool _⟩;subst ho;cases neg
  ·rw [show ((if false=true then BinOp.neq else BinOp.eql)) = .eql from rfl,VV .eql t i m n (by decide)];simp [Op.intCmp,Je,QP]
  ·rw [show ((if true=true then BinOp.neq else BinOp.eql)) = .neq from rfl,VV .neq t i m n (by decide)];simp [Op.intCmp,JG,QP,ZbJ]
 ·rename_i m n;cases h;cases hx; cases hy
  refine X9 (fun e=>by cases e) (fun _ _ e=>by cases e) ?_;refine ⟨_,?_,.bool _⟩;subst ho;rw [Ge];cases neg
  ·simp [Op.stringOp,Je,Qo,ByteArray.toList_eq]
  ·simp [Op.stringOp,JG,Qo,ByteArray.toList_eq]
 ·rename_i hn1 hn2
  have fin:∀ c:Bool,(Op.equal t a b).run P w = .ok c w->(∀ i m j n,a = .int i m->b ≠ .int j n)->(∀ i m,a = .string i->b ≠ .string m)->(∀ i m j n,a = .float i m->b ≠ .float j n) ->
    (∀ i m m' j n n',a = .complex i m m'->b ≠ .complex j n n')->(binOp op t a b).run P w = .ok (.bool (if neg then !c else c)) w:=by
   intro c hc h1 h2 h3 h4;refine Zgv ho hc ?_;subst ho;cases neg
   ·cases a <;> cases b <;> first
     | rfl
     | exact absurd rfl (h1 _ _ _ _ rfl)
     | exact absurd rfl (h2 _ _ rfl)
     | exact absurd rfl (h3 _ _ _ _ rfl)
     | exact absurd rfl (h4 _ _ _ _ _ _ rfl)
   ·cases a <;> cases b <;> first
     | rfl
     | exact absurd rfl (h1 _ _ _ _ rfl)
     | exact absurd rfl (h2 _ _ rfl)
     | exact absurd rfl (h3 _ _ _ _ rfl)
     | exact absurd rfl (h4 _ _ _ _ _ _ rfl)
  have done:∀ c:Bool,v = .bool (if neg then !c else c)->(Op.equal t a b).run P w = .ok c w->(∀ (e:a = .nilIface),b ≠ .nilIface)->(∀ c d,a = .agg c->b ≠ .agg d) ->
    (∀ i m j n,a = .int i m->b ≠ .int j n)->(∀ i m,a = .string i->b ≠ .string m)->(∀ i m j n,a = .float i m->b ≠ .float j n) ->
    (∀ i m m' j n n',a = .complex i m m'->b ≠ .complex j n n')->ZW P r w (LO op t p q a b) v:=by
   intro c hv hc e1 e2 h1 h2 h3 h4;subst hv;exact X9 e1 e2 ⟨_,fin c hc h1 h2 h3 h4,.bool _⟩
  cases hk:Rh P t <;> rw [hk] at h <;> simp only [Zd7] at h
  ·obtain ⟨c,h1,h2⟩:=VT h
   have ht:∃ e,P.underlying t=some (.pointer e):=by
    unfold Rh at hk;split at hk <;> first | (rename_i e h0; exact ⟨e,h0⟩) | cases hk | (unfold mG at hk; split at hk <;> cases hk)
   obtain ⟨e,ht⟩:=ht;unfold Zd6 at h1;split at h1 <;> first | (cases h1; done) | skip
   all_goals
    cases h1;cases hx;cases hy;refine done _ h2 ?_ (fun e=>by cases e) (fun _ _ e=>by cases e) (fun _ _ _ _ e=>by cases e) (fun _ _ e=>by cases e) (fun _ _ _ _ e=>by cases e) (fun _ _ _ _ _ _ e=>by cases e)
    first
     | exact FV 9999 ht _
     | exact FW 9999 ht _
     | exact Zar 9999 ht _ _ _ _ _
     | exact Zas 9999 ht _ _ _ _ _
     | exact Zat 9999 ht _
     | exact Zau 9999 ht _
     | exact Zav 9999 ht
     | exact Zaw 9999 ht _ _ _
  ·obtain ⟨c,h1,h2⟩:=VT h
   have ht:∃ e,P.underlying t=some (.slice e):=by
    unfold Rh at hk;split at hk <;> first | (cases hk; done) | (rename_i e h0; exact ⟨e,h0⟩) | (unfold mG at hk; split at hk <;> cases hk)
   obtain ⟨e,ht⟩:=ht;unfold Zhw at h1;split at h1 <;> first | (cases h1; done) | skip
   all_goals
    cases h1;cases hx;cases hy;refine done _ h2 ?_ (fun e=>by cases e) (fun _ _ e=>by cases e) (fun _ _ _ _ e=>by cases e) (fun _ _ e=>by cases e) (fun _ _ _ _ e=>by cases e) (fun _ _ _ _ _ _ e=>by cases e)
    first
     | exact FV 9999 ht _
     | exact FW 9999 ht _
     | exact Zar 9999 ht _ _ _ _ _
     | exact Zas 9999 ht _ _ _ _ _
     | exact Zat 9999 ht _
     | exact Zau 9999 ht _
     | exact Zav 9999 ht
     | exact Zaw 9999 ht _ _ _
  ·obtain ⟨c,h1,h2⟩:=VT h
   have ht:∃ d e,P.underlying t=some (.map d e):=by
    unfold Rh at hk;split at hk <;> first | (cases hk; done) | (rename_i d e h0; exact ⟨d,e,h0⟩) | (unfold mG at hk; split at hk <;> cases hk)
   obtain ⟨d,e,ht⟩:=ht;unfold Zhx at h1;split at h1 <;> first | (cases h1; done) | skip
   all_goals
    cases h1;cases hx;cases hy;refine done _ h2 ?_ (fun e=>by cases e) (fun _ _ e=>by cases e) (fun _ _ _ _ e=>by cases e) (fun _ _ e=>by cases e) (fun _ _ _ _ e=>by cases e) (fun _ _ _ _ _ _ e=>by cases e)
    first
     | exact FV 9999 ht _
     | exact FW 9999 ht _
     | exact Zar 9999 ht _ _ _ _ _
     | exact Zas 9999 ht _ _ _ _ _
     | exact Zat 9999 ht _
     | exact Zau 9999 ht _
     | exact Zav 9999 ht
     | exact Zaw 9999 ht _ _ _
  ·obtain ⟨c,h1,h2⟩:=VT h
   have ht:∃ d e f,P.underlying t=some (.func d e f):=by
    unfold Rh at hk;split at hk <;> first | (cases hk; done) | (rename_i d e f h0; exact ⟨d,e,f,h0⟩) | (unfold mG at hk; split at hk <;> cases hk)
   obtain ⟨d,e,f,ht⟩:=ht;unfold Zhy at h1;split at h1 <;> first | (cases h1; done) | skip
   all_goals
    cases h1;cases hx;cases hy;refine done _ h2 ?_ (fun e=>by cases e) (fun _ _ e=>by cases e) (fun _ _ _ _ e=>by cases e) (fun _ _ e=>by cases e) (fun _ _ _ _ e=>by cases e) (fun _ _ _ _ _ _ e=>by cases e)
    first
     | exact FV 9999 ht _
     | exact FW 9999 ht _
     | exact Zar 9999 ht _ _ _ _ _
     | exact Zas 9999 ht _ _ _ _ _
     | exact Zat 9999 ht _
     | exact Zau 9999 ht _
     | exact Zav 9999 ht
     | exact Zaw 9999 ht _ _ _
  ·rename_i ks;obtain ⟨c,h1,h2⟩:=VT h
   have ht:VL P t=some ks:=by
    unfold Rh at hk;split at hk <;> first | (cases hk; done) | (unfold mG at hk; split at hk <;> first | (cases hk; assumption) | cases hk)
   unfold Zhz at h1;split at h1
   ·cases hx with
    | agg ha=>cases hy with
     | agg hb =>
      obtain ⟨q1,_⟩:=C7 (w:=w) ht h1 ha hb 9998;subst h2;refine ⟨_,KV (run_eqGuard_agg w op t p q _ _ (C8 ht)) ?_,.bool _⟩;exact fin c q1 (fun _ _ _ _ e=>by cases e) (fun _ _ e=>by cases e) (fun _ _ _ _ e=>by cases e) (fun _ _ _ _ _ _ e=>by cases e)
   ·cases h1
  ·exact QR h hx hy p q
theorem Yw {op:BinOp} {t:TypeId} {f:Int->Int->Bool} {g:List UInt8->List UInt8->Bool} (ho:op ≠ .shl/\op ≠ .shr)
  (hi:∀ k a b,binOp op t (.int k a) (.int k b)=pure (.bool (f a b))) (hs:∀ a b,binOp op t (.string ⟨⟨a⟩⟩) (.string ⟨⟨b⟩⟩)=pure (.bool (g a b)))
  {x y v:Zb} (h:SB P op t f g x y = .ok v) {a b:Value} (hx:VR r x a) (hy:VR r y b) (p q:Operand):ZW P r w (LO op t p q a b) v:=by
 unfold SB at h;split at h
 ·obtain ⟨rfl,rfl⟩:=Zaq h;cases hx; cases hy
  refine X9 (fun e=>by cases e) (fun _ _ e=>by cases e) ?_;rw [hi];exact Js (.bool _)
 ·cases h;cases hx; cases hy
  refine X9 (fun e=>by cases e) (fun _ _ e=>by cases e) ?_;rw [hs];exact Js (.bool _)
 ·exact QR h hx hy p q
theorem VW {op:BinOp} {t:TypeId} {f:Int->Int->Int} (hi:∀ k a b,binOp op t (.int k a) (.int k b)=pure (.int k (k.wrap (f a b))))
  {x y v:Zb} (h:VM P op t f x y = .ok v) {a b:Value} (hx:VR r x a) (hy:VR r y b) (p q:Operand):ZW P r w (LO op t p q a b) v:=by
 unfold VM at h;split at h
 ·rename_i j m k n;rcases Ze h with ⟨h1,h2⟩ | ⟨_,h2⟩
  ·cases h2;have:=JD h1;subst this;cases hx; cases hy
   refine X9 (fun e=>by cases e) (fun _ _ e=>by cases e) ?_;rw [hi,Vq];exact Js (.int _ _)
  ·cases h2
 ·exact QR h hx hy p q
theorem NJ {op:BinOp} {t:TypeId} {f:Nat->Nat->Nat} (hi:∀ a b:Nat,binOp op t (.int .u32 (Int.ofNat a)) (.int .u32 (Int.ofNat b))=pure (.int .u32 (Int.ofNat (f (Nat.mod a 4294967296) (Nat.mod b 4294967296)))))
  {x y v:Zb} (h:Mb P op t f x y = .ok v) {a b:Value} (hx:VR r x a) (hy:VR r y b) (p q:Operand):ZW P r w (LO op t p q a b) v:=by
 unfold Mb at h;split at h
 ·cases h;cases hx; cases hy
  refine X9 (fun e=>by cases e) (fun _ _ e=>by cases e) ?_;rw [hi];exact Js (.int _ _)
 ·exact QR h hx hy p q
theorem Rt (a:Nat):(BitVec.ofInt 32 (Int.ofNat a)).toNat=a%4294967296:=by
 rw [BitVec.toNat_ofInt];show ((a:Int)%((2^32:Nat):Int)).toNat=_;omega
theorem wrap_u32 (n:Nat) (h:n<4294967296):IntKind.u32.wrap (n:Int)=Int.ofNat n:=IntWalk.u32_in _ (by omega)
theorem Zgw (a b:Nat):Nat.land (a%4294967296) (b%4294967296)<4294967296 :=
 Nat.lt_of_le_of_lt (Nat.and_le_left) (Nat.mod_lt _ (by decide))
theorem ZjI (a b:Nat):Nat.xor (a%4294967296) (b%4294967296)<4294967296 :=
 Nat.xor_lt_two_pow (n:=32) (Nat.mod_lt _ (by decide)) (Nat.mod_lt _ (by decide))
theorem FX (a b:Int):decide (a<b) = !decide (b<=a):=by
 by_cases h:b<=a
 ·have:¬ a<b:=by omega
  simp [h]
 ·have:a<b:=by omega
  simp [h,this]
theorem bytes_total:∀ a b:List UInt8,(Op.bytesLess a b || (a==b)) = !Op.bytesLess b a
 | [],[]=>rfl
 | [],_::_=>rfl
 | _::_,[]=>rfl
 | a::x,b::y=>by
  have ih:=bytes_total x y;simp only [Op.bytesLess];by_cases h1:a<b
  ·have h2:¬ b<a:=by rw [UInt8.lt_iff_toNat_lt] at h1 ⊢; omega
   have h3:(b==a)=false:=by rw [beq_eq_false_iff_ne]; rintro rfl; rw [UInt8.lt_iff_toNat_lt] at h1; omega
   simp [h1,h2,h3]
  ·by_cases h2:b<a
   ·have h3:(a==b)=false:=by rw [beq_eq_false_iff_ne]; rintro rfl; exact h1 h2
    have h4:(a::x==b::y)=false:=by rw [beq_eq_false_iff_ne]; intro e; injection e with e _; subst e; exact h1 h2
    simp [h1,h2,h3,h4]
   ·have h3:a=b:=UInt8.toNat_inj.1 (by rw [UInt8.lt_iff_toNat_lt] at h1 h2; omega);subst h3
    have h4:(a::x==a::y)=(x==y):=by
     rw [Bool.eq_iff_iff,beq_iff_eq,beq_iff_eq];exact ⟨fun e=>by injection e,fun e=>by rw [e]⟩
    simp [h4,ih]
theorem ZjJ {op:BinOp} {t:TypeId} {x y v:Zb} (h:(Ie P op t).run x y = .ok v) {a b:Value} (hx:VR r x a) (hy:VR r y b) (p q:Operand) :
  ZW P r w (LO op t p q a b) v:=by
 cases op
 case eql=>exact C9 (neg:=false) rfl h hx hy p q
 case neq=>exact C9 (neg:=true) rfl h hx hy p q
 case lss=>exact Yw (by decide) (fun k a b=>by rw [VV _ _ _ _ _ (by decide)]; simp [Op.intCmp,Xo,FX]) (fun a b=>by rw [Ge]; simp [Op.stringOp,Xz,ByteArray.toList_eq]) h hx hy p q
 case leq=>exact Yw (by decide) (fun k a b=>by rw [VV _ _ _ _ _ (by decide)]; simp [Op.intCmp,Xo,FX]) (fun a b=>by rw [Ge]; simp [Op.stringOp,Xz,ByteArray.toList_eq,bytes_total]) h hx hy p q
 case gtr=>exact Yw (by decide) (fun k a b=>by rw [VV _ _ _ _ _ (by decide)]; simp [Op.intCmp,Xo,FX]) (fun a b=>by rw [Ge]; simp [Op.stringOp,Xz,ByteArray.toList_eq,bytes_total]) h hx hy p q
 case geq=>exact Yw (by decide) (fun k a b=>by rw [VV _ _ _ _ _ (by decide)]; simp [Op.intCmp,Xo,FX]) (fun a b=>by rw [Ge]; simp [Op.stringOp,Xz,ByteArray.toList_eq]) h hx hy p q
 case add =>
  change UR P t x y = .ok v at h
  unfold UR at h;split at h
  ·rename_i m n;rcases Ze h with ⟨h1,h2⟩ | ⟨_,h2⟩
   ·cases h2;have h3:m.length+n.length<=16777216:=Nat.le_of_ble_eq_true h1;cases hx; cases hy
    refine X9 (fun e=>by cases e) (fun _ _ e=>by cases e) ⟨.string ⟨⟨m++n⟩⟩,?_,.str _⟩;rw [Ge]
    have h4:¬ (((m.length+n.length:Nat):Int)>IntKind.i64.max):=by
     rw [show IntKind.i64.max=9223372036854775807 by decide];omega
    have h5:(⟨⟨m⟩⟩:ByteArray).size=m.length:=rfl;have h6:(⟨⟨n⟩⟩:ByteArray).size=n.length:=rfl;simp only [Op.stringOp,h5,h6,if_neg h4,Sem.run_pure];rfl
   ·cases h2
  ·exact VW (fun k a b=>by rw [VV _ _ _ _ _ (by decide)]; rfl) h hx hy p q
 case sub=>exact VW (fun k a b=>by rw [VV _ _ _ _ _ (by decide)]; rfl) h hx hy p q
 case mul=>exact VW (fun k a b=>by rw [VV _ _ _ _ _ (by decide)]; rfl) h hx hy p q
 case and =>
  exact NJ (op := .and) (t:=t) (f:=Nat.land) (fun a b=>by
  rw [VV _ t _ _ _ (by decide)];show (pure (.int .u32 (IntKind.u32.wrap _)):Sem Value)=_;rw [BitVec.toNat_and]
  change (pure (.int .u32 (IntKind.u32.wrap (((BitVec.ofInt 32 (Int.ofNat a)).toNat&&&(BitVec.ofInt 32 (Int.ofNat b)).toNat:Nat):Int))):Sem Value)=_
  rw [Rt,Rt]
  change (pure (.int .u32 (IntKind.u32.wrap ((Nat.land (a%4294967296) (b%4294967296):Nat):Int))):Sem Value)=_
  rw [wrap_u32 _ (Zgw a b)]
  rfl) h hx hy p q
 case xor =>
  exact NJ (op := .xor) (t:=t) (f:=Nat.xor) (fun a b=>by
  rw [VV _ t _ _ _ (by decide)];show (pure (.int .u32 (IntKind.u32.wrap _)):Sem Value)=_;rw [BitVec.toNat_xor]
  change (pure (.int .u32 (IntKind.u32.wrap (((BitVec.ofInt 32 (Int.ofNat a)).toNat^^^(BitVec.ofInt 32 (Int.ofNat b)).toNat:Nat):Int))):Sem Value)=_
  rw [Rt,Rt]
  change (pure (.int .u32 (IntKind.u32.wrap ((Nat.xor (a%4294967296) (b%4294967296):Nat):Int))):Sem Value)=_
  rw [wrap_u32 _ (ZjI a b)]
  rfl) h hx hy p q
 case shr =>
  change US P t x y = .ok v at h
  unfold US at h;split at h
  ·rename_i j m k n;cases h;cases hx; cases hy
   refine X9 (fun e=>by cases e) (fun _ _ e=>by cases e) ⟨_,?_,.int _ _⟩;have h1:¬ ((Int.ofNat n)<0):=by show ¬ ((n:Int)<0); omega
   simp only [binOp,Op.shift,if_neg h1,Sem.run_pure];have h2:(Int.ofNat n).toNat=n:=rfl;rw [h2]
   generalize min n j.bits=k
   congr 2
   show ((m:Int)).fdiv ((2:Int)^k)=((m / 2^k:Nat):Int);rw [Int.fdiv_eq_ediv_of_nonneg _ (Int.le_of_lt (Int.pow_pos (by decide))),Int.natCast_ediv,Int.natCast_pow];rfl
  ·exact QR h hx hy p q
 case quo=>exact QR h hx hy p q
 case rem=>exact QR h hx hy p q
 case or=>exact QR h hx hy p q
 case shl=>exact QR h hx hy p q
 case andNot=>exact QR h hx hy p q
end Ev
namespace Ev
open Go
variable [Sig] {P:Program} {r:Rho} {s:St} {w:World}
theorem Zlu {op:UnOp} {x v:Zb} (h:unV P op x = .ok v) {a:Value} (hx:VR r x a):ZW P r w (Op.unary op a) v:=by
 have slow:∀ op,UT P op (toV x) = .ok v->ZW P r w (Op.unary op a) v:=by
  intro op h;unfold UT at h;split at h
  ·rename_i u hu;have:=toV_ok r x u a hu hx;subst this;exact Rp h
  ·cases h
 have slow:∀ op,unS P op x = .ok v->ZW P r w (Op.unary op a) v:=by
  intro op h;unfold unS at h;split at h
  ·cases hx with
   | sint _ hn=>subst hn; exact Zex h
  ·exact slow op h
 cases op with
 | not =>
  change Zjv x = .ok v at h
  unfold Zjv at h;split at h
  ·cases h; cases hx; exact Js (.bool _)
  ·cases h
 | neg=>exact slow .neg h
 | xor=>exact slow .xor h
 | plus=>exact slow .plus h
theorem Zax {t:TypeId} {o n:Nat} {g:Bool} (hs:Qa P t=some n) (hg:JS P t=some g) {cs:List Zb} {vs:List Value} (hv:VRs r cs vs) {v:Zb} (h:Nz cs o n g = .ok v) :
  ZW P r w (part t ⟨vs⟩ o) v:=by
 obtain ⟨h1,h2⟩:=C0 (rest:=[]) hv h;rw [List.append_nil] at h2;rcases h2 with ⟨rfl,h2⟩ | ⟨rfl,rfl,u,h2,h3⟩
 ·refine ⟨_,?_,h2⟩;simp only [part,Sem.run_bind,Yu hg,Result.andThen_ok,if_true,run_sizeOf hs,Sem.run_pure]
  congr 3
  rw [List.extract_toArray];simp [List.extract_eq_take_drop]
 ·exact ⟨u,J4 hg h2,h3⟩
theorem U9 {t:TypeId} {f:Nat} {x v:Zb} (h:FM (Wf P t f) x = .ok v) {a:Value} (hx:VR r x a):ZW P r w (Instr.field t a f) v:=by
 unfold FM at h;split at h
 ·rename_i cs o n g hp;obtain ⟨fs,y,h1,h2,h3,h4,h5⟩:=SE hp;cases hx with
  | agg hc =>
   obtain ⟨u,h6,h7⟩:=Zax (P:=P) (w:=w) h4 h5 hc h;refine ⟨u,?_,h7⟩;simp only [Instr.field,Sem.run_bind,run_underlying h1,Result.andThen_ok,h2,asAgg,Sem.run_pure,h3,h6]
 ·cases h
theorem Mg {c:Bool} {x:V} {v:Zb} (h:sel c .bad x = .ok v):c=false/\x = .ok v:=by
 rcases Ze h with ⟨_,h2⟩ | ⟨h1,h2⟩
 ·cases h2
 ·exact ⟨h1,h2⟩
theorem ZQ {c:Bool} {x:V} {v:Zb} (h:sel c x .bad = .ok v):c=true/\x = .ok v:=by
 rcases Ze h with ⟨h1,h2⟩ | ⟨_,h2⟩
 ·exact ⟨h1,h2⟩
 ·cases h2
theorem VX {c:Bool} {x:R} {v:Zb} {s':St} (h:sel c .bad x = .ok v s'):c=false/\x = .ok v s':=by
 rcases Ze h with ⟨_,h2⟩ | ⟨h1,h2⟩
 ·cases h2
 ·exact ⟨h1,h2⟩
theorem Zt {c:Bool} {x:R} {v:Zb} {s':St} (h:sel c x .bad = .ok v s'):c=true/\x = .ok v s':=by
 rcases Ze h with ⟨h1,h2⟩ | ⟨_,h2⟩
 ·exact ⟨h1,h2⟩
 ·cases h2
theorem JC {a b:Nat} (h:Nat.beq a b=false):a≠b:=by
 rintro rfl;rw [Nat.beq_refl] at h;cases h
theorem ZE {a b:Nat} (h:Nat.beq a b=true):a=b:=Nat.eq_of_beq_eq_true h
theorem Qj {a b:Nat} (h:Nat.ble a b=true):a<=b:=Nat.le_of_ble_eq_true h
theorem QI {a b:Nat} (h:Nat.blt a b=true):a<b:=Nat.le_of_ble_eq_true h
theorem Ru {a b:Nat} (h:Nat.ble a b=false):b<a:=by
 rcases Nat.lt_or_ge b a with h1 | h1
 ·exact h1
 ·rw [Nat.ble_eq_true_of_le h1] at h; cases h
theorem Zgx {a b:Nat} (h:Nat.blt a b=false):b<=a:=by have:=Ru h; omega
theorem Ea {t:TypeId} {f:Nat} {x v:Zb} (h:FL (Wf P t f) x = .ok v) {a:Value} (hx:VR r x a):ZW P r w (Instr.fieldAt t a f) v:=by
 unfold FL at h;split at h
 ·rename_i id off o n g hp;obtain ⟨h0,h⟩:=Mg h;cases h;have hn:=JC h0;obtain ⟨fs,y,h1,h2,rfl,h4,h5⟩:=SE hp;cases hx with
  | ptr hr =>
   refine ⟨_,?_,.ptr hr⟩;simp only [Instr.fieldAt,Sem.run_bind,run_underlying h1,Result.andThen_ok,h2,Instr.sureAddr,Sem.run_pure,fieldPlace,run_sizeOf h4,hn,if_false,Xl]
 ·cases h
theorem Zgy {t:TypeId} {sz:Nat} (h:LK P t = .sl sz):∃ e,P.underlying t=some (.slice e)/\Qa P e=some sz/\sz≠0:=by
 unfold LK at h;split at h
 ·rename_i e h1;split at h
  ·rename_i n h2;rcases Ze h with ⟨_,h3⟩ | ⟨h3,h4⟩
   ·cases h3
   ·cases h4; exact ⟨e,h1,h2,JC h3⟩
  ·cases h
 ·split at h
  ·rcases Ze h with ⟨_,h3⟩ | ⟨h3,h4⟩
   ·cases h3
   ·cases h4
  ·cases h
 ·cases h
 ·cases h
theorem Be {t:TypeId} {n sz:Nat} {g:Bool} (h:LK P t = .arr n sz g):∃ e,P.underlying t=some (.array n e)/\Qa P e=some sz/\JS P e=some g/\sz≠0:=by
 unfold LK at h;split at h
 ·split at h
  ·rcases Ze h with ⟨_,h3⟩ | ⟨h3,h4⟩
   ·cases h3
   ·cases h4
  ·cases h
 ·rename_i m e h1;split at h
  ·rename_i k g' h2 h2';rcases Ze h with ⟨_,h3⟩ | ⟨h3,h4⟩
   ·cases h3
   ·cases h4; exact ⟨e,h1,h2,h2',JC h3⟩
  ·cases h
 ·cases h
 ·cases h
theorem Zey {t:TypeId} (h:LK P t = .str):P.underlying t=some .string:=by
 unfold LK at h;split at h
 ·split at h
  ·rcases Ze h with ⟨_,h3⟩ | ⟨h3,h4⟩
   ·cases h3
   ·cases h4
  ·cases h
 ·split at h
  ·rcases Ze h with ⟨_,h3⟩ | ⟨h3,h4⟩
   ·cases h3
   ·cases h4
  ·cases h
 ·rename_i h1; exact h1
 ·cases h
theorem Xp {x:Zb} {n:Nat} (h:asNat x=some n) {a:Value} (hx:VR r x a):∃ k,a = .int k (Int.ofNat n):=by
 unfold asNat at h;split at h
 ·cases h; cases hx; exact ⟨_,rfl⟩
 ·cases h
theorem ZbK {t:TypeId} {x i v:Zb} (h:U2 (LK P t) (asNat i) x = .ok v) {a b:Value} (hx:VR r x a) (hi:VR r i b):ZW P r w (Instr.indexAt t a b) v:=by
 unfold U2 at h;split at h
 ·rename_i id off n c sz m hix hn;obtain ⟨h0,h⟩:=ZQ h;cases h;have hlt:=QI h0;obtain ⟨k,rfl⟩:=Xp hn hi;obtain ⟨e,h1,h2,h3⟩:=Zgy hix;cases hx with
  | slice hr hcap hc hu =>
   refine ⟨_,?_,.ptr hr⟩
   have h4:(0:Int)<=Int.ofNat m/\Int.ofNat m<(n:Int):=by
    constructor
    ·show (0:Int)<=(m:Int); omega
    ·show (m:Int)<(n:Int); omega
   simp only [Instr.indexAt,Sem.run_bind,asIntOf,Sem.run_pure,Result.andThen_ok,run_underlying h1,if_pos h4,run_sizeOf h2];rw [Xl];rfl
 ·rename_i id off n sz g m hix hn;obtain ⟨h0,h⟩:=ZQ h;cases h;have hlt:=QI h0;obtain ⟨k,rfl⟩:=Xp hn hi;obtain ⟨e,h1,h2,_,h3⟩:=Be hix;cases hx with
  | ptr hr =>
   refine ⟨_,?_,.ptr hr⟩
   have h4:(0:Int)<=Int.ofNat m/\Int.ofNat m<(n:Int):=by
    constructor
    ·show (0:Int)<=(m:Int); omega
    ·show (m:Int)<(n:Int); omega
   simp only [Instr.indexAt,Sem.run_bind,asIntOf,Sem.run_pure,Result.andThen_ok,run_underlying h1,Instr.sureAddr,if_pos h4,run_sizeOf h2];rw [Xl];rfl
 ·cases h
theorem Gf:∀ (n:Nat) {l:List UInt8} {v:Zb},Zek n l = .ok v->∃ b,l[n]? = some b/\v = .int .u8 (Int.ofNat b.toNat)
 | 0,[],v,h=>by cases h
 | 0,a::l,v,h=>by cases h; exact ⟨a,rfl,rfl⟩
 | n+1,[],v,h=>by cases h
 | n+1,a::l,v,h=>by
  obtain ⟨b,h1,h2⟩:=Gf n (l:=l) h;exact ⟨b,by rw [List.getElem?_cons_succ]; exact h1,h2⟩
theorem ZbL {l:List UInt8} {m:Nat} {b:UInt8} (h:l[m]? = some b):(ByteArray.mk ⟨l⟩)[m]? = some b:=by
 obtain ⟨h5,h6⟩:=List.getElem?_eq_some_iff.1 h;have h7:m<(ByteArray.mk ⟨l⟩).size:=h5;rw [getElem?_pos (ByteArray.mk ⟨l⟩) m h7];exact congrArg some h6
theorem Zez {t:TypeId} {x i v:Zb} (h:Zel (LK P t) (asNat i) x = .ok v) {a b:Value} (hx:VR r x a) (hi:VR r i b):ZW P r w (Instr.index t a b) v:=by
 unfold Zel at h;split at h
 ·rename_i l m hix hn;obtain ⟨b',h1,rfl⟩:=Gf m h;obtain ⟨k,rfl⟩:=Xp hn hi;have h2:=Zey hix;cases hx;refine ⟨_,?_,.int _ _⟩;have h3:(0:Int)<=Int.ofNat m:=by show (0:Int)<=(m:Int); omega
  have h4:=ZbL h1;have h5:(Int.ofNat m).toNat=m:=rfl;simp only [Instr.index,Sem.run_bind,asIntOf,Sem.run_pure,Result.andThen_ok,run_underlying h2,if_pos h3,h5,h4];rfl
 ·rename_i cs n sz g m hix hn;obtain ⟨h0,h⟩:=ZQ h;have hlt:=QI h0;obtain ⟨k,rfl⟩:=Xp hn hi;obtain ⟨e,h1,h2,h2',h3⟩:=Be hix;cases hx with
  | agg hc =>
   obtain ⟨u,h6,h7⟩:=Zax (P:=P) (w:=w) h2 h2' hc h;refine ⟨u,?_,h7⟩
   have h4:(0:Int)<=Int.ofNat m/\Int.ofNat m<(n:Int):=by
    constructor
    ·show (0:Int)<=(m:Int); omega
    ·show (m:Int)<(n:Int); omega
   have h5:(Int.ofNat m).toNat=m:=rfl;simp only [Instr.index,Sem.run_bind,asIntOf,Sem.run_pure,Result.andThen_ok,run_underlying h1,if_pos h4,run_sizeOf h2,h5,h6]
 ·cases h
theorem ZeA {i:Nat} {x v:Zb} (h:Zem i x = .ok v) {a:Value} (hx:VR r x a):ZW P r w (Instr.extract a i) v:=by
 unfold Zem at h;split at h
 ·rename_i vs;have h1:=T7 i h;cases hx with
  | tuple hc =>
   obtain ⟨u,h2,h3⟩:=hc.get h1;refine ⟨u,?_,h3⟩;simp [Instr.extract,h2]
 ·cases h
theorem Bf {t:TypeId} (h:RelB r s w) {x v:Zb} (hl:Ga s (JT P t) x = .ok v) {a:Value} (hx:VR r x a):ZW P r w (Instr.loadAt t a) v:=by
 unfold Ga at hl;split at hl
 ·rename_i id off;unfold xJ at hl;split at hl
  ·rename_i cs e o z n g hc hp;obtain ⟨h1,h2⟩:=Gc hp;cases hx with
   | ptr hr =>
    obtain ⟨u,h3,h4⟩:=C3 h hr hc h1 h2 hl;exact ⟨u,by simp only [Instr.loadAt,Instr.sureAddr,Sem.run_bind,Sem.run_pure,Result.andThen_ok,h3],h4⟩
  ·cases hl
 ·cases hl
theorem ZeB {t:TypeId} (h:LL P t = .str):P.underlying t=some .string:=by
 unfold LL at h;split at h <;> first | assumption | cases h
theorem FY {t:TypeId} (h:LL P t = .sl):∃ e,P.underlying t=some (.slice e):=by
 unfold LL at h;split at h <;> first | exact ⟨_,by assumption⟩ | cases h
theorem Zay {t:TypeId} (h:LL P t = .mp):∃ k e,P.underlying t=some (.map k e):=by
 unfold LL at h;split at h <;> first | exact ⟨_,_,by assumption⟩ | cases h
theorem ZeC {t:TypeId} {n:Nat} (h:LL P t = .arr n):∃ e,P.underlying t=some (.array n e):=by
 unfold LL at h;split at h
 all_goals first | (cases h; done) | (cases h; exact ⟨_,by assumption⟩)
theorem QL (h:RelB r s w) {id:Nat} {x:RB} (hx:r id=some x) {es:List Entry} {c:Nat} (hm:s.J8 id = .mk es c) :
  ∃ l,w.heap[x.blk]? = some (.map ⟨l⟩ c)/\ERs r es l:=by
 obtain ⟨o,h1,l,rfl,h3⟩:=h.block id _ x (Xn hm) hx;exact ⟨l,h1,h3⟩
theorem Qt {b:Nat} {l:List MapEntry} {c:Nat} (h:w.heap[b]? = some (.map ⟨l⟩ c)):(getObj b).run P w = .ok (.map ⟨l⟩ c) w:=by
 simp [getObj,Sem.run,h]
theorem Zgz {t:TypeId} {ts:Array TypeId} {ty:TypeId} (ht:ts[0]? = some t) (h:RelB r s w) {x v:Zb} (hl:xL (LL P t) s x = .ok v) {a:Value} (hx:VR r x a):ZW P r w (Builtin.len_ ts ty #[a]) v:=by
 unfold xL at hl;split at hl
 ·rename_i l hk;cases hl; cases hx
  exact ⟨_,by simp [Builtin.len_,ht,run_underlying (ZeB hk)]; rfl,.int _ _⟩
 ·rename_i hk;cases hl; cases hx
  obtain ⟨e,he⟩:=FY hk;exact ⟨_,by simp [Builtin.len_,ht,run_underlying he]; rfl,.int _ _⟩
 ·rename_i hk;cases hl; cases hx
  obtain ⟨e,he⟩:=FY hk;exact ⟨_,by simp [Builtin.len_,ht,run_underlying he]; rfl,.int _ _⟩
 ·rename_i hk;cases hl; cases hx
  obtain ⟨e,he⟩:=FY hk;exact ⟨_,by simp [Builtin.len_,ht,run_underlying he]; rfl,.int _ _⟩
 ·rename_i hk;cases hl; cases hx
  obtain ⟨k,e,he⟩:=Zay hk;exact ⟨_,by simp [Builtin.len_,ht,run_underlying he]; rfl,.int _ _⟩
 ·rename_i id hk;obtain ⟨k,e,he⟩:=Zay hk;unfold Zlr at hl;split at hl
  ·rename_i es c hm;cases hl;cases hx with
   | map hr =>
    obtain ⟨l,h1,h2⟩:=QL h hr hm;refine ⟨.int .i64 (Int.ofNat es.length),?_,.int _ _⟩;have h3:(getObj _).run P w = .ok (.map ⟨l⟩ c) w:=Qt h1;have h4:l.length=es.length:=h2.length;simp [Builtin.len_,ht,run_underlying he,h3];rw [h4];rfl
  ·cases hl
 ·rename_i n hk;cases hl;obtain ⟨e,he⟩:=ZeC hk;exact ⟨_,by simp [Builtin.len_,ht,run_underlying he]; rfl,.int _ _⟩
 ·cases hl
theorem ZgA {t:TypeId} {ts:Array TypeId} {ty:TypeId} (ht:ts[0]? = some t) (h:RelB r s w) {x v:Zb} (hl:xM (JF P t) s x = .ok v) {a:Value} (hx:VR r x a):ZW P r w (Builtin.cap_ ts ty #[a]) v:=by
 unfold xM at hl;split at hl
 ·rename_i hp;obtain ⟨he,_,_⟩:=QZ hp;cases hl; cases hx
  exact ⟨_,by simp [Builtin.cap_,ht,run_underlying he]; rfl,.int _ _⟩
 ·rename_i c hp;obtain ⟨he,_,_⟩:=QZ hp;cases hl;cases hx with
  | slice hr hn hc hu =>
   have:=hc _ rfl;subst this;exact ⟨_,by simp [Builtin.cap_,ht,run_underlying he]; rfl,.int _ _⟩
 ·rename_i id off n hp;obtain ⟨he,_,_⟩:=QZ hp;unfold Zls at hl;split at hl
  ·rename_i cs e o hc;obtain ⟨ho,hl⟩:=Mg hl;obtain ⟨h1,hl⟩:=ZQ hl;obtain ⟨h2,hl⟩:=Mg hl;cases hl;have h1:=ZE h1;have h2:=JC h2;cases hx with
   | slice hr hn hcp hu =>
    rename_i y cap;obtain ⟨ob,hb,he',vs,rest,et,fr,rfl,hvs,hlen,hop,_⟩:=h.block _ _ _ (ZO hc) hr;have hrest:=hop ho;subst hrest;rw [List.append_nil] at hlen;have h3:=hvs.length;have h4:=hu rfl
    have h5:cap=(cs.length-off) / e:=by
     rw [<- h3,hlen,<- h4,Nat.add_sub_cancel_left,he',Nat.mul_div_cancel _ (Nat.pos_of_ne_zero (by rw [h1]; exact h2))]
    refine ⟨_,?_,.int _ _⟩;simp [Builtin.cap_,ht,run_underlying he];rw [h5,h1];rfl
  ·cases hl
 ·cases hl
theorem ZjK {ts:Array TypeId} {ty:TypeId} {x v:Zb} (h:reV x = .ok v) {a:Value} (hx:VR r x a):ZW P r w (Builtin.real_ ts ty #[a]) v:=by
 unfold reV at h;split at h
 ·cases h; cases hx; exact Js (.flt _ _)
 ·cases h
theorem ZjL {ts:Array TypeId} {ty:TypeId} {x v:Zb} (h:imV x = .ok v) {a:Value} (hx:VR r x a):ZW P r w (Builtin.imag_ ts ty #[a]) v:=by
 unfold imV at h;split at h
 ·cases h; cases hx; exact Js (.flt _ _)
 ·cases h
theorem T9 {j k:FloatKind} (h:G6 j k=true):j=k:=by
 cases j <;> cases k <;> first | rfl | cases h
theorem ZjM {ts:Array TypeId} {ty:TypeId} {x y v:Zb} (h:cxV x y = .ok v) {a b:Value} (hx:VR r x a) (hy:VR r y b):ZW P r w (Builtin.complex_ ts ty #[a,b]) v:=by
 unfold cxV at h;split at h
 ·obtain ⟨h0,h9⟩:=ZQ h;clear h;have h8:=T9 h0;subst h8;cases h9; cases hx; cases hy
  refine ⟨_,?_,.Z2 _ _ _⟩;rename_i j m n;show (if j=j then pure (Value.complex j m n) else stuck _:Sem Value).run P w=_;rw [if_pos rfl];rfl
 ·cases h
theorem ZgB {ts:Array TypeId} {ty:TypeId} {x y v:Zb} (h:mmV true x y = .ok v) {a b:Value} (hx:VR r x a) (hy:VR r y b):ZW P r w (Builtin.max_ ts ty #[a,b]) v:=by
 unfold mmV at h;split at h
 ·rename_i j m k n;obtain ⟨h0,h9⟩:=ZQ h;clear h;have h8:=JD h0;subst h8;cases h9; cases hx; cases hy
  refine ⟨_,?_,.int _ _⟩;simp only [Builtin.max_,List.foldlM_cons,List.foldlM_nil,Builtin.max2,JG,Xo];by_cases h1:n<=m
  ·have h2:¬ n>m:=by omega
   simp [h1,h2,JG]
  ·have h2:n>m:=by omega
   simp [h1,h2,Je]
 ·cases h
theorem ZgC {ts:Array TypeId} {ty:TypeId} {x y v:Zb} (h:mmV false x y = .ok v) {a b:Value} (hx:VR r x a) (hy:VR r y b):ZW P r w (Builtin.min_ ts ty #[a,b]) v:=by
 unfold mmV at h;split at h
 ·rename_i j m k n;obtain ⟨h0,h9⟩:=ZQ h;clear h;have h8:=JD h0;subst h8;cases h9; cases hx; cases hy
  refine ⟨_,?_,.int _ _⟩;simp only [Builtin.min_,List.foldlM_cons,List.foldlM_nil,Builtin.min2,Je,Xo];by_cases h1:m<=n
  ·have h2:¬ n<m:=by omega
   simp [h1,h2,JG]
  ·have h2:n<m:=by omega
   simp [h1,h2,Je]
 ·cases h
theorem Zaz {e:TypeId} (h:LI P e=true):P.underlying e=some (.int .u8):=by
 unfold LI at h;split at h
 ·rename_i h1; exact h1
 ·cases h
theorem NK (f:Value->ByteArray->Sem (ForInStep ByteArray)) (hf:∀ n b,f (.int .u8 n) b=pure (.yield (b.push (UInt8.ofNat n.toNat)))):∀ {l:List Zb} {x:List UInt8},bytesOf l=some x ->
  ∀ {vs:List Value},VRs r l vs->∀ (acc:ByteArray) (P:Program) (w:World),(forIn (m:=Sem) vs acc f).run P w = .ok ⟨acc.data++⟨x⟩⟩ w
 | [],x,h,_,.nil,acc,P,w=>by cases h; simp
 | v::l,x,h,_,.cons hv ht,acc,P,w=>by
  unfold bytesOf at h;split at h
  ·rename_i n;split at h
   ·rename_i y hy;cases h;cases hv;have ih:=NK f hf hy ht (acc.push (UInt8.ofNat n.toNat)) P w;simp only [List.forIn_cons,hf,Sem.run_bind,Sem.run_pure,Result.andThen_ok];rw [ih]
    congr 2
    simp [ByteArray.push]
   ·cases h
  ·cases h
theorem ZjN (h:RelB r s w) {id off n:Nat} {x:RB} (hx:r id=some x) {cs:List Zb} {e:Nat} {o:Bool} (hc:s.ZK id = .mk cs e o) {l:List Zb} (hs:sub cs off n=some l) :
  ∃ vs,(loadCells ⟨x.blk,off,none⟩ n).run P w = .ok ⟨vs⟩ w/\VRs r l vs/\vs.length=n:=by
 obtain ⟨ob,hb,hr⟩:=h.block id _ x (ZO hc) hx;obtain ⟨_,vs,rest,et,fr,rfl,hvs,hlen,_,_⟩:=hr;obtain ⟨h1,rfl⟩:=sub_eq hs;have hcl:=hvs.length;exact ⟨_,JH hb (by simp only [List.length_append]; omega),hvs.range h1,by simp only [List.length_take,List.length_drop,List.length_append]; omega⟩
theorem Gg {s':St} {o:Option (List UInt8)} {v:Zb} (h:MY s o = .ok v s'):∃ l,o=some l/\v = .str l/\s'=s:=by
 unfold MY at h;split at h
 ·cases h; exact ⟨_,rfl,rfl,rfl⟩
 ·cases h
theorem Bg (h:RelB r s w) {x v:Zb} {s':St} (hb:XP s x = .ok v s') {a:Value} (hx:VR r x a):s'=s/\ZW P r w (Conv.bytesToString a) v:=by
 unfold XP at hb;split at hb
 ·cases hb; cases hx
  exact ⟨rfl,Js (.str [])⟩
 ·rename_i id off n c;unfold UY at hb;split at hb
  ·rename_i cs e o hc;obtain ⟨l,h1,rfl,rfl⟩:=Gg hb;refine ⟨rfl,?_⟩;split at h1
   ·rename_i l' hl';cases hx with
    | slice hr hn hcp hu =>
     obtain ⟨vs,h2,h3,_⟩:=ZjN (P:=P) h hr hc hl';refine ⟨_,?_,.str l⟩;simp only [Conv.bytesToString,Sem.run_bind,h2,Result.andThen_ok];rw [<- Array.forIn_toList];rw [NK _ (fun _ _=>rfl) h1 h3 ByteArray.empty P w];simp only [Result.andThen_ok,Sem.run_pure]
     congr 3
     simp [ByteArray.empty,ByteArray.emptyWithCapacity];rfl
   ·cases h1
  ·cases hb
 ·cases hb
theorem ZeD {x:V} {n:Nat} (h:onV x = .some n):∃ v,x = .ok v/\asNat v=some n:=by
 unfold onV at h;split at h
 ·unfold onO at h;split at h
  ·rename_i m hm; cases h; exact ⟨_,rfl,hm⟩
  ·cases h
 ·cases h
def NR (o:ON) (x:Option Value):Prop:=match o with
 | .none=>x=none
 | .some n=>∃ k,x=some (.int k (Int.ofNat n))
 | .bad=>True
theorem run_sliceBound {k:IntKind} {n y:Nat} {c:BoundsCode} (h:n<=y):(Instr.sliceBound (.int k (n:Int)) y c).run P w = .ok n w:=by
 have h1:(0:Int)<=(n:Int)/\(n:Int)<=(y:Int):=by omega
 simp only [Instr.sliceBound,Sem.run_bind,asIntOf,Sem.run_pure,Result.andThen_ok,if_pos h1];rfl
theorem FZ {isS:Bool} {len cap:Nat} {lo hi:ON} {x y:Option Value} (hx:NR lo x) (hy:NR hi y) (g1:lo.LJ=true) (g2:hi.LJ=true)
  (h1:hi.get len<=cap) (h2:lo.get 0<=hi.get len):(Instr.sliceBounds isS len cap x y none).run P w = .ok (lo.get 0,hi.get len,cap) w:=by
 cases hi with
 | bad=>cases g2
 | none =>
  cases hy;cases lo with
  | bad=>cases g1
  | none =>
   cases hx;simp [Instr.sliceBounds,ON.get]
  | some n =>
   obtain ⟨k,rfl⟩:=hx;have h3:n<=len:=h2;simp [Instr.sliceBounds,ON.get,run_sliceBound (P:=P) (w:=w) (k:=k) h3]
 | some m =>
  obtain ⟨j,rfl⟩:=hy;have h4:m<=cap:=h1;cases lo with
  | bad=>cases g1
  | none =>
   cases hx;simp [Instr.sliceBounds,ON.get,run_sliceBound (P:=P) (w:=w) (k:=j) h4]
  | some n =>
   obtain ⟨k,rfl⟩:=hx;have h3:n<=m:=h2;simp [Instr.sliceBounds,ON.get,run_sliceBound (P:=P) (w:=w) (k:=j) h4,run_sliceBound (P:=P) (w:=w) (k:=k) h3]
theorem ZgD {isS:Bool} {len cap h m:Nat} {lo:ON} {x y z:Option Value} (hx:NR lo x) (hy:NR (.some h) y) (hz:NR (.some m) z) (g1:lo.LJ=true)
  (h1:m<=cap) (h2:h<=m) (h3:lo.get 0<=h):(Instr.sliceBounds isS len cap x y z).run P w = .ok (lo.get 0,h,m) w:=by
 obtain ⟨j,rfl⟩:=hy;obtain ⟨i,rfl⟩:=hz;cases lo with
 | bad=>cases g1
 | none =>
  cases hx;simp [Instr.sliceBounds,ON.get,run_sliceBound (P:=P) (w:=w) (k:=i) h1,run_sliceBound (P:=P) (w:=w) (k:=j) h2]
 | some n =>
  obtain ⟨k,rfl⟩:=hx;have h4:n<=h:=h3;simp [Instr.sliceBounds,ON.get,run_sliceBound (P:=P) (w:=w) (k:=i) h1,run_sliceBound (P:=P) (w:=w) (k:=j) h2,run_sliceBound (P:=P) (w:=w) (k:=k) h4]
end Ev
namespace Ev
open Go
variable [Sig] {P:Program} {r:Rho} {s:St} {w:World}
theorem YY (l:List UInt8) (a h:Nat):(ByteArray.mk ⟨l⟩).extract a h=⟨⟨(l.take h).drop a⟩⟩:=by
 apply ByteArray.ext;rw [ByteArray.data_extract];show (l.toArray).extract a h=_;rw [List.extract_toArray];simp only [List.extract_eq_take_drop];rw [List.drop_take]
theorem ZbM {t:TypeId} (h:FK P t=true):P.underlying t=some .string:=by
 unfold FK at h;split at h
 ·rename_i h1; exact h1
 ·cases h
theorem XH {t:TypeId} {d:TypeDesc} (h:P.underlying t=some d) (hd:∀ n e,d ≠ .array n e) (x:Value) (lo hi mx:Option Value):(Instr.sliceAt t x lo hi mx).run P w=(Instr.slice t x lo hi mx).run P w:=by
 simp only [Instr.sliceAt,Sem.run_bind,run_underlying h,Result.andThen_ok]
 try (cases d <;> first | rfl | exact absurd rfl (hd _ _))
theorem ON.ZaA {o:ON} (h:o.zero=true) (g:o.LJ=true) (d:Nat) (hd:d=0):o.get d=0:=by
 cases o with
 | none=>exact hd
 | some n=>exact (Nat.eq_of_beq_eq_true h)
 | bad=>cases g
theorem ZbN (h:RelB r s w) {t:TypeId} {lo hi mx:ON} (g1:lo.LJ=true) (g2:hi.LJ=true) (g3:mx.LJ=true) {x y z:Option Value} (hx:NR lo x) (hy:NR hi y) (hz:NR mx z)
  {a v:Zb} (hs:U1 s (FK P t) (JF P t) lo hi mx a = .ok v) {b:Value} (ha:VR r a b):ZW P r w (Instr.sliceAt t b x y z) v:=by
 unfold U1 at hs;split at hs
 ·rename_i l;obtain ⟨h0,h1⟩:=ZQ hs;have ht:=ZbM h0;cases ha;cases mx with
  | bad=>cases g3
  | some m=>cases h1
  | none =>
   cases hz;simp only [ZhF] at h1;obtain ⟨h2,h3⟩:=ZQ h1;obtain ⟨h4,h5⟩:=ZQ h3;cases h5;have h2:=Qj h2;have h4:=Qj h4;refine ⟨_,?_,.str _⟩;rw [XH ht (fun _ _ e=>by cases e)];have hb:=FZ (P:=P) (w:=w) (isS:=false) (len:=l.length) (cap:=l.length) hx hy g1 g2 h2 h4;have hsz:(ByteArray.mk ⟨l⟩).size=l.length:=rfl;simp only [Instr.slice,Sem.run_bind,run_underlying ht,Result.andThen_ok,Option.isSome_none,Bool.false_eq_true,if_false,hsz];simp [hb,YY]
 ·split at hs
  ·rename_i e n g hp;obtain ⟨h1,h2⟩:=ZQ hs;obtain ⟨h3,h4⟩:=ZQ h2;obtain ⟨ht,hsz,_⟩:=QZ hp;cases mx with
   | bad=>cases g3
   | some m=>cases h4
   | none =>
    cases h4; cases hz; cases ha
    have e1:=ON.ZaA h3 g2 0 rfl;have e2:=ON.ZaA h1 g1 0 rfl;refine ⟨.slice none 0 0,?_,.Za⟩;rw [XH ht (fun _ _ e=>by cases e)];have hb:=FZ (P:=P) (w:=w) (isS:=true) (len:=0) (cap:=0) hx hy g1 g2 (by rw [e1]; exact Nat.le_refl _) (by rw [e2]; exact Nat.zero_le _);simp [Instr.slice,run_underlying ht,hb,run_sizeOf hsz,e1,e2]
  ·cases hs
 ·rename_i id off len cap;unfold slC at hs;split at hs
  ·rename_i ep sz g cs e o hp hc;obtain ⟨h1,hs1⟩:=ZQ hs;clear hs;obtain ⟨h2,hs2⟩:=Mg hs1;clear hs1;have h1:=ZE h1;subst h1;have h2:=JC h2;obtain ⟨ht,hsz,_⟩:=QZ hp;cases ha with
   | slice hr hn hcp hu =>
    rename_i y' cp;obtain ⟨ob,hb,he',vs,rest,et,fr,rfl,hvs,hlen,hop,_⟩:=h.block _ _ _ (ZO hc) hr;have hvl:=hvs.length;have hpos:0<sz:=Nat.pos_of_ne_zero h2
    have hk:Wz cap cs.length off sz<=cp:=by
     unfold Wz;split
     ·rw [hcp _ rfl]; exact Nat.le_refl _
     ·have h3:=hu rfl;show (cs.length-off) / sz<=cp;rw [he'] at h3;rw [List.length_append] at hlen;have h4:cs.length-off<=cp*sz:=by omega
      exact Nat.div_le_of_le_mul (by rw [Nat.mul_comm]; exact h4)
    have hex:NC cap o=true->Wz cap cs.length off sz=cp:=by
     intro hx';unfold Wz;unfold NC at hx';split
     ·rw [hcp _ rfl]
     ·have h3:=hu rfl;simp only [Bool.not_eq_true'] at hx';have:=hop hx';subst this;show (cs.length-off) / sz=cp;rw [he'] at h3;rw [List.append_nil] at hlen;have h4:cs.length-off=cp*sz:=by omega
      rw [h4,Nat.mul_div_cancel _ hpos]
    have qa:∀ k,k<=cp->(∀ c',Rm cap k=some c'->cp-k=c')/\(Rm cap k=none->off+k*sz+(cp-k)*y'.esz=y'.size):=by
     intro k hk';refine ⟨?_,?_⟩
     ·intro c' hc';unfold Rm at hc';split at hc'
      ·rename_i c'';cases hc';rw [hcp _ rfl]
      ·cases hc'
     ·intro hc';unfold Rm at hc';split at hc'
      ·cases hc'
      ·have h3:=hu rfl;rw [<- h3,he',Nat.sub_mul];have:k*sz<=cp*sz:=Nat.mul_le_mul_right _ hk';omega
    unfold Zai at hs2;split at hs2
    ·rename_i m;split at hs2
     ·rename_i hh;unfold Im at hs2;obtain ⟨q1,hs3⟩:=ZQ hs2;obtain ⟨q2,hs4⟩:=ZQ hs3;obtain ⟨q3,hs5⟩:=ZQ hs4;cases hs5;have q1:=Qj q1;have q2:=Qj q2;have q3:=Qj q3;have hbb:=ZgD (P:=P) (w:=w) (isS:=true) (len:=len) (cap:=cp) hx hy hz g1 (by omega) q2 q3;refine ⟨.slice (if m=lo.get 0 then some ⟨y'.blk,off,none⟩ else (some ⟨y'.blk,off,none⟩:Option Addr).map (·.add (lo.get 0*sz))) (hh-lo.get 0) (m-lo.get 0),?_,?_⟩
      ·rw [XH ht (fun _ _ e=>by cases e)];simp only [Instr.slice,Sem.run_bind,run_underlying ht,Result.andThen_ok,hbb,run_sizeOf hsz,Sem.run_pure]
      ·by_cases hm:m=lo.get 0
       ·rw [if_pos hm];have:Nat.beq m (lo.get 0)=true:=by rw [hm]; exact Nat.beq_refl _
        rw [this,JG];exact .slice hr (by omega) (fun k hk'=>by cases hk'; rfl) (fun hk'=>by cases hk')
       ·rw [if_neg hm]
        have:Nat.beq m (lo.get 0)=false:=by
         cases hb':Nat.beq m (lo.get 0)
         ·rfl
         ·exact absurd (ZE hb') hm
        rw [this,Je,Option.map_some,Xl];exact .slice hr (by omega) (fun k hk'=>by cases hk'; rfl) (fun hk'=>by cases hk')
     ·cases hs2
    ·cases mx with
     | bad=>cases g3
     | some m=>rename_i hno; exact absurd rfl (hno m)
     | none =>
      cases hz;unfold ZhG at hs2;obtain ⟨q1,hs3⟩:=ZQ hs2;obtain ⟨q2,hs4⟩:=ZQ hs3;have q1:=Qj q1;have q2:=Qj q2;have hbb:=FZ (P:=P) (w:=w) (isS:=true) (len:=len) (cap:=cp) hx hy g1 g2 (by omega) q2
      have run:(Instr.sliceAt t (.slice (some ⟨y'.blk,off,none⟩) len cp) x y none).run P w =
        .ok (.slice (if cp=lo.get 0 then some ⟨y'.blk,off,none⟩ else some ⟨y'.blk,off+lo.get 0*sz,none⟩) (hi.get len-lo.get 0) (cp-lo.get 0)) w:=by
       rw [XH ht (fun _ _ e=>by cases e)];simp only [Instr.slice,Sem.run_bind,run_underlying ht,Result.andThen_ok,hbb,run_sizeOf hsz,Sem.run_pure,Option.map_some,Xl]
      refine ⟨_,run,?_⟩;rcases Ze hs4 with ⟨q3,hs5⟩ | ⟨q3,hs5⟩
      ·cases hs5;have q3:=QI q3;rw [if_neg (by omega)];obtain ⟨a3,a4⟩:=qa (lo.get 0) (by omega);exact .slice hr (by omega) a3 a4
      ·have q3:=Zgx q3;have q4:hi.get len=lo.get 0:=by omega
       rcases Ze hs5 with ⟨q5,hs6⟩ | ⟨q5,hs6⟩
       ·cases hs6;have q6:=hex q5;rw [if_pos (by omega),q4,Nat.sub_self,show cp-lo.get 0=0 by omega];exact .slice hr (Nat.le_refl _) (fun k hk'=>by cases hk'; rfl) (fun hk'=>by cases hk')
       ·rcases Ze hs6 with ⟨q7,hs7⟩ | ⟨q7,hs7⟩
        ·cases hs7;have q7:=ZE q7;rw [q4,q7,Nat.sub_zero,Nat.zero_mul,Nat.add_zero,ite_self];exact .slice hr (Nat.zero_le _) hcp hu
        ·cases hs7;rw [q4,Nat.sub_self];by_cases hm:cp=lo.get 0
         ·rw [if_pos hm]; exact .Z4 _ _
         ·rw [if_neg hm]; exact .Z4 _ _
  ·cases hs
 ·cases hs
end Ev
namespace Ev
open Go
variable [Sig] {P:Program} {r:Rho} {s:St} {w:World}
def ZeE (P:Program) (t:TypeId) (kk:KK):Prop:=match kk with
 | .one k=>Kx P t=some k
 | .flat ks=>VL P t=some ks
theorem Mh {t:TypeId} {kk:KK} {z:Zb} (h:LH P t = .mk kk z):∃ k e,P.underlying t=some (.map k e)/\KR P e=some z/\ZeE P k kk:=by
 unfold LH at h;split at h
 ·rename_i k e h1;split at h
  ·rename_i z' h2;unfold mtK at h;split at h
   ·rename_i h3; cases h; exact ⟨k,e,h1,h2,h3⟩
   ·rename_i h3; cases h; exact ⟨k,e,h1,h2,h3⟩
   ·cases h
  ·cases h
 ·cases h
theorem Bh {t:TypeId} {kk:KK} (hk:ZeE P t kk) {x y:Zb} {b:Bool} (h:Ri kk x y=some b) {u u':Value} (hx:VR r x u) (hy:VR r y u') :
  (Op.equal t u u').run P w = .ok b w/\(b=true->u=u'):=by
 cases kk with
 | one k=>exact U6 (k:=k) h hx hy hk 9999
 | flat ks =>
  simp only [Ri] at h;split at h
  ·cases hx with
   | agg ha=>cases hy with
    | agg hb =>
     obtain ⟨h1,h2⟩:=C7 (w:=w) (hk:VL P t=some ks) (C6 h) ha hb 9998;exact ⟨h1,fun e=>by rw [h2 e]⟩
  ·cases h
theorem Pu {α : Type}:∀ (l:List α) (g : α -> PUnit->Sem (ForInStep PUnit)),(∀ f∈l,(g f PUnit.unit).run P w = .ok (.yield PUnit.unit) w)->(forIn (m:=Sem) l PUnit.unit g).run P w = .ok PUnit.unit w
 | [],g,_=>by simp
 | f::l,g,h=>by
  simp only [List.forIn_cons,Sem.run_bind,h f (List.mem_cons_self ..),Result.andThen_ok];exact Pu l g fun x hx=>h x (List.mem_cons_of_mem _ hx)
theorem Rv:∀ {fs:List Field} {i:Nat} {ks:List SK},Wy P i fs=some ks->∀ f∈fs,f.name≠ "_"/\(∃ k,Kx P f.type=some k)/\i<=f.offset/\f.offset<i+ks.length
 | [],_,_,_,f,hf=>by cases hf
 | f::fs,i,ks,h,g,hg=>by
  obtain ⟨k,l,h1,h2,h3,rfl⟩:=NI h;rw [Bool.and_eq_true] at h1;obtain ⟨h4,h5⟩:=h1;have h4:=Nat.eq_of_beq_eq_true h4;rcases List.mem_cons.1 hg with rfl | hg
  ·exact ⟨by simpa using h5,⟨k,h2⟩,by omega,by rw [List.length_cons]; omega⟩
  ·obtain ⟨a,b,c,d⟩:=Rv h3 g hg;exact ⟨a,b,by omega,by rw [List.length_cons]; omega⟩
theorem Pv {t:TypeId} {k:SK} (hk:Kx P t=some k) (e:Bool) (n:Nat) (u:Value):(Instr.checkKey e (n+1) t u).run P w = .ok () w:=by
 unfold Kx at hk;split at hk
 ·rename_i h7; simp only [Instr.checkKey,Sem.run_bind,run_underlying h7,Result.andThen_ok]; rfl
 ·rename_i h7; simp only [Instr.checkKey,Sem.run_bind,run_underlying h7,Result.andThen_ok]; rfl
 ·rename_i h7; simp only [Instr.checkKey,Sem.run_bind,run_underlying h7,Result.andThen_ok]; rfl
 ·cases hk
theorem Pw:∀ {ks:List SK} {a b:List Zb},PX ks a b=some true->a.length=ks.length
 | [],[],_,_=>rfl
 | [],_::_,[],h=>by cases h
 | [],_::_,_::_,h=>by cases h
 | _::_,[],_,h=>by cases h
 | k::ks,x::xs,[],h=>by cases h
 | k::ks,x::xs,y::ys,h=>by
  simp only [PX] at h;rcases Mf h with ⟨_,h2⟩ | ⟨_,h2⟩
  ·rw [List.length_cons,List.length_cons,Pw h2]
  ·cases h2
theorem Bj {kk:KK} {x:Zb} (h:Pr kk x=true):Ri kk x x=some true:=by
 unfold Pr at h;split at h
 ·assumption
 ·cases h
theorem run_checkKey {t:TypeId} {kk:KK} (hk:ZeE P t kk) {x:Zb} (ho:Pr kk x=true) {u:Value} (hx:VR r x u) (e:Bool) (m:Nat) (hm:2<=m):(Instr.checkKey e m t u).run P w = .ok () w:=by
 have h:=Bj ho;obtain ⟨n,rfl⟩:∃ n,m=n+1+1:=⟨m-2,by omega⟩
 cases kk with
 | one k=>exact Pv (k:=k) hk e (n+1) u
 | flat ks =>
  have hk:VL P t=some ks:=hk;simp only [Ri] at h;split at h
  ·rename_i a b e1 e2;cases hx with
   | @agg _ l' ha =>
    obtain ⟨fs,h1,_,h3⟩:=Rs hk;have hl:=Pw h;have hlen:=ha.length;have inner:∀ (t:TypeId) (k:SK) (u:Value),Kx P t=some k->(Instr.checkKey e (n+1) t u).run P w = .ok () w:=fun t k u hk=>Pv hk e n u
    generalize n+1=m at inner ⊢
    simp only [Instr.checkKey,Sem.run_bind,run_underlying h1,Result.andThen_ok];rw [<- Array.forIn_toList,Pu]
    ·rfl
    ·intro f hf;obtain ⟨h5,⟨k,h6⟩,h7,h8⟩:=Rv h3 f hf;have h9:f.offset<l'.length:=by omega
     have h10:=J4 (P:=P) (w:=w) (C5 h6) (List.getElem?_eq_getElem h9);simp only [ne_eq,h5,not_false_eq_true,if_true,Sem.run_bind,h10,Result.andThen_ok,inner _ _ _ h6,Sem.run_pure]
  ·cases h
def FR (r:Rho) (u:Value) (es:List Entry) (l:List MapEntry) (i:Nat) (f:Fd) (o:Option (Nat×Value)):Prop:=match f with
 | .got j v b=>∃ k m key,j=i+k/\l[k]? = some m/\es[k]? = some (key,v,b)/\o=some (j,m.val)/\m.key=u
 | .none=>o=none
 | .bad=>True
theorem FR.step {u:Value} {e:Entry} {m:MapEntry} {es:List Entry} {l:List MapEntry} {i:Nat} {f:Fd} {o:Option (Nat×Value)} (h:FR r u es l (i+1) f o):FR r u (e::es) (m::l) i f o:=by
 cases f with
 | got j v b =>
  obtain ⟨k,m',key,h1,h2,h3,h4,h5⟩:=h;exact ⟨k+1,m',key,by omega,by rw [List.getElem?_cons_succ]; exact h2,by rw [List.getElem?_cons_succ]; exact h3,h4,h5⟩
 | none=>exact h
 | bad=>trivial
theorem Gi {k:SK} {x y:Zb} {c:Bool} (h:eqK k x y=some c):(k = .i/\∃ j a b,x = .int j a/\y = .int j b/\c=(a==b))\/(k = .s/\∃ a b,x = .str a/\y = .str b/\c=(a==b)) \/
  (k = .b/\∃ a b,x = .bool a/\y = .bool b/\c=(a==b)):=by
 unfold eqK at h;split at h
 ·rcases Ze h with ⟨h1,h2⟩ | ⟨_,h2⟩
  ·cases h2;have h3:=JD h1;subst h3;exact .inl ⟨rfl,_,_,_,rfl,rfl,QP _ _⟩
  ·cases h2
 ·cases h;exact .inr (.inl ⟨rfl,_,_,rfl,rfl,Qo _ _⟩)
 ·rename_i a b;cases h;exact .inr (.inr ⟨rfl,_,_,rfl,rfl,by cases a <;> cases b <;> rfl⟩)
 ·cases h
theorem Gj {t:TypeId} {k:SK} (hk:Kx P t=some k):∃ d,P.underlying t=some d/\((k = .b/\d = .bool)\/(k = .i/\∃ j,d = .int j)\/(k = .s/\d = .string)):=by
 unfold Kx at hk;split at hk
 ·rename_i h7; cases hk; exact ⟨_,h7,.inl ⟨rfl,rfl⟩⟩
 ·rename_i h7; cases hk; exact ⟨_,h7,.inr (.inl ⟨rfl,_,rfl⟩)⟩
 ·rename_i h7; cases hk; exact ⟨_,h7,.inr (.inr ⟨rfl,rfl⟩)⟩
 ·cases hk
theorem Gk (a b:List UInt8):((ByteArray.mk ⟨a⟩)==(ByteArray.mk ⟨b⟩))=(a==b):=by
 rw [beq_toListBytes,ByteArray.toList_eq,ByteArray.toList_eq]
theorem NL {t:TypeId} {k:SK} (hk:Kx P t=some k) {d:TypeDesc} (hd:P.underlying t=some d) {x y:Zb} {u u':Value} (hx:VR r x u) (hy:VR r y u') {c:Bool} (h:eqK k x y=some c) :
  Instr.sameNow d u u'=some c/\(c=true->u'=u):=by
 obtain ⟨d',h1,h2⟩:=Gj hk;rw [hd] at h1;cases h1;rcases Gi h with ⟨rfl,j,a,b,rfl,rfl,rfl⟩ | ⟨rfl,a,b,rfl,rfl,rfl⟩ | ⟨rfl,a,b,rfl,rfl,rfl⟩
 ·rcases h2 with ⟨h3,_⟩ | ⟨_,j',rfl⟩ | ⟨h3,_⟩
  ·cases h3
  ·cases hx; cases hy
   refine ⟨by simp [Instr.sameNow],fun e => ?_⟩;rw [beq_iff_eq] at e;rw [e]
  ·cases h3
 ·rcases h2 with ⟨h3,_⟩ | ⟨h3,_⟩ | ⟨_,rfl⟩
  ·cases h3
  ·cases h3
  ·cases hx; cases hy
   refine ⟨by simp [Instr.sameNow,Gk],fun e => ?_⟩;rw [beq_iff_eq] at e;rw [e]
 ·rcases h2 with ⟨_,rfl⟩ | ⟨h3,_⟩ | ⟨h3,_⟩
  ·cases hx; cases hy
   refine ⟨by simp [Instr.sameNow],fun e => ?_⟩;rw [beq_iff_eq] at e;rw [e]
  ·cases h3
  ·cases h3
theorem NM {kk:KK} {x key v:Zb} {b:Nat} {es:List Entry} {i:Nat} (h:Jh kk x ((key,v,b)::es) i ≠ .bad) :
  (Ri kk x key=some true/\Jh kk x ((key,v,b)::es) i = .got i v b)\/(Ri kk x key=some false/\Jh kk x ((key,v,b)::es) i=Jh kk x es (i+1)):=by
 simp only [Jh] at h ⊢;split at h
 ·rename_i h1; exact .inl ⟨h1,rfl⟩
 ·rename_i h1; exact .inr ⟨h1,rfl⟩
 ·exact absurd rfl h
theorem NO {t:TypeId} {k:SK} (hk:Kx P t=some k) {x:Zb} {u:Value} (hx:VR r x u) {d:TypeDesc} (hd:P.underlying t=some d):∀ {es:List Entry} {l:List MapEntry} (i:Nat),ERs r es l ->
  Jh (.one k) x es i ≠ .bad->∃ o,Instr.findNow d u l i=some o/\FR r u es l i (Jh (.one k) x es i) o
 | _,_,i,.nil,_=>⟨none,rfl,rfl⟩
 | (key,v,b)::es,m::l,i,.cons he ht,hn=>by
  obtain ⟨he1,he2,he3⟩:=he;rcases NM hn with ⟨h1,h2⟩ | ⟨h1,h2⟩
  ·obtain ⟨h3,h4⟩:=NL hk hd hx he1 (h1:eqK k x key=some true);rw [h2];refine ⟨some (i,m.val),by simp only [Instr.findNow,h3],0,m,key,rfl,rfl,rfl,rfl,h4 rfl⟩
  ·obtain ⟨h3,_⟩:=NL hk hd hx he1 (h1:eqK k x key=some false);rw [h2] at hn ⊢;obtain ⟨o,h5,h6⟩:=NO hk hx hd (i+1) ht hn;exact ⟨o,by simp only [Instr.findNow,h3]; exact h5,h6.step⟩
theorem YZ {t:TypeId} {kk:KK} (hk:ZeE P t kk) {x:Zb} {u:Value} (hx:VR r x u):∀ {es:List Entry} {l:List MapEntry} (i:Nat),ERs r es l ->
  Jh kk x es i ≠ .bad->∃ o,(Instr.findAsking t u l i).run P w = .ok o w/\FR r u es l i (Jh kk x es i) o
 | _,_,i,.nil,_=>⟨none,rfl,rfl⟩
 | (key,v,b)::es,m::l,i,.cons he ht,hn=>by
  obtain ⟨he1,he2,he3⟩:=he;rcases NM hn with ⟨h1,h2⟩ | ⟨h1,h2⟩
  ·obtain ⟨h3,h4⟩:=Bh (w:=w) hk h1 hx he1;rw [h2];refine ⟨some (i,m.val),?_,0,m,key,rfl,rfl,rfl,rfl,(h4 rfl).symm⟩;simp only [Instr.findAsking,Sem.run_bind,h3,Result.andThen_ok,if_true,Sem.run_pure]
  ·obtain ⟨h3,_⟩:=Bh (w:=w) hk h1 hx he1;rw [h2] at hn ⊢;obtain ⟨o,h5,h6⟩:=YZ hk hx (i+1) ht hn;refine ⟨o,?_,h6.step⟩;simp only [Instr.findAsking,Sem.run_bind,h3,Result.andThen_ok,Bool.false_eq_true,if_false];exact h5
theorem run_findKey {t:TypeId} {kk:KK} (hk:ZeE P t kk) {x:Zb} {u:Value} (hx:VR r x u) {es:List Entry} {l:List MapEntry} (he:ERs r es l) (hn:Jh kk x es 0 ≠ .bad) :
  ∃ o,(Instr.findKey t u l).run P w = .ok o w/\FR r u es l 0 (Jh kk x es 0) o:=by
 cases kk with
 | one k =>
  obtain ⟨d,h1,_⟩:=Gj (hk:Kx P t=some k);obtain ⟨o,h2,h3⟩:=NO (hk:Kx P t=some k) hx h1 0 he hn;exact ⟨o,by simp only [Instr.findKey,Sem.run_bind,run_underlying h1,Result.andThen_ok,h2,Sem.run_pure],h3⟩
 | flat ks =>
  obtain ⟨fs,h1,_⟩:=Rs (hk:VL P t=some ks);obtain ⟨o,h2,h3⟩:=YZ (w:=w) hk hx 0 he hn;refine ⟨o,?_,h3⟩;simp only [Instr.findKey,Sem.run_bind,run_underlying h1,Result.andThen_ok];cases l with
  | nil =>
   simp only [Instr.findNow];exact h2
  | cons m l =>
   have:Instr.findNow (.struct fs) u (m::l) 0=none:=by
    simp only [Instr.findNow];have:Instr.sameNow (.struct fs) u m.key=none:=rfl;rw [this]
   rw [this];exact h2
theorem FR.val {u:Value} {es:List Entry} {l:List MapEntry} (he:ERs r es l) {i:Nat} {v:Zb} {b j:Nat} {o:Option (Nat×Value)} (h:FR r u es l j (.got i v b) o):∃ val,o=some (i,val)/\VR r v val:=by
 obtain ⟨k,m,key,h1,h2,h3,h4,_⟩:=h;refine ⟨m.val,h4,?_⟩;clear h4 h1
 induction he generalizing k with
 | nil=>cases h2
 | cons hh ht ih =>
  cases k with
  | zero=>cases h2; cases h3; exact hh.2.1
  | succ k=>exact ih k h2 h3
theorem ZeF {t:TypeId} (h:RelB r s w) {ok:Bool} {k m v:Zb} (hl:Zd8 s ok (LH P t) k m = .ok v) {a b:Value} (hk:VR r k b) (hm:VR r m a):ZW P r w (Instr.lookup t a b ok) v:=by
 unfold Zd8 at hl;split at hl
 ·rename_i kk z hmt;obtain ⟨hko,hl1⟩:=ZQ hl;obtain ⟨kt,et,h1,h2,h3⟩:=Mh hmt;obtain ⟨_,zu,_,_,hz,lC⟩:=XR h2;have hck:=fun e=>run_checkKey (w:=w) h3 hko hk e 10000 (by decide)
  have fin:∀ (u:Value) (b':Bool) (v':Zb),VR r v' u->v=(sel ok (.tuple [v',.bool b']) v')->VR r v (if ok then .tuple #[u,.bool b'] else u):=by
   intro u b' v' hu hv;subst hv;cases ok
   ·exact hu
   ·exact .tuple (.cons hu (.cons (.bool _) .nil))
  unfold Ih at hl1;split at hl1
  ·cases hl1;cases hm;refine ⟨_,?_,fin zu false z (lC r) rfl⟩
   have bL:(Instr.findKey kt b []).run P w = .ok none w:=by
    obtain ⟨o,h5,h6⟩:=run_findKey (w:=w) h3 hk (es:=[]) (l:=[]) .nil (by intro e; cases e);have:o=none:=h6;rw [h5,this]
   simp [Instr.lookup,run_underlying h1,hck,bL,hz]
  ·rename_i id;unfold Ig at hl1;split at hl1
   ·rename_i es c aJ;cases hm with
    | map hr =>
     obtain ⟨l,h4,h5⟩:=QL h hr aJ;have hg:=Qt (P:=P) h4
     have hne:Jh kk k es 0 ≠ .bad:=by
      intro e;rw [e] at hl1;cases hl1
     obtain ⟨o,h6,h7⟩:=run_findKey (w:=w) h3 hk h5 hne;cases hf:Jh kk k es 0 with
     | bad=>exact absurd hf hne
     | none =>
      rw [hf] at hl1 h7;cases hl1;have:o=none:=h7;subst this;refine ⟨_,?_,fin zu false z (lC r) rfl⟩;simp [Instr.lookup,run_underlying h1,hg,hck,h6,hz]
     | got i v' b' =>
      rw [hf] at hl1 h7;cases hl1;obtain ⟨val,rfl,hv⟩:=h7.val h5;refine ⟨_,?_,fin val true v' hv rfl⟩;simp [Instr.lookup,run_underlying h1,hg,hck,h6]
   ·cases hl1
  ·cases hl1
 ·cases hl
end Ev
namespace Ev
open Go
variable [Sig] {P:Program} {r:Rho} {s:St} {w:World}
def YF (P:Program) (r:Rho) (s:St) (w:World) (x:Sem Value) (v:Zb) (s':St):Prop:=∃ q w' u,x.run P w = .ok u w'/\VR q v u/\Ext r s w q s' w'
def Bk (P:Program) (r:Rho) (s:St) (w:World) (x:Sem Unit) (s':St):Prop:=∃ q w',x.run P w = .ok () w'/\Ext r s w q s' w'
theorem ZW.ZjO (h:Rel r s w) {x:Sem Value} {v:Zb} (hg:ZW P r w x v):YF P r s w x v s:=by
 obtain ⟨u,h1,h2⟩:=hg;exact ⟨r,w,u,h1,h2,Ext.refl h⟩
theorem Q7 {b:Nat} {o o':Obj} (h:w.heap[b]? = some o') (hn:∀ c t f,o' ≠ .cells c t f):(setObj b o).run P w = .ok () (upd w b o):=by
 simp only [setObj,Sem.run,h];cases o' <;> first | rfl | exact absurd rfl (hn _ _ _)
theorem W4 (h:Rel r s w) {id:Nat} {x:RB} (hx:r id=some x) {b:Zd} (hb:s.get id=some b) {o':Obj} (ho:w.heap[x.blk]? = some o') {es:List Entry} {l:List MapEntry} (he:ERs r es l) (c:Nat) :
  Ext r s w r (s.put id (.map es c)) (upd w x.blk (.map ⟨l⟩ c)) :=
 Ext.put h hb hx (Z6 ho) ⟨l,rfl,he⟩ (fun k hk=>QE _ hk) (VP _ _) rfl rfl rfl
theorem Px {k:SK} {x:Zb} {c:Bool} (h:eqK k x x=some c) {u:Value} (hx:VR r x u) (n:Nat):Instr.sameBits n u u=true:=by
 rcases Gi h with ⟨rfl,j,a,b,rfl,_,_⟩ | ⟨rfl,a,b,rfl,_,_⟩ | ⟨rfl,a,b,rfl,_,_⟩
 ·cases hx; simp [Instr.sameBits]
 ·cases hx; simp [Instr.sameBits,Gk]
 ·cases hx; simp [Instr.sameBits]
theorem Gl (n:Nat):∀ {ks:List SK} {a:List Zb} {xs:List Value},PX ks a a=some true->VRs r a xs->(xs.zip xs).all (fun (x,y)=>Instr.sameBits n x y)=true
 | _,_,_,_,.nil=>rfl
 | [],_,_,h,.cons _ _=>by cases h
 | k::ks,_,_,h,.cons hx ht=>by
  simp only [PX] at h;rcases Mf h with ⟨h1,h2⟩ | ⟨_,h2⟩
  ·rw [List.zip_cons_cons,List.all_cons,Gl n h2 ht];simp [Px h1 hx n]
  ·cases h2
theorem Gm {kk:KK} {x:Zb} (ho:Pr kk x=true) {u:Value} (hx:VR r x u):(Instr.keyThatStays u u).run P w = .ok u w:=by
 have h:=Bj ho
 have:Instr.sameBits 10000 u u=true:=by
  cases kk with
  | one k=>exact Px (k:=k) h hx 10000
  | flat ks =>
   simp only [Ri] at h;split at h
   ·cases hx with
    | agg ha =>
     have:=Gl 9999 h ha;show (_ && _)=true;rw [Bool.and_eq_true];exact ⟨by simp,this⟩
   ·cases h
 simp [Instr.keyThatStays,this]
theorem ERs.PM {u val:Value} {v:Zb} (hv:VR r v val):∀ {es:List Entry} {l:List MapEntry},ERs r es l->∀ (k:Nat) {m:MapEntry},l[k]? = some m->m.key=u ->
  ERs r (PM v k es) (l.modify k fun e=>{ e with key:=u,val:=val })
 | _,_,.nil,_,_,h,_=>by cases h
 | (key,_,b)::es,m'::l,.cons he ht,0,m,h,hk=>by
  cases h;subst hk;exact .cons ⟨he.1,hv,he.2.2⟩ ht
 | _,_,.cons he ht,k+1,m,h,hk => .cons he (ERs.PM hv ht k h hk)
theorem ERs.ZaB {u:Value}:∀ {es:List Entry} {l:List MapEntry},ERs r es l->∀ (k:Nat) {m:MapEntry},l[k]? = some m->m.key=u->ERs r es (l.modify k fun e=>{ e with key:=u })
 | _,_,.nil,_,_,h,_=>by cases h
 | (key,_,b)::es,m'::l,.cons he ht,0,m,h,hk=>by
  cases h;subst hk;exact .cons ⟨he.1,he.2.1,he.2.2⟩ ht
 | _,_,.cons he ht,k+1,m,h,hk => .cons he (ERs.ZaB ht k h hk)
theorem ERs.append:∀ {es fs:List Entry} {l m:List MapEntry},ERs r es l->ERs r fs m->ERs r (es++fs) (l++m)
 | _,_,_,_,.nil,h=>h
 | _,_,_,_,.cons h t,k => .cons h (ERs.append t k)
theorem VY {α : Type} (l:List α) (i:Nat) (f : α -> α):(⟨l⟩:Array α).modify i f=⟨l.modify i f⟩:=by
 apply Array.ext';simp
theorem Gn {α : Type} (l:List α) (x : α):(⟨l⟩:Array α).push x=⟨l++[x]⟩:=by
 apply Array.ext';simp
theorem ZgE {t:TypeId} (h:Rel r s w) {k v m:Zb} {s':St} {v':Zb} (hl:Zjx s (LH P t) k v m = .ok v' s') {a b c:Value} (hk:VR r k b) (hv:VR r v c) (hm:VR r m a) :
  v'=QH/\Bk P r s w (Instr.mapUpdate t a b c) s':=by
 unfold Zjx at hl;split at hl
 ·rename_i id kk z hmt;obtain ⟨hko,hl1⟩:=Zt hl;obtain ⟨kt,et,h1,h2,h3⟩:=Mh hmt;have hck:=fun e=>run_checkKey (w:=w) h3 hko hk e 10000 (by decide);unfold Zlh at hl1;split at hl1
  ·rename_i es cl aJ;cases hm with
   | map hr =>
    obtain ⟨l,h4,h5⟩:=QL h.toRelB hr aJ;have hg:=Qt (P:=P) h4
    have hne:Jh kk k es 0 ≠ .bad:=by
     intro e;rw [e] at hl1;cases hl1
    obtain ⟨o,h6,h7⟩:=run_findKey (w:=w) h3 hk h5 hne;cases hf:Jh kk k es 0 with
    | bad=>exact absurd hf hne
    | none =>
     rw [hf] at hl1 h7;cases hl1;have:o=none:=h7;subst this;refine ⟨rfl,r,_,?_,W4 h hr (Xn aJ) h4 (h5.append (.cons (m:=⟨b,c,cl⟩) ⟨hk,hv,rfl⟩ .nil)) (cl+1)⟩;simp only [Instr.mapUpdate,Sem.run_bind,run_underlying h1,Result.andThen_ok,hg,hck,h6,Gn];exact Q7 h4 (fun _ _ _ e=>by cases e)
    | got i v' b' =>
     rw [hf] at hl1 h7;cases hl1;obtain ⟨j,m',key,e1,e2,e3,rfl,e5⟩:=h7;have e1:i=j:=by omega
     subst e1;refine ⟨rfl,r,_,?_,W4 h hr (Xn aJ) h4 (h5.PM hv i e2 e5) cl⟩
     have hkey:(((⟨l⟩:Array MapEntry)[i]?).map (·.key)).getD b=b:=by
      rw [List.getElem?_toArray,e2];exact e5
     simp only [Instr.mapUpdate,Sem.run_bind,run_underlying h1,Result.andThen_ok,hg,hck,h6,hkey,Gm hko hk,VY];exact Q7 h4 (fun _ _ _ e=>by cases e)
  ·cases hl1
 ·cases hl
theorem ZbO {t:TypeId} (h:Rel r s w) {k m:Zb} {s':St} {v:Zb} (hl:UU s (LH P t) k m = .ok v s') {a b:Value} (hk:VR r k b) (hm:VR r m a) :
  YF P r s w (Instr.mapEntry t a b) v s':=by
 unfold UU at hl;split at hl
 ·rename_i id kk z hmt;obtain ⟨hko,hl1⟩:=Zt hl;obtain ⟨kt,et,h1,h2,h3⟩:=Mh hmt;obtain ⟨_,zu,_,_,hz,lC⟩:=XR h2;have hck:=fun e=>run_checkKey (w:=w) h3 hko hk e 10000 (by decide);unfold Zeb at hl1;split at hl1
  ·rename_i es cl aJ;cases hm with
   | map hr =>
    obtain ⟨l,h4,h5⟩:=QL h.toRelB hr aJ;have hg:=Qt (P:=P) h4
    have hne:Jh kk k es 0 ≠ .bad:=by
     intro e;rw [e] at hl1;cases hl1
    obtain ⟨o,h6,h7⟩:=run_findKey (w:=w) h3 hk h5 hne;cases hf:Jh kk k es 0 with
    | bad=>exact absurd hf hne
    | none =>
     rw [hf] at hl1 h7;cases hl1;have:o=none:=h7;subst this;refine ⟨r,_,.tuple #[zu,.int .i64 (Int.ofNat cl)],?_,.tuple (.cons (lC r) (.cons (.int _ _) .nil)),W4 h hr (Xn aJ) h4 (h5.append (.cons (m:=⟨b,zu,cl⟩) ⟨hk,lC r,rfl⟩ .nil)) (cl+1)⟩;simp only [Instr.mapEntry,Sem.run_bind,run_underlying h1,Result.andThen_ok,hg,hck,h6,Gn,hz];rw [Q7 h4 (fun _ _ _ e=>by cases e)];rfl
    | got i v' b' =>
     rw [hf] at hl1 h7;cases hl1;obtain ⟨val,hval,aP⟩:=h7.val h5;obtain ⟨j,m',key,e1,e2,e3,e4,e5⟩:=h7;have e1:i=j:=by omega
     subst e1;rw [e4] at hval;cases hval;subst e4
     have hborn:m'.born=b':=by
      clear h6 hf hne h4 hg aJ hl e5 aP e1
      induction h5 generalizing i with
      | nil=>cases e2
      | cons hh ht ih =>
       cases i with
       | zero=>cases e2; cases e3; exact hh.2.2
       | succ i=>exact ih i e2 e3
     refine ⟨r,_,.tuple #[m'.val,.int .i64 (Int.ofNat b')],?_,.tuple (.cons aP (.cons (.int _ _) .nil)),W4 h hr (Xn aJ) h4 (h5.ZaB i e2 e5) cl⟩
     have hkey:(((⟨l⟩:Array MapEntry)[i]?).map (·.key)).getD b=b:=by
      rw [List.getElem?_toArray,e2];exact e5
     have hb2:(((⟨l⟩:Array MapEntry)[i]?).map (fun x=>(x.born:Int))).getD 0=(b':Int):=by
      rw [List.getElem?_toArray,e2];exact congrArg Int.ofNat hborn
     simp only [Instr.mapEntry,Sem.run_bind,run_underlying h1,Result.andThen_ok,hg,hck,h6,hkey,Gm hko hk,VY];rw [Q7 h4 (fun _ _ _ e=>by cases e)];simp only [Result.andThen_ok,hb2];rfl
  ·cases hl1
 ·cases hl
end Ev
namespace Ev
open Go
variable [Sig] {P:Program} {r:Rho} {s:St} {w:World}
theorem NP {b:Nat} {v:Zb} {val:Value} (hv:VR r v val):∀ {es es':List Entry} {l:List MapEntry},Mc b v es=some es'->ERs r es l ->
  ∃ i,l.findIdx? (fun e=>(e.born:Int)==(b:Int))=some i/\ERs r es' (l.modify i fun e=>{ e with val:=val })
 | [],_,_,h,_=>by cases h
 | (k,u,c)::es,es',_,h,.cons (m:=m) (l':=l) hh ht=>by
  simp only [Mc] at h;have hb:m.born=c:=hh.2.2;rcases Ze h with ⟨h0,h1⟩ | ⟨h0,h1⟩
  ·cases h1;have h2:=ZE h0;subst h2;refine ⟨0,?_,.cons ⟨hh.1,hv,hh.2.2⟩ ht⟩;simp [List.findIdx?_cons,hb]
  ·split at h1
   ·rename_i es1 h2;cases h1;obtain ⟨i,h3,h4⟩:=NP hv h2 ht;refine ⟨i+1,?_,.cons hh h4⟩;have:b≠c:=JC h0
    have h5:((m.born:Int)==(b:Int))=false:=by
     rw [hb];simp;omega
    rw [List.findIdx?_cons,h5];simp [h3]
   ·cases h1
theorem ZbP (h:Rel r s w) {t:TypeId} {b v m:Zb} {s':St} {v':Zb} (hl:UW s (asNat b) v m = .ok v' s') {x y z:Value} (hb:VR r b y) (hv:VR r v z) (hm:VR r m x) :
  v'=QH/\Bk P r s w (Instr.entryStore t x y z) s':=by
 unfold UW at hl;split at hl
 ·rename_i id;unfold Ii at hl;split at hl
  ·rename_i es c n aJ hn;obtain ⟨k,rfl⟩:=Xp hn hb;cases hm with
   | map hr =>
    obtain ⟨l,h4,h5⟩:=QL h.toRelB hr aJ;have hg:=Qt (P:=P) h4;unfold Zad at hl;split at hl
    ·rename_i es' hes;cases hl;obtain ⟨i,h6,h7⟩:=NP hv hes h5;refine ⟨rfl,r,_,?_,W4 h hr (Xn aJ) h4 h7 c⟩
     have h8:(⟨l⟩:Array MapEntry).findIdx? (fun e=>(e.born:Int)==Int.ofNat n)=some i:=by
      rw [List.findIdx?_toArray];exact h6
     simp only [Instr.entryStore,Sem.run_bind,hg,Result.andThen_ok,asInt,asIntOf,Sem.run_pure,h8,VY];exact Q7 h4 (fun _ _ _ e=>by cases e)
    ·cases hl
  ·cases hl
 ·cases hl
theorem ERs.erase:∀ {es:List Entry} {l:List MapEntry},ERs r es l->∀ (i:Nat),ERs r (FH i es) (l.eraseIdx i)
 | _,_,.nil,i=>by cases i <;> exact .nil
 | _,_,.cons h t,0=>t
 | _,_,.cons h t,i+1 => .cons h (ERs.erase t i)
theorem Eb {α : Type} (l:List α) (i:Nat):(⟨l⟩:Array α).eraseIdxIfInBounds i=⟨l.eraseIdx i⟩:=by
 apply Array.ext';simp [Array.eraseIdxIfInBounds];split
 ·simp
 ·rename_i hi;rw [List.eraseIdx_of_length_le (by omega)]
theorem ZgF {t:TypeId} {ts:Array TypeId} {ty:TypeId} (ht:ts[0]? = some t) (h:Rel r s w) {k m:Zb} {s':St} {v:Zb} (hl:xK (LH P t) s m k = .ok v s') {a b:Value} (hk:VR r k b) (hm:VR r m a) :
  YF P r s w (Builtin.delete_ ts ty #[a,b]) v s':=by
 unfold xK at hl;split at hl
 ·rename_i id kk z hmt;obtain ⟨hko,hl1⟩:=Zt hl;obtain ⟨kt,et,h1,h2,h3⟩:=Mh hmt;have hck:=fun e=>run_checkKey (w:=w) h3 hko hk e 10000 (by decide);unfold Zlj at hl1;split at hl1
  ·rename_i es cl aJ;cases hm with
   | map hr =>
    obtain ⟨l,h4,h5⟩:=QL h.toRelB hr aJ;have hg:=Qt (P:=P) h4
    have hne:Jh kk k es 0 ≠ .bad:=by
     intro e;rw [e] at hl1;cases hl1
    obtain ⟨o,h6,h7⟩:=run_findKey (w:=w) h3 hk h5 hne;cases hf:Jh kk k es 0 with
    | bad=>exact absurd hf hne
    | none =>
     rw [hf] at hl1 h7;cases hl1;have:o=none:=h7;subst this;refine ⟨r,_,.tuple #[],?_,.tuple .nil,W4 h hr (Xn aJ) h4 h5 cl⟩;simp only [Builtin.delete_,ht,Sem.run_bind,run_underlying h1,Result.andThen_ok,hg,hck,h6,List.getElem?_toArray,List.getElem?_cons_zero,List.getElem?_cons_succ];rw [Q7 h4 (fun _ _ _ e=>by cases e)];rfl
    | got i v' b' =>
     rw [hf] at hl1 h7;cases hl1;obtain ⟨val,rfl,aP⟩:=h7.val h5;refine ⟨r,_,.tuple #[],?_,.tuple .nil,W4 h hr (Xn aJ) h4 (h5.erase i) cl⟩;simp only [Builtin.delete_,ht,Sem.run_bind,run_underlying h1,Result.andThen_ok,hg,hck,h6,List.getElem?_toArray,List.getElem?_cons_zero,List.getElem?_cons_succ,Eb];rw [Q7 h4 (fun _ _ _ e=>by cases e)];rfl
  ·cases hl1
 ·cases hl
theorem ERs.G1 {l:List MapEntry} (h:ERs r [] l):l=[]:=by cases h; rfl
theorem ERs.EC {e:Entry} {l:List MapEntry} (h:ERs r [e] l):∃ m,l=[m]/\ER r e m:=by
 cases h with
 | cons h t=>exact ⟨_,by rw [t.G1],h⟩
theorem Jm {b:Nat} {m:Option Nat} {since st:Nat} {seen:List Nat} (h:w.heap[b]? = some (.mapIter m since ⟨seen⟩ st)) :
  (getObj b).run P w = .ok (.mapIter m since ⟨seen⟩ st) w:=by
 simp only [getObj,Sem.run,h]
theorem TD (n:Nat):∀ l:List Nat,WK n l=l.contains n
 | []=>rfl
 | m::l=>by
  simp only [WK,List.contains_cons,TD n l];cases h:Nat.beq n m
  ·have:=JC h;have:(n==m)=false:=by simp [this]
   rw [this];rfl
  ·have:=ZE h;subst this;simp;rfl
theorem Yg {seen:List Nat}:∀ {es:List Entry} {l:List MapEntry},ERs r es l->ERs r (leftOf seen es) (l.filter fun e => !seen.contains e.born)
 | _,_,.nil => .nil
 | (k,v,b)::es,m::l,.cons h t=>by
  have hb:m.born=b:=h.2.2;simp only [leftOf,TD];cases hc:seen.contains b
  ·rw [List.filter_cons_of_pos (by rw [hb,hc]; rfl)];exact .cons h (Yg t)
  ·rw [List.filter_cons_of_neg (by rw [hb,hc]; simp)];exact Yg t
theorem NQ {last:Nat}:∀ {es:List Entry} {l:List MapEntry},ERs r es l->Md last es=l.all fun e=>decide (e.born>=last)
 | _,_,.nil=>rfl
 | (k,v,b)::es,m::l,.cons h t=>by
  have hb:m.born=b:=h.2.2;simp only [Md,List.all_cons,hb,NQ t];cases hc:Nat.ble last b
  ·have:=Ru hc;have:decide (b>=last)=false:=by simp; omega
   rw [this];rfl
  ·have:=Qj hc;have:decide (b>=last)=true:=by simp; omega
   rw [this];rfl
theorem MQ {last:Nat} {seen:List Nat} {es:List Entry} {l:List MapEntry} (h:ERs r es l) (hg:TE last seen es=false) :
  (!(⟨seen⟩:Array Nat).isEmpty && !(⟨l⟩:Array MapEntry).isEmpty && (⟨l⟩:Array MapEntry).all fun e=>decide (e.born>=last))=false:=by
 cases seen with
 | nil=>simp
 | cons n seen =>
  cases h with
  | nil=>simp
  | cons hh ht =>
   have:=NQ (last:=last) (.cons hh ht);simp only [TE] at hg;rw [hg] at this;simp only [List.all_toArray];rw [<- this];simp
theorem DS (h:Rel r s w) {id m:Nat} {x y:RB} (hx:r id=some x) (hy:r m=some y) {b:Zd} (hb:s.get id=some b) {o':Obj} (ho:w.heap[x.blk]? = some o') (since st:Nat) (seen:List Nat) :
  Ext r s w r (s.put id (.mapIter (some m) since seen st)) (upd w x.blk (.mapIter (some y.blk) since ⟨seen⟩ st)) :=
 Ext.put h hb hx (Z6 ho) ⟨y,hy,rfl⟩ (fun k hk=>QE _ hk) (VP _ _) rfl rfl rfl
theorem G2:(Question.mapNext 1).forced=true:=rfl
theorem ZeG (h:Rel r s w) {t:TypeId} {x v:Zb} {s':St} (hl:Zee s x = .ok v s') {a:Value} (hx:VR r x a):YF P r s w (Instr.next a false t) v s':=by
 unfold Zee at hl;split at hl
 ·rename_i id;cases hx with
  | ptr hr =>
   rename_i x;unfold Ij at hl;split at hl
   ·rename_i since seen st hb;cases hl;obtain ⟨o,h1,h2⟩:=h.block id _ x hb hr;have h2:o = .mapIter none since ⟨seen⟩ st:=h2;subst h2;refine ⟨r,w,.tuple #[.bool false],?_,.tuple (.cons (.bool _) .nil),Ext.refl h⟩;simp only [Instr.next,Sem.run_bind,Jm h1,Result.andThen_ok,Sem.run_pure]
   ·rename_i m since seen last hb;obtain ⟨o,h1,y,hy,rfl⟩:=h.block id _ x hb hr;unfold ZhD at hl;split at hl
    ·rename_i es c aJ;obtain ⟨hg,hl⟩:=VX hl;obtain ⟨l,h4,h5⟩:=QL h.toRelB hy aJ;have hlf:=Yg (seen:=seen) h5;have hga:=MQ h5 hg;unfold Zed at hl;split at hl
     ·rename_i he;cases hl;rw [he] at hlf;have hnil:l.filter (fun e => !seen.contains e.born)=[]:=hlf.G1;refine ⟨r,w,.tuple #[.bool false],?_,.tuple (.cons (.bool _) .nil),Ext.refl h⟩
      have hfl:(⟨l⟩:Array MapEntry).filter (fun e => !(⟨seen⟩:Array Nat).contains e.born) = #[]:=by
       apply Array.ext';simpa using hnil
      simp only [Instr.next,Sem.run_bind,Jm h1,Result.andThen_ok,Qt h4,hga,hfl,Bool.false_eq_true,if_false];simp [G2]
     ·rename_i k u b he;obtain ⟨hbs,hl⟩:=Zt hl;cases hl;rw [he] at hlf;have hbl:=QI hbs;obtain ⟨me,hme,hh⟩:=hlf.EC;have lU:me.born=b:=hh.2.2;refine ⟨r,_,.tuple #[.bool true,me.key,me.val],?_,.tuple (.cons (.bool _) (.cons hh.1 (.cons hh.2.1 .nil))),DS h hr hy hb h1 since c (seen++[b])⟩
      have hfl:(⟨l⟩:Array MapEntry).filter (fun e => !(⟨seen⟩:Array Nat).contains e.born) = #[me]:=by
       apply Array.ext';simpa using hme
      have hf1:(#[me]:Array MapEntry).filter (fun e=>decide (e.born<since)) = #[me]:=by simp [lU,hbl]
      have hf2:(#[me]:Array MapEntry).filter (fun e=>decide (e.born>=since)) = #[]:=by simp [lU]; omega
      simp only [Instr.next,Sem.run_bind,Jm h1,Result.andThen_ok,Qt h4,hga,hfl,hf1,hf2,Bool.false_eq_true,if_false];simp [G2,Q7 h1 (fun _ _ _ e=>by cases e),lU]
     ·cases hl
    ·cases hl
   ·cases hl
 ·cases hl
end Ev
end Go.Proofs.YtheflbaejhlboaaGreatDoor
