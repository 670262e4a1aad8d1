/- A part of the proof of a law of package confluencetop: lemmas, no condition of ours. -/
import Derived.Test.YtheflbaejhlboaaGreatDoorTopUn18
import Derived.Test.YtheflbaejhlboaaGreatDoorTopUn24
import Derived.Test.YtheflbaejhlboaaGreatDoorTopUn8
import Derived.Test.YtheflbaejhlboaaGreatDoorTopUn19
import Derived.Test.YtheflbaejhlboaaGreatDoorTopUn23
import Derived.Test.YtheflbaejhlboaaGreatDoorTopUn20
set_option linter.unusedVariables false
set_option linter.unusedSectionVars false
set_option linter.unusedSimpArgs false
namespace Go.Proofs.YtheflbaejhlboaaGreatDoor.Ev
open Go
noncomputable section
structure Vw where
 z:Bool
 d:Int
 k:Int
 g:Tr Nat
 e:Tr Nat
 tg:Nat→Nat→Bool
 te:Nat→Bool
def isN (o:Option Nat) (i:Nat):Bool:=match o with
 | some k=>Nat.beq k i
 | none=>false
def Zh0 (o:Option Nat):Bool:=match o with
 | some _=>false
 | none=>true
def US (z:Bool) (d k:Int) (c a b c' a' b':Int):Bool :=
 sel z (sel (ieq a (.ofNat 0)) (sel (ieq b (.ofNat 0)) (ieq c (c'+b'*k)) false) false)
  (sel (ieq a a') (sel (ieq b (.ofNat 0)) (ieq (c'+a*d+b'*k) c) false) false)
mutual
def V0 (X:Vw):Zc→Zc→Bool
 | .int j a,.int k b=>sel (keq j k) (US X.z X.d X.k a (.ofNat 0) (.ofNat 0) b (.ofNat 0) (.ofNat 0)) false
 | .int j a,.sint k c' a' b'=>sel (keq j k) (US X.z X.d X.k a (.ofNat 0) (.ofNat 0) c' a' b') false
 | .sint j c a b,.int k n=>sel (keq j k) (US X.z X.d X.k c a b n (.ofNat 0) (.ofNat 0)) false
 | .sint j c a b,.sint k c' a' b'=>sel (keq j k) (US X.z X.d X.k c a b c' a' b') false
 | .bool a,.bool b=>S9 a b
 | .flt j a,.flt k b=>sel (Lq j k) (Nat.beq a b) false
 | .ZW j a c,.ZW k b e=>sel (Lq j k) (sel (Nat.beq a b) (Nat.beq c e) false) false
 | .str a,.str b=>Qv a b
 | .Zh,.Zh=>true
 | .ptr i a,.ptr j b=>sel (isN (X.g.get j) i) (Nat.beq a b) false
 | .Za,.Za=>true
 | .ZX,.ZX=>true
 | .slice i a n none,.slice j b m none=>sel (isN (X.g.get j) i) (sel (Nat.beq a b) (Nat.beq n m) false) false
 | .slice i a n (some c),.slice j b m (some e)=>sel (isN (X.g.get j) i) (sel (Nat.beq a b) (sel (Nat.beq n m) (Nat.beq c e) false) false) false
 | .Zk,.Zk=>true
 | .map i,.map j=>isN (X.g.get j) i
 | .func f a b,.func g a' b'=>sel (Nat.beq f g) (sel (Jw X a a') (Jw X b b') false) false
 | .ZH,.ZH=>true
 | .nilIface,.nilIface=>true
 | .iface t a,.iface u b=>sel (Nat.beq t u) (V0 X a b) false
 | .agg a,.agg b=>Jw X a b
 | .tuple a,.tuple b=>Jw X a b
 | .gho i a,.gho j b=>sel (isN (X.g.get j) i) (X.tg a b) false
 | .Za,.gho j b=>sel (Zh0 (X.g.get j)) (sel (isN (X.e.get j) 0) (X.te b) false) false
 | _,_=>false
def Jw (X:Vw):List Zc→List Zc→Bool
 | [],[]=>true
 | x::xs,y::ys=>sel (V0 X x y) (Jw X xs ys) false
 | _,_=>false
end
def Yr (X:Vw):List Entry→List Entry→Bool
 | [],[]=>true
 | (a,b,n)::l,(a',b',m)::k=>sel (V0 X a a') (sel (V0 X b b') (sel (Nat.beq n m) (Yr X l k) false) false) false
 | _,_=>false
def Bx (X:Vw):Zd→Zd→Bool
 | .cells cs e o,.cells ds f p=>sel (Nat.beq e f) (sel p (Jw X cs ds) (sel o false (Jw X cs ds))) false
 | .map es c,.map fs k=>sel (Nat.beq c k) (Yr X es fs) false
 | _,_=>false
def ZbV (X:Vw) (o:Option Zd) (b:Zd):Bool:=match o with
 | some c=>Bx X c b
 | none=>false
def ZbW (X:Vw) (f:Tr Nat) (t:Tr Zd) (j:Nat) (b:Zd):Bool:=match X.g.get j with
 | some i=>sel (isN (f.get i) j) (ZbV X (t.get i) b) false
 | none=>false
def FD (X:Vw) (f:Tr Nat) (t:Tr Zd):List (Nat×Zd)→Bool
 | []=>true
 | (j,b)::l=>sel (ZbW X f t j b) (FD X f t l) false
def Ys (n:Nat):List (Nat×Nat)→Bool
 | []=>true
 | (j,_)::l=>sel (Nat.blt j n) (Ys n l) false
end
variable {P:Program}
theorem QJ {u v:Bool} (h:sel u v false=true):u=true∧v=true:=by
 cases u
 ·cases h
 ·exact ⟨rfl,h⟩
theorem Yt {o:Option Nat} {i:Nat} (h:isN o i=true):o=some i:=by
 cases o with
 | none=>cases h
 | some k=>rw [show k=i from Nat.eq_of_beq_eq_true h]
theorem Zdy {o:Option Nat} (h:Zh0 o=true):o=none:=by cases o with
 | none=>rfl
 | some _=>cases h
theorem Sq {S S':Sig} {z:Bool} {d k c a b c' a' b':Int} (h:US z d k c a b c' a' b'=true) (hz:z=true→S'.x=0) (hd:z=false→S'.x=S.x+d) (hk:S'.y=k):c+a*S.x+b*S.y=c'+a'*S'.x+b'*S'.y:=by
 have t:∀ {u v:Bool},sel u v false=true→u=true∧v=true:=fun {u v} h=>by cases u; cases h; exact ⟨rfl,h⟩
 have e:∀ {u v:Int},ieq u v=true→u=v:=fun {u v} h=>by
  cases u <;> cases v <;> first | (cases h; done) | exact congrArg _ (Nat.eq_of_beq_eq_true h)
 unfold US at h
 cases z
 ·have h:sel (ieq a a') (sel (ieq b (.ofNat 0)) (ieq (c'+a*d+b'*k) c) false) false=true:=h
  have hd:=hd rfl
  obtain ⟨h1,h⟩:=t h
  obtain ⟨h2,h4⟩:=t h
  have h1:=e h1
  have h2:b=0:=e h2
  have h4:=e h4
  subst h1 h2
  rw [hd,hk,Int.mul_add]
  omega
 ·have h:sel (ieq a (.ofNat 0)) (sel (ieq b (.ofNat 0)) (ieq c (c'+b'*k)) false) false=true:=h
  have hz:=hz rfl
  obtain ⟨h1,h⟩:=t h
  obtain ⟨h2,h4⟩:=t h
  have h1:a=0:=e h1
  have h2:b=0:=e h2
  have h4:=e h4
  subst h1 h2 h4
  rw [hz,hk]
  omega
section
variable {S S':Sig} (X:Vw) (r q:Rho)
structure ZfU:Prop where
 hz:X.z=true→S'.x=0
 hd:X.z=false→S'.x=S.x+X.d
 hk:S'.y=X.k
 old:∀ j i x,X.g.get j=some i→r i=some x→q j=some x
 emp:∀ j,X.g.get j=none→X.e.get j=some 0→∃ x g,q j=some x∧x.gho=some g∧g.val = .slice none 0 0∧∀ b,X.te b=true→S'.Q6 b g.Gi g.made (.slice none 0 0)
 sig:∀ a b,X.tg a b=true→∀ F w v,S.Q6 a F w v→S'.Q6 b F w v
variable {X r q} (hX:@ZfU S S' X r q)
include hX
mutual
theorem P8:∀ (x y:Zc) (u:Value),V0 X x y=true→@VR S r x u→@VR S' q y u
 | .int j a,y,u,h,hv=>by
  cases y <;> first
   | (cases h; done)
   | (
     rename_i k b
     obtain ⟨h1,h2⟩:=QJ h
     have h1:=@Jd S j k h1
     subst h1
     have h3:=Sq (S:=S) (S':=S') h2 hX.hz hX.hd hX.hk
     cases hv
     have h4:a=b:=by
      have e1:a+(Int.ofNat 0)*S.x+(Int.ofNat 0)*S.y=a:=by show a+0*S.x+0*S.y=a; omega
      have e2:b+(Int.ofNat 0)*S'.x+(Int.ofNat 0)*S'.y=b:=by show b+0*S'.x+0*S'.y=b; omega
      rw [e1,e2] at h3
      exact h3
     subst h4
     exact @VR.int S' q j a)
   | (
     rename_i k c' a' b'
     obtain ⟨h1,h2⟩:=QJ h
     have h1:=@Jd S j k h1
     subst h1
     have h3:=Sq (S:=S) (S':=S') h2 hX.hz hX.hd hX.hk
     cases hv
     refine @VR.sint S' q j c' a' b' a ?_
     have e1:a+(Int.ofNat 0)*S.x+(Int.ofNat 0)*S.y=a:=by show a+0*S.x+0*S.y=a; omega
     rw [e1] at h3
     exact h3)
 | .sint j c a b,y,u,h,hv=>by
  cases y <;> first
   | (cases h; done)
   | (
     rename_i k n
     obtain ⟨h1,h2⟩:=QJ h
     have h1:=@Jd S j k h1
     subst h1
     have h3:=Sq (S:=S) (S':=S') h2 hX.hz hX.hd hX.hk
     cases hv
     rename_i m hm
     have e2:n+(Int.ofNat 0)*S'.x+(Int.ofNat 0)*S'.y=n:=by show n+0*S'.x+0*S'.y=n; omega
     rw [e2,← hm] at h3
     subst h3
     exact @VR.int S' q j m)
   | (
     rename_i k c' a' b'
     obtain ⟨h1,h2⟩:=QJ h
     have h1:=@Jd S j k h1
     subst h1
     have h3:=Sq (S:=S) (S':=S') h2 hX.hz hX.hd hX.hk
     cases hv
     rename_i m hm
     exact @VR.sint S' q j c' a' b' m (hm.trans h3))
 | .bool a,y,u,h,hv=>by
  cases y <;> first | (cases h; done) | (have h:S9 _ _=true:=h; rw [@Y3 S] at h; have h:=eq_of_beq h; subst h; cases hv; exact @VR.bool S' q _)
 | .flt j a,y,u,h,hv=>by
  cases y <;> first | (cases h; done) | (obtain ⟨h1,h2⟩:=QJ h; have h1:=@YS S _ _ h1; have h2:=Nat.eq_of_beq_eq_true h2; subst h1 h2; cases hv; exact @VR.flt S' q _ _)
 | .ZW j a c,y,u,h,hv=>by
  cases y <;> first | (cases h; done) | (obtain ⟨h1,h2⟩:=QJ h; obtain ⟨h2,h3⟩:=QJ h2; have h1:=@YS S _ _ h1; have h2:=Nat.eq_of_beq_eq_true h2; have h3:=Nat.eq_of_beq_eq_true h3; subst h1 h2 h3; cases hv; exact @VR.ZW S' q _ _ _)
 | .str a,y,u,h,hv=>by
  cases y <;> first | (cases h; done) | (have h:Qv _ _=true:=h; rw [@Qh S] at h; have h:=eq_of_beq h; subst h; cases hv; exact @VR.str S' q _)
 | .Zh,y,u,h,hv=>by cases y <;> first | (cases h; done) | (cases hv; exact @VR.Zh S' q)
 | .ptr i a,y,u,h,hv=>by
  cases y <;> first | (cases h; done) | (obtain ⟨h1,h2⟩:=QJ h; have h1:=Yt h1; have h2:=Nat.eq_of_beq_eq_true h2; subst h2; cases hv; rename_i hx; exact @VR.ptr S' q _ _ _ (hX.old _ _ _ h1 hx))
 | .Za,y,u,h,hv=>by
  cases y <;> first
   | (cases h; done)
   | (cases hv; exact @VR.Za S' q)
   | (
     rename_i j b
     obtain ⟨h1,h2⟩:=QJ h
     obtain ⟨h2,h3⟩:=QJ h2
     obtain ⟨x,g,e1,e2,e3,e4⟩:=hX.emp j (Zdy h1) (Yt h2)
     cases hv
     exact @VR.gho S' q j b x g _ e1 e2 e3 (e4 b h3))
 | .ZX,y,u,h,hv=>by cases y <;> first | (cases h; done) | (cases hv; exact @VR.ZX S' q _ _)
 | .slice i a n c,y,u,h,hv=>by
  cases y with
  | slice j b m e =>
   cases c <;> cases e
   ·obtain ⟨h1,h2⟩:=QJ h
    obtain ⟨h2,h3⟩:=QJ h2
    have h1:=Yt h1
    have h2:=Nat.eq_of_beq_eq_true h2
    have h3:=Nat.eq_of_beq_eq_true h3
    subst h2 h3
    cases hv with
    | slice hx hn hc hu=>exact @VR.slice S' q _ _ _ _ _ _ (hX.old _ _ _ h1 hx) hn hc hu
   ·cases h
   ·cases h
   ·obtain ⟨h1,h2⟩:=QJ h
    obtain ⟨h2,h3⟩:=QJ h2
    obtain ⟨h3,h4⟩:=QJ h3
    have h1:=Yt h1
    have h2:=Nat.eq_of_beq_eq_true h2
    have h3:=Nat.eq_of_beq_eq_true h3
    have h4:=Nat.eq_of_beq_eq_true h4
    subst h2 h3 h4
    cases hv with
    | slice hx hn hc hu=>exact @VR.slice S' q _ _ _ _ _ _ (hX.old _ _ _ h1 hx) hn hc hu
  | _=>cases c <;> cases h
 | .Zk,y,u,h,hv=>by cases y <;> first | (cases h; done) | (cases hv; exact @VR.Zk S' q)
 | .map i,y,u,h,hv=>by
  cases y <;> first | (cases h; done) | (have h1:=Yt h; cases hv; rename_i hx; exact @VR.map S' q _ _ (hX.old _ _ _ h1 hx))
 | .func f a b,y,u,h,hv=>by
  cases y with
  | func g a' b' =>
   obtain ⟨h1,h2⟩:=QJ (show sel (Nat.beq f g) (sel (Jw X a a') (Jw X b b') false) false=true from h)
   obtain ⟨h2,h3⟩:=QJ h2
   have h1:=Nat.eq_of_beq_eq_true h1
   subst h1
   cases hv with
   | func _ ha hb=>exact @VR.func S' q _ _ _ _ _ (VE a a' _ h2 ha) (VE b b' _ h3 hb)
  | _=>cases h
 | .ZH,y,u,h,hv=>by cases y <;> first | (cases h; done) | (cases hv; exact @VR.ZH S' q)
 | .nilIface,y,u,h,hv=>by cases y <;> first | (cases h; done) | (cases hv; exact @VR.nilIface S' q)
 | .iface t a,y,u,h,hv=>by
  cases y with
  | iface k b =>
   obtain ⟨h1,h2⟩:=QJ (show sel (Nat.beq t k) (V0 X a b) false=true from h)
   have h1:=Nat.eq_of_beq_eq_true h1
   subst h1
   cases hv with
   | iface _ hb=>exact @VR.iface S' q _ _ _ (P8 a b _ h2 hb)
  | _=>cases h
 | .agg a,y,u,h,hv=>by
  cases y with
  | agg b =>
   cases hv with
   | agg hb=>exact @VR.agg S' q _ _ (VE a b _ h hb)
  | _=>cases h
 | .tuple a,y,u,h,hv=>by
  cases y with
  | tuple b =>
   cases hv with
   | tuple hb=>exact @VR.tuple S' q _ _ (VE a b _ h hb)
  | _=>cases h
 | .raw _,y,u,h,hv=>by cases y <;> cases h
 | .gho i a,y,u,h,hv=>by
  cases y <;> first
   | (cases h; done)
   | (
     rename_i j b
     obtain ⟨h1,h2⟩:=QJ h
     have h1:=Yt h1
     cases hv with
     | gho hx hg hu hm=>exact @VR.gho S' q _ _ _ _ _ (hX.old _ _ _ h1 hx) hg hu (hX.sig _ _ h2 _ _ _ hm))
theorem VE:∀ (x y:List Zc) (u:List Value),Jw X x y=true→@VRs S r x u→@VRs S' q y u
 | [],[],_,_,hv=>by cases hv; exact @VRs.nil S' q
 | [],_::_,_,h,_=>by simp [Jw] at h
 | _::_,[],_,h,_=>by simp [Jw] at h
 | x::xs,y::ys,u,h,hv=>by
  obtain ⟨h1,h2⟩:=QJ (show sel (V0 X x y) (Jw X xs ys) false=true from (by simpa only [Jw] using h))
  cases hv with
  | cons ha hb=>exact @VRs.cons S' q _ _ _ _ (P8 x y _ h1 ha) (VE xs ys _ h2 hb)
end
theorem By:∀ (x y:List Entry) (u:List MapEntry),Yr X x y=true→@ERs S r x u→@ERs S' q y u
 | [],[],_,_,hv=>by cases hv; exact @ERs.nil S' q
 | [],_::_,_,h,_=>by simp [Yr] at h
 | _::_,[],_,h,_=>by simp [Yr] at h
 | (a,b,n)::l,(a',b',m)::k,u,h,hv=>by
  obtain ⟨h1,h⟩:=QJ (show sel (V0 X a a') (sel (V0 X b b') (sel (Nat.beq n m) (Yr X l k) false) false) false=true from (by simpa only [Yr] using h))
  obtain ⟨h2,h⟩:=QJ h
  obtain ⟨h3,h4⟩:=QJ h
  have h3:=Nat.eq_of_beq_eq_true h3
  subst h3
  cases hv with
  | cons hh ht=>exact @ERs.cons S' q _ _ _ _ ⟨P8 hX a a' _ h1 hh.1,P8 hX b b' _ h2 hh.2.1,hh.2.2⟩ (By l k _ h4 ht)
theorem ZfV:∀ (b c:Zd) (x:RB) (o:Obj),Bx X b c=true→@BR S r b x o→@BR S' q c x o
 | .cells cs e o,.cells ds f p,x,ob,h,hb=>by
  obtain ⟨h1,hq⟩:=QJ h
  have h1:=Nat.eq_of_beq_eq_true h1
  subst h1
  obtain ⟨h0,vs,rest,t,fr,h4,h5,h6,h7,h8⟩:=hb
  have h2:Jw X cs ds=true∧(p=false→o=false):=by
   cases p
   ·cases o
    ·exact ⟨hq,fun _=>rfl⟩
    ·cases hq
   ·exact ⟨hq,fun h=>by cases h⟩
  exact ⟨h0,vs,rest,t,fr,h4,VE hX cs ds _ h2.1 h5,h6,fun hp=>h7 (h2.2 hp),h8⟩
 | .map es c,.map fs k,x,ob,h,hb=>by
  obtain ⟨h1,h2⟩:=QJ h
  have h1:=Nat.eq_of_beq_eq_true h1
  subst h1
  obtain ⟨l,h3,h4⟩:=hb
  exact ⟨l,h3,By hX es fs _ h2 h4⟩
 | .cells _ _ _,.map _ _,_,_,h,_=>by cases h
 | .cells _ _ _,.mapIter _ _ _ _,_,_,h,_=>by cases h
 | .map _ _,.cells _ _ _,_,_,h,_=>by cases h
 | .map _ _,.mapIter _ _ _ _,_,_,h,_=>by cases h
 | .mapIter _ _ _ _,.cells _ _ _,_,_,h,_=>by cases h
 | .mapIter _ _ _ _,.map _ _,_,_,h,_=>by cases h
 | .mapIter _ _ _ _,.mapIter _ _ _ _,_,_,h,_=>by cases h
end
theorem FE {X:Vw} {f:Tr Nat} {t:Tr Zd}:∀ {l:List (Nat×Zd)},FD X f t l=true→∀ j b,(j,b)∈l→∃ i c,X.g.get j=some i∧f.get i=some j∧t.get i=some c∧Bx X c b=true
 | [],_,_,_,h=>by cases h
 | (k,c)::l,h,j,b,hm=>by
  obtain ⟨h1,h2⟩:=QJ (show sel (ZbW X f t k c) (FD X f t l) false=true from h)
  rcases List.mem_cons.1 hm with hm | hm
  ·cases hm
   unfold ZbW at h1
   split at h1
   ·rename_i i hi
    obtain ⟨h3,h4⟩:=QJ h1
    unfold ZbV at h4
    split at h4
    ·rename_i c' hc; exact ⟨i,c',hi,Yt h3,hc,h4⟩
    ·cases h4
   ·cases h1
  ·exact FE h2 j b hm
theorem TX {n:Nat}:∀ {l:List (Nat×Nat)},Ys n l=true→∀ j i,(j,i)∈l→j<n
 | [],_,_,_,h=>by cases h
 | (k,c)::l,h,j,b,hm=>by
  obtain ⟨h1,h2⟩:=QJ (show sel (Nat.blt k n) (Ys n l) false=true from h)
  rcases List.mem_cons.1 hm with hm | hm
  ·cases hm
   exact Nat.le_of_ble_eq_true h1
  ·exact TX h2 j b hm
def ZfW (w:World):RB:=⟨0,0,0,some { val := .slice none 0 0,one:=rfl,nob:=(fun b h=>by cases h),Gi:=fun _=>False,made:=w }⟩
noncomputable def X8 (X:Vw) (r:Rho) (w:World):Rho:=fun j=>match X.g.get j with
 | some i=>r i
 | none=>match X.e.get j with
  | some 0=>some (ZfW w)
  | _=>none
theorem ZbX {S S':Sig} {X:Vw} {f:Tr Nat} {L:List (Nat×Zd)} {gl el:List (Nat×Nat)} {n:Nat} {r:Rho} {s:St} {w:World}
  (h:@Rel S r s w) (hg:X.g=Z0 gl .lf) (he:X.e=Z0 el .lf) (hL:FD X f s.heap L=true) (hb1:Ys n gl=true) (hb2:Ys n el=true)
  (hz:X.z=true→S'.x=0) (hd:X.z=false→S'.x=S.x+X.d) (hk:S'.y=X.k) (htg:∀ a b,X.tg a b=true→∀ F w v,S.Q6 a F w v→S'.Q6 b F w v)
  (hte:∀ b,X.te b=true→S'.Q6 b (fun _=>False) w (.slice none 0 0)) :
  @ZfU S S' X r (X8 X r w)∧@Rel S' (X8 X r w) ⟨Z0 L .lf,n⟩ w∧(∀ k,Hit (X8 X r w) ⟨Z0 L .lf,n⟩ k→Hit r s k)∧∀ k,JZ (X8 X r w) k→JZ r k:=by
 obtain ⟨⟨hblk,hfar⟩,hap,hkn,hsf⟩:=h
 have hold:∀ j i x,X.g.get j=some i→r i=some x→X8 X r w j=some x:=fun j i x h1 h2=>by unfold X8; rw [h1]; exact h2
 have hold2:∀ j i,X.g.get j=some i→X8 X r w j=r i:=fun j i h1=>by unfold X8; rw [h1]
 have hV:@ZfU S S' X r (X8 X r w):=⟨hz,hd,hk,hold,fun j h1 h2=>⟨ZfW w,_,by unfold X8; rw [h1,h2]; rfl,rfl,rfl,hte⟩,htg⟩
 have hbl:∀ j b,(⟨Z0 L .lf,n⟩:St).get j=some b→∃ i c,X.g.get j=some i∧f.get i=some j∧s.get i=some c∧Bx X c b=true:=fun j b h1=>FE hL j b (Q9 h1)
 have hlt:∀ j i,X.g.get j=some i→j<n:=fun j i h1=>TX hb1 j i (Q9 (hg▸h1))
 have hlt2:∀ j i,X.e.get j=some i→j<n:=fun j i h1=>TX hb2 j i (Q9 (he▸h1))
 have hhit:∀ k,Hit (X8 X r w) ⟨Z0 L .lf,n⟩ k→Hit r s k:=fun k ⟨j,b,x,h1,h2,h3⟩=>by
  obtain ⟨i,c,e1,e2,e3,e4⟩:=hbl j b h1
  rw [hold2 j i e1] at h2
  exact ⟨i,c,x,e3,h2,h3⟩
 have hgo:∀ j x g,X8 X r w j=some x→x.gho=some g→(∃ i,r i=some x)∨x=ZfW w:=fun j x g h1 h2=>by
  unfold X8 at h1
  split at h1
  ·exact .inl ⟨_,h1⟩
  ·split at h1
   ·injection h1 with h1; exact .inr h1.symm
   ·cases h1
 refine ⟨hV,@Rel.mk S' _ _ _ (@RelB.mk S' _ _ _ (fun j b x h1 h2 => ?_) fun j hj => ?_) (fun i j b c x y h1 h2 hx hy hxy => ?_) (fun j x h1 => ?_) (fun j x g h1 h2 => ?_),hhit,fun k ⟨j,x,g,h1,h2,h3,h4⟩ => ?_⟩
 ·obtain ⟨i,c,e1,e2,e3,e4⟩:=hbl j b h1
  rw [hold2 j i e1] at h2
  obtain ⟨o,h5,h6⟩:=hblk i c x e3 h2
  exact ⟨o,h5,ZfV hV c b x o e4 h6⟩
 ·cases hb:(⟨Z0 L .lf,n⟩:St).get j with
  | none=>rfl
  | some b =>
   obtain ⟨i,c,e1,_⟩:=hbl j b hb
   have:=hlt j i e1
   have hj:n≤j:=hj
   omega
 ·obtain ⟨i',c1,e1,e2,e3,e4⟩:=hbl i b h1
  obtain ⟨j',c2,f1,f2,f3,f4⟩:=hbl j c h2
  rw [hold2 i i' e1] at hx
  rw [hold2 j j' f1] at hy
  have:=hap i' j' c1 c2 x y e3 f3 hx hy hxy
  subst this
  rw [e2] at f2
  exact Option.some.inj f2
 ·show j<n
  cases hj:X.g.get j with
  | some i=>exact hlt j i hj
  | none =>
   cases hk:X.e.get j with
   | some i=>exact hlt2 j i hk
   | none =>
    unfold X8 at h1
    rw [hj,hk] at h1
    cases h1
 ·rcases hgo j x g h1 h2 with ⟨i,hi⟩ | rfl
  ·exact (hsf i x g hi h2).step (Nat.le_refl _) (fun _ _ _=>rfl) fun k hk => .inl (hhit k hk)
  ·injection h2 with h2
   subst h2
   exact ⟨Nat.le_refl _,fun k hk=>hk.elim⟩
 ·rcases hgo j x g h1 h2 with ⟨i,hi⟩ | rfl
  ·exact ⟨i,x,g,hi,h2,h3,h4⟩
  ·injection h2 with h2
   subst h2
   exact h3.elim
end Go.Proofs.YtheflbaejhlboaaGreatDoor.Ev
namespace Go.Proofs.YtheflbaejhlboaaGreatDoor.Ev
open Go
section
variable [Sig] {P:Program} {r:Rho} {s:St} {w:World}
theorem Rel.Zi (hr:Rel r s w) {w':World} (hc:Chg (fun _=>False) w w'):Rel r s w':=(Ext.same hr hc).rel
theorem UT (hr:Rel r s w) {u:Value} {F:Nat→Prop} {t:Nat} (h1:u.oneCell'=true) (h2:∀ b,u ≠ .bool b) (hF:∀ k,F k→¬ Hit r s k) (hm:Sig.Q6 t F w u) :
  ∃ q,Rel q s.TB w∧r.le q∧VR q (.gho s.next t) u∧(∀ k,Hit q s.TB k→Hit r s k)∧∀ k,JZ q k→JZ r k∨F k:=by
 let g:Gh:=⟨u,h1,h2,F,w⟩
 let x:RB:=⟨0,0,0,some g⟩
 have hle:r.le (r.at s.next x):=Rho.JL r x (hr.Z7 (Nat.le_refl _))
 have old:∀ {i},i≠s.next→(r.at s.next x) i=r i:=fun {i} h=>Rho.Zy r x h
 have hlow:∀ {i b},s.get i=some b→(r.at s.next x) i=r i:=fun {i b} h=>old (by have:=hr.below h; omega)
 have hhit:∀ k,Hit (r.at s.next x) s.TB k→Hit r s k:=fun k ⟨i,b,y,hb,hy,hk⟩=>by
  have hb:s.get i=some b:=hb
  rw [hlow hb] at hy
  exact ⟨i,b,y,hb,hy,hk⟩
 refine ⟨r.at s.next x,⟨⟨fun i b y hb hy => ?_,fun i hi => ?_⟩,fun i j b c y z hb hc hy hz hyz => ?_,fun i y hy => ?_,fun i y g' hy hg => ?_⟩,hle,.gho (Rho.Zo _ _ _) rfl rfl hm,hhit,fun k ⟨i,y,g',hy,hg,hf,hl⟩ => ?_⟩
 ·have hb:s.get i=some b:=hb
  rw [hlow hb] at hy
  obtain ⟨o,h3,h4⟩:=hr.block i b y hb hy
  exact ⟨o,h3,h4.mono hle⟩
 ·have hi:s.next+1≤i:=hi
  exact hr.far i (by omega)
 ·have hb:s.get i=some b:=hb
  have hc:s.get j=some c:=hc
  rw [hlow hb] at hy
  rw [hlow hc] at hz
  exact hr.apart i j b c y z hb hc hy hz hyz
 ·show i<s.next+1
  by_cases hi:i=s.next
  ·omega
  ·rw [old hi] at hy
   have:=hr.known i y hy
   omega
 ·by_cases hi:i=s.next
  ·subst hi
   rw [Rho.Zo] at hy
   cases hy
   cases hg
   exact ⟨Nat.le_refl _,fun k hk hl=>⟨rfl,fun hh=>hF k hk (hhit k hh)⟩⟩
  ·rw [old hi] at hy
   exact (hr.safe i y g' hy hg).step (Nat.le_refl _) (fun _ _ _=>rfl) fun k hk => .inl (hhit k hk)
 ·by_cases hi:i=s.next
  ·subst hi
   rw [Rho.Zo] at hy
   cases hy
   cases hg
   exact .inr hf
  ·rw [old hi] at hy
   exact .inl ⟨i,y,g',hy,hg,hf,hl⟩
theorem UU (hr:Rel r s w) {k e:Nat} {cs:List Zc} {vs:List Value} {t:TypeId} (ho:w.heap[k]? = some (.cells ⟨vs⟩ t (0,0))) (hv:VRs r cs vs) (hn:¬ Hit r s k) (hf:¬ JZ r k) :
  ∃ q,Rel q (s.new (.cells cs e false)) w∧r.le q∧q s.next=some (RB.of k vs.length e)∧(∀ j,Hit q (s.new (.cells cs e false)) j→Hit r s j∨j=k)∧∀ j,JZ q j→JZ r j:=by
 let x:RB:=RB.of k vs.length e
 have hle:r.le (r.at s.next x):=Rho.JL r x (hr.Z7 (Nat.le_refl _))
 have old:∀ {i},i≠s.next→(r.at s.next x) i=r i:=fun {i} h=>Rho.Zy r x h
 have two:∀ {i b y},(s.new (.cells cs e false)).get i=some b→(r.at s.next x) i=some y→(i=s.next∧b = .cells cs e false∧y=x)∨(i≠s.next∧s.get i=some b∧r i=some y):=fun {i b y} hb hy=>by
  rw [St.ZB] at hb
  by_cases hi:s.next=i
  ·rw [if_pos hi] at hb
   subst hi
   rw [Rho.Zo] at hy
   cases hb
   cases hy
   exact .inl ⟨rfl,rfl,rfl⟩
  ·rw [if_neg hi] at hb
   rw [old (fun e=>hi e.symm)] at hy
   exact .inr ⟨fun e=>hi e.symm,hb,hy⟩
 have hhit:∀ j,Hit (r.at s.next x) (s.new (.cells cs e false)) j→Hit r s j∨j=k:=fun j ⟨i,b,y,hb,hy,hk⟩=>by
  rcases two hb hy with ⟨_,_,rfl⟩ | ⟨_,h1,h2⟩
  ·exact .inr hk.symm
  ·exact .inl ⟨i,b,y,h1,h2,hk⟩
 refine ⟨r.at s.next x,⟨⟨fun i b y hb hy => ?_,fun i hi => ?_⟩,fun i j b c y z hb hc hy hz hyz => ?_,fun i y hy => ?_,fun i y g' hy hg => ?_⟩,hle,Rho.Zo _ _ _,hhit,fun j ⟨i,y,g',hy,hg,hf,hl⟩ => ?_⟩
 ·rcases two hb hy with ⟨rfl,rfl,rfl⟩ | ⟨_,h1,h2⟩
  ·exact ⟨_,ho,rfl,vs,[],t,(0,0),by rw [List.append_nil],hv.mono hle,by rw [List.append_nil],fun _=>rfl,fun i _ h=>by have:=h.2; simp at this⟩
  ·obtain ⟨o,h3,h4⟩:=hr.block i b y h1 h2
   exact ⟨o,h3,h4.mono hle⟩
 ·have hi:s.next+1≤i:=hi
  rw [St.ZB,if_neg (by omega)]
  exact hr.far i (by omega)
 ·rcases two hb hy with ⟨rfl,rfl,rfl⟩ | ⟨_,h1,h2⟩ <;> rcases two hc hz with ⟨rfl,rfl,rfl⟩ | ⟨_,h3,h4⟩
  ·rfl
  ·exact absurd ⟨j,c,z,h3,h4,hyz.symm⟩ hn
  ·exact absurd ⟨i,b,y,h1,h2,hyz⟩ hn
  ·exact hr.apart i j b c y z h1 h3 h2 h4 hyz
 ·show i<s.next+1
  by_cases hi:i=s.next
  ·omega
  ·rw [old hi] at hy
   have:=hr.known i y hy
   omega
 ·by_cases hi:i=s.next
  ·subst hi
   rw [Rho.Zo] at hy
   cases hy
   cases hg
  ·rw [old hi] at hy
   obtain ⟨h1,h2⟩:=hr.safe i y g' hy hg
   refine ⟨h1,fun j hj hl=>⟨(h2 j hj hl).1,fun hh => ?_⟩⟩
   rcases hhit j hh with h3 | rfl
   ·exact (h2 j hj hl).2 h3
   ·exact hf ⟨i,y,g',hy,hg,hj,hl⟩
 ·by_cases hi:i=s.next
  ·subst hi
   rw [Rho.Zo] at hy
   cases hy
   cases hg
  ·rw [old hi] at hy
   exact ⟨i,y,g',hy,hg,hf,hl⟩
end
end Go.Proofs.YtheflbaejhlboaaGreatDoor.Ev
namespace Go.Proofs.YtheflbaejhlboaaGreatDoor
open Go
namespace Ev
noncomputable section
def NJ:List (Nat×Nat)→Nat→Option Nat
 | [],_=>none
 | (x,y)::l,a=>sel (Nat.beq x a) (some y) (NJ l a)
def NK:List (Nat×Nat×Nat)→Nat→Nat→Option Nat
 | [],_,_=>none
 | (x,y,z)::l,a,b=>sel (Nat.beq x a) (sel (Nat.beq y b) (some z) (NK l a b)) (NK l a b)
def RH:List (Nat×Nat×Nat×Nat)→Nat→Nat→Nat→Option Nat
 | [],_,_,_=>none
 | (x,y,z,u)::l,a,b,c=>sel (Nat.beq x a) (sel (Nat.beq y b) (sel (Nat.beq z c) (some u) (RH l a b c)) (RH l a b c)) (RH l a b c)
def RI:List (Nat×Nat×Bool×Nat)→Nat→Nat→Bool→Option Nat
 | [],_,_,_=>none
 | (x,y,z,u)::l,a,b,c=>sel (Nat.beq x a) (sel (Nat.beq y b) (sel (S9 z c) (some u) (RI l a b c)) (RI l a b c)) (RI l a b c)
def NL:List (Nat×List Int)→Nat→Option (List Int)
 | [],_=>none
 | (x,y)::l,a=>sel (Nat.beq x a) (some y) (NL l a)
def FF (v:Bool) (l:List Nat) (a:Nat):Option Bool:=sel (Wv a l) (some v) none
def NM:List (Nat×Nat×Bool)→Nat→Nat→Option Bool
 | [],_,_=>none
 | (x,y,z)::l,a,b=>sel (Nat.beq x a) (sel (Nat.beq y b) (some z) (NM l a b)) (NM l a b)
structure Tb where
 add:List (Nat×Nat×Nat):=[]
 put:List (Nat×Nat×Bool×Nat):=[]
 flip:List (Nat×Nat):=[]
 copy:List (Nat×Nat):=[]
 UW:List Nat:=[]
 plain:List Nat:=[]
 FG:List Nat:=[]
 FH:List Nat:=[]
 rows:List (Nat×List Int):=[]
 kinds:List (Nat×List Int):=[]
 UX:List (Nat×Nat×Bool):=[]
 dis:List (Nat×Nat×Nat×Nat):=[]
 proj:List (Nat×Nat):=[]
def glL (t:Tb):List (Nat×Orc):=[(112,ZeF (NK t.add) (RI t.put)),(113,ZbE (NJ t.flip)),(40,ZbE (NJ t.copy)),(172,Tm (FF true t.UW)),(161,Tm (FF true t.plain)),
 (183,Tm (FF false t.FG)),(167,Tm (FF false t.FH)),(164,ZeD (NL t.rows)),(162,ZhS 163 175 (NL t.kinds)),
 (166,oOf (NM t.UX)),(182,ZhZ (RH t.dis)),(179,ZeI (NL t.kinds) (NJ t.proj) [97])]
end
section
variable [Sig]
theorem VF:∀ {l:List (Nat×Nat)} {a b:Nat},NJ l a=some b→(a,b)∈l
 | [],_,_,h=>by cases h
 | (x,y)::l,a,b,h=>by
  rcases Ze (show sel (Nat.beq x a) (some y) (NJ l a)=some b from h) with ⟨h1,h2⟩ | ⟨_,h2⟩
  ·cases h2; rw [Nat.eq_of_beq_eq_true h1]; exact List.mem_cons_self
  ·exact List.mem_cons_of_mem _ (VF h2)
theorem TY:∀ {l:List (Nat×Nat×Nat)} {a b c:Nat},NK l a b=some c→(a,b,c)∈l
 | [],_,_,_,h=>by cases h
 | (x,y,z)::l,a,b,c,h=>by
  rcases Ze (show sel (Nat.beq x a) (sel (Nat.beq y b) (some z) (NK l a b)) (NK l a b)=some c from h) with ⟨h1,h2⟩ | ⟨_,h2⟩
  ·rcases Ze h2 with ⟨h3,h4⟩ | ⟨_,h4⟩
   ·cases h4; rw [Nat.eq_of_beq_eq_true h1,Nat.eq_of_beq_eq_true h3]; exact List.mem_cons_self
   ·exact List.mem_cons_of_mem _ (TY h4)
  ·exact List.mem_cons_of_mem _ (TY h2)
theorem VG:∀ {l:List (Nat×Nat×Nat×Nat)} {a b c d:Nat},RH l a b c=some d→(a,b,c,d)∈l
 | [],_,_,_,_,h=>by cases h
 | (x,y,z,u)::l,a,b,c,d,h=>by
  rcases Ze (show sel (Nat.beq x a) (sel (Nat.beq y b) (sel (Nat.beq z c) (some u) (RH l a b c)) (RH l a b c)) (RH l a b c)=some d from h) with ⟨h1,h2⟩ | ⟨_,h2⟩
  ·rcases Ze h2 with ⟨h3,h4⟩ | ⟨_,h4⟩
   ·rcases Ze h4 with ⟨h5,h6⟩ | ⟨_,h6⟩
    ·cases h6; rw [Nat.eq_of_beq_eq_true h1,Nat.eq_of_beq_eq_true h3,Nat.eq_of_beq_eq_true h5]; exact List.mem_cons_self
    ·exact List.mem_cons_of_mem _ (VG h6)
   ·exact List.mem_cons_of_mem _ (VG h4)
  ·exact List.mem_cons_of_mem _ (VG h2)
theorem VH:∀ {l:List (Nat×Nat×Bool×Nat)} {a b:Nat} {c:Bool} {d:Nat},RI l a b c=some d→(a,b,c,d)∈l
 | [],_,_,_,_,h=>by cases h
 | (x,y,z,u)::l,a,b,c,d,h=>by
  rcases Ze (show sel (Nat.beq x a) (sel (Nat.beq y b) (sel (S9 z c) (some u) (RI l a b c)) (RI l a b c)) (RI l a b c)=some d from h) with ⟨h1,h2⟩ | ⟨_,h2⟩
  ·rcases Ze h2 with ⟨h3,h4⟩ | ⟨_,h4⟩
   ·rcases Ze h4 with ⟨h5,h6⟩ | ⟨_,h6⟩
    ·cases h6
     rw [Y3] at h5
     rw [Nat.eq_of_beq_eq_true h1,Nat.eq_of_beq_eq_true h3,eq_of_beq h5]; exact List.mem_cons_self
    ·exact List.mem_cons_of_mem _ (VH h6)
   ·exact List.mem_cons_of_mem _ (VH h4)
  ·exact List.mem_cons_of_mem _ (VH h2)
theorem VI:∀ {l:List (Nat×List Int)} {a:Nat} {b:List Int},NL l a=some b→(a,b)∈l
 | [],_,_,h=>by cases h
 | (x,y)::l,a,b,h=>by
  rcases Ze (show sel (Nat.beq x a) (some y) (NL l a)=some b from h) with ⟨h1,h2⟩ | ⟨_,h2⟩
  ·cases h2; rw [Nat.eq_of_beq_eq_true h1]; exact List.mem_cons_self
  ·exact List.mem_cons_of_mem _ (VI h2)
theorem TZ:∀ {l:List (Nat×Nat×Bool)} {a b:Nat} {c:Bool},NM l a b=some c→(a,b,c)∈l
 | [],_,_,_,h=>by cases h
 | (x,y,z)::l,a,b,c,h=>by
  rcases Ze (show sel (Nat.beq x a) (sel (Nat.beq y b) (some z) (NM l a b)) (NM l a b)=some c from h) with ⟨h1,h2⟩ | ⟨_,h2⟩
  ·rcases Ze h2 with ⟨h3,h4⟩ | ⟨_,h4⟩
   ·cases h4; rw [Nat.eq_of_beq_eq_true h1,Nat.eq_of_beq_eq_true h3]; exact List.mem_cons_self
   ·exact List.mem_cons_of_mem _ (TZ h4)
  ·exact List.mem_cons_of_mem _ (TZ h2)
theorem JD {v:Bool} {l:List Nat} {a:Nat} {c:Bool} (h:FF v l a=some c):a∈l∧c=v:=by
 rcases Ze (show sel (Wv a l) (some v) none=some c from h) with ⟨h1,h2⟩ | ⟨_,h2⟩
 ·cases h2; exact ⟨Pw.1 h1,rfl⟩
 ·cases h2
end
structure ZbY (M:Nat→Mn) (t:Tb):Prop where
 nz:M 0 = .nz
 add:∀ a b c,(a,b,c)∈t.add→∃ S S' S'',M a = .set S∧M b = .set S'∧M c = .set S''∧Sm S''∧∀ r,nf S'' r=nf S r+nf S' r
 put:∀ a r b c,(a,r,b,c)∈t.put→∃ S l S'',M a = .set S∧M r = .row l∧M c = .set S''∧Sm S''∧∀ r,nf S'' r=nf S r+if l=r then (if b then 1 else -1) else 0
 flip:∀ a c,(a,c)∈t.flip→∃ S S',M a = .set S∧M c = .set S'∧Sm S∧Sm S'∧∀ r,nf S' r = - nf S r
 copy:∀ a c,(a,c)∈t.copy→∃ S,M a = .set S∧M c = .set S∧Sm S
 UW:∀ a∈t.UW,∃ S,M a = .set S
 plain:∀ a∈t.plain,∃ S,M a = .set S∧∀ p∈S,0≤p.2
 FG:∀ a∈t.FG,∃ S,M a = .set S∧ZJ (Zz S)<513
 FH:∀ a∈t.FH,∃ S,M a = .set S∧ZJ (Zz S)<64
 rows:∀ a ks,(a,ks)∈t.rows→∃ l,M a = .row l∧l.map (·.k)=ks
 kinds:∀ a ks,(a,ks)∈t.kinds→∃ S,M a = .set S∧∀ p∈S,p.1.map (·.k)=ks
 UX:∀ a r b,(a,r,b)∈t.UX→∃ S l,M a = .set S∧M r = .row l∧(b=true↔Ql S l≠0) ∧ -1000000≤Ql S l∧Ql S l≤1000000
 dis:∀ d n h c,(d,n,h,c)∈t.dis→∃ D N H S,M d = .set D∧M n = .set N∧M h = .set H∧M c = .set S∧Sm S∧∀ r,nf S r=nf (Wi D N H) r
 proj:∀ a c,(a,c)∈t.proj→∃ S S',M a = .set S∧M c = .set S'∧Sm S'∧∀ r,nf S' r=nf (prS S) r
theorem Zh1 [Sig] {M:Nat→Mn} (hM:Sig.Q6=Qx M) {t:Tb} (ok:ZbY M t):∀ x∈glL t,Z4 Tryz.prog x.1 x.2:=by
 intro x hx
 simp only [glL,List.mem_cons,List.not_mem_nil,or_false] at hx
 rcases hx with rfl | rfl | rfl | rfl | rfl | rfl | rfl | rfl | rfl | rfl | rfl | rfl
 ·exact Ca hM (fun a b c h=>ok.add a b c (TY h)) (fun a r b c h=>ok.put a r b c (VH h)) Tryz.func112 (by kernel_rfl) rfl
 ·exact D6 hM (fun a c h=>ok.flip a c (VF h)) Tryz.func113 (by kernel_rfl) rfl
 ·exact D7 hM (fun a c h=>ok.copy a c (VF h)) Tryz.func40 (by kernel_rfl) rfl
 ·exact Fu hM (fun a c h=>⟨(JD h).2,ok.UW a (JD h).1⟩) Tryz.func172 (by kernel_rfl) rfl
 ·exact Fv hM (fun a c h=>⟨(JD h).2,ok.plain a (JD h).1⟩) Tryz.func161 (by kernel_rfl) rfl
 ·exact Fw hM (fun a c h=>⟨(JD h).2,ok.FG a (JD h).1⟩) Tryz.func183 (by kernel_rfl) rfl
 ·exact Fx hM (fun a c h=>⟨(JD h).2,ok.FH a (JD h).1⟩) Tryz.func167 (by kernel_rfl) rfl
 ·exact D8 hM (fun a c h=>ok.rows a c (VI h)) Tryz.func164 (by kernel_rfl) rfl
 ·exact UO hM (fun a c h=>ok.kinds a c (VI h)) Tryz.func162 (by kernel_rfl) rfl (fun _ _=>Tryz.call163 _ _) (fun _ _=>Tryz.call175 _ _)
 ·exact ZbO hM ok.nz (fun a r b h=>ok.UX a r b (TZ h)) Tryz.func166 (by kernel_rfl) rfl
 ·exact UQ hM (fun d n h c hh=>ok.dis d n h c (VG hh)) Tryz.func182 (by kernel_rfl) rfl
 ·exact Cc hM FI (fun a c h=>ok.kinds a c (VI h)) (fun a c h=>ok.proj a c (VF h)) Tryz.func179 (by kernel_rfl) rfl
end Ev
end Go.Proofs.YtheflbaejhlboaaGreatDoor
namespace Go.Proofs.YtheflbaejhlboaaGreatDoor.Ev
open Go
noncomputable section
def UY (n:Nat):Wx:=fun i=>some (i+n)
def upL (n:Nat):List (Nat×Zd)→Option (List (Nat×Zd))
 | []=>some []
 | (i,b)::l=>match TO (UY n) b,upL n l with
  | some b,some l=>some ((i+n,b)::l)
  | _,_=>none
def ZbZ (s:St) (m:Nat) (v:Option Zc) (post:Option (List (Nat×Zd))):R:=match v,post with
 | some v,some post => .ok v ⟨Z0 post s.heap,s.next+m⟩
 | _,_ => .bad
def ZeJ:Wx:=fun _=>none
def Hj (l:List Zc) (o:Option (List Zc)):Bool:=match o with
 | some k=>Jt l k
 | none=>false
def upR (args:List Zc) (s:St):List Ent→R
 | [] => .bad
 | e::l=>sel (Hj e.args (VY ZeJ args)) (ZbZ s e.m (Tc (UY s.next) e.v) (upL s.next e.post)) (upR args s l)
def upO (T:List Ent):Orc:=⟨fun args s=>upR args s T⟩
def NO (e:Ent):Bool:=match e.pre with
 | []=>sel (Nat.beq e.n 0) (Us e.S' e.post) false
 | _=>false
end
variable [Sig] {P:Program}
theorem Bz {n:Nat}:∀ {l l':List (Nat×Zd)},upL n l=some l'→∀ {j:Nat} {b':Zd},(j,b')∈l'→∃ i b,j=i+n∧(i,b)∈l∧TO (UY n) b=some b'
 | [],l',h,j,b',hm=>by cases h; cases hm
 | (i,b)::l,l',h,j,b',hm=>by
  simp only [upL] at h
  split at h
  ·rename_i c k h1 h2
   cases h
   rcases List.mem_cons.1 hm with hm | hm
   ·cases hm
    exact ⟨i,b,rfl,List.mem_cons_self,h1⟩
   ·obtain ⟨i',b0,h3,h4,h5⟩:=Bz h2 hm
    exact ⟨i',b0,h3,List.mem_cons_of_mem _ h4,h5⟩
  ·cases h
theorem Zb0 {e:Ent} (h:NO e=true):e.pre=[]∧e.n=0∧Us e.S' e.post=true:=by
 unfold NO at h
 split at h
 ·rename_i hp
  obtain ⟨h1,h2⟩:=ZE h
  exact ⟨hp,ZD h1,h2⟩
 ·cases h
def Rho.up (r q:Rho) (n:Nat):Rho:=fun i=>if i<n then r i else q (i-n)
theorem Zb1 {f:FuncId}:∀ {T:List Ent},(∀ e∈T,e.f=f∧NO e=true∧G0 P e)→Z4 P f (upO T)
 | [],_=>fun args s v s' h=>by cases h
 | e::T,hT=>fun args s v s' h r w us hr hv=>by
  have h:sel (Hj e.args (VY ZeJ args)) (ZbZ s e.m (Tc (UY s.next) e.v) (upL s.next e.post)) (upR args s T) = .ok v s':=h
  rcases Ze h with ⟨h1,h⟩ | ⟨_,h⟩
  ·obtain ⟨rfl,hfree,he⟩:=hT e List.mem_cons_self
   obtain ⟨hp,hn,hall⟩:=Zb0 hfree
   have hargs:VRs (fun _=>none) e.args us:=by
    unfold Hj at h1
    split at h1
    ·rename_i k hk
     rw [JA _ _ h1]
     exact hv.ren (fun i j x hg _=>by cases hg) hk
    ·cases h1
   have hS:∀ i,e.S.get i=none:=fun i=>by
    unfold Ent.S
    rw [hp]
    exact Ye i
   have hSn:e.S.next=0:=hn
   have h0:Rel (fun _=>none) e.S w:=⟨⟨fun i b x hb hx=>(by cases hx),fun i _=>hS i⟩,fun i j b c x y hb hc hx=>(by cases hx),fun i x hx=>(by cases hx),fun i x g hx=>(by cases hx)⟩
   unfold ZbZ at h
   split at h
   ·rename_i v1 post hv1 hpost
    cases h
    refine (he _ w us h0 hargs).mono fun u w' ⟨q,hx,hvr⟩=>⟨r.up q s.next,?_,?_⟩
    ·have hS':∀ i b,(i,b)∈e.post→e.S'.get i=some b:=fun i b hm=>Y8 hall i b hm
     have hfr:∀ k,k<w.heap.size→w'.heap[k]? = w.heap[k]? := fun k hk=>hx.frame k hk fun ⟨i,b,x,_,hx,_⟩=>(by cases hx)
     have hren:Nu q (UY s.next) (r.up q s.next):=fun i j x hg hxi=>by
      cases hg
      show (if i+s.next<s.next then r (i+s.next) else q (i+s.next-s.next))=_
      rw [if_neg (by omega),Nat.add_sub_cancel]
      exact hxi
     have low:∀ {i},i<s.next→(r.up q s.next) i=r i:=fun {i} hi=>if_pos hi
     have high:∀ {i},(r.up q s.next) (i+s.next)=q i:=fun {i}=>by
      show (if i+s.next<s.next then r (i+s.next) else q (i+s.next-s.next))=_
      rw [if_neg (by omega),Nat.add_sub_cancel]
     have hle:r.le (r.up q s.next):=fun i x hi=>by rw [low (hr.known i x hi)]; exact hi
     have two:∀ i b,(⟨Z0 post s.heap,s.next+e.m⟩:St).get i=some b→(i<s.next∧s.get i=some b)∨∃ j b0,i=j+s.next∧e.S'.get j=some b0∧j<e.m∧TO (UY s.next) b0=some b:=fun i b hb=>by
      have hb:(Z0 post s.heap).get i=some b:=hb
      rcases PH post s.heap i b hb with h2 | h2
      ·obtain ⟨j,b0,rfl,h3,h4⟩:=Bz hpost h2
       have h5:=hS' j b0 h3
       exact .inr ⟨j,b0,rfl,h5,hx.rel.below h5,h4⟩
      ·exact .inl ⟨hr.below h2,h2⟩
     have blkLo:∀ {i b x},s.get i=some b→r i=some x→x.blk<w.heap.size:=fun {i b x} hb hx=>by
      obtain ⟨o,h2,_⟩:=hr.block i b x hb hx
      exact (Array.getElem?_eq_some_iff.1 h2).1
     have blkHi:∀ {j b x},e.S'.get j=some b→q j=some x→w.heap.size≤x.blk:=fun {j b x} hb hxj=>by
      rcases hx.Xs x.blk ⟨j,b,x,hb,hxj,rfl⟩ with ⟨i,b',x',h2,_⟩ | h2
      ·rw [hS i] at h2; cases h2
      ·exact h2
     refine ⟨⟨⟨fun i b x hb hxi => ?_,fun i hi => ?_⟩,fun i j b c x y hb hc hxi hyj hxy => ?_,fun i x hxi => ?_,fun i x g hxi hg => ?_⟩,hle,by show s.next≤s.next+e.m; omega,hx.os,hx.tape,hx.output,hx.size,fun k hk _=>hfr k hk,fun i hi _ b hb => ?_,fun i hi hg => ?_,fun k ⟨i,b,x,hb,hxi,hk⟩ => ?_,fun i hri hq => ?_,fun k ⟨i,x,g,hxi,hg,hf,hl⟩ => ?_⟩
     ·rcases two i b hb with ⟨h2,h3⟩ | ⟨j,b0,rfl,h3,_,h4⟩
      ·rw [low h2] at hxi
       obtain ⟨o,h5,h6⟩:=hr.block i b x h3 hxi
       exact ⟨o,by rw [hfr _ (blkLo h3 hxi)]; exact h5,h6.mono hle⟩
      ·rw [high] at hxi
       obtain ⟨o,h5,h6⟩:=hx.rel.block j b0 x h3 hxi
       exact ⟨o,h5,h6.ren hren h4⟩
     ·have hi:s.next+e.m≤i:=hi
      cases hb:(⟨Z0 post s.heap,s.next+e.m⟩:St).get i with
      | none=>rfl
      | some b =>
       rcases two i b hb with ⟨h2,_⟩ | ⟨j,b0,rfl,_,h2,_⟩ <;> omega
     ·rcases two i b hb with ⟨h2,h3⟩ | ⟨i0,b0,rfl,h3,_,h4⟩ <;> rcases two j c hc with ⟨h5,h6⟩ | ⟨j0,c0,rfl,h6,_,h7⟩
      ·rw [low h2] at hxi
       rw [low h5] at hyj
       exact hr.apart i j b c x y h3 h6 hxi hyj hxy
      ·rw [low h2] at hxi
       rw [high] at hyj
       have:=blkLo h3 hxi
       have:=blkHi h6 hyj
       omega
      ·rw [high] at hxi
       rw [low h5] at hyj
       have:=blkHi h3 hxi
       have:=blkLo h6 hyj
       omega
      ·rw [high] at hxi hyj
       rw [hx.rel.apart i0 j0 b0 c0 x y h3 h6 hxi hyj hxy]
     ·show i<s.next+e.m
      by_cases hi:i<s.next
      ·omega
      ·have hxi:(if i<s.next then r i else q (i-s.next))=some x:=hxi
       rw [if_neg hi] at hxi
       have:i-s.next<e.m:=hx.rel.known _ x hxi
       omega
     ·have Xs:∀ k,Hit (r.up q s.next) ⟨Z0 post s.heap,s.next+e.m⟩ k→Hit r s k∨Hit q e.S' k:=fun k ⟨i,b,x,hb,hxi,hk⟩=>by
       rcases two i b hb with ⟨h2,h3⟩ | ⟨j,b0,rfl,h3,_,_⟩
       ·rw [low h2] at hxi
        exact .inl ⟨i,b,x,h3,hxi,hk⟩
       ·rw [high] at hxi
        exact .inr ⟨j,b0,x,h3,hxi,hk⟩
      have hits2:∀ k,Hit q e.S' k→w.heap.size≤k:=fun k ⟨j,b,x,hb,hxj,hk⟩=>hk▸blkHi hb hxj
      by_cases hi:i<s.next
      ·rw [low hi] at hxi
       exact (hr.safe i x g hxi hg).step hx.size (fun k hk _=>hfr k hk) fun k hk=>by
        rcases Xs k hk with h1 | h1
        ·exact .inl h1
        ·exact .inr (hits2 k h1)
      ·have hxi:(if i<s.next then r i else q (i-s.next))=some x:=hxi
       rw [if_neg hi] at hxi
       obtain ⟨h1,h2⟩:=hx.rel.safe _ x g hxi hg
       refine ⟨h1,fun k hk hl=>⟨(h2 k hk hl).1,fun hh => ?_⟩⟩
       rcases Xs k hh with h3 | h3
       ·have h4:=hr.lt h3
        rcases hx.Kz k ⟨_,x,g,hxi,hg,hk,hl⟩ with ⟨i',x',g',h5,_⟩ | h5
        ·cases h5
        ·omega
       ·exact (h2 k hk hl).2 h3
     ·rcases two i b hb with ⟨_,h3⟩ | ⟨j,b0,rfl,_⟩
      ·exact h3
      ·omega
     ·cases hb:(⟨Z0 post s.heap,s.next+e.m⟩:St).get i with
      | none=>rfl
      | some b =>
       rcases two i b hb with ⟨_,h3⟩ | ⟨j,b0,rfl,_⟩
       ·rw [hg] at h3; cases h3
       ·omega
     ·rcases two i b hb with ⟨h2,h3⟩ | ⟨j,b0,rfl,h3,_,_⟩
      ·rw [low h2] at hxi
       exact .inl ⟨i,b,x,h3,hxi,hk⟩
      ·rw [high] at hxi
       exact .inr (hk▸blkHi h3 hxi)
     ·by_cases hi:i<s.next
      ·rw [low hi] at hq
       exact absurd hri hq
      ·omega
     ·by_cases hi:i<s.next
      ·rw [low hi] at hxi
       exact .inl ⟨i,x,g,hxi,hg,hf,hl⟩
      ·have hxi:(if i<s.next then r i else q (i-s.next))=some x:=hxi
       rw [if_neg hi] at hxi
       rcases hx.Kz k ⟨_,x,g,hxi,hg,hf,hl⟩ with ⟨i',x',g',h5,_⟩ | h5
       ·cases h5
       ·exact .inr h5
    ·exact hvr.ren (fun i j x hg hxi=>by
      cases hg
      show (if i+s.next<s.next then r (i+s.next) else q (i+s.next-s.next))=_
      rw [if_neg (by omega),Nat.add_sub_cancel]
      exact hxi) hv1
   ·cases h
  ·exact Zb1 (T:=T) (fun e he=>hT e (List.mem_cons_of_mem _ he)) args s v s' h r w us hr hv
end Go.Proofs.YtheflbaejhlboaaGreatDoor.Ev
namespace Go.Proofs.YtheflbaejhlboaaGreatDoor.Ev
open Go Go.Proofs
noncomputable section
def ME:FuncId→Bool:=fun f=>Wv f [49,301,409,181]
def Jl (r:R) (k:Zc→St→Bool):Bool:=match r with
 | .ok v s=>k v s
 | .bad=>false
theorem Z1 {r:R} {k:Zc→St→Bool} (h:Jl r k=true):∃ v s,r = .ok v s∧k v s=true:=by
 cases r with
 | bad=>cases h
 | ok v s=>exact ⟨v,s,rfl,h⟩
def Zh2:List Nat→List Nat→List (Nat×Nat)
 | j::J,i::L=>(j,i)::Zh2 J L
 | _,_=>[]
def ZeK:List (Nat×Nat)→List (Nat×Nat)
 | []=>[]
 | (j,i)::l=>(i,j)::ZeK l
def BB (n:Nat):List Nat→List Nat:=@Nat.rec (fun _=>List Nat→List Nat) (fun l=>l) (fun k ih l=>ih (k::l)) n
def tgL:List (Nat×Nat)→Nat→Nat→Bool
 | [],_,_=>false
 | (x,y)::l,a,b=>sel (Nat.beq x a) (sel (Nat.beq y b) true (tgL l a b)) (tgL l a b)
structure Vd where
 z:Bool
 d:Int
 k:Int
 J:List Nat
 el:List (Nat×Nat)
 tg:List (Nat×Nat)
 te:List Nat
 LS:List (Nat×Zd)
 n:Nat
def Vd.S (V:Vd):St:=⟨Z0 V.LS .lf,V.n⟩
def Zh3 (V:Vd) (L:List (Nat×Nat)):Vw:=⟨V.z,V.d,V.k,Z0 L .lf,Z0 V.el .lf,tgL V.tg,fun b=>Wv b V.te⟩
def Zb2 (V:Vd) (s:St) (v:Zc) (L:List (Nat×Nat)):Bool :=
 sel (FD (Zh3 V L) (Z0 (ZeK L) .lf) s.heap V.LS) (sel (Ys V.n L) (sel (Ys V.n V.el) (V0 (Zh3 V L) v (.ptr 0 0)) false) false) false
def Wl (V:Vd) (v:Zc) (s:St):Bool:=Zb2 V s v (Zh2 V.J (DR [] v s))
end
theorem Hk:∀ {l:List (Nat×Nat)} {a b:Nat},tgL l a b=true→(a,b)∈l
 | [],_,_,h=>by cases h
 | (x,y)::l,a,b,h=>by
  have h:sel (Nat.beq x a) (sel (Nat.beq y b) true (tgL l a b)) (tgL l a b)=true:=h
  cases h1:Nat.beq x a
  ·rw [h1] at h; exact List.mem_cons_of_mem _ (Hk h)
  ·rw [h1] at h
   have h:sel (Nat.beq y b) true (tgL l a b)=true:=h
   cases h2:Nat.beq y b
   ·rw [h2] at h; exact List.mem_cons_of_mem _ (Hk h)
   ·rw [Nat.eq_of_beq_eq_true h1,Nat.eq_of_beq_eq_true h2]; exact List.mem_cons_self
def Kn (S:Sig) (s:St) (T:Nat→Prop) (w:World) (L:List Zc) (U:List Value):Prop :=
 ∃ r,@Rel S r s w∧@VRs S r L U∧∀ k,Hit r s k∨JZ r k→T k
theorem KO [Sig] {r:Rho} {a:Zc} {l:List Zc} {u:Value} {m:List Value}:VRs r (a::l) (u::m)↔VR r a u∧VRs r l m :=
 ⟨fun h=>by cases h with | cons h t=>exact ⟨h,t⟩,fun h => .cons h.1 h.2⟩
section
variable {S:Sig} {s s':St} {T T':Nat→Prop} {w w':World} {L L':List Zc} {U U':List Value}
theorem Kn.start (w:World):Kn S ⟨.lf,0⟩ T w [] [] :=
 ⟨fun _=>none,@Rel.mk S _ _ _ (@RelB.mk S _ _ _ (fun i b x hb hx=>(by cases hx)) fun i _=>Ye i) (fun i j b c x y hb hc hx=>(by cases hx)) (fun i x hx=>(by cases hx)) (fun i x g hx=>(by cases hx)),@VRs.nil S _,fun k h=>by
  rcases h with ⟨i,b,x,_,hx,_⟩ | ⟨i,x,g,hx,_⟩ <;> cases hx⟩
theorem Kn.Zi (h:Kn S s T w L U) (hc:Chg (fun _=>False) w w'):Kn S s T w' L U:=by
 obtain ⟨r,h1,h2,h3⟩:=h
 exact ⟨r,@Rel.Zi S _ _ _ h1 _ hc,h2,h3⟩
theorem Kn.mono (h:Kn S s T w L U) (hT:∀ k,T k→k<w.heap.size→T' k):Kn S s T' w L U:=by
 obtain ⟨r,h1,h2,h3⟩:=h
 refine ⟨r,h1,h2,fun k hk=>hT k (h3 k hk) ?_⟩
 rcases hk with hk | ⟨i,x,g,h4,h5,h6,h7⟩
 ·exact @Rel.lt S _ _ _ h1 _ hk
 ·have:=(@Rel.safe S _ _ _ h1 i x g h4 h5).1
  omega
theorem Kn.pick (h:Kn S s T w L U) (hL:∀ r,@VRs S r L U→@VRs S r L' U'):Kn S s T w L' U':=by
 obtain ⟨r,h1,h2,h3⟩:=h
 exact ⟨r,h1,hL r h2,h3⟩
theorem Kn.call {B:VO} {f:FuncId} {args:List Zc} {us:List Value} {v:Zc} (h:Kn S s T w L U) (hB:@J9 S Tryz.prog B) (hreg:∀ f id,B.reg f id=none) (hcall:Rw Tryz.prog B ME 1000000 200 f args s = .ok v s')
  (he:∀ us W,(callFunc f us).run Tryz.prog W = .ok (.enter f us) W) (hargs:∀ r,@VRs S r L U→@VRs S r args us) :
  Calls Tryz.prog f ⟨us⟩ w fun e w'=>∃ u,e = .returned u∧Kn S s' (fun k=>T k∨w.heap.size≤k) w' (v::L) (u::U)∧Chg T w w':=by
 obtain ⟨r,h1,h2,h3⟩:=h
 have hc:=@W4 S _ _ hB hreg Qn ME 1000000 200 f args s v s' hcall r w us h1 (hargs r h2)
 rcases hc with ⟨u,w',h4,_⟩ | ⟨_,h4⟩
 ·rw [he] at h4
  cases h4
 ·refine h4.mono ?_
  rintro e w' ⟨u,rfl,q,hx,hu⟩
  refine ⟨u,rfl,⟨q,@Ext.rel S _ _ _ _ _ _ hx,@VRs.cons S _ _ _ _ _ hu (@VRs.mono S _ _ (@Ext.le S _ _ _ _ _ _ hx) _ _ h2),fun k hk => ?_⟩,?_⟩
  ·rcases hk with hk | hk
   ·rcases @Ext.Xs S _ _ _ _ _ _ hx k hk with h5 | h5
    ·exact .inl (h3 k (.inl h5))
    ·exact .inr h5
   ·rcases @Ext.Kz S _ _ _ _ _ _ hx k hk with h5 | h5
    ·exact .inl (h3 k (.inr h5))
    ·exact .inr h5
  ·exact ⟨@Ext.os S _ _ _ _ _ _ hx,@Ext.tape S _ _ _ _ _ _ hx,@Ext.output S _ _ _ _ _ _ hx,@Ext.size S _ _ _ _ _ _ hx,fun k hk hn=>@Ext.frame S _ _ _ _ _ _ hx k hk fun hh=>hn (h3 k (.inl hh))⟩
theorem Kn.gho {t:Nat} {u:Value} {F:Nat→Prop} (h:Kn S s T w L U) (h1:u.oneCell'=true) (h2:∀ b,u ≠ .bool b) (hF:∀ k,F k→¬ T k) (hm:S.Q6 t F w u):Kn S s.TB (fun k=>T k∨F k) w (.gho s.next t::L) (u::U):=by
 obtain ⟨r,k1,k2,k3⟩:=h
 obtain ⟨q,q1,q2,q3,q4,q5⟩:=@UT S _ _ _ k1 u F t h1 h2 (fun k hk hh=>hF k hk (k3 k (.inl hh))) hm
 refine ⟨q,q1,@VRs.cons S _ _ _ _ _ q3 (@VRs.mono S _ _ q2 _ _ k2),fun k hk => ?_⟩
 rcases hk with hk | hk
 ·exact .inl (k3 k (.inl (q4 k hk)))
 ·rcases q5 k hk with h5 | h5
  ·exact .inl (k3 k (.inr h5))
  ·exact .inr h5
theorem Kn.blk {k e:Nat} {cs:List Zc} {vs:List Value} {t:TypeId} (h:Kn S s T w L U) (hcs:∀ r,@VRs S r L U→@VRs S r cs vs) (ho:w.heap[k]? = some (.cells ⟨vs⟩ t (0,0))) (hn:¬ T k) (n:Nat) (he:n*e=vs.length) :
  Kn S (s.new (.cells cs e false)) (fun j=>T j∨j=k) w (.slice s.next 0 n none::L) (.slice (some ⟨k,0,none⟩) n n::U):=by
 obtain ⟨r,k1,k2,k3⟩:=h
 obtain ⟨q,q1,q2,q3,q4,q5⟩:=@UU S _ _ _ k1 k e cs vs t ho (hcs r k2) (fun hh=>hn (k3 k (.inl hh))) (fun hh=>hn (k3 k (.inr hh)))
 refine ⟨q,q1,@VRs.cons S _ _ _ _ _ (@VR.slice S q s.next 0 n none _ n q3 (Nat.le_refl _) (fun _ h=>by cases h) (fun _=>by show 0+n*e=vs.length; omega)) (@VRs.mono S _ _ q2 _ _ k2),fun j hj => ?_⟩
 rcases hj with hj | hj
 ·rcases q4 j hj with h5 | h5
  ·exact .inl (k3 j (.inl h5))
  ·exact .inr h5
 ·exact .inl (k3 j (.inr (q5 j hj)))
theorem Kn.view {S':Sig} {V:Vd} {v:Zc} {u:Value} (h:Kn S s T w L U) (hv:∀ r,@VRs S r L U→@VR S r v u) (chk:Wl V v s=true) (hz:V.z=true→S'.x=0) (hd:V.z=false→S'.x=S.x+V.d) (hk:S'.y=V.k)
  (htg:∀ a b,(a,b)∈V.tg→∀ F w v,S.Q6 a F w v→S'.Q6 b F w v) (hte:∀ b∈V.te,∀ w,S'.Q6 b (fun _=>False) w (.slice none 0 0)):Kn S' V.S T w [.ptr 0 0] [u]:=by
 obtain ⟨r,k1,k2,k3⟩:=h
 obtain ⟨c1,chk⟩:=ZE (show sel _ (sel _ (sel _ _ false) false) false=true from chk)
 obtain ⟨c2,chk⟩:=ZE chk
 obtain ⟨c3,c4⟩:=ZE chk
 obtain ⟨o1,o2,o3,o4⟩:=ZbX (S:=S) (S':=S') k1 rfl rfl c1 c2 c3 hz hd hk (fun a b h=>htg a b (Hk h)) (fun b h=>hte b (Pw.1 h) w)
 exact ⟨_,o2,@VRs.cons S' _ _ _ _ _ (P8 o1 _ _ _ c4 (hv r k2)) (@VRs.nil S' _),fun k hk=>k3 k (hk.imp (o3 k) (o4 k))⟩
theorem Kn.set {i t:Nat} {u:Value} {M:Nat→Mn} (h:Kn S s T w L U) (hM:S.Q6=Qx M) (hv:∀ r,@VRs S r L U→@VR S r (.gho i t) u) {A:Zs} (hA:M t = .set A):Sm A∧Zt T w u (Zz A):=by
 obtain ⟨r,k1,k2,k3⟩:=h
 obtain ⟨h1,h2⟩:=@Ja S _ _ _ _ hM k1 i t u (hv r k2) A hA
 exact ⟨h1,h2.mono fun b hb _=>k3 b (.inr hb)⟩
end
noncomputable abbrev Zb3 (M:Nat→Mn) (h:M 0 = .nz) (x y:Int) (hx:0≤x∧x≤1000) (hy:0≤y∧y≤1000):Sig:=⟨x,y,hx,hy,fun _=>0,Qx M,Zdu h⟩
end Go.Proofs.YtheflbaejhlboaaGreatDoor.Ev
