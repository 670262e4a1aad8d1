/- Lemmas for a law of confluencetop. -/
import Derived.Test.YtheflbaejhlboaaGreatDoorTopNe14
set_option linter.all false
set_option maxHeartbeats 8000000
set_option maxRecDepth 1000000
namespace Go.Proofs.YtheflbaejhlboaaGreatDoor
open Tryz
namespace Ev
open Go Go.Proofs
noncomputable section
def ME:FuncId->Bool:=fun f=>WT f [49,301,409,181]
def WB (r:R) (k:Zb->St->Bool):Bool:=match r with
 | .ok v s=>k v s
 | .bad=>false
theorem Jg {r:R} {k:Zb->St->Bool} (h:WB r k=true):∃ v s,r = .ok v s/\k v s=true:=by
 cases r with
 | bad=>cases h
 | ok v s=>exact ⟨v,s,rfl,h⟩
def ZkO:List Nat->List Nat->List (Nat×Nat)
 | j::J,i::L=>(j,i)::ZkO J L
 | _,_=>[]
def ZhC:List (Nat×Nat)->List (Nat×Nat)
 | []=>[]
 | (j,i)::l=>(i,j)::ZhC l
def E9 (n:Nat):List Nat->List Nat:=@Nat.rec (fun _=>List Nat->List Nat) (fun l=>l) (fun k ih l=>ih (k::l)) n
def tgL:List (Nat×Nat)->Nat->Nat->Bool
 | [],_,_=>false
 | (x,y)::l,a,b=>sel (Nat.beq x a) (sel (Nat.beq y b) true (tgL l a b)) (tgL l a b)
structure Vd where
 z:Bool
 d:Int
 k:Int
 J:List Nat
 el:List (Nat×Nat)
 tg:List (Nat×Nat)
 te:List Nat
 LS:List (Nat×Zd)
 n:Nat
 tm:List Nat
def Vd.S (V:Vd):St:=⟨Qc V.LS .lf,V.n⟩
def ZkP (V:Vd) (L:List (Nat×Nat)):Vw:=⟨V.z,V.d,V.k,Qc L .lf,Qc V.el .lf,tgL V.tg,fun b=>WT b V.te,fun b=>WT b V.tm⟩
def ZdJ (V:Vd) (s:St) (v:Zb) (L:List (Nat×Nat)):Bool :=
 sel (CH (ZkP V L) (Qc (ZhC L) .lf) s.heap V.LS) (sel (Ty V.n L) (sel (Ty V.n V.el) (Y4 (ZkP V L) v (.ptr 0 0)) false) false) false
def XK (V:Vd) (v:Zb) (s:St):Bool:=ZdJ V s v (ZkO V.J (Uq [] v s))
end
theorem YC:∀ {l:List (Nat×Nat)} {a b:Nat},tgL l a b=true->(a,b)∈l
 | [],_,_,h=>by cases h
 | (x,y)::l,a,b,h=>by
  have h:sel (Nat.beq x a) (sel (Nat.beq y b) true (tgL l a b)) (tgL l a b)=true:=h;cases h1:Nat.beq x a
  ·rw [h1] at h; exact List.mem_cons_of_mem _ (YC h)
  ·rw [h1] at h;have h:sel (Nat.beq y b) true (tgL l a b)=true:=h;cases h2:Nat.beq y b
   ·rw [h2] at h; exact List.mem_cons_of_mem _ (YC h)
   ·rw [Nat.eq_of_beq_eq_true h1,Nat.eq_of_beq_eq_true h2]; exact List.mem_cons_self
def Kn (S:Sig) (s:St) (T:Nat->Prop) (w:World) (L:List Zb) (U:List Value):Prop :=
 ∃ r,@Rel S r s w/\@VRs S r L U/\∀ k,Hit r s k\/JB r k->T k
theorem VP [Sig] {r:Rho} {a:Zb} {l:List Zb} {u:Value} {m:List Value}:VRs r (a::l) (u::m)↔VR r a u/\VRs r l m :=
 ⟨fun h=>by cases h with | cons h t=>exact ⟨h,t⟩,fun h => .cons h.1 h.2⟩
section
variable {S:Sig} {s s':St} {T T':Nat->Prop} {w w':World} {L L':List Zb} {U U':List Value}
theorem Kn.start (w:World):Kn S ⟨.lf,0⟩ T w [] [] :=
 ⟨fun _=>none,@Rel.mk S _ _ _ (@RelB.mk S _ _ _ (fun i b x hb hx=>(by cases hx)) fun i _=>Tz i) (fun i j b c x y hb hc hx=>(by cases hx)) (fun i x hx=>(by cases hx)) (fun i x g hx=>(by cases hx)),@VRs.nil S _,fun k h=>by
  rcases h with ⟨i,b,x,_,hx,_⟩ | ⟨i,x,g,hx,_⟩ <;> cases hx⟩
theorem Kn.Zf (h:Kn S s T w L U) (hc:Chg (fun _=>False) w w'):Kn S s T w' L U:=by
 obtain ⟨r,h1,h2,h3⟩:=h;exact ⟨r,@Rel.Zf S _ _ _ h1 _ hc,h2,h3⟩
theorem Kn.mono (h:Kn S s T w L U) (hT:∀ k,T k->k<w.heap.size->T' k):Kn S s T' w L U:=by
 obtain ⟨r,h1,h2,h3⟩:=h;refine ⟨r,h1,h2,fun k hk=>hT k (h3 k hk) ?_⟩;rcases hk with hk | ⟨i,x,g,h4,h5,h6,h7⟩
 ·exact @Rel.lt S _ _ _ h1 _ hk
 ·have:=(@Rel.safe S _ _ _ h1 i x g h4 h5).1;omega
theorem Kn.pick (h:Kn S s T w L U) (hL:∀ r,@VRs S r L U->@VRs S r L' U'):Kn S s T w L' U':=by
 obtain ⟨r,h1,h2,h3⟩:=h;exact ⟨r,h1,hL r h2,h3⟩
theorem Kn.call {B:YT} {f:FuncId} {args:List Zb} {us:List Value} {v:Zb} (h:Kn S s T w L U) (hB:@Xe S prog B) (aA:∀ f id,B.reg f id=none) (hcall:Hv prog B ME 1000000 200 f args s = .ok v s')
  (he:∀ us W,(callFunc f us).run prog W = .ok (.enter f us) W) (hargs:∀ r,@VRs S r L U->@VRs S r args us) :
  Calls prog f ⟨us⟩ w fun e w'=>∃ u,e = .returned u/\Kn S s' (fun k=>T k\/w.heap.size<=k) w' (v::L) (u::U)/\Chg T w w':=by
 obtain ⟨r,h1,h2,h3⟩:=h;have hc:=@Ww S _ _ hB aA Qt ME 1000000 200 f args s v s' hcall r w us h1 (hargs r h2);rcases hc with ⟨u,w',h4,_⟩ | ⟨_,h4⟩
 ·rw [he] at h4;cases h4
 ·refine h4.mono ?_;rintro e w' ⟨u,rfl,q,hx,hu⟩;refine ⟨u,rfl,⟨q,@Ext.rel S _ _ _ _ _ _ hx,@VRs.cons S _ _ _ _ _ hu (@VRs.mono S _ _ (@Ext.le S _ _ _ _ _ _ hx) _ _ h2),fun k hk => ?_⟩,?_⟩
  ·rcases hk with hk | hk
   ·rcases @Ext.XP S _ _ _ _ _ _ hx k hk with h5 | h5
    ·exact .inl (h3 k (.inl h5))
    ·exact .inr h5
   ·rcases @Ext.Wl S _ _ _ _ _ _ hx k hk with h5 | h5
    ·exact .inl (h3 k (.inr h5))
    ·exact .inr h5
  ·exact ⟨@Ext.os S _ _ _ _ _ _ hx,@Ext.tape S _ _ _ _ _ _ hx,@Ext.output S _ _ _ _ _ _ hx,@Ext.size S _ _ _ _ _ _ hx,fun k hk hn=>@Ext.frame S _ _ _ _ _ _ hx k hk fun hh=>hn (h3 k (.inl hh))⟩
theorem Kn.gho {t:Nat} {u:Value} {F:Nat->Prop} (h:Kn S s T w L U) (h1:u.oneCell'=true) (h2:∀ b,u ≠ .bool b) (hF:∀ k,F k->¬ T k) (hm:S.Q8 t F w u):Kn S s.VJ (fun k=>T k\/F k) w (.gho s.next t::L) (u::U):=by
 obtain ⟨r,k1,k2,k3⟩:=h;obtain ⟨q,q1,q2,q3,q4,q5⟩:=@H9 S _ _ _ k1 u F t h1 h2 (fun k hk hh=>hF k hk (k3 k (.inl hh))) hm;refine ⟨q,q1,@VRs.cons S _ _ _ _ _ q3 (@VRs.mono S _ _ q2 _ _ k2),fun k hk => ?_⟩;rcases hk with hk | hk
 ·exact .inl (k3 k (.inl (q4 k hk)))
 ·rcases q5 k hk with h5 | h5
  ·exact .inl (k3 k (.inr h5))
  ·exact .inr h5
theorem Kn.blk {k e:Nat} {cs:List Zb} {vs:List Value} {t:TypeId} (h:Kn S s T w L U) (hcs:∀ r,@VRs S r L U->@VRs S r cs vs) (ho:w.heap[k]? = some (.cells ⟨vs⟩ t (0,0))) (hn:¬ T k) (n:Nat) (he:n*e=vs.length) :
  Kn S (s.new (.cells cs e false)) (fun j=>T j\/j=k) w (.slice s.next 0 n none::L) (.slice (some ⟨k,0,none⟩) n n::U):=by
 obtain ⟨r,k1,k2,k3⟩:=h;obtain ⟨q,q1,q2,q3,q4,q5⟩:=@Ga S _ _ _ k1 k e cs vs t ho (hcs r k2) (fun hh=>hn (k3 k (.inl hh))) (fun hh=>hn (k3 k (.inr hh)));refine ⟨q,q1,@VRs.cons S _ _ _ _ _ (@VR.slice S q s.next 0 n none _ n q3 (Nat.le_refl _) (fun _ h=>by cases h) (fun _=>by show 0+n*e=vs.length; omega)) (@VRs.mono S _ _ q2 _ _ k2),fun j hj => ?_⟩;rcases hj with hj | hj
 ·rcases q4 j hj with h5 | h5
  ·exact .inl (k3 j (.inl h5))
  ·exact .inr h5
 ·exact .inl (k3 j (.inr (q5 j hj)))
theorem Kn.view {S':Sig} {V:Vd} {v:Zb} {u:Value} (h:Kn S s T w L U) (hv:∀ r,@VRs S r L U->@VR S r v u) (dZ:XK V v s=true) (hz:V.z=true->S'.x=0) (hd:V.z=false->S'.x=S.x+V.d) (hk:S'.y=V.k)
  (jK:∀ a b,(a,b)∈V.tg->∀ F w v,S.Q8 a F w v->S'.Q8 b F w v) (hte:∀ b∈V.te,∀ w,S'.Q8 b (fun _=>False) w (.slice none 0 0)) (hto:∀ a b,(a,b)∈V.tg->∀ F w o,S.Xi a F w o->S'.Xi b F w o) (kY:∀ b∈V.tm,∀ w c,S'.Xi b (fun _=>False) w (.map #[] c)):Kn S' V.S T w [.ptr 0 0] [u]:=by
 obtain ⟨r,k1,k2,k3⟩:=h;obtain ⟨c1,dZ⟩:=ZG (show sel _ (sel _ (sel _ _ false) false) false=true from dZ);obtain ⟨c2,dZ⟩:=ZG dZ;obtain ⟨c3,c4⟩:=ZG dZ;obtain ⟨o1,o2,o3,o4⟩:=CJ (S:=S) (S':=S') k1 rfl rfl c1 c2 c3 hz hd hk (fun a b h=>jK a b (YC h)) (fun b h=>hte b (WA.1 h) w) (fun a b h=>hto a b (YC h)) (fun b h=>kY b (WA.1 h) w);exact ⟨_,o2,@VRs.cons S' _ _ _ _ _ (SB o1 _ _ _ c4 (hv r k2)) (@VRs.nil S' _),fun k hk=>k3 k (hk.imp (o3 k) (o4 k))⟩
theorem Kn.set {i t:Nat} {u:Value} {M:Nat->Mn} (h:Kn S s T w L U) (hM:S.Q8=QK M) (hv:∀ r,@VRs S r L U->@VR S r (.gho i t) u) {A:Zs} (hA:M t = .set A):Sm A/\Zp T w u (Zj A):=by
 obtain ⟨r,k1,k2,k3⟩:=h;obtain ⟨h1,h2⟩:=@XJ S _ _ _ _ hM k1 i t u (hv r k2) A hA;exact ⟨h1,h2.mono fun b hb _=>k3 b (.inr hb)⟩
end
noncomputable abbrev ZdK (M:Nat->Mn) (h:M 0 = .nz) (x y:Int) (hx:0<=x/\x<=1000) (hy:0<=y/\y<=1000):Sig:=⟨x,y,hx,hy,fun _=>0,QK M,Kz M,ZfX h⟩
end Ev
namespace Ev
open Go Go.Proofs
noncomputable section
def pU0:Ent:=⟨97,[(vX 53 6965653796833215329414285142749597351060375555719402555389438326729789907349768425206818544489987795955601114657450857931630376)],
 [],
 0,(.tuple [(.agg [(vI 7),(vX 0 0),.Za,.Za,(vL 135 0 1),.Za,(vL 142 0 1),(vL 178 0 1)]),(vI 0),(vI 0)]),
 [(135,bO [(vX 1 110)] 1),
 (142,bO [(vX 1 107),(vX 5 500069396323),(vX 0 0)] 3),
 (160,bO [(vX 1 97)] 1),
 (167,bO [(vX 1 110),(vX 5 500069396323),(vX 0 0)] 3),
 (176,bO [(vI 1),(vX 1 117),.Za,.Za,.Za,.Za,.Za,.Za] 8),
 (178,bO [(vI 7),(vX 0 0),.Za,.Za,(vL 160 0 1),.Za,(vL 167 0 1),(vL 176 0 1)] 8)],317⟩
def RL:List (Nat×Orc):=[(97,upO [pU0])]
def Zl8:List (Nat×Zd):=[(0,bC [(vP 1 0),(vL 4 0 1),(vM 6),(vP 7 0)] 0),
 (1,bC [(vL 2 0 1),.Za] 0),
 (2,bO [(vX 1 117),(vL 3 0 2)] 2),
 (3,bO [(vX 1 97),(vI 1),(vX 1 99),(vI 1)] 2),
 (4,bO [(vX 1 117),(vL 5 0 2),.Za] 3),
 (5,bO [(vX 1 97),(vI 1),(vX 1 99),(vI 1)] 2),
 (6,bM [] 0),
 (7,bC [(vI 1),(vI 0),(vI 0),(vX 0 0),(vI 0),(vI 0),(vI 0),(vX 0 0),(vI 0),(vI 0),(vI 0),(vX 0 0),(vI 0),(vI 0),(vI 0),(vX 0 0),(vI 0),(vI 0),(vI 0),(vX 0 0),(vI 0),(vI 0),(vI 0),(vX 0 0),(vI 0),(vI 0),(vI 0),(vX 0 0),(vI 0),(vI 0),(vI 0),(vX 0 0),(vI 0),(vI 0),(vI 0),(vX 0 0),(vI 0),(vI 0),(vI 0),(vX 0 0),(vI 0),(vI 0),(vI 0),(vX 0 0),(vI 0),(vI 0),(vI 0),(vX 0 0),(vI 0),(vI 0),(vI 0),(vX 0 0),(vI 0),(vI 0),(vI 0),(vX 0 0),(vI 0),(vI 0),(vI 0),(vX 0 0),(vI 0),(vI 0),(vI 0),(vX 0 0)] 0)]
def stL (y:Zb):List (Nat×Zd):=[(0,bC [(vP 1 0),(vL 12 0 1),(vM 15),(vP 50 0)] 0),
 (1,bC [(vL 2 0 1),(vL 4 0 1)] 0),
 (2,bO [(vX 1 117),(vL 3 0 2)] 2),
 (3,bO [(vX 1 97),(vI 1),(vX 1 99),(vI 1)] 2),
 (4,bO [(vX 1 118),(vX 53 6965653796833215329414285142749597351060375555719402555389438326729789907349768425206818544489987795955601114657450857931630376),(vI 7),(vX 0 0),.Za,.Za,(vL 5 0 1),.Za,(vL 6 0 1),(vL 7 0 1),(vL 11 0 2)] 11),
 (5,bO [(vX 1 110)] 1),
 (6,bO [(vX 1 107),(vX 5 500069396323),(vX 0 0)] 3),
 (7,bO [(vI 7),(vX 0 0),.Za,.Za,(vL 8 0 1),.Za,(vL 9 0 1),(vL 10 0 1)] 8),
 (8,bO [(vX 1 97)] 1),
 (9,bO [(vX 1 110),(vX 5 500069396323),(vX 0 0)] 3),
 (10,bO [(vI 1),(vX 1 117),.Za,.Za,.Za,.Za,.Za,.Za] 8),
 (11,bO [(vX 1 110),(vI 1),(vX 1 107),(vI 1)] 2),
 (12,bO [(vX 1 117),(vL 13 0 2),(.gho 14 1)] 3),
 (13,bO [(vX 1 97),(vI 1),(vX 1 99),(vI 1)] 2),
 (15,bM [((vX 1 118),(vP 16 0),0)] 1),
 (16,bC [(vP 17 0),(vL 46 0 1),(vM 48)] 0),
 (17,bC [(vI 7),(vX 0 0),.Za,.Za,(vL 18 0 1),.Za,(vL 19 0 1),(vL 20 0 1),(vL 24 0 2),(vL 25 0 1),(vL 39 0 1),(.gho 40 2),(vP 41 0),.Zo,.Zo] 0),
 (18,bO [(vX 1 110)] 1),
 (19,bO [(vX 1 107),(vX 5 500069396323),(vX 0 0)] 3),
 (20,bO [(vI 7),(vX 0 0),.Za,.Za,(vL 21 0 1),.Za,(vL 22 0 1),(vL 23 0 1)] 8),
 (21,bO [(vX 1 97)] 1),
 (22,bO [(vX 1 110),(vX 5 500069396323),(vX 0 0)] 3),
 (23,bO [(vI 1),(vX 1 117),.Za,.Za,.Za,.Za,.Za,.Za] 8),
 (24,bO [(vX 1 110),(vI 1),(vX 1 107),(vI 1)] 2),
 (25,bO [(vP 26 0)] 1),
 (26,bC [(vI 7),(vX 0 0),.Za,.Za,(vL 21 0 1),.Za,(vL 22 0 1),(vL 23 0 1),(vL 27 0 2),(vL 28 0 1),(vL 32 0 1),(.gho 33 4),(vP 34 0),.Zo,.Zo] 0),
 (27,bO [(vX 1 97),(vI 1),(vX 1 110),(vI 1)] 2),
 (28,bO [(vP 29 0)] 1),
 (29,bC [(vI 1),(vX 1 117),.Za,.Za,.Za,.Za,.Za,.Za,(vL 30 0 2),.Za,.Za,(.gho 31 1),.Zo,.Zo,.Zo] 0),
 (30,bO [(vX 1 97),(vI 1),(vX 1 99),(vI 1)] 2),
 (32,bO [(vL 30 0 2)] 1),
 (34,bC [(vL 35 0 1),(vL 36 0 1),(vM 37)] 0),
 (35,bO [(vI 0)] 1),
 (36,bO [(vX 5 500069396323),(vI 0)] 2),
 (37,(.opq 38 3)),
 (39,bO [(vL 27 0 2)] 1),
 (41,bC [(vL 42 0 1),(vL 43 0 1),(vM 44)] 0),
 (42,bO [(vI 1)] 1),
 (43,bO [(vX 5 500069396323),(vI 0)] 2),
 (44,(.opq 45 5)),
 (46,bO [(vX 1 117),(vL 47 0 2)] 2),
 (47,bO [(vX 1 97),(vI 1),(vX 1 99),(vI 1)] 2),
 (48,bM [((vX 1 117),(.gho 49 1),0)] 1),
 (50,bC [(.sint .i64 (.ofNat 2) (.ofNat 1) (.ofNat 0)),y,(vI 0),(vX 0 0),(vI 0),(vI 0),(vI 0),(vX 0 0),(vI 0),(vI 0),(vI 0),(vX 0 0),(vI 0),(vI 0),(vI 0),(vX 0 0),(vI 0),(vI 0),(vI 0),(vX 0 0),(vI 0),(vI 0),(vI 0),(vX 0 0),(vI 0),(vI 0),(vI 0),(vX 0 0),(vI 0),(vI 0),(vI 0),(vX 0 0),(vI 0),(vI 0),(vI 0),(vX 0 0),(vI 0),(vI 0),(vI 0),(vX 0 0),(vI 0),(vI 0),(vI 0),(vX 0 0),(vI 0),(vI 0),(vI 0),(vX 0 0),(vI 0),(vI 0),(vI 0),(vX 0 0),(vI 0),(vI 0),(vI 0),(vX 0 0),(vI 0),(vI 0),(vI 0),(vX 0 0),(vI 0),(vI 0),(vI 0),(vX 0 0)] 0)]
def vk:List (Nat×Zd):=stL (.sint .i64 (.ofNat 0) (.ofNat 0) (.ofNat 1))
def Zl9:List (Nat×Zd):=stL (vI 0)
def V2:Vd:=⟨false,0,0,E9 8 [],[],[],[],Zl8,8,[]⟩
def V4:Vd:=⟨true,0,0,[0,1,2,3,4,5,6,7,8,9,10,11,12,13,15,16,17,18,19,20,21,22,23,24,25,26,27,28,29,30,32,34,35,36,37,39,41,42,43,44,46,47,48,50],[(14,0),(31,0),(33,0),(38,0),(40,0),(45,0),(49,0)],[],[1,2,4],vk,51,[3,5]⟩
def VU:Vd:=⟨false,1,0,E9 51 [],[],[(9,1),(10,2),(11,3),(12,4),(15,5)],[],Zl9,51,[]⟩
def VA:Vd:=⟨false,1,25,E9 51 [],[],[(1,1),(2,2),(3,3),(4,4),(5,5)],[],vk,51,[]⟩
def VB:Vd:=⟨false,0,0,E9 51 [],[],[(1,1),(2,2),(3,3),(4,4),(5,5)],[],vk,51,[]⟩
def eT1:Zb:=(.agg [(vI 0),(vI 0),(vI 1),(vX 1 117),(vX 0 0),(vL 7 0 2),.Za])
def eT2:Zb:=(.agg [(vI 0),(vI 0),(vI 3),(vX 1 118),(vX 53 6965653796833215329414285142749597351060375555719402555389438326729789907349768425206818544489987795955601114657450857931630376),.Za,.Za])
def UI:Zb := .agg [vI 0,vI 0,vX 0 0]
def Zma:Zb := .agg [vI 25,vI 0,vX 0 0]
def txN:Zb := .str [118]
def txV:Zb:=(.str [40,103,114,111,117,112,32,40,110,41,32,40,107,32,99,111,117,110,116,41,32,40,103,114,111,117,112,32,40,97,41,32,40,110,32,99,111,117,110,116,41,32,40,116,97,98,108,101,32,117,41,41,41])
def BRd:YT:={ fn:=fun f=>fnT.get f,Zf:=VF,reg:=fun _ _=>none,orc:=fun f=>(Qc (OL++RL) .lf).get f }
def BG (t:Tb):YT:={ fn:=fun f=>fnT.get f,Zf:=VF,reg:=fun _ _=>none,orc:=fun f=>(Qc (OL++(RL++glL t)) .lf).get f }
def cR:Zz:=Hv prog BRd ME 1000000 200
def cG (t:Tb):Zz:=Hv prog (BG t) ME 1000000 200
def knd:List Int:=[1,1]
def kfK:List Nat:=[0]
def kgK:List Nat:=[1]
def kfF:List (List UInt8×Nat):=[([99,111,117,110,116],0)]
def tbR:Tb:={ copy:=[(1,1)],Zbs:=[1],plain:=[1],Ge:=[1],rows:=[(8,knd)],kinds:=[(1,knd)],Zbt:=[(1,8,false)] }
def tbU (b:Bool):Tb:={
 add:=[(9,16,13),(1,13,9),(2,17,10),(4,14,12)],put:=[(1,8,b,9)],flip:=[(1,16)],copy:=[(1,1),(17,17)],Zbs:=[1,9,13],plain:=[1,9],Ge:=[1,2,4,9,10,12],CN:=[1],rows:=[(8,knd)],
 kinds:=[(1,knd),(13,knd)],Zbt:=sel b [] [(1,8,true)],kf:=[(3,kfK,kfF),(5,kgK,kfF)],chg:=[(3,13,11,14),(5,14,15,17)] }
def tbE:Tb:={ copy:=[(2,2)] }
def ZdL:Zb:=(.str [117])
def stU (b:Bool):St:=((VA.S).VJ).new (.cells [ZdL,.gho 51 8,.bool b] 3 false)
def SI (t:Tb) (V:Vd) (b:Bool) (rep:Zb):Bool :=
 WB (cG t 16 [.slice 52 0 1 none] (stU b)) fun e s=>WB (cG t 11 [e,vI 0,.sint .i64 (.ofNat 3) (.ofNat 1) (.ofNat 0)] s) fun b s =>
  WB (cG t 10 [.ptr 0 0,b] s) fun r s=>sel (XO r rep) (XK V (.ptr 0 0) s) false
def ZiD:Bool :=
 WB (cR 9 [] ⟨.lf,0⟩) fun g s=>sel (XO g (.ptr 3 0)) (WB (cR 13 [] s) fun ct s=>WB (cR 12 [ZdL,ct] s) fun e1 s=>sel (XO e1 eT1)
  (WB (cR 11 [eT1,vI 0,vI 1] s) fun b s=>WB (cR 10 [.ptr 3 0,b] s) fun r s=>sel (XO r UI) (XK V2 (.ptr 3 0) s) false) false) false
def preB:Bool:=WB (cR 14 [txN,txV] V2.S) fun e s=>sel (XO e eT2) (WB (cR 11 [eT2,vI 0,vI 2] s) fun b s=>WB (cR 10 [.ptr 0 0,b] s) fun r s=>sel (XO r UI) (XK V4 (.ptr 0 0) s) false) false
def isSet (v:Zb) (t:Nat):Bool:=match v with
 | .tuple [.gho _ a,.bool true]=>Nat.beq a t
 | _=>false
def ZhD:Bool:=WB (cG tbE 19 [.ptr 0 0,txN] VU.S) fun r s=>sel (isSet r 2) (XK VB (.ptr 0 0) s) false
end
end Ev
section
open Go Go.RowKit
abbrev UJ:List Vl->Prop:=Sz true
noncomputable abbrev cfs:List (ByteArray×Nat):=Ev.VO Ev.kfF
def gN (a:Int):List UInt8:=nmR Ev.kfK [⟨1,a,[]⟩]
def cKS:List (List UInt8):=(List.range 7).map fun i:Nat=>gN ((i:Int)-3)
theorem ZkQ {a:Int} (h : -3<=a/\a<=3):gN a∈cKS :=
 List.mem_map.2 ⟨(a+3).toNat,List.mem_range.2 (by omega),by rw [show (((a+3).toNat:Nat):Int)-3=a by omega]⟩
theorem Qi:UC UJ Ev.kfK cfs cKS where
 su:=fun r h=>by
  refine ⟨fun f hf => ?_,fun n hn => ?_,h.right.1⟩
  ·simp only [cfs,Ev.VO,Ev.kfF,List.map_cons,List.map_nil,List.mem_cons,List.not_mem_nil,or_false] at hf;subst hf;exact .inl rfl
  ·have hn:n∈[0]:=hn;rw [List.mem_singleton.1 hn];obtain ⟨n,m,rfl,h1,h2⟩:=h;simp
 rn:=fun r h=>h.rn
 big:=fun r h=>h.big
 nm:=fun r h=>by
  obtain ⟨n,m,rfl,h1,h2⟩:=h;exact ZkQ h1
 few:=Nat.le_of_ble_eq_true rfl
 n0:=Nat.le_of_ble_eq_true rfl
 n6:=Nat.le_of_ble_eq_true rfl
abbrev SJ:=Jq UJ
noncomputable abbrev cI (T:Zs):Zs:=J5 Ev.kfK cfs T
noncomputable abbrev cO (T:Zs):Zs:=J5 Ev.kgK cfs (cI T)
def Nz (r:List Vl):Prop:=∃ a n:Int,r=[nI a,nI n]/\(-3<=a/\a<=3)/\1<=n/\n<=40
theorem Gg {n:Int} (h : -1000<=n/\n<=1000):VN (nI n):=⟨Nv n,by simp only [nI]; omega,by simp only [nI]; omega⟩
theorem Nz.right {r:List Vl} (h:Nz r):Zi r=true:=by
 obtain ⟨a,n,rfl,_⟩:=h;simp [Zi,nI,Vl.right]
theorem Nz.rn {r:List Vl} (h:Nz r):Zdo r:=fun v hv=>by
 obtain ⟨a,n,rfl,h1,h2⟩:=h;simp only [List.mem_cons,List.not_mem_nil,or_false] at hv;rcases hv with rfl | rfl
 ·exact Gg (by omega)
 ·exact Gg (by omega)
theorem Nz.big {r:List Vl} (h:Nz r):∀ v∈r,-1000<=v.n/\v.n<=1000:=fun v hv=>by
 obtain ⟨a,n,rfl,h1,h2⟩:=h;simp only [List.mem_cons,List.not_mem_nil,or_false] at hv;rcases hv with rfl | rfl <;> simp only [nI] <;> omega
theorem Nz.su {r:List Vl} (h:Nz r):Y0 Ev.kgK cfs r:=by
 refine ⟨fun f hf => ?_,fun n hn => ?_,h.right⟩
 ·simp only [cfs,Ev.VO,Ev.kfF,List.map_cons,List.map_nil,List.mem_cons,List.not_mem_nil,or_false] at hf;subst hf;exact .inl rfl
 ·have hn:n∈[1]:=hn;rw [List.mem_singleton.1 hn];obtain ⟨a,m,rfl,_⟩:=h;simp
theorem TB:∀ S:Zs,(∀ p∈S,0<p.2)->S≠[]->1<=Zq (Zj S)
 | [],_,h=>absurd rfl h
 | p::S,h,_=>by
  have h1:Zq (Zj (p::S))=(ZB p).net+Zq (Zj S):=rfl;have h2:=h p List.mem_cons_self;rw [h1,Wy];by_cases e:S=[]
  ·subst e;show 1<=p.2+0;omega
  ·have:=TB S (fun q hq=>h q (List.mem_cons_of_mem _ hq)) e;omega
def Ja (T:Zs) (key:List UInt8):Int:=Zq (Zj (ZH Ev.kfK T key))
theorem NA (T:Zs) (key:List UInt8):Ja T key=KU (fun r=>if nmR Ev.kfK r=key then 1 else 0) T:=by
 unfold Ja;rw [Wa];unfold ZH;rw [K9 (fun _=>1) (fun r=>decide (nmR Ev.kfK r=key))]
 congr 1
 funext r
 simp
theorem CP (T:Zs) (x:List Vl) (n:Int) (key:List UInt8):Ja (ZO x n T) key=Ja T key+if nmR Ev.kfK x=key then n else 0:=by
 rw [NA,NA,Yy];split <;> omega
theorem Rq {k:Nat} (hk:k<=40) {T:Zs} (hi:SJ k T) (key:List UInt8):0<=Ja T key/\Ja T key<=40/\(Ja T key=0↔ZH Ev.kfK T key=[]):=by
 have hf:=hi.fin Qi hk;have hp:∀ p∈ZH Ev.kfK T key,0<p.2:=fun p hp=>hf.pos p (ZI.1 hp).1;have h3:Ja T key<=40:=(hf.Mf key).2.2;by_cases e:ZH Ev.kfK T key=[]
 ·have h0:Ja T key=0:=by unfold Ja; rw [e]; rfl
  exact ⟨by omega,h3,fun _=>e,fun _=>h0⟩
 ·have h1:1<=Ja T key:=TB _ hp e;exact ⟨by omega,h3,fun h=>by omega,fun h=>absurd h e⟩
theorem Mk {k:Nat} (hk:k<=40) {T:Zs} (hi:SJ k T) {key:List UInt8} (hg:ZH Ev.kfK T key≠[]):∃ a,ZV Ev.kfK cfs T key=[nI a,nI (Ja T key)]/\(-3<=a/\a<=3)/\key=gN a:=by
 unfold ZV Ja;cases e:ZH Ev.kfK T key with
 | nil=>exact absurd e hg
 | cons p l =>
  have hp:p∈ZH Ev.kfK T key:=by rw [e]; exact List.mem_cons_self
  obtain ⟨h1,h2⟩:=ZI.1 hp;obtain ⟨n,m,e2,h3,h4⟩:=hi.row p h1;refine ⟨n,?_,h3,by rw [<- h2,e2]; rfl⟩;show QQ Ev.kfK p.1++[Kf (X9,0) (Zj (p::l))]=_;have a1:Kf (X9,0) (Zj (p::l))=⟨1,Zq (Zj (p::l)),[]⟩:=if_pos rfl;rw [a1,e2];rfl
theorem NC {k:Nat} (hk:k<=40) {T:Zs} (hi:SJ k T) {key:List UInt8} (hg:ZH Ev.kfK T key≠[]):Nz (ZV Ev.kfK cfs T key):=by
 obtain ⟨a,e,h1,h2⟩:=Mk hk hi hg;obtain ⟨c1,c2,c3⟩:=Rq hk hi key;exact ⟨a,_,e,h1,by have:¬ Ja T key=0:=fun h=>hg (c3.1 h); omega,c2⟩
theorem VQ (t:List UInt8->List Vl):∀ (L:List (List UInt8)) (S:Zs) (p:List Vl×Int),p∈L.foldl (fun S k=>ZO (t k) 1 S) S->(∃ k∈L,p.1=t k)\/∃ q∈S,q.1=p.1
 | [],S,p,h => .inr ⟨p,h,rfl⟩
 | k::L,S,p,h=>by
  rw [List.foldl_cons] at h;rcases VQ t L _ p h with ⟨x,hx,e⟩ | ⟨q,hq,e⟩
  ·exact .inl ⟨x,List.mem_cons_of_mem _ hx,e⟩
  ·rcases Rg hq with e2 | ⟨q2,h2,e2⟩
   ·exact .inl ⟨k,List.mem_cons_self,by rw [<- e,e2]⟩
   ·exact .inr ⟨q2,h2,e2.trans e⟩
theorem Zf0 {ks:List Nat} {fs:List (ByteArray×Nat)} {T:Zs} {p:List Vl×Int} (h:p∈J5 ks fs T):∃ key∈Qz ks T,p.1=ZV ks fs T key:=by
 rcases VQ _ _ _ _ h with h | ⟨q,hq,_⟩
 ·exact h
 ·cases hq
theorem CQ (ks:List Nat) (fs:List (ByteArray×Nat)) (T:Zs) (r:List Vl):∀ L:List (List UInt8),0<=Qf (L.flatMap (it1 ks fs T)) r
 | []=>by simp [Qf]
 | k::L=>by
  have:=CQ ks fs T r L;rw [List.flatMap_cons,Z2];unfold it1 at this ⊢;split
  ·simpa [Qf] using this
  ·simp only [Qf,Itm.net];split <;> omega
section
variable {k:Nat} (hk:k<=40) {T:Zs} (hi:SJ k T)
include hk hi
theorem ND:∀ p∈cI T,Nz p.1:=fun p hp=>by
 obtain ⟨key,h1,e⟩:=Zf0 hp;rw [e];exact NC hk hi fun e=>JX.1 e h1
theorem ZdM:∀ p∈cI T,0<p.2:=fun p hp=>by
 have hz:=(hi.out Qi hk).set;have h1:=hz.Sr hp;have h2:=hz.net p hp;have h3:nf (cI T) p.1=_:=Mh Ev.kfK cfs T p.1;have h1:nf (cI T) p.1=p.2:=h1;have h4:=CQ Ev.kfK cfs T p.1 (Qz Ev.kfK T);omega
theorem qV:FIn Ev.kgK cfs (cI T) where
 sm:=(hi.out Qi hk).sm (by omega)
 pos:=ZdM hk hi
 rn:=fun p hp=>(ND hk hi p hp).rn
 su:=fun p hp=>(ND hk hi p hp).su
 few:=by
  have h1:=VM (cI T);have h2:ZN (Zj (cI T))<=10:=(hi.out Qi hk).sum;omega
 big:=fun p hp=>(ND hk hi p hp).big
theorem CR {key:List UInt8} (hg:ZH Ev.kgK (cI T) key≠[]):∃ n,ZV Ev.kgK cfs (cI T) key=[nI n,nI (Zq (Zj (ZH Ev.kgK (cI T) key)))]/\(1<=n/\n<=40)/\key=nameOf [nI n]:=by
 unfold ZV;cases e:ZH Ev.kgK (cI T) key with
 | nil=>exact absurd e hg
 | cons p l =>
  have hp:p∈ZH Ev.kgK (cI T) key:=by rw [e]; exact List.mem_cons_self
  obtain ⟨h1,h2⟩:=ZI.1 hp;obtain ⟨a,n,e2,h3,h4⟩:=ND hk hi p h1;refine ⟨n,?_,h4,by rw [<- h2,e2]; rfl⟩;show QQ Ev.kgK p.1++[Kf (X9,0) (Zj (p::l))]=_;have a1:Kf (X9,0) (Zj (p::l))=⟨1,Zq (Zj (p::l)),[]⟩:=if_pos rfl;rw [a1,e2];rfl
theorem Y5:Bd 10 (cO T):=by
 refine EY (fun key hg => ?_) ?_
 ·obtain ⟨n,e,_⟩:=CR hk hi hg;rw [e];simp [Zi,nI,Vl.right]
 ·unfold Qz;have h1:=Rj ((cI T).map fun p=>nmR Ev.kgK p.1);have h2:=(hi.out Qi hk).len;rw [List.length_map] at h1;exact Nat.le_trans h1 h2
end
theorem Zbw {ks:List Nat} {S D:Zs} (h1:S.length<=10) (h2:D.length<=2):∃ KS:List (List UInt8),(∀ p∈S,nmR ks p.1∈KS)/\KS.length+D.length<=12 :=
 ⟨S.map fun p=>nmR ks p.1,fun p hp=>List.mem_map.2 ⟨p,hp,rfl⟩,by rw [List.length_map]; omega⟩
theorem Zab {ks:List Nat} {fs:List (ByteArray×Nat)} {T T':Zs} (h1:Bd 10 (J5 ks fs T)) (h2:Bd 10 (J5 ks fs T')):Bd 20 (KT ks fs T T'):=by
 have l1:(Jp (J5 ks fs T)).length=(J5 ks fs T).length:=by simp [Jp]
 refine ⟨Nt (h1.sm (by omega)).flip.set h2.set,?_,?_⟩
 ·have:=Sx (Jp (J5 ks fs T)) (J5 ks fs T');have a1:=h1.len;have a2:=h2.len;unfold KT;omega
 ·have:=Tt (Jp (J5 ks fs T)) (J5 ks fs T');have a1:=h1.sum;have a2:=h2.sum;rw [Su] at this;unfold KT;omega
section
variable {k:Nat} (hk:k+1<=40) {T:Zs} (hi:SJ k T) {b:Bool} {x:List Vl} (hx:UJ x) (hb:b=false->1<=nf T x)
include hk hi hx hb
theorem zW {p:List Vl×Int} (hp:p∈KT Ev.kfK cfs T (ZO x (sd b) T)):(ZH Ev.kfK T (nmR Ev.kfK x)≠[]/\p.1=ZV Ev.kfK cfs T (nmR Ev.kfK x))\/ZH Ev.kfK (ZO x (sd b) T) (nmR Ev.kfK x)≠[]/\p.1=ZV Ev.kfK cfs (ZO x (sd b) T) (nmR Ev.kfK x):=by
 have hz:=(hi.ZfS Qi hx hb hk).set;have h1:=hz.Sr hp;have h2:=hz.net p hp;have h3:=(hi.chg Qi hx hb hk).on p.1;rw [h1] at h3;simp only [List.map_cons,List.map_nil,List.flatMap_cons,List.flatMap_nil,List.append_nil,Q4] at h3;by_cases g1:ZH Ev.kfK T (nmR Ev.kfK x)=[] <;> by_cases g2:ZH Ev.kfK (ZO x (sd b) T) (nmR Ev.kfK x)=[]
 ·simp only [g1,g2,if_true,List.append_nil,Qf] at h3;omega
 ·simp only [g1,g2,if_true,if_false,List.nil_append,Qf,Itm.net] at h3;by_cases e:ZV Ev.kfK cfs (ZO x (sd b) T) (nmR Ev.kfK x)=p.1
  ·exact .inr ⟨g2,e.symm⟩
  ·rw [if_neg e] at h3; omega
 ·simp only [g1,g2,if_true,if_false,List.append_nil,Qf,Itm.net] at h3;by_cases e:ZV Ev.kfK cfs T (nmR Ev.kfK x)=p.1
  ·exact .inl ⟨g1,e.symm⟩
  ·rw [if_neg e] at h3; omega
 ·by_cases e1:ZV Ev.kfK cfs T (nmR Ev.kfK x)=p.1
  ·exact .inl ⟨g1,e1.symm⟩
  ·by_cases e2:ZV Ev.kfK cfs (ZO x (sd b) T) (nmR Ev.kfK x)=p.1
   ·exact .inr ⟨g2,e2.symm⟩
   ·simp only [g1,g2,if_false,List.cons_append,List.nil_append,Qf,Itm.net] at h3;rw [if_neg e1,if_neg e2] at h3;omega
theorem ZdO:∀ p∈KT Ev.kfK cfs T (ZO x (sd b) T),Nz p.1:=fun p hp=>by
 rcases zW hk hi hx hb hp with ⟨h1,e⟩ | ⟨h1,e⟩
 ·rw [e]; exact NC (by omega) hi h1
 ·rw [e]; exact NC hk (hi.step Qi hx hb) h1
theorem FI:∀ p∈KT Ev.kfK cfs T (ZO x (sd b) T),nmR Ev.kgK p.1=nameOf [nI (Ja T (nmR Ev.kfK x))]/\p.1=ZV Ev.kfK cfs T (nmR Ev.kfK x)\/nmR Ev.kgK p.1=nameOf [nI (Ja T (nmR Ev.kfK x)+sd b)]/\p.1=ZV Ev.kfK cfs (ZO x (sd b) T) (nmR Ev.kfK x):=fun p hp=>by
 rcases zW hk hi hx hb hp with ⟨h1,e⟩ | ⟨h1,e⟩
 ·obtain ⟨a,e2,_⟩:=Mk (by omega) hi h1;exact .inl ⟨by rw [e,e2]; rfl,e⟩
 ·obtain ⟨a,e2,_⟩:=Mk hk (hi.step Qi hx hb) h1;rw [CP,if_pos rfl] at e2;exact .inr ⟨by rw [e,e2]; rfl,e⟩
theorem ZkR:nameOf [nI (Ja T (nmR Ev.kfK x))]≠nameOf [nI (Ja T (nmR Ev.kfK x)+sd b)]:=fun e=>by
 obtain ⟨c1,c2,_⟩:=Rq (by omega) hi (nmR Ev.kfK x);have hs:=E0 b;have v1:VN (nI (Ja T (nmR Ev.kfK x))):=Gg (by omega);have v2:VN (nI (Ja T (nmR Ev.kfK x)+sd b)):=Gg (by omega);have h:=WR (r:=[nI (Ja T (nmR Ev.kfK x))]) (q:=[nI (Ja T (nmR Ev.kfK x)+sd b)]) rfl (fun v hv=>by rw [List.mem_singleton.1 hv]; exact v1) (fun v hv=>by rw [List.mem_singleton.1 hv]; exact v2) e;have h2:Ja T (nmR Ev.kfK x)=Ja T (nmR Ev.kfK x)+sd b:=congrArg Vl.n (List.cons.inj h).1;omega
theorem NF:((KT Ev.kfK cfs T (ZO x (sd b) T)).map fun p=>nmR Ev.kgK p.1).Nodup:=by
 have hz:=(hi.ZfS Qi hx hb hk).set;have hne:=ZkR hk hi hx hb;unfold List.Nodup;rw [List.pairwise_map];refine List.Pairwise.imp_of_mem (fun {p q} hp hq h e => ?_) hz.ord
 have key:p.1=q.1:=by
  rcases FI hk hi hx hb p hp with ⟨n1,e1⟩ | ⟨n1,e1⟩ <;> rcases FI hk hi hx hb q hq with ⟨n2,e2⟩ | ⟨n2,e2⟩
  ·rw [e1,e2]
  ·rw [n1,n2] at e; exact absurd e hne
  ·rw [n1,n2] at e; exact absurd e.symm hne
  ·rw [e1,e2]
 have h0:=(QL (ZM (hz.row p hp)) (ZM (hz.row q hq))).2 key;omega
theorem ZiE:(KT Ev.kfK cfs T (ZO x (sd b) T)).length<=2:=by
 have h1:=W1 (L:=Np [nameOf [nI (Ja T (nmR Ev.kfK x))],nameOf [nI (Ja T (nmR Ev.kfK x)+sd b)]]) (QT _) (NF hk hi hx hb) fun n hn=>by
  obtain ⟨p,hp,e⟩:=List.mem_map.1 hn;refine Xj.2 ?_;rcases FI hk hi hx hb p hp with ⟨n1,_⟩ | ⟨n1,_⟩
  ·rw [<- e,n1]; exact List.mem_cons_self
  ·rw [<- e,n1]; exact List.mem_cons_of_mem _ List.mem_cons_self
 have h2:=h1.length_eq;have h3:=Rj [nameOf [nI (Ja T (nmR Ev.kfK x))],nameOf [nI (Ja T (nmR Ev.kfK x)+sd b)]];rw [List.length_append,List.length_map] at h2;simp only [List.length_cons,List.length_nil] at h3;omega
theorem Zbx:Ts Ev.kgK cfs (cI T) (KT Ev.kfK cfs T (ZO x (sd b) T)) (cI (ZO x (sd b) T)) (KT Ev.kgK cfs (cI T) (cI (ZO x (sd b) T))) where
 i:=qV (by omega) hi
 i':=qV hk (hi.step Qi hx hb)
 n0:=Nat.le_of_ble_eq_true rfl
 n6:=Nat.le_of_ble_eq_true rfl
 d:=(hi.ZfS Qi hx hb hk).sm (by omega)
 dn:=fun p hp=>(ZdO hk hi hx hb p hp).rn
 ds:=fun p hp=>(ZdO hk hi hx hb p hp).su
 nd:=NF hk hi hx hb
 ad:=fun r=>Rk _ _ _ _ r
 KS:=Zbw (hi.out Qi (by omega)).len (ZiE hk hi hx hb)
 o:=(Zab (Y5 (by omega) hi) (Y5 hk (hi.step Qi hx hb))).sm (by omega)
 on:=fun r=>EZ (NF hk hi hx hb) (fun key hkey=>by
  refine ZP.uniq ((qV hk (hi.step Qi hx hb)).WZ key).set ((qV (by omega) hi).WZ key).set fun r => ?_;rw [KZ,KZ];by_cases hr:nmR Ev.kgK r=key
  ·rw [if_pos hr,if_pos hr];have h1:=Rk Ev.kfK cfs T (ZO x (sd b) T) r;have h2:nf (KT Ev.kfK cfs T (ZO x (sd b) T)) r=0:=Yu fun p hp e=>hkey (List.mem_map.2 ⟨p,hp,by rw [e]; exact hr⟩);show nf (J5 Ev.kfK cfs (ZO x (sd b) T)) r=nf (J5 Ev.kfK cfs T) r;omega
  ·rw [if_neg hr,if_neg hr]) r
end
noncomputable def cM (T:Zs) (b:Bool) (x:List Vl) (t:Nat):Mn:=match t with
 | 0 => .nz
 | 1 => .set T
 | 2 => .set (cO T)
 | 3 => .obj (X1 Ev.kfK cfs T)
 | 8 => .row x
 | 9 => .set (ZO x (sd b) T)
 | 10 => .set (cO (ZO x (sd b) T))
 | 4 => .set (cI T)
 | 5 => .obj (X1 Ev.kgK cfs (cI T))
 | 11 => .obj (X1 Ev.kfK cfs (ZO x (sd b) T))
 | 12 => .set (cI (ZO x (sd b) T))
 | 15 => .obj (X1 Ev.kgK cfs (cI (ZO x (sd b) T)))
 | 17 => .set (KT Ev.kgK cfs (cI T) (cI (ZO x (sd b) T)))
 | 13 => .set [(x,sd b)]
 | 14 => .set (KT Ev.kfK cfs T (ZO x (sd b) T))
 | 16 => .set (Jp T)
 | _ => .none
theorem zX {T:Zs} {b:Bool} {x:List Vl} (a:Nat) (φ : (Nat->Prop)->World->Obj->Prop) (h:cM T b x a = .obj φ):∀ F w o,φ F w o->∃ es c,o = .map es c:=by
 intro F w o ho;have h1:∀ (ks:List Nat) (S:Zs),X1 ks cfs S F w o->∃ es c,o = .map es c:=fun ks S ⟨es,c,f,e,_⟩=>⟨es,c,e⟩
 unfold cM at h;split at h <;> first | (cases h; done) | (injection h with h; subst h; exact h1 _ _ ho)
noncomputable def cB (T:Zs) (t:Nat):Mn:=match t with
 | 0 => .nz
 | 1 => .set T
 | 2 => .set (cO T)
 | 3 => .obj (X1 Ev.kfK cfs T)
 | 4 => .set (cI T)
 | 5 => .obj (X1 Ev.kgK cfs (cI T))
 | _ => .none
theorem ZiF {T:Zs} (a:Nat) (φ : (Nat->Prop)->World->Obj->Prop) (h:cB T a = .obj φ):∀ F w o,φ F w o->∃ es c,o = .map es c:=by
 intro F w o ho;have h1:∀ (ks:List Nat) (S:Zs),X1 ks cfs S F w o->∃ es c,o = .map es c:=fun ks S ⟨es,c,f,e,_⟩=>⟨es,c,e⟩
 unfold cB at h;split at h <;> first | (cases h; done) | (injection h with h; subst h; exact h1 _ _ ho)
theorem Zmb (T:Zs) (b:Bool) (r:List Vl):∀ t F w v,QK (cB T) t F w v->QK (cM T b r) t F w v:=by
 intro t F w v h;unfold cB QK at h;unfold cM QK
 match t,h with
 | 0,h=>exact h
 | 1,h=>exact h
 | 2,h=>exact h
 | 3,h=>exact h
 | 4,h=>exact h
 | 5,h=>exact h
 | (t+6),h=>exact absurd h (by simp)
theorem ZkS (T:Zs) (b:Bool) (r:List Vl):∀ t F w o,Kz (cB T) t F w o->Kz (cM T b r) t F w o:=by
 intro t F w o h;unfold cB Kz at h;unfold cM Kz
 match t,h with
 | 0,h=>exact h
 | 1,h=>exact h
 | 2,h=>exact h
 | 3,h=>exact h
 | 4,h=>exact h
 | 5,h=>exact h
 | (t+6),h=>exact absurd h (by simp)
open Ev in
theorem ZkT {k:Nat} (hk:k+1<=40) {T:Zs} (h:SJ k T) {x:List Vl} (hx:UJ x) (hno:nf T x=0):ZdF (cM T true x) tbR:=by
 obtain ⟨r1,r3⟩:=hx.right;refine ⟨rfl,?_,?_,?_,?_,?_,?_,?_,?_,?_,?_,?_,?_,zX⟩
 all_goals intro a
 ·intro _ _ h; cases h
 ·intro _ _ _ h; cases h
 ·intro _ h; cases h
 ·intro c hc;simp only [tbR,List.mem_cons,List.not_mem_nil,or_false,Prod.mk.injEq] at hc;obtain ⟨rfl,rfl⟩:=hc;exact ⟨T,rfl,rfl,h.t.sm (by omega)⟩
 ·intro hc;simp only [tbR,List.mem_cons,List.not_mem_nil,or_false] at hc;subst hc;exact ⟨_,rfl⟩
 ·intro hc;simp only [tbR,List.mem_cons,List.not_mem_nil,or_false] at hc;subst hc;exact ⟨_,rfl,h.pos⟩
 ·intro hc;simp only [tbR,List.mem_cons,List.not_mem_nil,or_false] at hc;subst hc;exact ⟨_,rfl,by have:=h.t.sum; omega⟩
 ·intro h; cases h
 ·intro ks hc;simp only [tbR,List.mem_cons,List.not_mem_nil,or_false,Prod.mk.injEq] at hc;obtain ⟨rfl,rfl⟩:=hc;exact ⟨x,rfl,r3⟩
 ·intro ks hc;simp only [tbR,List.mem_cons,List.not_mem_nil,or_false,Prod.mk.injEq] at hc;obtain ⟨rfl,rfl⟩:=hc;exact ⟨_,rfl,fun p hp=>(h.row p hp).right.2⟩
 ·intro r b hc;simp only [tbR,List.mem_cons,List.not_mem_nil,or_false,Prod.mk.injEq] at hc;obtain ⟨rfl,rfl,rfl⟩:=hc;refine ⟨T,x,rfl,rfl,?_,((h.t.sm (by omega)).net x).1,((h.t.sm (by omega)).net x).2⟩;rw [CG h.t.set r1];simp [hno]
 ·intro _ _ _ _ h; cases h
open Ev in
theorem ZkU {k:Nat} (hk:k+1<=40) {T:Zs} (h:SJ k T) {b:Bool} {x:List Vl} (hx:UJ x) (hb:b=false->1<=nf T x):ZdF (cM T b x) (tbU b):=by
 obtain ⟨r1,r3⟩:=hx.right;have hs:=E0 b;have h2:=h.step Qi hx hb;have m1:Sm T:=h.t.sm (by omega);have m2:Sm (cO T):=(Y5 (by omega) h).sm (by omega);have m4:Sm (cI T):=(h.out Qi (by omega)).sm (by omega);have m9:Sm (ZO x (sd b) T):=h2.t.sm (by omega);have m10:Sm (cO (ZO x (sd b) T)):=(Y5 hk h2).sm (by omega);have m12:Sm (cI (ZO x (sd b) T)):=(h2.out Qi hk).sm (by omega);have m13:Sm [(x,sd b)]:=(H0 r1 hs).sm (by omega);have b17:=Zab (Y5 (by omega) h) (Y5 hk h2);have m17:Sm (KT kgK cfs (cI T) (cI (ZO x (sd b) T))):=b17.sm (by omega);refine ⟨rfl,?_,?_,?_,?_,?_,?_,?_,?_,?_,?_,?_,?_,zX⟩
 all_goals intro a
 ·intro a2 c hc;have hc:(a,a2,c)∈[(9,16,13),(1,13,9),(2,17,10),(4,14,12)]:=hc;simp only [List.mem_cons,List.not_mem_nil,or_false,Prod.mk.injEq] at hc;rcases hc with ⟨rfl,rfl,rfl⟩ | ⟨rfl,rfl,rfl⟩ | ⟨rfl,rfl,rfl⟩ | ⟨rfl,rfl,rfl⟩
  ·exact ⟨_,_,_,rfl,rfl,rfl,m13,fun r=>by rw [Ss,Kg,Rh]; omega⟩
  ·exact ⟨_,_,_,rfl,rfl,rfl,m9,fun r=>by rw [Ss,Kg]⟩
  ·exact ⟨_,_,_,rfl,rfl,rfl,m10,fun r=>Rk _ _ _ _ r⟩
  ·exact ⟨_,_,_,rfl,rfl,rfl,m12,fun r=>Rk _ _ _ _ r⟩
 ·intro r b' c hc;have hc:(a,r,b',c)∈[(1,8,b,9)]:=hc;simp only [List.mem_cons,List.not_mem_nil,or_false,Prod.mk.injEq] at hc;obtain ⟨rfl,rfl,rfl,rfl⟩:=hc;refine ⟨T,x,_,rfl,rfl,rfl,m9,fun r => ?_⟩;rw [Kg];rfl
 ·intro c hc;have hc:(a,c)∈[(1,16)]:=hc;simp only [List.mem_cons,List.not_mem_nil,or_false,Prod.mk.injEq] at hc;obtain ⟨rfl,rfl⟩:=hc;exact ⟨_,_,rfl,rfl,m1,m1.flip,Rh _⟩
 ·intro c hc;have hc:(a,c)∈[(1,1),(17,17)]:=hc;simp only [List.mem_cons,List.not_mem_nil,or_false,Prod.mk.injEq] at hc;rcases hc with ⟨rfl,rfl⟩ | ⟨rfl,rfl⟩
  ·exact ⟨_,rfl,rfl,m1⟩
  ·exact ⟨_,rfl,rfl,m17⟩
 ·intro hc;have hc:a∈[1,9,13]:=hc;simp only [List.mem_cons,List.not_mem_nil,or_false] at hc;rcases hc with rfl | rfl | rfl <;> exact ⟨_,rfl⟩
 ·intro hc;have hc:a∈[1,9]:=hc;simp only [List.mem_cons,List.not_mem_nil,or_false] at hc;rcases hc with rfl | rfl
  ·exact ⟨_,rfl,h.pos⟩
  ·exact ⟨_,rfl,h2.pos⟩
 ·intro hc;have hc:a∈[1,2,4,9,10,12]:=hc;simp only [List.mem_cons,List.not_mem_nil,or_false] at hc;rcases hc with rfl | rfl | rfl | rfl | rfl | rfl
  ·exact ⟨_,rfl,by have:=h.t.sum; omega⟩
  ·exact ⟨_,rfl,by have:=(Y5 (by omega) h).sum; show ZN (Zj (cO T))<513; omega⟩
  ·exact ⟨_,rfl,by have:ZN (Zj (cI T))<=10:=(h.out Qi (by omega)).sum; show ZN (Zj (cI T))<513; omega⟩
  ·exact ⟨_,rfl,by have:=h2.t.sum; omega⟩
  ·exact ⟨_,rfl,by have:=(Y5 hk h2).sum; show ZN (Zj (cO (ZO x (sd b) T)))<513; omega⟩
  ·exact ⟨_,rfl,by have:ZN (Zj (cI (ZO x (sd b) T)))<=10:=(h2.out Qi hk).sum; show ZN (Zj (cI (ZO x (sd b) T)))<513; omega⟩
 ·intro hc;have hc:a∈[1]:=hc;simp only [List.mem_cons,List.not_mem_nil,or_false] at hc;subst hc;exact ⟨_,rfl,by have:=h.t.sum; omega⟩
 ·intro ks hc;have hc:(a,ks)∈[(8,knd)]:=hc;simp only [List.mem_cons,List.not_mem_nil,or_false,Prod.mk.injEq] at hc;obtain ⟨rfl,rfl⟩:=hc;exact ⟨x,rfl,r3⟩
 ·intro ks hc;have hc:(a,ks)∈[(1,knd),(13,knd)]:=hc;simp only [List.mem_cons,List.not_mem_nil,or_false,Prod.mk.injEq] at hc;rcases hc with ⟨rfl,rfl⟩ | ⟨rfl,rfl⟩
  ·exact ⟨_,rfl,fun p hp=>(h.row p hp).right.2⟩
  ·exact ⟨_,rfl,fun p hp=>by rw [List.mem_singleton.1 hp]; exact r3⟩
 ·intro r b' hc;cases b
  ·have hc:(a,r,b')∈[(1,8,true)]:=hc;simp only [List.mem_cons,List.not_mem_nil,or_false,Prod.mk.injEq] at hc;obtain ⟨rfl,rfl,rfl⟩:=hc;have h1:=hb rfl;refine ⟨T,x,rfl,rfl,?_,(m1.net x).1,(m1.net x).2⟩;rw [CG h.t.set r1];simp; omega
  ·cases hc
 ·intro kf d a' o h1 hc;have h1:(a,kf)∈[(3,kfK,kfF),(5,kgK,kfF)]:=h1;have hc:(a,d,a',o)∈[(3,13,11,14),(5,14,15,17)]:=hc;simp only [List.mem_cons,List.not_mem_nil,or_false,Prod.mk.injEq] at h1 hc;rcases h1 with ⟨rfl,rfl⟩ | ⟨rfl,rfl⟩
  ·rcases hc with ⟨_,rfl,rfl,rfl⟩ | ⟨e,_⟩
   ·exact ⟨_,_,_,_,rfl,rfl,rfl,rfl,h.chg Qi hx hb hk⟩
   ·cases e
  ·rcases hc with ⟨e,_⟩ | ⟨_,rfl,rfl,rfl⟩
   ·cases e
   ·exact ⟨_,_,_,_,rfl,rfl,rfl,rfl,Zbx hk h hx hb⟩
open Ev in
theorem ZkV {k:Nat} (hk:k<=40) {T:Zs} (h:SJ k T):ZdF (cB T) tbE:=by
 refine ⟨rfl,?_,?_,?_,?_,?_,?_,?_,?_,?_,?_,?_,?_,ZiF⟩
 all_goals intro a
 ·intro _ _ h; cases h
 ·intro _ _ _ h; cases h
 ·intro _ h; cases h
 ·intro c hc;have hc:(a,c)∈[(2,2)]:=hc;simp only [List.mem_cons,List.not_mem_nil,or_false,Prod.mk.injEq] at hc;obtain ⟨rfl,rfl⟩:=hc;exact ⟨_,rfl,rfl,(Y5 hk h).sm (by omega)⟩
 ·intro h; cases h
 ·intro h; cases h
 ·intro h; cases h
 ·intro h; cases h
 ·intro _ h; cases h
 ·intro _ h; cases h
 ·intro _ _ h; cases h
 ·intro _ _ _ _ h; cases h
end
namespace Ev
open Go Go.Proofs
theorem Zf1:Bool.and (CO pU0) (Qh prog B0 M0 1000000 200 pU0)=true:=by decide +kernel
end Ev
namespace Ev
open Go Go.Proofs
section
variable {S S':Sig} (hx:S'.x=S.x) (hy:S'.y=S.y) (ha:S'.arg=S.arg) (hm:∀ t F w v,S.Q8 t F w v->S'.Q8 t F w v) (ho:∀ t F w o,S.Xi t F w o->S'.Xi t F w o) {r:Rho}
include hx hy ha hm
mutual
theorem VR.sig:∀ {v:Zb} {u:Value},@VR S r v u->@VR S' r v u:=fun {v u} h=>by
 cases h with
 | bool b=>exact @VR.bool S' r b
 | int k n=>exact @VR.int S' r k n
 | flt k b=>exact @VR.flt S' r k b
 | Z4 k a b=>exact @VR.Z4 S' r k a b
 | str l=>exact @VR.str S' r l
 | Zo=>exact @VR.Zo S' r
 | ptr h=>exact @VR.ptr S' r _ _ _ h
 | Za=>exact @VR.Za S' r
 | Z8 a c=>exact @VR.Z8 S' r a c
 | slice h hn hc hu=>exact @VR.slice S' r _ _ _ _ _ _ h hn hc hu
 | Zk=>exact @VR.Zk S' r
 | map h=>exact @VR.map S' r _ _ h
 | func f ha' hb=>exact @VR.func S' r f _ _ _ _ (VRs.sig ha') (VRs.sig hb)
 | ZQ=>exact @VR.ZQ S' r
 | nilIface=>exact @VR.nilIface S' r
 | iface t h=>exact @VR.iface S' r t _ _ (VR.sig h)
 | agg h=>exact @VR.agg S' r _ _ (VRs.sig h)
 | tuple h=>exact @VR.tuple S' r _ _ (VRs.sig h)
 | sint k h=>exact @VR.sint S' r k _ _ _ _ (by rw [hx,hy]; exact h)
 | raw h=>exact @VR.raw S' r _ _ (by rw [ha]; exact h)
 | gho h hg hu hm'=>exact @VR.gho S' r _ _ _ _ _ h hg hu (hm _ _ _ _ hm')
theorem VRs.sig:∀ {l:List Zb} {l':List Value},@VRs S r l l'->@VRs S' r l l':=fun {l l'} h=>by
 cases h with
 | nil=>exact @VRs.nil S' r
 | cons h t=>exact @VRs.cons S' r _ _ _ _ (VR.sig h) (VRs.sig t)
end
theorem ERs.sig {l:List Entry} {l':List MapEntry} (h:@ERs S r l l'):@ERs S' r l l':=by
 induction h with
 | nil=>exact @ERs.nil S' r
 | cons h _ ih=>exact @ERs.cons S' r _ _ _ _ ⟨VR.sig hx hy ha hm h.1,VR.sig hx hy ha hm h.2.1,h.2.2⟩ ih
include ho in
theorem BR.sig {b:Zd} {x:RB} {o:Obj} (h:@BR S r b x o):@BR S' r b x o:=by
 cases b with
 | cells cs e opn =>
  obtain ⟨h0,vs,rest,t,fr,h1,h2,h3⟩:=h;exact ⟨h0,vs,rest,t,fr,h1,VRs.sig hx hy ha hm h2,h3⟩
 | map es c =>
  obtain ⟨l,h1,h2⟩:=h;exact ⟨l,h1,ERs.sig hx hy ha hm h2⟩
 | mapIter m since seen st =>
  cases m with
  | none=>exact h
  | some m=>exact h
 | opq i t =>
  obtain ⟨y,g,h1,h2,h3⟩:=h;exact ⟨y,g,h1,h2,ho _ _ _ _ h3⟩
include ho in
theorem Kn.sig {s:St} {T:Nat->Prop} {w:World} {L:List Zb} {U:List Value} (h:Kn S s T w L U):Kn S' s T w L U:=by
 obtain ⟨r,⟨⟨h1,h2⟩,h3,h4,h5⟩,h6,h7⟩:=h;refine ⟨r,@Rel.mk S' _ _ _ (@RelB.mk S' _ _ _ (fun i b x hb hx' => ?_) h2) h3 h4 h5,VRs.sig hx hy ha hm h6,h7⟩;obtain ⟨o,k1,k2⟩:=h1 i b x hb hx';exact ⟨o,k1,BR.sig hx hy ha hm ho k2⟩
end
end Ev
namespace Ev
open Go Go.Proofs Go.RowKit
def M0s (t:Nat):Mn:=match t with
 | 0 => .nz
 | _ => .none
noncomputable abbrev S0:Sig:=ZdK M0s rfl 0 0 (by decide) (by decide)
section
variable {S:Sig} {r:Rho} {a:Zb} {u:Value} {l:List Zb} {m:List Value}
theorem vn:@VRs S r [] []:=@VRs.nil S r
theorem vc (h:@VR S r a u) (t:@VRs S r l m):@VRs S r (a::l) (u::m):=@VRs.cons S r _ _ _ _ h t
theorem vi {k:IntKind} {n:Int}:@VR S r (.int k n) (.int k n):=@VR.int S r k n
theorem vs {l:List UInt8}:@VR S r (.str l) (.string ⟨⟨l⟩⟩):=@VR.str S r l
theorem vb {b:Bool}:@VR S r (.bool b) (.bool b):=@VR.bool S r b
theorem vh (h:@VRs S r (a::l) (u::m)):@VR S r a u:=((@VP S _ _ _ _ _).1 h).1
theorem vt (h:@VRs S r (a::l) (u::m)):@VRs S r l m:=((@VP S _ _ _ _ _).1 h).2
end
section
variable {S:Sig} {s:St} {T:Nat->Prop} {w:World} {L:List Zb} {U:List Value} {u:Value}
theorem Kn.ptr {i o:Nat} (h:Kn S s T w (.ptr i o::L) (u::U)):∃ b,u = .pointer (some ⟨b,o,none⟩):=by
 obtain ⟨r,_,hv,_⟩:=h;obtain ⟨hx,_⟩:=(@VP S _ _ _ _ _).1 hv;clear hv;cases hx;exact ⟨_,rfl⟩
theorem Kn.rep {a b:Int} (h:Kn S s T w (.agg [.int .i64 a,.int .i64 b,.str []]::L) (u::U)):u = .agg #[.int .i64 a,.int .i64 b,.string ⟨#[]⟩]:=by
 obtain ⟨r,_,hv,_⟩:=h;obtain ⟨hx,_⟩:=(@VP S _ _ _ _ _).1 hv;clear hv;cases hx with
 | agg h=>cases h with
  | cons h1 h=>cases h with
   | cons h2 h=>cases h with
    | cons h3 h=>cases h; cases h1; cases h2; cases h3; rfl
theorem Kn.entry {a b c:Int} {n t:List UInt8} {i m:Nat} (h:Kn S s T w (.agg [.int .i64 a,.int .i64 b,.int .i64 c,.str n,.str t,.slice i 0 m none,.Za]::L) (u::U)) :
  ∃ A cap,u = .agg #[.int .i64 a,.int .i64 b,.int .i64 c,.string ⟨⟨n⟩⟩,.string ⟨⟨t⟩⟩,.slice A m cap,.slice none 0 0]:=by
 obtain ⟨r,_,hv,_⟩:=h;obtain ⟨hx,_⟩:=(@VP S _ _ _ _ _).1 hv;clear hv;cases hx with
 | agg h=>cases h with
  | cons h1 h=>cases h with
   | cons h2 h=>cases h with
    | cons h3 h=>cases h with
     | cons h4 h=>cases h with
      | cons h5 h=>cases h with
       | cons h6 h=>cases h with
        | cons h7 h=>cases h; cases h1; cases h2; cases h3; cases h4; cases h5; cases h6; cases h7; exact ⟨_,_,rfl⟩
end
abbrev TT (w:World):Nat->Prop:=fun k=>w.heap.size<=k
theorem Kn.low {S:Sig} {s:St} {T:Nat->Prop} {w0 w w':World} {L:List Zb} {U:List Value} (h:Kn S s (fun k=>T k\/w.heap.size<=k) w' L U) (hT:∀ k,T k->w0.heap.size<=k) (hw:w0.heap.size<=w.heap.size):Kn S s (TT w0) w' L U :=
 h.mono fun k hk _=>by
  rcases hk with hk | hk
  ·exact hT k hk
  ·show w0.heap.size<=k;omega
def SL (w0 w2:World) (g ch:Value) (c q:Int) (R:Value->World->Prop):Prop :=
 ∃ P1 P2:Value->World->Prop,
  Calls prog 16 #[ch] w2 (fun e w'=>∃ u,e = .returned u/\P1 u w') /\
  (∀ u w',P1 u w'->Calls prog 11 #[u,.int .i64 c,.int .i64 q] w' fun e w'=>∃ u,e = .returned u/\P2 u w') /\
  (∀ u w',P2 u w'->Calls prog 10 #[g,u] w' fun e w'=>∃ u,e = .returned u/\R u w')
theorem Kn.tup {S:Sig} {s:St} {T:Nat->Prop} {w:World} {L:List Zb} {U:List Value} {u:Value} {i t:Nat} {M:Nat->Mn} {A:Zs} (h:Kn S s T w (.tuple [.gho i t,.bool true]::L) (u::U)) (hM:S.Q8=QK M) (hA:M t = .set A) :
  ∃ sv,u = .tuple #[sv,.bool true]/\Sm A/\Zp T w sv (Zj A):=by
 have h':=h;obtain ⟨r,_,hv,_⟩:=h';have hx:=vh hv
 have key:∃ sv,u = .tuple #[sv,.bool true]:=by
  cases hx with
  | tuple hx=>cases hx with
   | cons h1 hx=>cases hx with
    | cons h2 hx=>cases hx; cases h2; exact ⟨_,rfl⟩
 obtain ⟨sv,rfl⟩:=key
 have hk:Kn S s T w [.gho i t] [sv]:=h.pick fun r h=>by
  have hx:=vh h;cases hx with
  | tuple hx=>exact vc (vh hx) vn
 obtain ⟨h1,h2⟩:=hk.set hM (fun r h=>vh h) hA;exact ⟨sv,rfl,h1,h2⟩
theorem Kn.VF {S:Sig} {s:St} {T T':Nat->Prop} {w w':World} {L:List Zb} {U:List Value} (h:Kn S s T w L U) (hc:Chg T' w w') (hd:∀ k,T k->¬ T' k):Kn S s T w' L U:=by
 obtain ⟨r,⟨⟨h1,h2⟩,h3,h4,h5⟩,h6,h7⟩:=h;refine ⟨r,@Rel.mk S _ _ _ (@RelB.mk S _ _ _ (fun i b x hb hx => ?_) h2) h3 h4 (fun i x g hx hg => ?_),h6,h7⟩
 ·obtain ⟨o,k1,k2⟩:=h1 i b x hb hx;exact ⟨o,hc.heap k1 (hd _ (h7 _ (.inl ⟨i,b,x,hb,hx,rfl⟩))),k2⟩
 ·obtain ⟨k1,k2⟩:=h5 i x g hx hg;have hs:=hc.size;refine ⟨Nat.le_trans k1 hs,fun k hk hl=>⟨?_,(k2 k hk hl).2⟩⟩;rw [hc.block k (by omega) (hd k (h7 k (.inr ⟨i,x,g,hx,hg,hk,hl⟩)))];exact (k2 k hk hl).1
end Ev
namespace Ev
open Go Go.Proofs
theorem zY [Sig]:∀ x∈RL,Qe prog x.1 x.2:=by
 intro x hx;simp only [RL,List.mem_cons,List.not_mem_nil,or_false] at hx;subst hx;refine ve fun e he => ?_;simp only [List.mem_cons,List.not_mem_nil,or_false] at he;subst he;have h:=Zf1;rw [Bool.and_eq_true] at h;exact ⟨rfl,h.1,Qm zf (fun _ _=>rfl) Qt h.2⟩
theorem ZiG [Sig]:Xe prog BRd:=T6 fun x hx=>by
 rcases List.mem_append.1 hx with h | h
 ·exact Ch x h
 ·exact zY x h
theorem vo [Sig] {M:Nat->Mn} (hM:Sig.Q8=QK M) (hO:Sig.Xi=Kz M) {t:Tb} (ok:ZdF M t):Xe prog (BG t):=T6 fun x hx=>by
 rcases List.mem_append.1 hx with h | h
 ·exact Ch x h
 ·rcases List.mem_append.1 h with h | h
  ·exact zY x h
  ·exact ZkN hM hO ok x h
end Ev
namespace Ev
open Go Go.Proofs
theorem UK [Sig] (h:ZiD=true):∃ s1 ct s2 s3 b1 s4 s5,
  cR 9 [] ⟨.lf,0⟩ = .ok (.ptr 3 0) s1/\cR 13 [] s1 = .ok ct s2/\cR 12 [ZdL,ct] s2 = .ok eT1 s3 /\
  cR 11 [eT1,vI 0,vI 1] s3 = .ok b1 s4/\cR 10 [.ptr 3 0,b1] s4 = .ok UI s5/\XK V2 (.ptr 3 0) s5=true:=by
 unfold ZiD at h
 generalize cR=c at h ⊢
 obtain ⟨g,s1,k1,h⟩:=Jg h;obtain ⟨e1,h⟩:=Jf h;have e1:=QP _ _ e1;subst e1;obtain ⟨ct,s2,k2,h⟩:=Jg h;obtain ⟨g,s3,k3,h⟩:=Jg h;obtain ⟨e1,h⟩:=Jf h;have e1:=QP _ _ e1;subst e1;obtain ⟨b1,s4,k4,h⟩:=Jg h;obtain ⟨g,s5,k5,h⟩:=Jg h;obtain ⟨e1,h⟩:=Jf h;have e1:=QP _ _ e1;subst e1;exact ⟨s1,ct,s2,s3,b1,s4,s5,k1,k2,k3,k4,k5,h⟩
theorem UL [Sig] (h:preB=true):∃ s0 b s1 s2,cR 14 [txN,txV] V2.S = .ok eT2 s0/\cR 11 [eT2,vI 0,vI 2] s0 = .ok b s1/\cR 10 [.ptr 0 0,b] s1 = .ok UI s2/\XK V4 (.ptr 0 0) s2=true:=by
 unfold preB at h
 generalize cR=c at h ⊢
 obtain ⟨g,s0,k0,h⟩:=Jg h;obtain ⟨e1,h⟩:=Jf h;have e1:=QP _ _ e1;subst e1;obtain ⟨b,s1,k1,h⟩:=Jg h;obtain ⟨g,s2,k2,h⟩:=Jg h;obtain ⟨e1,h⟩:=Jf h;have e1:=QP _ _ e1;subst e1;exact ⟨s0,b,s1,s2,k0,k1,k2,h⟩
theorem Zby [Sig] {t:Tb} {V:Vd} {b:Bool} {rep:Zb} (h:SI t V b rep=true):∃ e s1 y s2 s3,cG t 16 [.slice 52 0 1 none] (stU b) = .ok e s1 /\
  cG t 11 [e,vI 0,.sint .i64 (.ofNat 3) (.ofNat 1) (.ofNat 0)] s1 = .ok y s2/\cG t 10 [.ptr 0 0,y] s2 = .ok rep s3/\XK V (.ptr 0 0) s3=true:=by
 obtain ⟨e,s1,k1,h⟩:=Jg h;obtain ⟨y,s2,k2,h⟩:=Jg h;obtain ⟨g,s3,k3,h⟩:=Jg h;obtain ⟨e1,hv⟩:=Jf h;rw [QP _ _ e1] at k3;exact ⟨e,s1,y,s2,s3,k1,k2,k3,hv⟩
theorem ZdR {v:Zb} {t:Nat} (h:isSet v t=true):∃ i,v = .tuple [.gho i t,.bool true]:=by
 unfold isSet at h;split at h
 ·exact ⟨_,by rw [Nat.eq_of_beq_eq_true h]⟩
 ·cases h
theorem UM (h:ZhD=true):∃ i s,cG tbE 19 [.ptr 0 0,txN] VU.S = .ok (.tuple [.gho i 2,.bool true]) s/\XK VB (.ptr 0 0) s=true:=by
 obtain ⟨g,s1,k1,h⟩:=Jg h;obtain ⟨e1,h⟩:=Jf h;obtain ⟨i1,rfl⟩:=ZdR e1;exact ⟨i1,s1,k1,h⟩
end Ev
namespace Ev
open Go Go.Proofs Go.RowKit
def KnH (S:Sig) (s:St) (H T:Nat->Prop) (w:World) (L:List Zb) (U:List Value):Prop :=
 ∃ r,@Rel S r s w/\@VRs S r L U/\(∀ k,Hit r s k->H k)/\∀ k,JB r k->T k
section
variable {S S':Sig} {s s':St} {H T H' T':Nat->Prop} {w w':World} {L L':List Zb} {U U':List Value} {u:Value}
theorem Kn.toH (h:Kn S s T w L U):KnH S s T T w L U:=by
 obtain ⟨r,h1,h2,h3⟩:=h;exact ⟨r,h1,h2,fun k hk=>h3 k (.inl hk),fun k hk=>h3 k (.inr hk)⟩
theorem KnH.to (h:KnH S s H T w L U):Kn S s (fun k=>H k\/T k) w L U:=by
 obtain ⟨r,h1,h2,h3,h4⟩:=h;exact ⟨r,h1,h2,fun k hk=>hk.imp (h3 k) (h4 k)⟩
theorem KnH.mono (h:KnH S s H T w L U) (hH:∀ k,H k->k<w.heap.size->H' k) (hT:∀ k,T k->k<w.heap.size->T' k):KnH S s H' T' w L U:=by
 obtain ⟨r,h1,h2,h3,h4⟩:=h;refine ⟨r,h1,h2,fun k hk=>hH k (h3 k hk) (@Rel.lt S _ _ _ h1 _ hk),fun k hk=>hT k (h4 k hk) ?_⟩;obtain ⟨i,x,g,h5,h6,h7,h8⟩:=hk;have:=(@Rel.safe S _ _ _ h1 i x g h5 h6).1;omega
theorem KnH.pick (h:KnH S s H T w L U) (hL:∀ r,@VRs S r L U->@VRs S r L' U'):KnH S s H T w L' U':=by
 obtain ⟨r,h1,h2,h3⟩:=h;exact ⟨r,h1,hL r h2,h3⟩
theorem KnH.Zf {C:Nat->Prop} (h:KnH S s H T w L U) (hc:Chg C w w') (hH:∀ k,H k->¬ C k) (hT:∀ k,T k->¬ C k):KnH S s H T w' L U:=by
 obtain ⟨r,⟨⟨h1,h2⟩,h3,h4,h5⟩,h6,h7,h8⟩:=h;refine ⟨r,@Rel.mk S _ _ _ (@RelB.mk S _ _ _ (fun i b x hb hx => ?_) h2) h3 h4 (fun i x g hx hg => ?_),h6,h7,h8⟩
 ·obtain ⟨o,k1,k2⟩:=h1 i b x hb hx;exact ⟨o,hc.heap k1 (hH _ (h7 _ ⟨i,b,x,hb,hx,rfl⟩)),k2⟩
 ·obtain ⟨k1,k2⟩:=h5 i x g hx hg;have hs:=hc.size;refine ⟨Nat.le_trans k1 hs,fun k hk hl=>⟨?_,(k2 k hk hl).2⟩⟩;rw [hc.block k (by omega) (hT k (h8 k ⟨i,x,g,hx,hg,hk,hl⟩))];exact (k2 k hk hl).1
theorem KnH.sig (hx:S'.x=S.x) (hy:S'.y=S.y) (ha:S'.arg=S.arg) (hm:∀ t F w v,S.Q8 t F w v->S'.Q8 t F w v) (ho:∀ t F w o,S.Xi t F w o->S'.Xi t F w o) (h:KnH S s H T w L U):KnH S' s H T w L U:=by
 obtain ⟨r,⟨⟨h1,h2⟩,h3,h4,h5⟩,h6,h7⟩:=h;refine ⟨r,@Rel.mk S' _ _ _ (@RelB.mk S' _ _ _ (fun i b x hb hx' => ?_) h2) h3 h4 h5,VRs.sig hx hy ha hm h6,h7⟩;obtain ⟨o,k1,k2⟩:=h1 i b x hb hx';exact ⟨o,k1,BR.sig hx hy ha hm ho k2⟩
theorem KnH.call {B:YT} {f:FuncId} {args:List Zb} {us:List Value} {v:Zb} (h:KnH S s H T w L U) (hB:@Xe S prog B) (aA:∀ f id,B.reg f id=none) (hcall:Hv prog B ME 1000000 200 f args s = .ok v s')
  (he:∀ us W,(callFunc f us).run prog W = .ok (.enter f us) W) (hargs:∀ r,@VRs S r L U->@VRs S r args us) :
  Calls prog f ⟨us⟩ w fun e w'=>∃ u,e = .returned u/\KnH S s' (fun k=>H k\/w.heap.size<=k) (fun k=>T k\/w.heap.size<=k) w' (v::L) (u::U)/\Chg H w w':=by
 obtain ⟨r,h1,h2,h3,h4⟩:=h;have hc:=@Ww S _ _ hB aA Qt ME 1000000 200 f args s v s' hcall r w us h1 (hargs r h2);rcases hc with ⟨u,w',h5,_⟩ | ⟨_,h5⟩
 ·rw [he] at h5;cases h5
 ·refine h5.mono ?_;rintro e w' ⟨u,rfl,q,hx,hu⟩;refine ⟨u,rfl,⟨q,@Ext.rel S _ _ _ _ _ _ hx,@VRs.cons S _ _ _ _ _ hu (@VRs.mono S _ _ (@Ext.le S _ _ _ _ _ _ hx) _ _ h2),fun k hk => ?_,fun k hk => ?_⟩,?_⟩
  ·exact (@Ext.XP S _ _ _ _ _ _ hx k hk).imp (h3 k) id
  ·exact (@Ext.Wl S _ _ _ _ _ _ hx k hk).imp (h4 k) id
  ·exact ⟨@Ext.os S _ _ _ _ _ _ hx,@Ext.tape S _ _ _ _ _ _ hx,@Ext.output S _ _ _ _ _ _ hx,@Ext.size S _ _ _ _ _ _ hx,fun k hk hn=>@Ext.frame S _ _ _ _ _ _ hx k hk fun hh=>hn (h3 k hh)⟩
theorem KnH.gho {t:Nat} {F:Nat->Prop} (h:KnH S s H T w L U) (h1:u.oneCell'=true) (h2:∀ b,u ≠ .bool b) (hF:∀ k,F k->¬ H k) (hm:S.Q8 t F w u):KnH S s.VJ H (fun k=>T k\/F k) w (.gho s.next t::L) (u::U):=by
 obtain ⟨r,k1,k2,k3,k4⟩:=h;obtain ⟨q,q1,q2,q3,q4,q5⟩:=@H9 S _ _ _ k1 u F t h1 h2 (fun k hk hh=>hF k hk (k3 k hh)) hm;refine ⟨q,q1,@VRs.cons S _ _ _ _ _ q3 (@VRs.mono S _ _ q2 _ _ k2),fun k hk=>k3 k (q4 k hk),fun k hk => ?_⟩;exact (q5 k hk).imp (k4 k) id
theorem KnH.blk {k e:Nat} {cs:List Zb} {vs:List Value} {t:TypeId} (h:KnH S s H T w L U) (hcs:∀ r,@VRs S r L U->@VRs S r cs vs) (ho:w.heap[k]? = some (.cells ⟨vs⟩ t (0,0))) (hH:¬ H k) (hT:¬ T k) (n:Nat) (he:n*e=vs.length) :
  KnH S (s.new (.cells cs e false)) (fun j=>H j\/j=k) T w (.slice s.next 0 n none::L) (.slice (some ⟨k,0,none⟩) n n::U):=by
 obtain ⟨r,k1,k2,k3,k4⟩:=h;obtain ⟨q,q1,q2,q3,q4,q5⟩:=@Ga S _ _ _ k1 k e cs vs t ho (hcs r k2) (fun hh=>hH (k3 k hh)) (fun hh=>hT (k4 k hh));refine ⟨q,q1,@VRs.cons S _ _ _ _ _ (@VR.slice S q s.next 0 n none _ n q3 (Nat.le_refl _) (fun _ h=>by cases h) (fun _=>by show 0+n*e=vs.length; omega)) (@VRs.mono S _ _ q2 _ _ k2),fun j hj => ?_,fun j hj=>k4 j (q5 j hj)⟩;exact (q4 j hj).imp (k3 j) id
theorem KnH.view {V:Vd} {v:Zb} (h:KnH S s H T w L U) (hv:∀ r,@VRs S r L U->@VR S r v u) (dZ:XK V v s=true) (hz:V.z=true->S'.x=0) (hd:V.z=false->S'.x=S.x+V.d) (hk:S'.y=V.k)
  (jK:∀ a b,(a,b)∈V.tg->∀ F w v,S.Q8 a F w v->S'.Q8 b F w v) (hte:∀ b∈V.te,∀ w,S'.Q8 b (fun _=>False) w (.slice none 0 0)) (hto:∀ a b,(a,b)∈V.tg->∀ F w o,S.Xi a F w o->S'.Xi b F w o) (kY:∀ b∈V.tm,∀ w c,S'.Xi b (fun _=>False) w (.map #[] c)):KnH S' V.S H T w [.ptr 0 0] [u]:=by
 obtain ⟨r,k1,k2,k3,k4⟩:=h;obtain ⟨c1,dZ⟩:=ZG (show sel _ (sel _ (sel _ _ false) false) false=true from dZ);obtain ⟨c2,dZ⟩:=ZG dZ;obtain ⟨c3,c4⟩:=ZG dZ;obtain ⟨o1,o2,o3,o4⟩:=CJ (S:=S) (S':=S') k1 rfl rfl c1 c2 c3 hz hd hk (fun a b h=>jK a b (YC h)) (fun b h=>hte b (WA.1 h) w) (fun a b h=>hto a b (YC h)) (fun b h=>kY b (WA.1 h) w);exact ⟨_,o2,@VRs.cons S' _ _ _ _ _ (SB o1 _ _ _ c4 (hv r k2)) (@VRs.nil S' _),fun k hk=>k3 k (o3 k hk),fun k hk=>k4 k (o4 k hk)⟩
theorem KnH.rep {a b:Int} (h:KnH S s H T w (.agg [.int .i64 a,.int .i64 b,.str []]::L) (u::U)):u = .agg #[.int .i64 a,.int .i64 b,.string ⟨#[]⟩]:=h.to.rep
end
end Ev
namespace Ev
open Go Go.Proofs
theorem ZdS:SI (tbU true) VU false UI=true:=by decide +kernel
end Ev
namespace Ev
open Go Go.Proofs
theorem ZdT:SI (tbU false) VU true UI=true:=by decide +kernel
end Ev
namespace Ev
open Go Go.Proofs
theorem ZdU:SI tbR VA true Zma=true:=by decide +kernel
end Ev
namespace Ev
open Go Go.Proofs
theorem Zbz:ZhD=true:=by decide +kernel
end Ev
namespace Ev
open Go Go.Proofs Go.RowKit
noncomputable abbrev S1 (T:Zs) (x y:Int) (hx:0<=x/\x<=1000) (hy:0<=y/\y<=1000):Sig:=ZdK (cB T) rfl x y hx hy
noncomputable abbrev S2 (T:Zs) (b:Bool) (r:List Vl) (x y:Int) (hx:0<=x/\x<=1000) (hy:0<=y/\y<=1000):Sig:=ZdK (cM T b r) rfl x y hx hy
theorem KnH.lift {S:Sig} {s:St} {H T H1 T1:Nat->Prop} {w w':World} {L:List Zb} {U:List Value} (h:KnH S s (fun k=>H k\/w.heap.size<=k) (fun k=>T k\/w.heap.size<=k) w' L U) (hH:∀ k,H k->H1 k) (hT:∀ k,T k->T1 k) (hH1:∀ k,w.heap.size<=k->H1 k) (hT1:∀ k,w.heap.size<=k->T1 k):KnH S s H1 T1 w' L U :=
 h.mono (fun k hk _=>hk.elim (hH k) (hH1 k)) fun k hk _=>hk.elim (hT k) (hT1 k)
theorem Gi {S S':Sig} {t:Tb} (hB:@Xe S prog (BG t)) {V:Vd} {rep:Zb} {rem:Bool} {g ch:Value} {w1 w2:World} {H T H1 T1:Nat->Prop} {row:Value}
  (dZ:SI t V rem rep=true) (K:KnH S (stU rem) H T w2 [.slice 52 0 1 none,.gho 51 8,.ptr 0 0] [ch,row,g]) (hH:∀ k,H k->H1 k) (hT:∀ k,T k->T1 k) (hH1:∀ k,w2.heap.size<=k->H1 k) (hT1:∀ k,w2.heap.size<=k->T1 k) (hc:Chg (fun _=>False) w1 w2)
  {q:Int} (hq:q=3+S.x) (hz:V.z=false) (hd:S'.x=S.x+V.d) (hk:S'.y=V.k)
  (jK:∀ a b,(a,b)∈V.tg->(∀ F w v,S.Q8 a F w v->S'.Q8 b F w v)/\(∀ F w o,S.Xi a F w o->S'.Xi b F w o)) (hte:V.te=[]) (kY:V.tm=[]) {ra rb:Int} (hrep:rep = .agg [.int .i64 ra,.int .i64 rb,.str []]) :
  SL w1 w2 g ch 0 q fun v w'=>v = .agg #[.int .i64 ra,.int .i64 rb,.string ⟨#[]⟩]/\KnH S' V.S H1 T1 w' [.ptr 0 0] [g]/\Chg H1 w1 w':=by
 obtain ⟨e,s1,y,s2,s3,c1,c2,c3,hv⟩:=@Zby S _ _ _ _ dZ;subst hrep;refine ⟨fun v w'=>KnH S s1 H1 T1 w' [e,.ptr 0 0] [v,g]/\Chg H1 w1 w'/\w2.heap.size<=w'.heap.size,fun v w'=>KnH S s2 H1 T1 w' [y,.ptr 0 0] [v,g]/\Chg H1 w1 w'/\w2.heap.size<=w'.heap.size,?_,?_,?_⟩
 ·refine (K.call hB (fun _ _=>rfl) c1 (fun us W=>call16 us W) (us:=[ch]) (fun r h=>vc (vh h) vn)).mono ?_;rintro _ w' ⟨v,rfl,K',h'⟩;exact ⟨v,rfl,(K'.lift hH hT hH1 hT1).pick fun r h=>vc (vh h) (vc (vh (vt (vt (vt h)))) vn),(((Chg.refl H1 w1).trans hc fun _ _ h=>h.elim).trans h' fun i hi hk=>hH i hk),h'.size⟩
 ·rintro v w' ⟨K',h',hs⟩;refine (K'.call hB (fun _ _=>rfl) c2 (fun us W=>call11 us W) (us:=[v,.int .i64 0,.int .i64 q]) (fun r h=>vc (vh h) (vc vi (vc (@VR.sint S r .i64 (.ofNat 3) (.ofNat 1) (.ofNat 0) q (by rw [hq]; show 3+S.x=3+1*S.x+0*S.y; omega)) vn)))).mono ?_;rintro _ w3 ⟨v2,rfl,K2,h2⟩;exact ⟨v2,rfl,(K2.lift (fun _ h=>h) (fun _ h=>h) (fun k hk=>hH1 k (Nat.le_trans hs hk)) fun k hk=>hT1 k (Nat.le_trans hs hk)).pick fun r h=>vc (vh h) (vc (vh (vt (vt h))) vn),h'.trans h2 fun i hi hk=>hk,Nat.le_trans hs h2.size⟩
 ·rintro v w' ⟨K',h',hs⟩;refine (K'.call hB (fun _ _=>rfl) c3 (fun us W=>call10 us W) (us:=[g,v]) (fun r h=>vc (vh (vt h)) (vc (vh h) vn))).mono ?_;rintro _ w3 ⟨v2,rfl,K2,h2⟩;have K3:=K2.lift (fun _ h=>h) (fun _ h=>h) (fun k hk=>hH1 k (Nat.le_trans hs hk)) fun k hk=>hT1 k (Nat.le_trans hs hk);exact ⟨v2,rfl,K3.rep,K3.view (fun r h=>vh (vt (vt h))) hv (fun h=>by rw [hz] at h; cases h) (fun _=>hd) hk (fun a b h=>(jK a b h).1) (fun b hb=>by rw [hte] at hb; cases hb) (fun a b h=>(jK a b h).2) (fun b hb=>by rw [kY] at hb; cases hb),h'.trans h2 fun i hi hk=>hk⟩
def PW:ByteArray:=⟨#[117]⟩
theorem ZiH {S:Sig} {r:Rho}:@VR S r ZdL (.string PW):=@VR.str S r [117]
def qW (n:Int):Value := .agg #[.int .i64 n,.int .i64 0,.string ⟨#[]⟩]
def Wo (H Tf:Nat->Prop) (g:Value) (n:Nat) (T:Zs) (w':World):Prop :=
 ∃ hx hy,SJ n T/\KnH (S1 T n 0 hx hy) VU.S H Tf w' [.ptr 0 0] [g]
def Vk (H Tf:Nat->Prop) (g:Value) (n:Nat) (T:Zs) (w':World):Prop :=
 ∃ y hx hy,SJ n T/\KnH (S1 T n y hx hy) VA.S H Tf w' [.ptr 0 0] [g]
def ZkW (H Tf:Nat->Prop) (g:Value) (k:Nat) (T:Zs) (rem:Bool) (row:List Vl) (v:Value) (w':World):Prop :=
 v=qW 0/\(rem=true->1<=nf T row)/\Wo H Tf g (k+1) (ZO row (sd !rem) T) w'\/v=qW 25/\Vk H Tf g (k+1) T w'
theorem SL.mono {w0 w2:World} {g ch:Value} {c q:Int} {R R':Value->World->Prop} (h:SL w0 w2 g ch c q R) (hR:∀ v w,R v w->R' v w):SL w0 w2 g ch c q R':=by
 obtain ⟨P1,P2,p1,p2,p3⟩:=h;exact ⟨P1,P2,p1,p2,fun v w' h=>(p3 v w' h).mono fun e w'' ⟨v',e1,h1⟩=>⟨v',e1,hR _ _ h1⟩⟩
theorem ZkX {T:Zs} {k:Nat} {y:Int} {hx:0<=(k:Int)/\(k:Int)<=1000} {hy:0<=y/\y<=1000} {H Tf:Nat->Prop} {wr w1:World} {g:Value} {rb len:Nat} {row:List Vl} {rem:Bool}
  (hi:SJ k T) (hk:k+1<=40) (K:KnH (S1 T k y hx hy) VA.S H Tf wr [.ptr 0 0] [g]) (hc:Chg (fun _=>False) wr w1) (hrow:Zm (fun b=>b=rb) w1 (.slice (some ⟨rb,0,none⟩) len len) row) (hrb:wr.heap.size<=rb) (hlt:rb<w1.heap.size)
  (fq:UJ row) :
  SL w1 (w1.alloc (.cells #[.string PW,.slice (some ⟨rb,0,none⟩) len len,.bool rem] 41)) g (.slice (some ⟨w1.heap.size,0,none⟩) 1 1) 0 (3+(k:Int)) fun v w' =>
   ZkW (fun j=>H j/\j<wr.heap.size\/w1.heap.size<=j) (fun j=>Tf j/\j<wr.heap.size\/j=rb\/w1.heap.size<=j) g k T rem row v w'/\Chg (fun j=>H j/\j<wr.heap.size) w1 w':=by
 have hx1:0<=(k:Int)+1/\(k:Int)+1<=1000:=by omega
 have hrr:=fq.right.1;have hsz1:=hc.size
 have ready:∀ b:Bool,KnH (S2 T b row k y hx hy) (stU rem) (fun j=>(H j/\j<wr.heap.size)\/j=w1.heap.size) (fun j=>(Tf j/\j<wr.heap.size)\/j=rb) (w1.alloc (.cells #[.string PW,.slice (some ⟨rb,0,none⟩) len len,.bool rem] 41))
   [.slice 52 0 1 none,.gho 51 8,.ptr 0 0] [.slice (some ⟨w1.heap.size,0,none⟩) 1 1,.slice (some ⟨rb,0,none⟩) len len,g]:=fun b=>by
  have Ka:KnH (S2 T b row k y hx hy) VA.S H Tf wr [.ptr 0 0] [g]:=KnH.sig (S:=S1 T k y hx hy) (S':=S2 T b row k y hx hy) rfl rfl rfl (Zmb T b row) (ZkS T b row) K;have Kb:=(Ka.mono (H':=fun j=>H j/\j<wr.heap.size) (T':=fun j=>Tf j/\j<wr.heap.size) (fun j hj hl=>⟨hj,hl⟩) fun j hj hl=>⟨hj,hl⟩).Zf hc (fun _ _ h=>h) fun _ _ h=>h;have Kc:=Kb.gho (t:=8) (u := .slice (some ⟨rb,0,none⟩) len len) (F:=fun b=>b=rb) rfl (fun b h=>by cases h) (fun j hj hT=>by have:=hT.2; omega) ⟨hrr,hrow⟩;have Kd:=Kc.Zf ((Chg.refl (fun _=>False) w1).alloc (.cells #[.string PW,.slice (some ⟨rb,0,none⟩) len len,.bool rem] 41)) (fun _ _ h=>h) fun _ _ h=>h;exact Kd.blk (k:=w1.heap.size) (e:=3) (cs:=[ZdL,.gho 51 8,.bool rem]) (vs:=[.string PW,.slice (some ⟨rb,0,none⟩) len len,.bool rem]) (fun r h=>vc ZiH (vc (vh h) (vc vb vn))) (heap_alloc_new w1 _) (fun h=>by have:=h.2; omega) (fun h=>by rcases h with h | h; have:=h.2; omega; omega) 1 rfl
 have esz:(w1.alloc (.cells #[.string PW,.slice (some ⟨rb,0,none⟩) len len,.bool rem] 41)).heap.size=w1.heap.size+1:=Array.size_push _;have hcw:Chg (fun _=>False) w1 (w1.alloc (.cells #[.string PW,.slice (some ⟨rb,0,none⟩) len len,.bool rem] 41)):=(Chg.refl _ w1).alloc _;have sH:∀ j,((H j/\j<wr.heap.size)\/j=w1.heap.size)->(H j/\j<wr.heap.size\/w1.heap.size<=j):=fun j hj=>hj.imp id fun h=>Nat.le_of_eq h.symm;have sT:∀ j,((Tf j/\j<wr.heap.size)\/j=rb)->(Tf j/\j<wr.heap.size\/j=rb\/w1.heap.size<=j):=fun j hj=>hj.imp id Or.inl;have zZ:∀ j,(w1.alloc (.cells #[.string PW,.slice (some ⟨rb,0,none⟩) len len,.bool rem] 41)).heap.size<=j->(H j/\j<wr.heap.size\/w1.heap.size<=j):=fun j hj => .inr (by rw [esz] at hj; omega);have z8:∀ j,(w1.alloc (.cells #[.string PW,.slice (some ⟨rb,0,none⟩) len len,.bool rem] 41)).heap.size<=j->(Tf j/\j<wr.heap.size\/j=rb\/w1.heap.size<=j):=fun j hj => .inr (.inr (by rw [esz] at hj; omega));have fin:∀ w',Chg (fun j=>H j/\j<wr.heap.size\/w1.heap.size<=j) w1 w'->Chg (fun j=>H j/\j<wr.heap.size) w1 w':=fun w' h=>(Chg.refl _ w1).trans h fun i hi hk=>hk.elim id fun h=>absurd h (by omega)
 have done:∀ (b:Bool),(!rem)=b->(b=false->1<=nf T row)->SI (tbU b) VU rem UI=true ->
   SL w1 (w1.alloc (.cells #[.string PW,.slice (some ⟨rb,0,none⟩) len len,.bool rem] 41)) g (.slice (some ⟨w1.heap.size,0,none⟩) 1 1) 0 (3+(k:Int)) fun v w' =>
    ZkW (fun j=>H j/\j<wr.heap.size\/w1.heap.size<=j) (fun j=>Tf j/\j<wr.heap.size\/j=rb\/w1.heap.size<=j) g k T rem row v w'/\Chg (fun j=>H j/\j<wr.heap.size) w1 w':=fun b hrb hb dZ=>by
  have hB:=@vo (S2 T b row k y hx hy) (cM T b row) rfl rfl (tbU b) (ZkU hk hi fq hb);have hinv:=hi.step Qi fq hb
  refine (Gi (S':=S1 (ZO row (sd b) T) ((k:Int)+1) 0 hx1 (by decide)) hB dZ (ready b) sH sT zZ z8 hcw (q:=3+(k:Int)) rfl rfl rfl rfl (fun a c hac=>by
   have hac:(a,c)∈[(9,1),(10,2),(11,3),(12,4),(15,5)]:=hac;simp only [List.mem_cons,List.not_mem_nil,or_false,Prod.mk.injEq] at hac
   rcases hac with ⟨rfl,rfl⟩ | ⟨rfl,rfl⟩ | ⟨rfl,rfl⟩ | ⟨rfl,rfl⟩ | ⟨rfl,rfl⟩ <;> exact ⟨fun _ _ _ h=>h,fun _ _ _ h=>h⟩) rfl rfl (ra:=0) (rb:=0) rfl).mono ?_
  rintro v w' ⟨e1,h2,h3⟩;refine ⟨.inl ⟨e1,fun hr=>hb (by rw [<- hrb,hr]; rfl),hx1,by decide,?_⟩,fin w' h3⟩;rw [hrb];exact ⟨hinv,h2⟩
 by_cases je:rem=false
 ·subst je;exact done true rfl (fun h=>by cases h) ZdS
 ·have je:rem=true:=by simpa using je
  subst je;by_cases hth:1<=nf T row
  ·exact done false rfl (fun _=>hth) ZdT
  ·have hno:nf T row=0:=by
    have:0<=nf T row:=Uy hi.pos row;omega
   have hB:=@vo (S2 T true row k y hx hy) (cM T true row) rfl rfl tbR (ZkT hk hi fq hno)
   refine (Gi (S':=S1 T ((k:Int)+1) 25 hx1 (by decide)) hB ZdU (ready true) sH sT zZ z8 hcw (q:=3+(k:Int)) rfl rfl rfl rfl (fun a c hac=>by
    have hac:(a,c)∈[(1,1),(2,2),(3,3),(4,4),(5,5)]:=hac;simp only [List.mem_cons,List.not_mem_nil,or_false,Prod.mk.injEq] at hac
    rcases hac with ⟨rfl,rfl⟩ | ⟨rfl,rfl⟩ | ⟨rfl,rfl⟩ | ⟨rfl,rfl⟩ | ⟨rfl,rfl⟩ <;> exact ⟨fun _ _ _ h=>h,fun _ _ _ h=>h⟩) rfl rfl (ra:=25) (rb:=0) rfl).mono ?_
   rintro v w' ⟨e1,h2,h3⟩;exact ⟨.inr ⟨e1,25,hx1,by decide,hi.mono (Nat.le_succ k),h2⟩,fin w' h3⟩
theorem Aa {T:Zs} {k:Nat} {H Tf:Nat->Prop} {w:World} {g:Value} (hk:k<=40) (h:Wo H Tf g k T w) :
  Calls prog 19 #[g,.string ⟨#[118]⟩] w fun e w'=>∃ sv,e = .returned (.tuple #[sv,.bool true])/\Zp (fun _=>True) w' sv (Zj (cO T))/\Vk (fun k=>H k\/w.heap.size<=k) (fun k=>Tf k\/w.heap.size<=k) g k T w'/\Chg H w w':=by
 obtain ⟨hx,hy,hi,K⟩:=h;obtain ⟨i,s,c1,v1⟩:=UM Zbz;have hB:=@vo (S1 T k 0 hx hy) (cB T) rfl rfl tbE (ZkV hk hi);refine (K.call hB (fun _ _=>rfl) c1 (fun us W=>call19 us W) (us:=[g,.string ⟨⟨[118]⟩⟩]) (fun r h=>vc (vh h) (vc vs vn))).mono ?_;rintro _ w' ⟨u,rfl,K',h'⟩;obtain ⟨sv,rfl,hs1,hs2⟩:=K'.to.tup (M:=cB T) rfl (A:=cO T) rfl;refine ⟨sv,rfl,hs2.mono fun _ _ _=>trivial,⟨0,hx,hy,hi,?_⟩,h'⟩
 exact K'.view (S':=S1 T k 0 hx hy) (V:=VB) (fun r h=>vh (vt h)) v1 (fun h=>by cases h) (fun _=>by show (k:Int)=(k:Int)+0; omega) rfl (fun a c hac=>by
  have hac:(a,c)∈[(1,1),(2,2),(3,3),(4,4),(5,5)]:=hac;simp only [List.mem_cons,List.not_mem_nil,or_false,Prod.mk.injEq] at hac;rcases hac with ⟨rfl,rfl⟩ | ⟨rfl,rfl⟩ | ⟨rfl,rfl⟩ | ⟨rfl,rfl⟩ | ⟨rfl,rfl⟩ <;> exact fun _ _ _ h=>h) (fun b hb=>by cases hb) (fun a c hac=>by
  have hac:(a,c)∈[(1,1),(2,2),(3,3),(4,4),(5,5)]:=hac;simp only [List.mem_cons,List.not_mem_nil,or_false,Prod.mk.injEq] at hac
  rcases hac with ⟨rfl,rfl⟩ | ⟨rfl,rfl⟩ | ⟨rfl,rfl⟩ | ⟨rfl,rfl⟩ | ⟨rfl,rfl⟩ <;> exact fun _ _ _ h=>h) (fun b hb=>by cases hb)
end Ev
section
open Go Go.RowKit
def uR (p:Int×Int):List Vl:=[nI p.1,nI p.2]
def sN (n:Int):List UInt8:=nameOf [nI n]
theorem FJ {a b:Int} (ha : -1000<=a/\a<=1000) (hb : -1000<=b/\b<=1000) (h:sN a=sN b):a=b:=by
 have h2:=WR (r:=[nI a]) (q:=[nI b]) rfl (fun v hv=>by rw [List.mem_singleton.1 hv]; exact Gg ha) (fun v hv=>by rw [List.mem_singleton.1 hv]; exact Gg hb) h;exact congrArg Vl.n (List.cons.inj h2).1
theorem ZiI {a b:Int} (ha : -3<=a/\a<=3) (hb : -3<=b/\b<=3) (h:gN a=gN b):a=b:=FJ (by omega) (by omega) h
theorem ZbA:cKS.Nodup:=by decide +kernel
def X0 (N:Nat->Int) (s:Int):Nat->Int
 | 0=>0
 | j+1=>X0 N s j+if N j=s then 1 else 0
theorem Rr (N:Nat->Int) (s:Int):∀ j:Nat,0<=X0 N s j/\X0 N s j<=(j:Int)
 | 0=>by simp [X0]
 | j+1=>by
  have:=Rr N s j;rw [X0];split <;> omega
def hS (N:Nat->Int):Nat->Zs
 | 0=>[]
 | j+1=>hS N j++if X0 N ((j:Int)+1) 7=0 then [] else [([nI ((j:Int)+1),nI (X0 N ((j:Int)+1) 7)],1)]
theorem ZdW {N:Nat->Int}:∀ {j:Nat} {p:List Vl×Int},p∈hS N j->∃ a b:Int,a<(j:Int)+1/\p=([nI a,nI b],1)
 | 0,p,h=>by cases h
 | j+1,p,h=>by
  rw [hS] at h;rcases List.mem_append.1 h with h | h
  ·obtain ⟨a,b,h1,h2⟩:=ZdW h;exact ⟨a,b,by omega,h2⟩
  ·split at h
   ·cases h
   ·exact ⟨_,_,by omega,List.mem_singleton.1 h⟩
theorem Zf3 {a b:Int} (x y:Int) (h:a<b):Qu [nI a,nI x] [nI b,nI y]<0:=by
 have:Vm (nI a) (nI b)<0:=by
  rw [Vx,ZfV];simp [h]
 rw [Qu,if_neg (by omega)];exact this
theorem Ab (N:Nat->Int):∀ j,ZP (hS N j)
 | 0=>ZP.nil
 | j+1=>by
  have ih:=Ab N j;rw [hS];split
  ·rw [List.append_nil]; exact ih
  ·refine ⟨fun p hp => ?_,fun p hp => ?_,List.pairwise_append.2 ⟨ih.ord,List.pairwise_singleton _ _,fun p hp q hq => ?_⟩⟩
   ·rcases List.mem_append.1 hp with hp | hp
    ·exact ih.row p hp
    ·rw [List.mem_singleton.1 hp];simp [Zi,nI,Vl.right]
   ·rcases List.mem_append.1 hp with hp | hp
    ·exact ih.net p hp
    ·rw [List.mem_singleton.1 hp]; simp
   ·obtain ⟨a,b,h1,rfl⟩:=ZdW hp;rw [List.mem_singleton.1 hq];exact Zf3 _ _ h1
theorem NG (f:List Vl->Int) (t:List UInt8->List Vl):∀ (L:List (List UInt8)) (S:Zs),KU f (L.foldl (fun S k=>ZO (t k) 1 S) S)=KU f S+(L.map fun k=>f (t k)).sum
 | [],S=>by simp
 | k::L,S=>by
  rw [List.foldl_cons,NG f t L,Yy,List.map_cons,List.sum_cons];omega
theorem ZdX {l m:List Int} (h:l.Perm m):l.sum=m.sum:=by
 induction h with
 | nil=>rfl
 | cons x _ ih=>rw [List.sum_cons,List.sum_cons,ih]
 | swap x y l=>simp only [List.sum_cons]; omega
 | trans _ _ h1 h2=>exact h1.trans h2
theorem CS (g:List UInt8->Int):∀ L:List (List UInt8),(∀ k∈L,g k=0)->(L.map g).sum=0
 | [],_=>rfl
 | k::L,h=>by rw [List.map_cons,List.sum_cons,h k List.mem_cons_self,CS g L fun x hx=>h x (List.mem_cons_of_mem _ hx)]; rfl
theorem ZdY {g:List UInt8->Int} {L N:List (List UInt8)} (hL:L.Nodup) (hN:N.Nodup) (h:∀ k∈N,k∈L) (h0:∀ k∈L,k∉N->g k=0):(L.map g).sum=(N.map g).sum:=by
 have h1:=ZdX ((W1 hL hN h).map g)
 rw [List.map_append,List.sum_append,CS g (L.filter fun k=>decide (k∉N)) fun k hk=>by
  obtain ⟨a,b⟩:=List.mem_filter.1 hk
  exact h0 k a (by simpa using b)] at h1
 omega
theorem SM {α : Type} {f g : α -> Int}:∀ {L:List α},(∀ k∈L,f k=g k)->(L.map f).sum=(L.map g).sum
 | [],_=>rfl
 | k::L,h=>by rw [List.map_cons,List.map_cons,List.sum_cons,List.sum_cons,h k List.mem_cons_self,SM fun x hx=>h x (List.mem_cons_of_mem _ hx)]
theorem CT (N:Nat->Int) (s:Int):∀ j:Nat,((List.range j).map fun i=>if N i=s then (1:Int) else 0).sum=X0 N s j
 | 0=>rfl
 | j+1=>by rw [List.range_succ,List.map_append,List.sum_append,CT N s j,X0]; simp
section
variable {k:Nat} (hk:k<=40) {T:Zs} (hi:SJ k T) {N:Nat->Int} (hN:∀ i:Nat,i<7->N i=Ja T (gN ((i:Int)-3)))
include hk hi hN
theorem ZdZ {s:Int} (hs:1<=s/\s<=40):Zq (Zj (ZH Ev.kgK (cI T) (sN s)))=X0 N s 7:=by
 rw [Wa];unfold ZH;rw [K9 (fun _=>1) (fun r=>decide (nmR Ev.kgK r=sN s))];show KU (fun r=>if decide (nmR Ev.kgK r=sN s)=true then 1 else 0) (J5 Ev.kfK cfs T)=_;unfold J5;rw [NG];show (0:Int)+_=_
 have e1:((Qz Ev.kfK T).map fun key=>if decide (nmR Ev.kgK (ZV Ev.kfK cfs T key)=sN s)=true then (1:Int) else 0).sum=((Qz Ev.kfK T).map fun key=>if Ja T key=s then (1:Int) else 0).sum :=
  SM fun key hkey=>by
   have hg:ZH Ev.kfK T key≠[]:=fun e=>JX.1 e hkey;obtain ⟨a,e,_⟩:=Mk hk hi hg;obtain ⟨c1,c2,c3⟩:=Rq hk hi key;rw [e];have e2:nmR Ev.kgK [nI a,nI (Ja T key)]=sN (Ja T key):=rfl;rw [e2];by_cases h:Ja T key=s
   ·rw [h]; simp
   ·rw [if_neg h,if_neg];intro h2;exact h (FJ (by omega) (by omega) (of_decide_eq_true h2))
 rw [e1,<- ZdY (g:=fun key=>if Ja T key=s then (1:Int) else 0) (N:=Qz Ev.kfK T) ZbA (QT _) (fun key hkey=>by
  obtain ⟨p,hp,e⟩:=Yv.1 hkey
  exact e▸Qi.nm p.1 (hi.row p hp)) fun key _ hkey=>by
  have h1:=(Rq hk hi key).2.2.2 (JX.2 hkey)
  rw [if_neg (by omega)]]
 unfold cKS;rw [List.map_map,<- CT N s 7]
 rw [SM (g:=fun i:Nat=>if N i=s then (1:Int) else 0) fun i hi=>by
  have:=hN i (List.mem_range.1 hi);show (if Ja T (gN ((i:Int)-3))=s then (1:Int) else 0)=_
  rw [this]]
 omega
theorem ZiJ {s:Int} (hs:1<=s/\s<=40):it1 Ev.kgK cfs (cI T) (sN s)=if X0 N s 7=0 then [] else [⟨[nI s,nI (X0 N s 7)],1,0⟩]:=by
 have hc:=ZdZ hk hi hN hs;have hp:∀ p∈ZH Ev.kgK (cI T) (sN s),0<p.2:=fun p hp=>ZdM hk hi p (ZI.1 hp).1;unfold it1;by_cases e:ZH Ev.kgK (cI T) (sN s)=[]
 ·have h0:X0 N s 7=0:=by rw [<- hc,e]; rfl
  rw [if_pos e,if_pos h0]
 ·have h1:=TB _ hp e;obtain ⟨n,e2,h2,h3⟩:=CR hk hi e;have h4:s=n:=FJ (by omega) (by omega) h3;rw [if_neg e,if_neg (by omega),e2,hc,h4]
theorem ZhG (r:List Vl):∀ j:Nat,j<=40->nf (hS N j) r=Qf (((List.range j).map fun i:Nat=>sN ((i:Int)+1)).flatMap (it1 Ev.kgK cfs (cI T))) r
 | 0,_=>rfl
 | j+1,hj=>by
  rw [hS,SN,ZhG r j (by omega),List.range_succ,List.map_append,List.flatMap_append,Z2]
  congr 1
  rw [List.map_cons,List.map_nil,List.flatMap_cons,List.flatMap_nil,List.append_nil,ZiJ hk hi hN (by omega)];split
  ·rfl
  ·simp [nf,Qf,Itm.net]
theorem ZhH:cO T=hS N 40 :=
 ZP.uniq (Y5 hk hi).set (Ab N 40) fun r=>by
  rw [ZhG hk hi hN r 40 (by omega)];show nf (J5 Ev.kgK cfs (cI T)) r=_;rw [Mh];refine (Yw (f:=it1 Ev.kgK cfs (cI T)) ?_ (QT _) (fun key hkey => ?_) r fun key _ hkey => ?_).symm
  ·unfold List.Nodup;rw [List.pairwise_map];refine List.Pairwise.imp_of_mem (fun {i j} hi hj h e => ?_) List.pairwise_lt_range;have hi:=List.mem_range.1 hi;have hj:=List.mem_range.1 hj;have:=FJ (by omega) (by omega) e;omega
  ·obtain ⟨p,hp,e⟩:=Yv.1 hkey;obtain ⟨a,n,e2,h1,h2⟩:=ND hk hi p hp;rw [<- e,e2];exact List.mem_map.2 ⟨(n-1).toNat,List.mem_range.2 (by omega),by rw [show (((n-1).toNat:Nat):Int)+1=n by omega]; rfl⟩
  ·unfold it1;rw [if_pos (JX.2 hkey)]; rfl
end
theorem Gj (N:Nat->Int) (j:Nat):Zj (hS N (j+1))=Zj (hS N j)++if X0 N ((j:Int)+1) 7=0 then [] else [⟨[nI ((j:Int)+1),nI (X0 N ((j:Int)+1) 7)],1,0⟩]:=by
 rw [hS];unfold Zj;rw [List.map_append];split <;> rfl
theorem Zd0 {T:Zs} {N:Nat->Int} (hN:∀ i:Nat,i<7->N i=Ja T (gN ((i:Int)-3))) {a:Nat} {na nb:Int} (ha:na+3=(a:Int)) (h7:a<7) (n:Int):∀ i:Nat,i<7->(if i=a then N a+n else N i)=Ja (ZO (uR (na,nb)) n T) (gN ((i:Int)-3)):=fun i hi=>by
 rw [CP,<- hN i hi];have e:nmR Ev.kfK (uR (na,nb))=gN na:=rfl;rw [e];by_cases h:i=a
 ·subst h;rw [if_pos rfl,if_pos (by congr 1; omega)]
 ·rw [if_neg h,if_neg]
  ·omega
  ·intro h2;have:=ZiI (by omega) (by omega) h2;omega
end
namespace Ev
open Go Go.Proofs
theorem Zd1:ZiD=true:=by decide +kernel
end Ev
namespace Ev
open Go Go.Proofs
theorem Zd2:preB=true:=by decide +kernel
end Ev
section
open Go.RowKit
theorem Gk (n:Int) (w:World):Calls prog 27 #[.int .i64 n] w fun e w'=>e = .returned (.agg #[.int .i64 1,.int .i64 n,.string ⟨#[]⟩])/\Chg (fun _=>False) w w':=by
 go_enter func27,ntmps27
 go_wp2_with fail
 refine bodyPost_ret (v := .agg #[.int .i64 1,.int .i64 n,.string ⟨#[]⟩]) ?_ rfl ?_
 ·simp only [results,show Tryz.f27.results = #[.cell 2 55] from rfl];go_simp
 ·exact ⟨rfl,(Chg.refl _ w).alloc _⟩
def Zd3 (w:World) (par:Bool) (rem:Bool) (e:Ending) (w':World):Prop :=
 ∃ (rb len:Nat) (row:List Vl),e = .returned (.agg #[.string (if par then ⟨#[117]⟩ else ⟨#[116]⟩),.slice (some ⟨rb,0,none⟩) len len,.bool rem])/\w.heap.size<=rb/\Zm (fun b=>b=rb) w' (.slice (some ⟨rb,0,none⟩) len len) row/\Sz par row/\Chg (fun _=>False) w w'
theorem ZkY (n:Int) : -3<=n.tmod 4/\n.tmod 4<=3:=by
 have b1 : -4<n.tmod 4:=Int.lt_tmod_of_pos n (by omega);have b2:n.tmod 4<4:=Int.tmod_lt_of_pos n (by omega);omega
theorem Zf4 {w:World} {rb:Nat} {n m:Int} (h:w.heap[rb]? = some (.cells #[.int .i64 1,.int .i64 n,.string ⟨#[]⟩,.int .i64 1,.int .i64 m,.string ⟨#[]⟩] 55 (0,0))) :
  Zm (fun b=>b=rb) w (.slice (some ⟨rb,0,none⟩) 2 2) [⟨1,n,[]⟩,⟨1,m,[]⟩]:=by
 have hlt:rb<w.heap.size:=lt_of_block h;refine ⟨_,_,rfl,by simp,by decide,fun _=>⟨rb,0,rfl,rfl,hlt,fun j x hj => ?_⟩⟩;have c:=fun i=>cell_of_row w rb i _ _ _ h
 match j,hj with
 | 0,hj=>cases hj; exact ⟨by rw [c]; rfl,by rw [c]; rfl,by rw [c]; rfl,by simp⟩
 | 1,hj=>cases hj; exact ⟨by rw [c]; rfl,by rw [c]; rfl,by rw [c]; rfl,by simp⟩
 | j+2,hj=>simp at hj
theorem VS {w w1:World} {o p:Obj} (h:Chg (fun _=>False) ((w.alloc o).alloc p) w1):w.heap.size+2<=w1.heap.size:=by
 have h1:=h.size;have e1:∀ (W:World) (o:Obj),(W.alloc o).heap.size=W.heap.size+1:=fun W o=>Array.size_push _;rw [e1,e1] at h1;exact h1
theorem XE {w:World} {B:Nat} {x y z:Value} {t:TypeId} (h:w.heap[B]? = some (.cells #[x,y,z] t (0,0))) :
  (∀ o,(w.alloc o).cell? ⟨B,0,none⟩=some x)/\(∀ o,(w.alloc o).cell? ⟨B,1,none⟩=some y)/\(∀ o,(w.alloc o).cell? ⟨B,2,none⟩=some z)/\(∀ o,(w.alloc o).frozen? ⟨B,0,none⟩=false)/\(∀ o,(w.alloc o).frozen? ⟨B,1,none⟩=false)/\(∀ o,(w.alloc o).frozen? ⟨B,2,none⟩=false):=by
 have h2:∀ o,(w.alloc o).heap[B]? = some (.cells #[x,y,z] t (0,0)):=fun o=>((Chg.refl (fun _=>False) w).alloc o).heap h fun h=>h;exact ⟨fun o=>(Z6 (h2 o)).1,fun o=>(Z6 (h2 o)).2.1,fun o=>(Z6 (h2 o)).2.2,fun o=>frozen_of_row _ B 0 _ _ (h2 o),fun o=>frozen_of_row _ B 1 _ _ (h2 o),fun o=>frozen_of_row _ B 2 _ _ (h2 o)⟩
theorem SO {w w2:World} {n m:Int} {A:Value} {rem:Bool} {x y z:Value} (c:Chg (fun _=>False) w w2) (hsz:w.heap.size+2<=w2.heap.size) (hn : -3<=n/\n<=3) (hm : -3<=m/\m<=3) :
  Zd3 w true rem (.returned (.agg #[.string ⟨#[117]⟩,.slice (some ⟨w2.heap.size,0,none⟩) 2 2,.bool rem]))
   (((((w2.alloc (.cells #[.int .i64 1,.int .i64 n,.string ⟨#[]⟩,.int .i64 1,.int .i64 m,.string ⟨#[]⟩] 55)).setCell ⟨w.heap.size,1,none⟩ A).setCell ⟨w.heap.size+1,0,none⟩ x).setCell ⟨w.heap.size+1,1,none⟩ y).setCell ⟨w.heap.size+1,2,none⟩ z):=by
 have h2:Chg (fun k=>k=w.heap.size\/k=w.heap.size+1) (w2.alloc (.cells #[.int .i64 1,.int .i64 n,.string ⟨#[]⟩,.int .i64 1,.int .i64 m,.string ⟨#[]⟩] 55)) _ :=
  Chg.Z5 (Chg.Z5 (Chg.Z5 (Chg.Z5 (Chg.refl _ _) (D:=w.heap.size) (.inl rfl) 1 A) (D:=w.heap.size+1) (.inr rfl) 0 x) (D:=w.heap.size+1) (.inr rfl) 1 y) (D:=w.heap.size+1) (.inr rfl) 2 z
 refine ⟨w2.heap.size,2,_,rfl,by omega,Zf4 (h2.heap (heap_alloc_new w2 _) (by omega)),⟨n,m,rfl,hn,hm⟩,(c.alloc _).trans h2 fun i hi e=>by omega⟩
theorem UN {F:Nat->Prop} {w:World} {tab:ByteArray} {rv:Value} {r:List Vl} {rem:Bool} (h:Zm F w rv r) (hod:tab.size%2=1) :
  Calls prog 24 #[.agg #[.string tab,rv,.bool rem]] w (Zd3 w true rem):=by
 have dL:=Gk;obtain ⟨A,cap,rfl,hn,hcap,hat⟩:=h;have t1:=ZkY;have t0:(0:Int)<=3:=by decide
 have hp2:(((tab.size:Int)%2)==0)=false:=by rw [beq_eq_false_iff_ne]; omega
 clear hod;by_cases h0:0<r.length
 ·obtain ⟨b,off,rfl,_,hb,hx⟩:=hat h0;obtain ⟨x,hx0⟩:∃ x,r[0]? = some x:=⟨_,List.getElem?_eq_getElem h0⟩
  obtain ⟨a0,a1,a2,al⟩:=hx 0 x hx0;simp only [Nat.zero_mul,Nat.add_zero] at a0 a1 a2;by_cases h1:1<r.length
  ·obtain ⟨y,hy0⟩:∃ y,r[1]? = some y:=⟨_,List.getElem?_eq_getElem h1⟩
   obtain ⟨b0,b1,b2,bl⟩:=hx 1 y hy0;simp only [Nat.one_mul] at b0 b1 b2;clear hat hx hx0 hy0;obtain ⟨L,hL⟩:∃ L,r.length=L:=⟨_,rfl⟩
   rw [hL] at h0 h1 ⊢;clear hL;have l0:(0:Int)<(L:Int):=by omega
   have l1:(1:Int)<(L:Int):=by omega
   go_enter func24,ntmps24
   go_wp2_with fail
   all_goals
    refine (dL _ _).mono ?_;rintro _ w1 ⟨rfl,c1⟩;have cc:=(((Chg.refl (fun _=>False) w).alloc _).alloc _).trans c1 fun _ _ h=>h;have hs2:=VS c1;have hz:=c1.size;obtain ⟨p0,p1⟩:=Qw c1
    go_wp2_with fail
    refine (dL _ _).mono ?_;rintro _ w2 ⟨rfl,c2⟩;have p0:=c2.heap p0 fun h=>h;have p1:=c2.heap p1 fun h=>h;have cc:=cc.trans c2 fun _ _ h=>h;have hz2:=c2.size;have hsz:w.heap.size+2<=w2.heap.size:=by have:=hs2; omega
    obtain ⟨q0,q1,q2,z0,z1,z2⟩:=XE p0;obtain ⟨r0,r1,r2,y0,y1,y2⟩:=XE p1;clear p0 p1 c1 c2 hz hz2
    go_wp2_with fail
    refine bodyPost_ret (v := .agg #[.string ⟨#[117]⟩,.slice (some ⟨w2.heap.size,0,none⟩) 2 2,.bool rem]) ?_ rfl ?_
    ·simp only [results,show Tryz.f24.results = #[.cell 2 41] from rfl];go_simp
    ·exact SO cc hsz (by first | exact t1 _ | decide) (by first | exact t1 _ | decide)
  ·clear hat hx hx0;obtain ⟨L,hL⟩:∃ L,r.length=L:=⟨_,rfl⟩
   rw [hL] at h0 h1 ⊢;clear hL;have l0:(0:Int)<(L:Int):=by omega
   have l1:¬ (1:Int)<(L:Int):=by omega
   go_enter func24,ntmps24
   go_wp2_with fail
   all_goals
    refine (dL _ _).mono ?_;rintro _ w1 ⟨rfl,c1⟩;have cc:=(((Chg.refl (fun _=>False) w).alloc _).alloc _).trans c1 fun _ _ h=>h;have hs2:=VS c1;have hz:=c1.size;obtain ⟨p0,p1⟩:=Qw c1
    go_wp2_with fail
    refine (dL _ _).mono ?_;rintro _ w2 ⟨rfl,c2⟩;have p0:=c2.heap p0 fun h=>h;have p1:=c2.heap p1 fun h=>h;have cc:=cc.trans c2 fun _ _ h=>h;have hz2:=c2.size;have hsz:w.heap.size+2<=w2.heap.size:=by have:=hs2; omega
    obtain ⟨q0,q1,q2,z0,z1,z2⟩:=XE p0;obtain ⟨r0,r1,r2,y0,y1,y2⟩:=XE p1;clear p0 p1 c1 c2 hz hz2
    go_wp2_with fail
    refine bodyPost_ret (v := .agg #[.string ⟨#[117]⟩,.slice (some ⟨w2.heap.size,0,none⟩) 2 2,.bool rem]) ?_ rfl ?_
    ·simp only [results,show Tryz.f24.results = #[.cell 2 41] from rfl];go_simp
    ·exact SO cc hsz (by first | exact t1 _ | decide) (by first | exact t1 _ | decide)
 ·clear hat;obtain ⟨L,hL⟩:∃ L,r.length=L:=⟨_,rfl⟩
  rw [hL] at h0 ⊢;clear hL;have l0:¬ (0:Int)<(L:Int):=by omega
  have l1:¬ (1:Int)<(L:Int):=by omega
  go_enter func24,ntmps24
  go_wp2_with fail
  all_goals
   refine (dL _ _).mono ?_;rintro _ w1 ⟨rfl,c1⟩;have cc:=(((Chg.refl (fun _=>False) w).alloc _).alloc _).trans c1 fun _ _ h=>h;have hs2:=VS c1;have hz:=c1.size;obtain ⟨p0,p1⟩:=Qw c1
   go_wp2_with fail
   refine (dL _ _).mono ?_;rintro _ w2 ⟨rfl,c2⟩;have p0:=c2.heap p0 fun h=>h;have p1:=c2.heap p1 fun h=>h;have cc:=cc.trans c2 fun _ _ h=>h;have hz2:=c2.size;have hsz:w.heap.size+2<=w2.heap.size:=by have:=hs2; omega
   obtain ⟨q0,q1,q2,z0,z1,z2⟩:=XE p0;obtain ⟨r0,r1,r2,y0,y1,y2⟩:=XE p1;clear p0 p1 c1 c2 hz hz2
   go_wp2_with fail
   refine bodyPost_ret (v := .agg #[.string ⟨#[117]⟩,.slice (some ⟨w2.heap.size,0,none⟩) 2 2,.bool rem]) ?_ rfl ?_
   ·simp only [results,show Tryz.f24.results = #[.cell 2 41] from rfl];go_simp
   ·exact SO cc hsz (by first | exact t1 _ | decide) (by first | exact t1 _ | decide)
end
section
open Go.RowKit
theorem UO {F G:Nat->Prop} {w:World} {v u:Value} {r:List Vl} (h:Zm F w v r) (hu:Zm G w u r) :
  Calls prog 26 #[v,u] w fun e w'=>e = .returned (.bool true)/\Chg (fun _=>False) w w':=by
 obtain ⟨A,cap,rfl,hn,hcap,hat⟩:=h;obtain ⟨B,cap2,rfl,hn2,hcap2,hbt⟩:=hu;have HA:=Hd hat;have HB:=Hd hbt;clear hat hbt
 go_enter func26,ntmps26
 go_wp2_with fail
 go_loopw [5] (fun i wr=>∃ I:Nat,I<=r.length/\i = .int .i64 I/\Chg (fun _=>False) w wr) (fun i _=>r.length-(intOf i).toNat)
 case atStart=>exact ⟨0,Nat.zero_le _,rfl,Chg.refl _ _⟩
 case round =>
  obtain ⟨I,hI,rfl,hcw⟩:=hrel;by_cases hlt:I<r.length
  ·obtain ⟨b,off,rfl,_,hb,hx⟩:=HA.out (by omega);obtain ⟨b2,bT,rfl,_,hb2,hx2⟩:=HB.out (by omega);obtain ⟨x,ag⟩:∃ x,r[I]? = some x:=⟨_,List.getElem?_eq_getElem hlt⟩
   obtain ⟨q0,q1,q2,_⟩:=(hx I x ag).chg hcw (fun h=>h);obtain ⟨p0,p1,p2,_⟩:=(hx2 I x ag).chg hcw (fun h=>h)
   go_wp2_with fail
   go_region_held (fun wx=>wx.cell? ⟨b,off+I*3,none⟩=some (.int .i64 x.k)/\wx.cell? ⟨b,off+I*3+1,none⟩=some (.int .i64 x.n)/\wx.cell? ⟨b,off+I*3+2,none⟩=some (.string (str x.s))/\wx.cell? ⟨b2,bT+I*3,none⟩=some (.int .i64 x.k)/\wx.cell? ⟨b2,bT+I*3+1,none⟩=some (.int .i64 x.n)/\wx.cell? ⟨b2,bT+I*3+2,none⟩=some (.string (str x.s))) (go_keep) (fail)
   go_wp2_with fail
   go_roundw
   case rel=>exact ⟨I+1,by omega,by go_num,hcw.drew⟩
   case measure=>simp [intOf]; omega
  ·have hge:¬ ((I:Int)<(r.length:Int)):=by omega
   go_wp2_with fail
   go_ret
   exact ⟨rfl,hcw⟩
def vlI (n:Int):Vl:=⟨1,n,[]⟩
theorem NH {w:World} {b cap:Nat} {l:List Int} (h:∀ j x,l[j]? = some x->w.cell? ⟨b,j,none⟩=some (.int .i64 x)) (hlen:l.length<=1000) :
  Calls prog 18 #[.slice (some ⟨b,0,none⟩) l.length cap] w (Neu w fun u w'=>Zm (new w) w' u (l.map vlI)):=by
 have HAT:=Hd h;have HL:=Hd hlen;have dL:=Gk;clear h
 go_enter func18,ntmps18
 go_wp2_with fail
 go_loopw [3,4] (fun s i wr=>∃ (I:Nat) (own:Option Nat) (B:Option Addr) (cc:Nat),I<=l.length/\i = .int .i64 I/\s = .slice B I cc/\Hid (QD wr 55 3 own B I cc (Qg ((l.map vlI).take I)))/\Hid (∀ g,own=some g->w.heap.size<=g)/\Chg (fun _=>False) w wr) (fun _ i _=>l.length-(intOf i).toNat)
 case atStart=>exact ⟨0,none,none,0,Nat.zero_le _,rfl,rfl,Hd (by simpa [Qg] using QD.Xz _ _ _ _),Hd (fun g h=>by cases h),Chg.refl _ _⟩
 case round =>
  obtain ⟨I,own,B,cc,hI,rfl,rfl,HO,HN,hcw⟩:=hrel;by_cases hlt:I<l.length
  ·obtain ⟨x,ag⟩:∃ x,l[I]? = some x:=⟨_,List.getElem?_eq_getElem hlt⟩
   have q0:=hcw.cell (HAT.out I x ag) (fun h=>h);have HX:=Hd ag;have aD:=Hd hlt;clear ag
   go_wp2_with fail
   refine (dL _ _).mono ?_;rintro _ w1 ⟨rfl,hc⟩;have hcc:=hcw.trans hc fun _ _ h=>h;have H3:=Hd (Sj w1 (.int .i64 1) (.int .i64 x) (.string ⟨#[]⟩) 55);have dC:Chg (fun _=>False) wr (w1.alloc (.cells #[.int .i64 1,.int .i64 x,.string ⟨#[]⟩] 55)):=hc.alloc _;have bN:=Hd (HO.out.chg dC fun _ _ h=>h)
   go_wp2_with (at_builtin; refine ZA rfl _ _ 39 39 rfl 55 3 32 MJ own B I cc 1 (Qg ((l.map vlI).take I)) [.int .i64 1,.int .i64 x,.string ⟨#[]⟩] _ rfl rfl bN.out (X4.slice H3.out) (by simp [Value.oneCell']) (I+1) rfl (by have:=HL.out; omega) (by have:=HL.out; omega) ?_)
   intro own' B' c' w3 hown hor ae;have dA:=Hd hown;clear hown
   go_wp2_with fail
   go_roundw
   case rel =>
    have hlt:=aD.out;have tH:=dC.size;have hsz0:=hcw.size;have hsz1:=hcc.size;have e1:(w1.alloc (.cells #[.int .i64 1,.int .i64 x,.string ⟨#[]⟩] 55)).heap.size=w1.heap.size+1:=Array.size_push _;refine ⟨I+1,own',B',c',by omega,by go_num,rfl,Hd ?_,Hd fun g hg => ?_,(hcw.trans dC fun _ _ h=>h).trans ae fun i hi hg=>by have:=HN.out i hg; omega⟩
    ·have e:Qg ((l.map vlI).take (I+1))=Qg ((l.map vlI).take I)++[.int .i64 1,.int .i64 x,.string ⟨#[]⟩]:=by
      rw [List.take_add_one,List.getElem?_map,HX.out];simp [Qg,vlI,Vl.cells,str]
     rw [e];exact dA.out
    ·rcases hor with h0 | h0
     ·exact HN.out g (h0▸hg)
     ·rw [h0] at hg;injection hg with hg
      omega
   case measure=>have hlt:=aD.out; simp [intOf]; omega
  ·have hge:¬ ((I:Int)<(l.length:Int)):=by omega
   go_wp2_with fail
   go_ret
   have e:I=l.length:=by omega
   have ho:=HO.out;have hl:(l.map vlI).length=l.length:=List.length_map _;rw [e,<- hl,List.take_length] at ho;have h1:=Zm.G6 (r:=l.map vlI) (F:=new w) (cap:=cc) ho (fun g hg=>HN.out g hg) (fun y hy=>by obtain ⟨n,_,rfl⟩:=List.mem_map.1 hy; simp [vlI]);rw [hl] at h1;exact ⟨_,by rw [e]; rfl,h1,hcw⟩
end
section
open Go.RowKit
theorem NI {F G:Nat->Prop} {w:World} {v u:Value} {l:List Itm} (h:Zp F w v l) (hu:Zp G w u l) :
  Calls prog 20 #[v,u] w fun e w'=>e = .returned (.bool true)/\Chg (fun _=>False) w w':=by
 obtain ⟨A,cap,rfl,hn,hcap,hat⟩:=h;obtain ⟨B,cap2,rfl,hn2,hcap2,hbt⟩:=hu;have HA:=Hd hat;have HB:=Hd hbt;clear hat hbt
 go_enter func20,ntmps20
 go_wp2_with fail
 go_loopw [5] (fun i wr=>∃ I:Nat,I<=l.length/\i = .int .i64 I/\Chg (fun _=>False) w wr) (fun i _=>l.length-(intOf i).toNat)
 case atStart=>exact ⟨0,Nat.zero_le _,rfl,Chg.refl _ _⟩
 case round =>
  obtain ⟨I,hI,rfl,hcw⟩:=hrel;by_cases hlt:I<l.length
  ·obtain ⟨b,off,rfl,_,hb,hx⟩:=HA.out (by omega);obtain ⟨b2,bT,rfl,_,hb2,hx2⟩:=HB.out (by omega);obtain ⟨x,ag⟩:∃ x,l[I]? = some x:=⟨_,List.getElem?_eq_getElem hlt⟩
   obtain ⟨⟨rv,q0,r0⟩,q1,ha,hbb,hrl⟩:=hx I x ag;obtain ⟨⟨qz,p0,r1⟩,p1,_,_,_⟩:=hx2 I x ag;have hrow:∀ W,Chg (fun _=>False) w W->Calls prog 26 #[rv,qz] W fun e w'=>e = .returned (.bool true)/\Chg (fun _=>False) W w':=fun W hc=>UO (r0.Zf hc) (r1.Zf hc)
   have he1:∀ W,(binOp .neq 57 (.complex .f64 (fl x.a) (fl x.b)) (.complex .f64 (fl x.a) (fl x.b))).run prog W = .ok (.bool false) W:=fun W=>by
    have:=Kr (P:=prog) (a:=x.a) (b:=x.b) (c:=x.a) (d:=x.b) (by omega) (by omega) (by omega) (by omega) 57 W;rw [this];simp
   obtain ⟨RA,aa,rfl,_⟩:=r0;obtain ⟨RB,eQ,rfl,_⟩:=r1;unfold tc at q1 p1;clear hx hx2 ag
   go_wp2_with fail
   have hWd:Chg (fun _=>False) w wr.drew:=hcw.drew;have c0:wr.drew.cell? ⟨b,off+I*2,none⟩=some (.slice RA x.row.length aa):=hWd.cell q0 (fun h=>h);have c1:wr.drew.cell? ⟨b,off+I*2+1,none⟩=some (.complex .f64 (fl x.a) (fl x.b)):=hWd.cell q1 (fun h=>h);have c2:wr.drew.cell? ⟨b2,bT+I*2,none⟩=some (.slice RB x.row.length eQ):=hWd.cell p0 (fun h=>h);have c3:wr.drew.cell? ⟨b2,bT+I*2+1,none⟩=some (.complex .f64 (fl x.a) (fl x.b)):=hWd.cell p1 (fun h=>h);refine wp_region_held_drew (S:=fun wx=>wx.cell? ⟨b,off+I*2,none⟩=some (.slice RA x.row.length aa)/\wx.cell? ⟨b,off+I*2+1,none⟩=some (.complex .f64 (fl x.a) (fl x.b))/\wx.cell? ⟨b2,bT+I*2,none⟩=some (.slice RB x.row.length eQ)/\wx.cell? ⟨b2,bT+I*2+1,none⟩=some (.complex .f64 (fl x.a) (fl x.b))) (by kernel_rfl) ⟨c0,c1,c2,c3⟩ (fun hHeld => ?_);refine tkH 0 (some 17) ?_;refine tkH 1 (some 18) ?_;refine tkH 2 (some 19) ?_;refine tkH 3 (some 20) ?_;refine tkH 4 (some 21) ?_;refine tkH 5 (some 22) ?_;refine tkH 6 (some 23) ?_;refine tkH 7 (some 24) ?_;refine tkH 8 (some 25) ?_;refine tkH 9 (some 26) ?_;refine wpAnyH_ready (rs:=[10]) (by kernel_rfl) (by simp) ?_;refine AllReadyH.cons rfl (fun K hK => ?_) AllReadyH.nil;go_simp;refine (hrow _ hWd).mono ?_;rintro _ w1 ⟨rfl,h1⟩;have hW1:=hWd.trans h1 fun _ _ h=>h;have d0:=h1.cell c0 (fun h=>h);have d1:=h1.cell c1 (fun h=>h);have d2:=h1.cell c2 (fun h=>h);have d3:=h1.cell c3 (fun h=>h)
   go_wp2_with fail
   refine hK.out _ _ ?_ (fun hHeld => ?_)
   ·((refine ⟨?_,?_,?_,?_⟩ <;> assumption))
   clear hK K
   try simp only [Act.put,List.setIfInBounds_toArray,List.set_cons_zero,List.set_cons_succ]
   refine tkH 11 (some 28) ?_;refine tkH 12 (some 29) ?_;refine tkH 13 (some 30) ?_;refine tkH 14 (some 31) ?_;refine tkH 15 (some 32) ?_;refine tkH 16 (some 33) ?_;refine tkH 17 (some 34) ?_;refine tkH 18 (some 35) ?_;refine tkH 19 (some 36) ?_;refine tkH 20 (some 37) ?_;refine tkH 21 (some 38) ?_;refine tkH 22 (some 39) ?_;refine tkH 23 (some 40) ?_;refine tkH 24 (some 41) ?_;refine wpAnyH_done (by kernel_rfl) ?_ _
   go_wp2_with fail
   go_roundw
   case rel=>exact ⟨I+1,by omega,by go_num,hW1⟩
   case measure=>simp [intOf]; omega
  ·have hge:¬ ((I:Int)<(l.length:Int)):=by omega
   go_wp2_with fail
   go_ret
   exact ⟨rfl,hcw⟩
end
end Go.Proofs.YtheflbaejhlboaaGreatDoor
