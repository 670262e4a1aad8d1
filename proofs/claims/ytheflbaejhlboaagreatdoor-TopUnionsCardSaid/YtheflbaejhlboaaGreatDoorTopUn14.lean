/- A part of the proof of a law of package confluencetop: lemmas, no condition of ours. -/
import Derived.Test.YtheflbaejhlboaaGreatDoorTopUn13
import Derived.Laws.Tables
import Derived.Laws.AppendOwn
set_option linter.unusedVariables false
set_option linter.unusedSectionVars false
set_option linter.unusedSimpArgs false
namespace Go.Proofs.YtheflbaejhlboaaGreatDoor.Ev
open Go
variable [Sig] {P:Program} {r:Rho} {s:St} {w:World}
def Make (P:Program) (r:Rho) (w:World) (x:Sem Value) (mk:Nat→Zc) (b:Zd):Prop :=
 ∃ w' u y o,x.run P w = .ok u w'∧(y.blk=w.heap.size∧y.gho=none)∧w'.heap[y.blk]? = some o∧(∀ k,k<w.heap.size→w'.heap[k]? = w.heap[k]?)∧w.heap.size≤w'.heap.size ∧
  w'.os=w.os∧w'.tape=w.tape∧w'.output=w.output∧∀ i,r i=none→BR (r.at i y) b y o∧VR (r.at i y) (mk i) u
theorem Make.Zfj (h:Rel r s w) {x:Sem Value} {mk:Nat→Zc} {b:Zd} (hm:Make P r w x mk b):VN P r s w x (mk s.next) (s.new b):=by
 obtain ⟨w',u,y,o,h1,h2,h3,h4,h5,h6,h7,h8,h9⟩:=hm
 obtain ⟨h10,h11⟩:=h9 s.next (h.Z7 (Nat.le_refl _))
 exact ⟨r.at s.next y,w',u,h1,h11,Ext.new h h2.1 h3 h10 h4 h5 h6 h7 h8 h2.2⟩
theorem XI {x:Sem Value} {mk:Nat→Zc} {b:Zd} {o:Obj} {u:Value} {n e:Nat} (hx:x.run P w = .ok u (w.alloc o))
  (hr:∀ i,r i=none→BR (r.at i (RB.of w.heap.size (n) (e))) b (RB.of w.heap.size (n) (e)) o∧VR (r.at i (RB.of w.heap.size (n) (e))) (mk i) u):Make P r w x mk b :=
 ⟨_,u,(RB.of w.heap.size (n) (e)),o,hx,⟨rfl,rfl⟩,MQ w o,fun k hk=>alloc_old o hk,by rw [World.size_alloc]; omega,rfl,rfl,rfl,hr⟩
theorem YV {cs:List Zc} {vs:List Value} (hv:VRs r cs vs) {i:Nat} (hi:r i=none) (b:Nat) (t:TypeId) (e:Nat) :
  BR (r.at i (RB.of b vs.length e)) (.cells cs e false) (RB.of b vs.length e) (.cells ⟨vs⟩ t) :=
 ⟨rfl,vs,[],t,(0,0),by simp,hv.mono (Rho.JL r _ hi),by simp,fun _=>rfl,fun i _=>by omega⟩
theorem S5 {t:TypeId} {u:Value}:(newVar t u).run P w = .ok ⟨w.heap.size,0,none⟩ (w.alloc (.cells u.cells t)):=rfl
theorem Zaj {t:TypeId} {z:Zc} (hz:XZ P t=some z) (u0:Value):Make P r w (Instr.alloc t true u0) (fun i => .ptr i 0) (.cells z.cells 0 false):=by
 obtain ⟨_,u,_,_,h1,h2⟩:=Xn hz
 refine XI (o := .cells ⟨u.cells.toList⟩ t) (u := .pointer (some ⟨w.heap.size,0,none⟩)) (n:=u.cells.toList.length) (e:=0) ?_ fun i hi=>⟨YV (h2 r).cells hi _ _ _,.ptr (Rho.Zo _ _ _)⟩
 simp only [Instr.alloc,Sem.run_bind,h1,Result.andThen_ok,S5]
 rfl
theorem Zfk {t:TypeId} {v:Zc} {u:Value} (hv:VR r v u):Make P r w (Instr.box t u) (fun i => .ptr i 0) (.cells v.cells 0 false):=by
 refine XI (o := .cells ⟨u.cells.toList⟩ t) (u := .pointer (some ⟨w.heap.size,0,none⟩)) (n:=u.cells.toList.length) (e:=0) ?_ fun i hi=>⟨YV hv.cells hi _ _ _,.ptr (Rho.Zo _ _ _)⟩
 simp only [Instr.box,Sem.run_bind,Result.andThen_ok,S5]
 rfl
theorem Dx {t:TypeId}:Make P r w (Instr.makeMap t none) (fun i => .map i) (.map [] 0):=by
 refine XI (o := .map ⟨[]⟩ 0) (u := .map (some w.heap.size)) (n:=0) (e:=0) ?_ fun i hi=>⟨⟨[],rfl,.nil⟩,.map (x:=(RB.of w.heap.size (0) (0))) (Rho.Zo _ _ _)⟩
 simp [Instr.makeMap]
theorem KY:∀ (cs mid pre post:List Value) (off k:Nat),pre.length=off+k→mid.length=cs.length →
  (cs.zipIdx k).foldl (fun (l:List Value) (x:Value×Nat)=>l.set (off+x.2) x.1) (pre++(mid++post))=pre++(cs++post)
 | [],[],pre,post,off,k,_,_=>rfl
 | [],_::_,_,_,_,_,_,h=>by cases h
 | _::_,[],_,_,_,_,_,h=>by cases h
 | c::cs,m::mid,pre,post,off,k,h,hm=>by
  rw [List.zipIdx_cons,List.foldl_cons]
  have h1:(pre++(m::mid++post)).set (off+k) c=(pre++[c])++(mid++post):=by
   rw [← h,List.set_append_right _ _ (Nat.le_refl _)]
   simp
  rw [h1,KY cs mid (pre++[c]) post off (k+1) (by rw [List.length_append,h]; rfl) (by simpa using hm)]
  simp
theorem Dy (off:Nat) (cs l:List Value) (h:off+cs.length≤l.length) :
  (cs.zipIdx).foldl (fun (l:List Value) (x:Value×Nat)=>l.set (off+x.2) x.1) l=l.take off++(cs++l.drop (off+cs.length)):=by
 have h1:l=l.take off++((l.drop off).take cs.length++l.drop (off+cs.length)):=by
  rw [← List.drop_drop,List.take_append_drop,List.take_append_drop]
 have h2:=KY cs ((l.drop off).take cs.length) (l.take off) (l.drop (off+cs.length)) off 0 (by rw [List.length_take]; omega) (by rw [List.length_take,List.length_drop]; omega)
 rw [← h1] at h2
 exact h2
theorem foldl_toArray (f:Nat→Nat):∀ (l:List (Value×Nat)) (a:List Value),
  (l.foldl (fun (cs:Array Value) (x:Value×Nat)=>cs.setIfInBounds (f x.2) x.1) ⟨a⟩)=⟨l.foldl (fun (l:List Value) (x:Value×Nat)=>l.set (f x.2) x.1) a⟩
 | [],a=>rfl
 | x::l,a=>by
  rw [List.foldl_cons,List.foldl_cons,← foldl_toArray f l]
  congr 1
  apply Array.ext'
  simp
inductive FR2 (r:Rho) (l:List Zc) (e:Env) (place:Nat→Option (Nat×Nat)):SE→List (Nat×Value)→Prop where
 | nil:FR2 r l e place .nil []
 | cons {x:Z9} {p:Pt} {f:SE} {i:Nat} {u:Value} {ps:List (Nat×Value)} (hx:∀ v,Zn l e x = .ok v→VR r v u)
   (hp:∀ o n g,p = .mk o n g→place i=some (o,n)) (h:FR2 r l e place f ps):FR2 r l e place (.cons x p f) ((i,u)::ps)
theorem S6 {l:List Zc} {e:Env} {place:Nat→Option (Nat×Nat)}:∀ {f:SE} {ps:List (Nat×Value)},FR2 r l e place f ps→∀ {cs cs':List Zc} {us:List Value},
  YB l e f cs=some cs'→VRs r cs us→∃ us',Instr.fill place ⟨us⟩ ps=some ⟨us'⟩∧VRs r cs' us'
 | _,_,.nil,cs,cs',us,h,hv=>by
  cases h
  exact ⟨us,rfl,hv⟩
 | _,_,.cons (x:=x) (p:=p) (f:=f) (u:=u) hx hp hf,cs,cs',us,h,hv=>by
  simp only [YB] at h
  split at h
  ·rename_i off n g v hv1
   rcases Ze h with ⟨h1,h2⟩ | ⟨_,h2⟩
   ·split at h2
    ·rename_i cs1 hs
     obtain ⟨h3,rfl,_⟩:=Ky hs
     have hxv:=(hx v hv1).cells
     have hul:=hxv.length
     have hvl:=hv.length
     obtain ⟨us',h4,h5⟩:=S6 hf h2 ((hv.take off).append (hxv.append (hv.drop (off+v.cells.length))))
     refine ⟨us',?_,h5⟩
     have hsz:u.cells.size=n:=by rw [← Array.length_toList,hul,Vk h1]
     have hle:¬ (off+u.cells.size>us.length):=by rw [← Array.length_toList,hul,hvl]; omega
     rw [← h4]
     simp only [Instr.fill,hp off n g rfl]
     rw [hsz] at hle ⊢
     have hle':¬ (off+n>(⟨us⟩:Array Value).size):=hle
     simp only [ne_eq,not_true_eq_false,decide_false,Bool.false_or,hle',Bool.false_eq_true,if_false]
     congr 1
     have hz:u.cells.zipIdx=⟨u.cells.toList.zipIdx⟩:=by
      apply Array.ext'
      simp
     rw [hz]
     show (Array.foldl (fun (cs:Array Value) (x:Value×Nat)=>cs.setIfInBounds (off+x.2) x.1) ⟨us⟩ ⟨u.cells.toList.zipIdx⟩)=_
     rw [List.foldl_toArray',foldl_toArray (fun k=>off+k),Dy off u.cells.toList us (by rw [hul,hvl]; omega),hul]
     rfl
    ·cases h2
   ·cases h2
  ·cases h
theorem Rp:∀ (fs:List Field),(∀ f∈fs,∃ n,Z2 P f.type=some n) →
  ∃ ps:List (Nat×Nat),fs.mapM (fun f=>(P.info? f.type).map fun i=>(f.offset,i.size))=some ps∧∀ (i:Nat) (f:Field) (n:Nat),fs[i]? = some f→Z2 P f.type=some n→ps[i]? = some (f.offset,n)
 | [],_=>⟨[],rfl,fun i f n h=>by cases h⟩
 | f::fs,h=>by
  obtain ⟨n,hn⟩:=h f List.mem_cons_self
  obtain ⟨ps,h1,h2⟩:=Rp fs fun g hg=>h g (List.mem_cons_of_mem _ hg)
  have hn':(P.info? f.type).map (fun i=>(f.offset,i.size))=some (f.offset,n):=by
   unfold Z2 at hn
   rw [Option.map_eq_some_iff] at hn ⊢
   obtain ⟨i,h3,rfl⟩:=hn
   exact ⟨i,h3,rfl⟩
  refine ⟨(f.offset,n)::ps,by simp [List.mapM_cons,hn',h1],fun i g m hg hm => ?_⟩
  cases i with
  | zero=>cases hg; rw [hn] at hm; cases hm; rfl
  | succ i=>exact h2 i g m hg hm
theorem Zak {t:TypeId} {z:Zc} (hz:SC P t=some z) {l:List Zc} {e:Env} {f:SE} {ps:Array (Nat×Value)} {cs:List Zc}
  (hf:∀ place:Nat→Option (Nat×Nat),(∀ i o n g,Ki P t i = .mk o n g→place i=some (o,n))→FR2 r l e place f ps.toList)
  (h:YB l e f z.cells=some cs):ZO P r w (Instr.build t ps) (.agg cs):=by
 obtain ⟨fs,h1,h2,h3⟩:=BW hz
 obtain ⟨_,u,_,_,h4,h5⟩:=Xn h2
 obtain ⟨pl,h6,h7⟩:=Rp fs.toList h3
 have hpl:∀ i o n g,Ki P t i = .mk o n g→(⟨pl⟩:Array (Nat×Nat))[i]? = some (o,n):=fun i o n g hi=>by
  obtain ⟨fs',x,h8,h9,h10,h11,_⟩:=TD hi
  rw [h1] at h8
  cases h8
  rw [List.getElem?_toArray,← h10]
  exact h7 i x n (by rw [Array.getElem?_toList]; exact h9) h11
 obtain ⟨us,h8,h9⟩:=S6 (hf (fun i=>(⟨pl⟩:Array (Nat×Nat))[i]?) hpl) h (h5 r).cells
 refine ⟨_,?_,.agg h9⟩
 have hp:=run_places (P:=P) w fs.toList pl h6
 have h8':Instr.fill (fun x=>pl[x]?) u.cells ps.toList=some ⟨us⟩:=by simpa using h8
 simp [Instr.build,run_underlying h1,h4,Array.mapM_eq_mapM_toList,hp,h8']
theorem Rq (l:List Zc):∀ n,(Yz n l).length=n*l.length
 | 0=>by simp [Yz]
 | n+1=>by rw [Yz,List.length_append,Rq l n,Nat.succ_mul]; omega
def JR:Nat→List Value→List Value
 | 0,_=>[]
 | n+1,l=>l++JR n l
theorem VRs.rep {l:List Zc} {l':List Value} (h:VRs r l l'):∀ n,VRs r (Ev.Yz n l) (Ev.JR n l')
 | 0 => .nil
 | n+1=>h.append (VRs.rep h n)
theorem JS (l:List Value):∀ n,(Ev.JR n l).length=n*l.length
 | 0=>by simp [Ev.JR]
 | n+1=>by rw [Ev.JR,List.length_append,JS l n,Nat.succ_mul]; omega
theorem M1 {l:List Value}:∀ (n i:Nat),i<n*l.length→(Ev.JR n l)[i]? = l[i%l.length]?
 | 0,i,h=>by simp at h
 | n+1,i,h=>by
  rw [Nat.succ_mul] at h
  rw [Ev.JR]
  by_cases hi:i<l.length
  ·rw [List.getElem?_append_left hi,Nat.mod_eq_of_lt hi]
  ·rw [List.getElem?_append_right (by omega),M1 n (i-l.length) (by omega),← Nat.mod_eq_sub_mod (a:=i) (by omega)]
theorem WR (z:Array Value) (n:Nat):(Array.range (n*z.size)).map (fun i=>z[i%z.size]!)=⟨Ev.JR n z.toList⟩:=by
 apply Array.ext'
 apply List.ext_getElem?
 intro i
 by_cases h:i<n*z.size
 ·have h0:0<z.size:=Nat.pos_of_ne_zero fun e=>by rw [e] at h; simp at h
  have h1:i%z.size<z.size:=Nat.mod_lt _ h0
  rw [M1 n i (by simpa using h)]
  simp [h,h1]
 ·rw [List.getElem?_eq_none (by simp; omega),List.getElem?_eq_none (by rw [JS]; simpa using h)]
theorem Mz {t:TypeId} {z:Zc} {e0 sz n:Nat} {g:Bool} (hz:JH P t=some z) (he:Jf P t = .mk e0 sz g) (hsz:sz≠0) (hn:n*sz≤16777216)
  {l:List Zc} {e:Env} {f:SE} {ps:Array (Nat×Value)} {cs:List Zc}
  (hf:∀ place:Nat→Option (Nat×Nat),(∀ i,place i=some (i*sz,sz))→FR2 r l e place f ps.toList)
  (h:YB l e f (Yz n z.cells)=some cs):Make P r w (Instr.buildSlice t n ps) (fun i => .slice i 0 n none) (.cells cs sz false):=by
 obtain ⟨h1,h2,_⟩:=QG he
 obtain ⟨el,h3,h4,m,h5,h6⟩:=KA hz
 rw [h1] at h3
 cases h3
 rw [h2] at h5
 cases h5
 obtain ⟨_,u,_,_,h7,h8⟩:=Xn h4
 have hu:=(h8 r).cells
 have hul:u.cells.size=sz:=by rw [← Array.length_toList,hu.length,h6]
 obtain ⟨us,h9,h10⟩:=S6 (hf (fun i=>some (i*sz,sz)) fun _=>rfl) h (hu.rep n)
 have hcl:us.length=n*sz:=by
  have hlen:∀ {f:SE} {cs cs':List Zc},YB l e f cs=some cs'→cs'.length=cs.length:=by
   intro f
   induction f with
   | nil=>intro cs cs' h; cases h; rfl
   | cons x p f ih =>
    intro cs cs' h
    simp only [YB] at h
    split at h
    ·rcases Ze h with ⟨h1,h2⟩ | ⟨_,h2⟩
     ·split at h2
      ·rename_i cs1 hs
       obtain ⟨h3,rfl,_⟩:=Ky hs
       rw [ih h2]
       simp only [List.length_append,List.length_take,List.length_drop]
       omega
      ·cases h2
     ·cases h2
    ·cases h
  rw [h10.length,hlen h,Rq,h6]
 have hcy:=WR u.cells n
 rw [hul] at hcy
 refine XI (o := .cells ⟨us⟩ e0) (u := .slice (some ⟨w.heap.size,0,none⟩) n n) (n:=us.length) (e:=sz) ?_ fun i hi=>⟨YV h10 hi _ _ _,.slice (Rho.Zo _ _ _) (Nat.le_refl _) (fun k hk=>by cases hk) fun _=>by simp [hcl]⟩
 have hgt:¬ (n*sz>2^24):=by omega
 simp only [Instr.buildSlice,Sem.run_bind,run_underlying h1,Result.andThen_ok,run_sizeOf h2,hgt,if_false]
 by_cases h0:n*sz=0
 ·have hn0:n=0:=by rcases Nat.mul_eq_zero.1 h0 with h | h; exact h; exact absurd h hsz
  subst hn0
  have h9':Instr.fill (fun i=>some (i*sz,sz)) #[] ps.toList=some ⟨us⟩:=h9
  have hr0:Array.range 0 = #[]:=rfl
  simp [h9',newRow,hr0]
 ·simp [h0,h7,hul,hcy,h9,newRow]
theorem Zal {t:TypeId} (h:byT P t=true):∃ e i,P.underlying t=some (.slice e)∧P.info? e=some i∧i.bytes≤65536:=by
 unfold byT at h
 split at h
 ·rename_i e h0
  split at h
  ·rename_i i h1
   exact ⟨e,i,h0,h1,Z6 h⟩
  ·cases h
 ·cases h
theorem wrap_small {c:Nat} (h:c≤65536):IntKind.i64.wrap (c:Int)=(c:Int):=by
 exact IntWalk.i64_in _ (by omega)
theorem B8 {t:TypeId} {z:Zc} {e0 sz n c:Nat} {g:Bool} {k k':IntKind} (hby:byT P t=true) (hz:JH P t=some z) (he:Jf P t = .mk e0 sz g) (hsz:sz≠0) (hnc:n≤c) (hc:c≤65536) :
  Make P r w (Instr.makeSlice t (.int k (n:Int)) (.int k' (c:Int))) (fun i => .slice i 0 n (some c)) (.cells (Yz c z.cells) sz false):=by
 obtain ⟨h1,h2,_⟩:=QG he
 obtain ⟨el,h3,h4,m,h5,h6⟩:=KA hz
 rw [h1] at h3
 cases h3
 rw [h2] at h5
 cases h5
 obtain ⟨_,i,h3,h9,h10⟩:=Zal hby
 rw [h1] at h3
 cases h3
 obtain ⟨_,u,_,_,h7,h8⟩:=Xn h4
 have hu:=(h8 r).cells
 have hul:u.cells.size=sz:=by rw [← Array.length_toList,hu.length,h6]
 have hcy:=WR u.cells c
 rw [hul] at hcy
 refine XI (o := .cells ⟨JR c u.cells.toList⟩ e0) (u := .slice (some ⟨w.heap.size,0,none⟩) n c) (n:=(JR c u.cells.toList).length) (e:=sz) ?_ fun i hi =>
  ⟨YV (hu.rep c) hi _ _ _,.slice (Rho.Zo _ _ _) hnc (fun k hk=>by cases hk; rfl) fun hk=>by cases hk⟩
 have hp:i.bytes*c≤4294967296:=Nat.mul_le_mul h10 hc
 have hp':(i.bytes:Int)*(c:Int)≤4294967296:=by
  rw [← Int.natCast_mul]
  omega
 have hcond:(decide ((c:Int)<0) || decide ((i.bytes:Int)*(c:Int)>2^48) || decide ((n:Int)<0) || decide ((n:Int)>(c:Int)))=false:=by
  rw [Bool.or_eq_false_iff,Bool.or_eq_false_iff,Bool.or_eq_false_iff]
  refine ⟨⟨⟨decide_eq_false (by omega),decide_eq_false (by omega)⟩,decide_eq_false (by omega)⟩,decide_eq_false (by omega)⟩
 simp only [Instr.makeSlice,Sem.run_bind,run_underlying h1,Result.andThen_ok,run_sizeOf h2,asInt,asIntOf,Sem.run_pure,run_typeInfo h9,wrap_small hc,wrap_small (Nat.le_trans hnc hc),hcond,
  Bool.false_eq_true,if_false,run_askRoom,Int.toNat_natCast]
 by_cases h0:c*sz=0
 ·have hc0:c=0:=by rcases Nat.mul_eq_zero.1 h0 with h | h; exact h; exact absurd h hsz
  subst hc0
  have hr0:Array.range 0 = #[]:=rfl
  simp [newRow,hr0]
  rfl
 ·simp [h0,h7,hul,hcy,newRow]
theorem Yg {r:Rho}:∀ l:List UInt8,VRs r (ZS l) (l.map fun b => .int .u8 (Int.ofNat b.toNat))
 | [] => .nil
 | b::l => .cons (.int _ _) (Yg l)
theorem GB {e:TypeId} (l:List UInt8):Make P r w (Conv.stringToBytes e ⟨⟨l⟩⟩) (fun i => .slice i 0 l.length none) (.cells (ZS l) 1 true):=by
 have hge:l.length≤grownCap w l.length 0 e:=grownCap_ge w l.length 0 e
 let A:Array Value:=(⟨l⟩:Array UInt8).map (fun b=>Value.int .u8 b.toNat)++Array.replicate (grownCap w l.length 0 e-l.length) (.int .u8 0)
 have hA:A=⟨(l.map fun b=>Value.int .u8 (Int.ofNat b.toNat))++List.replicate (grownCap w l.length 0 e-l.length) (.int .u8 0)⟩:=by
  apply Array.ext'
  simp [A]
 have hAs:A.size=grownCap w l.length 0 e:=by
  simp [A]
  omega
 have hfr:((w.drew.alloc (.cells A e)).freeze ⟨w.heap.size,A.size,none⟩ 1).heap=w.heap.push (.cells A e (A.size,A.size+1)):=by
  have h0:(w.drew.alloc (.cells A e)).heap=w.heap.push (.cells A e):=rfl
  rw [World.freeze,if_neg (by decide)]
  simp only [h0]
  apply Array.ext_getElem?
  intro k
  rw [Array.getElem?_modify,Array.getElem?_push,Array.getElem?_push]
  by_cases hk:k=w.heap.size
  ·subst hk
   simp
  ·rw [if_neg hk,if_neg hk,if_neg (Ne.symm hk)]
 refine ⟨(w.drew.alloc (.cells A e)).freeze ⟨w.heap.size,A.size,none⟩ 1,.slice (some ⟨w.heap.size,0,none⟩) l.length (grownCap w l.length 0 e),(RB.of w.heap.size (A.size) (1)),.cells A e (A.size,A.size+1),?_,⟨rfl,rfl⟩,?_,?_,?_,rfl,rfl,rfl,fun i hi=>⟨?_,?_⟩⟩
 ·have hsz:(⟨⟨l⟩⟩:ByteArray).size=l.length:=rfl
  have hsh:(w.drew.alloc (.cells A e)).shape? w.heap.size=some (e,A.size):=by
   show (match (w.heap.push (.cells A e))[w.heap.size]? with | some (.cells c elem _)=>some (elem,c.size) | _=>none)=_
   simp
  have hrow:∀ B:Array Value,B=A→(newRow e B).run P w.drew = .ok ⟨w.heap.size,0,none⟩ (w.drew.alloc (.cells A e)):=fun B hB=>by rw [hB]; rfl
  have hch:(choose (.appendCap l.length 0 e)).run P w = .ok (grownCap w l.length 0 e) w.drew:=rfl
  simp only [Conv.stringToBytes,Sem.run_bind,hsz,hch,Result.andThen_ok]
  rw [hrow _ rfl]
  simp only [Result.andThen_ok,markStringish,Sem.run_bind,run_shape,hsh,run_freeze,Sem.run_pure]
 ·rw [hfr]; simp
 ·intro k hk; rw [hfr,Array.getElem?_push,if_neg (by omega)]
 ·rw [hfr,Array.size_push]; omega
 ·refine ⟨rfl,_,_,e,_,congrArg (fun B=>Obj.cells B e (A.size,A.size+1)) hA,(Yg l).mono (Rho.JL r _ hi),?_,fun h=>(by cases h),fun k hk => ?_⟩
  ·exact (congrArg Array.size hA).symm
  ·show ¬ (A.size≤k∧k<A.size+1)
   have:k<A.size:=hk
   omega
 ·exact .slice (Rho.Zo _ _ _) hge (fun k hk=>by cases hk) fun _=>by
   show 0+grownCap w l.length 0 e*1=A.size
   rw [hAs]
   omega
end Go.Proofs.YtheflbaejhlboaaGreatDoor.Ev
namespace Go.Proofs.YtheflbaejhlboaaGreatDoor.Ev
open Go
variable [Sig] {P:Program} {r:Rho} {s:St} {w:World}
theorem LC (h:Rel r s w) {id off:Nat} {x:RB} (hx:r id=some x) {cs:List Zc} {e:Nat} {o:Bool} (hc:s.ZQ id = .mk cs e o)
  {nw:List Zc} {us:List Value} (hv:VRs r nw us) {cs':List Zc} (hp:splice cs off nw=some cs') :
  ∃ w',(storeCells ⟨x.blk,off,none⟩ us).run P w = .ok () w'∧Ext r s w r (s.put id (.cells cs' e o)) w':=by
 obtain ⟨ob,hb,hr⟩:=h.block id _ x (ZL hc) hx
 obtain ⟨he,vs,rest,et,fr,rfl,hvs,hlen,hop,hfr⟩:=hr
 obtain ⟨h1,rfl,h3⟩:=Ky hp
 have hcl:=hvs.length
 have hul:=hv.length
 refine ⟨upd w x.blk (.cells ⟨(vs++rest).take off++(us++(vs++rest).drop (off+us.length))⟩ et fr),?_,Ext.put h (ZL hc) hx (KD hb) ?_ (fun k hk=>SM _ hk) (WH _ _) rfl rfl rfl⟩
 ·exact JN us 0 (vs++rest) w hb (by simp only [List.length_append,Nat.add_zero]; omega) (fun k hk=>hfr k (by rw [← hlen]; exact hk)) (hv.ZcG h3)
 ·refine ⟨he,vs.take off++(us++vs.drop (off+us.length)),rest,et,fr,?_,(hvs.take off).append (hv.append ?_),?_,hop,hfr⟩
  ·rw [List.take_append_of_le_length (by omega),List.drop_append_of_le_length (by omega)]
   simp
  ·rw [hul]
   exact hvs.drop _
  ·rw [← hlen]
   simp only [List.length_append,List.length_take,List.length_drop]
   omega
theorem B9 {t:TypeId} (h:Rel r s w) {v a b:Zc} {s':St} (hl:Ty s (Jr P t) v a = .ok b s') {x y:Value} (hv:VR r v y) (ha:VR r a x) :
  b=Qu∧Gz P r s w (Instr.storeAt t x y) s':=by
 unfold Ty at hl
 split at hl
 ·rename_i id off
  unfold Tx at hl
  split at hl
  ·rename_i cs e o o' n g hc hp
   obtain ⟨h1,h2⟩:=Zr hl
   obtain ⟨h3,_⟩:=MP hp
   cases ha with
   | ptr hr =>
    unfold putCells at h2
    split at h2
    ·rename_i cs' hs
     cases h2
     obtain ⟨w',h4,h5⟩:=Lt (P:=P) h hr hc h3 hv h1 hs
     refine ⟨rfl,r,w',?_,h5⟩
     simp only [Instr.storeAt,Instr.sureAddr,Sem.run_bind,Sem.run_pure,Result.andThen_ok,h4]
    ·cases h2
  ·cases hl
 ·cases hl
theorem M3 {v:Zc} {u:Value} {sz k:Nat} {news:List Zc} (h:Xm s sz v = .mk news k) (hv:VR r v u):(Builtin.lenOf u).run P w = .ok k w:=by
 unfold Xm at h
 split at h
 ·cases h; cases hv; rfl
 ·cases h; cases hv; rfl
 ·rename_i l
  cases hv
  have:Src.mk (ZS l) l.length = .mk news k:=by
   cases hb:Nat.beq sz 1
   ·rw [hb] at h; cases h
   ·rw [hb] at h; exact h
  cases this
  rfl
 ·rename_i id off n c
  unfold ZcE at h
  split at h
  ·rename_i cs e o hc
   cases hb:Nat.beq e sz
   ·rw [hb] at h; cases h
   ·rw [hb] at h
    have h:TA n (sub cs off (n*sz)) = .mk news k:=h
    unfold TA at h
    split at h
    ·cases h; cases hv; rfl
    ·cases h
  ·cases h
 ·cases h
theorem XJ (h:Rel r s w) {v:Zc} {u:Value} {sz k:Nat} {news:List Zc} (hs:Xm s sz v = .mk news k) (hv:VR r v u) {m:Nat} (hm:m≤k) :
  ∃ us,(∀ d,(Builtin.firstCells sz m u).run P { w with drawn:=d } = .ok ⟨us⟩ { w with drawn:=d })∧VRs r (news.take (m*sz)) us∧us.length=m*sz:=by
 unfold Xm at hs
 split at hs
 ·cases hs; cases hv
  have:m=0:=by omega
  subst this
  exact ⟨[],fun _=>rfl,by simp; exact .nil,by simp⟩
 ·cases hs
  cases hv with
  | ZX a c =>
   have:m=0:=by omega
   subst this
   refine ⟨[],?_,by simp; exact .nil,by simp⟩
   intro d
   simp [Builtin.firstCells,loadCells,loadCellsFrom]
 ·rename_i l
  cases hv
  cases hb:Nat.beq sz 1
  ·rw [hb] at hs; cases hs
  ·rw [hb] at hs
   have hs:Src.mk (ZS l) l.length = .mk news k:=hs
   cases hs
   have:=ZD hb
   subst this
   refine ⟨(l.take m).map fun b => .int .u8 (Int.ofNat b.toNat),?_,?_,?_⟩
   ·intro d
    simp only [Builtin.firstCells,VT,Sem.run_pure]
    congr 1
    apply Array.ext'
    simp
   ·have:(ZS l).take (m*1)=ZS (l.take m):=by
     rw [Nat.mul_one]
     clear hm hs
     induction l generalizing m with
     | nil=>simp [ZS]
     | cons b l ih =>
      cases m with
      | zero=>rfl
      | succ m=>simp [ZS,ih]
    rw [this]
    exact Yg _
   ·simp; omega
 ·rename_i id off n c
  unfold ZcE at hs
  split at hs
  ·rename_i cs e o hc
   cases hb:Nat.beq e sz
   ·rw [hb] at hs; cases hs
   ·rw [hb] at hs
    have hs:TA n (sub cs off (n*sz)) = .mk news k:=hs
    unfold TA at hs
    split at hs
    ·rename_i l hl
     cases hs
     cases hv with
     | slice hr hn hcp hu =>
      obtain ⟨h1,rfl⟩:=sub_eq hl
      have h2:m*sz≤k*sz:=Nat.mul_le_mul_right _ hm
      obtain ⟨ob,hb,hbr⟩:=h.block id _ _ (ZL hc) hr
      obtain ⟨_,vs,rest,et,fr,rfl,hvs,hlen,_,_⟩:=hbr
      have hcl:=hvs.length
      refine ⟨((vs++rest).drop off).take (m*sz),?_,?_,by simp only [List.length_take,List.length_drop,List.length_append]; omega⟩
      ·intro d
       simp only [Builtin.firstCells]
       exact Jh (w:={ w with drawn:=d }) hb (by simp only [List.length_append]; omega)
      ·rw [List.take_take,Nat.min_eq_left h2]
       exact hvs.range (by omega)
    ·cases hs
  ·cases hs
 ·cases hs
theorem ZcV {t:TypeId} {ts:Array TypeId} {ty:TypeId} (ht:ts[0]? = some t) (h:Rel r s w) {x y v:Zc} {s':St} (hl:copy (Jf P t) s x y = .ok v s') {a b:Value} (hx:VR r x a) (hy:VR r y b) :
  VN P r s w (Builtin.copy_ ts ty #[a,b]) v s':=by
 unfold copy at hl
 split at hl
 ·rename_i e0 sz g hel
  obtain ⟨h0,hl⟩:=WO hl
  obtain ⟨h1,h2,_⟩:=QG hel
  unfold Zej at hl
  split at hl
  ·rename_i news k hsrc
   have hlen:=M3 (P:=P) (w:=w) hsrc hy
   unfold copyV at hl
   split at hl
   ·cases hl
    cases hx
    obtain ⟨us,h3,h4,h5⟩:=XJ (P:=P) h hsrc hy (Nat.zero_le k)
    refine ⟨r,w,.int .i64 0,?_,.int _ _,Ext.refl h⟩
    simp only [Builtin.copy_,ht,List.getElem?_toArray,List.getElem?_cons_zero,List.getElem?_cons_succ,Sem.run_bind,run_underlying h1,Result.andThen_ok,hlen,run_sizeOf h2]
    have:Nat.min k 0=0:=Nat.min_zero k
    rw [this,h3 w.drawn]
    rfl
   ·rename_i id off len c _
    have hmin:ZcF k len=Nat.min k len:=by
     unfold ZcF
     cases hb:Nat.ble k len
     ·have:=YR hb
      show len=min k len
      omega
     ·have:=Z6 hb
      show k=min k len
      omega
    rw [hmin] at hl
    unfold Zg9 at hl
    split at hl
    ·rename_i cs e o news' hc htk
     obtain ⟨h6,hl⟩:=Zr hl
     unfold Zei at hl
     split at hl
     ·rename_i cs' hsp
      cases hl
      cases hx with
      | slice hr hn hcp hu =>
       obtain ⟨us,h3,h4,h5⟩:=XJ (P:=P) h hsrc hy (Nat.min_le_left k len)
       obtain ⟨_,rfl⟩:=SI _ htk
       obtain ⟨w',h7,h8⟩:=LC (P:=P) h hr hc h4 hsp
       refine ⟨r,w',.int .i64 (Int.ofNat (Nat.min k len)),?_,.int _ _,h8⟩
       simp only [Builtin.copy_,ht,List.getElem?_toArray,List.getElem?_cons_zero,List.getElem?_cons_succ,Sem.run_bind,run_underlying h1,Result.andThen_ok,hlen,run_sizeOf h2,h3 w.drawn,h7]
       rfl
     ·cases hl
    ·cases hl
   ·cases hl
  ·cases hl
 ·cases hl
theorem Zam {t:TypeId} {ts:Array TypeId} {ty:TypeId} (ht:ts[0]? = some t) (h:Rel r s w) {x v:Zc} {s':St} (hl:clear (JH P t) (Jf P t) s x = .ok v s') {a:Value} (hx:VR r x a) :
  VN P r s w (Builtin.clear_ ts ty #[a]) v s':=by
 unfold clear at hl
 split at hl
 ·rename_i o n g hel
  cases hl; cases hx
  obtain ⟨h1,_⟩:=QG hel
  refine ⟨r,w,.tuple #[],?_,.tuple .nil,Ext.refl h⟩
  simp [Builtin.clear_,ht,run_underlying h1]
 ·rename_i o n g hel
  cases hl
  obtain ⟨h1,_⟩:=QG hel
  cases hx with
  | ZX ad c =>
   refine ⟨r,w,.tuple #[],?_,.tuple .nil,Ext.refl h⟩
   simp [Builtin.clear_,ht,run_underlying h1]
 ·rename_i id off len c o sz g hel
  obtain ⟨h1,h2,_⟩:=QG hel
  cases hx with
  | slice hr hn hcp hu =>
   rename_i x cap
   cases hb:Nat.beq len 0
   ·rw [hb] at hl
    have hl:clC s id off len (JH P t) sz (s.ZQ id) = .ok v s':=hl
    have hn0:len≠0:=Je hb
    unfold clC at hl
    split at hl
    ·rename_i cs e o' z hc hz
     obtain ⟨h6,hl⟩:=Zr hl
     unfold Zek at hl
     split at hl
     ·rename_i cs' hsp
      cases hl
      obtain ⟨el,h3,h4,m,h5,h7⟩:=KA hz
      rw [h1] at h3
      cases h3
      obtain ⟨_,u,_,_,h8,h9⟩:=Xn h4
      obtain ⟨w',h10,h11⟩:=LC (P:=P) h hr hc ((h9 r).cells.rep len) hsp
      refine ⟨r,w',.tuple #[],?_,.tuple .nil,h11⟩
      have hcy:Builtin.zeroCells u.cells len=⟨Ev.JR len u.cells.toList⟩:=WR u.cells len
      obtain ⟨len,rfl⟩:=Nat.exists_eq_succ_of_ne_zero hn0
      simp only [Builtin.clear_,ht,List.getElem?_toArray,List.getElem?_cons_zero,Sem.run_bind,run_underlying h1,Result.andThen_ok,h8]
      rw [hcy,h10]
      rfl
     ·cases hl
    ·cases hl
   ·rw [hb] at hl
    have hl:R.ok (.tuple []) s = .ok v s':=hl
    cases hl
    have:=ZD hb
    subst this
    refine ⟨r,w,.tuple #[],?_,.tuple .nil,Ext.refl h⟩
    simp [Builtin.clear_,ht,run_underlying h1]
 ·cases hl
end Go.Proofs.YtheflbaejhlboaaGreatDoor.Ev
namespace Go.Proofs.YtheflbaejhlboaaGreatDoor.Ev
open Go
variable [Sig] {P:Program} {r:Rho} {s:St} {w:World}
structure Dz (P:Program) (r:Rho) (w:World) (zs:Bool) (sz k:Nat) (z:Value) (news:List Zc) (b:Value) (us:List Value):Prop where
 rel:VRs r news us
 len:us.length=k*sz
 plain:zs=false→(∀ w,(Builtin.lenOf b).run P w = .ok k w)∧(Builtin.firstCells sz k b).run P w = .ok ⟨us⟩ w∧(Builtin.firstCells sz k b).run P w.drew = .ok ⟨us⟩ w.drew
 Zan:zs=true→∃ j,b = .int j (k:Int)∧k≤65536∧us=Ev.JR k z.cells.toList
theorem Zfl (h:Rel r s w) {zs:Bool} {t:TypeId} {z:Zc} {e0 sz:Nat} {g:Bool} (hz:JH P t=some z) (he:Jf P t = .mk e0 sz g) {y:Zc} {news:List Zc} {k:Nat}
  (hs:Zeg zs s (some z) sz y = .mk news k) {b:Value} (hy:VR r y b) {u:Value} (hu:VR r z u):∃ us,Dz P r w zs sz k u news b us:=by
 obtain ⟨h1,h2,_⟩:=QG he
 obtain ⟨el,h3,h4,m,h5,h6⟩:=KA hz
 rw [h1] at h3
 cases h3
 rw [h2] at h5
 cases h5
 cases zs
 ·have hs:Xm s sz y = .mk news k:=hs
  obtain ⟨us,h7,h8,h9⟩:=XJ (P:=P) h hs hy (Nat.le_refl k)
  have hnl:news.length=k*sz:=by
   unfold Xm at hs
   split at hs
   ·cases hs; simp
   ·cases hs; simp
   ·rename_i l
    rcases Ze hs with ⟨h0,h10⟩ | ⟨_,h10⟩
    ·cases h10
     have:∀ l:List UInt8,(ZS l).length=l.length:=by
      intro l
      induction l with
      | nil=>rfl
      | cons b l ih=>simp [ZS,ih]
     rw [this,ZD h0,Nat.mul_one]
    ·cases h10
   ·unfold ZcE at hs
    split at hs
    ·rcases Ze hs with ⟨h0,h10⟩ | ⟨_,h10⟩
     ·unfold TA at h10
      split at h10
      ·rename_i l hl
       cases h10
       obtain ⟨h11,rfl⟩:=sub_eq hl
       rw [List.length_take,List.length_drop]
       omega
      ·cases h10
     ·cases h10
    ·cases hs
   ·cases hs
  rw [← hnl,List.take_length] at h8
  exact ⟨us,h8,h9,fun _=>⟨fun w=>M3 hs hy,h7 w.drawn,h7 (w.drawn+1)⟩,fun e=>by cases e⟩
 ·have hs:Lm (some z) (asNat y) = .mk news k:=hs
  unfold Lm at hs
  split at hs
  ·rename_i z' n h7 h8
   cases h7
   rcases Ze hs with ⟨h0,h10⟩ | ⟨_,h10⟩
   ·cases h10
    obtain ⟨j,rfl⟩:=JQ h8 hy
    refine ⟨Ev.JR k u.cells.toList,hu.cells.rep k,?_,fun e=>(by cases e),fun _=>⟨j,rfl,Z6 h0,rfl⟩⟩
    rw [JS,hu.cells.length,h6]
   ·cases h10
  ·cases hs
variable {t e0:TypeId} {ts:Array TypeId} {ty:TypeId} {sz k:Nat} {z:Value} {zs:Bool} {news:List Zc} {b:Value} {us:List Value}
structure ElR (P:Program) (t e0:TypeId) (sz:Nat) (z:Value):Prop where
 sl:P.underlying t=some (.slice e0)
 size:∀ w,(sizeOf e0).run P w = .ok sz w
 info:∃ i,(∀ w,(typeInfo e0).run P w = .ok i w)∧i.bytes≤65536
 zero:∀ w,(zeroValue e0).run P w = .ok z w
 fit:z.cells.size=sz
 pos:sz≠0
inductive ZsR (P:Program) (ts:Array TypeId):Bool→Prop where
 | none (h:ts[1]? = none):ZsR P ts false
 | int {u:TypeId} {k:IntKind} (h:ts[1]? = some u) (hu:P.underlying u=some (.int k)):ZsR P ts true
 | other {u:TypeId} {d:TypeDesc} (h:ts[1]? = some u) (hu:P.underlying u=some d) (hd:∀ k,d ≠ .int k):ZsR P ts false
theorem ZcW {ou:Option TypeId} (h:Zfb P ou=some zs) (ho:ts[1]? = ou):ZsR P ts zs:=by
 cases ou with
 | none=>cases h; exact .none ho
 | some u =>
  have h:Dp P u=some zs:=h
  unfold Dp at h
  split at h
  ·rename_i k hu
   cases h
   exact .int ho hu
  ·rename_i d hd hu
   cases h
   exact .other ho hu fun k e=>hd k e
  ·cases h
theorem S7 (ht:ts[0]? = some t) (hz:ZsR P ts false) (hel:ElR P t e0 sz z) (a:Option Addr) (n c:Nat) (b:Value) :
  (Builtin.append_ ts ty #[.slice a n c,b]).run P w=(Builtin.append_ #[t,t] ty #[.slice a n c,b]).run P w:=by
 have key:∀ d,(∀ k,d≠TypeDesc.int k)→∀ u,ts[1]? = some u→P.underlying u=some d →
   (Builtin.append_ ts ty #[.slice a n c,b]).run P w=(Builtin.append_ #[t,t] ty #[.slice a n c,b]).run P w:=by
  intro d hd u h hu
  cases d with
  | int k=>exact absurd rfl (hd k)
  | _ =>
   simp only [Builtin.append_,ht,h,List.getElem?_toArray,List.getElem?_cons_zero,List.getElem?_cons_succ,Sem.run_bind,run_underlying hel.sl,run_underlying hu,hel.size,Result.andThen_ok,Sem.run_pure]
 cases hz with
 | none h =>
  simp only [Builtin.append_,ht,h,List.getElem?_toArray,List.getElem?_cons_zero,List.getElem?_cons_succ,Sem.run_bind,run_underlying hel.sl,hel.size,Result.andThen_ok,Sem.run_pure]
 | other h hu hd=>exact key _ hd _ h hu
theorem TF (hel:ElR P t e0 sz z) {us:List Value} (hl:us.length=k*sz) (hu:us=Ev.JR k z.cells.toList) (w:World) :
  (if k*sz=0 then pure #[] else do pure (Builtin.zeroCells (← zeroValue e0).cells k):Sem (Array Value)).run P w = .ok ⟨us⟩ w:=by
 have hcy:Builtin.zeroCells z.cells k=⟨Ev.JR k z.cells.toList⟩:=WR z.cells k
 by_cases h0:k*sz=0
 ·rw [if_pos h0]
  have:us=[]:=List.eq_nil_of_length_eq_zero (by rw [hl,h0])
  rw [this]
  rfl
 ·rw [if_neg h0]
  simp only [Sem.run_bind,hel.zero,Result.andThen_ok,Sem.run_pure,hcy,hu]
theorem WS {b:Nat} (h1:k≤65536) (hib:b≤65536):¬ (281474976710656<(k:Int)*(b:Int)):=by
 have h5:k*b≤65536*65536:=Nat.mul_le_mul h1 hib
 have h6:((k*b:Nat):Int)≤4294967296:=by omega
 rw [Int.natCast_mul] at h6
 omega
theorem Zao {w':World} (ht:ts[0]? = some t) (hz:ZsR P ts zs) (hel:ElR P t e0 sz z) (hs:Dz P r w zs sz k z news b us) {blk off n c:Nat} (hc:n+k≤c)
  (hst:(storeCells ⟨blk,off+n*sz,none⟩ us).run P w = .ok () w') :
  (Builtin.append_ ts ty #[.slice (some ⟨blk,off,none⟩) n c,b]).run P w = .ok (.slice (some ⟨blk,off,none⟩) (n+k) c) w':=by
 cases zs
 ·rw [S7 ht hz hel]
  obtain ⟨h1,h2,_⟩:=hs.plain rfl
  simp [Builtin.append_,run_underlying hel.sl,hel.size,h1,hc,h2,JM,hst]
 ·cases hz with
  | int h hu =>
   obtain ⟨j,rfl,h1,h2⟩:=hs.Zan rfl
   obtain ⟨i,hi,hib⟩:=hel.info
   have h3:¬ ((k:Int)<0):=by omega
   have h4:=WS h1 hib
   have hap:=TF hel hs.len h2 w
   simp only [Builtin.append_,ht,h,List.getElem?_toArray,List.getElem?_cons_zero,List.getElem?_cons_succ,Sem.run_bind,run_underlying hel.sl,run_underlying hu,hel.size,Result.andThen_ok,Sem.run_pure]
   simp only [if_true,Sem.run_bind,asInt,asIntOf,Sem.run_pure,Result.andThen_ok,wrap_small h1,h3,if_false,hi,gt_iff_lt,show (2:Int)^48=281474976710656 from rfl,h4,Int.toNat_natCast,hc,Bool.not_true,Bool.false_eq_true,hap,JM,hst]
theorem DA (ht:ts[0]? = some t) (hz:ZsR P ts zs) (hel:ElR P t e0 sz z) (hs:Dz P r w zs sz 0 z news b us) :
  (Builtin.append_ ts ty #[.slice none 0 0,b]).run P w = .ok (.slice none 0 0) w:=by
 cases zs
 ·rw [S7 ht hz hel]
  obtain ⟨h1,h2,_⟩:=hs.plain rfl
  simp [Builtin.append_,run_underlying hel.sl,hel.size,h1,h2]
 ·cases hz with
  | int h hu =>
   obtain ⟨j,rfl,h1,h2⟩:=hs.Zan rfl
   obtain ⟨i,hi,hib⟩:=hel.info
   have h3:¬ (((0:Nat):Int)<0):=by omega
   have h4:=WS h1 hib
   have hap:=TF hel hs.len h2 w
   have hc:0+0≤0:=Nat.le_refl 0
   simp only [Builtin.append_,ht,h,List.getElem?_toArray,List.getElem?_cons_zero,List.getElem?_cons_succ,Sem.run_bind,run_underlying hel.sl,run_underlying hu,hel.size,Result.andThen_ok,Sem.run_pure]
   simp only [if_true,Sem.run_bind,asInt,asIntOf,Sem.run_pure,Result.andThen_ok,wrap_small h1,h3,if_false,hi,gt_iff_lt,show (2:Int)^48=281474976710656 from rfl,h4,Int.toNat_natCast,hc,Bool.not_true,Bool.false_eq_true,hap]
theorem DB {b n c:Nat} (hc:c<n) (hn:n≤16777216) (hb:b≤65536):¬ (281474976710656<Builtin.nextslicecap n c*b):=by
 have h1:=nextslicecap_le hc
 have h2:Builtin.nextslicecap n c*b≤33554432*65536:=Nat.mul_le_mul (by omega) hb
 omega
theorem GC (ht:ts[0]? = some t) (hz:ZsR P ts zs) (hel:ElR P t e0 sz z) (hs:Dz P r w zs sz k z news b us) {a:Option Addr} {n c:Nat} (hc:c<n+k) (hm:n+k≤16777216) {os:List Value}
  (ho:(Builtin.firstCells sz n (.slice a n c)).run P w.drew = .ok ⟨os⟩ w.drew) :
  (Builtin.append_ ts ty #[.slice a n c,b]).run P w = .ok (.slice (some ⟨w.heap.size,0,none⟩) (n+k) (grownCap w (n+k) c e0))
   (w.drew.alloc (.cells ⟨os++(us++Ev.JR (grownCap w (n+k) c e0-(n+k)) z.cells.toList)⟩ e0)):=by
 obtain ⟨i,hi,hib⟩:=hel.info
 have hgr:=DB hc hm hib
 have hc':¬ (n+k≤c):=by omega
 have h63:¬ (9223372036854775807<((n:Int)+(k:Int))):=by omega
 have hcy:=fun m=>WR z.cells m
 cases zs
 ·rw [S7 ht hz hel]
  obtain ⟨h1,h2,h5⟩:=hs.plain rfl
  simp [Builtin.append_,run_underlying hel.sl,hel.size,h1,hc',h63,hgr,hi,hel.zero,h5,ho,newRow,grownCap,Question.forced,Builtin.zeroCells,hcy]
 ·cases hz with
  | int h hu =>
   obtain ⟨j,rfl,h1,h2⟩:=hs.Zan rfl
   have h3:¬ ((k:Int)<0):=by omega
   have h4:=WS h1 hib
   have hap:=TF hel hs.len h2 w.drew
   have h63':¬ (((n+k:Nat):Int)>IntKind.i64.max):=by
    show ¬ ((n+k:Nat):Int)>9223372036854775807
    omega
   have h63a:¬ (IntKind.i64.max<((n+k:Nat):Int)∧(True∨i.bytes=0)):=fun h=>h63' h.1
   have hgr':¬ (2^48<Builtin.nextslicecap (n+k) c*i.bytes):=hgr
   have hch:(choose (.appendCap (n+k) c e0)).run P w = .ok (grownCap w (n+k) c e0) w.drew:=rfl
   have hzc:∀ m,Builtin.zeroCells z.cells m=⟨Ev.JR m z.cells.toList⟩:=hcy
   simp only [Builtin.append_,ht,h,List.getElem?_toArray,List.getElem?_cons_zero,List.getElem?_cons_succ,Sem.run_bind,run_underlying hel.sl,run_underlying hu,hel.size,Result.andThen_ok,Sem.run_pure]
   simp only [if_true,Sem.run_bind,asInt,asIntOf,Sem.run_pure,Result.andThen_ok,wrap_small h1,h3,if_false,hi,gt_iff_lt,show (2:Int)^48=281474976710656 from rfl,h4,Int.toNat_natCast,hc',Bool.not_true,Bool.false_eq_true,h63a]
   simp only [hgr',if_false,Sem.run_bind,hch,Result.andThen_ok,hi,run_askRoom,ho,hap,hel.zero,hzc,newRow,Sem.run_pure]
   simp
   rfl
end Go.Proofs.YtheflbaejhlboaaGreatDoor.Ev
namespace Go.Proofs.YtheflbaejhlboaaGreatDoor.Ev
open Go
variable [Sig] {P:Program} {r:Rho} {s:St} {w:World}
theorem Ext.kill (h:Rel r s w) {id:Nat} {x:RB} (hx:r id=some x):Ext r s w r (s.kill id) w where
 rel:=by
  have live:∀ {j d},(s.kill id).get j=some d→s.get j=some d:=fun {j d} hd=>by
   rw [St.JK] at hd
   by_cases hj:id=j
   ·rw [if_pos hj] at hd; cases hd
   ·rw [if_neg hj] at hd; exact hd
  refine ⟨⟨fun j d y hd hy=>h.block j d y (live hd) hy,fun j hj => ?_⟩,fun j k d e y z hd he hy hz=>h.apart j k d e y z (live hd) (live he) hy hz,h.known,fun j y g hy hg=>(h.safe j y g hy hg).step (Nat.le_refl _) (fun _ _ _=>rfl) fun k ⟨j,d,y,hd,hy,hk⟩ => .inl ⟨j,d,y,live hd,hy,hk⟩⟩
  rw [St.J7] at hj
  rw [St.JK]
  by_cases hji:id=j
  ·rw [if_pos hji]
  ·rw [if_neg hji]; exact h.far j hj
 le:=r.le_refl
 next:=Nat.le_refl _
 os:=rfl
 tape:=rfl
 output:=rfl
 size:=Nat.le_refl _
 frame:=fun _ _ _=>rfl
 still:=fun i hi hn d hd=>by
  rw [St.JK] at hd
  by_cases hj:id=i
  ·subst hj; rw [hx] at hn; cases hn
  ·rw [if_neg hj] at hd; exact hd
 dead:=fun i hi hn=>by
  rw [St.JK]
  by_cases hj:id=i
  ·rw [if_pos hj]
  ·rw [if_neg hj]; exact hn
 Xs:=fun k ⟨j,d,y,hd,hy,hk⟩=>by
  rw [St.JK] at hd
  by_cases hj:id=j
  ·rw [if_pos hj] at hd; cases hd
  ·rw [if_neg hj] at hd; exact .inl ⟨j,d,y,hd,hy,hk⟩
 fresh:=fun i hn hp=>absurd hn hp
 Kz:=fun _ h => .inl h
theorem Ext.move {u:World} (h:Rel r s w) {id:Nat} {b c:Zd} {x:RB} {o:Obj} (hb:s.get id=some b) (hx:r id=some x)
  (hu:u.heap[x.blk]? = some o) (hr:BR (r.at s.next x) c x o) (hf:∀ k,k≠x.blk→u.heap[k]? = w.heap[k]?) (hs:u.heap.size=w.heap.size) (ho:u.os=w.os) (ht:u.tape=w.tape) (hp:u.output=w.output) :
  Ext r s w (r.at s.next x) ((s.kill id).new c) u:=by
 have hn:=h.Z7 (Nat.le_refl s.next)
 have hidn:id<s.next:=h.known id x hx
 have back:∀ {j d y},((s.kill id).new c).get j=some d→(r.at s.next x) j=some y→(j=s.next∧d=c∧y=x)∨(j≠s.next∧j≠id∧s.get j=some d∧r j=some y):=fun {j d y} hd hy=>by
  rw [St.ZB,St.J7] at hd
  by_cases hj:s.next=j
  ·rw [if_pos hj] at hd
   cases hd
   subst hj
   rw [Rho.Zo] at hy
   cases hy
   exact .inl ⟨rfl,rfl,rfl⟩
  ·rw [if_neg hj,St.JK] at hd
   by_cases hk:id=j
   ·rw [if_pos hk] at hd; cases hd
   ·rw [if_neg hk] at hd
    rw [Rho.Zy r x (Ne.symm hj)] at hy
    exact .inr ⟨Ne.symm hj,Ne.symm hk,hd,hy⟩
 refine ⟨⟨⟨fun j d y hd hy => ?_,fun j hj => ?_⟩,fun j k d e y z hd he hy hz hyz => ?_,fun j y hy => ?_,fun j y g hy hg => ?_⟩,r.JL x hn,by rw [St.Qg]; exact Nat.le_succ _,ho,ht,hp,by omega,fun k hk hnh=>hf k fun e=>hnh ⟨id,b,x,hb,hx,e.symm⟩,
  fun i hi hin d hd => ?_,fun i hi hin => ?_,fun k ⟨j,d,y,hd,hy,hk⟩ => ?_,fun i hin hip => ?_,fun k hk => .inl ?_⟩
 ·rcases back hd hy with ⟨rfl,rfl,rfl⟩ | ⟨h1,h2,h3,h4⟩
  ·exact ⟨o,hu,hr⟩
  ·obtain ⟨o',h5,h6⟩:=h.block j d y h3 h4
   exact ⟨o',by rw [hf y.blk fun e=>h2 (h.apart j id d b y x h3 hb h4 hx e)]; exact h5,h6.mono (r.JL x hn)⟩
 ·rw [St.Qg,St.J7] at hj
  rw [St.ZB,St.J7,if_neg (by omega),St.JK]
  by_cases hji:id=j
  ·rw [if_pos hji]
  ·rw [if_neg hji]; exact h.far j (by omega)
 ·rcases back hd hy with ⟨rfl,rfl,rfl⟩ | ⟨h1,h2,h3,h4⟩ <;> rcases back he hz with ⟨rfl,rfl,rfl⟩ | ⟨g1,g2,g3,g4⟩
  ·rfl
  ·exact absurd (h.apart id k b e _ z hb g3 hx g4 hyz) (Ne.symm g2)
  ·exact absurd (h.apart j id d b y _ h3 hb h4 hx hyz) h2
  ·exact h.apart j k d e y z h3 g3 h4 g4 hyz
 ·rw [St.Qg,St.J7]
  by_cases hj:j=s.next
  ·omega
  ·rw [Rho.Zy r x hj] at hy
   have:=h.known j y hy
   omega
 ·have hs':∀ i,r i=some y→Safe (r.at s.next x) ((s.kill id).new c) u g:=fun i hi=>(h.safe i y g hi hg).step (by omega) (fun k hk hnh=>hf k fun e=>hnh ⟨id,b,x,hb,hx,e.symm⟩) fun k ⟨j,d,y,hd,hy,hk⟩=>by
   rcases back hd hy with ⟨rfl,rfl,rfl⟩ | ⟨h1,h2,h3,h4⟩
   ·exact .inl ⟨id,b,_,hb,hx,hk⟩
   ·exact .inl ⟨j,d,y,h3,h4,hk⟩
  by_cases hj:j=s.next
  ·subst hj
   rw [Rho.Zo] at hy
   cases hy
   exact hs' id hx
  ·rw [Rho.Zy r x hj] at hy
   exact hs' j hy
 ·rw [St.ZB,St.J7,if_neg (by omega),St.JK,if_neg (fun e=>by subst e; rw [hx] at hin; cases hin)] at hd
  exact hd
 ·rw [St.ZB,St.J7,if_neg (by omega),St.JK]
  by_cases hj:id=i
  ·rw [if_pos hj]
  ·rw [if_neg hj]; exact hin
 ·rcases back hd hy with ⟨rfl,rfl,rfl⟩ | ⟨h1,h2,h3,h4⟩
  ·exact .inl ⟨id,b,_,hb,hx,hk⟩
  ·exact .inl ⟨j,d,y,h3,h4,hk⟩
 ·by_cases hj:i=s.next
  ·omega
  ·rw [Rho.Zy r x hj] at hip
   exact absurd hin hip
 ·rcases hk.at with h1 | ⟨g,h1,h2,h3⟩
  ·exact h1
  ·exact ⟨id,x,g,hx,h1,h2,h3⟩
theorem GD (h:Rel r s w) {cs:List Zc} {os rest:List Value} (hv:VRs r cs os) {n c sz:Nat} (hn:n≤c) (hl:os.length=n*sz) (hrl:rest.length=(c-n)*sz) (e0:TypeId) :
  ∃ q,VR q (.slice s.next 0 n none) (.slice (some ⟨w.heap.size,0,none⟩) n c)∧Ext r s w q (s.new (.cells cs sz true)) (w.drew.alloc (.cells ⟨os++rest⟩ e0)):=by
 have hle:=Rho.JL r (RB.of w.heap.size (c*sz) (sz)) (h.Z7 (Nat.le_refl s.next))
 refine ⟨r.at s.next (RB.of w.heap.size (c*sz) (sz)),.slice (Rho.Zo _ _ _) hn (fun k hk=>by cases hk) (fun _=>by simp),?_⟩
 refine Ext.new h rfl (MQ w.drew _) ⟨rfl,os,rest,e0,(0,0),rfl,hv.mono hle,?_,fun e=>(by cases e),fun i _=>by omega⟩ (fun k hk=>alloc_old (w:=w.drew) _ hk) (by rw [World.size_alloc]; exact Nat.le_succ _) rfl rfl rfl
 rw [List.length_append,hl,hrl,← Nat.add_mul]
 congr 1
 omega
variable {t e0:TypeId} {ts:Array TypeId} {ty:TypeId} {sz k:Nat} {z:Value} {zs:Bool} {news:List Zc} {b:Value} {us:List Value}
theorem M4 (h:Rel r s w) (ht:ts[0]? = some t) (hz:ZsR P ts zs) (hel:ElR P t e0 sz z) (hs:Dz P r w zs sz k z news b us)
  {id off n:Nat} {c:Option Nat} {x:RB} {cap:Nat} (hr:r id=some x) (hc:∀ k,c=some k→cap=k) (hu:c=none→off+cap*x.esz=x.size) (hfit:n+k≤cap)
  {cs:List Zc} {o:Bool} (hb:s.ZQ id = .mk cs sz o) {v:Zc} {s':St} (hl:Lo s id off (n+k) sz o c (splice cs (off+n*sz) news) = .ok v s') :
  VN P r s w (Builtin.append_ ts ty #[.slice (some ⟨x.blk,off,none⟩) n cap,b]) v s':=by
 unfold Lo at hl
 split at hl
 ·rename_i cs' hsp
  cases hl
  obtain ⟨w',h1,h2⟩:=LC (P:=P) h hr hb hs.rel hsp
  exact ⟨r,w',_,Zao ht hz hel hs hfit h1,.slice hr hfit hc hu,h2⟩
 ·cases hl
theorem S8 (h:Rel r s w) (ht:ts[0]? = some t) (hz:ZsR P ts zs) (hel:ElR P t e0 sz z) (hs:Dz P r w zs sz k z news b us)
  {a:Option Addr} {n c:Nat} (hc:c<n+k) (hm:n+k≤16777216) {old:List Zc} {os:List Value} (hov:VRs r old os) (hol:os.length=n*sz)
  (ho:(Builtin.firstCells sz n (.slice a n c)).run P w.drew = .ok ⟨os⟩ w.drew) {v:Zc} {s':St} (hl:YJ s sz (n+k) (old++news) = .ok v s') :
  VN P r s w (Builtin.append_ ts ty #[.slice a n c,b]) v s':=by
 cases hl
 have hg:=GC (ty:=ty) ht hz hel hs hc hm ho
 rw [← List.append_assoc] at hg
 obtain ⟨q,h1,h2⟩:=GD h (hov.append hs.rel) (n:=n+k) (c:=grownCap w (n+k) c e0) (sz:=sz) (grownCap_ge w (n+k) c e0)
  (by rw [List.length_append,hol,hs.len,Nat.add_mul]) (rest:=Ev.JR (grownCap w (n+k) c e0-(n+k)) z.cells.toList) (by rw [JS,Array.length_toList,hel.fit]) e0
 exact ⟨q,_,_,hg,h1,h2⟩
theorem Ua (h:Rel r s w) (ht:ts[0]? = some t) (hz:ZsR P ts zs) (hel:ElR P t e0 sz z) (hs:Dz P r w zs sz k z news b us)
  {id n:Nat} {x:RB} {cap:Nat} (hr:r id=some x) (hn:n≤cap) (hu:0+cap*x.esz=x.size) (hm:n+k≤16777216) {cs:List Zc} (hb:s.ZQ id = .mk cs sz true) (hcl:n*sz=cs.length) (hone:∀ v∈news,Ri v=true) {v:Zc} {s':St}
  (hl:R.ok (.slice s.next 0 (n+k) none) ((s.kill id).new (.cells (cs++news) sz true)) = .ok v s') :
  VN P r s w (Builtin.append_ ts ty #[.slice (some ⟨x.blk,0,none⟩) n cap,b]) v s':=by
 cases hl
 obtain ⟨ob,hob,hbr⟩:=h.block id _ x (ZL hb) hr
 obtain ⟨he,vs,rest,et,fr,rfl,hvs,hlen,_,hfr⟩:=hbr
 have hvl:=hvs.length
 rw [he] at hu
 by_cases hfit:n+k≤cap
 ·have hlr:n*sz+k*sz≤(vs++rest).length:=by
   rw [hlen,← hu,← Nat.add_mul]
   simp only [Nat.zero_add]
   exact Nat.mul_le_mul_right _ hfit
  have hst:=JN (P:=P) (off:=0+n*sz) us 0 (vs++rest) w hob (by rw [hs.len]; omega) (fun i hi=>hfr i (by rw [← hlen]; exact hi)) (hs.rel.ZcG hone)
  have htk:(vs++rest).take (0+n*sz+0)=vs:=by
   rw [show 0+n*sz+0=vs.length by omega,List.take_left]
  have hdr:(vs++rest).drop (0+n*sz+0+us.length)=rest.drop us.length:=by
   rw [show 0+n*sz+0+us.length=vs.length+us.length by omega,← List.drop_drop,List.drop_left]
  rw [htk,hdr,← List.append_assoc] at hst
  have hle:=Rho.JL r x (h.Z7 (Nat.le_refl s.next))
  refine ⟨r.at s.next x,_,_,Zao ht hz hel hs hfit hst,.slice (Rho.Zo _ _ _) hfit (fun k hk=>by cases hk) (fun _=>by rw [he]; exact hu),Ext.move h (ZL hb) hr (KD hob) ⟨he,vs++us,rest.drop us.length,et,fr,rfl,(hvs.append hs.rel).mono hle,?_,fun e=>(by cases e),hfr⟩
   (fun k hk=>SM _ hk) (WH _ _) rfl rfl rfl⟩
  rw [← hlen]
  rw [List.length_append] at hlr
  have:=hs.len
  simp only [List.length_append,List.length_drop]
  omega
 ·have hk:=Ext.kill h hr
  have ho:(Builtin.firstCells sz n (.slice (some ⟨x.blk,0,none⟩) n cap)).run P w.drew = .ok ⟨vs⟩ w.drew:=by
   simp only [Builtin.firstCells]
   rw [Jh (w:=w.drew) hob (by rw [List.length_append]; omega)]
   congr 2
   rw [List.drop_zero,show n*sz=vs.length by omega,List.take_left]
  have hg:=GC (ty:=ty) ht hz hel hs (by omega) hm ho
  rw [← List.append_assoc] at hg
  obtain ⟨q,h1,h2⟩:=GD hk.rel (hvs.append hs.rel) (n:=n+k) (c:=grownCap w (n+k) cap e0) (sz:=sz) (grownCap_ge w (n+k) cap e0)
   (by rw [List.length_append,hs.len,Nat.add_mul]; omega) (rest:=Ev.JR (grownCap w (n+k) cap e0-(n+k)) z.cells.toList) (by rw [JS,Array.length_toList,hel.fit]) e0
  exact ⟨q,_,_,hg,h1,hk.trans h2⟩
theorem M5:∀ {l:List Zc},Lp l=true→∀ v∈l,Ri v=true
 | [],_,_,h=>by cases h
 | x::l,h,v,hv=>by
  simp only [Lp] at h
  rcases Ze h with ⟨h1,h2⟩ | ⟨_,h2⟩
  ·rcases List.mem_cons.1 hv with rfl | hv
   ·exact h1
   ·exact M5 h2 v hv
  ·cases h2
theorem Zfm {g:Bool} {za:Zc} (hby:byT P t=true) (hel:Jf P t = .mk e0 sz g) (hsz:sz≠0) (hz:JH P t=some za):∃ z,ElR P t e0 sz z∧∀ r,VR r za z:=by
 obtain ⟨h1,h2,_⟩:=QG hel
 obtain ⟨el,h3,h4,m,h5,h6⟩:=KA hz
 rw [h1] at h3
 cases h3
 rw [h2] at h5
 cases h5
 obtain ⟨_,i,h3,h9,h10⟩:=Zal hby
 rw [h1] at h3
 cases h3
 obtain ⟨_,u,_,_,h7,h8⟩:=Xn h4
 exact ⟨u,⟨h1,fun w=>run_sizeOf h2,⟨i,fun w=>run_typeInfo h9,h10⟩,h7,by rw [← Array.length_toList,(h8 (fun _=>none)).cells.length,h6],hsz⟩,h8⟩
theorem Ub {ou:Option TypeId} (ht:ts[0]? = some t) (hou:ts[1]? = ou) (h:Rel r s w) {x y v:Zc} {s':St} (hl:append (byT P t) (Zfb P ou) (JH P t) (Jf P t) s x y = .ok v s')
  {a b:Value} (hx:VR r x a) (hy:VR r y b):VN P r s w (Builtin.append_ ts ty #[a,b]) v s':=by
 unfold append at hl
 split at hl
 ·rename_i e0 sz g za zs hel hza hzs
  obtain ⟨h0,hl⟩:=WO hl
  obtain ⟨hby,hl⟩:=Zr hl
  have hsz:=Je h0
  obtain ⟨z,helr,hzr⟩:=Zfm hby hel hsz hza
  have hzs:=ZcW (ts:=ts) hzs hou
  unfold Zeh at hl
  split at hl
  ·rename_i news k hsrc
   obtain ⟨us,hs⟩:=Zfl (P:=P) h hza hel hsrc hy (hzr r)
   unfold apV at hl
   split at hl
   ·cases hx
    rcases Ze hl with ⟨hk,hl⟩ | ⟨hk,hl⟩
    ·cases hl
     have:=ZD hk
     subst this
     exact ⟨r,w,_,DA ht hzs helr hs,.Za,Ext.refl h⟩
    ·obtain ⟨hm,hl⟩:=Zr hl
     have hm:=Z6 hm
     have hk:=Je hk
     have hm':0+k≤16777216:=by rw [Nat.zero_add]; exact hm
     refine S8 h ht hzs helr hs (a:=none) (n:=0) (c:=0) (by omega) hm' (old:=[]) (os:=[]) .nil (by simp) rfl ?_
     rw [Nat.zero_add]
     exact hl
   ·rename_i id off len cap _ _
    obtain ⟨hm,hl⟩:=Zr hl
    have hm:len+k≤16777216:=Z6 hm
    unfold Zg8 at hl
    split at hl
    ·rename_i cs e o hc
     obtain ⟨he,hl⟩:=Zr hl
     have he:=ZD he
     subst he
     unfold apO at hl
     split at hl
     ·rename_i old hold
      cases hx with
      | slice hr hn hcp hu =>
       rename_i x cp
       obtain ⟨ob,hob,hbr⟩:=h.block id _ x (ZL hc) hr
       obtain ⟨hex,vs,rest,et,fr,rfl,hvs,hlen,hop,hfr⟩:=hbr
       obtain ⟨hsub,rfl⟩:=sub_eq hold
       have hcl:=hvs.length
       have hfi:(Builtin.firstCells e len (.slice (some ⟨x.blk,off,none⟩) len cp)).run P w.drew = .ok ⟨((vs++rest).drop off).take (len*e)⟩ w.drew:=by
        simp only [Builtin.firstCells]
        exact Jh (w:=w.drew) hob (by rw [List.length_append]; omega)
       have hol:(((vs++rest).drop off).take (len*e)).length=len*e:=by
        simp only [List.length_take,List.length_drop,List.length_append]
        omega
       have frsh:cp<len+k→YJ s e (len+k) ((cs.drop off).take (len*e)++news) = .ok v s'→VN P r s w (Builtin.append_ ts ty #[.slice (some ⟨x.blk,off,none⟩) len cp,b]) v s' :=
        fun hlt hl=>S8 h ht hzs helr hs hlt hm (hvs.range hsub) hol hfi hl
       unfold Zg7 at hl
       split at hl
       ·rename_i cc _ _ _ _
        have hcc:=hcp _ rfl
        subst hcc
        rcases Ze hl with ⟨h1,hl⟩ | ⟨h1,hl⟩
        ·exact M4 h ht hzs helr hs hr hcp hu (Z6 h1) hc hl
        ·exact frsh (YR h1) hl
       ·have hu':=hu rfl
        rw [hex] at hu'
        have hpos:0<e:=Nat.pos_of_ne_zero hsz
        rcases Ze hl with ⟨h1,hl⟩ | ⟨h1,hl⟩
        ·have h1:=Z6 h1
         have hfit:len+k≤cp:=by
          have:(len+k)*e≤cp*e:=by
           rw [List.length_append] at hlen
           omega
          exact Nat.le_of_mul_le_mul_right this hpos
         exact M4 h ht hzs helr hs hr hcp hu hfit hc hl
        ·have h1:=YR h1
         rcases Ze hl with ⟨h2,hl⟩ | ⟨h2,hl⟩
         ·subst h2
          unfold EV at hl
          obtain ⟨h3,hl⟩:=Zr hl
          obtain ⟨h4,hl⟩:=Zr hl
          obtain ⟨h5,hl9⟩:=Zr hl
          have h3:=ZD h3
          subst h3
          exact Ua h ht hzs helr hs hr hn (hu rfl) hm hc (ZD h4) (M5 h5) hl9
         ·subst h2
          have hrest:=hop rfl
          subst hrest
          refine frsh ?_ hl
          rw [List.append_nil] at hlen
          have:cp*e<(len+k)*e:=by omega
          exact Nat.lt_of_mul_lt_mul_right this
     ·cases hl
    ·cases hl
   ·cases hl
  ·cases hl
 ·cases hl
end Go.Proofs.YtheflbaejhlboaaGreatDoor.Ev
namespace Go.Proofs.YtheflbaejhlboaaGreatDoor.Ev
open Go
variable [Sig] {P:Program} {r:Rho} {s:St} {w:World}
theorem GF {n:Nat} {v:Zc}:∀ {es:List Entry} {l:List MapEntry},CB n es = .ok v→ERs r es l→∃ m,l.find? (fun e=>e.born==n)=some m∧VR r v (.tuple #[m.key,m.val])
 | [],_,h,_=>by cases h
 | (k,u,b)::es,_,h,.cons (m:=m) (l':=l) hh ht=>by
  have hb:m.born=b:=hh.2.2
  simp only [CB] at h
  rcases Ze h with ⟨h0,h1⟩ | ⟨h0,h1⟩
  ·cases h1
   have:=ZD h0
   refine ⟨m,?_,.tuple (.cons hh.1 (.cons hh.2.1 .nil))⟩
   rw [List.find?_cons,hb,this]
   simp
  ·obtain ⟨m',h2,h3⟩:=GF h1 ht
   refine ⟨m',?_,h3⟩
   have:(b==n)=false:=beq_false_of_ne (Je h0)
   rw [List.find?_cons,hb,this]
   exact h2
theorem GG:∀ {l:List Nat} {n:Nat},EL l=some n→(⟨l⟩:Array Nat).back? = some n
 | [],_,h=>by cases h
 | [a],_,h=>by cases h; rfl
 | a::b::l,n,h=>by
  have:=GG (l:=b::l) h
  simp only [List.back?_toArray] at this ⊢
  rw [List.getLast?_cons_cons]
  exact this
theorem ZcX (h:RelB r s w) {x v:Zc} (hl:Ze6 s x = .ok v) {a:Value} (hx:VR r x a):ZO P r w (Instr.entry a) v:=by
 unfold Ze6 at hl
 split at hl
 ·rename_i id
  cases hx with
  | ptr hr =>
   rename_i x
   unfold Zg4 at hl
   split at hl
   ·rename_i m since seen stepped hb
    obtain ⟨o,h1,y,hy,rfl⟩:=h.block id _ x hb hr
    unfold Zg3 at hl
    split at hl
    ·rename_i n es c hln hma
     obtain ⟨hc,hl9⟩:=ZM hl
     have hc:=ZD hc
     subst hc
     obtain ⟨l,h4,h5⟩:=QA h hy hma
     obtain ⟨me,h6,h7⟩:=GF hl9 h5
     have h8:=GG hln
     refine ⟨_,?_,h7⟩
     have h9:(⟨l⟩:Array MapEntry).find? (fun e=>e.born==n)=some me:=by
      rw [List.find?_toArray]
      exact h6
     simp only [Instr.entry,Sem.run_bind,QU h1,Result.andThen_ok,h8,Qm h4,bne_self_eq_false,Bool.false_eq_true,if_false,h9,Sem.run_pure]
    ·cases hl
   ·cases hl
 ·cases hl
theorem Uc {t:TypeId} (h:Lh P t=true):∃ k e,P.underlying t=some (.map k e):=by
 unfold Lh at h
 split at h
 ·rename_i k e h1; exact ⟨k,e,h1⟩
 ·cases h
theorem Ud {t:TypeId} (ht:Lh P t=true) (h:Rel r s w) {x v:Zc} {s':St} (hl:Dh s x = .ok v s') {a:Value} (hx:VR r x a):VN P r s w (Instr.range t a) v s':=by
 obtain ⟨k,e,h1⟩:=Uc ht
 unfold Dh at hl
 split at hl
 ·cases hl
  cases hx
  refine Make.Zfj h (mk:=fun i => .ptr i 0) (XI (o := .mapIter none 0 ⟨[]⟩ 0) (u := .pointer (some ⟨w.heap.size,0,none⟩)) (n:=0) (e:=0) ?_ fun i hi=>⟨rfl,.ptr (Rho.Zo r i _)⟩)
  simp [Instr.range,run_underlying h1]
 ·rename_i id
  unfold EM at hl
  split at hl
  ·rename_i es c hma
   cases hl
   cases hx with
   | map hr =>
    obtain ⟨l,h4,h5⟩:=QA h.toRelB hr hma
    refine Make.Zfj h (mk:=fun i => .ptr i 0) (XI (o := .mapIter (some _) c ⟨[]⟩ c) (u := .pointer (some ⟨w.heap.size,0,none⟩)) (n:=0) (e:=0) ?_ fun i hi=>⟨⟨_,Rho.JL r _ hi _ _ hr,rfl⟩,.ptr (Rho.Zo r i _)⟩)
    simp only [Instr.range,Sem.run_bind,run_underlying h1,Result.andThen_ok,Qm h4,Sem.run_pure]
    rfl
  ·cases hl
 ·cases hl
theorem toInt_ok {k:IntKind} {x v:Zc} {s':St} (hl:toInt P k s x = .ok v s') {a:Value} (hx:VR r x a) {t u:TypeId} {d:TypeDesc} (ht:P.underlying t=some d) (hu:P.underlying u=some (.int k)) :
  s'=s∧ZO P r w (convert t u a) v:=by
 unfold toInt at hl
 split at hl
 ·cases hl; cases hx
  refine ⟨rfl,_,?_,.int _ _⟩
  cases d <;> simp [convert,run_underlying ht,run_underlying hu,Conv.intToInt,WI]
 ·obtain ⟨h1,rfl⟩:=ZY hl
  cases hx
  obtain ⟨u',h2,h3⟩:=YM (r:=r) (w:=w) h1
  refine ⟨rfl,u',?_,h3⟩
  cases d <;> simp [convert,run_underlying ht,run_underlying hu,h2]
 ·obtain ⟨h1,rfl⟩:=ZY hl
  cases hx with
  | sint j hn =>
   subst hn
   refine ⟨rfl,_,?_,KF (r:=r) h1⟩
   cases d <;> simp [convert,run_underlying ht,run_underlying hu,Conv.intToInt]
 ·cases hl
theorem toFlt_ok {k:FloatKind} {x v:Zc} {s':St} (hl:toFlt k s x = .ok v s') {a:Value} (hx:VR r x a) {t u:TypeId} {d:TypeDesc} (ht:P.underlying t=some d) (hu:P.underlying u=some (.float k)) :
  s'=s∧ZO P r w (convert t u a) v:=by
 unfold toFlt at hl
 split at hl
 ·cases hl; cases hx
  refine ⟨rfl,_,?_,.flt _ _⟩
  cases d <;> simp [convert,run_underlying ht,run_underlying hu,Conv.intToFloat]
 ·cases hl
theorem toStr_ok {x v:Zc} {s':St} (hl:toStr s x = .ok v s') {a:Value} (hx:VR r x a) {t u:TypeId} (ht:P.underlying t=some .string) (hu:P.underlying u=some .string) :
  s'=s∧ZO P r w (convert t u a) v:=by
 unfold toStr at hl
 split at hl
 ·cases hl; cases hx
  refine ⟨rfl,_,?_,.str _⟩
  simp [convert,run_underlying ht,run_underlying hu]
 ·cases hl
theorem MA (h:RelB r s w) {x v:Zc} {s':St} (hl:Xl s x = .ok v s') {a:Value} (hx:VR r x a) {t u e:TypeId} (ht:P.underlying t=some (.slice e)) (hu:P.underlying u=some .string) (he:Mr P e=true) :
  s'=s∧ZO P r w (convert t u a) v:=by
 obtain ⟨h1,u',h2,h3⟩:=Gw (P:=P) h hl hx
 refine ⟨h1,u',?_,h3⟩
 have he':=CX he
 unfold Xl at hl
 split at hl
 ·cases hx
  simp only [convert,Sem.run_bind,run_underlying ht,run_underlying hu,Result.andThen_ok,run_underlying he',h2]
 ·cases hx
  simp only [convert,Sem.run_bind,run_underlying ht,run_underlying hu,Result.andThen_ok,run_underlying he',h2]
 ·cases hl
theorem MB {x v:Zc} {s':St} (hl:YF s x = .ok v s') {t u e:TypeId} (ht:P.underlying t=some .string) (hu:P.underlying u=some (.slice e)) (he:Mr P e=true) :
  ∃ mk b,v=mk s.next∧s'=s.new b∧∀ (r:Rho) (w:World) (a:Value),VR r x a→Make P r w (convert t u a) mk b:=by
 unfold YF at hl
 split at hl
 ·rename_i l
  cases hl
  refine ⟨fun i => .slice i 0 l.length none,_,rfl,rfl,fun r w a hx => ?_⟩
  cases hx
  obtain ⟨w',u',y,o,h1,h2⟩:=GB (P:=P) (r:=r) (w:=w) (e:=e) l
  refine ⟨w',u',y,o,?_,h2⟩
  simp only [convert,Sem.run_bind,run_underlying ht,run_underlying hu,Result.andThen_ok,run_underlying (CX he),h1]
 ·cases hl
theorem DC {t:TypeId} {x v:Zc} {s':St} (hl:(YG P t).run s x = .ok v s') {a:Value} (hx:VR r x a):s'=s∧ZO P r w (Instr.makeInterface t a) v:=by
 unfold YG at hl
 split at hl
 ·cases hl
 ·rename_i d hd hu
  cases hl
  refine ⟨rfl,_,?_,.iface t hx⟩
  cases d <;> first | exact absurd rfl (hd _) | simp [Instr.makeInterface,run_underlying hu]
 ·cases hl
theorem GH {t xt:TypeId} {ok:Bool} {x v:Zc} {s':St} (hl:(WG P t ok).run s x = .ok v s') {a:Value} (hx:VR r x a):s'=s∧ZO P r w (Instr.typeAssert a xt t ok) v:=by
 unfold WG at hl
 split at hl
 ·cases hl
 ·rename_i d hd hu
  have hl:YH t ok s x = .ok v s':=hl
  unfold YH at hl
  split at hl
  ·rename_i u y
   obtain ⟨h1,hl⟩:=Zr hl
   cases hl
   have:=ZD h1
   subst this
   cases hx with
   | iface _ hy =>
    rename_i b
    refine ⟨rfl,if ok then .tuple #[b,.bool true] else b,?_,?_⟩
    ·cases d <;> first | exact absurd rfl (hd _) | simp [Instr.typeAssert,run_underlying hu]
    ·cases ok
     ·exact hy
     ·exact .tuple (.cons hy (.cons (.bool _) .nil))
  ·cases hl
 ·cases hl
end Go.Proofs.YtheflbaejhlboaaGreatDoor.Ev
