/- Lemmas for a law of confluencetop. -/
import Derived.Test.YtheflbaejhlboaaGreatDoorTopGp5
import Derived.Laws.Tables
import Derived.Laws.AppendOwn
set_option linter.all false
namespace Go.Proofs.YtheflbaejhlboaaGreatDoor
namespace Ev
open Go
variable [Sig] {P:Program} {r:Rho} {s:St} {w:World}
def Make (P:Program) (r:Rho) (w:World) (x:Sem Value) (mk:Nat->Zb) (b:Zd):Prop :=
 ∃ w' u y o,x.run P w = .ok u w'/\(y.blk=w.heap.size/\y.gho=none)/\w'.heap[y.blk]? = some o/\(∀ k,k<w.heap.size->w'.heap[k]? = w.heap[k]?)/\w.heap.size<=w'.heap.size /\
  w'.os=w.os/\w'.tape=w.tape/\w'.output=w.output/\∀ i,r i=none->BR (r.at i y) b y o/\VR (r.at i y) (mk i) u
theorem Make.ZjO (h:Rel r s w) {x:Sem Value} {mk:Nat->Zb} {b:Zd} (hm:Make P r w x mk b):YF P r s w x (mk s.next) (s.new b):=by
 obtain ⟨w',u,y,o,h1,h2,h3,h4,h5,h6,h7,h8,h9⟩:=hm;obtain ⟨h10,h11⟩:=h9 s.next (h.Z7 (Nat.le_refl _));exact ⟨r.at s.next y,w',u,h1,h11,Ext.new h h2.1 h3 h10 h4 h5 h6 h7 h8 h2.2⟩
theorem Kz {x:Sem Value} {mk:Nat->Zb} {b:Zd} {o:Obj} {u:Value} {n e:Nat} (hx:x.run P w = .ok u (w.alloc o))
  (hr:∀ i,r i=none->BR (r.at i (RB.of w.heap.size (n) (e))) b (RB.of w.heap.size (n) (e)) o/\VR (r.at i (RB.of w.heap.size (n) (e))) (mk i) u):Make P r w x mk b :=
 ⟨_,u,(RB.of w.heap.size (n) (e)),o,hx,⟨rfl,rfl⟩,Gd w o,fun k hk=>alloc_old o hk,by rw [World.size_alloc]; omega,rfl,rfl,rfl,hr⟩
theorem Rw {cs:List Zb} {vs:List Value} (hv:VRs r cs vs) {i:Nat} (hi:r i=none) (b:Nat) (t:TypeId) (e:Nat) :
  BR (r.at i (RB.of b vs.length e)) (.cells cs e false) (RB.of b vs.length e) (.cells ⟨vs⟩ t) :=
 ⟨rfl,vs,[],t,(0,0),by simp,hv.mono (Rho.JV r _ hi),by simp,fun _=>rfl,fun i _=>by omega⟩
theorem NS {t:TypeId} {u:Value}:(newVar t u).run P w = .ok ⟨w.heap.size,0,none⟩ (w.alloc (.cells u.cells t)):=rfl
theorem ZeH {t:TypeId} {z:Zb} (hz:KR P t=some z) (u0:Value):Make P r w (Instr.alloc t true u0) (fun i => .ptr i 0) (.cells z.cells 0 false):=by
 obtain ⟨_,u,_,_,h1,h2⟩:=XR hz;refine Kz (o := .cells ⟨u.cells.toList⟩ t) (u := .pointer (some ⟨w.heap.size,0,none⟩)) (n:=u.cells.toList.length) (e:=0) ?_ fun i hi=>⟨Rw (h2 r).cells hi _ _ _,.ptr (Rho.Zn _ _ _)⟩
 simp only [Instr.alloc,Sem.run_bind,h1,Result.andThen_ok,NS];rfl
theorem ZjP {t:TypeId} {v:Zb} {u:Value} (hv:VR r v u):Make P r w (Instr.box t u) (fun i => .ptr i 0) (.cells v.cells 0 false):=by
 refine Kz (o := .cells ⟨u.cells.toList⟩ t) (u := .pointer (some ⟨w.heap.size,0,none⟩)) (n:=u.cells.toList.length) (e:=0) ?_ fun i hi=>⟨Rw hv.cells hi _ _ _,.ptr (Rho.Zn _ _ _)⟩
 simp only [Instr.box,Sem.run_bind,Result.andThen_ok,NS];rfl
theorem Ec {t:TypeId}:Make P r w (Instr.makeMap t none) (fun i => .map i) (.map [] 0):=by
 refine Kz (o := .map ⟨[]⟩ 0) (u := .map (some w.heap.size)) (n:=0) (e:=0) ?_ fun i hi=>⟨⟨[],rfl,.nil⟩,.map (x:=(RB.of w.heap.size (0) (0))) (Rho.Zn _ _ _)⟩
 simp [Instr.makeMap]
theorem WX:∀ (cs mid pre post:List Value) (off k:Nat),pre.length=off+k->mid.length=cs.length ->
  (cs.zipIdx k).foldl (fun (l:List Value) (x:Value×Nat)=>l.set (off+x.2) x.1) (pre++(mid++post))=pre++(cs++post)
 | [],[],pre,post,off,k,_,_=>rfl
 | [],_::_,_,_,_,_,_,h=>by cases h
 | _::_,[],_,_,_,_,_,h=>by cases h
 | c::cs,m::mid,pre,post,off,k,h,hm=>by
  rw [List.zipIdx_cons,List.foldl_cons]
  have h1:(pre++(m::mid++post)).set (off+k) c=(pre++[c])++(mid++post):=by
   rw [<- h,List.set_append_right _ _ (Nat.le_refl _)];simp
  rw [h1,WX cs mid (pre++[c]) post off (k+1) (by rw [List.length_append,h]; rfl) (by simpa using hm)];simp
theorem Ed (off:Nat) (cs l:List Value) (h:off+cs.length<=l.length) :
  (cs.zipIdx).foldl (fun (l:List Value) (x:Value×Nat)=>l.set (off+x.2) x.1) l=l.take off++(cs++l.drop (off+cs.length)):=by
 have h1:l=l.take off++((l.drop off).take cs.length++l.drop (off+cs.length)):=by
  rw [<- List.drop_drop,List.take_append_drop,List.take_append_drop]
 have h2:=WX cs ((l.drop off).take cs.length) (l.take off) (l.drop (off+cs.length)) off 0 (by rw [List.length_take]; omega) (by rw [List.length_take,List.length_drop]; omega);rw [<- h1] at h2;exact h2
theorem foldl_toArray (f:Nat->Nat):∀ (l:List (Value×Nat)) (a:List Value),
  (l.foldl (fun (cs:Array Value) (x:Value×Nat)=>cs.setIfInBounds (f x.2) x.1) ⟨a⟩)=⟨l.foldl (fun (l:List Value) (x:Value×Nat)=>l.set (f x.2) x.1) a⟩
 | [],a=>rfl
 | x::l,a=>by
  rw [List.foldl_cons,List.foldl_cons,<- foldl_toArray f l]
  congr 1
  apply Array.ext';simp
inductive FR2 (r:Rho) (l:List Zb) (e:Env) (place:Nat->Option (Nat×Nat)):NA->List (Nat×Value)->Prop where
 | nil:FR2 r l e place .nil []
 | cons {x:Qh} {p:Pt} {f:NA} {i:Nat} {u:Value} {ps:List (Nat×Value)} (hx:∀ v,Zl l e x = .ok v->VR r v u)
   (hp:∀ o n g,p = .mk o n g->place i=some (o,n)) (h:FR2 r l e place f ps):FR2 r l e place (.cons x p f) ((i,u)::ps)
theorem NT {l:List Zb} {e:Env} {place:Nat->Option (Nat×Nat)}:∀ {f:NA} {ps:List (Nat×Value)},FR2 r l e place f ps->∀ {cs cs':List Zb} {us:List Value},
  Rg l e f cs=some cs'->VRs r cs us->∃ jM,Instr.fill place ⟨us⟩ ps=some ⟨jM⟩/\VRs r cs' jM
 | _,_,.nil,cs,cs',us,h,hv=>by
  cases h;exact ⟨us,rfl,hv⟩
 | _,_,.cons (x:=x) (p:=p) (f:=f) (u:=u) hx hp hf,cs,cs',us,h,hv=>by
  simp only [Rg] at h;split at h
  ·rename_i off n g v hv1;rcases Ze h with ⟨h1,h2⟩ | ⟨_,h2⟩
   ·split at h2
    ·rename_i cs1 hs;obtain ⟨h3,rfl,_⟩:=WA hs;have hxv:=(hx v hv1).cells;have dY:=hxv.length;have hvl:=hv.length;obtain ⟨jM,h4,h5⟩:=NT hf h2 ((hv.take off).append (hxv.append (hv.drop (off+v.cells.length))));refine ⟨jM,?_,h5⟩;have hsz:u.cells.size=n:=by rw [<- Array.length_toList,dY,Yt h1]
     have hle:¬ (off+u.cells.size>us.length):=by rw [<- Array.length_toList,dY,hvl]; omega
     rw [<- h4];simp only [Instr.fill,hp off n g rfl];rw [hsz] at hle ⊢;have xP:¬ (off+n>(⟨us⟩:Array Value).size):=hle;simp only [ne_eq,not_true_eq_false,decide_false,Bool.false_or,xP,Bool.false_eq_true,if_false]
     congr 1
     have hz:u.cells.zipIdx=⟨u.cells.toList.zipIdx⟩:=by
      apply Array.ext';simp
     rw [hz];show (Array.foldl (fun (cs:Array Value) (x:Value×Nat)=>cs.setIfInBounds (off+x.2) x.1) ⟨us⟩ ⟨u.cells.toList.zipIdx⟩)=_;rw [List.foldl_toArray',foldl_toArray (fun k=>off+k),Ed off u.cells.toList us (by rw [dY,hvl]; omega),dY];rfl
    ·cases h2
   ·cases h2
  ·cases h
theorem Py:∀ (fs:List Field),(∀ f∈fs,∃ n,Qa P f.type=some n) ->
  ∃ ps:List (Nat×Nat),fs.mapM (fun f=>(P.info? f.type).map fun i=>(f.offset,i.size))=some ps/\∀ (i:Nat) (f:Field) (n:Nat),fs[i]? = some f->Qa P f.type=some n->ps[i]? = some (f.offset,n)
 | [],_=>⟨[],rfl,fun i f n h=>by cases h⟩
 | f::fs,h=>by
  obtain ⟨n,hn⟩:=h f List.mem_cons_self;obtain ⟨ps,h1,h2⟩:=Py fs fun g hg=>h g (List.mem_cons_of_mem _ hg)
  have hn':(P.info? f.type).map (fun i=>(f.offset,i.size))=some (f.offset,n):=by
   unfold Qa at hn;rw [Option.map_eq_some_iff] at hn ⊢;obtain ⟨i,h3,rfl⟩:=hn;exact ⟨i,h3,rfl⟩
  refine ⟨(f.offset,n)::ps,by simp [List.mapM_cons,hn',h1],fun i g m hg hm => ?_⟩;cases i with
  | zero=>cases hg; rw [hn] at hm; cases hm; rfl
  | succ i=>exact h2 i g m hg hm
theorem ZeI {t:TypeId} {z:Zb} (hz:Ny P t=some z) {l:List Zb} {e:Env} {f:NA} {ps:Array (Nat×Value)} {cs:List Zb}
  (hf:∀ place:Nat->Option (Nat×Nat),(∀ i o n g,Wf P t i = .mk o n g->place i=some (o,n))->FR2 r l e place f ps.toList)
  (h:Rg l e f z.cells=some cs):ZW P r w (Instr.build t ps) (.agg cs):=by
 obtain ⟨fs,h1,h2,h3⟩:=ZbG hz;obtain ⟨_,u,_,_,h4,h5⟩:=XR h2;obtain ⟨pl,h6,h7⟩:=Py fs.toList h3
 have hpl:∀ i o n g,Wf P t i = .mk o n g->(⟨pl⟩:Array (Nat×Nat))[i]? = some (o,n):=fun i o n g hi=>by
  obtain ⟨fs',x,h8,h9,h10,h11,_⟩:=SE hi;rw [h1] at h8;cases h8;rw [List.getElem?_toArray,<- h10];exact h7 i x n (by rw [Array.getElem?_toList]; exact h9) h11
 obtain ⟨us,h8,h9⟩:=NT (hf (fun i=>(⟨pl⟩:Array (Nat×Nat))[i]?) hpl) h (h5 r).cells;refine ⟨_,?_,.agg h9⟩;have hp:=run_places (P:=P) w fs.toList pl h6;have h8':Instr.fill (fun x=>pl[x]?) u.cells ps.toList=some ⟨us⟩:=by simpa using h8
 simp [Instr.build,run_underlying h1,h4,Array.mapM_eq_mapM_toList,hp,h8']
theorem Pz (l:List Zb):∀ n,(Rf n l).length=n*l.length
 | 0=>by simp [Rf]
 | n+1=>by rw [Rf,List.length_append,Pz l n,Nat.succ_mul]; omega
def Xq:Nat->List Value->List Value
 | 0,_=>[]
 | n+1,l=>l++Xq n l
theorem VRs.rep {l:List Zb} {l':List Value} (h:VRs r l l'):∀ n,VRs r (Ev.Rf n l) (Ev.Xq n l')
 | 0 => .nil
 | n+1=>h.append (VRs.rep h n)
theorem Xr (l:List Value):∀ n,(Ev.Xq n l).length=n*l.length
 | 0=>by simp [Ev.Xq]
 | n+1=>by rw [Ev.Xq,List.length_append,Xr l n,Nat.succ_mul]; omega
theorem Gp {l:List Value}:∀ (n i:Nat),i<n*l.length->(Ev.Xq n l)[i]? = l[i%l.length]?
 | 0,i,h=>by simp at h
 | n+1,i,h=>by
  rw [Nat.succ_mul] at h;rw [Ev.Xq];by_cases hi:i<l.length
  ·rw [List.getElem?_append_left hi,Nat.mod_eq_of_lt hi]
  ·rw [List.getElem?_append_right (by omega),Gp n (i-l.length) (by omega),<- Nat.mod_eq_sub_mod (a:=i) (by omega)]
theorem VZ (z:Array Value) (n:Nat):(Array.range (n*z.size)).map (fun i=>z[i%z.size]!)=⟨Ev.Xq n z.toList⟩:=by
 apply Array.ext';apply List.ext_getElem?;intro i;by_cases h:i<n*z.size
 ·have h0:0<z.size:=Nat.pos_of_ne_zero fun e=>by rw [e] at h; simp at h
  have h1:i%z.size<z.size:=Nat.mod_lt _ h0;rw [Gp n i (by simpa using h)];simp [h,h1]
 ·rw [List.getElem?_eq_none (by simp; omega),List.getElem?_eq_none (by rw [Xr]; simpa using h)]
theorem LP {t:TypeId} {z:Zb} {e0 sz n:Nat} {g:Bool} (hz:Xi P t=some z) (he:JF P t = .mk e0 sz g) (hsz:sz≠0) (hn:n*sz<=16777216)
  {l:List Zb} {e:Env} {f:NA} {ps:Array (Nat×Value)} {cs:List Zb}
  (hf:∀ place:Nat->Option (Nat×Nat),(∀ i,place i=some (i*sz,sz))->FR2 r l e place f ps.toList)
  (h:Rg l e f (Rf n z.cells)=some cs):Make P r w (Instr.buildSlice t n ps) (fun i => .slice i 0 n none) (.cells cs sz false):=by
 obtain ⟨h1,h2,_⟩:=QZ he;obtain ⟨el,h3,h4,m,h5,h6⟩:=WB hz;rw [h1] at h3;cases h3;rw [h2] at h5;cases h5;obtain ⟨_,u,_,_,h7,h8⟩:=XR h4;have hu:=(h8 r).cells;have dY:u.cells.size=sz:=by rw [<- Array.length_toList,hu.length,h6]
 obtain ⟨us,h9,h10⟩:=NT (hf (fun i=>some (i*sz,sz)) fun _=>rfl) h (hu.rep n)
 have hcl:us.length=n*sz:=by
  have hlen:∀ {f:NA} {cs cs':List Zb},Rg l e f cs=some cs'->cs'.length=cs.length:=by
   intro f
   induction f with
   | nil=>intro cs cs' h; cases h; rfl
   | cons x p f ih =>
    intro cs cs' h;simp only [Rg] at h;split at h
    ·rcases Ze h with ⟨h1,h2⟩ | ⟨_,h2⟩
     ·split at h2
      ·rename_i cs1 hs;obtain ⟨h3,rfl,_⟩:=WA hs;rw [ih h2];simp only [List.length_append,List.length_take,List.length_drop];omega
      ·cases h2
     ·cases h2
    ·cases h
  rw [h10.length,hlen h,Pz,h6]
 have hcy:=VZ u.cells n;rw [dY] at hcy;refine Kz (o := .cells ⟨us⟩ e0) (u := .slice (some ⟨w.heap.size,0,none⟩) n n) (n:=us.length) (e:=sz) ?_ fun i hi=>⟨Rw h10 hi _ _ _,.slice (Rho.Zn _ _ _) (Nat.le_refl _) (fun k hk=>by cases hk) fun _=>by simp [hcl]⟩
 have hgt:¬ (n*sz>2^24):=by omega
 simp only [Instr.buildSlice,Sem.run_bind,run_underlying h1,Result.andThen_ok,run_sizeOf h2,hgt,if_false];by_cases h0:n*sz=0
 ·have hn0:n=0:=by rcases Nat.mul_eq_zero.1 h0 with h | h; exact h; exact absurd h hsz
  subst hn0;have h9':Instr.fill (fun i=>some (i*sz,sz)) #[] ps.toList=some ⟨us⟩:=h9;have hr0:Array.range 0 = #[]:=rfl;simp [h9',newRow,hr0]
 ·simp [h0,h7,dY,hcy,h9,newRow]
theorem ZeJ {t:TypeId} (h:byT P t=true):∃ e i,P.underlying t=some (.slice e)/\P.info? e=some i/\i.bytes<=65536:=by
 unfold byT at h;split at h
 ·rename_i e h0;split at h
  ·rename_i i h1;exact ⟨e,i,h0,h1,Qj h⟩
  ·cases h
 ·cases h
theorem wrap_small {c:Nat} (h:c<=65536):IntKind.i64.wrap (c:Int)=(c:Int):=by
 exact IntWalk.i64_in _ (by omega)
theorem ZbQ {t:TypeId} {z:Zb} {e0 sz n c:Nat} {g:Bool} {k k':IntKind} (hby:byT P t=true) (hz:Xi P t=some z) (he:JF P t = .mk e0 sz g) (hsz:sz≠0) (hnc:n<=c) (hc:c<=65536) :
  Make P r w (Instr.makeSlice t (.int k (n:Int)) (.int k' (c:Int))) (fun i => .slice i 0 n (some c)) (.cells (Rf c z.cells) sz false):=by
 obtain ⟨h1,h2,_⟩:=QZ he;obtain ⟨el,h3,h4,m,h5,h6⟩:=WB hz;rw [h1] at h3;cases h3;rw [h2] at h5;cases h5;obtain ⟨_,i,h3,h9,h10⟩:=ZeJ hby
 rw [h1] at h3;cases h3;obtain ⟨_,u,_,_,h7,h8⟩:=XR h4;have hu:=(h8 r).cells;have dY:u.cells.size=sz:=by rw [<- Array.length_toList,hu.length,h6]
 have hcy:=VZ u.cells c;rw [dY] at hcy
 refine Kz (o := .cells ⟨Xq c u.cells.toList⟩ e0) (u := .slice (some ⟨w.heap.size,0,none⟩) n c) (n:=(Xq c u.cells.toList).length) (e:=sz) ?_ fun i hi =>
  ⟨Rw (hu.rep c) hi _ _ _,.slice (Rho.Zn _ _ _) hnc (fun k hk=>by cases hk; rfl) fun hk=>by cases hk⟩
 have hp:i.bytes*c<=4294967296:=Nat.mul_le_mul h10 hc
 have hp':(i.bytes:Int)*(c:Int)<=4294967296:=by
  rw [<- Int.natCast_mul];omega
 have hcond:(decide ((c:Int)<0) || decide ((i.bytes:Int)*(c:Int)>2^48) || decide ((n:Int)<0) || decide ((n:Int)>(c:Int)))=false:=by
  rw [Bool.or_eq_false_iff,Bool.or_eq_false_iff,Bool.or_eq_false_iff];refine ⟨⟨⟨decide_eq_false (by omega),decide_eq_false (by omega)⟩,decide_eq_false (by omega)⟩,decide_eq_false (by omega)⟩
 simp only [Instr.makeSlice,Sem.run_bind,run_underlying h1,Result.andThen_ok,run_sizeOf h2,asInt,asIntOf,Sem.run_pure,run_typeInfo h9,wrap_small hc,wrap_small (Nat.le_trans hnc hc),hcond,
  Bool.false_eq_true,if_false,run_askRoom,Int.toNat_natCast]
 by_cases h0:c*sz=0
 ·have hc0:c=0:=by rcases Nat.mul_eq_zero.1 h0 with h | h; exact h; exact absurd h hsz
  subst hc0;have hr0:Array.range 0 = #[]:=rfl;simp [newRow,hr0];rfl
 ·simp [h0,h7,dY,hcy,newRow]
theorem To {r:Rho}:∀ l:List UInt8,VRs r (ZX l) (l.map fun b => .int .u8 (Int.ofNat b.toNat))
 | [] => .nil
 | b::l => .cons (.int _ _) (To l)
theorem Bl {e:TypeId} (l:List UInt8):Make P r w (Conv.stringToBytes e ⟨⟨l⟩⟩) (fun i => .slice i 0 l.length none) (.cells (ZX l) 1 true):=by
 have hge:l.length<=grownCap w l.length 0 e:=grownCap_ge w l.length 0 e
 let A:Array Value:=(⟨l⟩:Array UInt8).map (fun b=>Value.int .u8 b.toNat)++Array.replicate (grownCap w l.length 0 e-l.length) (.int .u8 0)
 have hA:A=⟨(l.map fun b=>Value.int .u8 (Int.ofNat b.toNat))++List.replicate (grownCap w l.length 0 e-l.length) (.int .u8 0)⟩:=by
  apply Array.ext';simp [A]
 have hAs:A.size=grownCap w l.length 0 e:=by
  simp [A];omega
 have hfr:((w.drew.alloc (.cells A e)).freeze ⟨w.heap.size,A.size,none⟩ 1).heap=w.heap.push (.cells A e (A.size,A.size+1)):=by
  have h0:(w.drew.alloc (.cells A e)).heap=w.heap.push (.cells A e):=rfl;rw [World.freeze,if_neg (by decide)];simp only [h0];apply Array.ext_getElem?;intro k;rw [Array.getElem?_modify,Array.getElem?_push,Array.getElem?_push];by_cases hk:k=w.heap.size
  ·subst hk;simp
  ·rw [if_neg hk,if_neg hk,if_neg (Ne.symm hk)]
 refine ⟨(w.drew.alloc (.cells A e)).freeze ⟨w.heap.size,A.size,none⟩ 1,.slice (some ⟨w.heap.size,0,none⟩) l.length (grownCap w l.length 0 e),(RB.of w.heap.size (A.size) (1)),.cells A e (A.size,A.size+1),?_,⟨rfl,rfl⟩,?_,?_,?_,rfl,rfl,rfl,fun i hi=>⟨?_,?_⟩⟩
 ·have hsz:(⟨⟨l⟩⟩:ByteArray).size=l.length:=rfl
  have hsh:(w.drew.alloc (.cells A e)).shape? w.heap.size=some (e,A.size):=by
   show (match (w.heap.push (.cells A e))[w.heap.size]? with | some (.cells c elem _)=>some (elem,c.size) | _=>none)=_;simp
  have hrow:∀ B:Array Value,B=A->(newRow e B).run P w.drew = .ok ⟨w.heap.size,0,none⟩ (w.drew.alloc (.cells A e)):=fun B hB=>by rw [hB]; rfl
  have hch:(choose (.appendCap l.length 0 e)).run P w = .ok (grownCap w l.length 0 e) w.drew:=rfl;simp only [Conv.stringToBytes,Sem.run_bind,hsz,hch,Result.andThen_ok];rw [hrow _ rfl];simp only [Result.andThen_ok,markStringish,Sem.run_bind,run_shape,hsh,run_freeze,Sem.run_pure]
 ·rw [hfr]; simp
 ·intro k hk; rw [hfr,Array.getElem?_push,if_neg (by omega)]
 ·rw [hfr,Array.size_push]; omega
 ·refine ⟨rfl,_,_,e,_,congrArg (fun B=>Obj.cells B e (A.size,A.size+1)) hA,(To l).mono (Rho.JV r _ hi),?_,fun h=>(by cases h),fun k hk => ?_⟩
  ·exact (congrArg Array.size hA).symm
  ·show ¬ (A.size<=k/\k<A.size+1);have:k<A.size:=hk;omega
 ·exact .slice (Rho.Zn _ _ _) hge (fun k hk=>by cases hk) fun _=>by
   show 0+grownCap w l.length 0 e*1=A.size;rw [hAs];omega
end Ev
namespace Ev
open Go
variable [Sig] {P:Program} {r:Rho} {s:St} {w:World}
theorem F0 (h:Rel r s w) {id off:Nat} {x:RB} (hx:r id=some x) {cs:List Zb} {e:Nat} {o:Bool} (hc:s.ZK id = .mk cs e o)
  {nw:List Zb} {us:List Value} (hv:VRs r nw us) {cs':List Zb} (hp:splice cs off nw=some cs') :
  ∃ w',(storeCells ⟨x.blk,off,none⟩ us).run P w = .ok () w'/\Ext r s w r (s.put id (.cells cs' e o)) w':=by
 obtain ⟨ob,hb,hr⟩:=h.block id _ x (ZO hc) hx;obtain ⟨he,vs,rest,et,fr,rfl,hvs,hlen,hop,hfr⟩:=hr;obtain ⟨h1,rfl,h3⟩:=WA hp;have hcl:=hvs.length;have dY:=hv.length;refine ⟨upd w x.blk (.cells ⟨(vs++rest).take off++(us++(vs++rest).drop (off+us.length))⟩ et fr),?_,Ext.put h (ZO hc) hx (Z6 hb) ?_ (fun k hk=>QE _ hk) (VP _ _) rfl rfl rfl⟩
 ·exact Xm us 0 (vs++rest) w hb (by simp only [List.length_append,Nat.add_zero]; omega) (fun k hk=>hfr k (by rw [<- hlen]; exact hk)) (hv.Zgr h3)
 ·refine ⟨he,vs.take off++(us++vs.drop (off+us.length)),rest,et,fr,?_,(hvs.take off).append (hv.append ?_),?_,hop,hfr⟩
  ·rw [List.take_append_of_le_length (by omega),List.drop_append_of_le_length (by omega)];simp
  ·rw [dY];exact hvs.drop _
  ·rw [<- hlen];simp only [List.length_append,List.length_take,List.length_drop];omega
theorem ZbR {t:TypeId} (h:Rel r s w) {v a b:Zb} {s':St} (hl:Sz s (JT P t) v a = .ok b s') {x y:Value} (hv:VR r v y) (ha:VR r a x) :
  b=QH/\Bk P r s w (Instr.storeAt t x y) s':=by
 unfold Sz at hl;split at hl
 ·rename_i id off;unfold Sx at hl;split at hl
  ·rename_i cs e o o' n g hc hp;obtain ⟨h1,h2⟩:=Zt hl;obtain ⟨h3,_⟩:=Gc hp;cases ha with
   | ptr hr =>
    unfold putCells at h2;split at h2
    ·rename_i cs' hs;cases h2;obtain ⟨w',h4,h5⟩:=FU (P:=P) h hr hc h3 hv h1 hs;refine ⟨rfl,r,w',?_,h5⟩;simp only [Instr.storeAt,Instr.sureAddr,Sem.run_bind,Sem.run_pure,Result.andThen_ok,h4]
    ·cases h2
  ·cases hl
 ·cases hl
theorem Gq {v:Zb} {u:Value} {sz k:Nat} {news:List Zb} (h:XQ s sz v = .mk news k) (hv:VR r v u):(Builtin.lenOf u).run P w = .ok k w:=by
 unfold XQ at h;split at h
 ·cases h; cases hv; rfl
 ·cases h; cases hv; rfl
 ·rename_i l;cases hv
  have:Src.mk (ZX l) l.length = .mk news k:=by
   cases hb:Nat.beq sz 1
   ·rw [hb] at h; cases h
   ·rw [hb] at h; exact h
  cases this;rfl
 ·rename_i id off n c;unfold rW at h;split at h
  ·rename_i cs e o hc;cases hb:Nat.beq e sz
   ·rw [hb] at h; cases h
   ·rw [hb] at h;have h:SC n (sub cs off (n*sz)) = .mk news k:=h;unfold SC at h;split at h
    ·cases h; cases hv; rfl
    ·cases h
  ·cases h
 ·cases h
theorem KC (h:Rel r s w) {v:Zb} {u:Value} {sz k:Nat} {news:List Zb} (hs:XQ s sz v = .mk news k) (hv:VR r v u) {m:Nat} (hm:m<=k) :
  ∃ us,(∀ d,(Builtin.firstCells sz m u).run P { w with drawn:=d } = .ok ⟨us⟩ { w with drawn:=d })/\VRs r (news.take (m*sz)) us/\us.length=m*sz:=by
 unfold XQ at hs;split at hs
 ·cases hs; cases hv
  have:m=0:=by omega
  subst this;exact ⟨[],fun _=>rfl,by simp; exact .nil,by simp⟩
 ·cases hs;cases hv with
  | Z4 a c =>
   have:m=0:=by omega
   subst this;refine ⟨[],?_,by simp; exact .nil,by simp⟩;intro d;simp [Builtin.firstCells,loadCells,loadCellsFrom]
 ·rename_i l;cases hv;cases hb:Nat.beq sz 1
  ·rw [hb] at hs; cases hs
  ·rw [hb] at hs;have hs:Src.mk (ZX l) l.length = .mk news k:=hs;cases hs;have:=ZE hb;subst this;refine ⟨(l.take m).map fun b => .int .u8 (Int.ofNat b.toNat),?_,?_,?_⟩
   ·intro d;simp only [Builtin.firstCells,YY,Sem.run_pure]
    congr 1
    apply Array.ext';simp
   ·have:(ZX l).take (m*1)=ZX (l.take m):=by
     rw [Nat.mul_one];clear hm hs
     induction l generalizing m with
     | nil=>simp [ZX]
     | cons b l ih =>
      cases m with
      | zero=>rfl
      | succ m=>simp [ZX,ih]
    rw [this];exact To _
   ·simp; omega
 ·rename_i id off n c;unfold rW at hs;split at hs
  ·rename_i cs e o hc;cases hb:Nat.beq e sz
   ·rw [hb] at hs; cases hs
   ·rw [hb] at hs;have hs:SC n (sub cs off (n*sz)) = .mk news k:=hs;unfold SC at hs;split at hs
    ·rename_i l hl;cases hs;cases hv with
     | slice hr hn hcp hu =>
      obtain ⟨h1,rfl⟩:=sub_eq hl;have h2:m*sz<=k*sz:=Nat.mul_le_mul_right _ hm;obtain ⟨ob,hb,hbr⟩:=h.block id _ _ (ZO hc) hr;obtain ⟨_,vs,rest,et,fr,rfl,hvs,hlen,_,_⟩:=hbr;have hcl:=hvs.length;refine ⟨((vs++rest).drop off).take (m*sz),?_,?_,by simp only [List.length_take,List.length_drop,List.length_append]; omega⟩
      ·intro d;simp only [Builtin.firstCells];exact JH (w:={ w with drawn:=d }) hb (by simp only [List.length_append]; omega)
      ·rw [List.take_take,Nat.min_eq_left h2];exact hvs.range (by omega)
    ·cases hs
  ·cases hs
 ·cases hs
theorem ZgG {t:TypeId} {ts:Array TypeId} {ty:TypeId} (ht:ts[0]? = some t) (h:Rel r s w) {x y v:Zb} {s':St} (hl:copy (JF P t) s x y = .ok v s') {a b:Value} (hx:VR r x a) (hy:VR r y b) :
  YF P r s w (Builtin.copy_ ts ty #[a,b]) v s':=by
 unfold copy at hl;split at hl
 ·rename_i e0 sz g hel;obtain ⟨h0,hl⟩:=VX hl;obtain ⟨h1,h2,_⟩:=QZ hel;unfold ZhK at hl;split at hl
  ·rename_i news k hsrc;have hlen:=Gq (P:=P) (w:=w) hsrc hy;unfold copyV at hl;split at hl
   ·cases hl;cases hx;obtain ⟨us,h3,h4,h5⟩:=KC (P:=P) h hsrc hy (Nat.zero_le k);refine ⟨r,w,.int .i64 0,?_,.int _ _,Ext.refl h⟩;simp only [Builtin.copy_,ht,List.getElem?_toArray,List.getElem?_cons_zero,List.getElem?_cons_succ,Sem.run_bind,run_underlying h1,Result.andThen_ok,hlen,run_sizeOf h2];have:Nat.min k 0=0:=Nat.min_zero k;rw [this,h3 w.drawn];rfl
   ·rename_i id off len c _
    have hmin:Zgq k len=Nat.min k len:=by
     unfold Zgq;cases hb:Nat.ble k len
     ·have:=Ru hb;show len=min k len;omega
     ·have:=Qj hb;show k=min k len;omega
    rw [hmin] at hl;unfold Zlq at hl;split at hl
    ·rename_i cs e o news' hc htk;obtain ⟨h6,hl⟩:=Zt hl;unfold ZhJ at hl;split at hl
     ·rename_i cs' hsp;cases hl;cases hx with
      | slice hr hn hcp hu =>
       obtain ⟨us,h3,h4,h5⟩:=KC (P:=P) h hsrc hy (Nat.min_le_left k len);obtain ⟨_,rfl⟩:=ND _ htk;obtain ⟨w',h7,h8⟩:=F0 (P:=P) h hr hc h4 hsp;refine ⟨r,w',.int .i64 (Int.ofNat (Nat.min k len)),?_,.int _ _,h8⟩;simp only [Builtin.copy_,ht,List.getElem?_toArray,List.getElem?_cons_zero,List.getElem?_cons_succ,Sem.run_bind,run_underlying h1,Result.andThen_ok,hlen,run_sizeOf h2,h3 w.drawn,h7];rfl
     ·cases hl
    ·cases hl
   ·cases hl
  ·cases hl
 ·cases hl
theorem ZeK {t:TypeId} {ts:Array TypeId} {ty:TypeId} (ht:ts[0]? = some t) (h:Rel r s w) {x v:Zb} {s':St} (hl:clear (Xi P t) (JF P t) s x = .ok v s') {a:Value} (hx:VR r x a) :
  YF P r s w (Builtin.clear_ ts ty #[a]) v s':=by
 unfold clear at hl;split at hl
 ·rename_i o n g hel;cases hl; cases hx
  obtain ⟨h1,_⟩:=QZ hel;refine ⟨r,w,.tuple #[],?_,.tuple .nil,Ext.refl h⟩;simp [Builtin.clear_,ht,run_underlying h1]
 ·rename_i o n g hel;cases hl;obtain ⟨h1,_⟩:=QZ hel;cases hx with
  | Z4 ad c =>
   refine ⟨r,w,.tuple #[],?_,.tuple .nil,Ext.refl h⟩;simp [Builtin.clear_,ht,run_underlying h1]
 ·rename_i id off len c o sz g hel;obtain ⟨h1,h2,_⟩:=QZ hel;cases hx with
  | slice hr hn hcp hu =>
   rename_i x cap;cases hb:Nat.beq len 0
   ·rw [hb] at hl;have hl:clC s id off len (Xi P t) sz (s.ZK id) = .ok v s':=hl;have hn0:len≠0:=JC hb;unfold clC at hl;split at hl
    ·rename_i cs e o' z hc hz;obtain ⟨h6,hl⟩:=Zt hl;unfold ZhL at hl;split at hl
     ·rename_i cs' hsp;cases hl;obtain ⟨el,h3,h4,m,h5,h7⟩:=WB hz;rw [h1] at h3;cases h3;obtain ⟨_,u,_,_,h8,h9⟩:=XR h4;obtain ⟨w',h10,h11⟩:=F0 (P:=P) h hr hc ((h9 r).cells.rep len) hsp;refine ⟨r,w',.tuple #[],?_,.tuple .nil,h11⟩;have hcy:Builtin.zeroCells u.cells len=⟨Ev.Xq len u.cells.toList⟩:=VZ u.cells len;obtain ⟨len,rfl⟩:=Nat.exists_eq_succ_of_ne_zero hn0;simp only [Builtin.clear_,ht,List.getElem?_toArray,List.getElem?_cons_zero,Sem.run_bind,run_underlying h1,Result.andThen_ok,h8];rw [hcy,h10];rfl
     ·cases hl
    ·cases hl
   ·rw [hb] at hl;have hl:R.ok (.tuple []) s = .ok v s':=hl;cases hl;have:=ZE hb;subst this;refine ⟨r,w,.tuple #[],?_,.tuple .nil,Ext.refl h⟩;simp [Builtin.clear_,ht,run_underlying h1]
 ·cases hl
end Ev
namespace Ev
open Go
variable [Sig] {P:Program} {r:Rho} {s:St} {w:World}
structure Ee (P:Program) (r:Rho) (w:World) (zs:Bool) (sz k:Nat) (z:Value) (news:List Zb) (b:Value) (us:List Value):Prop where
 rel:VRs r news us
 len:us.length=k*sz
 plain:zs=false->(∀ w,(Builtin.lenOf b).run P w = .ok k w)/\(Builtin.firstCells sz k b).run P w = .ok ⟨us⟩ w/\(Builtin.firstCells sz k b).run P w.drew = .ok ⟨us⟩ w.drew
 ZeL:zs=true->∃ j,b = .int j (k:Int)/\k<=65536/\us=Ev.Xq k z.cells.toList
theorem ZjQ (h:Rel r s w) {zs:Bool} {t:TypeId} {z:Zb} {e0 sz:Nat} {g:Bool} (hz:Xi P t=some z) (he:JF P t = .mk e0 sz g) {y:Zb} {news:List Zb} {k:Nat}
  (hs:ZhH zs s (some z) sz y = .mk news k) {b:Value} (hy:VR r y b) {u:Value} (hu:VR r z u):∃ us,Ee P r w zs sz k u news b us:=by
 obtain ⟨h1,h2,_⟩:=QZ he;obtain ⟨el,h3,h4,m,h5,h6⟩:=WB hz;rw [h1] at h3;cases h3;rw [h2] at h5;cases h5;cases zs
 ·have hs:XQ s sz y = .mk news k:=hs;obtain ⟨us,h7,h8,h9⟩:=KC (P:=P) h hs hy (Nat.le_refl k)
  have hnl:news.length=k*sz:=by
   unfold XQ at hs;split at hs
   ·cases hs; simp
   ·cases hs; simp
   ·rename_i l;rcases Ze hs with ⟨h0,h10⟩ | ⟨_,h10⟩
    ·cases h10
     have:∀ l:List UInt8,(ZX l).length=l.length:=by
      intro l
      induction l with
      | nil=>rfl
      | cons b l ih=>simp [ZX,ih]
     rw [this,ZE h0,Nat.mul_one]
    ·cases h10
   ·unfold rW at hs;split at hs
    ·rcases Ze hs with ⟨h0,h10⟩ | ⟨_,h10⟩
     ·unfold SC at h10;split at h10
      ·rename_i l hl;cases h10;obtain ⟨h11,rfl⟩:=sub_eq hl;rw [List.length_take,List.length_drop];omega
      ·cases h10
     ·cases h10
    ·cases hs
   ·cases hs
  rw [<- hnl,List.take_length] at h8;exact ⟨us,h8,h9,fun _=>⟨fun w=>Gq hs hy,h7 w.drawn,h7 (w.drawn+1)⟩,fun e=>by cases e⟩
 ·have hs:FN (some z) (asNat y) = .mk news k:=hs;unfold FN at hs;split at hs
  ·rename_i z' n h7 h8;cases h7;rcases Ze hs with ⟨h0,h10⟩ | ⟨_,h10⟩
   ·cases h10;obtain ⟨j,rfl⟩:=Xp h8 hy;refine ⟨Ev.Xq k u.cells.toList,hu.cells.rep k,?_,fun e=>(by cases e),fun _=>⟨j,rfl,Qj h0,rfl⟩⟩;rw [Xr,hu.cells.length,h6]
   ·cases h10
  ·cases hs
variable {t e0:TypeId} {ts:Array TypeId} {ty:TypeId} {sz k:Nat} {z:Value} {zs:Bool} {news:List Zb} {b:Value} {us:List Value}
structure ElR (P:Program) (t e0:TypeId) (sz:Nat) (z:Value):Prop where
 sl:P.underlying t=some (.slice e0)
 size:∀ w,(sizeOf e0).run P w = .ok sz w
 info:∃ i,(∀ w,(typeInfo e0).run P w = .ok i w)/\i.bytes<=65536
 zero:∀ w,(zeroValue e0).run P w = .ok z w
 fit:z.cells.size=sz
 pos:sz≠0
inductive ZsR (P:Program) (ts:Array TypeId):Bool->Prop where
 | none (h:ts[1]? = none):ZsR P ts false
 | int {u:TypeId} {k:IntKind} (h:ts[1]? = some u) (hu:P.underlying u=some (.int k)):ZsR P ts true
 | other {u:TypeId} {d:TypeDesc} (h:ts[1]? = some u) (hu:P.underlying u=some d) (hd:∀ k,d ≠ .int k):ZsR P ts false
theorem ZgH {ou:Option TypeId} (h:xN P ou=some zs) (ho:ts[1]? = ou):ZsR P ts zs:=by
 cases ou with
 | none=>cases h; exact .none ho
 | some u =>
  have h:U4 P u=some zs:=h;unfold U4 at h;split at h
  ·rename_i k hu;cases h;exact .int ho hu
  ·rename_i d hd hu;cases h;exact .other ho hu fun k e=>hd k e
  ·cases h
theorem NU (ht:ts[0]? = some t) (hz:ZsR P ts false) (hel:ElR P t e0 sz z) (a:Option Addr) (n c:Nat) (b:Value) :
  (Builtin.append_ ts ty #[.slice a n c,b]).run P w=(Builtin.append_ #[t,t] ty #[.slice a n c,b]).run P w:=by
 have key:∀ d,(∀ k,d≠TypeDesc.int k)->∀ u,ts[1]? = some u->P.underlying u=some d ->
   (Builtin.append_ ts ty #[.slice a n c,b]).run P w=(Builtin.append_ #[t,t] ty #[.slice a n c,b]).run P w:=by
  intro d hd u h hu;cases d with
  | int k=>exact absurd rfl (hd k)
  | _ =>
   simp only [Builtin.append_,ht,h,List.getElem?_toArray,List.getElem?_cons_zero,List.getElem?_cons_succ,Sem.run_bind,run_underlying hel.sl,run_underlying hu,hel.size,Result.andThen_ok,Sem.run_pure]
 cases hz with
 | none h =>
  simp only [Builtin.append_,ht,h,List.getElem?_toArray,List.getElem?_cons_zero,List.getElem?_cons_succ,Sem.run_bind,run_underlying hel.sl,hel.size,Result.andThen_ok,Sem.run_pure]
 | other h hu hd=>exact key _ hd _ h hu
theorem SG (hel:ElR P t e0 sz z) {us:List Value} (hl:us.length=k*sz) (hu:us=Ev.Xq k z.cells.toList) (w:World) :
  (if k*sz=0 then pure #[] else do pure (Builtin.zeroCells (← zeroValue e0).cells k):Sem (Array Value)).run P w = .ok ⟨us⟩ w:=by
 have hcy:Builtin.zeroCells z.cells k=⟨Ev.Xq k z.cells.toList⟩:=VZ z.cells k;by_cases h0:k*sz=0
 ·rw [if_pos h0];have:us=[]:=List.eq_nil_of_length_eq_zero (by rw [hl,h0]);rw [this];rfl
 ·rw [if_neg h0];simp only [Sem.run_bind,hel.zero,Result.andThen_ok,Sem.run_pure,hcy,hu]
theorem V0 {b:Nat} (h1:k<=65536) (hib:b<=65536):¬ (281474976710656<(k:Int)*(b:Int)):=by
 have h5:k*b<=65536*65536:=Nat.mul_le_mul h1 hib;have h6:((k*b:Nat):Int)<=4294967296:=by omega
 rw [Int.natCast_mul] at h6;omega
theorem Iy {w':World} (ht:ts[0]? = some t) (hz:ZsR P ts zs) (hel:ElR P t e0 sz z) (hs:Ee P r w zs sz k z news b us) {blk off n c:Nat} (hc:n+k<=c)
  (hst:(storeCells ⟨blk,off+n*sz,none⟩ us).run P w = .ok () w') :
  (Builtin.append_ ts ty #[.slice (some ⟨blk,off,none⟩) n c,b]).run P w = .ok (.slice (some ⟨blk,off,none⟩) (n+k) c) w':=by
 cases zs
 ·rw [NU ht hz hel];obtain ⟨h1,h2,_⟩:=hs.plain rfl;simp [Builtin.append_,run_underlying hel.sl,hel.size,h1,hc,h2,Xl,hst]
 ·cases hz with
  | int h hu =>
   obtain ⟨j,rfl,h1,h2⟩:=hs.ZeL rfl;obtain ⟨i,hi,hib⟩:=hel.info;have h3:¬ ((k:Int)<0):=by omega
   have h4:=V0 h1 hib;have hap:=SG hel hs.len h2 w;simp only [Builtin.append_,ht,h,List.getElem?_toArray,List.getElem?_cons_zero,List.getElem?_cons_succ,Sem.run_bind,run_underlying hel.sl,run_underlying hu,hel.size,Result.andThen_ok,Sem.run_pure];simp only [if_true,Sem.run_bind,asInt,asIntOf,Sem.run_pure,Result.andThen_ok,wrap_small h1,h3,if_false,hi,gt_iff_lt,show (2:Int)^48=281474976710656 from rfl,h4,Int.toNat_natCast,hc,Bool.not_true,Bool.false_eq_true,hap,Xl,hst]
theorem Ef (ht:ts[0]? = some t) (hz:ZsR P ts zs) (hel:ElR P t e0 sz z) (hs:Ee P r w zs sz 0 z news b us) :
  (Builtin.append_ ts ty #[.slice none 0 0,b]).run P w = .ok (.slice none 0 0) w:=by
 cases zs
 ·rw [NU ht hz hel];obtain ⟨h1,h2,_⟩:=hs.plain rfl;simp [Builtin.append_,run_underlying hel.sl,hel.size,h1,h2]
 ·cases hz with
  | int h hu =>
   obtain ⟨j,rfl,h1,h2⟩:=hs.ZeL rfl;obtain ⟨i,hi,hib⟩:=hel.info;have h3:¬ (((0:Nat):Int)<0):=by omega
   have h4:=V0 h1 hib;have hap:=SG hel hs.len h2 w;have hc:0+0<=0:=Nat.le_refl 0;simp only [Builtin.append_,ht,h,List.getElem?_toArray,List.getElem?_cons_zero,List.getElem?_cons_succ,Sem.run_bind,run_underlying hel.sl,run_underlying hu,hel.size,Result.andThen_ok,Sem.run_pure];simp only [if_true,Sem.run_bind,asInt,asIntOf,Sem.run_pure,Result.andThen_ok,wrap_small h1,h3,if_false,hi,gt_iff_lt,show (2:Int)^48=281474976710656 from rfl,h4,Int.toNat_natCast,hc,Bool.not_true,Bool.false_eq_true,hap]
theorem Eg {b n c:Nat} (hc:c<n) (hn:n<=16777216) (hb:b<=65536):¬ (281474976710656<Builtin.nextslicecap n c*b):=by
 have h1:=nextslicecap_le hc;have h2:Builtin.nextslicecap n c*b<=33554432*65536:=Nat.mul_le_mul (by omega) hb;omega
theorem Bn (ht:ts[0]? = some t) (hz:ZsR P ts zs) (hel:ElR P t e0 sz z) (hs:Ee P r w zs sz k z news b us) {a:Option Addr} {n c:Nat} (hc:c<n+k) (hm:n+k<=16777216) {os:List Value}
  (ho:(Builtin.firstCells sz n (.slice a n c)).run P w.drew = .ok ⟨os⟩ w.drew) :
  (Builtin.append_ ts ty #[.slice a n c,b]).run P w = .ok (.slice (some ⟨w.heap.size,0,none⟩) (n+k) (grownCap w (n+k) c e0))
   (w.drew.alloc (.cells ⟨os++(us++Ev.Xq (grownCap w (n+k) c e0-(n+k)) z.cells.toList)⟩ e0)):=by
 obtain ⟨i,hi,hib⟩:=hel.info;have hgr:=Eg hc hm hib;have hc':¬ (n+k<=c):=by omega
 have h63:¬ (9223372036854775807<((n:Int)+(k:Int))):=by omega
 have hcy:=fun m=>VZ z.cells m;cases zs
 ·rw [NU ht hz hel];obtain ⟨h1,h2,h5⟩:=hs.plain rfl;simp [Builtin.append_,run_underlying hel.sl,hel.size,h1,hc',h63,hgr,hi,hel.zero,h5,ho,newRow,grownCap,Question.forced,Builtin.zeroCells,hcy]
 ·cases hz with
  | int h hu =>
   obtain ⟨j,rfl,h1,h2⟩:=hs.ZeL rfl;have h3:¬ ((k:Int)<0):=by omega
   have h4:=V0 h1 hib;have hap:=SG hel hs.len h2 w.drew
   have h63':¬ (((n+k:Nat):Int)>IntKind.i64.max):=by
    show ¬ ((n+k:Nat):Int)>9223372036854775807;omega
   have xQ:¬ (IntKind.i64.max<((n+k:Nat):Int)/\(True\/i.bytes=0)):=fun h=>h63' h.1;have iR:¬ (2^48<Builtin.nextslicecap (n+k) c*i.bytes):=hgr;have hch:(choose (.appendCap (n+k) c e0)).run P w = .ok (grownCap w (n+k) c e0) w.drew:=rfl;have hzc:∀ m,Builtin.zeroCells z.cells m=⟨Ev.Xq m z.cells.toList⟩:=hcy;simp only [Builtin.append_,ht,h,List.getElem?_toArray,List.getElem?_cons_zero,List.getElem?_cons_succ,Sem.run_bind,run_underlying hel.sl,run_underlying hu,hel.size,Result.andThen_ok,Sem.run_pure];simp only [if_true,Sem.run_bind,asInt,asIntOf,Sem.run_pure,Result.andThen_ok,wrap_small h1,h3,if_false,hi,gt_iff_lt,show (2:Int)^48=281474976710656 from rfl,h4,Int.toNat_natCast,hc',Bool.not_true,Bool.false_eq_true,xQ];simp only [iR,if_false,Sem.run_bind,hch,Result.andThen_ok,hi,run_askRoom,ho,hap,hel.zero,hzc,newRow,Sem.run_pure];simp;rfl
end Ev
namespace Ev
open Go
variable [Sig] {P:Program} {r:Rho} {s:St} {w:World}
theorem Ext.kill (h:Rel r s w) {id:Nat} {x:RB} (hx:r id=some x):Ext r s w r (s.kill id) w where
 rel:=by
  have live:∀ {j d},(s.kill id).get j=some d->s.get j=some d:=fun {j d} hd=>by
   rw [St.Xk] at hd;by_cases hj:id=j
   ·rw [if_pos hj] at hd; cases hd
   ·rw [if_neg hj] at hd; exact hd
  refine ⟨⟨fun j d y hd hy=>h.block j d y (live hd) hy,fun j hj => ?_⟩,fun j k d e y z hd he hy hz=>h.apart j k d e y z (live hd) (live he) hy hz,h.known,fun j y g hy hg=>(h.safe j y g hy hg).step (Nat.le_refl _) (fun _ _ _=>rfl) fun k ⟨j,d,y,hd,hy,hk⟩ => .inl ⟨j,d,y,live hd,hy,hk⟩⟩;rw [St.XD] at hj;rw [St.Xk];by_cases hji:id=j
  ·rw [if_pos hji]
  ·rw [if_neg hji]; exact h.far j hj
 le:=r.le_refl
 next:=Nat.le_refl _
 os:=rfl
 tape:=rfl
 output:=rfl
 size:=Nat.le_refl _
 frame:=fun _ _ _=>rfl
 still:=fun i hi hn d hd=>by
  rw [St.Xk] at hd;by_cases hj:id=i
  ·subst hj; rw [hx] at hn; cases hn
  ·rw [if_neg hj] at hd; exact hd
 dead:=fun i hi hn=>by
  rw [St.Xk];by_cases hj:id=i
  ·rw [if_pos hj]
  ·rw [if_neg hj]; exact hn
 XM:=fun k ⟨j,d,y,hd,hy,hk⟩=>by
  rw [St.Xk] at hd;by_cases hj:id=j
  ·rw [if_pos hj] at hd; cases hd
  ·rw [if_neg hj] at hd; exact .inl ⟨j,d,y,hd,hy,hk⟩
 fresh:=fun i hn hp=>absurd hn hp
 Wa:=fun _ h => .inl h
theorem Ext.move {u:World} (h:Rel r s w) {id:Nat} {b c:Zd} {x:RB} {o:Obj} (hb:s.get id=some b) (hx:r id=some x)
  (hu:u.heap[x.blk]? = some o) (hr:BR (r.at s.next x) c x o) (hf:∀ k,k≠x.blk->u.heap[k]? = w.heap[k]?) (hs:u.heap.size=w.heap.size) (ho:u.os=w.os) (ht:u.tape=w.tape) (hp:u.output=w.output) :
  Ext r s w (r.at s.next x) ((s.kill id).new c) u:=by
 have hn:=h.Z7 (Nat.le_refl s.next);have ace:id<s.next:=h.known id x hx
 have back:∀ {j d y},((s.kill id).new c).get j=some d->(r.at s.next x) j=some y->(j=s.next/\d=c/\y=x)\/(j≠s.next/\j≠id/\s.get j=some d/\r j=some y):=fun {j d y} hd hy=>by
  rw [St.ZC,St.XD] at hd;by_cases hj:s.next=j
  ·rw [if_pos hj] at hd;cases hd;subst hj;rw [Rho.Zn] at hy;cases hy;exact .inl ⟨rfl,rfl,rfl⟩
  ·rw [if_neg hj,St.Xk] at hd;by_cases hk:id=j
   ·rw [if_pos hk] at hd; cases hd
   ·rw [if_neg hk] at hd;rw [Rho.Zx r x (Ne.symm hj)] at hy;exact .inr ⟨Ne.symm hj,Ne.symm hk,hd,hy⟩
 refine ⟨⟨⟨fun j d y hd hy => ?_,fun j hj => ?_⟩,fun j k d e y z hd he hy hz bJ => ?_,fun j y hy => ?_,fun j y g hy hg => ?_⟩,r.JV x hn,by rw [St.Qn]; exact Nat.le_succ _,ho,ht,hp,by omega,fun k hk xR=>hf k fun e=>xR ⟨id,b,x,hb,hx,e.symm⟩,
  fun i hi hin d hd => ?_,fun i hi hin => ?_,fun k ⟨j,d,y,hd,hy,hk⟩ => ?_,fun i hin Iz => ?_,fun k hk => .inl ?_⟩
 ·rcases back hd hy with ⟨rfl,rfl,rfl⟩ | ⟨h1,h2,h3,h4⟩
  ·exact ⟨o,hu,hr⟩
  ·obtain ⟨o',h5,h6⟩:=h.block j d y h3 h4;exact ⟨o',by rw [hf y.blk fun e=>h2 (h.apart j id d b y x h3 hb h4 hx e)]; exact h5,h6.mono (r.JV x hn)⟩
 ·rw [St.Qn,St.XD] at hj;rw [St.ZC,St.XD,if_neg (by omega),St.Xk];by_cases hji:id=j
  ·rw [if_pos hji]
  ·rw [if_neg hji]; exact h.far j (by omega)
 ·rcases back hd hy with ⟨rfl,rfl,rfl⟩ | ⟨h1,h2,h3,h4⟩ <;> rcases back he hz with ⟨rfl,rfl,rfl⟩ | ⟨g1,g2,g3,g4⟩
  ·rfl
  ·exact absurd (h.apart id k b e _ z hb g3 hx g4 bJ) (Ne.symm g2)
  ·exact absurd (h.apart j id d b y _ h3 hb h4 hx bJ) h2
  ·exact h.apart j k d e y z h3 g3 h4 g4 bJ
 ·rw [St.Qn,St.XD];by_cases hj:j=s.next
  ·omega
  ·rw [Rho.Zx r x hj] at hy;have:=h.known j y hy;omega
 ·have hs':∀ i,r i=some y->Safe (r.at s.next x) ((s.kill id).new c) u g:=fun i hi=>(h.safe i y g hi hg).step (by omega) (fun k hk xR=>hf k fun e=>xR ⟨id,b,x,hb,hx,e.symm⟩) fun k ⟨j,d,y,hd,hy,hk⟩=>by
   rcases back hd hy with ⟨rfl,rfl,rfl⟩ | ⟨h1,h2,h3,h4⟩
   ·exact .inl ⟨id,b,_,hb,hx,hk⟩
   ·exact .inl ⟨j,d,y,h3,h4,hk⟩
  by_cases hj:j=s.next
  ·subst hj;rw [Rho.Zn] at hy;cases hy;exact hs' id hx
  ·rw [Rho.Zx r x hj] at hy;exact hs' j hy
 ·rw [St.ZC,St.XD,if_neg (by omega),St.Xk,if_neg (fun e=>by subst e; rw [hx] at hin; cases hin)] at hd;exact hd
 ·rw [St.ZC,St.XD,if_neg (by omega),St.Xk];by_cases hj:id=i
  ·rw [if_pos hj]
  ·rw [if_neg hj]; exact hin
 ·rcases back hd hy with ⟨rfl,rfl,rfl⟩ | ⟨h1,h2,h3,h4⟩
  ·exact .inl ⟨id,b,_,hb,hx,hk⟩
  ·exact .inl ⟨j,d,y,h3,h4,hk⟩
 ·by_cases hj:i=s.next
  ·omega
  ·rw [Rho.Zx r x hj] at Iz;exact absurd hin Iz
 ·rcases hk.at with h1 | ⟨g,h1,h2,h3⟩
  ·exact h1
  ·exact ⟨id,x,g,hx,h1,h2,h3⟩
theorem Bo (h:Rel r s w) {cs:List Zb} {os rest:List Value} (hv:VRs r cs os) {n c sz:Nat} (hn:n<=c) (hl:os.length=n*sz) (hrl:rest.length=(c-n)*sz) (e0:TypeId) :
  ∃ q,VR q (.slice s.next 0 n none) (.slice (some ⟨w.heap.size,0,none⟩) n c)/\Ext r s w q (s.new (.cells cs sz true)) (w.drew.alloc (.cells ⟨os++rest⟩ e0)):=by
 have hle:=Rho.JV r (RB.of w.heap.size (c*sz) (sz)) (h.Z7 (Nat.le_refl s.next));refine ⟨r.at s.next (RB.of w.heap.size (c*sz) (sz)),.slice (Rho.Zn _ _ _) hn (fun k hk=>by cases hk) (fun _=>by simp),?_⟩;refine Ext.new h rfl (Gd w.drew _) ⟨rfl,os,rest,e0,(0,0),rfl,hv.mono hle,?_,fun e=>(by cases e),fun i _=>by omega⟩ (fun k hk=>alloc_old (w:=w.drew) _ hk) (by rw [World.size_alloc]; exact Nat.le_succ _) rfl rfl rfl;rw [List.length_append,hl,hrl,<- Nat.add_mul]
 congr 1
 omega
variable {t e0:TypeId} {ts:Array TypeId} {ty:TypeId} {sz k:Nat} {z:Value} {zs:Bool} {news:List Zb} {b:Value} {us:List Value}
theorem Gr (h:Rel r s w) (ht:ts[0]? = some t) (hz:ZsR P ts zs) (hel:ElR P t e0 sz z) (hs:Ee P r w zs sz k z news b us)
  {id off n:Nat} {c:Option Nat} {x:RB} {cap:Nat} (hr:r id=some x) (hc:∀ k,c=some k->cap=k) (hu:c=none->off+cap*x.esz=x.size) (hfit:n+k<=cap)
  {cs:List Zb} {o:Bool} (hb:s.ZK id = .mk cs sz o) {v:Zb} {s':St} (hl:FO s id off (n+k) sz o c (splice cs (off+n*sz) news) = .ok v s') :
  YF P r s w (Builtin.append_ ts ty #[.slice (some ⟨x.blk,off,none⟩) n cap,b]) v s':=by
 unfold FO at hl;split at hl
 ·rename_i cs' hsp;cases hl;obtain ⟨w',h1,h2⟩:=F0 (P:=P) h hr hb hs.rel hsp;exact ⟨r,w',_,Iy ht hz hel hs hfit h1,.slice hr hfit hc hu,h2⟩
 ·cases hl
theorem NV (h:Rel r s w) (ht:ts[0]? = some t) (hz:ZsR P ts zs) (hel:ElR P t e0 sz z) (hs:Ee P r w zs sz k z news b us)
  {a:Option Addr} {n c:Nat} (hc:c<n+k) (hm:n+k<=16777216) {old:List Zb} {os:List Value} (hov:VRs r old os) (hol:os.length=n*sz)
  (ho:(Builtin.firstCells sz n (.slice a n c)).run P w.drew = .ok ⟨os⟩ w.drew) {v:Zb} {s':St} (hl:Rn s sz (n+k) (old++news) = .ok v s') :
  YF P r s w (Builtin.append_ ts ty #[.slice a n c,b]) v s':=by
 cases hl;have hg:=Bn (ty:=ty) ht hz hel hs hc hm ho;rw [<- List.append_assoc] at hg
 obtain ⟨q,h1,h2⟩:=Bo h (hov.append hs.rel) (n:=n+k) (c:=grownCap w (n+k) c e0) (sz:=sz) (grownCap_ge w (n+k) c e0)
  (by rw [List.length_append,hol,hs.len,Nat.add_mul]) (rest:=Ev.Xq (grownCap w (n+k) c e0-(n+k)) z.cells.toList) (by rw [Xr,Array.length_toList,hel.fit]) e0
 exact ⟨q,_,_,hg,h1,h2⟩
theorem ZbS (h:Rel r s w) (ht:ts[0]? = some t) (hz:ZsR P ts zs) (hel:ElR P t e0 sz z) (hs:Ee P r w zs sz k z news b us)
  {id n:Nat} {x:RB} {cap:Nat} (hr:r id=some x) (hn:n<=cap) (hu:0+cap*x.esz=x.size) (hm:n+k<=16777216) {cs:List Zb} (hb:s.ZK id = .mk cs sz true) (hcl:n*sz=cs.length) (hone:∀ v∈news,Pq v=true) {v:Zb} {s':St}
  (hl:R.ok (.slice s.next 0 (n+k) none) ((s.kill id).new (.cells (cs++news) sz true)) = .ok v s') :
  YF P r s w (Builtin.append_ ts ty #[.slice (some ⟨x.blk,0,none⟩) n cap,b]) v s':=by
 cases hl;obtain ⟨ob,bD,hbr⟩:=h.block id _ x (ZO hb) hr;obtain ⟨he,vs,rest,et,fr,rfl,hvs,hlen,_,hfr⟩:=hbr;have hvl:=hvs.length;rw [he] at hu;by_cases hfit:n+k<=cap
 ·have hlr:n*sz+k*sz<=(vs++rest).length:=by
   rw [hlen,<- hu,<- Nat.add_mul];simp only [Nat.zero_add];exact Nat.mul_le_mul_right _ hfit
  have hst:=Xm (P:=P) (off:=0+n*sz) us 0 (vs++rest) w bD (by rw [hs.len]; omega) (fun i hi=>hfr i (by rw [<- hlen]; exact hi)) (hs.rel.Zgr hone)
  have htk:(vs++rest).take (0+n*sz+0)=vs:=by
   rw [show 0+n*sz+0=vs.length by omega,List.take_left]
  have hdr:(vs++rest).drop (0+n*sz+0+us.length)=rest.drop us.length:=by
   rw [show 0+n*sz+0+us.length=vs.length+us.length by omega,<- List.drop_drop,List.drop_left]
  rw [htk,hdr,<- List.append_assoc] at hst;have hle:=Rho.JV r x (h.Z7 (Nat.le_refl s.next))
  refine ⟨r.at s.next x,_,_,Iy ht hz hel hs hfit hst,.slice (Rho.Zn _ _ _) hfit (fun k hk=>by cases hk) (fun _=>by rw [he]; exact hu),Ext.move h (ZO hb) hr (Z6 bD) ⟨he,vs++us,rest.drop us.length,et,fr,rfl,(hvs.append hs.rel).mono hle,?_,fun e=>(by cases e),hfr⟩
   (fun k hk=>QE _ hk) (VP _ _) rfl rfl rfl⟩
  rw [<- hlen];rw [List.length_append] at hlr;have:=hs.len;simp only [List.length_append,List.length_drop];omega
 ·have hk:=Ext.kill h hr
  have ho:(Builtin.firstCells sz n (.slice (some ⟨x.blk,0,none⟩) n cap)).run P w.drew = .ok ⟨vs⟩ w.drew:=by
   simp only [Builtin.firstCells];rw [JH (w:=w.drew) bD (by rw [List.length_append]; omega)]
   congr 2
   rw [List.drop_zero,show n*sz=vs.length by omega,List.take_left]
  have hg:=Bn (ty:=ty) ht hz hel hs (by omega) hm ho;rw [<- List.append_assoc] at hg
  obtain ⟨q,h1,h2⟩:=Bo hk.rel (hvs.append hs.rel) (n:=n+k) (c:=grownCap w (n+k) cap e0) (sz:=sz) (grownCap_ge w (n+k) cap e0)
   (by rw [List.length_append,hs.len,Nat.add_mul]; omega) (rest:=Ev.Xq (grownCap w (n+k) cap e0-(n+k)) z.cells.toList) (by rw [Xr,Array.length_toList,hel.fit]) e0
  exact ⟨q,_,_,hg,h1,hk.trans h2⟩
theorem Gs:∀ {l:List Zb},FP l=true->∀ v∈l,Pq v=true
 | [],_,_,h=>by cases h
 | x::l,h,v,hv=>by
  simp only [FP] at h;rcases Ze h with ⟨h1,h2⟩ | ⟨_,h2⟩
  ·rcases List.mem_cons.1 hv with rfl | hv
   ·exact h1
   ·exact Gs h2 v hv
  ·cases h2
theorem ZjR {g:Bool} {za:Zb} (hby:byT P t=true) (hel:JF P t = .mk e0 sz g) (hsz:sz≠0) (hz:Xi P t=some za):∃ z,ElR P t e0 sz z/\∀ r,VR r za z:=by
 obtain ⟨h1,h2,_⟩:=QZ hel;obtain ⟨el,h3,h4,m,h5,h6⟩:=WB hz;rw [h1] at h3;cases h3;rw [h2] at h5;cases h5;obtain ⟨_,i,h3,h9,h10⟩:=ZeJ hby
 rw [h1] at h3;cases h3;obtain ⟨_,u,_,_,h7,h8⟩:=XR h4;exact ⟨u,⟨h1,fun w=>run_sizeOf h2,⟨i,fun w=>run_typeInfo h9,h10⟩,h7,by rw [<- Array.length_toList,(h8 (fun _=>none)).cells.length,h6],hsz⟩,h8⟩
theorem ZbT {ou:Option TypeId} (ht:ts[0]? = some t) (hou:ts[1]? = ou) (h:Rel r s w) {x y v:Zb} {s':St} (hl:append (byT P t) (xN P ou) (Xi P t) (JF P t) s x y = .ok v s')
  {a b:Value} (hx:VR r x a) (hy:VR r y b):YF P r s w (Builtin.append_ ts ty #[a,b]) v s':=by
 unfold append at hl;split at hl
 ·rename_i e0 sz g za zs hel hza hzs;obtain ⟨h0,hl⟩:=VX hl;obtain ⟨hby,hl⟩:=Zt hl;have hsz:=JC h0;obtain ⟨z,fG,lC⟩:=ZjR hby hel hsz hza;have hzs:=ZgH (ts:=ts) hzs hou;unfold ZhI at hl;split at hl
  ·rename_i news k hsrc;obtain ⟨us,hs⟩:=ZjQ (P:=P) h hza hel hsrc hy (lC r);unfold apV at hl;split at hl
   ·cases hx;rcases Ze hl with ⟨hk,hl⟩ | ⟨hk,hl⟩
    ·cases hl;have:=ZE hk;subst this;exact ⟨r,w,_,Ef ht hzs fG hs,.Za,Ext.refl h⟩
    ·obtain ⟨hm,hl⟩:=Zt hl;have hm:=Qj hm;have hk:=JC hk;have hm':0+k<=16777216:=by rw [Nat.zero_add]; exact hm
     refine NV h ht hzs fG hs (a:=none) (n:=0) (c:=0) (by omega) hm' (old:=[]) (os:=[]) .nil (by simp) rfl ?_;rw [Nat.zero_add];exact hl
   ·rename_i id off len cap _ _;obtain ⟨hm,hl⟩:=Zt hl;have hm:len+k<=16777216:=Qj hm;unfold Zlp at hl;split at hl
    ·rename_i cs e o hc;obtain ⟨he,hl⟩:=Zt hl;have he:=ZE he;subst he;unfold apO at hl;split at hl
     ·rename_i old hold;cases hx with
      | slice hr hn hcp hu =>
       rename_i x cp;obtain ⟨ob,bD,hbr⟩:=h.block id _ x (ZO hc) hr;obtain ⟨hex,vs,rest,et,fr,rfl,hvs,hlen,hop,hfr⟩:=hbr;obtain ⟨hsub,rfl⟩:=sub_eq hold;have hcl:=hvs.length
       have hfi:(Builtin.firstCells e len (.slice (some ⟨x.blk,off,none⟩) len cp)).run P w.drew = .ok ⟨((vs++rest).drop off).take (len*e)⟩ w.drew:=by
        simp only [Builtin.firstCells];exact JH (w:=w.drew) bD (by rw [List.length_append]; omega)
       have hol:(((vs++rest).drop off).take (len*e)).length=len*e:=by
        simp only [List.length_take,List.length_drop,List.length_append];omega
       have qb:cp<len+k->Rn s e (len+k) ((cs.drop off).take (len*e)++news) = .ok v s'->YF P r s w (Builtin.append_ ts ty #[.slice (some ⟨x.blk,off,none⟩) len cp,b]) v s' :=
        fun hlt hl=>NV h ht hzs fG hs hlt hm (hvs.range hsub) hol hfi hl
       unfold Zlo at hl;split at hl
       ·rename_i cc _ _ _ _;have hcc:=hcp _ rfl;subst hcc;rcases Ze hl with ⟨h1,hl⟩ | ⟨h1,hl⟩
        ·exact Gr h ht hzs fG hs hr hcp hu (Qj h1) hc hl
        ·exact qb (Ru h1) hl
       ·have hu':=hu rfl;rw [hex] at hu';have hpos:0<e:=Nat.pos_of_ne_zero hsz;rcases Ze hl with ⟨h1,hl⟩ | ⟨h1,hl⟩
        ·have h1:=Qj h1
         have hfit:len+k<=cp:=by
          have:(len+k)*e<=cp*e:=by
           rw [List.length_append] at hlen;omega
          exact Nat.le_of_mul_le_mul_right this hpos
         exact Gr h ht hzs fG hs hr hcp hu hfit hc hl
        ·have h1:=Ru h1;rcases Ze hl with ⟨h2,hl⟩ | ⟨h2,hl⟩
         ·subst h2;unfold Io at hl;obtain ⟨h3,hl⟩:=Zt hl;obtain ⟨h4,hl⟩:=Zt hl;obtain ⟨h5,xS⟩:=Zt hl;have h3:=ZE h3;subst h3;exact ZbS h ht hzs fG hs hr hn (hu rfl) hm hc (ZE h4) (Gs h5) xS
         ·subst h2;have hrest:=hop rfl;subst hrest;refine qb ?_ hl;rw [List.append_nil] at hlen;have:cp*e<(len+k)*e:=by omega
          exact Nat.lt_of_mul_lt_mul_right this
     ·cases hl
    ·cases hl
   ·cases hl
  ·cases hl
 ·cases hl
end Ev
namespace Ev
open Go
variable [Sig] {P:Program} {r:Rho} {s:St} {w:World}
theorem Bp {n:Nat} {v:Zb}:∀ {es:List Entry} {l:List MapEntry},Zae n es = .ok v->ERs r es l->∃ m,l.find? (fun e=>e.born==n)=some m/\VR r v (.tuple #[m.key,m.val])
 | [],_,h,_=>by cases h
 | (k,u,b)::es,_,h,.cons (m:=m) (l':=l) hh ht=>by
  have hb:m.born=b:=hh.2.2;simp only [Zae] at h;rcases Ze h with ⟨h0,h1⟩ | ⟨h0,h1⟩
  ·cases h1;have:=ZE h0;refine ⟨m,?_,.tuple (.cons hh.1 (.cons hh.2.1 .nil))⟩;rw [List.find?_cons,hb,this];simp
  ·obtain ⟨m',h2,h3⟩:=Bp h1 ht;refine ⟨m',?_,h3⟩;have:(b==n)=false:=beq_false_of_ne (JC h0);rw [List.find?_cons,hb,this];exact h2
theorem Bq:∀ {l:List Nat} {n:Nat},Zef l=some n->(⟨l⟩:Array Nat).back? = some n
 | [],_,h=>by cases h
 | [a],_,h=>by cases h; rfl
 | a::b::l,n,h=>by
  have:=Bq (l:=b::l) h;simp only [List.back?_toArray] at this ⊢;rw [List.getLast?_cons_cons];exact this
theorem ZgI (h:RelB r s w) {x v:Zb} (hl:ZjB s x = .ok v) {a:Value} (hx:VR r x a):ZW P r w (Instr.entry a) v:=by
 unfold ZjB at hl;split at hl
 ·rename_i id;cases hx with
  | ptr hr =>
   rename_i x;unfold Ik at hl;split at hl
   ·rename_i m since seen stepped hb;obtain ⟨o,h1,y,hy,rfl⟩:=h.block id _ x hb hr;unfold Zlk at hl;split at hl
    ·rename_i n es c hln aJ;obtain ⟨hc,xS⟩:=ZQ hl;have hc:=ZE hc;subst hc;obtain ⟨l,h4,h5⟩:=QL h hy aJ;obtain ⟨me,h6,h7⟩:=Bp xS h5;have h8:=Bq hln;refine ⟨_,?_,h7⟩
     have h9:(⟨l⟩:Array MapEntry).find? (fun e=>e.born==n)=some me:=by
      rw [List.find?_toArray];exact h6
     simp only [Instr.entry,Sem.run_bind,Jm h1,Result.andThen_ok,h8,Qt h4,bne_self_eq_false,Bool.false_eq_true,if_false,h9,Sem.run_pure]
    ·cases hl
   ·cases hl
 ·cases hl
theorem ZbU {t:TypeId} (h:FI P t=true):∃ k e,P.underlying t=some (.map k e):=by
 unfold FI at h;split at h
 ·rename_i k e h1; exact ⟨k,e,h1⟩
 ·cases h
theorem ZbV {t:TypeId} (ht:FI P t=true) (h:Rel r s w) {x v:Zb} {s':St} (hl:UX s x = .ok v s') {a:Value} (hx:VR r x a):YF P r s w (Instr.range t a) v s':=by
 obtain ⟨k,e,h1⟩:=ZbU ht;unfold UX at hl;split at hl
 ·cases hl;cases hx;refine Make.ZjO h (mk:=fun i => .ptr i 0) (Kz (o := .mapIter none 0 ⟨[]⟩ 0) (u := .pointer (some ⟨w.heap.size,0,none⟩)) (n:=0) (e:=0) ?_ fun i hi=>⟨rfl,.ptr (Rho.Zn r i _)⟩);simp [Instr.range,run_underlying h1]
 ·rename_i id;unfold Il at hl;split at hl
  ·rename_i es c aJ;cases hl;cases hx with
   | map hr =>
    obtain ⟨l,h4,h5⟩:=QL h.toRelB hr aJ;refine Make.ZjO h (mk:=fun i => .ptr i 0) (Kz (o := .mapIter (some _) c ⟨[]⟩ c) (u := .pointer (some ⟨w.heap.size,0,none⟩)) (n:=0) (e:=0) ?_ fun i hi=>⟨⟨_,Rho.JV r _ hi _ _ hr,rfl⟩,.ptr (Rho.Zn r i _)⟩);simp only [Instr.range,Sem.run_bind,run_underlying h1,Result.andThen_ok,Qt h4,Sem.run_pure];rfl
  ·cases hl
 ·cases hl
theorem toInt_ok {k:IntKind} {x v:Zb} {s':St} (hl:toInt P k s x = .ok v s') {a:Value} (hx:VR r x a) {t u:TypeId} {d:TypeDesc} (ht:P.underlying t=some d) (hu:P.underlying u=some (.int k)) :
  s'=s/\ZW P r w (convert t u a) v:=by
 unfold toInt at hl;split at hl
 ·cases hl; cases hx
  refine ⟨rfl,_,?_,.int _ _⟩;cases d <;> simp [convert,run_underlying ht,run_underlying hu,Conv.intToInt,Vq]
 ·obtain ⟨h1,rfl⟩:=Z5 hl;cases hx;obtain ⟨u',h2,h3⟩:=Rp (r:=r) (w:=w) h1;refine ⟨rfl,u',?_,h3⟩;cases d <;> simp [convert,run_underlying ht,run_underlying hu,h2]
 ·obtain ⟨h1,rfl⟩:=Z5 hl;cases hx with
  | sint j hn =>
   subst hn;refine ⟨rfl,_,?_,WC (r:=r) h1⟩;cases d <;> simp [convert,run_underlying ht,run_underlying hu,Conv.intToInt]
 ·cases hl
theorem toFlt_ok {k:FloatKind} {x v:Zb} {s':St} (hl:toFlt k s x = .ok v s') {a:Value} (hx:VR r x a) {t u:TypeId} {d:TypeDesc} (ht:P.underlying t=some d) (hu:P.underlying u=some (.float k)) :
  s'=s/\ZW P r w (convert t u a) v:=by
 unfold toFlt at hl;split at hl
 ·cases hl; cases hx
  refine ⟨rfl,_,?_,.flt _ _⟩;cases d <;> simp [convert,run_underlying ht,run_underlying hu,Conv.intToFloat]
 ·cases hl
theorem toStr_ok {x v:Zb} {s':St} (hl:toStr s x = .ok v s') {a:Value} (hx:VR r x a) {t u:TypeId} (ht:P.underlying t=some .string) (hu:P.underlying u=some .string) :
  s'=s/\ZW P r w (convert t u a) v:=by
 unfold toStr at hl;split at hl
 ·cases hl; cases hx
  refine ⟨rfl,_,?_,.str _⟩;simp [convert,run_underlying ht,run_underlying hu]
 ·cases hl
theorem LQ (h:RelB r s w) {x v:Zb} {s':St} (hl:XP s x = .ok v s') {a:Value} (hx:VR r x a) {t u e:TypeId} (ht:P.underlying t=some (.slice e)) (hu:P.underlying u=some .string) (he:LI P e=true) :
  s'=s/\ZW P r w (convert t u a) v:=by
 obtain ⟨h1,u',h2,h3⟩:=Bg (P:=P) h hl hx;refine ⟨h1,u',?_,h3⟩;have he':=Zaz he;unfold XP at hl;split at hl
 ·cases hx;simp only [convert,Sem.run_bind,run_underlying ht,run_underlying hu,Result.andThen_ok,run_underlying he',h2]
 ·cases hx;simp only [convert,Sem.run_bind,run_underlying ht,run_underlying hu,Result.andThen_ok,run_underlying he',h2]
 ·cases hl
theorem LR {x v:Zb} {s':St} (hl:Rj s x = .ok v s') {t u e:TypeId} (ht:P.underlying t=some .string) (hu:P.underlying u=some (.slice e)) (he:LI P e=true) :
  ∃ mk b,v=mk s.next/\s'=s.new b/\∀ (r:Rho) (w:World) (a:Value),VR r x a->Make P r w (convert t u a) mk b:=by
 unfold Rj at hl;split at hl
 ·rename_i l;cases hl;refine ⟨fun i => .slice i 0 l.length none,_,rfl,rfl,fun r w a hx => ?_⟩;cases hx;obtain ⟨w',u',y,o,h1,h2⟩:=Bl (P:=P) (r:=r) (w:=w) (e:=e) l;refine ⟨w',u',y,o,?_,h2⟩;simp only [convert,Sem.run_bind,run_underlying ht,run_underlying hu,Result.andThen_ok,run_underlying (Zaz he),h1]
 ·cases hl
theorem Eh {t:TypeId} {x v:Zb} {s':St} (hl:(Rk P t).run s x = .ok v s') {a:Value} (hx:VR r x a):s'=s/\ZW P r w (Instr.makeInterface t a) v:=by
 unfold Rk at hl;split at hl
 ·cases hl
 ·rename_i d hd hu;cases hl;refine ⟨rfl,_,?_,.iface t hx⟩;cases d <;> first | exact absurd rfl (hd _) | simp [Instr.makeInterface,run_underlying hu]
 ·cases hl
theorem Br {t xt:TypeId} {ok:Bool} {x v:Zb} {s':St} (hl:(VO P t ok).run s x = .ok v s') {a:Value} (hx:VR r x a):s'=s/\ZW P r w (Instr.typeAssert a xt t ok) v:=by
 unfold VO at hl;split at hl
 ·cases hl
 ·rename_i d hd hu;have hl:Rl t ok s x = .ok v s':=hl;unfold Rl at hl;split at hl
  ·rename_i u y;obtain ⟨h1,hl⟩:=Zt hl;cases hl;have:=ZE h1;subst this;cases hx with
   | iface _ hy =>
    rename_i b;refine ⟨rfl,if ok then .tuple #[b,.bool true] else b,?_,?_⟩
    ·cases d <;> first | exact absurd rfl (hd _) | simp [Instr.typeAssert,run_underlying hu]
    ·cases ok
     ·exact hy
     ·exact .tuple (.cons hy (.cons (.bool _) .nil))
  ·cases hl
 ·cases hl
end Ev
namespace Ev
open Go
noncomputable section
inductive Al where
 | nil
 | loc (t:Tmp) (i:Nat) (l:Al)
 | same (t u:Tmp) (l:Al)
 | const (t:Tmp) (v:Value) (l:Al)
def Z0 (n:Nat) (al:Al) (t:Tmp):Qh:=match al with
 | .nil => .tmp (bits t)
 | .loc u i l=>sel (Nat.beq t u) (.loc (n-1-i)) (Z0 n l t)
 | .same u v l=>sel (Nat.beq t u) (.tmp (bits v)) (Z0 n l t)
 | .const u v l=>sel (Nat.beq t u) (PY v) (Z0 n l t)
def Jy (n:Nat) (al:Al):Cod
 | .tmp t=>Z0 n al t
 | .const v=>PY v
 | .global _ => .bad
 | .func f => .val (.func f [] [])
inductive Ex where
 | normal | exit (id:Nat) | goto (l:Nat) | ret
inductive Res where
 | ok (x:Ex) (e:Env) (s:St)
 | bad
structure ZeN where
 run:Env->St->Res
inductive Ins where
 | mk (run:Cl) (dst:Option (List Bool)) (guard:Option (Qh×Bool))
inductive G3 where
 | nil
 | cons (i:Ins) (l:G3)
abbrev TJ:=Tmp->Bool
structure ZI where
 n:Nat
 Zf:TJ
def J9 (K:ZI) (o:Oper):Option (List Bool):=match o.dst with
 | some t=>sel (K.Zf t) (some (bits t)) none
 | none=>none
def QC (K:ZI) (o:Oper):Bool:=match o.dst with
 | some t=>Nat.blt t K.n
 | none=>true
def guardOf (co:Cod) (ops:Array Oper) (o:Oper):Option (Qh×Bool) :=
 match o.guard with
 | none=>none
 | some (j,w)=>match (ops[j]?).bind (·.dst) with
  | some t=>some (co (.tmp t),w)
  | none=>some (.bad,w)
inductive Mv where
 | no
 | const (d:Tmp) (v:Value)
 | same (d u:Tmp)
 | loc (d:Tmp) (i:Nat)
def V1 (al:Al) (d t:Tmp):Mv:=match al with
 | .nil => .same d t
 | .loc u i l=>sel (Nat.beq t u) (.loc d i) (V1 l d t)
 | .same u v l=>sel (Nat.beq t u) (.same d v) (V1 l d t)
 | .const u v l=>sel (Nat.beq t u) (.const d v) (V1 l d t)
def ZbW (al:Al) (d:Tmp) (o:Op):Mv:=match o with
 | .move (.const v) => .const d v
 | .move (.tmp t)=>V1 al d t
 | _ => .no
def Ei (K:ZI) (al:Al) (o:Oper):Mv :=
 match o.guard,o.dst with
 | none,some d=>sel (K.Zf d) .no (ZbW al d o.op)
 | _,_ => .no
def Qi (n:Nat) (al:Al) (o:Oper):Al:=match o.dst with
 | some t => .loc t n al
 | none=>al
def ZbX:Ins := .mk ⟨CT⟩ none none
def Y0 (P:Program) (call:Zz) (K:ZI) (ops:Array Oper) (n:Nat) (al:Al) (o:Oper):Ins :=
 sel (QC K o) (.mk (comp (Jy n al) P call o.op) (J9 K o) (guardOf (Jy n al) ops o)) ZbX
def JO (P:Program) (call:Zz) (K:ZI) (ops:Array Oper):List Oper->Nat->Al->G3
 | [],_,_ => .nil
 | o::l,n,al=>match Ei K al o with
  | .no => .cons (Y0 P call K ops n al o) (JO P call K ops l (n+1) (Qi n al o))
  | .const d v=>sel (QC K o) (JO P call K ops l n (.const d v al)) (.cons ZbX .nil)
  | .same d u=>sel (QC K o) (JO P call K ops l n (.same d u al)) (.cons ZbX .nil)
  | .loc d i=>sel (QC K o) (JO P call K ops l n (.loc d i al)) (.cons ZbX .nil)
def K9 (e:Env) (v:Zb) (d:Option (List Bool)):Env:=@Option.rec (List Bool) (fun _=>Env) e (fun p=>Tr.Zge (some v) p e) d
def Nj (a b:Bool):Bool:=@Bool.rec (fun _=>Bool) (@Bool.rec (fun _=>Bool) true false b) b a
def isB (w:Bool) (o:Option Bool):Bool:=@Option.rec Bool (fun _=>Bool) false (fun b=>Nj b w) o
inductive Wt where
 | yes | no | bad
def wtV (w:Bool) (v:V):Wt:=@V.rec (fun _=>Wt) (fun v=>sel (isB w (KT v)) .yes .no) .bad v
def wanted (l:List Zb) (e:Env) (g:Option (Qh×Bool)):Wt:=@Option.rec (Qh×Bool) (fun _=>Wt) .yes (fun x=>wtV x.2 (Zl l e x.1)) g
def ZhN (go:List Zb->Env->St->Res) (l:List Zb) (e0 e:Env) (s:St) (i:Ins):Res :=
 @Ins.rec (fun _=>Res) (fun r d g=>@Wt.rec (fun _=>Res)
  (@R.rec (fun _=>Res) (fun v s=>go (v::l) (K9 e v d) s) .bad (r.run l e0 s))
  (go (QH::l) (K9 e QH d) s) .bad (wanted l e0 g)) i
def Yh (e0:Env) (is:G3):List Zb->Env->St->Res :=
 @G3.rec (fun _=>List Zb->Env->St->Res) (fun _ e s => .ok .normal e s) (fun i _ ih l e s=>ZhN ih l e0 e s i) is
def Ej (is:G3) (e:Env) (s:St):Res:=Yh e is [] e s
mutual
def XL:Zb->Zb->Bool
 | .bool a,.bool b=>Nj a b
 | .int j a,.int k b=>Bool.and (keq j k) (ieq a b)
 | .flt j a,.flt k b=>Bool.and (G6 j k) (Nat.beq a b)
 | .Z2 j a c,.Z2 k b d=>Bool.and (G6 j k) (Bool.and (Nat.beq a b) (Nat.beq c d))
 | .str a,.str b=>QG a b
 | .Zo,.Zo=>true
 | .ptr i a,.ptr j b=>Bool.and (Nat.beq i j) (Nat.beq a b)
 | .Za,.Za=>true
 | .Z4,.Z4=>true
 | .slice i a n none,.slice j b m none=>Bool.and (Nat.beq i j) (Bool.and (Nat.beq a b) (Nat.beq n m))
 | .slice i a n (some c),.slice j b m (some d)=>Bool.and (Nat.beq i j) (Bool.and (Nat.beq a b) (Bool.and (Nat.beq n m) (Nat.beq c d)))
 | .Zk,.Zk=>true
 | .map i,.map j=>Nat.beq i j
 | .func f a b,.func g c d=>Bool.and (Nat.beq f g) (Bool.and (JP a c) (JP b d))
 | .ZJ,.ZJ=>true
 | .nilIface,.nilIface=>true
 | .iface t a,.iface u b=>Bool.and (Nat.beq t u) (XL a b)
 | .agg a,.agg b=>JP a b
 | .tuple a,.tuple b=>JP a b
 | .sint j c a b,.sint k d e f=>Bool.and (keq j k) (Bool.and (ieq c d) (Bool.and (ieq a e) (ieq b f)))
 | .raw a,.raw b=>Nj a b
 | .gho a b,.gho c d=>Bool.and (Nat.beq a c) (Nat.beq b d)
 | _,_=>false
def JP:List Zb->List Zb->Bool
 | [],[]=>true
 | x::xs,y::ys=>Bool.and (XL x y) (JP xs ys)
 | _,_=>false
end
inductive Kd where
 | pure | look | make | eff
def Ek (P:Program) (a b:TypeId):Kd :=
 match P.underlying a,P.underlying b with
 | some (.slice _),_ => .look
 | some .string,some (.slice _) => .make
 | some (.int _),some (.int _) => .pure
 | some (.float _),some (.int _) => .pure
 | some (.int _),some (.float _) => .pure
 | some .string,some .string => .pure
 | _,_ => .eff
def F1 (c:Call):Kd:=match c.callee with
 | .builtin .len => .look
 | .builtin .cap => .look
 | .builtin .real => .pure
 | .builtin .imag => .pure
 | .builtin .complex => .pure
 | .builtin .max => .pure
 | .builtin .min => .pure
 | _ => .eff
def WD (P:Program) (o:Op):Kd:=match o with
 | .move _ => .pure
 | .assign _ => .pure
 | .pick _ _ _ => .pure
 | .build _ _ => .pure
 | .nilCheck _ => .pure
 | .binOp _ _ _ _ _ => .pure
 | .unOp _ _ _ => .pure
 | .makeInterface _ _ => .pure
 | .makeFunc _ _ _ => .pure
 | .fieldAddr _ _ _ => .pure
 | .field _ _ _ => .pure
 | .indexAddr _ _ _ => .pure
 | .index _ _ _ => .pure
 | .typeAssert _ _ _ _ => .pure
 | .extract _ _ => .pure
 | .load _ _ => .look
 | .lookup _ _ _ _ => .look
 | .entry _ => .look
 | .slice _ _ _ _ _ => .look
 | .alloc _ => .make
 | .box _ _ => .make
 | .buildSlice _ _ _ => .make
 | .makeMap _ none => .make
 | .makeSlice _ _ _ => .make
 | .convert a b _=>Ek P a b
 | .call c=>F1 c
 | _ => .eff
def Kd.isE (k:Kd):Bool:=match k with
 | .eff=>true
 | _=>false
def Kd.isL (k:Kd):Bool:=match k with
 | .look=>true
 | _=>false
structure DI where
 dst:Option Tmp
 names:List Tmp
 eff:Bool
 look:Bool
 bf:Nat
def NW:List Operand->List Tmp
 | []=>[]
 | .tmp t::l=>t::NW l
 | _::l=>NW l
def Rx (ops:Array Oper) (o:Oper):List Tmp:=match o.guard with
 | none=>[]
 | some (j,_)=>match (ops[j]?).bind (·.dst) with
  | some t=>[t]
  | none=>[]
def ZbY:List Nat->Nat->Nat
 | [],_=>0
 | a::l,n=>match n with
  | 0=>a
  | n+1=>ZbY l n
def Ry (acc:List Nat):List Edge->Nat
 | []=>0
 | e::l=>sel (Region.binds .any e) (Nat.lor (Nat.lor (Nat.pow 2 e.on) (ZbY acc e.on)) (Ry acc l)) (Ry acc l)
def Zw:List Oper->List Nat->List Nat
 | [],acc=>acc
 | o::l,acc=>Zw l (acc++[Ry acc o.after.toList])
def NX (P:Program) (ops:Array Oper) (o:Oper) (bf:Nat):DI :=
 ⟨o.dst,NW o.op.operands.toList++Rx ops o,(WD P o.op).isE,(WD P o.op).isL,bf⟩
def Q0 (P:Program) (ops:Array Oper):List Oper->List Nat->List DI
 | [],_=>[]
 | o::l,bG=>match bG with
  | []=>[]
  | b::bG=>NX P ops o b::Q0 P ops l bG
def inO (o:Option Tmp) (l:List Tmp):Bool:=match o with
 | some t=>WK t l
 | none=>false
def ZeO (a b:Option Tmp):Bool:=match a,b with
 | some x,some y=>Nat.beq x y
 | _,_=>false
def Xw (x y:DI):Bool :=
 sel (inO x.dst y.names) true (sel (inO y.dst x.names) true (sel (ZeO x.dst y.dst) true (Bool.and x.eff y.eff)))
def NY (y:DI):List DI->Nat->Bool
 | [],_=>true
 | x::l,i=>sel (Xw x y) (sel (Nat.testBit y.bf i) (NY y l (i+1)) false) (NY y l (i+1))
def Yx:List DI->List DI->Bool
 | _,[]=>true
 | pre,y::l=>sel (NY y pre 0) (Yx (pre++[y]) l) false
def Rz (i:Nat):List Edge->Bool
 | []=>true
 | e::l=>sel (Region.binds .any e) (sel (Nat.blt e.on i) (Rz i l) false) (Rz i l)
def Tp:List Oper->Nat->Bool
 | [],_=>true
 | o::l,i=>sel (Rz i o.after.toList) (Tp l (i+1)) false
def NZ (bf:Nat):List DI->Nat->Nat
 | [],_=>0
 | x::l,i=>sel (Bool.and x.eff (Nat.testBit bf i)) (NZ bf l (i+1)+1) (NZ bf l (i+1))
def N0 (j:Nat):List DI->Nat
 | []=>0
 | x::l=>sel (Bool.and x.eff (!Nat.testBit x.bf j)) (N0 j l+1) (N0 j l)
inductive ZjS where
 | mk (i:Ins) (eff look:Bool) (lo hi:Nat)
inductive Y1 where
 | nil
 | cons (i:ZjS) (l:Y1)
def Qq (P:Program) (call:Zz) (K:ZI) (ops:Array Oper) (ah:List DI):List Oper->List DI->Nat->Al->Y1
 | [],_,_,_ => .nil
 | o::l,ds,n,al=>match ds with
  | [] => .cons (.mk ZbX false false 0 0) .nil
  | d::ds => .cons (.mk (Y0 P call K ops n al o) d.eff d.look (NZ d.bf ah 0) (N0 n ah)) (Qq P call K ops ah l ds (n+1) (Qi n al o))
mutual
def PZ (n:Nat):Zb->Bool
 | .ptr i _=>Nat.blt i n
 | .slice i _ _ _=>Nat.blt i n
 | .map i=>Nat.blt i n
 | .gho i _=>Nat.blt i n
 | .func _ a b=>Bool.and (V3 n a) (V3 n b)
 | .iface _ v=>PZ n v
 | .agg l=>V3 n l
 | .tuple l=>V3 n l
 | _=>true
def V3 (n:Nat):List Zb->Bool
 | []=>true
 | v::l=>Bool.and (PZ n v) (V3 n l)
end
inductive SH where
 | ok (l:List Zb) (e:Env) (s:St) (ss:List St)
 | bad
def ZaC (go:List Zb->Env->St->List St->SH) (l:List Zb) (e0 e:Env) (s:St) (ss:List St) (i:Ins) (eff:Bool):SH :=
 @Ins.rec (fun _=>SH) (fun r d g=>@Wt.rec (fun _=>SH)
  (@R.rec (fun _=>SH) (fun v s'=>sel (Bool.and (Nat.ble s.next s'.next) (PZ s'.next v)) (go (v::l) (K9 e v d) s' (sel eff (s::ss) ss)) .bad) .bad (r.run l e0 s))
  (go (QH::l) (K9 e QH d) s (sel eff (s::ss) ss)) .bad (wanted l e0 g)) i
def LU (e0:Env) (is:Y1):List Zb->Env->St->List St->SH :=
 @Y1.rec (fun _=>List Zb->Env->St->List St->SH) (fun l e s ss => .ok l e s ss)
  (fun i _ ih l e s ss=>@ZjS.rec (fun _=>SH) (fun i eff _ _ _=>ZaC ih l e0 e s ss i eff) i) is
def xU (v:Zb) (r:R):Bool:=match r with
 | .ok u _=>XL u v
 | .bad=>false
def looksAt (f:St->R) (v:Zb) (lo hi:Nat):List St->Nat->Bool
 | [],_=>true
 | s::ss,m=>sel (Bool.and (Nat.ble lo m) (Nat.ble m hi)) (sel (xU v (f s)) (looksAt f v lo hi ss (m+1)) false) (looksAt f v lo hi ss (m+1))
def ZeQ (l:List Zb) (e0:Env) (v:Zb) (lo hi:Nat) (ss:List St) (i:Ins):Bool :=
 @Ins.rec (fun _=>Bool) (fun r _ g=>@Wt.rec (fun _=>Bool) (looksAt (r.run l e0) v lo hi ss 0) true false (wanted l e0 g)) i
def looks (e0:Env) (ss:List St) (is:Y1):List Zb->List Zb->Bool :=
 @Y1.rec (fun _=>List Zb->List Zb->Bool) (fun _ _=>true)
  (fun i _ ih vs l=>@List.rec Zb (fun _=>Bool) false (fun v vs _ =>
   @ZjS.rec (fun _=>Bool) (fun i _ look lo hi=>sel look (sel (ZeQ l e0 v lo hi ss i) (ih vs (v::l)) false) (ih vs (v::l))) i) vs) is
def N1 (e0:Env) (is:Y1) (r:SH):Res:=match r with
 | .ok l e s ss=>sel (looks e0 ((s::ss).reverse) is l.reverse []) (.ok .normal e s) .bad
 | .bad => .bad
def Mi (is:Y1) (e:Env) (s:St):Res:=N1 e is (LU e is [] e s [])
def Bs (P:Program) (ops:Array Oper) (ah:List DI):Bool:=sel (Tp ops.toList 0) (Yx [] ah) false
def Xs:List Oper->Nat->Al->Nat->Al
 | _,_,al,0=>al
 | [],_,al,_=>al
 | o::rest,n,al,k+1=>Xs rest (n+1) (Qi n al o) k
def ZeR:List DI->Nat->Option Nat->Option Nat
 | [],_,r=>r
 | x::l,i,r=>ZeR l (i+1) (sel x.eff (some i) r)
def LV (y:DI):DI:=⟨y.dst,y.names,false,y.look,y.bf⟩
def Mj (p bf:Nat):List DI->Nat->Bool
 | [],_=>true
 | x::l,i=>sel (sel x.eff (sel (Nat.beq i p) true (Nat.testBit bf i)) true) (Mj p bf l (i+1)) false
def Kd.isP (k:Kd):Bool:=match k with
 | .pure=>true
 | _=>false
def ZaD (P:Program) (p bf:Nat):List Oper->Nat->Bool
 | [],_=>true
 | o::l,i=>sel (sel (Nat.beq i p) true (sel (WD P o.op).isP true (sel (Nat.blt p i) false (Nat.testBit bf i)))) (ZaD P p bf l (i+1)) false
def KD (o:Oper):Option Operand:=match o.op,o.guard with
 | .store _ a _,none=>some a
 | _,_=>none
def isSome {α : Type} (o:Option α):Bool:=match o with
 | some _=>true
 | none=>false
def Bt (P:Program) (ops:Array Oper) (ah:List DI):Option Nat :=
 match ah.getLast?,ZeR ah.dropLast 0 none,ops.toList.getLast? with
 | some y,some p,some o=>sel (Tp ops.toList 0) (sel (Yx [] (ah.dropLast++[LV y])) (sel (Mj p y.bf ah.dropLast 0) (sel (ZaD P p y.bf ops.toList.dropLast 0)
   (sel (isSome (KD o)) (sel (isSome ((ops.toList[p]?).bind KD)) (some p) none) none) none) none) none) none
 | _,_,_=>none
def idV (v:V):Option Nat:=match v with
 | .ok (.ptr i _)=>some i
 | _=>none
def LW (ops:Array Oper) (e0:Env) (vs:List Zb) (j:Nat):Option Nat :=
 match (ops.toList[j]?).bind KD with
 | some a=>idV (Zl (vs.take j).reverse e0 (Jy j (Xs ops.toList 0 .nil j) a))
 | none=>none
def F2 (a b:Option Nat):Bool:=match a,b with
 | some i,some j=>sel (Nat.beq i j) false true
 | _,_=>false
def runT (ops:Array Oper) (p:Nat) (e0:Env) (is:Y1) (r:SH):Res:=match r with
 | .ok l e s ss=>sel (F2 (LW ops e0 l.reverse p) (LW ops e0 l.reverse (l.length-1))) (N1 e0 is (.ok l e s ss)) .bad
 | .bad => .bad
def IB (ops:Array Oper) (p:Nat) (is:Y1) (e:Env) (s:St):Res:=runT ops p e is (LU e is [] e s [])
def Zlv (P:Program) (call:Zz) (K:ZI) (ops:Array Oper) (ah:List DI) (o:Option Nat):ZeN:=match o with
 | some p=>⟨IB ops p (Qq P call K ops ah ops.toList ah 0 .nil)⟩
 | none=>⟨fun _ _ => .bad⟩
def ZbZ (P:Program) (call:Zz) (K:ZI) (ops:Array Oper) (ah:List DI):ZeN :=
 sel (Bs P ops ah) ⟨Mi (Qq P call K ops ah ops.toList ah 0 .nil)⟩ (Zlv P call K ops ah (Bt P ops ah))
inductive CC where
 | skip | ret | bad
 | exit (i:Nat) | goto (l:Nat)
 | region (l:G3)
 | ZaF (g:ZeN)
 | seq (a b:CC)
 | cond (x:Qh) (a b:CC)
 | block (i:Nat) (b:CC)
 | loop (b:CC)
 | scope (b:CC) (l:Code)
abbrev Kp:=Nat->Option ZeN
def ZhO (P:Program) (call:Zz) (K:ZI) (ops:Array Oper) (d:Bool) (g:Option ZeN):CC:=match g with
 | some g => .ZaF g
 | none=>sel d (.ZaF (ZbZ P call K ops (Q0 P ops ops.toList (Zw ops.toList [])))) (.region (JO P call K ops ops.toList 0 .nil))
def cc (P:Program) (call:Zz) (K:ZI) (kn:Kp):Code->CC
 | .skip => .skip
 | .label _ => .skip
 | .ret => .ret
 | .exit i => .exit i
 | .goto l => .goto l
 | .region id ops d=>ZhO P call K ops d (kn id)
 | .seq a b => .seq (cc P call K kn a) (cc P call K kn b)
 | .cond x a b => .cond (Jy 0 .nil x) (cc P call K kn a) (cc P call K kn b)
 | .block i b => .block i (cc P call K kn b)
 | .loop b => .loop (cc P call K kn b)
 | .scope b => .scope (cc P call K kn b) b
 | _ => .bad
def Bu (k:Env->St->Res) (r:Res):Res :=
 @Res.rec (fun _=>Res) (fun x e s=>@Ex.rec (fun _=>Res) (k e s) (fun i => .ok (.exit i) e s) (fun l => .ok (.goto l) e s) (.ok .ret e s) x) .bad r
def RT (i:Nat) (r:Res):Res :=
 @Res.rec (fun _=>Res) (fun x e s=>@Ex.rec (fun _=>Res) (.ok .normal e s) (fun j=>sel (Nat.beq i j) (.ok .normal e s) (.ok (.exit j) e s)) (fun l => .ok (.goto l) e s) (.ok .ret e s) x) .bad r
def ZhP (a b:Env->St->Res) (e:Env) (s:St) (t:Option Bool):Res :=
 @Option.rec Bool (fun _=>Res) .bad (fun t=>@Bool.rec (fun _=>Res) (b e s) (a e s) t) t
def ZeS (a b:Env->St->Res) (e:Env) (s:St) (v:V):Res :=
 @V.rec (fun _=>Res) (fun v=>ZhP a b e s (KT v)) .bad v
def ZeT (f:Env->St->Res) (n:Nat):Env->St->Res :=
 @Nat.rec (fun _=>Env->St->Res) (fun _ _ => .bad) (fun _ ih e s=>Bu ih (f e s)) n
def ZeU (ex:CC->Env->St->Res) (again:Res->Res) (l:Nat) (e:Env) (s:St) (c:Option CC):Res:=match c with
 | some c=>again (ex c e s)
 | none => .ok (.goto l) e s
def ZaG (ex:CC->Env->St->Res) (rest:Nat->Option CC) (again:Res->Res) (r:Res):Res:=match r with
 | .ok (.goto l) e s=>ZeU ex again l e s (rest l)
 | r=>r
def F3 (ex:CC->Env->St->Res) (rest:Nat->Option CC) (n:Nat):Res->Res :=
 @Nat.rec (fun _=>Res->Res) (fun _ => .bad) (fun _ ih r=>ZaG ex rest ih r) n
def El (P:Program) (call:Zz) (K:ZI) (kn:Kp) (b:Code) (l:Nat):Option CC:=match findLabel b l with
 | some c=>some (cc P call K kn c)
 | none=>none
def Zlw (sc:Code->Res->Res) (fuel:Nat) (c:CC):Env->St->Res :=
 @CC.rec (fun _=>Env->St->Res)
  (fun e s => .ok .normal e s) (fun e s => .ok .ret e s) (fun _ _ => .bad)
  (fun i e s => .ok (.exit i) e s) (fun l e s => .ok (.goto l) e s)
  (fun l=>Ej l)
  (fun g=>g.run)
  (fun _ _ fa fb e s=>Bu fb (fa e s))
  (fun x _ _ fa fb e s=>ZeS fa fb e s (Zl [] e x))
  (fun i _ fb e s=>RT i (fb e s))
  (fun _ fb=>ZeT fb fuel)
  (fun _ b fb e s=>sc b (fb e s)) c
def Gt (P:Program) (call:Zz) (K:ZI) (kn:Kp) (fuel:Nat) (n:Nat):CC->Env->St->Res :=
 @Nat.rec (fun _=>CC->Env->St->Res) (fun _ _ _ => .bad)
  (fun _ ih c=>Zlw (fun b r=>F3 ih (El P call K kn b) fuel r) fuel c) n
def Wb (K:ZI):Nat->Env->List Zb->Env
 | _,e,[]=>e
 | i,e,v::l=>Wb K (i+1) (sel (K.Zf i) (e.set i (some v)) e) l
inductive RV where
 | tmp (p:List Bool)
 | cell (p:List Bool) (t:Pt)
def ZgJ (P:Program) (r:ResultVar):RV:=match r with
 | .tmp t => .tmp (bits t)
 | .cell a t => .cell (bits a) (JT P t)
def XN (P:Program):List ResultVar->List RV
 | []=>[]
 | r::l=>ZgJ P r::XN P l
def ZeV (s:St) (t:Pt) (o:Option Zb):V:=match o with
 | some v=>Ga s t v
 | none => .bad
def F4 (e:Env) (s:St) (r:RV):V:=match r with
 | .tmp p=>V.ofO (Tr.PV p e)
 | .cell p t=>ZeV s t (Tr.PV p e)
def W5 (e:Env) (s:St):List RV->Option (List Zb)
 | []=>some []
 | r::l=>Zaa (F4 e s r) (W5 e s l)
def ZgK (o:Option (List Zb)):V:=match o with
 | some [v] => .ok v
 | some vs => .ok (.tuple vs)
 | none => .bad
def TK (l:List RV) (r:Res):R:=match r with
 | .ok .normal e s=>V.ret s (ZgK (W5 e s l))
 | .ok .ret e s=>V.ret s (ZgK (W5 e s l))
 | _ => .bad
inductive FC where
 | mk (c:CC) (l:List RV) (K:ZI)
 | bad
def fcB (P:Program) (call:Zz) (Zf:TJ) (kn:Kp) (fn:Func) (b:Option Code):FC:=match b with
 | some b => .mk (cc P call ⟨fn.ntmps,Zf⟩ kn b) (XN P fn.results.toList) ⟨fn.ntmps,Zf⟩
 | none => .bad
def Zfw (P:Program) (call:Zz) (Zf:TJ) (kn:Kp) (fn:Option Func):FC:=match fn with
 | some fn=>fcB P call Zf kn fn fn.body
 | none => .bad
structure Orc where
 run:List Zb->St->R
structure YG where
 fn:FuncId->Option Func
 Zf:FuncId->TJ
 reg:FuncId->Kp
 orc:FuncId->Option Orc
def RX (P:Program) (call:Zz) (kn:Kp) (fuel:Nat) (args:List Zb) (s:St) (f:FC):R:=match f with
 | .mk c l K=>TK l (Gt P call K kn fuel fuel c (Wb K 0 .lf args) s)
 | .bad => .bad
def MX (P:Program) (B:YG) (call:Zz) (fuel:Nat) (f:FuncId) (args:List Zb) (s:St) (o:Option Orc):R :=
 @Option.rec Orc (fun _=>R) (RX P call (B.reg f) fuel args s (Zfw P call (B.Zf f) (B.reg f) (B.fn f))) (fun g=>g.run args s) o
end
end Ev
namespace Ev
open Go
variable [Sig] {P:Program}
def Cx (r:Rho) (l:List Zb) (e:Env) (co:Cod) (a:Act) (o:Op):Prop:=∀ x∈o.operands,∀ v,Zl l e (co x) = .ok v->VR r v (a.eval x)
def Yes (P:Program) (r:Rho) (w:World) (x:Sem Next) (v:Zb):Prop:=∃ u,x.run P w = .ok (.value u) w/\VR r v u
def Bv (P:Program) (r:Rho) (w:World) (x:Sem Next) (mk:Nat->Zb) (b:Zd):Prop :=
 ∃ w' u y o,x.run P w = .ok (.value u) w'/\(y.blk=w.heap.size/\y.gho=none)/\w'.heap[y.blk]? = some o/\(∀ k,k<w.heap.size->w'.heap[k]? = w.heap[k]?)/\w.heap.size<=w'.heap.size /\
  w'.os=w.os/\w'.tape=w.tape/\w'.output=w.output/\∀ i,r i=none->BR (r.at i y) b y o/\VR (r.at i y) (mk i) u
def G5 (P:Program) (o:Oper) (a:Act) (r:Rho) (s:St) (w:World) (v:Zb) (s':St):Prop :=
 ∀ (K:Act->World->Prop) (Q:Exit->Act->World->Prop),(∀ q u w',Ext r s w q s' w'->VR q v u->K (a.put o.dst u) w')->o.wp P a w K Q
def PA (P:Program) (o:Oper) (co:Cod) (l:List Zb) (e:Env) (s:St) (v:Zb) (s':St):Kd->Prop
 | .pure=>s'=s/\∀ r w a,Cx r l e co a o.op->Yes P r w (execOp a.eval o) v
 | .look=>s'=s/\∀ r w a,RelB r s w->Cx r l e co a o.op->Yes P r w (execOp a.eval o) v
 | .make=>∃ mk b,v=mk s.next/\s'=s.new b/\∀ r w a,Cx r l e co a o.op->Bv P r w (execOp a.eval o) mk b
 | .eff=>∀ r w a,Rel r s w->Cx r l e co a o.op->G5 P o a r s w v s'
theorem Yes.ok {o:Oper} {a:Act} {r:Rho} {s:St} {w:World} {v:Zb} (h:Rel r s w) (hy:Yes P r w (execOp a.eval o) v):G5 P o a r s w v s:=by
 obtain ⟨u,h1,h2⟩:=hy;intro K Q hK;unfold Oper.wp;rw [h1];exact hK r u w (Ext.refl h) h2
theorem Bv.ok {o:Oper} {a:Act} {r:Rho} {s:St} {w:World} {mk:Nat->Zb} {b:Zd} (h:Rel r s w) (hm:Bv P r w (execOp a.eval o) mk b):G5 P o a r s w (mk s.next) (s.new b):=by
 obtain ⟨w',u,y,o',h1,h2,h3,h4,h5,h6,h7,h8,h9⟩:=hm;obtain ⟨h10,h11⟩:=h9 s.next (h.Z7 (Nat.le_refl _));intro K Q hK;unfold Oper.wp;rw [h1];exact hK _ u w' (Ext.new h h2.1 h3 h10 h4 h5 h6 h7 h8 h2.2) h11
theorem PA.ok {o:Oper} {co:Cod} {l:List Zb} {e:Env} {s s':St} {v:Zb} {k:Kd} (h:PA P o co l e s v s' k) {r:Rho} {w:World} {a:Act} (hr:Rel r s w) (hc:Cx r l e co a o.op) :
  G5 P o a r s w v s':=by
 cases k with
 | pure=>obtain ⟨rfl,h1⟩:=h; exact (h1 r w a hc).ok hr
 | look=>obtain ⟨rfl,h1⟩:=h; exact (h1 r w a hr.toRelB hc).ok hr
 | make=>obtain ⟨mk,b,rfl,rfl,h1⟩:=h; exact (h1 r w a hc).ok hr
 | eff=>exact h r w a hr hc
theorem ZW.yes {r:Rho} {w:World} {x:Sem Value} {v:Zb} (h:ZW P r w x v):Yes P r w (do pure (.value (← x))) v:=by
 obtain ⟨u,h1,h2⟩:=h;exact ⟨u,by simp only [Sem.run_bind,h1,Result.andThen_ok,Sem.run_pure],h2⟩
theorem Make.next {r:Rho} {w:World} {x:Sem Value} {mk:Nat->Zb} {b:Zd} (h:Make P r w x mk b):Bv P r w (do pure (.value (← x))) mk b:=by
 obtain ⟨w',u,y,o,h1,h2⟩:=h;exact ⟨w',u,y,o,by simp only [Sem.run_bind,h1,Result.andThen_ok,Sem.run_pure],h2⟩
theorem YF.op {o:Oper} {a:Act} {r:Rho} {s s':St} {w:World} {x:Sem Value} {v:Zb} (h:YF P r s w x v s') (he:execOp a.eval o=(do pure (.value (← x)))):G5 P o a r s w v s':=by
 obtain ⟨q,w',u,h1,h2,h3⟩:=h;intro K Q hK;unfold Oper.wp;rw [he];simp only [Sem.run_bind,h1,Result.andThen_ok,Sem.run_pure];exact hK q u w' h3 h2
theorem Bk.op {o:Oper} {a:Act} {r:Rho} {s s':St} {w:World} {x:Sem Unit} (h:Bk P r s w x s') (he:execOp a.eval o=(do x; pure .skip)):G5 P o a r s w QH s':=by
 obtain ⟨q,w',h1,h3⟩:=h;intro K Q hK;unfold Oper.wp;rw [he];simp only [Sem.run_bind,h1,Result.andThen_ok,Sem.run_pure];exact hK q undef w' h3 (.tuple .nil)
theorem Kf {r:Rho} {l:List Zb} {e:Env} {co:Cod} {a:Act}:∀ (xs:List Operand) {vs:List Zb},(∀ x∈xs,∀ v,Zl l e (co x) = .ok v->VR r v (a.eval x)) ->
  VK l e (Wx co xs)=some vs->VRs r vs (xs.map a.eval)
 | [],vs,_,h=>by cases h; exact .nil
 | x::xs,vs,hx,h=>by
  have h:Zaa (Zl l e (co x)) (VK l e (Wx co xs))=some vs:=h;cases h1:Zl l e (co x) with
  | bad=>rw [h1] at h; cases h
  | ok v =>
   rw [h1] at h;cases h2:VK l e (Wx co xs) with
   | none=>rw [h2] at h; cases h
   | some us =>
    rw [h2] at h;cases h;exact .cons (hx x (List.mem_cons_self ..) v h1) (Kf xs (fun y hy=>hx y (List.mem_cons_of_mem _ hy)) h2)
theorem N2 {r:Rho} {l:List Zb} {e:Env} {co:Cod} {a:Act} {pl:Nat->Pt} {place:Nat->Option (Nat×Nat)} (hp:∀ i o n g,pl i = .mk o n g->place i=some (o,n)) :
  ∀ (ps:List (Nat×Operand)),(∀ p∈ps,∀ v,Zl l e (co p.2) = .ok v->VR r v (a.eval p.2))->FR2 r l e place (Ys co pl ps) (ps.map fun p=>(p.1,a.eval p.2))
 | [],_ => .nil
 | (i,x)::ps,hx => .cons (fun v hv=>hx (i,x) (List.mem_cons_self ..) v hv) (fun o n g h=>hp i o n g h) (N2 hp ps fun p hp'=>hx p (List.mem_cons_of_mem _ hp'))
theorem N3 {r:Rho} {l:List Zb} {e:Env} {co:Cod} {a:Act} {x:Option Operand} (hx:∀ y,x=some y->∀ v,Zl l e (co y) = .ok v->VR r v (a.eval y)):NR (Zag l e (x.map co)) (x.map a.eval):=by
 cases x with
 | none=>rfl
 | some y =>
  show NR (onV (Zl l e (co y))) (some (a.eval y));cases h:onV (Zl l e (co y)) with
  | none =>
   cases h1:Zl l e (co y) with
   | bad=>rw [h1] at h; cases h
   | ok v =>
    rw [h1] at h;have h:onO (asNat v) = .none:=h;unfold onO at h;split at h <;> cases h
  | bad=>trivial
  | some n =>
   obtain ⟨v,h1,h2⟩:=ZeD h;obtain ⟨k,h3⟩:=Xp h2 (hx y rfl v h1);exact ⟨k,by rw [h3]⟩
end Ev
namespace Ev
open Go
variable [Sig] {P:Program}
theorem SI {f:Un} {x:Qh} {l:List Zb} {e:Env} {s s':St} {v:Zb} (h:YX f x l e s = .ok v s'):∃ u,Zl l e x = .ok u/\f.run s u = .ok v s':=then_ok h
theorem Gu {f:Bi} {x y:Qh} {l:List Zb} {e:Env} {s s':St} {v:Zb} (h:U3 f x y l e s = .ok v s'):∃ a b,Zl l e x = .ok a/\Zl l e y = .ok b/\f.run s a b = .ok v s':=by
 obtain ⟨a,h1,h2⟩:=then_ok h;obtain ⟨b,h3,h4⟩:=then_ok h2;exact ⟨a,b,h1,h3,h4⟩
theorem toInt_st {k:IntKind} {s s':St} {x v:Zb} (h:toInt P k s x = .ok v s'):s'=s:=by
 unfold toInt at h;split at h
 ·cases h; rfl
 ·exact (Z5 h).2
 ·exact (Z5 h).2
 ·cases h
theorem toFlt_st {k:FloatKind} {s s':St} {x v:Zb} (h:toFlt k s x = .ok v s'):s'=s:=by
 unfold toFlt at h;split at h
 ·cases h; rfl
 ·cases h
theorem toStr_st {s s':St} {x v:Zb} (h:toStr s x = .ok v s'):s'=s:=by
 unfold toStr at h;split at h
 ·cases h; rfl
 ·cases h
theorem PB {s s':St} {x v:Zb} (h:XP s x = .ok v s'):s'=s:=by
 unfold XP at h;split at h
 ·cases h; rfl
 ·unfold UY at h;split at h
  ·obtain ⟨_,_,_,h3⟩:=Gg h;exact h3
  ·cases h
 ·cases h
theorem ZgL {t u:TypeId} {x:Operand} {co:Cod} {l:List Zb} {e:Env} {s s':St} {v:Zb} (dst:Option Tmp) (ty:TypeId) (pos:String) (af:Array Edge) (gd:Option (Nat×Bool))
  (h:YX (UZ P t u) (co x) l e s = .ok v s'):PA P ⟨dst,.convert t u x,ty,pos,af,gd⟩ co l e s v s' (Ek P t u):=by
 obtain ⟨a,h1,h2⟩:=SI h;have hm:x∈(Op.convert t u x).operands:=by simp [Op.operands]
 unfold UZ at h2;unfold Ek;cases ht:P.underlying t with
 | none=>rw [ht] at h2; cases hu:P.underlying u <;> rw [hu] at h2 <;> cases h2
 | some d =>
  cases hu:P.underlying u with
  | none=>rw [ht,hu] at h2; cases d <;> cases h2
  | some d' =>
   rw [ht,hu] at h2;cases d <;> cases d' <;> try (cases h2; done)
   case some.some.int.int k k' =>
    have h2:toInt P k' s a = .ok v s':=h2;exact ⟨toInt_st h2,fun r w b hc=>(toInt_ok h2 (hc x hm a h1) ht hu).2.yes⟩
   case some.some.int.float k k' =>
    have h2:toFlt k' s a = .ok v s':=h2;exact ⟨toFlt_st h2,fun r w b hc=>(toFlt_ok h2 (hc x hm a h1) ht hu).2.yes⟩
   case some.some.float.int k k' =>
    have h2:toInt P k' s a = .ok v s':=h2;exact ⟨toInt_st h2,fun r w b hc=>(toInt_ok h2 (hc x hm a h1) ht hu).2.yes⟩
   case some.some.string.string =>
    have h2:toStr s a = .ok v s':=h2;exact ⟨toStr_st h2,fun r w b hc=>(toStr_ok h2 (hc x hm a h1) ht hu).2.yes⟩
   case some.some.string.slice el =>
    have h2:(sel (LI P el) ⟨Rj⟩ FJ).run s a = .ok v s':=h2;cases hi:LI P el
    ·rw [hi] at h2; cases h2
    ·rw [hi] at h2;obtain ⟨mk,b,h3,h4,h5⟩:=LR h2 ht hu hi;exact ⟨mk,b,h3,h4,fun r w b hc=>(h5 r w _ (hc x hm a h1)).next⟩
   case some.some.slice.string el =>
    have h2:(sel (LI P el) ⟨XP⟩ FJ).run s a = .ok v s':=h2;cases hi:LI P el
    ·rw [hi] at h2; cases h2
    ·rw [hi] at h2
     exact ⟨PB h2,fun r w b hr hc=>by
      have h3:=PB h2;subst h3
      exact (LQ hr h2 (hc x hm a h1) ht hu hi).2.yes⟩
theorem Em {t:TypeId} {s s':St} {x v:Zb} (h:(Rk P t).run s x = .ok v s'):s'=s:=by
 unfold Rk at h;split at h
 ·cases h
 ·cases h; rfl
 ·cases h
theorem Bw {t:TypeId} {ok:Bool} {s s':St} {x v:Zb} (h:(VO P t ok).run s x = .ok v s'):s'=s:=by
 unfold VO at h;split at h
 ·cases h
 ·have h:Rl t ok s x = .ok v s':=h;unfold Rl at h;split at h
  ·obtain ⟨_,h⟩:=Zt h;cases h; rfl
  ·cases h
 ·cases h
theorem ZgM {r:Rho} {w:World} {x:Zb} {u:Value} (h:Zju x=true) (hx:VR r x u) (o:Oper) (a:Act) (y:Operand) (ho:o.op = .nilCheck y) (hy:a.eval y=u):(execOp a.eval o).run P w = .ok (.value u) w:=by
 unfold Zju at h;split at h
 ·cases hx; simp [execOp,ho,hy]
 ·cases hx; simp [execOp,ho,hy]
 ·cases hx; simp [execOp,ho,hy]
 ·cases h
theorem ZgN {co:Cod} {call:Zz} {o:Oper} {l:List Zb} {e:Env} {s s':St} {v:Zb} (hcall:∀ c,o.op ≠ .call c) (h:(comp co P call o.op).run l e s = .ok v s') :
  PA P o co l e s v s' (WD P o.op):=by
 obtain ⟨dst,op,ty,pos,af,gd⟩:=o;cases op with
 | move x =>
  obtain ⟨h1,h2⟩:=Z5 h;exact ⟨h2,fun r w a hc=>⟨a.eval x,rfl,hc x (by simp [Op.operands]) v h1⟩⟩
 | assign x =>
  obtain ⟨h1,h2⟩:=Z5 h;exact ⟨h2,fun r w a hc=>⟨a.eval x,rfl,hc x (by simp [Op.operands]) v h1⟩⟩
 | pick c x y =>
  obtain ⟨b,h1,h2⟩:=then_ok h;unfold Zhv KT at h2;split at h2
  ·rename_i b;cases b
   ·obtain ⟨h3,h4⟩:=Z5 h2;refine ⟨h4,fun r w a hc=>⟨a.eval y,?_,hc y (by simp [Op.operands]) v h3⟩⟩;have h5:=hc c (by simp [Op.operands]) _ h1
    generalize hg:a.eval c=g at h5
    cases h5;simp [execOp,hg,asBool]
   ·obtain ⟨h3,h4⟩:=Z5 h2;refine ⟨h4,fun r w a hc=>⟨a.eval x,?_,hc x (by simp [Op.operands]) v h3⟩⟩;have h5:=hc c (by simp [Op.operands]) _ h1
    generalize hg:a.eval c=g at h5
    cases h5;simp [execOp,hg,asBool]
  ·cases h2
 | alloc t =>
  have h:Ma (KR P t) l e s = .ok v s':=h;unfold Ma at h;split at h
  ·rename_i z hz;cases h;exact ⟨fun i => .ptr i 0,_,rfl,rfl,fun r w a hc=>(ZeH hz _).next⟩
  ·cases h
 | box t x =>
  obtain ⟨u,h1,h2⟩:=then_ok h;cases h2;exact ⟨fun i => .ptr i 0,_,rfl,rfl,fun r w a hc=>(ZjP (hc x (by simp [Op.operands]) u h1)).next⟩
 | build t ps =>
  have h:FG (Ny P t) (Ys co (Wf P t) ps.toList) l e s = .ok v s':=h;unfold FG at h;split at h
  ·rename_i z hz;unfold Ic at h;split at h
   ·rename_i cs hf;cases h;refine ⟨rfl,fun r w a hc=>(ZeI (P:=P) (l:=l) (e:=e) hz (fun place hp => ?_) hf).yes⟩;rw [Array.toList_map];exact N2 hp ps.toList fun p hp' v hv=>hc p.2 (by simp only [Op.operands,List.mem_toArray,List.mem_map]; exact ⟨p,hp',rfl⟩) v hv
   ·cases h
  ·cases h
 | buildSlice t n ps =>
  have h:WZ (Xi P t) (JF P t) n (Ys co (Iq (JF P t)) ps.toList) l e s = .ok v s':=h;unfold WZ at h;split at h
  ·rename_i z e0 sz g hz hel;obtain ⟨h1,h⟩:=VX h;obtain ⟨h2,h⟩:=Zt h;unfold CV at h;split at h
   ·rename_i cs hf;cases h;refine ⟨fun i => .slice i 0 n none,_,rfl,rfl,fun r w a hc=>(LP (P:=P) (l:=l) (e:=e) hz hel (JC h1) (Qj h2) (fun place hp => ?_) hf).next⟩;rw [Array.toList_map];refine N2 (fun i o n g hi => ?_) ps.toList fun p hp' v hv=>hc p.2 (by simp only [Op.operands,List.mem_toArray,List.mem_map]; exact ⟨p,hp',rfl⟩) v hv;rw [hel] at hi;cases hi;exact hp i
   ·cases h
  ·cases h
 | load t x =>
  obtain ⟨u,h1,h2⟩:=then_ok h;obtain ⟨h3,h4⟩:=Z5 h2;subst h4;exact ⟨rfl,fun r w a hr hc=>(Bf hr h3 (hc x (by simp [Op.operands]) u h1)).yes⟩
 | store t x y =>
  obtain ⟨u,h1,h2⟩:=then_ok h;obtain ⟨p,h3,h4⟩:=then_ok h2;intro r w a hr hc;obtain ⟨rfl,h5⟩:=ZbR hr h4 (hc y (by simp [Op.operands]) u h1) (hc x (by simp [Op.operands]) p h3);exact h5.op rfl
 | nilCheck x =>
  obtain ⟨u,h1,h2⟩:=then_ok h;obtain ⟨h3,h4⟩:=Zt h2;cases h4;exact ⟨rfl,fun r w a hc=>⟨a.eval x,ZgM h3 (hc x (by simp [Op.operands]) _ h1) _ a x rfl rfl,hc x (by simp [Op.operands]) _ h1⟩⟩
 | binOp op t x y t' =>
  obtain ⟨u,h1,h2⟩:=then_ok h;obtain ⟨p,h3,h4⟩:=then_ok h2;obtain ⟨h5,h6⟩:=Z5 h4;exact ⟨h6,fun r w a hc=>(ZjJ h5 (hc x (by simp [Op.operands]) u h1) (hc y (by simp [Op.operands]) p h3) x y).yes⟩
 | unOp op t x =>
  obtain ⟨u,h1,h2⟩:=then_ok h;obtain ⟨h5,h6⟩:=Z5 h2;exact ⟨h6,fun r w a hc=>(Zlu h5 (hc x (by simp [Op.operands]) u h1)).yes⟩
 | convert t u x=>exact ZgL dst ty pos af gd h
 | makeInterface t x =>
  obtain ⟨u,h1,h2⟩:=then_ok h;exact ⟨Em h2,fun r w a hc=>(Eh h2 (hc x (by simp [Op.operands]) u h1)).2.yes⟩
 | makeMap t n =>
  cases n with
  | some x=>cases h
  | none =>
   cases h;exact ⟨fun i => .map i,_,rfl,rfl,fun r w a hc=>Ec.next⟩
 | makeFunc fn fi ca =>
  cases fn with
  | func f =>
   have h:U0 f (Wx co fi.toList) (Wx co ca.toList) l e s = .ok v s':=h;unfold U0 at h;split at h
   ·rename_i vs us h1 h2;cases h;refine ⟨rfl,fun r w a hc => ?_⟩;have h3:=Kf (a:=a) fi.toList (fun x hx=>hc x (by simp only [Op.operands,Array.mem_append]; exact .inl (by simpa using hx))) h1;have h4:=Kf (a:=a) ca.toList (fun x hx=>hc x (by simp only [Op.operands,Array.mem_append]; exact .inr (by simpa using hx))) h2;refine ⟨.func (.func f) (fi.map a.eval) (ca.map a.eval),rfl,?_⟩;have h5:=VR.func f h3 h4;rw [<- Array.toList_map,<- Array.toList_map] at h5;exact h5
   ·cases h
  | _=>cases h
 | makeSlice t n c =>
  obtain ⟨u,h1,h2⟩:=then_ok h;obtain ⟨p,h3,h4⟩:=then_ok h2;unfold Zaf at h4;split at h4
  ·rename_i z e0 sz g n' c' hz hel hn hc';obtain ⟨h5,h4⟩:=VX h4;obtain ⟨h6,h4⟩:=Zt h4;unfold Zeh at h4;obtain ⟨h7,h4⟩:=Zt h4;obtain ⟨h8,h4⟩:=Zt h4;cases h4;refine ⟨fun i => .slice i 0 n' (some c'),_,rfl,rfl,fun r w a hc => ?_⟩;obtain ⟨k,h9⟩:=Xp hn (hc n (by simp [Op.operands]) u h1);obtain ⟨k',h10⟩:=Xp hc' (hc c (by simp [Op.operands]) p h3);have h11:=ZbQ (P:=P) (r:=r) (w:=w) (k:=k) (k':=k') h6 hz hel (JC h5) (Qj h7) (Qj h8);have h12:=h11.next;show Bv P r w (do pure (.value (← Instr.makeSlice t (a.eval n) (a.eval c)))) _ _;rw [h9,h10];exact h12
  ·cases h4
 | slice t x lo hi mx =>
  obtain ⟨u,h1,h2⟩:=then_ok h;obtain ⟨h3,h4⟩:=Z5 h2;subst h4;obtain ⟨g1,h3⟩:=ZQ h3;obtain ⟨g2,h3⟩:=ZQ h3;obtain ⟨g3,h3⟩:=ZQ h3;refine ⟨rfl,fun r w a hr hc=>(ZbN hr g1 g2 g3 (N3 (x:=lo) fun y hy=>hc y ?_) (N3 (x:=hi) fun y hy=>hc y ?_) (N3 (x:=mx) fun y hy=>hc y ?_) h3 (hc x ?_ u h1)).yes⟩
  ·subst hy; simp [Op.operands]
  ·subst hy; simp [Op.operands]
  ·subst hy; simp [Op.operands]
  ·simp [Op.operands]
 | fieldAddr t x f =>
  obtain ⟨u,h1,h2⟩:=then_ok h;obtain ⟨h3,h4⟩:=Z5 h2;exact ⟨h4,fun r w a hc=>(Ea h3 (hc x (by simp [Op.operands]) u h1)).yes⟩
 | field t x f =>
  obtain ⟨u,h1,h2⟩:=then_ok h;obtain ⟨h3,h4⟩:=Z5 h2;exact ⟨h4,fun r w a hc=>(U9 h3 (hc x (by simp [Op.operands]) u h1)).yes⟩
 | indexAddr t x i =>
  obtain ⟨u,h1,h2⟩:=then_ok h;obtain ⟨p,h5,h6⟩:=then_ok h2;obtain ⟨h3,h4⟩:=Z5 h6;exact ⟨h4,fun r w a hc=>(ZbK h3 (hc x (by simp [Op.operands]) p h5) (hc i (by simp [Op.operands]) u h1)).yes⟩
 | index t x i =>
  obtain ⟨u,h1,h2⟩:=then_ok h;obtain ⟨p,h5,h6⟩:=then_ok h2;obtain ⟨h3,h4⟩:=Z5 h6;exact ⟨h4,fun r w a hc=>(Zez h3 (hc x (by simp [Op.operands]) p h5) (hc i (by simp [Op.operands]) u h1)).yes⟩
 | lookup t m k ok =>
  obtain ⟨u,h1,h2⟩:=then_ok h;obtain ⟨p,h5,h6⟩:=then_ok h2;obtain ⟨h3,h4⟩:=Z5 h6;subst h4;exact ⟨rfl,fun r w a hr hc=>(ZeF hr h3 (hc k (by simp [Op.operands]) u h1) (hc m (by simp [Op.operands]) p h5)).yes⟩
 | mapUpdate t m k x =>
  obtain ⟨u,h1,h2⟩:=then_ok h;obtain ⟨p,h3,h4⟩:=then_ok h2;obtain ⟨q,h5,h6⟩:=then_ok h4;intro r w a hr hc;obtain ⟨rfl,h7⟩:=ZgE hr h6 (hc k (by simp [Op.operands]) u h1) (hc x (by simp [Op.operands]) p h3) (hc m (by simp [Op.operands]) q h5);exact h7.op rfl
 | mapEntry t m k =>
  obtain ⟨u,h1,h2⟩:=then_ok h;obtain ⟨p,h3,h4⟩:=then_ok h2;intro r w a hr hc;exact (ZbO hr h4 (hc k (by simp [Op.operands]) u h1) (hc m (by simp [Op.operands]) p h3)).op rfl
 | entryStore t m st x =>
  obtain ⟨u,h1,h2⟩:=then_ok h;obtain ⟨p,h3,h4⟩:=then_ok h2;obtain ⟨q,h5,h6⟩:=then_ok h4;intro r w a hr hc;obtain ⟨rfl,h7⟩:=ZbP (t:=t) hr h6 (hc st (by simp [Op.operands]) u h1) (hc x (by simp [Op.operands]) p h3) (hc m (by simp [Op.operands]) q h5);exact h7.op rfl
 | range t x =>
  obtain ⟨u,h1,h2⟩:=then_ok h;obtain ⟨h3,h4⟩:=Zt h2;intro r w a hr hc;exact (ZbV h3 hr h4 (hc x (by simp [Op.operands]) u h1)).op rfl
 | next it b =>
  cases b with
  | true=>cases h
  | false =>
   obtain ⟨u,h1,h2⟩:=then_ok h;intro r w a hr hc;exact (ZeG hr h2 (hc it (by simp [Op.operands]) u h1)).op rfl
 | entry it =>
  obtain ⟨u,h1,h2⟩:=then_ok h;obtain ⟨h3,h4⟩:=Z5 h2;subst h4;exact ⟨rfl,fun r w a hr hc=>(ZgI hr h3 (hc it (by simp [Op.operands]) u h1)).yes⟩
 | typeAssert x t u ok =>
  obtain ⟨p,h1,h2⟩:=then_ok h;exact ⟨Bw h2,fun r w a hc=>(Br h2 (hc x (by simp [Op.operands]) p h1)).2.yes⟩
 | extract x i =>
  obtain ⟨u,h1,h2⟩:=then_ok h;obtain ⟨h3,h4⟩:=Z5 h2;exact ⟨h4,fun r w a hc=>(ZeA h3 (hc x (by simp [Op.operands]) u h1)).yes⟩
 | call c=>exact absurd rfl (hcall c)
 | _=>cases h
end Ev
namespace Ev
open Go
variable [Sig] {P:Program}
def XX (P:Program) (f:FuncId) (us:Array Value) (w:World) (R:Value->World->Prop):Prop :=
 (∃ u w',(callFunc f us).run P w = .ok (.value u) w'/\R u w')\/((callFunc f us).run P w = .ok (.enter f us) w/\Calls P f us w (fun e w'=>∃ u,e = .returned u/\R u w'))
def Z3 (P:Program) (call:Zz):Prop :=
 ∀ (f:FuncId) (args:List Zb) (s:St) (v:Zb) (s':St),call f args s = .ok v s'->∀ (r:Rho) (w:World) (us:List Value),Rel r s w->VRs r args us ->
  XX P f ⟨us⟩ w fun u w'=>∃ q,Ext r s w q s' w'/\VR q v u
theorem XX.op {o:Oper} {a:Act} {r:Rho} {s s':St} {w:World} {v:Zb} {f:FuncId} {us:Array Value} (h:XX P f us w fun u w'=>∃ q,Ext r s w q s' w'/\VR q v u)
  (he:(execOp a.eval o).run P w=(callFunc f us).run P w):G5 P o a r s w v s':=by
 intro K Q hK;unfold Oper.wp;rw [he];rcases h with ⟨u,w',h1,q,h2,h3⟩ | ⟨h1,h2⟩
 ·rw [h1];exact hK q u w' h2 h3
 ·rw [h1];refine Calls.mono h2 fun e w'' he => ?_;obtain ⟨u,rfl,q,h3,h4⟩:=he;exact hK q u w'' h3 h4
theorem ZjT {co:Cod} {b:Builtin} {x:Operand} {t:TypeId} {ts:List TypeId} {l:List Zb} {e:Env} {s s':St} {v:Zb} (dst:Option Tmp) (ty:TypeId) (pos:String) (af:Array Edge) (gd:Option (Nat×Bool))
  (h:bi1 P b (co x) t l e s = .ok v s') :
  PA P ⟨dst,.call ⟨.builtin b,#[x],⟨t::ts⟩⟩,ty,pos,af,gd⟩ co l e s v s' (F1 ⟨.builtin b,#[x],⟨t::ts⟩⟩):=by
 have hm:x∈(Op.call ⟨.builtin b,#[x],⟨t::ts⟩⟩).operands:=by simp [Op.operands,Call.operands]
 have ht:(⟨t::ts⟩:Array TypeId)[0]? = some t:=rfl;cases b <;> try (cases h; done)
 case len =>
  obtain ⟨u,h1,h2⟩:=SI h;obtain ⟨h3,h4⟩:=Z5 h2;subst h4;refine ⟨rfl,fun r w a hr hc => ?_⟩
  have he:execOp a.eval ⟨dst,.call ⟨.builtin .len,#[x],⟨t::ts⟩⟩,ty,pos,af,gd⟩=(do pure (.value (← Builtin.len_ ⟨t::ts⟩ ty #[a.eval x]))):=by
   simp only [execOp,resolve,List.map_toArray,List.map_cons,List.map_nil]; rfl
  rw [he];exact (Zgz ht hr h3 (hc x hm u h1)).yes
 case cap =>
  obtain ⟨u,h1,h2⟩:=SI h;obtain ⟨h3,h4⟩:=Z5 h2;subst h4;refine ⟨rfl,fun r w a hr hc => ?_⟩
  have he:execOp a.eval ⟨dst,.call ⟨.builtin .cap,#[x],⟨t::ts⟩⟩,ty,pos,af,gd⟩=(do pure (.value (← Builtin.cap_ ⟨t::ts⟩ ty #[a.eval x]))):=by
   simp only [execOp,resolve,List.map_toArray,List.map_cons,List.map_nil]; rfl
  rw [he];exact (ZgA ht hr h3 (hc x hm u h1)).yes
 case clear =>
  obtain ⟨u,h1,h2⟩:=SI h;intro r w a hr hc;refine (ZeK (ty:=ty) ht hr h2 (hc x hm u h1)).op ?_;simp only [execOp,resolve,List.map_toArray,List.map_cons,List.map_nil]; rfl
 case real =>
  obtain ⟨u,h1,h2⟩:=SI h;obtain ⟨h3,h4⟩:=Z5 h2;refine ⟨h4,fun r w a hc => ?_⟩
  have he:execOp a.eval ⟨dst,.call ⟨.builtin .real,#[x],⟨t::ts⟩⟩,ty,pos,af,gd⟩=(do pure (.value (← Builtin.real_ ⟨t::ts⟩ ty #[a.eval x]))):=by
   simp only [execOp,resolve,List.map_toArray,List.map_cons,List.map_nil]; rfl
  rw [he];exact (ZjK h3 (hc x hm u h1)).yes
 case imag =>
  obtain ⟨u,h1,h2⟩:=SI h;obtain ⟨h3,h4⟩:=Z5 h2;refine ⟨h4,fun r w a hc => ?_⟩
  have he:execOp a.eval ⟨dst,.call ⟨.builtin .imag,#[x],⟨t::ts⟩⟩,ty,pos,af,gd⟩=(do pure (.value (← Builtin.imag_ ⟨t::ts⟩ ty #[a.eval x]))):=by
   simp only [execOp,resolve,List.map_toArray,List.map_cons,List.map_nil]; rfl
  rw [he];exact (ZjL h3 (hc x hm u h1)).yes
theorem ZjU {co:Cod} {b:Builtin} {x y:Operand} {t:TypeId} {ts:List TypeId} {l:List Zb} {e:Env} {s s':St} {v:Zb} (dst:Option Tmp) (ty:TypeId) (pos:String) (af:Array Edge) (gd:Option (Nat×Bool))
  (h:bi2 P b (co x) (co y) t ts.head? l e s = .ok v s') :
  PA P ⟨dst,.call ⟨.builtin b,#[x,y],⟨t::ts⟩⟩,ty,pos,af,gd⟩ co l e s v s' (F1 ⟨.builtin b,#[x,y],⟨t::ts⟩⟩):=by
 have hm:x∈(Op.call ⟨.builtin b,#[x,y],⟨t::ts⟩⟩).operands:=by simp [Op.operands,Call.operands]
 have hn:y∈(Op.call ⟨.builtin b,#[x,y],⟨t::ts⟩⟩).operands:=by simp [Op.operands,Call.operands]
 have ht:(⟨t::ts⟩:Array TypeId)[0]? = some t:=rfl;have ht2:(⟨t::ts⟩:Array TypeId)[1]? = ts.head? := by cases ts <;> rfl
 cases b <;> try (cases h; done)
 case append =>
  obtain ⟨u,p,h1,h2,h3⟩:=Gu h;intro r w a hr hc;refine (ZbT (ty:=ty) ht ht2 hr h3 (hc x hm u h1) (hc y hn p h2)).op ?_;simp only [execOp,resolve,List.map_toArray,List.map_cons,List.map_nil]; rfl
 case copy =>
  obtain ⟨u,p,h1,h2,h3⟩:=Gu h;intro r w a hr hc;refine (ZgG (ty:=ty) ht hr h3 (hc x hm u h1) (hc y hn p h2)).op ?_;simp only [execOp,resolve,List.map_toArray,List.map_cons,List.map_nil]; rfl
 case delete =>
  obtain ⟨u,p,h1,h2,h3⟩:=Gu h;intro r w a hr hc;refine (ZgF (ty:=ty) ht hr h3 (hc y hn p h2) (hc x hm u h1)).op ?_;simp only [execOp,resolve,List.map_toArray,List.map_cons,List.map_nil]; rfl
 case complex =>
  obtain ⟨u,p,h1,h2,h3⟩:=Gu h;obtain ⟨h3,h4⟩:=Z5 h3;refine ⟨h4,fun r w a hc => ?_⟩
  have he:execOp a.eval ⟨dst,.call ⟨.builtin .complex,#[x,y],⟨t::ts⟩⟩,ty,pos,af,gd⟩=(do pure (.value (← Builtin.complex_ ⟨t::ts⟩ ty #[a.eval x,a.eval y]))):=by
   simp only [execOp,resolve,List.map_toArray,List.map_cons,List.map_nil]; rfl
  rw [he];exact (ZjM h3 (hc x hm u h1) (hc y hn p h2)).yes
 case max =>
  obtain ⟨u,p,h1,h2,h3⟩:=Gu h;obtain ⟨h3,h4⟩:=Z5 h3;refine ⟨h4,fun r w a hc => ?_⟩
  have he:execOp a.eval ⟨dst,.call ⟨.builtin .max,#[x,y],⟨t::ts⟩⟩,ty,pos,af,gd⟩=(do pure (.value (← Builtin.max_ ⟨t::ts⟩ ty #[a.eval x,a.eval y]))):=by
   simp only [execOp,resolve,List.map_toArray,List.map_cons,List.map_nil]; rfl
  rw [he];exact (ZgB h3 (hc x hm u h1) (hc y hn p h2)).yes
 case min =>
  obtain ⟨u,p,h1,h2,h3⟩:=Gu h;obtain ⟨h3,h4⟩:=Z5 h3;refine ⟨h4,fun r w a hc => ?_⟩
  have he:execOp a.eval ⟨dst,.call ⟨.builtin .min,#[x,y],⟨t::ts⟩⟩,ty,pos,af,gd⟩=(do pure (.value (← Builtin.min_ ⟨t::ts⟩ ty #[a.eval x,a.eval y]))):=by
   simp only [execOp,resolve,List.map_toArray,List.map_cons,List.map_nil]; rfl
  rw [he];exact (ZgC h3 (hc x hm u h1) (hc y hn p h2)).yes
theorem N4 {k:List Zb->R} {o:Option (List Zb)} {v:Zb} {s':St} (h:CW k o = .ok v s'):∃ vs,o=some vs/\k vs = .ok v s':=by
 unfold CW at h;split at h
 ·exact ⟨_,rfl,h⟩
 ·cases h
theorem Bx {t:TypeId} {name:String} {f:FuncId} (h:methodOf P t name=some f) :
  ∃ i m e,P.info? t=some i/\i.methods.find? (·.name==name)=some m/\m.func=some (f,true)/\P.underlying t=some (.pointer e)/\m.path.toList=[]:=by
 unfold methodOf at h;split at h
 ·rename_i m hm;rw [Option.bind_eq_some_iff] at hm;obtain ⟨i,h1,h2⟩:=hm;split at h
  ·rename_i f' e hf hu;rcases Ze h with ⟨h3,h4⟩ | ⟨_,h4⟩
   ·cases h4;exact ⟨i,m,e,h1,h2,hf,hu,by simpa using h3⟩
   ·cases h4
  ·cases h
 ·cases h
theorem En {t:TypeId} {name:String} {f:FuncId} (h:methodOf P t name=some f) (n:Nat) (v:Value) (w:World):(method (n+1) t v name).run P w = .ok (f,v) w:=by
 obtain ⟨i,m,e,h1,h2,h3,h4,h5⟩:=Bx h;simp only [method,Sem.run_bind,run_typeInfo h1,Result.andThen_ok,h2,h5,follow,Sem.run_pure,h3,receiverAt,run_underlying h4,Place.get]
theorem Zb0 {co:Cod} {call:Zz} (hcall:Z3 P call) {o:Oper} {c:Call} (ho:o.op = .call c) {l:List Zb} {e:Env} {s s':St} {v:Zb} (h:Ip co P call c l e s = .ok v s') :
  PA P o co l e s v s' (F1 c):=by
 obtain ⟨dst,op,ty,pos,af,gd⟩:=o;cases ho;obtain ⟨callee,args,types⟩:=c;cases callee with
 | builtin b =>
  obtain ⟨args⟩:=args;obtain ⟨types⟩:=types;have h:ZjH co P b types args l e s = .ok v s':=h;unfold ZjH at h;split at h
  ·exact ZjT dst ty pos af gd h
  ·exact ZjU dst ty pos af gd h
  ·cases h
 | value f =>
  intro r w a hr hc;have hargs:∀ x∈args.toList,∀ v,Zl l e (co x) = .ok v->VR r v (a.eval x):=fun x hx=>hc x (by simp [Op.operands,Call.operands]; exact .inr (by simpa using hx))
  have gen:Zep call (co f) (Wx co args.toList) l e s = .ok v s'->G5 P ⟨dst,.call ⟨.value f,args,types⟩,ty,pos,af,gd⟩ a r s w v s':=fun h=>by
   obtain ⟨vs,h1,h2⟩:=N4 h;obtain ⟨u,h3,h4⟩:=then_ok h2;unfold ZhM at h4;split at h4
   ·rename_i g fi ca;have h5:=hc f (by simp [Op.operands,Call.operands]) _ h3;have h6:=Kf args.toList hargs h1
    generalize hg:a.eval f=gv at h5
    cases h5 with
    | func _ ha hb =>
     rename_i IC IE;refine (hcall _ _ _ _ _ h4 r w _ hr (ha.append (h6.append hb))).op ?_
     have:(⟨IC⟩++args.map a.eval++⟨IE⟩:Array Value)=⟨IC++(args.toList.map a.eval++IE)⟩:=by
      apply Array.ext';simp
     rw [<- this];simp only [execOp,resolve,hg,Deferred.ofValue,Sem.run_bind,Sem.run_pure,Result.andThen_ok,invoke]
   ·cases h4
  cases f with
  | func g =>
   obtain ⟨vs,h1,h2⟩:=N4 (h:Zaj call g (Wx co args.toList) l e s = .ok v s');have h6:=Kf args.toList hargs h1;refine (hcall _ _ _ _ _ h2 r w _ hr h6).op ?_
   have:(#[]++args.map a.eval ++ #[]:Array Value)=⟨args.toList.map a.eval⟩:=by
    apply Array.ext';simp
   rw [<- this];simp only [execOp,resolve,Act.eval,Deferred.ofValue,Sem.run_bind,Sem.run_pure,Result.andThen_ok,invoke]
  | _=>exact gen h
 | invoke rc name =>
  intro r w a hr hc;have hargs:∀ x∈args.toList,∀ v,Zl l e (co x) = .ok v->VR r v (a.eval x):=fun x hx=>hc x (by simp [Op.operands,Call.operands]; exact .inr (by simpa using hx));obtain ⟨vs,h1,h2⟩:=N4 (h:CX P call (co rc) name (Wx co args.toList) l e s = .ok v s');obtain ⟨u,h3,h4⟩:=then_ok h2;have h6:=Kf args.toList hargs h1;unfold Zal at h4;split at h4
  ·rename_i t u;obtain ⟨_,h4⟩:=Zt h4;unfold Zak at h4;split at h4
   ·rename_i g hg;have h5:=hc rc (by simp [Op.operands,Call.operands]) _ h3
    generalize aX:a.eval rc=rv at h5
    cases h5 with
    | iface _ hv =>
     rename_i u';refine (hcall _ _ _ _ _ h4 r w _ hr (.cons hv h6)).op ?_
     have hx:((#[Value.iface t u']++args.map a.eval:Array Value))[0]? = some (.iface t u'):=by
      rw [Array.getElem?_append_left (by simp)];rfl
     have hy:(#[Value.iface t u']++args.map a.eval:Array Value).extract 1 (#[Value.iface t u']++args.map a.eval:Array Value).size=args.map a.eval:=by
      apply Array.ext';simp;rw [List.take_of_length_le (by simp)]
     have hz:(#[u']++args.map a.eval:Array Value)=⟨u'::args.toList.map a.eval⟩:=by
      apply Array.ext';simp
     have hmt:=fun w=>En (P:=P) hg (P.types.size+(Made.depth-1)) u' w;have hd:P.types.size+(Made.depth-1)+1=P.types.size+Made.depth:=rfl;rw [hd] at hmt;simp only [execOp,resolve,aX,Sem.run_bind,Sem.run_pure,Result.andThen_ok,invoke,hx,hy,callMethod,run_program,hmt,hz]
   ·cases h4
  ·cases h4
theorem PC {co:Cod} {call:Zz} (hcall:Z3 P call) {o:Oper} {l:List Zb} {e:Env} {s s':St} {v:Zb} (h:(comp co P call o.op).run l e s = .ok v s') :
  PA P o co l e s v s' (WD P o.op):=by
 cases ho:o.op with
 | call c =>
  rw [ho] at h;exact Zb0 hcall ho h
 | _=>rw [<- ho]; exact ZgN (fun c hc=>by rw [ho] at hc; cases hc) h
end Ev
end Go.Proofs.YtheflbaejhlboaaGreatDoor
