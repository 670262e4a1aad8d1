/- Lemmas for a law of confluencetop. -/
import Derived.Test.YtheflbaejhlboaaGreatDoorTopNe9
import Derived.Sort.KeysCollected
import Derived.Sort.Walk0
import Derived.Lib.SlKeysI
set_option linter.all false
namespace Go.Proofs.YtheflbaejhlboaaGreatDoor
namespace Ev
open Go Go.Sort
open Go.WideElems (Fit rd rg)
variable [Sig] {P:Program}
theorem Ext.Zhk {r:Rho} {s:St} {w u:World} (h:Rel r s w) {c:Zd} {x:RB} {o:Obj} (hb:w.heap.size<=x.blk)
  (hu:u.heap[x.blk]? = some o) (hr:BR (r.at s.next x) c x o) (hf:∀ k,k<w.heap.size->u.heap[k]? = w.heap[k]?) (hs:w.heap.size<=u.heap.size)
  (ho:u.os=w.os) (ht:u.tape=w.tape) (hp:u.output=w.output) (hgn:x.gho=none:=by rfl):Ext r s w (r.at s.next x) (s.new c) u:=by
 have hn:=h.Qb (Nat.le_refl s.next)
 have hlt:∀ {k e z},s.get k=some e->r k=some z->z.blk<w.heap.size:=fun {k e z} he hz=>by
  obtain ⟨o',h1,_⟩:=h.block k e z he hz;exact (Array.getElem?_eq_some_iff.1 h1).1
 refine ⟨⟨⟨fun j d y hd hy => ?_,fun j hj => ?_⟩,fun j k d e y z hd he hy hz bP => ?_,fun j y hy => ?_,fun j y g hy hg => ?_⟩,r.JU x hn,by rw [St.Qo]; omega,ho,ht,hp,hs,fun k hk _=>hf k hk,fun j hj hn d hd=>by rw [St.ZC,if_neg (by omega)] at hd; exact hd,
  fun j hj hn=>by rw [St.ZC,if_neg (by omega)]; exact hn,fun k ⟨j,d,y,hd,hy,hk⟩ => ?_,fun j hn hp => ?_,fun k hk => .inl (hk.Yq hgn)⟩
 ·rw [St.ZC] at hd;by_cases hj:s.next=j
  ·subst hj;rw [if_pos rfl] at hd;cases hd;rw [Rho.Zn] at hy;cases hy;exact ⟨o,hu,hr⟩
  ·rw [if_neg hj] at hd;rw [Rho.Zx r x (Ne.symm hj)] at hy;obtain ⟨o',h1,h2⟩:=h.block j d y hd hy;refine ⟨o',?_,h2.mono (r.JU x hn)⟩;rw [hf y.blk (Array.getElem?_eq_some_iff.1 h1).1];exact h1
 ·rw [St.Qo] at hj;rw [St.ZC,if_neg (by omega)];exact h.far j (by omega)
 ·rw [St.ZC] at hd he;by_cases hj:s.next=j <;> by_cases hk:s.next=k
  ·omega
  ·rw [if_neg hk] at he;rw [Rho.Zx r x (Ne.symm hk)] at hz;rw [<- hj,Rho.Zn] at hy;cases hy;have:=hlt he hz;omega
  ·rw [if_neg hj] at hd;rw [Rho.Zx r x (Ne.symm hj)] at hy;rw [<- hk,Rho.Zn] at hz;cases hz;have:=hlt hd hy;omega
  ·rw [if_neg hj] at hd;rw [if_neg hk] at he;rw [Rho.Zx r x (Ne.symm hj)] at hy;rw [Rho.Zx r x (Ne.symm hk)] at hz;exact h.apart j k d e y z hd he hy hz bP
 ·rw [St.Qo];by_cases hj:j=s.next
  ·omega
  ·rw [Rho.Zx r x hj] at hy;have:=h.known j y hy;omega
 ·by_cases hj:j=s.next
  ·subst hj;rw [Rho.Zn] at hy;cases hy;rw [hgn] at hg;cases hg
  ·rw [Rho.Zx r x hj] at hy;refine (h.safe j y g hy hg).step hs (fun k hk _=>hf k hk) fun k ⟨j,d,y,hd,hy,hk⟩ => ?_;rw [St.ZC] at hd;by_cases hj:s.next=j
   ·subst hj;rw [Rho.Zn] at hy;cases hy;exact .inr (by omega)
   ·rw [if_neg hj] at hd;rw [Rho.Zx r x (Ne.symm hj)] at hy;exact .inl ⟨j,d,y,hd,hy,hk⟩
 ·rw [St.ZC] at hd;by_cases hj:s.next=j
  ·subst hj;rw [Rho.Zn] at hy;cases hy;exact .inr (by omega)
  ·rw [if_neg hj] at hd;rw [Rho.Zx r x (Ne.symm hj)] at hy;exact .inl ⟨j,d,y,hd,hy,hk⟩
 ·by_cases hj:j=s.next
  ·omega
  ·rw [Rho.Zx r x hj] at hp;exact absurd hn hp
theorem Sc (x:List UInt8):∀ l:List (List UInt8),(TU x l).Perm (x::l)
 | []=>List.Perm.refl _
 | y::l=>by
  show (sel (JL y x) (y::TU x l) (x::y::l)).Perm _;cases JL y x
  ·exact List.Perm.refl _
  ·exact ((Sc x l).cons y).trans (List.Perm.swap x y l)
theorem MW:∀ l:List (List UInt8),(Hj l).Perm l
 | []=>List.Perm.refl _
 | x::l=>(Sc x (Hj l)).trans ((MW l).cons x)
theorem ZfG (a b:List UInt8):JL a b=decide (a<b):=by rw [XC,bytesLess_eq]
theorem Pm (x:List UInt8):∀ l:List (List UInt8),l.Pairwise (fun a b=>leB a b=true)->(TU x l).Pairwise (fun a b=>leB a b=true)
 | [],_=>List.pairwise_singleton _ _
 | y::l,h=>by
  obtain ⟨h1,h2⟩:=List.pairwise_cons.1 h;show (sel (JL y x) (y::TU x l) (x::y::l)).Pairwise _;rw [ZfG];by_cases hlt:y<x
  ·rw [decide_eq_true hlt];refine List.pairwise_cons.2 ⟨fun z hz => ?_,Pm x l h2⟩;rcases List.mem_cons.1 ((Sc x l).mem_iff.1 hz) with rfl | hz
   ·exact decide_eq_true (List.le_of_lt hlt)
   ·exact h1 z hz
  ·rw [decide_eq_false hlt];have hxy:x<=y:=List.not_lt.1 hlt;refine List.pairwise_cons.2 ⟨fun z hz => ?_,h⟩;rcases List.mem_cons.1 hz with rfl | hz
   ·exact decide_eq_true hxy
   ·have:=h1 z hz;simp only [leB,decide_eq_true_eq] at this ⊢;exact List.le_trans hxy this
theorem TV:∀ l:List (List UInt8),(Hj l).Pairwise (fun a b=>leB a b=true)
 | [] => .nil
 | x::l=>Pm x _ (TV l)
theorem ZcL {l ss:List (List UInt8)} (h:ss.Perm l):ss.mergeSort (fun x y=>decide (x<=y))=Hj l:=by
 have tr:∀ a b c:List UInt8,leB a b=true->leB b c=true->leB a c=true:=fun a b c h1 h2=>by simp only [leB,decide_eq_true_eq] at *; exact List.le_trans h1 h2
 have to:∀ a b:List UInt8,(leB a b || leB b a)=true:=fun a b=>by simp only [leB,Bool.or_eq_true,decide_eq_true_eq]; exact List.le_total a b
 refine List.Perm.eq_of_pairwise (le:=fun a b=>leB a b=true) (fun a b _ _ h1 h2 => ?_) (List.pairwise_mergeSort tr to ss) (TV l) (((List.mergeSort_perm ss leB).trans h).trans (MW l).symm);simp only [leB,decide_eq_true_eq] at h1 h2;exact List.le_antisymm h1 h2
theorem Fc:∀ {l:List (List UInt8)},ZcM l=true->∀ b∈l,b.length<=65536
 | b::l,h,c,hc=>by
  obtain ⟨h1,h2⟩:=QF h;rcases List.mem_cons.1 hc with rfl | hc
  ·exact Ql h1
  ·exact Fc h2 c hc
theorem Hk {n:Nat}:∀ {L:List Nat},MX n L=true->∀ i∈L,i<n
 | a::L,h,i,hi=>by
  obtain ⟨h1,h2⟩:=QF h;rcases List.mem_cons.1 hi with hi | hi
  ·subst hi; exact QI h1
  ·exact Hk h2 i hi
theorem yQ:∀ {L:List Nat},ndN L=true->L.Nodup
 | [],_=>List.nodup_nil
 | a::L,h=>by
  have h:sel (WT a L) false (ndN L)=true:=h;cases ha:WT a L
  ·rw [ha] at h;rw [TW] at ha;refine List.nodup_cons.2 ⟨fun hm => ?_,yQ h⟩;rw [List.contains_iff_mem.2 hm] at ha;cases ha
  ·rw [ha] at h; cases h
theorem DY {b:List UInt8}:∀ {l:List (List UInt8)},Hl b l=false->b∉l
 | [],_,h=>by cases h
 | c::l,h,hm=>by
  have h:sel (QG b c) true (Hl b l)=false:=h;cases hb:QG b c
  ·rw [hb] at h;rcases List.mem_cons.1 hm with rfl | hm
   ·rw [Qp,beq_self_eq_true] at hb; cases hb
   ·exact DY h hm
  ·rw [hb] at h; cases h
theorem yR:∀ {L:List (List UInt8)},ndB L=true->L.Nodup
 | [],_=>List.nodup_nil
 | a::L,h=>by
  have h:sel (Hl a L) false (ndB L)=true:=h;cases ha:Hl a L
  ·rw [ha] at h;exact List.nodup_cons.2 ⟨DY ha,yR h⟩
  ·rw [ha] at h; cases h
theorem Pn {r:Rho}:∀ {es:List Entry} {l:List MapEntry} {ks:List (List UInt8)},Wv es=some ks->ERs r es l->l.map (·.key)=ks.map encStr/\l.map (·.born)=Vy es
 | [],_,_,h,.nil=>by cases h; exact ⟨rfl,rfl⟩
 | (k,v,b)::es,m::l,ks,h,.cons hh ht=>by
  simp only [Wv] at h;split at h
  ·rename_i x ks' h1;cases h;obtain ⟨h2,h3⟩:=Pn h1 ht;obtain ⟨e1,_,e3⟩:=hh;refine ⟨?_,?_⟩
   ·rw [List.map_cons,List.map_cons,h2]
    generalize m.key=mk at e1
    cases e1;rfl
   ·show m.born::_=b::_;rw [h3];exact congrArg (· :: _) e3
  ·cases h
def X8:Value->Option (DataW Unit×List MemPlace):=fun _=>some (.nil,[])
theorem yS {k:TypeId} (hk:P.underlying k=some .string) {m:MapEntry} {b:List UInt8} (hm:m.key=encStr b) (hb:b.length<=65536):rd P k X8 m=some (.string b,.nil):=by
 unfold rd;rw [hm,show encStr b = .string ⟨⟨b⟩⟩ from rfl,Go.WideMaps.keyOf_string_mk hk (by show b.length<=maxLen; exact Nat.le_trans hb (by decide))];rfl
theorem EG {k:TypeId} (hk:P.underlying k=some .string) {l:List MapEntry} {ks:List (List UInt8)} {c:Nat} (h1:l.map (·.key)=ks.map encStr) (h2:∀ m∈l,m.born<c) (h3:(l.map (·.born)).Nodup) (h4:ks.Nodup) (h5:∀ b∈ks,b.length<=65536) (h6:ks.length<=65536) :
  Fit P k X8 ⟨l⟩ c:=by
 have hlen:l.length=ks.length:=by have:=congrArg List.length h1; simpa using this
 refine ⟨by show l.length<=maxLen; rw [hlen]; exact Nat.le_trans h6 (by decide),⟨h2,h3,?_⟩,fun m hm => ?_⟩
 ·show (l.map (·.key)).Nodup;rw [h1];exact List.pairwise_map.2 (h4.imp fun {a b} hne e=>hne (encStr_inj e))
 ·obtain ⟨b,hb,e⟩:∃ b∈ks,encStr b=m.key:=by
   have:m.key∈ks.map encStr:=by rw [<- h1]; exact List.mem_map_of_mem hm
   obtain ⟨b,hb,e⟩:=List.mem_map.1 this;exact ⟨b,hb,e⟩
  exact ⟨_,yS hk e.symm (h5 b hb)⟩
theorem MY {k:TypeId} (hk:P.underlying k=some .string):∀ {l:List MapEntry} {ks:List (List UInt8)},l.map (·.key)=ks.map encStr->(∀ b∈ks,b.length<=65536)->(l.map (rg P k X8)).map (fun p=>strOf p.1)=ks
 | [],[],_,_=>rfl
 | [],_::_,h,_=>by cases h
 | _::_,[],h,_=>by cases h
 | m::l,b::ks,h,h5=>by
  rw [List.map_cons,List.map_cons] at h;injection h with h1 h2
  rw [List.map_cons,List.map_cons,MY hk h2 fun b hb=>h5 b (List.mem_cons_of_mem _ hb)]
  have:rg P k X8 m=(.string b,.nil):=by
   unfold rg;rw [yS hk h1 (h5 b List.mem_cons_self)];rfl
  rw [this];rfl
theorem DZ {es:List Entry} {c:Nat} {o:Option (List (List UInt8))} (h:MZ es c o=true):∃ ks,o=some ks/\MX c (Vy es)=true/\ndN (Vy es)=true/\ndB ks=true/\ZcM ks=true:=by
 unfold MZ at h;split at h
 ·obtain ⟨h1,h⟩:=QF h;obtain ⟨h2,h⟩:=QF h;obtain ⟨h3,h4⟩:=QF h;exact ⟨_,rfl,h1,h2,h3,h4⟩
 ·cases h
theorem ZcQ {r:Rho} {s:St} {w:World} (h:RelB r s w) {k:TypeId} (hk:P.underlying k=some .string) {m:Nat} {y:RB} (hm:r m=some y) {es:List Entry} {c:Nat} (hes:s.Xa m = .mk es c) {ks:List (List UInt8)} (hks:Wv es=some ks)
  (h1:MX c (Vy es)=true) (h2:ndN (Vy es)=true) (h3:ndB ks=true) (h4:ZcM ks=true) (h5:ks.length<=65536) :
  ∃ D0:DataW Unit,w.ownsMap P k X8 y.blk ks.length D0/\(strKeys D0).Perm ks/\Maps.size D0=ks.length:=by
 obtain ⟨l,h6,h7⟩:=QM h hm hes;obtain ⟨h8,h9⟩:=Pn hks h7;have hlen:l.length=ks.length:=by have:=congrArg List.length h8; simpa using this
 have hfit:Fit P k X8 ⟨l⟩ c:=EG hk h8 (fun x hx=>Hk h1 x.born (by rw [<- h9]; exact List.mem_map_of_mem hx)) (by rw [h9]; exact yQ h2) (yR h3) (Fc h4) h5;refine ⟨_,⟨⟨l⟩,c,h6,hfit,by show l.length<=_; omega,rfl⟩,?_,?_⟩
 ·show (((l.map (rg P k X8)).foldr DataW.insert []).map fun p=>strOf p.1).Perm ks;have:=(Go.WideShapes.sorted_perm (l.map (rg P k X8))).map fun p=>strOf p.1;rw [MY hk h8 (Fc h4)] at this;exact this
 ·show ((l.map (rg P k X8)).foldr DataW.insert []).length=_;rw [(Go.WideShapes.sorted_perm (l.map (rg P k X8))).length_eq,List.length_map,hlen]
theorem D1 {r:Rho}:∀ l:List (List UInt8),VRs r (ZcR l) (l.map encStr)
 | [] => .nil
 | b::l => .cons (.str b) (D1 l)
theorem Fe {f g:FuncId} {fn:Func} {b:Code} (hf:P.funcs[f]? = some fn) (hname:(fn.name== "runtime.NumGoroutine")=false) (hb:fn.body=some b) {k:TypeId} (hk:P.underlying k=some .string)
  (hc:∀ (Bm m n:Nat) (D0:DataW Unit) (w:World),Bm<w.heap.size->w.cell? ⟨Bm,0,none⟩=some (.map (some m))->w.ownsMap P k X8 m n D0->Maps.size D0<=65536 ->
   Calls P f #[.func (.func g) #[] #[.pointer (some ⟨Bm,0,none⟩)]] w fun e w'=>∃ (v:Value) (ss:List (List UInt8)),e = .returned v/\ss.Perm (strKeys D0) /\
    w'.ownsRow w.heap.size k 1 v ss.length ((ss.mergeSort (fun x y=>decide (x<=y))).map encStr)/\(v = .slice none 0 0↔ss=[])/\Go.RowKit.Below w.heap.size w w'):Qe P f (Mc g):=by
 intro args s v s' h r w us hr hv
 have hcf:∀ args w,(callFunc f args).run P w = .ok (.enter f args) w:=fun args w=>by
  have hname':fn.name≠ "runtime.NumGoroutine":=by simpa using hname
  simp [callFunc,hf,hname',hb]
 have h:Ff g args s = .ok v s':=h;unfold Ff at h;split at h
 ·rename_i g' c;have h1:=Zt h;clear h;obtain ⟨hg,h⟩:=h1;have hg:=ZF hg;subst hg;cases hv with
  | cons h1 ht =>
   cases ht;cases h1 with
   | func _ ha hcap =>
    cases ha;cases hcap with
    | cons h2 ht =>
     cases ht;cases h2 with
     | @ptr _ _ x hx =>
      unfold EH at h;split at h
      ·rename_i m e o hcs;obtain ⟨ob,bF,yT,vs,rest,et,fr,rfl,hvs,hlen,hop,hfz⟩:=hr.block _ _ x (ZX hcs) hx;cases hvs with
       | cons hm ht =>
        cases ht;cases hm with
        | @map _ y hy =>
         unfold EI at h;split at h
         ·rename_i es cl hes;obtain ⟨hgood,h⟩:=Zt h;obtain ⟨ks,hks,g1,g2,g3,g4⟩:=DZ hgood;rw [hks] at h
          have hcell:w.cell? ⟨x.blk,0,none⟩=some (.map (some y.blk)):=by
           rw [cell_of bF];rfl
          have hblk:=(Array.getElem?_eq_some_iff.1 bF).1
          have hfin:ks.length<=65536->∀ (u:Value) (w':World),(∃ (v:Value) (ss:List (List UInt8)),u=v/\ss.Perm ks/\w'.ownsRow w.heap.size k 1 v ss.length ((ss.mergeSort (fun x y=>decide (x<=y))).map encStr)/\(v = .slice none 0 0↔ss=[])/\Go.RowKit.Below w.heap.size w w') ->
            ∃ q,Ext r s w q s' w'/\VR q v u:=by
           rintro hle u w' ⟨_,ss,rfl,hp,hrow,hnil,hbel⟩;unfold Sd at h;split at h
           ·rename_i hke;cases hke;cases h;have:=hp.eq_nil;rw [hnil.2 this];exact ⟨r,(Ext.refl hr).grow hbel.block hbel.size hbel.os hbel.tape hbel.output,.Za⟩
           ·rename_i l hne hke;cases hke;obtain ⟨_,h⟩:=Zt h;cases h;have hsl:=hp.length_eq;rcases hrow.2 with ⟨rfl,hz⟩ | ⟨gb,cap,cur,rfl,hbase,hgb,r1,r2,r3,r4⟩
            ·exact absurd (List.eq_nil_of_length_eq_zero (by omega)) (fun e=>hne (by subst e; exact hp.symm.eq_nil))
            ·rw [ZcL hp,Nat.mul_one] at r4;refine ⟨_,Ext.Zhk hr (x:=RB.of (gb) (cap) (1)) hbase hgb ⟨rfl,cur.toList.take ss.length,cur.toList.drop ss.length,k,(0,0),?_,?_,?_,(fun h=>by cases h),(fun i hi h=>by have:=h.2; simp at this)⟩ hbel.block hbel.size hbel.os hbel.tape hbel.output,?_⟩
             ·rw [List.take_append_drop]
             ·rw [r4];exact D1 _
             ·rw [List.take_append_drop];show cur.size=cap;omega
             ·rw [<- hsl];exact .slice (Rho.Zn _ _ _) r1 (fun _ h=>by cases h) (fun _=>by simp)
           ·cases h
          have hle:ks.length<=65536:=by
           unfold Sd at h;split at h
           ·rename_i hke; cases hke; exact Nat.zero_le _
           ·rename_i l hne hke;cases hke;exact Ql (Zt h).1
           ·cases h
          obtain ⟨D0,hown,hperm,hsz⟩:=ZcQ hr.toRelB hk hy hes hks g1 g2 g3 g4 hle;refine .inr ⟨hcf _ _,(hc x.blk y.blk _ D0 w hblk hcell hown (by omega)).mono ?_⟩;rintro e w' ⟨v1,ss,rfl,hp,hrest⟩;exact ⟨v1,rfl,hfin hle v1 w' ⟨v1,ss,rfl,hp.trans hperm,hrest⟩⟩
         ·cases h
      ·cases h
 ·cases h
theorem D2 {r:Rho} {s:St} {w:World} (h:RelB r s w) {k:TypeId} (hk:P.underlying k=some (.int .i64)) {m:Nat} {y:RB} (hm:r m=some y) {es:List Entry} {c:Nat} (hes:s.Xa m = .mk es c)
  (h1:es=[]\/∃ n v b,es=[(.int .i64 n,v,b)]/\b<c/\IntKind.i64.wrap n=n) :
  ∃ D0:DataW Unit,w.ownsMap P k X8 y.blk 1 D0/\intKeys D0=(es.map fun e=>match e.1 with | .int _ n=>n | _=>0)/\Maps.size D0<=1:=by
 obtain ⟨l,h6,h7⟩:=QM h hm hes;rcases h1 with rfl | ⟨n,v,b,rfl,hb,hw⟩
 ·cases h7;exact ⟨_,⟨#[],c,h6,⟨Nat.zero_le _,⟨fun x hx=>(by cases hx),List.nodup_nil,List.nodup_nil⟩,fun x hx=>(by cases hx)⟩,Nat.zero_le _,rfl⟩,rfl,Nat.zero_le _⟩
 ·obtain ⟨me,rfl,hh⟩:=h7.EJ;obtain ⟨e1,_,e3⟩:=hh
  have hkey:me.key = .int .i64 n:=by
   generalize me.key=mk at e1
   cases e1;rfl
  have hwf:(Lit.int .i64 n).wf=true:=by
   have:=IntKind.wrap_i64 n;simp only [Lit.wf,IntKind.min,IntKind.max,IntKind.signed,IntKind.bits];simp;omega
  have hrd:rd P k X8 me=some (.int .i64 n,.nil):=by
   unfold rd;rw [hkey,Go.Maps.keyOf_int_mk hk hwf];rfl
  have hrg:rg P k X8 me=(.int .i64 n,.nil):=by
   unfold rg;rw [hrd];rfl
  have mg:me.born=b:=e3;refine ⟨_,⟨#[me],c,h6,⟨by show 1<=maxLen; decide,⟨fun x hx => ?_,by simp,by simp⟩,fun x hx => ?_⟩,Nat.le_refl _,rfl⟩,?_,?_⟩
  ·rcases List.mem_singleton.1 hx with rfl;omega
  ·rcases List.mem_singleton.1 hx with rfl;exact ⟨_,hrd⟩
  ·show intKeys (.map ([rg P k X8 me].foldr DataW.insert []))=_;rw [hrg];rfl
  ·show ([rg P k X8 me].foldr DataW.insert []).length<=1;rw [hrg];exact Nat.le_refl _
theorem Ug {f g:FuncId} {fn:Func} {b:Code} (hf:P.funcs[f]? = some fn) (hname:(fn.name== "runtime.NumGoroutine")=false) (hb:fn.body=some b) {k:TypeId} (hk:P.underlying k=some (.int .i64))
  (hc:∀ (Bm m n:Nat) (D0:DataW Unit) (w:World),Bm<w.heap.size->w.cell? ⟨Bm,0,none⟩=some (.map (some m))->w.ownsMap P k X8 m n D0->Maps.size D0<=1 ->
   Calls P f #[.func (.func g) #[] #[.pointer (some ⟨Bm,0,none⟩)]] w fun e w'=>∃ (v:Value) (ss:List Int),e = .returned v/\ss.Perm (intKeys D0) /\
    w'.ownsRow w.heap.size k 1 v ss.length (ss.map fun n => .int .i64 n)/\(v = .slice none 0 0↔ss=[])/\Go.RowKit.Below w.heap.size w w'):Qe P f (EK g):=by
 intro args s v s' h r w us hr hv
 have hcf:∀ args w,(callFunc f args).run P w = .ok (.enter f args) w:=fun args w=>by
  have hname':fn.name≠ "runtime.NumGoroutine":=by simpa using hname
  simp [callFunc,hf,hname',hb]
 have h:sZ g args s = .ok v s':=h;unfold sZ at h;split at h
 ·rename_i g' c;have h1:=Zt h;clear h;obtain ⟨hg,h⟩:=h1;have hg:=ZF hg;subst hg;cases hv with
  | cons h1 ht =>
   cases ht;cases h1 with
   | func _ ha hcap =>
    cases ha;cases hcap with
    | cons h2 ht =>
     cases ht;cases h2 with
     | @ptr _ _ x hx =>
      unfold Zhl at h;split at h
      ·rename_i m e o hcs;obtain ⟨ob,bF,yT,vs,rest,et,fr,rfl,hvs,hlen,hop,hfz⟩:=hr.block _ _ x (ZX hcs) hx;cases hvs with
       | cons hm ht =>
        cases ht;cases hm with
        | @map _ y hy =>
         have hcell:w.cell? ⟨x.blk,0,none⟩=some (.map (some y.blk)):=by
          rw [cell_of bF];rfl
         have hblk:=(Array.getElem?_eq_some_iff.1 bF).1;unfold EL at h;split at h
         ·rename_i cl hes;cases h;obtain ⟨D0,hown,hkeys,hsz⟩:=D2 hr.toRelB hk hy hes (.inl rfl);refine .inr ⟨hcf _ _,(hc x.blk y.blk _ D0 w hblk hcell hown hsz).mono ?_⟩;rintro e w' ⟨v1,ss,rfl,hp,hrow,hnil,hbel⟩;rw [hkeys] at hp;rw [hnil.2 hp.eq_nil];exact ⟨_,rfl,r,(Ext.refl hr).grow hbel.block hbel.size hbel.os hbel.tape hbel.output,.Za⟩
         ·rename_i kk vv bb cl hes;unfold EM at h;split at h
          ·rename_i n;obtain ⟨h3,h⟩:=Zt h;obtain ⟨h4,h⟩:=Zt h;cases h;rw [QS,Vz] at h4;obtain ⟨D0,hown,hkeys,hsz⟩:=D2 hr.toRelB hk hy hes (.inr ⟨n,vv,bb,rfl,QI h3,eq_of_beq h4⟩);refine .inr ⟨hcf _ _,(hc x.blk y.blk _ D0 w hblk hcell hown hsz).mono ?_⟩;rintro e w' ⟨v1,ss,rfl,hp,hrow,hnil,hbel⟩;rw [hkeys] at hp;have hss:ss=[n]:=List.perm_singleton.1 hp;subst hss;rcases hrow.2 with ⟨rfl,hz⟩ | ⟨gb,cap,cur,rfl,hbase,hgb,r1,r2,r3,r4⟩
           ·cases hz
           ·have r4:cur.toList.take 1=[Value.int .i64 n]:=r4;refine ⟨_,rfl,_,Ext.Zhk hr (x:=RB.of (gb) (cap) (1)) hbase hgb ⟨rfl,cur.toList.take 1,cur.toList.drop 1,k,(0,0),?_,?_,?_,(fun h=>by cases h),(fun i hi h=>by have:=h.2; simp at this)⟩ hbel.block hbel.size hbel.os hbel.tape hbel.output,?_⟩
            ·rw [List.take_append_drop]
            ·rw [r4];exact .cons (.int _ _) .nil
            ·rw [List.take_append_drop];show cur.size=cap;omega
            ·exact .slice (Rho.Zn _ _ _) r1 (fun _ h=>by cases h) (fun _=>by simp)
          ·cases h
         ·cases h
      ·cases h
 ·cases h
end Ev
end Go.Proofs.YtheflbaejhlboaaGreatDoor
