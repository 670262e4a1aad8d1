/-
  Functions that the evaluator knows otherwise; functions that go several ways. No condition of ours.
-/
import Derived.Test.YtchkcnecgfolmaaGreatDoorDisRunC
import Derived.Laws.Externs
import Derived.MapKept
import Derived.Below
import Derived.Shelf.Bits.Mul64
import Derived.Sort.KeysCollected
import Derived.Sort.Walk0
import Derived.Lib.SlKeysI
namespace Go.Proofs.YtchkcnecgfolmaaGreatDoor.Ev
open Go
set_option linter.unusedVariables false
noncomputable section
def joinA (sep : List UInt8) : List AVal → Option (List UInt8)
  | [] => some []
  | v :: l => match v with
    | .str s => match l with
      | [] => some s
      | l => match joinA sep l with
        | some r => some (s ++ (sep ++ r))
        | none => none
    | _ => none
def fitO (n : Nat) (o : Option (List UInt8)) : Option (List UInt8) := match o with
  | some l => sel (Nat.ble l.length 65536) (sel (Nat.ble n 65536) (some l) none) none
  | none => none
def joinO (n : Nat) (sep : List UInt8) (o : Option (List AVal)) : Option (List UInt8) := match o with
  | some l => fitO n (joinA sep l)
  | none => none
def joinC (s : St) (off n : Nat) (sep : List UInt8) (c : Cs) : R := match c with
  | .mk cs _ _ => strOut s (joinO n sep (sub cs off n))
  | .bad => .bad
def joinR (args : List AVal) (s : St) : R := match args with
  | [.nilslice, .str _] => .ok (.str []) s
  | [.slice id off n _, .str sep] => joinC s off n sep (s.cellsAt id)
  | _ => .bad
def oJoin : Orc := ⟨joinR⟩
/-- (*sexp.reader).add: the blocks that it looks at -/
def slId : AVal → List Nat
  | .slice i _ _ _ => [i]
  | _ => []
def addKid (off n : Nat) (c : Cs) : List Nat := match c with
  | .mk cs _ _ => (match nthV (off + n * 5 + 3) cs with
    | .ok v => slId v
    | .bad => [])
  | .bad => []
def addOp (s : St) : AVal → List Nat
  | .slice id off (n + 1) _ => id :: addKid off n (s.cellsAt id)
  | _ => []
def addCs (s : St) (c : Cs) : List Nat := match c with
  | .mk [_, op, dn] _ _ => slId dn ++ addOp s op
  | _ => []
def addIds (args : List AVal) (s : St) : List Nat := match args with
  | [.ptr r _, _] => r :: addCs s (s.cellsAt r)
  | _ => []
/-- slices.Collect of the keys of a map that holds one number at most -/
def collOne (s : St) (b c : Nat) (k : AVal) : R := match k with
  | .int .i64 n => sel (Nat.blt b c) (sel (ieq (wrapF .i64 n) n) (.ok (.slice s.next 0 1 none) (s.new (.cells [k] 1 true))) .bad) .bad
  | _ => .bad
def collOut (s : St) (m : Mp) : R := match m with
  | .mk [] _ => .ok .nilslice s
  | .mk [(k, _, b)] c => collOne s b c k
  | _ => .bad
def collC (s : St) (c : Cs) : R := match c with
  | .mk [.map m] _ _ => collOut s (s.mapAt m)
  | _ => .bad
def collR (f : FuncId) (args : List AVal) (s : St) : R := match args with
  | [.func g [] [.ptr c 0]] => sel (Nat.beq g f) (collC s (s.cellsAt c)) .bad
  | _ => .bad
def oColl (f : FuncId) : Orc := ⟨collR f⟩
/-- slices.Sorted of a map's keys that are texts -/
def strKeysA : List Entry → Option (List (List UInt8))
  | [] => some []
  | (k, _, _) :: l => match k, strKeysA l with
    | .str b, some r => some (b :: r)
    | _, _ => none
def insB (x : List UInt8) : List (List UInt8) → List (List UInt8)
  | [] => [x]
  | y :: l => sel (ltBytes y x) (y :: insB x l) (x :: y :: l)
def sortB : List (List UInt8) → List (List UInt8)
  | [] => []
  | x :: l => insB x (sortB l)
def strsA : List (List UInt8) → List AVal
  | [] => []
  | b :: l => .str b :: strsA l
def fewB : List (List UInt8) → Bool
  | [] => true
  | b :: l => sel (Nat.ble b.length 65536) (fewB l) false
def sortedOut (s : St) (o : Option (List (List UInt8))) : R := match o with
  | some [] => .ok .nilslice s
  | some l => sel (Nat.ble l.length 65536) (.ok (.slice s.next 0 l.length none) (s.new (.cells (strsA (sortB l)) 1 true))) .bad
  | none => .bad
def bornsA : List Entry → List Nat
  | [] => []
  | (_, _, b) :: l => b :: bornsA l
def ltAllN (n : Nat) : List Nat → Bool
  | [] => true
  | i :: l => sel (Nat.blt i n) (ltAllN n l) false
def ndN : List Nat → Bool
  | [] => true
  | i :: l => sel (hasN i l) false (ndN l)
def hasBy (b : List UInt8) : List (List UInt8) → Bool
  | [] => false
  | c :: l => sel (beqBytes b c) true (hasBy b l)
def ndB : List (List UInt8) → Bool
  | [] => true
  | b :: l => sel (hasBy b l) false (ndB l)
def goodKeys (es : List Entry) (c : Nat) (ks : Option (List (List UInt8))) : Bool := match ks with
  | some ks => sel (ltAllN c (bornsA es)) (sel (ndN (bornsA es)) (sel (ndB ks) (fewB ks) false) false) false
  | none => false
def sortedM (s : St) (m : Mp) : R := match m with
  | .mk es c => sel (goodKeys es c (strKeysA es)) (sortedOut s (strKeysA es)) .bad
  | .bad => .bad
def sortedC (s : St) (c : Cs) : R := match c with
  | .mk [.map m] _ _ => sortedM s (s.mapAt m)
  | _ => .bad
def sortedR (f : FuncId) (args : List AVal) (s : St) : R := match args with
  | [.func g [] [.ptr c 0]] => sel (Nat.beq g f) (sortedC s (s.cellsAt c)) .bad
  | _ => .bad
def oSorted (f : FuncId) : Orc := ⟨sortedR f⟩
def cloneOut (t : TypeId) (s : St) (m : Mp) : R := match m with
  | .mk es c => .ok (.iface t (.map s.next)) (s.new (.map es c))
  | .bad => .bad
def cloneR (args : List AVal) (s : St) : R := match args with
  | [.iface t (.map m)] => cloneOut t s (s.mapAt m)
  | _ => .bad
def oClone : Orc := ⟨cloneR⟩
def pureO (P : Program) (s : St) (e : Option (Array Value → Sem Value)) (vs : Option (List Value)) : R := match e, vs with
  | some e, some vs => V.ret s (pureV P (e vs.toArray))
  | _, _ => .bad
def oPure (P : Program) (fn : Func) : Orc := ⟨fun args s => pureO P s (Extern.find fn) (toVs args)⟩
/- bits.Add64, Sub64, Mul64, where a number may hang on what is not known -/
def inU (c a b : Int) : Bool := sel (ile (.ofNat 0) (lmin c a b)) (ile (lmax c a b) (.ofNat 18446744073709551615)) false
def pairS (c a b : Int) (h : Nat) : V := .ok (.tuple [mkS .u64 c a b, .int .u64 (.ofNat h)])
def addS (c a b : Int) : V := sel (inU c a b) (pairS c a b 0) (sel (inU (c - .ofNat 18446744073709551616) a b) (pairS (c - .ofNat 18446744073709551616) a b 1) .bad)
def subS (c a b : Int) : V := sel (inU c a b) (pairS c a b 0) (sel (inU (c + .ofNat 18446744073709551616) a b) (pairS (c + .ofNat 18446744073709551616) a b 1) .bad)
def twoU (k : IntKind) (c a b d e f : Int) (v : V) : V := sel (keq k .u64) (sel (inU c a b) (sel (inU d e f) v .bad) .bad) .bad
def addV (z : Nat) (p : Sy) : V := match p with
  | .mk k c a b d e f => sel (Nat.ble z 1) (twoU k c a b d e f (addS (c + d + .ofNat z) (a + e) (b + f))) .bad
  | .none => .bad
def subV (z : Nat) (p : Sy) : V := match p with
  | .mk k c a b d e f => sel (Nat.ble z 1) (twoU k c a b d e f (subS (c - d - .ofNat z) (a - e) (b - f))) .bad
  | .none => .bad
def isSy (p : Sy) : Bool := match p with
  | .mk _ _ _ _ _ _ _ => true
  | .none => false
def prodU (c a b : Int) : V := sel (inU c a b) (.ok (.tuple [.int .u64 (.ofNat 0), mkS .u64 c a b])) .bad
def mulU (c a b d e f : Int) : V := sel (sel (ieq a (.ofNat 0)) (ieq b (.ofNat 0)) false) (prodU (c * d) (c * e) (c * f))
  (sel (sel (ieq e (.ofNat 0)) (ieq f (.ofNat 0)) false) (prodU (d * c) (d * a) (d * b)) .bad)
def mulV (p : Sy) : V := match p with
  | .mk k c a b d e f => twoU k c a b d e f (mulU c a b d e f)
  | .none => .bad
def mulN (a b : Nat) : V := sel (Nat.blt a 18446744073709551616) (sel (Nat.blt b 18446744073709551616)
  (.ok (.tuple [.int .u64 (.ofNat (Nat.div (a * b) 18446744073709551616)), .int .u64 (.ofNat (Nat.mod (a * b) 18446744073709551616))])) .bad) .bad
def mulW (x y : AVal) : V := match x, y with
  | .int .u64 (.ofNat a), .int .u64 (.ofNat b) => mulN a b
  | x, y => mulV (symPair x y)
def mulR (args : List AVal) (s : St) : R := match args with
  | [x, y] => V.ret s (mulW x y)
  | _ => .bad
def oMul : Orc := ⟨mulR⟩
def oCarry (sub : Bool) (g : Orc) : Orc := ⟨fun args s => match args with
  | [x, y, .int .u64 (.ofNat z)] => sel (isSy (symPair x y)) (V.ret s (sel sub (subV z (symPair x y)) (addV z (symPair x y)))) (g.run args s)
  | args => g.run args s⟩
/-- confluencebook.Within at an argument as it came -/
def isNum (n : Nat) (v : AVal) : Bool := match v with
  | .int k m => sel (keq k .i64) (ieq m (.ofNat n)) false
  | _ => false
def withinR (p q : AVal) (args : List AVal) (s : St) : R := match args with
  | [.raw b, x, y] => sel (isNum 0 x) (sel (isNum 1000 y) (.ok (sel b p q) s) .bad) .bad
  | _ => .bad
def oWithin (p q : AVal) : Orc := ⟨withinR p q⟩
/-- the functions that are known otherwise -/
structure Names where
  join : FuncId
  add : FuncId
  sort1 : FuncId
  keys1 : FuncId
  coll2 : FuncId
  keys2 : FuncId
  clone : FuncId
  add64 : FuncId
  sub64 : FuncId
  trunc : FuncId
  mul64 : FuncId
def orcL (P : Program) (N : Names) (keep : FuncId → Keep) (fn : FuncId → Func) : List (Nat × Orc) :=
  [(N.join, oJoin), (N.add, oTwo P ⟨N.add, 3, 13, 12, addIds⟩ (keep N.add) (fn N.add)), (N.sort1, oSorted N.keys1), (N.coll2, oColl N.keys2), (N.clone, oClone), (N.add64, oCarry false (oPure P (fn N.add64))), (N.sub64, oCarry true (oPure P (fn N.sub64))), (N.trunc, oPure P (fn N.trunc)), (N.mul64, oMul)]
def orcT (l : List (Nat × Orc)) (f : FuncId) : Option Orc := (putL l .lf).get f
end
end Go.Proofs.YtchkcnecgfolmaaGreatDoor.Ev
namespace Go.Proofs.YtchkcnecgfolmaaGreatDoor.Ev
open Go
set_option linter.unusedSectionVars false
set_option linter.unusedVariables false
variable [Sig] {P : Program}

theorem pure_right {f : FuncId} {fn : Func} (hf : P.funcs[f]? = some fn) (hname : (fn.name == "runtime.NumGoroutine") = false) (hb : fn.body.isNone = true) (hn : Extern.findNext fn = none) : OrcOK P f (oPure P fn) := by
  intro args s v s' h r w us hr hv
  have h : pureO P s (Extern.find fn) (toVs args) = .ok v s' := h
  unfold pureO at h
  split at h
  · rename_i e vs he hvs
    obtain ⟨h1, rfl⟩ := ret_ok h
    have hus := toVs_ok r args vs us hvs hv
    subst hus
    obtain ⟨u, h2, h3⟩ := pureV_ok (P := P) (w := w) (r := r) h1
    refine .inl ⟨u, w, ?_, r, Ext.refl hr, h3⟩
    rw [run_callFunc_extern hf hname hb hn he, show (⟨us⟩ : Array Value) = us.toArray from rfl, h2]
    rfl
  · cases h

theorem run_clone {w : World} {r : Nat} {es : Array MapEntry} {clock : Nat} (t : TypeId) (hb : w.heap[r]? = some (.map es clock)) :
    (Extern.MapsClone.clone #[.iface t (.map (some r))]).run P w = .ok (.iface t (.map (some w.heap.size))) (w.alloc (.map es clock)) := by
  have e : Extern.MapsClone.clone #[.iface t (.map (some r))] = (getObj r >>= fun o => match o with
      | .map entries clock => (newObj (.map entries clock) >>= fun n => pure (.iface t (.map (some n))))
      | _ => stuck "maps.clone: a map expected") := rfl
  rw [e]
  simp [MapKept.run_getObj_map hb, Result.andThen, go_sem]
theorem clone_right {f : FuncId} {fn : Func} (hf : P.funcs[f]? = some fn) (hname : (fn.name == "runtime.NumGoroutine") = false) (hb : fn.body.isNone = true) (hn : Extern.findNext fn = none) (he : Extern.find fn = some Extern.MapsClone.clone) : OrcOK P f oClone := by
  intro args s v s' h r w us hr hv
  have h : cloneR args s = R.ok v s' := h
  unfold cloneR at h
  split at h
  · rename_i t m
    cases hv with
    | cons hv ht =>
      cases ht
      cases hv with
      | iface _ hv =>
        cases hv with
        | map hm =>
          rename_i x
          unfold cloneOut at h
          split at h
          · rename_i es c hma
            cases h
            obtain ⟨o, h1, h2⟩ := hr.block _ _ _ (mapAt_ok hma) hm
            obtain ⟨l, rfl, h3⟩ := h2
            refine .inl ⟨_, w.alloc (.map ⟨l⟩ c), ?_, r.at s.next ⟨w.heap.size, 0, 0⟩, Ext.new hr rfl (o := .map ⟨l⟩ c) (by show (w.alloc (.map ⟨l⟩ c)).heap[w.heap.size]? = _; unfold World.alloc; exact Array.getElem?_push_size) ⟨l, rfl, h3.mono (r.at_le _ (hr.none_next (Nat.le_refl _)))⟩ (fun k hk => ?_) (by simp) rfl rfl rfl, .iface _ (.map (Rho.at_same _ _ _))⟩
            · rw [run_callFunc_extern hf hname hb hn he]
              exact congrArg (fun x => x.andThen fun v w' => Result.ok (Next.value v) w') (run_clone _ h1)
            · exact Go.RowKit.Below.heap_alloc w _ k hk
          · cases h
  · cases h
end Go.Proofs.YtchkcnecgfolmaaGreatDoor.Ev
namespace Go.Proofs.YtchkcnecgfolmaaGreatDoor.Ev
open Go
set_option linter.unusedSectionVars false
set_option linter.unusedVariables false
set_option linter.unusedSimpArgs false
variable [Sig] {P : Program}

/-- the model's word for bits.Sub64 -/
noncomputable def subEntry : Array Value → Sem Value := fun args => do
  let (x, y, b) ← Extern.MathBitsCarry.three "Sub64" args
  pure (Extern.MathBitsCarry.pair ((x + Extern.MathBitsCarry.m64 - y - b) % Extern.MathBitsCarry.m64) (if x < y + b then 1 else 0))
theorem run_sub (x y b : Nat) (hb : b ≤ 1) (w : World) :
    (subEntry #[.int .u64 x, .int .u64 y, .int .u64 b]).run P w =
      .ok (.tuple #[.int .u64 (((x + 18446744073709551616 - y - b) % 18446744073709551616 : Nat) : Int), .int .u64 ((if x < y + b then 1 else 0 : Nat) : Int)]) w := by
  have : b = 0 ∨ b = 1 := by omega
  rcases this with rfl | rfl <;> rfl
theorem inU_ok {c a b : Int} (h : inU c a b = true) : 0 ≤ c + a * Sig.x + b * Sig.y ∧ c + a * Sig.x + b * Sig.y ≤ 18446744073709551615 := by
  have h1 := lmin_le c a b
  have h2 := le_lmax c a b
  obtain ⟨h3, h4⟩ := sel_both h
  rw [ile_eq, decide_eq_true_iff] at h3 h4
  have h3 : (0 : Int) ≤ lmin c a b := h3
  have h4 : lmax c a b ≤ 18446744073709551615 := h4
  exact ⟨by omega, by omega⟩
theorem twoU_ok {k : IntKind} {c a b d e f : Int} {v w : AVal} {x : V} (h : twoU k c a b d e f x = .ok v) : k = .u64 ∧ inU c a b = true ∧ inU d e f = true ∧ x = .ok v := by
  unfold twoU at h
  rcases sel_eq h with ⟨h1, h⟩ | ⟨_, h⟩
  · rcases sel_eq h with ⟨h2, h⟩ | ⟨_, h⟩
    · rcases sel_eq h with ⟨h3, h⟩ | ⟨_, h⟩
      · exact ⟨keq_eq h1, h2, h3, h⟩
      · cases h
    · cases h
  · cases h
theorem pairS_ok {r : Rho} {c a b : Int} {h : Nat} {v : AVal} (e : pairS c a b h = .ok v) {n m : Int} (hn : n = c + a * Sig.x + b * Sig.y) (hm : m = h) : VR r v (.tuple #[.int .u64 n, .int .u64 m]) := by
  cases e
  subst hm
  exact .tuple (.cons (mkS_ok .u64 hn) (.cons (.int _ _) .nil))
theorem addS_ok {r : Rho} {c a b : Int} {v : AVal} (h : addS c a b = .ok v) {n : Int} (hn : n = c + a * Sig.x + b * Sig.y) : VR r v (.tuple #[.int .u64 (n % 18446744073709551616), .int .u64 (n / 18446744073709551616)]) := by
  unfold addS at h
  rcases sel_eq h with ⟨h1, h⟩ | ⟨_, h⟩
  · obtain ⟨h2, h3⟩ := inU_ok h1
    exact pairS_ok h (by omega) (by omega)
  · rcases sel_eq h with ⟨h1, h⟩ | ⟨_, h⟩
    · obtain ⟨h2, h3⟩ := inU_ok h1
      have e : (Int.ofNat 18446744073709551616) = (18446744073709551616 : Int) := rfl
      rw [e] at h h2 h3
      exact pairS_ok h (by omega) (by omega)
    · cases h
theorem subS_ok {r : Rho} {c a b : Int} {v : AVal} (h : subS c a b = .ok v) {n : Int} (hn : n = c + a * Sig.x + b * Sig.y) (hlo : -18446744073709551616 ≤ n) (hhi : n ≤ 18446744073709551615) :
    VR r v (.tuple #[.int .u64 ((n + 18446744073709551616) % 18446744073709551616), .int .u64 (if n < 0 then 1 else 0)]) := by
  unfold subS at h
  rcases sel_eq h with ⟨h1, h⟩ | ⟨_, h⟩
  · obtain ⟨h2, h3⟩ := inU_ok h1
    exact pairS_ok h (by omega) (by rw [if_neg (by omega)]; rfl)
  · rcases sel_eq h with ⟨h1, h⟩ | ⟨_, h⟩
    · obtain ⟨h2, h3⟩ := inU_ok h1
      have e : (Int.ofNat 18446744073709551616) = (18446744073709551616 : Int) := rfl
      rw [e] at h h2 h3
      by_cases hneg : n < 0
      · exact pairS_ok h (by omega) (by rw [if_pos hneg]; rfl)
      · omega
    · cases h

theorem isSy_ok {p : Sy} (h : isSy p = true) : ∃ k c a b d e f, p = .mk k c a b d e f := by
  cases p with
  | none => cases h
  | mk k c a b d e f => exact ⟨k, c, a, b, d, e, f, rfl⟩
theorem carry_right {f : FuncId} {fn : Func} (sub : Bool) (hf : P.funcs[f]? = some fn) (hname : (fn.name == "runtime.NumGoroutine") = false) (hb : fn.body.isNone = true) (hn : Extern.findNext fn = none)
    (he : Extern.find fn = some (if sub then subEntry else add64Entry)) : OrcOK P f (oCarry sub (oPure P fn)) := by
  intro args s v s' h r w us hr hv
  unfold oCarry at h
  simp only at h
  have hpure := pure_right hf hname hb hn
  split at h
  · rename_i x y z
    rcases sel_eq h with ⟨h1, h⟩ | ⟨_, h⟩
    · obtain ⟨h2, rfl⟩ := ret_ok h
      obtain ⟨k, c, a, b, d, e, g, hp⟩ := isSy_ok h1
      rw [hp] at h2
      cases hv with
      | cons hx ht => cases ht with
        | cons hy ht => cases ht with
          | cons hz ht =>
            cases ht
            cases hz
            obtain ⟨rfl, rfl⟩ := symPair_ok hp hx hy
            cases sub
            · have h2 : sel (Nat.ble z 1) (twoU k c a b d e g (addS (c + d + .ofNat z) (a + e) (b + g))) .bad = .ok v := h2
              rcases sel_eq h2 with ⟨h3, h2⟩ | ⟨_, h2⟩
              · obtain ⟨rfl, h4, h5, h6⟩ := twoU_ok (w := v) h2
                obtain ⟨h7, h8⟩ := inU_ok h4
                obtain ⟨h9, h10⟩ := inU_ok h5
                have hz := ble_is h3
                refine .inl ⟨_, w, ?_, r, Ext.refl hr, addS_ok h6 (n := (c + a * Sig.x + b * Sig.y) + (d + e * Sig.x + g * Sig.y) + z) (by rw [Int.add_mul, Int.add_mul]; show _ = c + d + (z : Int) + _ + _; omega)⟩
                rw [run_callFunc_extern hf hname hb hn he]
                show ((add64Entry #[_, _, _]).run P w).andThen _ = _
                rw [show (Int.ofNat z) = (z : Int) from rfl, run_add64 _ _ _ h7 h9 (by omega) (by omega)]
                rfl
              · cases h2
            · have h2 : sel (Nat.ble z 1) (twoU k c a b d e g (subS (c - d - .ofNat z) (a - e) (b - g))) .bad = .ok v := h2
              rcases sel_eq h2 with ⟨h3, h2⟩ | ⟨_, h2⟩
              · obtain ⟨rfl, h4, h5, h6⟩ := twoU_ok (w := v) h2
                obtain ⟨h7, h8⟩ := inU_ok h4
                obtain ⟨h9, h10⟩ := inU_ok h5
                have hz := ble_is h3
                have hE : (c + a * Sig.x + b * Sig.y) - (d + e * Sig.x + g * Sig.y) - z = c - d - (z : Int) + (a - e) * Sig.x + (b - g) * Sig.y := by rw [Int.sub_mul, Int.sub_mul]; omega
                have hres := subS_ok (r := r) h6 (n := (c + a * Sig.x + b * Sig.y) - (d + e * Sig.x + g * Sig.y) - z) hE (by omega) (by omega)
                generalize c + a * Sig.x + b * Sig.y = X at h7 h8 hres
                generalize d + e * Sig.x + g * Sig.y = Y at h9 h10 hres
                obtain ⟨X, rfl⟩ := Int.eq_ofNat_of_zero_le h7
                obtain ⟨Y, rfl⟩ := Int.eq_ofNat_of_zero_le h9
                refine .inl ⟨_, w, ?_, r, Ext.refl hr, hres⟩
                rw [run_callFunc_extern hf hname hb hn he]
                show ((subEntry #[_, _, _]).run P w).andThen _ = _
                rw [show (Int.ofNat z) = (z : Int) from rfl, run_sub _ _ _ hz]
                have e1 : (((X + 18446744073709551616 - Y - z) % 18446744073709551616 : Nat) : Int) = ((X : Int) - Y - z + 18446744073709551616) % 18446744073709551616 := by omega
                have e2 : ((if X < Y + z then 1 else 0 : Nat) : Int) = (if (X : Int) - Y - z < 0 then 1 else 0) := by
                  by_cases hlt : X < Y + z
                  · rw [if_pos hlt, if_pos (by omega)]; rfl
                  · rw [if_neg hlt, if_neg (by omega)]; rfl
                rw [e1, e2]
                rfl
              · cases h2
    · exact hpure _ s v s' h r w us hr hv
  · exact hpure _ s v s' h r w us hr hv

theorem prodU_ok {r : Rho} {c a b : Int} {v : AVal} (h : prodU c a b = .ok v) {n : Int} (hn : n = c + a * Sig.x + b * Sig.y) : VR r v (.tuple #[.int .u64 (n / 18446744073709551616), .int .u64 (n % 18446744073709551616)]) := by
  unfold prodU at h
  rcases sel_eq h with ⟨h1, h⟩ | ⟨_, h⟩
  · cases h
    obtain ⟨h2, h3⟩ := inU_ok h1
    have e1 : n / 18446744073709551616 = Int.ofNat 0 := by show _ = (0 : Int); omega
    have e2 : n % 18446744073709551616 = n := by omega
    rw [e1, e2]
    exact .tuple (.cons (.int _ _) (.cons (mkS_ok .u64 hn) .nil))
  · cases h
theorem mulU_ok {r : Rho} {c a b d e f : Int} {v : AVal} (h : mulU c a b d e f = .ok v) {n : Int} (hn : n = (c + a * Sig.x + b * Sig.y) * (d + e * Sig.x + f * Sig.y)) :
    VR r v (.tuple #[.int .u64 (n / 18446744073709551616), .int .u64 (n % 18446744073709551616)]) := by
  unfold mulU at h
  rcases sel_eq h with ⟨h1, h2⟩ | ⟨_, h2⟩
  · obtain ⟨h6, h7⟩ := sel_both h1
    rw [ieq_eq] at h6 h7
    have h6 : a = 0 := eq_of_beq h6
    have h7 : b = 0 := eq_of_beq h7
    subst h6 h7
    refine prodU_ok h2 ?_
    rw [hn, Int.zero_mul, Int.zero_mul, Int.add_zero, Int.add_zero, Int.mul_add, Int.mul_add, Int.mul_assoc, Int.mul_assoc]
  · rcases sel_eq h2 with ⟨h1, h2⟩ | ⟨_, h2⟩
    · obtain ⟨h6, h7⟩ := sel_both h1
      rw [ieq_eq] at h6 h7
      have h6 : e = 0 := eq_of_beq h6
      have h7 : f = 0 := eq_of_beq h7
      subst h6 h7
      refine prodU_ok h2 ?_
      rw [hn, Int.zero_mul, Int.zero_mul, Int.add_zero, Int.add_zero, Int.mul_comm _ d, Int.mul_add, Int.mul_add, Int.mul_assoc, Int.mul_assoc]
    · cases h2
theorem mul_right {f : FuncId} {fn : Func} {b : Code} (hf : P.funcs[f]? = some fn) (hname : (fn.name == "runtime.NumGoroutine") = false) (hb : fn.body = some b)
    (hc : ∀ (x y : Nat), x < 18446744073709551616 → y < 18446744073709551616 → ∀ w, Calls P f #[.int .u64 x, .int .u64 y] w fun e w' => e = .returned (.tuple #[.int .u64 ((x * y / 18446744073709551616 : Nat) : Int), .int .u64 ((x * y % 18446744073709551616 : Nat) : Int)]) ∧ w' = w) : OrcOK P f oMul := by
  intro args s v s' h r w us hr hv
  have hcf : ∀ args w, (callFunc f args).run P w = .ok (.enter f args) w := fun args w => by
    have hname' : fn.name ≠ "runtime.NumGoroutine" := by simpa using hname
    simp [callFunc, hf, hname', hb]
  have h : mulR args s = .ok v s' := h
  unfold mulR at h
  split at h
  · rename_i x y
    obtain ⟨h1, rfl⟩ := ret_ok h
    cases hv with
    | cons hx ht => cases ht with
      | cons hy ht =>
        cases ht
        unfold mulW at h1
        split at h1
        · rename_i a b'
          cases hx
          cases hy
          unfold mulN at h1
          rcases sel_eq h1 with ⟨h2, h1⟩ | ⟨_, h1⟩
          · rcases sel_eq h1 with ⟨h3, h1⟩ | ⟨_, h1⟩
            · cases h1
              refine .inr ⟨hcf _ _, (hc a b' (blt_is h2) (blt_is h3) w).mono fun e w' ⟨he, hw⟩ => ⟨_, he, r, by subst hw; exact Ext.refl hr, .tuple (.cons (.int _ _) (.cons (.int _ _) .nil))⟩⟩
            · cases h1
          · cases h1
        · unfold mulV at h1
          split at h1
          · rename_i k c a b' d e g hp
            obtain ⟨rfl, h4, h5, h6⟩ := twoU_ok (w := v) h1
            obtain ⟨rfl, rfl⟩ := symPair_ok hp hx hy
            obtain ⟨h7, h8⟩ := inU_ok h4
            obtain ⟨h9, h10⟩ := inU_ok h5
            have hres := mulU_ok (r := r) h6 rfl
            generalize c + a * Sig.x + b' * Sig.y = X at h7 h8 hres
            generalize d + e * Sig.x + g * Sig.y = Y at h9 h10 hres
            obtain ⟨X, rfl⟩ := Int.eq_ofNat_of_zero_le h7
            obtain ⟨Y, rfl⟩ := Int.eq_ofNat_of_zero_le h9
            refine .inr ⟨hcf _ _, (hc X Y (by omega) (by omega) w).mono fun e w' ⟨he, hw⟩ => ⟨_, he, r, by subst hw; exact Ext.refl hr, ?_⟩⟩
            rw [Int.natCast_ediv, Int.natCast_emod, Int.natCast_mul]
            exact hres
          · cases h1
  · cases h
end Go.Proofs.YtchkcnecgfolmaaGreatDoor.Ev
namespace Go.Proofs.YtchkcnecgfolmaaGreatDoor.Ev
open Go Go.Sort
open Go.WideElems (Fit rd rg)
set_option linter.unusedSectionVars false
set_option linter.unusedVariables false
set_option linter.unusedSimpArgs false
variable [Sig] {P : Program}

/-- a new block that lies anywhere behind the old ones -/
theorem Ext.newHi {r : Rho} {s : St} {w u : World} (h : Rel r s w) {c : ABlk} {x : RB} {o : Obj} (hb : w.heap.size ≤ x.blk)
    (hu : u.heap[x.blk]? = some o) (hr : BR (r.at s.next x) c x o) (hf : ∀ k, k < w.heap.size → u.heap[k]? = w.heap[k]?) (hs : w.heap.size ≤ u.heap.size)
    (ho : u.os = w.os) (ht : u.tape = w.tape) (hp : u.output = w.output) : Ext r s w (r.at s.next x) (s.new c) u := by
  have hn := h.none_next (Nat.le_refl s.next)
  have hlt : ∀ {k e z}, s.get k = some e → r k = some z → z.blk < w.heap.size := fun {k e z} he hz => by
    obtain ⟨o', h1, _⟩ := h.block k e z he hz
    exact (Array.getElem?_eq_some_iff.1 h1).1
  refine ⟨⟨⟨fun j d y hd hy => ?_, fun j hj => ?_⟩, fun j k d e y z hd he hy hz hyz => ?_, fun j y hy => ?_⟩, r.at_le x hn, by rw [St.next_new]; omega, ho, ht, hp, hs, fun k hk _ => hf k hk, fun j hj hn d hd => by rw [St.get_new, if_neg (by omega)] at hd; exact hd,
    fun j hj hn => by rw [St.get_new, if_neg (by omega)]; exact hn, fun k ⟨j, d, y, hd, hy, hk⟩ => ?_, fun j hn hp => ?_⟩
  · rw [St.get_new] at hd
    by_cases hj : s.next = j
    · subst hj
      rw [if_pos rfl] at hd
      cases hd
      rw [Rho.at_same] at hy
      cases hy
      exact ⟨o, hu, hr⟩
    · rw [if_neg hj] at hd
      rw [Rho.at_ne r x (Ne.symm hj)] at hy
      obtain ⟨o', h1, h2⟩ := h.block j d y hd hy
      refine ⟨o', ?_, h2.mono (r.at_le x hn)⟩
      rw [hf y.blk (Array.getElem?_eq_some_iff.1 h1).1]
      exact h1
  · rw [St.next_new] at hj
    rw [St.get_new, if_neg (by omega)]
    exact h.far j (by omega)
  · rw [St.get_new] at hd he
    by_cases hj : s.next = j <;> by_cases hk : s.next = k
    · omega
    · rw [if_neg hk] at he
      rw [Rho.at_ne r x (Ne.symm hk)] at hz
      rw [← hj, Rho.at_same] at hy
      cases hy
      have := hlt he hz
      omega
    · rw [if_neg hj] at hd
      rw [Rho.at_ne r x (Ne.symm hj)] at hy
      rw [← hk, Rho.at_same] at hz
      cases hz
      have := hlt hd hy
      omega
    · rw [if_neg hj] at hd
      rw [if_neg hk] at he
      rw [Rho.at_ne r x (Ne.symm hj)] at hy
      rw [Rho.at_ne r x (Ne.symm hk)] at hz
      exact h.apart j k d e y z hd he hy hz hyz
  · rw [St.next_new]
    by_cases hj : j = s.next
    · omega
    · rw [Rho.at_ne r x hj] at hy
      have := h.known j y hy
      omega
  · rw [St.get_new] at hd
    by_cases hj : s.next = j
    · subst hj
      rw [Rho.at_same] at hy
      cases hy
      exact .inr (by omega)
    · rw [if_neg hj] at hd
      rw [Rho.at_ne r x (Ne.symm hj)] at hy
      exact .inl ⟨j, d, y, hd, hy, hk⟩
  · by_cases hj : j = s.next
    · omega
    · rw [Rho.at_ne r x hj] at hp
      exact absurd hn hp

/- sorting -/
theorem insB_perm (x : List UInt8) : ∀ l : List (List UInt8), (insB x l).Perm (x :: l)
  | [] => List.Perm.refl _
  | y :: l => by
    show (sel (ltBytes y x) (y :: insB x l) (x :: y :: l)).Perm _
    cases ltBytes y x
    · exact List.Perm.refl _
    · exact ((insB_perm x l).cons y).trans (List.Perm.swap x y l)
theorem sortB_perm : ∀ l : List (List UInt8), (sortB l).Perm l
  | [] => List.Perm.refl _
  | x :: l => (insB_perm x (sortB l)).trans ((sortB_perm l).cons x)
theorem ltB_iff (a b : List UInt8) : ltBytes a b = decide (a < b) := by rw [ltBytes_eq, bytesLess_eq]
theorem insB_sorted (x : List UInt8) : ∀ l : List (List UInt8), l.Pairwise (fun a b => leB a b = true) → (insB x l).Pairwise (fun a b => leB a b = true)
  | [], _ => List.pairwise_singleton _ _
  | y :: l, h => by
    obtain ⟨h1, h2⟩ := List.pairwise_cons.1 h
    show (sel (ltBytes y x) (y :: insB x l) (x :: y :: l)).Pairwise _
    rw [ltB_iff]
    by_cases hlt : y < x
    · rw [decide_eq_true hlt]
      refine List.pairwise_cons.2 ⟨fun z hz => ?_, insB_sorted x l h2⟩
      rcases List.mem_cons.1 ((insB_perm x l).mem_iff.1 hz) with rfl | hz
      · exact decide_eq_true (List.le_of_lt hlt)
      · exact h1 z hz
    · rw [decide_eq_false hlt]
      have hxy : x ≤ y := List.not_lt.1 hlt
      refine List.pairwise_cons.2 ⟨fun z hz => ?_, h⟩
      rcases List.mem_cons.1 hz with rfl | hz
      · exact decide_eq_true hxy
      · have := h1 z hz
        simp only [leB, decide_eq_true_eq] at this ⊢
        exact List.le_trans hxy this
theorem sortB_sorted : ∀ l : List (List UInt8), (sortB l).Pairwise (fun a b => leB a b = true)
  | [] => .nil
  | x :: l => insB_sorted x _ (sortB_sorted l)
theorem sortB_eq {l ss : List (List UInt8)} (h : ss.Perm l) : ss.mergeSort (fun x y => decide (x ≤ y)) = sortB l := by
  have tr : ∀ a b c : List UInt8, leB a b = true → leB b c = true → leB a c = true := fun a b c h1 h2 => by simp only [leB, decide_eq_true_eq] at *; exact List.le_trans h1 h2
  have to : ∀ a b : List UInt8, (leB a b || leB b a) = true := fun a b => by simp only [leB, Bool.or_eq_true, decide_eq_true_eq]; exact List.le_total a b
  refine List.Perm.eq_of_pairwise (le := fun a b => leB a b = true) (fun a b _ _ h1 h2 => ?_) (List.pairwise_mergeSort tr to ss) (sortB_sorted l) (((List.mergeSort_perm ss leB).trans h).trans (sortB_perm l).symm)
  simp only [leB, decide_eq_true_eq] at h1 h2
  exact List.le_antisymm h1 h2

/- keys -/
theorem fewB_ok : ∀ {l : List (List UInt8)}, fewB l = true → ∀ b ∈ l, b.length ≤ 65536
  | b :: l, h, c, hc => by
    obtain ⟨h1, h2⟩ := sel_both h
    rcases List.mem_cons.1 hc with rfl | hc
    · exact ble_is h1
    · exact fewB_ok h2 c hc
theorem ltAllN_ok {n : Nat} : ∀ {L : List Nat}, ltAllN n L = true → ∀ i ∈ L, i < n
  | a :: L, h, i, hi => by
    obtain ⟨h1, h2⟩ := sel_both h
    rcases List.mem_cons.1 hi with hi | hi
    · subst hi; exact blt_is h1
    · exact ltAllN_ok h2 i hi
theorem ndN_ok : ∀ {L : List Nat}, ndN L = true → L.Nodup
  | [], _ => List.nodup_nil
  | a :: L, h => by
    have h : sel (hasN a L) false (ndN L) = true := h
    cases ha : hasN a L
    · rw [ha] at h
      rw [hasN_ok] at ha
      refine List.nodup_cons.2 ⟨fun hm => ?_, ndN_ok h⟩
      rw [List.contains_iff_mem.2 hm] at ha
      cases ha
    · rw [ha] at h; cases h
theorem hasBy_ok {b : List UInt8} : ∀ {l : List (List UInt8)}, hasBy b l = false → b ∉ l
  | [], _, h => by cases h
  | c :: l, h, hm => by
    have h : sel (beqBytes b c) true (hasBy b l) = false := h
    cases hb : beqBytes b c
    · rw [hb] at h
      rcases List.mem_cons.1 hm with rfl | hm
      · rw [beqBytes_eq, beq_self_eq_true] at hb; cases hb
      · exact hasBy_ok h hm
    · rw [hb] at h; cases h
theorem ndB_ok : ∀ {L : List (List UInt8)}, ndB L = true → L.Nodup
  | [], _ => List.nodup_nil
  | a :: L, h => by
    have h : sel (hasBy a L) false (ndB L) = true := h
    cases ha : hasBy a L
    · rw [ha] at h
      exact List.nodup_cons.2 ⟨hasBy_ok ha, ndB_ok h⟩
    · rw [ha] at h; cases h
theorem strKeysA_ok {r : Rho} : ∀ {es : List Entry} {l : List MapEntry} {ks : List (List UInt8)}, strKeysA es = some ks → ERs r es l → l.map (·.key) = ks.map encStr ∧ l.map (·.born) = bornsA es
  | [], _, _, h, .nil => by cases h; exact ⟨rfl, rfl⟩
  | (k, v, b) :: es, m :: l, ks, h, .cons hh ht => by
    simp only [strKeysA] at h
    split at h
    · rename_i x ks' h1
      cases h
      obtain ⟨h2, h3⟩ := strKeysA_ok h1 ht
      obtain ⟨e1, _, e3⟩ := hh
      refine ⟨?_, ?_⟩
      · rw [List.map_cons, List.map_cons, h2]
        generalize m.key = mk at e1
        cases e1
        rfl
      · show m.born :: _ = b :: _
        rw [h3]
        exact congrArg (· :: _) e3
    · cases h
/-- how values read: all alike -/
def anyR : Value → Option (DataW Unit × List MemPlace) := fun _ => some (.nil, [])
theorem rd_any {k : TypeId} (hk : P.underlying k = some .string) {m : MapEntry} {b : List UInt8} (hm : m.key = encStr b) (hb : b.length ≤ 65536) : rd P k anyR m = some (.string b, .nil) := by
  unfold rd
  rw [hm, show encStr b = .string ⟨⟨b⟩⟩ from rfl, Go.WideMaps.keyOf_string_mk hk (by show b.length ≤ maxLen; exact Nat.le_trans hb (by decide))]
  rfl
theorem fit_any {k : TypeId} (hk : P.underlying k = some .string) {l : List MapEntry} {ks : List (List UInt8)} {c : Nat} (h1 : l.map (·.key) = ks.map encStr) (h2 : ∀ m ∈ l, m.born < c) (h3 : (l.map (·.born)).Nodup) (h4 : ks.Nodup) (h5 : ∀ b ∈ ks, b.length ≤ 65536) (h6 : ks.length ≤ 65536) :
    Fit P k anyR ⟨l⟩ c := by
  have hlen : l.length = ks.length := by have := congrArg List.length h1; simpa using this
  refine ⟨by show l.length ≤ maxLen; rw [hlen]; exact Nat.le_trans h6 (by decide), ⟨h2, h3, ?_⟩, fun m hm => ?_⟩
  · show (l.map (·.key)).Nodup
    rw [h1]
    exact List.pairwise_map.2 (h4.imp fun {a b} hne e => hne (encStr_inj e))
  · obtain ⟨b, hb, e⟩ : ∃ b ∈ ks, encStr b = m.key := by
      have : m.key ∈ ks.map encStr := by rw [← h1]; exact List.mem_map_of_mem hm
      obtain ⟨b, hb, e⟩ := List.mem_map.1 this
      exact ⟨b, hb, e⟩
    exact ⟨_, rd_any hk e.symm (h5 b hb)⟩
theorem keys_any {k : TypeId} (hk : P.underlying k = some .string) : ∀ {l : List MapEntry} {ks : List (List UInt8)}, l.map (·.key) = ks.map encStr → (∀ b ∈ ks, b.length ≤ 65536) → (l.map (rg P k anyR)).map (fun p => strOf p.1) = ks
  | [], [], _, _ => rfl
  | [], _ :: _, h, _ => by cases h
  | _ :: _, [], h, _ => by cases h
  | m :: l, b :: ks, h, h5 => by
    rw [List.map_cons, List.map_cons] at h
    injection h with h1 h2
    rw [List.map_cons, List.map_cons, keys_any hk h2 fun b hb => h5 b (List.mem_cons_of_mem _ hb)]
    have : rg P k anyR m = (.string b, .nil) := by
      unfold rg
      rw [rd_any hk h1 (h5 b List.mem_cons_self)]
      rfl
    rw [this]
    rfl
theorem goodKeys_ok {es : List Entry} {c : Nat} {o : Option (List (List UInt8))} (h : goodKeys es c o = true) : ∃ ks, o = some ks ∧ ltAllN c (bornsA es) = true ∧ ndN (bornsA es) = true ∧ ndB ks = true ∧ fewB ks = true := by
  unfold goodKeys at h
  split at h
  · obtain ⟨h1, h⟩ := sel_both h
    obtain ⟨h2, h⟩ := sel_both h
    obtain ⟨h3, h4⟩ := sel_both h
    exact ⟨_, rfl, h1, h2, h3, h4⟩
  · cases h
/-- a map that is known, as the shelf's contracts want it -/
theorem owns_any {r : Rho} {s : St} {w : World} (h : RelB r s w) {k : TypeId} (hk : P.underlying k = some .string) {m : Nat} {y : RB} (hm : r m = some y) {es : List Entry} {c : Nat} (hes : s.mapAt m = .mk es c) {ks : List (List UInt8)} (hks : strKeysA es = some ks)
    (h1 : ltAllN c (bornsA es) = true) (h2 : ndN (bornsA es) = true) (h3 : ndB ks = true) (h4 : fewB ks = true) (h5 : ks.length ≤ 65536) :
    ∃ D0 : DataW Unit, w.ownsMap P k anyR y.blk ks.length D0 ∧ (strKeys D0).Perm ks ∧ Maps.size D0 = ks.length := by
  obtain ⟨l, h6, h7⟩ := mapAt_run h hm hes
  obtain ⟨h8, h9⟩ := strKeysA_ok hks h7
  have hlen : l.length = ks.length := by have := congrArg List.length h8; simpa using this
  have hfit : Fit P k anyR ⟨l⟩ c := fit_any hk h8 (fun x hx => ltAllN_ok h1 x.born (by rw [← h9]; exact List.mem_map_of_mem hx)) (by rw [h9]; exact ndN_ok h2) (ndB_ok h3) (fewB_ok h4) h5
  refine ⟨_, ⟨⟨l⟩, c, h6, hfit, by show l.length ≤ _; omega, rfl⟩, ?_, ?_⟩
  · show (((l.map (rg P k anyR)).foldr DataW.insert []).map fun p => strOf p.1).Perm ks
    have := (Go.WideShapes.sorted_perm (l.map (rg P k anyR))).map fun p => strOf p.1
    rw [keys_any hk h8 (fewB_ok h4)] at this
    exact this
  · show ((l.map (rg P k anyR)).foldr DataW.insert []).length = _
    rw [(Go.WideShapes.sorted_perm (l.map (rg P k anyR))).length_eq, List.length_map, hlen]
theorem strsA_ok {r : Rho} : ∀ l : List (List UInt8), VRs r (strsA l) (l.map encStr)
  | [] => .nil
  | b :: l => .cons (.str b) (strsA_ok l)

/-- slices.Sorted of a map's keys -/
theorem sorted_right {f g : FuncId} {fn : Func} {b : Code} (hf : P.funcs[f]? = some fn) (hname : (fn.name == "runtime.NumGoroutine") = false) (hb : fn.body = some b) {k : TypeId} (hk : P.underlying k = some .string)
    (hc : ∀ (Bm m n : Nat) (D0 : DataW Unit) (w : World), Bm < w.heap.size → w.cell? ⟨Bm, 0, none⟩ = some (.map (some m)) → w.ownsMap P k anyR m n D0 → Maps.size D0 ≤ 65536 →
      Calls P f #[.func (.func g) #[] #[.pointer (some ⟨Bm, 0, none⟩)]] w fun e w' => ∃ (v : Value) (ss : List (List UInt8)), e = .returned v ∧ ss.Perm (strKeys D0) ∧
        w'.ownsRow w.heap.size k 1 v ss.length ((ss.mergeSort (fun x y => decide (x ≤ y))).map encStr) ∧ (v = .slice none 0 0 ↔ ss = []) ∧ Go.RowKit.Below w.heap.size w w') : OrcOK P f (oSorted g) := by
  intro args s v s' h r w us hr hv
  have hcf : ∀ args w, (callFunc f args).run P w = .ok (.enter f args) w := fun args w => by
    have hname' : fn.name ≠ "runtime.NumGoroutine" := by simpa using hname
    simp [callFunc, hf, hname', hb]
  have h : sortedR g args s = .ok v s' := h
  unfold sortedR at h
  split at h
  · rename_i g' c
    have h1 := selR_good h
    clear h
    obtain ⟨hg, h⟩ := h1
    have hg := beq_is hg
    subst hg
    cases hv with
    | cons h1 ht =>
      cases ht
      cases h1 with
      | func _ ha hcap =>
        cases ha
        cases hcap with
        | cons h2 ht =>
          cases ht
          cases h2 with
          | @ptr _ _ x hx =>
            unfold sortedC at h
            split at h
            · rename_i m e o hcs
              obtain ⟨ob, hob, hez, vs, rest, et, fr, rfl, hvs, hlen, hop, hfz⟩ := hr.block _ _ x (cellsAt_ok hcs) hx
              cases hvs with
              | cons hm ht =>
                cases ht
                cases hm with
                | @map _ y hy =>
                  unfold sortedM at h
                  split at h
                  · rename_i es cl hes
                    obtain ⟨hgood, h⟩ := selR_good h
                    obtain ⟨ks, hks, g1, g2, g3, g4⟩ := goodKeys_ok hgood
                    rw [hks] at h
                    have hcell : w.cell? ⟨x.blk, 0, none⟩ = some (.map (some y.blk)) := by
                      rw [cell_of hob]
                      rfl
                    have hblk := (Array.getElem?_eq_some_iff.1 hob).1
                    have hfin : ks.length ≤ 65536 → ∀ (u : Value) (w' : World), (∃ (v : Value) (ss : List (List UInt8)), u = v ∧ ss.Perm ks ∧ w'.ownsRow w.heap.size k 1 v ss.length ((ss.mergeSort (fun x y => decide (x ≤ y))).map encStr) ∧ (v = .slice none 0 0 ↔ ss = []) ∧ Go.RowKit.Below w.heap.size w w') →
                        ∃ q, Ext r s w q s' w' ∧ VR q v u := by
                      rintro hle u w' ⟨_, ss, rfl, hp, hrow, hnil, hbel⟩
                      unfold sortedOut at h
                      split at h
                      · rename_i hke
                        cases hke
                        cases h
                        have := hp.eq_nil
                        rw [hnil.2 this]
                        exact ⟨r, (Ext.refl hr).grow hbel.block hbel.size hbel.os hbel.tape hbel.output, .nilslice⟩
                      · rename_i l hne hke
                        cases hke
                        obtain ⟨_, h⟩ := selR_good h
                        cases h
                        have hsl := hp.length_eq
                        rcases hrow.2 with ⟨rfl, hz⟩ | ⟨gb, cap, cur, rfl, hbase, hgb, r1, r2, r3, r4⟩
                        · exact absurd (List.eq_nil_of_length_eq_zero (by omega)) (fun e => hne (by subst e; exact hp.symm.eq_nil))
                        · rw [sortB_eq hp, Nat.mul_one] at r4
                          refine ⟨_, Ext.newHi hr (x := ⟨gb, cap, 1⟩) hbase hgb ⟨rfl, cur.toList.take ss.length, cur.toList.drop ss.length, k, (0, 0), ?_, ?_, ?_, (fun h => by cases h), (fun i hi h => by have := h.2; simp at this)⟩ hbel.block hbel.size hbel.os hbel.tape hbel.output, ?_⟩
                          · rw [List.take_append_drop]
                          · rw [r4]
                            exact strsA_ok _
                          · rw [List.take_append_drop]
                            show cur.size = cap
                            omega
                          · rw [← hsl]
                            exact .slice (Rho.at_same _ _ _) r1 (fun _ h => by cases h) (fun _ => by simp)
                      · cases h
                    have hle : ks.length ≤ 65536 := by
                      unfold sortedOut at h
                      split at h
                      · rename_i hke; cases hke; exact Nat.zero_le _
                      · rename_i l hne hke
                        cases hke
                        exact ble_is (selR_good h).1
                      · cases h
                    obtain ⟨D0, hown, hperm, hsz⟩ := owns_any hr.toRelB hk hy hes hks g1 g2 g3 g4 hle
                    refine .inr ⟨hcf _ _, (hc x.blk y.blk _ D0 w hblk hcell hown (by omega)).mono ?_⟩
                    rintro e w' ⟨v1, ss, rfl, hp, hrest⟩
                    exact ⟨v1, rfl, hfin hle v1 w' ⟨v1, ss, rfl, hp.trans hperm, hrest⟩⟩
                  · cases h
            · cases h
  · cases h

/- numbers -/
theorem owns_int {r : Rho} {s : St} {w : World} (h : RelB r s w) {k : TypeId} (hk : P.underlying k = some (.int .i64)) {m : Nat} {y : RB} (hm : r m = some y) {es : List Entry} {c : Nat} (hes : s.mapAt m = .mk es c)
    (h1 : es = [] ∨ ∃ n v b, es = [(.int .i64 n, v, b)] ∧ b < c ∧ IntKind.i64.wrap n = n) :
    ∃ D0 : DataW Unit, w.ownsMap P k anyR y.blk 1 D0 ∧ intKeys D0 = (es.map fun e => match e.1 with | .int _ n => n | _ => 0) ∧ Maps.size D0 ≤ 1 := by
  obtain ⟨l, h6, h7⟩ := mapAt_run h hm hes
  rcases h1 with rfl | ⟨n, v, b, rfl, hb, hw⟩
  · cases h7
    exact ⟨_, ⟨#[], c, h6, ⟨Nat.zero_le _, ⟨fun x hx => (by cases hx), List.nodup_nil, List.nodup_nil⟩, fun x hx => (by cases hx)⟩, Nat.zero_le _, rfl⟩, rfl, Nat.zero_le _⟩
  · obtain ⟨me, rfl, hh⟩ := h7.one_inv
    obtain ⟨e1, _, e3⟩ := hh
    have hkey : me.key = .int .i64 n := by
      generalize me.key = mk at e1
      cases e1
      rfl
    have hwf : (Lit.int .i64 n).wf = true := by
      have := IntKind.wrap_i64 n
      simp only [Lit.wf, IntKind.min, IntKind.max, IntKind.signed, IntKind.bits]
      simp
      omega
    have hrd : rd P k anyR me = some (.int .i64 n, .nil) := by
      unfold rd
      rw [hkey, Go.Maps.keyOf_int_mk hk hwf]
      rfl
    have hrg : rg P k anyR me = (.int .i64 n, .nil) := by
      unfold rg
      rw [hrd]
      rfl
    have hbo : me.born = b := e3
    refine ⟨_, ⟨#[me], c, h6, ⟨by show 1 ≤ maxLen; decide, ⟨fun x hx => ?_, by simp, by simp⟩, fun x hx => ?_⟩, Nat.le_refl _, rfl⟩, ?_, ?_⟩
    · rcases List.mem_singleton.1 hx with rfl
      omega
    · rcases List.mem_singleton.1 hx with rfl
      exact ⟨_, hrd⟩
    · show intKeys (.map ([rg P k anyR me].foldr DataW.insert [])) = _
      rw [hrg]
      rfl
    · show ([rg P k anyR me].foldr DataW.insert []).length ≤ 1
      rw [hrg]
      exact Nat.le_refl _
/-- slices.Collect of the keys of a map of one number at most -/
theorem coll_right {f g : FuncId} {fn : Func} {b : Code} (hf : P.funcs[f]? = some fn) (hname : (fn.name == "runtime.NumGoroutine") = false) (hb : fn.body = some b) {k : TypeId} (hk : P.underlying k = some (.int .i64))
    (hc : ∀ (Bm m n : Nat) (D0 : DataW Unit) (w : World), Bm < w.heap.size → w.cell? ⟨Bm, 0, none⟩ = some (.map (some m)) → w.ownsMap P k anyR m n D0 → Maps.size D0 ≤ 1 →
      Calls P f #[.func (.func g) #[] #[.pointer (some ⟨Bm, 0, none⟩)]] w fun e w' => ∃ (v : Value) (ss : List Int), e = .returned v ∧ ss.Perm (intKeys D0) ∧
        w'.ownsRow w.heap.size k 1 v ss.length (ss.map fun n => .int .i64 n) ∧ (v = .slice none 0 0 ↔ ss = []) ∧ Go.RowKit.Below w.heap.size w w') : OrcOK P f (oColl g) := by
  intro args s v s' h r w us hr hv
  have hcf : ∀ args w, (callFunc f args).run P w = .ok (.enter f args) w := fun args w => by
    have hname' : fn.name ≠ "runtime.NumGoroutine" := by simpa using hname
    simp [callFunc, hf, hname', hb]
  have h : collR g args s = .ok v s' := h
  unfold collR at h
  split at h
  · rename_i g' c
    have h1 := selR_good h
    clear h
    obtain ⟨hg, h⟩ := h1
    have hg := beq_is hg
    subst hg
    cases hv with
    | cons h1 ht =>
      cases ht
      cases h1 with
      | func _ ha hcap =>
        cases ha
        cases hcap with
        | cons h2 ht =>
          cases ht
          cases h2 with
          | @ptr _ _ x hx =>
            unfold collC at h
            split at h
            · rename_i m e o hcs
              obtain ⟨ob, hob, hez, vs, rest, et, fr, rfl, hvs, hlen, hop, hfz⟩ := hr.block _ _ x (cellsAt_ok hcs) hx
              cases hvs with
              | cons hm ht =>
                cases ht
                cases hm with
                | @map _ y hy =>
                  have hcell : w.cell? ⟨x.blk, 0, none⟩ = some (.map (some y.blk)) := by
                    rw [cell_of hob]
                    rfl
                  have hblk := (Array.getElem?_eq_some_iff.1 hob).1
                  unfold collOut at h
                  split at h
                  · rename_i cl hes
                    cases h
                    obtain ⟨D0, hown, hkeys, hsz⟩ := owns_int hr.toRelB hk hy hes (.inl rfl)
                    refine .inr ⟨hcf _ _, (hc x.blk y.blk _ D0 w hblk hcell hown hsz).mono ?_⟩
                    rintro e w' ⟨v1, ss, rfl, hp, hrow, hnil, hbel⟩
                    rw [hkeys] at hp
                    rw [hnil.2 hp.eq_nil]
                    exact ⟨_, rfl, r, (Ext.refl hr).grow hbel.block hbel.size hbel.os hbel.tape hbel.output, .nilslice⟩
                  · rename_i kk vv bb cl hes
                    unfold collOne at h
                    split at h
                    · rename_i n
                      obtain ⟨h3, h⟩ := selR_good h
                      obtain ⟨h4, h⟩ := selR_good h
                      cases h
                      rw [ieq_eq, wrapF_eq] at h4
                      obtain ⟨D0, hown, hkeys, hsz⟩ := owns_int hr.toRelB hk hy hes (.inr ⟨n, vv, bb, rfl, blt_is h3, eq_of_beq h4⟩)
                      refine .inr ⟨hcf _ _, (hc x.blk y.blk _ D0 w hblk hcell hown hsz).mono ?_⟩
                      rintro e w' ⟨v1, ss, rfl, hp, hrow, hnil, hbel⟩
                      rw [hkeys] at hp
                      have hss : ss = [n] := List.perm_singleton.1 hp
                      subst hss
                      rcases hrow.2 with ⟨rfl, hz⟩ | ⟨gb, cap, cur, rfl, hbase, hgb, r1, r2, r3, r4⟩
                      · cases hz
                      · have r4 : cur.toList.take 1 = [Value.int .i64 n] := r4
                        refine ⟨_, rfl, _, Ext.newHi hr (x := ⟨gb, cap, 1⟩) hbase hgb ⟨rfl, cur.toList.take 1, cur.toList.drop 1, k, (0, 0), ?_, ?_, ?_, (fun h => by cases h), (fun i hi h => by have := h.2; simp at this)⟩ hbel.block hbel.size hbel.os hbel.tape hbel.output, ?_⟩
                        · rw [List.take_append_drop]
                        · rw [r4]
                          exact .cons (.int _ _) .nil
                        · rw [List.take_append_drop]
                          show cur.size = cap
                          omega
                        · exact .slice (Rho.at_same _ _ _) r1 (fun _ h => by cases h) (fun _ => by simp)
                    · cases h
                  · cases h
            · cases h
  · cases h
end Go.Proofs.YtchkcnecgfolmaaGreatDoor.Ev
namespace Go.Proofs.YtchkcnecgfolmaaGreatDoor.Ev
open Go
set_option linter.unusedSectionVars false
set_option linter.unusedVariables false

noncomputable section
/- the blocks that a value, a block, a state's blocks lead to -/
mutual
def idsV : AVal → List Nat
  | .ptr i _ => [i]
  | .slice i _ _ _ => [i]
  | .map i => [i]
  | .func _ a b => idsVs a ++ idsVs b
  | .iface _ v => idsV v
  | .agg l => idsVs l
  | .tuple l => idsVs l
  | _ => []
def idsVs : List AVal → List Nat
  | [] => []
  | v :: l => idsV v ++ idsVs l
end
def idsEs : List Entry → List Nat
  | [] => []
  | (k, v, _) :: l => idsV k ++ (idsV v ++ idsEs l)
def idsB : ABlk → List Nat
  | .cells cs _ _ => idsVs cs
  | .map es _ => idsEs es
  | .mapIter (some m) _ _ _ => [m]
  | .mapIter none _ _ _ => []
def idsOB (o : Option ABlk) : List Nat := match o with
  | some b => idsB b
  | none => []
/-- what is reached; t: where nobody need go -/
def reachGo (go : List Nat → Tr Unit → List Nat → List Nat) (s : St) (t : Tr Unit) (acc : List Nat) (i : Nat) (l : List Nat) (seen : Option Unit) : List Nat := match seen with
  | some _ => go l t acc
  | none => match s.get i with
    | some b => go (idsB b ++ l) (t.set i (some ())) (i :: acc)
    | none => go l (t.set i (some ())) acc
def reachF (s : St) (n : Nat) : List Nat → Tr Unit → List Nat → List Nat :=
  @Nat.rec (fun _ => List Nat → Tr Unit → List Nat → List Nat) (fun _ _ acc => acc)
    (fun _ ih l t acc => @List.rec Nat (fun _ => List Nat) acc (fun i l _ => reachGo ih s t acc i l (t.get i)) l) n
def unitL (l : List Nat) : Tr Unit := @List.rec Nat (fun _ => Tr Unit) .lf (fun i _ ih => ih.set i (some ())) l
def idsAll (s : St) (l : List Nat) : List Nat := @List.rec Nat (fun _ => List Nat) [] (fun i _ ih => idsOB (s.get i) ++ ih) l
def reachFuel : Nat := 100000
/-- the blocks that the arguments lead to -/
def argIds (args : List AVal) (s : St) : List Nat := (reachF s reachFuel (idsVs args) .lf []).reverse
/-- the new blocks that a result leads to -/
def newIds (ids : List Nat) (v : AVal) (s : St) : List Nat := (reachF s reachFuel (idsV v ++ idsAll s ids) (unitL ids) []).reverse

/- new names for blocks -/
abbrev RenF := Nat → Option Nat
def consV (v : Option AVal) (l : Option (List AVal)) : Option (List AVal) := match v, l with
  | some v, some l => some (v :: l)
  | _, _ => none
mutual
def renV (g : RenF) : AVal → Option AVal
  | .ptr i o => (g i).map fun j => .ptr j o
  | .slice i o n c => (g i).map fun j => .slice j o n c
  | .map i => (g i).map .map
  | .func f a b => match renVs g a, renVs g b with
    | some a, some b => some (.func f a b)
    | _, _ => none
  | .iface t v => (renV g v).map (.iface t)
  | .agg l => (renVs g l).map .agg
  | .tuple l => (renVs g l).map .tuple
  | v => some v
def renVs (g : RenF) : List AVal → Option (List AVal)
  | [] => some []
  | v :: l => consV (renV g v) (renVs g l)
end
def renEs (g : RenF) : List Entry → Option (List Entry)
  | [] => some []
  | (k, v, n) :: l => match renV g k, renV g v, renEs g l with
    | some k, some v, some l => some ((k, v, n) :: l)
    | _, _, _ => none
def renB (g : RenF) : ABlk → Option ABlk
  | .cells cs e o => (renVs g cs).map fun cs => .cells cs e o
  | .map es c => (renEs g es).map fun es => .map es c
  | .mapIter (some m) a l b => (g m).map fun m => .mapIter (some m) a l b
  | .mapIter none a l b => some (.mapIter none a l b)
def renOB (g : RenF) (o : Option ABlk) : Option ABlk := match o with
  | some b => renB g b
  | none => none
def nameL (n : Nat) : List Nat → List (Nat × Nat)
  | [] => []
  | i :: l => (i, n) :: nameL (n + 1) l
def renOf (n : Nat) (T : Tr Nat) : RenF := fun i => sel (Nat.blt i n) (some i) (T.get i)
/-- an old block: one that is as it was stays so -/
def oldOne (i : Nat) (was now new : Option ABlk) (l : List (Nat × ABlk)) : List (Nat × ABlk) := match now, new with
  | some b, some b' => sel (sel (sameOB b was) (sameB b' b) true) ((i, b') :: l) l
  | _, _ => l
def oldL (g : RenF) (S s : St) : List Nat → List (Nat × ABlk)
  | [] => []
  | i :: l => oldOne i (S.get i) (s.get i) (renOB g (s.get i)) (oldL g S s l)
def newOne (i : Nat) (b : Option ABlk) (l : List (Nat × ABlk)) : List (Nat × ABlk) := match b with
  | some b => (i, b) :: l
  | none => l
def newL (g : RenF) (s : St) : List (Nat × Nat) → List (Nat × ABlk)
  | [] => []
  | (i, j) :: l => newOne j (renOB g (s.get i)) (newL g s l)
def geAll (n : Nat) : List Nat → Bool
  | [] => true
  | i :: l => sel (Nat.ble n i) (geAll n l) false
def distinct : List Nat → Bool
  | [] => true
  | i :: l => sel (hasN i l) false (distinct l)
/-- a result under the new names -/
inductive Can where
  | mk (v : AVal) (post : List (Nat × ABlk)) (m : Nat)
  | bad
def canV (v : Option AVal) (post : List (Nat × ABlk)) (m : Nat) : Can := match v with
  | some v => .mk v post m
  | none => .bad
def canG (S s : St) (ids : List Nat) (L : List Nat) (v : AVal) (N : List (Nat × Nat)) (g : RenF) : Can :=
  canV (renV g v) (oldL g S s ids ++ newL g s N) (S.next + L.length)
def ltAll (n : Nat) : List Nat → Bool
  | [] => true
  | i :: l => sel (Nat.blt i n) (ltAll n l) false
def canL (S s : St) (ids : List Nat) (v : AVal) (L : List Nat) : Can := sel (ltAll S.next ids) (sel (geAll S.next L) (sel (distinct L)
  (canG S s ids L v (nameL S.next L) (renOf S.next (putL (nameL S.next L) .lf))) .bad) .bad) .bad
def canR (S : St) (ids : List Nat) (r : R) : Can := match r with
  | .ok v s => canL S s ids v (newIds ids v s)
  | .bad => .bad
def canSame (v : AVal) (m : Nat) (c : Can) : Bool := match c with
  | .mk u _ n => sel (sameV u v) (Nat.beq n m) false
  | .bad => false
def canHas (i : Nat) (b : ABlk) (c : Can) : Bool := match c with
  | .mk _ post _ => sameOB b ((putL post .lf).get i)
  | .bad => false
def canAll (v : AVal) (m : Nat) : List Can → Bool
  | [] => true
  | c :: l => sel (canSame v m c) (canAll v m l) false
def canHasAll (i : Nat) (b : ABlk) : List Can → Bool
  | [] => true
  | c :: l => sel (canHas i b c) (canHasAll i b l) false
def canKeep (cs : List Can) : List (Nat × ABlk) → List (Nat × ABlk)
  | [] => []
  | (i, b) :: l => sel (canHasAll i b cs) ((i, b) :: canKeep cs l) (canKeep cs l)
def canRs (S : St) (ids : List Nat) : List R → List Can
  | [] => []
  | r :: l => canR S ids r :: canRs S ids l
def manyOut (f : FuncId) (args : List AVal) (S s : St) (pre : List (Nat × ABlk)) (cs : List Can) : R := match cs with
  | .mk v post m :: l => sel (canAll v m l) (.ok v ((⟨f, args, pre, S.next, v, canKeep (.mk v post m :: l) post, m⟩ : Ent).over s)) .bad
  | _ => .bad

/- all ways -/
def nextWays (s : St) (r m since c : Nat) (seen : List Nat) : List Entry → List R
  | [] => []
  | (k, v, b) :: l => sel (Nat.blt b since) (.ok (.tuple [.bool true, k, v]) (s.put r (.mapIter (some m) since (seen ++ [b]) c))) .bad :: nextWays s r m since c seen l
def nextsOf (s : St) (r m since c : Nat) (seen : List Nat) (es : List Entry) : List R := match es with
  | [] => [.ok (.tuple [.bool false]) s]
  | es => nextWays s r m since c seen es
def nextsM (s : St) (r m since last : Nat) (seen : List Nat) (x : Mp) : List R := match x with
  | .mk es c => sel (goneAll last seen es) [.bad] (nextsOf s r m since c seen (leftOf seen es))
  | .bad => [.bad]
def nextsB (s : St) (r : Nat) (b : Option ABlk) : List R := match b with
  | some (.mapIter none _ _ _) => [.ok (.tuple [.bool false]) s]
  | some (.mapIter (some m) since seen last) => nextsM s r m since last seen (s.mapAt m)
  | _ => [.bad]
def nextsV (s : St) (v : V) : List R := match v with
  | .ok (.ptr r 0) => nextsB s r (s.get r)
  | _ => [.bad]
/-- is the first operation one that goes on in a map? -/
def isNext (o : Oper) : Option Operand := match o.op, o.guard with
  | .next it false, none => some it
  | _, _ => none
def headNext (ops : List Oper) : Option Operand := match ops with
  | o :: _ => isNext o
  | [] => none
def hasNext : Code → Bool
  | .seq a b => sel (hasNext a) true (hasNext b)
  | .cond _ a b => sel (hasNext a) true (hasNext b)
  | .block _ b => hasNext b
  | .loop b => hasNext b
  | .region _ ops false => isSome (headNext ops.toList)
  | _ => false
def fromR (is : Inss) (e : Env) (d : Option (List Bool)) : List R → List Res
  | [] => []
  | r :: l => (match r with | .ok v s => runInss e is [v] (putE e v d) s | .bad => .bad) :: fromR is e d l
def regL (P : Program) (call : CallF) (K : Tmps) (ops : Array Oper) (e : Env) (s : St) (ex : Res) (l : List Oper) (it : Option Operand) : List Res := match l, it with
  | o :: rest, some it => sel (dstIn K o) (fromR (inssOf P call K ops rest 1 (alAfter 0 .nil o)) e (dstOf K o) (nextsV s (evalO [] e (copd 0 .nil it)))) [.bad]
  | _, _ => [ex]
def loopL (f : Env → St → List Res) (n : Nat) : Env → St → List Res :=
  @Nat.rec (fun _ => Env → St → List Res) (fun _ _ => [.bad]) (fun _ ih e s => bindM ih (f e s)) n
def blockL (i : Nat) : List Res → List Res
  | [] => []
  | r :: l => blockR i r :: blockL i l
def execL (P : Program) (call : CallF) (K : Tmps) (fuel : Nat) (ex : Code → Env → St → Res) : Code → Env → St → List Res
  | .seq a b => fun e s => sel (sel (hasNext a) true (hasNext b)) (bindM (execL P call K fuel ex b) (execL P call K fuel ex a e s)) [ex (.seq a b) e s]
  | .cond x a b => fun e s => sel (sel (hasNext a) true (hasNext b)) (condM (execL P call K fuel ex a) (execL P call K fuel ex b) e s (evalO [] e (copd 0 .nil x))) [ex (.cond x a b) e s]
  | .block i b => fun e s => sel (hasNext b) (blockL i (execL P call K fuel ex b e s)) [ex (.block i b) e s]
  | .loop b => fun e s => sel (hasNext b) (loopL (execL P call K fuel ex b) fuel e s) [ex (.loop b) e s]
  | .region id ops false => fun e s => regL P call K ops e s (ex (.region id ops false) e s) ops.toList (headNext ops.toList)
  | c => fun e s => [ex c e s]
def exL (P : Program) (call : CallF) (K : Tmps) (kn : Known) (fuel : Nat) (c : Code) : Env → St → Res := execN P call K kn fuel fuel (cc P call K kn c)
def manyRun (P : Program) (call : CallF) (K : Tmps) (kn : Known) (fuel : Nat) (f : FuncId) (rv : List RV) (b : Code) (args : List AVal) (s : St) (ids : List Nat) (pre : List (Nat × ABlk)) (S : St) : R :=
  manyOut f args S s pre (canRs S ids (doneRs rv (execL P call K fuel (exL P call K kn fuel) b (enterE K 0 .lf args) S)))
def manyI (P : Program) (call : CallF) (K : Tmps) (kn : Known) (fuel : Nat) (f : FuncId) (rv : List RV) (b : Code) (args : List AVal) (s : St) (ids : List Nat) : R :=
  manyRun P call K kn fuel f rv b args s ids (gather s ids) ⟨putL (gather s ids) .lf, s.next⟩
def manyB (P : Program) (call : CallF) (kn : Known) (keep : Keep) (fuel : Nat) (f : FuncId) (fn : Func) (args : List AVal) (s : St) (b : Option Code) : R := match b with
  | some b => manyI P call ⟨fn.ntmps, keep⟩ kn fuel f (rvsOf P fn.results.toList) b args s (argIds args s)
  | none => .bad
def manyF (P : Program) (call : CallF) (kn : Known) (keep : Keep) (fuel : Nat) (f : FuncId) (args : List AVal) (s : St) (fn : Option Func) : R := match fn with
  | some fn => manyB P call kn keep fuel f fn args s fn.body
  | none => .bad
/-- M: the functions that are run so -/
def stepM (P : Program) (B : Base) (M : FuncId → Bool) (call : CallF) (fuel : Nat) (f : FuncId) (args : List AVal) (s : St) (o : Option Orc) : R :=
  @Option.rec Orc (fun _ => R) (sel (M f) (manyF P call (B.reg f) (B.keep f) fuel f args s (B.fn f)) (enterF P call (B.reg f) fuel args s (fcOf P call (B.keep f) (B.reg f) (B.fn f)))) (fun g => g.run args s) o
def callM (P : Program) (B : Base) (M : FuncId → Bool) (fuel : Nat) (d : Nat) : CallF :=
  @Nat.rec (fun _ => CallF) (fun _ _ _ => .bad) (fun _ ih f args s => stepM P B M ih fuel f args s (B.orc f)) d
/-- the kernel's word for an entry -/
def entChkM (P : Program) (B : Base) (M : FuncId → Bool) (fuel d : Nat) (e : Ent) : Bool :=
  chkR e (stepM P B M (callM P B M fuel d) fuel e.f e.args e.S none)
end
end Go.Proofs.YtchkcnecgfolmaaGreatDoor.Ev
namespace Go.Proofs.YtchkcnecgfolmaaGreatDoor.Ev
open Go
set_option linter.unusedSectionVars false
set_option linter.unusedVariables false
set_option linter.unusedSimpArgs false
variable [Sig] {P : Program}

/- going on in a map -/
theorem run_mapNext {w : World} (n : Nat) (h : 1 ≤ n) : ∃ k w1, (choose (.mapNext n)).run P w = .ok k w1 ∧ k < n ∧ (w1 = w ∨ w1 = w.drew) := by
  rw [run_choose]
  by_cases hf : (Question.mapNext n).forced = true
  · rw [if_pos hf]
    exact ⟨0, w, rfl, h, .inl rfl⟩
  · rw [if_neg hf]
    exact ⟨_, _, rfl, Nat.mod_lt _ h, .inr rfl⟩
theorem ERs.nth {r : Rho} : ∀ {l : List Entry} {l' : List MapEntry}, ERs r l l' → ∀ {k : Nat} {m : MapEntry}, l'[k]? = some m → ∃ e, e ∈ l ∧ ER r e m
  | _, _, .nil, k, m, h => by cases h
  | _, _, .cons h t, 0, m, e => by cases e; exact ⟨_, List.mem_cons_self, h⟩
  | _, _, .cons h t, k + 1, m, e => by
    obtain ⟨x, h1, h2⟩ := ERs.nth t (k := k) (by simpa using e)
    exact ⟨x, List.mem_cons_of_mem _ h1, h2⟩
theorem nextWays_mem {s : St} {r m since c : Nat} {seen : List Nat} : ∀ {l : List Entry} {e : Entry}, e ∈ l →
    sel (Nat.blt e.2.2 since) (R.ok (.tuple [.bool true, e.1, e.2.1]) (s.put r (.mapIter (some m) since (seen ++ [e.2.2]) c))) .bad ∈ nextWays s r m since c seen l
  | (k, v, b) :: l, e, h => by
    rcases List.mem_cons.1 h with h | h
    · subst h; exact List.mem_cons_self
    · exact List.mem_cons_of_mem _ (nextWays_mem h)
theorem ERs.allOld {r : Rho} {since : Nat} : ∀ {l : List Entry} {l' : List MapEntry}, ERs r l l' → (∀ e ∈ l, Nat.blt e.2.2 since = true) → ∀ m ∈ l', m.born < since
  | _, _, .nil, _, m, h => by cases h
  | _, _, .cons h t, hl, m, hm => by
    rcases List.mem_cons.1 hm with hm | hm
    · subst hm
      rw [h.2.2]
      exact blt_is (hl _ List.mem_cons_self)
    · exact ERs.allOld t (fun e he => hl e (List.mem_cons_of_mem _ he)) m hm
theorem nextsV_ok {r : Rho} {s : St} {w : World} (h : Rel r s w) {t : TypeId} {x : AVal} (hb : ∀ y ∈ nextsV s (.ok x), y ≠ .bad) {a : Value} (hx : VR r x a) :
    ∃ v s', R.ok v s' ∈ nextsV s (.ok x) ∧ Does P r s w (Instr.next a false t) v s' := by
  unfold nextsV at hb ⊢
  split at hb
  · rename_i y id hy
    cases hy
    cases hx with
    | ptr hr =>
      rename_i x
      replace hb : ∀ y ∈ nextsB s id (s.get id), y ≠ .bad := hb
      show ∃ v s', R.ok v s' ∈ nextsB s id (s.get id) ∧ _
      unfold nextsB at hb ⊢
      split at hb
      · rename_i since seen st hbk
        obtain ⟨o, h1, h2⟩ := h.block id _ x hbk hr
        have h2 : o = .mapIter none since ⟨seen⟩ st := h2
        subst h2
        refine ⟨_, _, List.mem_singleton.2 rfl, r, w, .tuple #[.bool false], ?_, .tuple (.cons (.bool _) .nil), Ext.refl h⟩
        simp only [Instr.next, Sem.run_bind, run_getIter h1, Result.andThen_ok, Sem.run_pure]
      · rename_i m since seen last hbk
        obtain ⟨o, h1, y, hy, rfl⟩ := h.block id _ x hbk hr
        show ∃ v s', R.ok v s' ∈ nextsM s id m since last seen (s.mapAt m) ∧ _
        unfold nextsM at hb ⊢
        split at hb
        · rename_i es c hma
          cases hg : goneAll last seen es
          · rw [hg] at hb
            have hb : ∀ y ∈ nextsOf s id m since c seen (leftOf seen es), y ≠ .bad := hb
            show ∃ v s', R.ok v s' ∈ nextsOf s id m since c seen (leftOf seen es) ∧ _
            obtain ⟨l, h4, h5⟩ := mapAt_run h.toRelB hy hma
            have hlf := leftOf_ok (seen := seen) h5
            have hga := goneAll_ok h5 hg
            generalize hle : leftOf seen es = le at hb hlf
            cases le with
            | nil =>
              have hnil : l.filter (fun e => !seen.contains e.born) = [] := hlf.nil_inv
              refine ⟨_, _, List.mem_singleton.2 rfl, r, w, .tuple #[.bool false], ?_, .tuple (.cons (.bool _) .nil), Ext.refl h⟩
              have hfl : (⟨l⟩ : Array MapEntry).filter (fun e => !(⟨seen⟩ : Array Nat).contains e.born) = #[] := by
                apply Array.ext'
                simpa using hnil
              simp only [Instr.next, Sem.run_bind, run_getIter h1, Result.andThen_ok, run_getMap h4, hga, hfl, Bool.false_eq_true, if_false]
              simp [forced1]
            | cons e0 le =>
              have hb : ∀ y ∈ nextWays s id m since c seen (e0 :: le), y ≠ .bad := hb
              show ∃ v s', R.ok v s' ∈ nextWays s id m since c seen (e0 :: le) ∧ _
              have hold : ∀ e ∈ e0 :: le, Nat.blt e.2.2 since = true := fun e he => by
                cases hbl : Nat.blt e.2.2 since
                · have := hb _ (nextWays_mem (s := s) (r := id) (m := m) (c := c) (seen := seen) (since := since) he)
                  rw [hbl] at this
                  exact absurd rfl this
                · rfl
              generalize hme : l.filter (fun e => !seen.contains e.born) = ms at hlf
              have hall := hlf.allOld hold
              have hfl : (⟨l⟩ : Array MapEntry).filter (fun e => !(⟨seen⟩ : Array Nat).contains e.born) = ⟨ms⟩ := by
                apply Array.ext'
                simpa using hme
              have hf1 : (⟨ms⟩ : Array MapEntry).filter (fun e => decide (e.born < since)) = ⟨ms⟩ := by
                apply Array.ext'
                rw [Array.toList_filter]
                exact List.filter_eq_self.2 fun m hm => by simp [hall m hm]
              have hf2 : (⟨ms⟩ : Array MapEntry).filter (fun e => decide (e.born ≥ since)) = #[] := by
                apply Array.ext'
                rw [Array.toList_filter]
                show List.filter _ ms = []
                rw [List.filter_eq_nil_iff]
                intro m hm
                have := hall m hm
                simp
                omega
              have hlen := hlf.length
              have hne : (⟨ms⟩ : Array MapEntry).isEmpty = false := by
                cases ms with
                | nil => simp at hlen
                | cons m ms => rfl
              have hcand : ((if (⟨ms⟩ : Array MapEntry).isEmpty = true then #[none] else #[]) ++ Array.map some ((⟨ms⟩ : Array MapEntry) ++ #[])) = (⟨ms.map some⟩ : Array (Option MapEntry)) := by
                rw [hne]
                apply Array.ext'
                simp
              obtain ⟨k, w1, hk1, hk2, hk3⟩ := run_mapNext (P := P) (w := w) ms.length (by rw [hlen]; simp)
              obtain ⟨me, hmk⟩ : ∃ me, ms[k]? = some me := ⟨_, List.getElem?_eq_getElem hk2⟩
              obtain ⟨⟨kk, u, b⟩, hin, hh⟩ := hlf.nth hmk
              have hbo : me.born = b := hh.2.2
              have hmem := nextWays_mem (s := s) (r := id) (m := m) (c := c) (seen := seen) (since := since) hin
              rw [hold _ hin] at hmem
              have hw1 : w1.heap = w.heap ∧ Rel r s w1 ∧ Ext r s w r s w1 := by
                rcases hk3 with rfl | rfl
                · exact ⟨rfl, h, Ext.refl h⟩
                · exact ⟨rfl, h.drawn _, Ext.drawn h _⟩
              obtain ⟨hw2, hr1, hx1⟩ := hw1
              have h1' : w1.heap[x.blk]? = some (.mapIter (some y.blk) since ⟨seen⟩ last) := by rw [hw2]; exact h1
              refine ⟨_, _, hmem, r, _, .tuple #[.bool true, me.key, me.val], ?_, .tuple (.cons (.bool _) (.cons hh.1 (.cons hh.2.1 .nil))), hx1.trans (ext_iter hr1 hr hy hbk h1' since c (seen ++ [b]))⟩
              simp only [Instr.next, Sem.run_bind, run_getIter h1, Result.andThen_ok, run_getMap h4, hga, hfl, hf1, hf2, Bool.false_eq_true, if_false, hcand]
              have hsz : (⟨ms.map some⟩ : Array (Option MapEntry)).size = ms.length := by simp
              rw [hsz, hk1]
              simp only [Result.andThen_ok]
              have hget : (⟨ms.map some⟩ : Array (Option MapEntry))[k]? = some (some me) := by simp [hmk]
              rw [hget]
              simp [run_setObj h1' (fun _ _ _ e => by cases e), hbo]
          · rw [hg] at hb
            exact absurd rfl (hb .bad (List.mem_singleton.2 rfl))
        · exact absurd rfl (hb .bad (List.mem_singleton.2 rfl))
      · exact absurd rfl (hb .bad (List.mem_singleton.2 rfl))
  · exact absurd rfl (hb .bad (List.mem_singleton.2 rfl))

/- a region that begins so -/
theorem fromR_mem {is : Inss} {e : Env} {d : Option (List Bool)} : ∀ {l : List R} {v : AVal} {s : St}, R.ok v s ∈ l → runInss e is [v] (putE e v d) s ∈ fromR is e d l
  | r :: l, v, s, h => by
    rcases List.mem_cons.1 h with h | h
    · subst h; exact List.mem_cons_self
    · exact List.mem_cons_of_mem _ (fromR_mem h)
theorem fromR_bad {is : Inss} {e : Env} {d : Option (List Bool)} : ∀ {l : List R}, R.bad ∈ l → Res.bad ∈ fromR is e d l
  | r :: l, h => by
    rcases List.mem_cons.1 h with h | h
    · subst h; exact List.mem_cons_self
    · exact List.mem_cons_of_mem _ (fromR_bad h)
theorem isNext_ok {o : Oper} {it : Operand} (h : isNext o = some it) : o.op = .next it false ∧ o.guard = none := by
  unfold isNext at h
  split at h
  · rename_i h1 h2; cases h; exact ⟨h1, h2⟩
  · cases h
theorem regL_ok {call : CallF} (hcall : CallOK P call) {K : Tmps} {id : Nat} {ops : Array Oper} {ex : Env → St → Res} (hex : CodeOK P K (.region id ops false) ex) :
    CodeM P K (.region id ops false) fun e s => regL P call K ops e s (ex e s) ops.toList (headNext ops.toList) := by
  intro e s hb r w a Q hr he hQ
  unfold regL at hb hQ
  split at hb
  · rename_i l it o rest it0 hl hn
    rw [hl] at hn hQ
    have hn : isNext o = some it0 := hn
    rw [show headNext (o :: rest) = some it0 from hn] at hQ
    simp only at hb hQ
    obtain ⟨hop, hgu⟩ := isNext_ok hn
    cases hdi : dstIn K o
    · rw [hdi] at hb
      exact absurd rfl (hb .bad (List.mem_singleton.2 rfl))
    · rw [hdi] at hb hQ
      have hb : ∀ y ∈ fromR (inssOf P call K ops rest 1 (alAfter 0 .nil o)) e (dstOf K o) (nextsV s (evalO [] e (copd 0 .nil it0))), y ≠ .bad := hb
      have hQ : ∀ x e' s', Res.ok x e' s' ∈ fromR (inssOf P call K ops rest 1 (alAfter 0 .nil o)) e (dstOf K o) (nextsV s (evalO [] e (copd 0 .nil it0))) → ∀ q a' w', Ext r s w q s' w' → EnvR K q e' a' → Q (exOf x) a' w' := hQ
      have hnb : ∀ y ∈ nextsV s (evalO [] e (copd 0 .nil it0)), y ≠ .bad := fun y hy hbad => by
        subst hbad
        exact hb .bad (fromR_bad hy) rfl
      cases hv : evalO [] e (copd 0 .nil it0) with
      | bad => rw [hv] at hnb; exact absurd rfl (hnb .bad (List.mem_singleton.2 rfl))
      | ok x =>
        rw [hv] at hnb hb hQ
        have inv := Inv.start hr he
        have hxv := inv.cx o.op it0 (by rw [hop]; simp [Op.operands]) x hv
        refine wp_region ?_
        rw [List.range_eq_range', ← Array.length_toList, hl, List.length_cons, List.range'_succ]
        have ho : ops[0]? = some o := by rw [← Array.getElem?_toList, hl]; rfl
        have hd' : ops.toList.drop (0 + 1) = rest := by rw [hl]; rfl
        have hw : Region.wanted o (yielded ops a.tmps) = true := by unfold Region.wanted; rw [hgu]
        refine wpOps_one ho (fun _ => ?_) fun hw' => by rw [hw] at hw'; cases hw'
        obtain ⟨v, s1, hm, hdoes⟩ := nextsV_ok (P := P) (t := o.type) hr hnb hxv
        have hopok : OpOK P o a r s w v s1 := hdoes.op (by unfold execOp; rw [hop])
        refine hopok _ _ fun q u w1 hx hvr => ?_
        have hmm := fromR_mem (is := inssOf P call K ops rest 1 (alAfter 0 .nil o)) (e := e) (d := dstOf K o) hm
        have inv' := inv.step hdi hvr hx
        cases hrun : runInss e (inssOf P call K ops rest 1 (alAfter 0 .nil o)) [v] (putE e v (dstOf K o)) s1 with
        | bad => rw [hrun] at hmm; exact absurd rfl (hb .bad hmm)
        | ok x1 e1 s2 =>
          rw [hrun] at hmm
          refine insts_ok hcall rest (0 + 1) hd' 1 _ _ _ e1 s1 s2 x1 _ w1 q inv' hrun fun q' a' w' hx' he' hxn => ?_
          subst hxn
          exact hQ .normal e1 s2 hmm q' a' w' (hx.trans hx') he'
  · rename_i h1
    have : regL P call K ops e s (ex e s) ops.toList (headNext ops.toList) = [ex e s] := by
      unfold regL
      split
      · rename_i o rest it hl hn
        exact (h1 o rest it hl hn).elim
      · rfl
    refine CodeM.of hex e s (fun y hy => hb y hy) r w a Q hr he fun x e' s' hm => hQ x e' s' ?_
    simpa using hm

/- blocks and loops -/
theorem blockL_mem {i : Nat} : ∀ {l : List Res} {y : Res}, y ∈ l → blockR i y ∈ blockL i l
  | z :: l, y, h => by
    rcases List.mem_cons.1 h with h | h
    · subst h; exact List.mem_cons_self
    · exact List.mem_cons_of_mem _ (blockL_mem h)
theorem CodeM.block {K : Tmps} {i : Nat} {c : Code} {F : Env → St → List Res} (hf : CodeM P K c F) : CodeM P K (.block i c) fun e s => blockL i (F e s) := by
  intro e s hb r w a Q hr he hQ
  refine wp_block (hf e s (fun y hy hbad => ?_) r w a _ hr he fun x e1 s1 hm q a1 w1 hx he1 => ?_)
  · subst hbad
    exact hb (blockR i .bad) (blockL_mem hy) rfl
  · have hm' := blockL_mem (i := i) hm
    cases x with
    | normal => exact hQ .normal e1 s1 hm' q a1 w1 hx he1
    | exit j =>
      show (if j = i then Q .normal a1 w1 else Q (.exit j) a1 w1)
      have hm' : sel (Nat.beq i j) (Res.ok .normal e1 s1) (.ok (.exit j) e1 s1) ∈ blockL i (F e s) := hm'
      cases hbq : Nat.beq i j
      · rw [hbq] at hm'
        rw [if_neg (fun e => beq_ne hbq e.symm)]
        exact hQ (.exit j) e1 s1 hm' q a1 w1 hx he1
      · rw [hbq] at hm'
        rw [if_pos (beq_is hbq).symm]
        exact hQ .normal e1 s1 hm' q a1 w1 hx he1
    | goto l => exact hQ (.goto l) e1 s1 hm' q a1 w1 hx he1
    | ret => exact hQ .ret e1 s1 hm' q a1 w1 hx he1
theorem CodeM.loop {K : Tmps} {c : Code} {F : Env → St → List Res} (hf : CodeM P K c F) (n : Nat) : CodeM P K (.loop c) (loopL F n) := by
  intro e s hb r w a Q hr he hQ
  refine wp_loop_rounds n ?_
  induction n generalizing e s r w a with
  | zero => exact absurd rfl (hb .bad (List.mem_singleton.2 rfl))
  | succ n ih =>
    have hb : ∀ y ∈ bindM (loopL F n) (F e s), y ≠ .bad := hb
    have hQ : ∀ x e' s', Res.ok x e' s' ∈ bindM (loopL F n) (F e s) → ∀ q a' w', Ext r s w q s' w' → EnvR K q e' a' → Q (exOf x) a' w' := hQ
    rw [rounds_succ]
    refine hf e s (fun y hy hbad => ?_) r w a _ hr he fun x e1 s1 hm q a1 w1 hx he1 => ?_
    · subst hbad
      exact hb .bad (bindM_other (fun _ _ h => by cases h) hy) rfl
    · cases x with
      | normal => exact ih e1 s1 (fun y hy => hb y (bindM_normal hm y hy)) q w1 a1 hx.rel he1 fun x e' s' hm' q' a' w' hx' he' => hQ x e' s' (bindM_normal hm _ hm') q' a' w' (hx.trans hx') he'
      | exit i => exact hQ _ e1 s1 (bindM_other (fun _ _ h => by cases h) hm) q a1 w1 hx he1
      | goto i => exact hQ _ e1 s1 (bindM_other (fun _ _ h => by cases h) hm) q a1 w1 hx he1
      | ret => exact hQ _ e1 s1 (bindM_other (fun _ _ h => by cases h) hm) q a1 w1 hx he1
theorem CodeM.sel {K : Tmps} {c : Code} {F G : Env → St → List Res} (t : Bool) (hf : CodeM P K c F) (hg : CodeM P K c G) : CodeM P K c fun e s => Ev.sel t (F e s) (G e s) := by
  cases t
  · exact hg
  · exact hf
theorem execL_ok {call : CallF} (hcall : CallOK P call) {K : Tmps} {fuel : Nat} {ex : Code → Env → St → Res} : ∀ c, (∀ d, Regs (fun _ _ _ => True) d → CodeOK P K d (ex d)) → CodeM P K c (execL P call K fuel ex c)
  | .seq a b, h => CodeM.sel _ (CodeM.seq (execL_ok hcall a h) (execL_ok hcall b h)) (CodeM.of (h _ (Regs.all (fun _ _ _ => trivial) _)))
  | .cond x a b, h => CodeM.sel _ (CodeM.cond (execL_ok hcall a h) (execL_ok hcall b h)) (CodeM.of (h _ (Regs.all (fun _ _ _ => trivial) _)))
  | .block i b, h => CodeM.sel _ (CodeM.block (execL_ok hcall b h)) (CodeM.of (h _ (Regs.all (fun _ _ _ => trivial) _)))
  | .loop b, h => CodeM.sel _ (CodeM.loop (execL_ok hcall b h) fuel) (CodeM.of (h _ (Regs.all (fun _ _ _ => trivial) _)))
  | .region id ops false, h => regL_ok hcall (h _ (Regs.all (fun _ _ _ => trivial) _))
  | .region id ops true, h => CodeM.of (h _ (Regs.all (fun _ _ _ => trivial) _))
  | .skip, h => CodeM.of (h _ (Regs.all (fun _ _ _ => trivial) _))
  | .label _, h => CodeM.of (h _ (Regs.all (fun _ _ _ => trivial) _))
  | .rangeFunc _ _ _ _, h => CodeM.of (h _ (Regs.all (fun _ _ _ => trivial) _))
  | .exit _, h => CodeM.of (h _ (Regs.all (fun _ _ _ => trivial) _))
  | .goto _, h => CodeM.of (h _ (Regs.all (fun _ _ _ => trivial) _))
  | .ret, h => CodeM.of (h _ (Regs.all (fun _ _ _ => trivial) _))
  | .refuse _, h => CodeM.of (h _ (Regs.all (fun _ _ _ => trivial) _))
  | .scope _, h => CodeM.of (h _ (Regs.all (fun _ _ _ => trivial) _))
end Go.Proofs.YtchkcnecgfolmaaGreatDoor.Ev
namespace Go.Proofs.YtchkcnecgfolmaaGreatDoor.Ev
open Go
set_option linter.unusedSectionVars false
set_option linter.unusedVariables false
set_option linter.unusedSimpArgs false
variable [Sig] {P : Program}

theorem keq_refl (k : IntKind) : keq k k = true := by cases k <;> rfl
theorem fkeq_refl (k : FloatKind) : fkeq k k = true := by cases k <;> rfl
theorem ieq_refl (n : Int) : ieq n n = true := by rw [ieq_eq]; exact beq_self_eq_true n
theorem nbeq_refl (n : Nat) : Nat.beq n n = true := Nat.beq_refl n
mutual
theorem sameV_refl : ∀ v : AVal, sameV v v = true
  | .bool b => by cases b <;> rfl
  | .int k n => by show Bool.and _ _ = true; rw [keq_refl, ieq_refl]; rfl
  | .flt k b => by show Bool.and _ _ = true; rw [fkeq_refl, nbeq_refl]; rfl
  | .cplx k a b => by show Bool.and _ (Bool.and _ _) = true; rw [fkeq_refl, nbeq_refl, nbeq_refl]; rfl
  | .str l => by show beqBytes l l = true; rw [beqBytes_eq]; exact beq_self_eq_true l
  | .nilptr => rfl
  | .ptr i o => by show Bool.and _ _ = true; rw [nbeq_refl, nbeq_refl]; rfl
  | .nilslice => rfl
  | .eslice => rfl
  | .slice i o n none => by show Bool.and _ (Bool.and _ _) = true; rw [nbeq_refl, nbeq_refl, nbeq_refl]; rfl
  | .slice i o n (some c) => by show Bool.and _ (Bool.and _ (Bool.and _ _)) = true; rw [nbeq_refl, nbeq_refl, nbeq_refl, nbeq_refl]; rfl
  | .nilmap => rfl
  | .map i => nbeq_refl i
  | .func f a b => by show Bool.and _ (Bool.and _ _) = true; rw [nbeq_refl, sameVs_refl a, sameVs_refl b]; rfl
  | .nilfunc => rfl
  | .nilIface => rfl
  | .iface t v => by show Bool.and _ _ = true; rw [nbeq_refl, sameV_refl v]; rfl
  | .agg l => sameVs_refl l
  | .tuple l => sameVs_refl l
  | .sint k c a b => by show Bool.and _ (Bool.and _ (Bool.and _ _)) = true; rw [keq_refl, ieq_refl, ieq_refl, ieq_refl]; rfl
  | .raw b => by cases b <;> rfl
theorem sameVs_refl : ∀ l : List AVal, sameVs l l = true
  | [] => rfl
  | v :: l => by
    show Bool.and _ _ = true
    rw [sameV_refl v, sameVs_refl l]
    rfl
end
theorem sameEs_refl : ∀ l : List Entry, sameEs l l = true
  | [] => rfl
  | (a, b, n) :: l => by
    show sel _ (sel _ (sel _ _ _) _) _ = true
    rw [sameV_refl a, sameV_refl b, nbeq_refl, sameEs_refl l]
    rfl
theorem sameNs_refl : ∀ l : List Nat, sameNs l l = true
  | [] => rfl
  | n :: l => by
    show sel _ _ _ = true
    rw [nbeq_refl, sameNs_refl l]
    rfl
theorem sameB_refl : ∀ b : ABlk, sameB b b = true
  | .cells cs e o => by
    show sel _ (sel _ _ _) _ = true
    rw [nbeq_refl, sameVs_refl cs]
    cases o <;> rfl
  | .map es c => by
    show sel _ _ _ = true
    rw [nbeq_refl, sameEs_refl es]
    rfl
  | .mapIter m a l b => by
    have hm : sameON m m = true := by
      cases m with
      | none => rfl
      | some m => exact nbeq_refl m
    show sel _ (sel _ (sel _ _ _) _) _ = true
    rw [hm, nbeq_refl, sameNs_refl l, nbeq_refl]
    rfl

/- values -/
/-- what the old names lead to, the new ones lead to -/
def RenOK (q : Rho) (g : RenF) (p : Rho) : Prop := ∀ i j x, g i = some j → q i = some x → p j = some x
theorem map_some {α β : Type} {o : Option α} {f : α → β} {b : β} (h : o.map f = some b) : ∃ a, o = some a ∧ f a = b := by
  cases o with
  | none => cases h
  | some a => cases h; exact ⟨a, rfl, rfl⟩
theorem consV_ok {v : Option AVal} {l : Option (List AVal)} {x : List AVal} (h : consV v l = some x) : ∃ v' l', v = some v' ∧ l = some l' ∧ x = v' :: l' := by
  unfold consV at h
  split at h
  · cases h; exact ⟨_, _, rfl, rfl, rfl⟩
  · cases h
mutual
theorem VR.ren {q p : Rho} {g : RenF} (hg : RenOK q g p) : ∀ {v : AVal} {u : Value}, VR q v u → ∀ {v' : AVal}, renV g v = some v' → VR p v' u
  | _, _, .bool b, _, h => by cases h; exact .bool b
  | _, _, .int k n, _, h => by cases h; exact .int k n
  | _, _, .flt k b, _, h => by cases h; exact .flt k b
  | _, _, .cplx k a b, _, h => by cases h; exact .cplx k a b
  | _, _, .str l, _, h => by cases h; exact .str l
  | _, _, .nilptr, _, h => by cases h; exact .nilptr
  | _, _, .ptr hx, _, h => by
    obtain ⟨j, h1, rfl⟩ := map_some h
    exact .ptr (hg _ _ _ h1 hx)
  | _, _, .nilslice, _, h => by cases h; exact .nilslice
  | _, _, .eslice a c, _, h => by cases h; exact .eslice a c
  | _, _, .slice hx hn hc hu, _, h => by
    obtain ⟨j, h1, rfl⟩ := map_some h
    exact .slice (hg _ _ _ h1 hx) hn hc hu
  | _, _, .nilmap, _, h => by cases h; exact .nilmap
  | _, _, .map hx, _, h => by
    obtain ⟨j, h1, rfl⟩ := map_some h
    exact .map (hg _ _ _ h1 hx)
  | .func f a b, _, .func _ ha hb, _, h => by
    simp only [renV] at h
    split at h
    · rename_i a' b' h1 h2
      cases h
      exact .func f (VRs.ren hg ha h1) (VRs.ren hg hb h2)
    · cases h
  | _, _, .nilfunc, _, h => by cases h; exact .nilfunc
  | _, _, .nilIface, _, h => by cases h; exact .nilIface
  | .iface t v, _, .iface _ hv, _, h => by
    simp only [renV] at h
    obtain ⟨v', h1, rfl⟩ := map_some h
    exact .iface t (VR.ren hg hv h1)
  | .agg l, _, .agg hl, _, h => by
    simp only [renV] at h
    obtain ⟨l', h1, rfl⟩ := map_some h
    exact .agg (VRs.ren hg hl h1)
  | .tuple l, _, .tuple hl, _, h => by
    simp only [renV] at h
    obtain ⟨l', h1, rfl⟩ := map_some h
    exact .tuple (VRs.ren hg hl h1)
  | _, _, .sint k hn, _, h => by cases h; exact .sint k hn
  | _, _, .raw hn, _, h => by cases h; exact .raw hn
theorem VRs.ren {q p : Rho} {g : RenF} (hg : RenOK q g p) : ∀ {l : List AVal} {u : List Value}, VRs q l u → ∀ {l' : List AVal}, renVs g l = some l' → VRs p l' u
  | _, _, .nil, _, h => by cases h; exact .nil
  | v :: l, _, .cons hv hl, _, h => by
    simp only [renVs] at h
    obtain ⟨v', l', h1, h2, rfl⟩ := consV_ok h
    exact .cons (VR.ren hg hv h1) (VRs.ren hg hl h2)
end
theorem ERs.ren {q p : Rho} {g : RenF} (hg : RenOK q g p) : ∀ {l : List Entry} {u : List MapEntry}, ERs q l u → ∀ {l' : List Entry}, renEs g l = some l' → ERs p l' u
  | _, _, .nil, _, h => by cases h; exact .nil
  | (k, v, n) :: l, _, .cons hh ht, _, h => by
    simp only [renEs] at h
    split at h
    · rename_i k' v' l' h1 h2 h3
      cases h
      exact .cons ⟨hh.1.ren hg h1, hh.2.1.ren hg h2, hh.2.2⟩ (ERs.ren hg ht h3)
    · cases h
theorem BR.ren {q p : Rho} {g : RenF} (hg : RenOK q g p) {b b' : ABlk} {x : RB} {o : Obj} (h : renB g b = some b') (hb : BR q b x o) : BR p b' x o := by
  cases b with
  | cells cs e opn =>
    obtain ⟨cs', h1, rfl⟩ := map_some h
    obtain ⟨h0, vs, rest, t, fr, h2, h3, h4⟩ := hb
    exact ⟨h0, vs, rest, t, fr, h2, h3.ren hg h1, h4⟩
  | map es c =>
    obtain ⟨es', h1, rfl⟩ := map_some h
    obtain ⟨l, h2, h3⟩ := hb
    exact ⟨l, h2, h3.ren hg h1⟩
  | mapIter m a l c =>
    cases m with
    | none => cases h; exact hb
    | some m =>
      obtain ⟨m', h1, rfl⟩ := map_some h
      obtain ⟨y, h2, h3⟩ := hb
      exact ⟨y, hg _ _ _ h1 h2, h3⟩

/- states -/
theorem nameL_mem : ∀ {L : List Nat} {n i j : Nat}, (i, j) ∈ nameL n L → n ≤ j ∧ j < n + L.length ∧ L[j - n]? = some i
  | a :: L, n, i, j, h => by
    rcases List.mem_cons.1 h with h | h
    · cases h
      exact ⟨Nat.le_refl _, by simp, by simp⟩
    · obtain ⟨h1, h2, h3⟩ := nameL_mem h
      refine ⟨by omega, by simp; omega, ?_⟩
      have : j - n = (j - (n + 1)) + 1 := by omega
      rw [this, List.getElem?_cons_succ]
      exact h3
theorem geAll_ok {n : Nat} : ∀ {L : List Nat}, geAll n L = true → ∀ i ∈ L, n ≤ i
  | a :: L, h, i, hi => by
    obtain ⟨h1, h2⟩ := sel_and h
    rcases List.mem_cons.1 hi with hi | hi
    · subst hi; exact ble_is h1
    · exact geAll_ok h2 i hi
theorem ltAll_ok {n : Nat} : ∀ {L : List Nat}, ltAll n L = true → ∀ i ∈ L, i < n
  | a :: L, h, i, hi => by
    obtain ⟨h1, h2⟩ := sel_and h
    rcases List.mem_cons.1 hi with hi | hi
    · subst hi; exact blt_is h1
    · exact ltAll_ok h2 i hi
theorem distinct_ok : ∀ {L : List Nat}, distinct L = true → ∀ (j k i : Nat), L[j]? = some i → L[k]? = some i → j = k
  | [], _, j, k, i, h, _ => by cases h
  | a :: L, h, j, k, i, hj, hk => by
    have h : sel (hasN a L) false (distinct L) = true := h
    have hin : ∀ m, L[m]? = some a → False := fun m hm => by
      have : hasN a L = true := by rw [hasN_ok]; exact List.contains_iff_mem.2 (List.mem_of_getElem? hm)
      rw [this] at h
      cases h
    cases ha : hasN a L
    · rw [ha] at h
      cases j with
      | zero =>
        cases k with
        | zero => rfl
        | succ k =>
          cases hj
          exact (hin k (by simpa using hk)).elim
      | succ j =>
        cases k with
        | zero =>
          cases hk
          exact (hin j (by simpa using hj)).elim
        | succ k => rw [distinct_ok (show distinct L = true from h) j k i (by simpa using hj) (by simpa using hk)]
    · rw [ha] at h; cases h
theorem oldOne_mem {i j : Nat} {was now new : Option ABlk} {l : List (Nat × ABlk)} {b' : ABlk} (h : (j, b') ∈ oldOne i was now new l) : (j = i ∧ ∃ b, now = some b ∧ new = some b' ∧ (was = some b → b' = b)) ∨ (j, b') ∈ l := by
  unfold oldOne at h
  split at h
  · rename_i b c
    rcases sel_eq (rfl : sel (sel (sameOB b was) (sameB c b) true) ((i, c) :: l) l = _) with ⟨h1, h2⟩ | ⟨_, h2⟩
    · rw [← h2] at h
      rcases List.mem_cons.1 h with h | h
      · cases h
        refine .inl ⟨rfl, b, rfl, rfl, fun hw => ?_⟩
        subst hw
        have hs : sameOB b (some b) = true := sameB_refl b
        rw [hs] at h1
        exact sameB_eq _ _ h1
      · exact .inr h
    · rw [← h2] at h; exact .inr h
  · exact .inr h
theorem oldL_mem {g : RenF} {S s : St} : ∀ {ids : List Nat} {j : Nat} {b' : ABlk}, (j, b') ∈ oldL g S s ids → j ∈ ids ∧ ∃ b, s.get j = some b ∧ renB g b = some b' ∧ (S.get j = some b → b' = b)
  | i :: ids, j, b', h => by
    rcases oldOne_mem h with ⟨rfl, b, h1, h2, h3⟩ | h
    · refine ⟨List.mem_cons_self, b, h1, ?_, h3⟩
      rw [h1] at h2
      exact h2
    · obtain ⟨h1, h2⟩ := oldL_mem h
      exact ⟨List.mem_cons_of_mem _ h1, h2⟩
theorem newL_mem {g : RenF} {s : St} : ∀ {N : List (Nat × Nat)} {j : Nat} {b' : ABlk}, (j, b') ∈ newL g s N → ∃ i b, (i, j) ∈ N ∧ s.get i = some b ∧ renB g b = some b'
  | (i, k) :: N, j, b', h => by
    have h : (j, b') ∈ newOne k (renOB g (s.get i)) (newL g s N) := h
    have go : (j, b') ∈ newL g s N → ∃ i' b, (i', j) ∈ (i, k) :: N ∧ s.get i' = some b ∧ renB g b = some b' := fun h => by
      obtain ⟨i', b, h1, h2, h3⟩ := newL_mem h
      exact ⟨i', b, List.mem_cons_of_mem _ h1, h2, h3⟩
    cases hs : s.get i with
    | none => rw [hs] at h; exact go h
    | some b =>
      rw [hs] at h
      have h : (j, b') ∈ newOne k (renB g b) (newL g s N) := h
      cases hr : renB g b with
      | none => rw [hr] at h; exact go h
      | some c =>
        rw [hr] at h
        rcases List.mem_cons.1 h with h | h
        · cases h
          exact ⟨i, b, List.mem_cons_self, hs, hr⟩
        · exact go h

/-- where the blocks lie, under the new names -/
def Rho.names (q : Rho) (n : Nat) (L : List Nat) : Rho := fun j => if j < n then q j else (L[j - n]?).bind q
theorem names_ok (q : Rho) (n : Nat) (L : List Nat) : RenOK q (renOf n (putL (nameL n L) .lf)) (q.names n L) := by
  intro i j x hg hx
  unfold renOf at hg
  rcases sel_eq hg with ⟨h1, h2⟩ | ⟨h1, h2⟩
  · cases h2
    show (if i < n then q i else _) = _
    rw [if_pos (blt_is h1)]
    exact hx
  · obtain ⟨h3, h4, h5⟩ := nameL_mem (putL_in h2)
    show (if j < n then q j else (L[j - n]?).bind q) = _
    rw [if_neg (by omega), h5]
    exact hx
theorem canon_ok {r q : Rho} {S s : St} {w u : World} (hr : Rel r S w) (h : Ext r S w q s u) {L ids : List Nat} (hi : ltAll S.next ids = true) (hge : geAll S.next L = true) (hd : distinct L = true) :
    Ext r S w (q.names S.next L) ⟨putL (oldL (renOf S.next (putL (nameL S.next L) .lf)) S s ids ++ newL (renOf S.next (putL (nameL S.next L) .lf)) s (nameL S.next L)) .lf, S.next + L.length⟩ u := by
  have hg := names_ok q S.next L
  generalize renOf S.next (putL (nameL S.next L) .lf) = g at hg
  generalize hT : (⟨putL (oldL g S s ids ++ newL g s (nameL S.next L)) .lf, S.next + L.length⟩ : St) = T
  have hTn : T.next = S.next + L.length := by rw [← hT]
  have low : ∀ {i}, i < S.next → q.names S.next L i = q i := fun {i} hi => if_pos hi
  have high : ∀ {i}, ¬ i < S.next → q.names S.next L i = (L[i - S.next]?).bind q := fun {i} hi => if_neg hi
  -- a block of the new state: old, or new
  have cases2 : ∀ i b', T.get i = some b' → (i < S.next ∧ ∃ b, s.get i = some b ∧ renB g b = some b' ∧ (S.get i = some b → b' = b)) ∨ (S.next ≤ i ∧ i < S.next + L.length ∧ ∃ k b, L[i - S.next]? = some k ∧ s.get k = some b ∧ renB g b = some b') := by
    intro i b' hb
    have hb : (putL (oldL g S s ids ++ newL g s (nameL S.next L)) .lf).get i = some b' := by rw [← hT] at hb; exact hb
    rcases List.mem_append.1 (putL_in hb) with h1 | h1
    · obtain ⟨h2, h3⟩ := oldL_mem h1
      exact .inl ⟨ltAll_ok hi i h2, h3⟩
    · obtain ⟨k, b, h2, h3, h4⟩ := newL_mem h1
      obtain ⟨h5, h6, h7⟩ := nameL_mem h2
      exact .inr ⟨h5, h6, k, b, h7, h3, h4⟩
  -- its old name
  have orig : ∀ i b' x, T.get i = some b' → q.names S.next L i = some x → ∃ k b, s.get k = some b ∧ q k = some x ∧ renB g b = some b' ∧ ((i < S.next ∧ k = i) ∨ (S.next ≤ i ∧ L[i - S.next]? = some k)) := by
    intro i b' x hb hx
    rcases cases2 i b' hb with ⟨h1, b, h2, h3, _⟩ | ⟨h1, _, k, b, h2, h3, h4⟩
    · rw [low h1] at hx
      exact ⟨i, b, h2, hx, h3, .inl ⟨h1, rfl⟩⟩
    · rw [high (by omega), h2] at hx
      exact ⟨k, b, h3, hx, h4, .inr ⟨h1, h2⟩⟩
  refine ⟨⟨⟨fun i b' x hb hx => ?_, fun i hi => ?_⟩, fun i j b c x y hb hc hx hy hxy => ?_, fun i x hx => ?_⟩, fun i x hx => ?_, by omega, h.os, h.tape, h.output, h.size, h.frame, fun i hi hri b hb => ?_, fun i hi hg' => ?_, fun k ⟨i, b, x, hb, hx, hk⟩ => ?_, fun i hri hq => ?_⟩
  · obtain ⟨k, b, h1, h2, h3, _⟩ := orig i b' x hb hx
    obtain ⟨o, h4, h5⟩ := h.rel.block k b x h1 h2
    exact ⟨o, h4, h5.ren hg h3⟩
  · cases hb : T.get i with
    | none => rfl
    | some b' =>
      rw [hTn] at hi
      rcases cases2 i b' hb with ⟨h1, _⟩ | ⟨_, h1, _⟩ <;> omega
  · obtain ⟨k, b0, h1, h2, _, h3⟩ := orig i b x hb hx
    obtain ⟨m, c0, h4, h5, _, h6⟩ := orig j c y hc hy
    have := h.rel.apart k m b0 c0 x y h1 h4 h2 h5 hxy
    subst this
    rcases h3 with ⟨h3, h7⟩ | ⟨h3, h7⟩ <;> rcases h6 with ⟨h6, h8⟩ | ⟨h6, h8⟩
    · omega
    · have := geAll_ok hge k (List.mem_of_getElem? h8); omega
    · have := geAll_ok hge k (List.mem_of_getElem? h7); omega
    · have := distinct_ok hd _ _ _ h7 h8; omega
  · rw [hTn]
    by_cases hi : i < S.next
    · omega
    · rw [high hi] at hx
      cases hl : L[i - S.next]? with
      | none => rw [hl] at hx; cases hx
      | some k =>
        have := (List.getElem?_eq_some_iff.1 hl).1
        omega
  · rw [low (hr.known i x hx)]
    exact h.le i x hx
  · rcases cases2 i b hb with ⟨_, b0, h1, _, h3⟩ | ⟨h1, _⟩
    · have h4 := h.still i hi hri b0 h1
      rw [h3 h4]
      exact h4
    · omega
  · cases hb : T.get i with
    | none => rfl
    | some b' =>
      rcases cases2 i b' hb with ⟨_, b0, h1, _⟩ | ⟨h1, _⟩
      · rw [h.dead i hi hg'] at h1; cases h1
      · omega
  · obtain ⟨m, b0, h1, h2, _⟩ := orig i b x hb hx
    exact h.hits k ⟨m, b0, x, h1, h2, hk⟩
  · by_cases hi : i < S.next
    · rw [low hi] at hq
      exact h.fresh i hri hq
    · omega
end Go.Proofs.YtchkcnecgfolmaaGreatDoor.Ev
namespace Go.Proofs.YtchkcnecgfolmaaGreatDoor.Ev
open Go
set_option linter.unusedSectionVars false
set_option linter.unusedVariables false
set_option linter.unusedSimpArgs false
variable [Sig] {P : Program}

theorem canKeep_ok {cs : List Can} : ∀ {l : List (Nat × ABlk)} {i : Nat} {b : ABlk}, (i, b) ∈ canKeep cs l → canHasAll i b cs = true
  | (j, c) :: l, i, b, h => by
    have h : (i, b) ∈ sel (canHasAll j c cs) ((j, c) :: canKeep cs l) (canKeep cs l) := h
    cases hh : canHasAll j c cs
    · rw [hh] at h
      exact canKeep_ok (l := l) h
    · rw [hh] at h
      rcases List.mem_cons.1 h with h | h
      · cases h; exact hh
      · exact canKeep_ok (l := l) h
theorem canHasAll_ok {i : Nat} {b : ABlk} : ∀ {cs : List Can}, canHasAll i b cs = true → ∀ v post m, Can.mk v post m ∈ cs → (putL post .lf).get i = some b
  | c :: cs, h, v, post, m, hm => by
    obtain ⟨h1, h2⟩ := sel_and h
    rcases List.mem_cons.1 hm with hm | hm
    · subst hm
      have h1 : sameOB b ((putL post .lf).get i) = true := h1
      unfold sameOB at h1
      split at h1
      · rename_i c hc; rw [hc, sameB_eq _ _ h1]
      · cases h1
    · exact canHasAll_ok h2 v post m hm
theorem canAll_ok {v : AVal} {m : Nat} : ∀ {cs : List Can}, canAll v m cs = true → ∀ c ∈ cs, ∃ post, c = .mk v post m
  | c :: cs, h, d, hd => by
    obtain ⟨h1, h2⟩ := sel_and h
    rcases List.mem_cons.1 hd with hd | hd
    · subst hd
      cases d with
      | bad => cases h1
      | mk u post n =>
        obtain ⟨h3, h4⟩ := sel_and h1
        rw [sameV_eq _ _ h3, beq_is h4]
        exact ⟨post, rfl⟩
    · exact canAll_ok h2 d hd
theorem canRs_mem {S : St} {ids : List Nat} : ∀ {l : List R} {y : R}, y ∈ l → canR S ids y ∈ canRs S ids l
  | z :: l, y, h => by
    rcases List.mem_cons.1 h with h | h
    · subst h; exact List.mem_cons_self
    · exact List.mem_cons_of_mem _ (canRs_mem h)
theorem canR_ok {S : St} {ids : List Nat} {y : R} {v' : AVal} {post : List (Nat × ABlk)} {m : Nat} (h : canR S ids y = .mk v' post m) : ∃ v s L, y = .ok v s ∧ ltAll S.next ids = true ∧ geAll S.next L = true ∧ distinct L = true ∧
    renV (renOf S.next (putL (nameL S.next L) .lf)) v = some v' ∧ post = oldL (renOf S.next (putL (nameL S.next L) .lf)) S s ids ++ newL (renOf S.next (putL (nameL S.next L) .lf)) s (nameL S.next L) ∧ m = S.next + L.length := by
  unfold canR at h
  split at h
  · rename_i v s
    generalize newIds ids v s = L at h
    unfold canL at h
    rcases sel_eq h with ⟨h1, h⟩ | ⟨_, h⟩
    · rcases sel_eq h with ⟨h2, h⟩ | ⟨_, h⟩
      · rcases sel_eq h with ⟨h3, h⟩ | ⟨_, h⟩
        · unfold canG canV at h
          split at h
          · rename_i v1 hv1
            cases h
            exact ⟨v, s, L, rfl, h1, h2, h3, hv1, rfl, rfl⟩
          · cases h
        · cases h
      · cases h
    · cases h
  · cases h

theorem many_ok {call : CallF} (hcall : CallOK P call) (hdraw : ∀ K, DrawOK P call K) {kn : Known} {keep : Keep} {fuel : Nat} {f : FuncId} {fn : Func} {b : Code} (hfn : P.funcs[f]? = some fn) (hname : (fn.name == "runtime.NumGoroutine") = false) (hb : fn.body = some b)
    (hreg : Regs (KnOK P ⟨fn.ntmps, keep⟩ kn) b) (hregs : ∀ d, Regs (fun _ _ _ => True) d → Regs (KnOK P ⟨fn.ntmps, keep⟩ kn) d) {args : List AVal} {s s' : St} {v : AVal}
    (h : manyB P call kn keep fuel f fn args s fn.body = .ok v s') {r : Rho} {w : World} {us : List Value} (hr : Rel r s w) (hv : VRs r args us) :
    CallsF P f ⟨us⟩ w fun u w' => ∃ q, Ext r s w q s' w' ∧ VR q v u := by
  rw [hb] at h
  have h : manyI P call ⟨fn.ntmps, keep⟩ kn fuel f (rvsOf P fn.results.toList) b args s (argIds args s) = .ok v s' := h
  generalize argIds args s = ids at h
  unfold manyI manyRun at h
  generalize hS : (⟨putL (gather s ids) .lf, s.next⟩ : St) = S at h
  have hSn : S.next = s.next := by rw [← hS]
  have hM : CodeM P ⟨fn.ntmps, keep⟩ b (execL P call ⟨fn.ntmps, keep⟩ fuel (exL P call ⟨fn.ntmps, keep⟩ kn fuel) b) := execL_ok hcall b fun d hd => exec_ok hcall (hdraw _) fuel d (hregs d hd)
  generalize execL P call ⟨fn.ntmps, keep⟩ fuel (exL P call ⟨fn.ntmps, keep⟩ kn fuel) b = F at h hM
  generalize hy : F (enterE ⟨fn.ntmps, keep⟩ 0 .lf args) S = ys at h
  have hs : ∀ i b, S.get i = some b → s.get i = some b := fun i b hb => by rw [← hS] at hb; exact gather_get (putL_in hb)
  have hrS : Rel r S w := hr.some hs hSn
  -- what each way comes to
  have hys : ∀ y ∈ ys, ∃ v1 s1 L, doneR (rvsOf P fn.results.toList) y = .ok v1 s1 ∧ ltAll S.next ids = true ∧ geAll S.next L = true ∧ distinct L = true ∧ renV (renOf S.next (putL (nameL S.next L) .lf)) v1 = some v ∧
      ∃ E : Ent, E.S = S ∧ E.n = s.next ∧ s' = E.over s ∧ E.m = S.next + L.length ∧
        ∀ i b, E.S'.get i = some b → (putL (oldL (renOf S.next (putL (nameL S.next L) .lf)) S s1 ids ++ newL (renOf S.next (putL (nameL S.next L) .lf)) s1 (nameL S.next L)) .lf).get i = some b := by
    intro y hmem
    have hc := canRs_mem (S := S) (ids := ids) (doneRs_mem (l := rvsOf P fn.results.toList) hmem)
    unfold manyOut at h
    split at h
    · rename_i v0 post m l hcs
      rcases sel_eq h with ⟨hall, h⟩ | ⟨_, h⟩
      · cases h
        rw [hcs] at hc
        have hex : ∃ post', canR S ids (doneR (rvsOf P fn.results.toList) y) = .mk v post' m ∧ Can.mk v post' m ∈ (Can.mk v post m :: l) := by
          rcases List.mem_cons.1 hc with hc' | hc'
          · exact ⟨post, hc', List.mem_cons_self⟩
          · obtain ⟨post', h1⟩ := canAll_ok hall _ hc'
            exact ⟨post', h1, h1 ▸ List.mem_cons_of_mem _ hc'⟩
        obtain ⟨post', h1, h2⟩ := hex
        obtain ⟨v1, s1, L, h3, h4, h5, h6, h7, h8, h9⟩ := canR_ok h1
        refine ⟨v1, s1, L, h3, h4, h5, h6, h7, ⟨f, args, gather s ids, S.next, v, canKeep (.mk v post m :: l) post, m⟩, ?_, hSn, rfl, h9, fun i b hb => ?_⟩
        · rw [← hS]
          rfl
        · have := canHasAll_ok (canKeep_ok (putL_in hb)) _ _ _ h2
          rw [h8] at this
          exact this
      · cases h
    · cases h
  have hcf : ∀ args w, (callFunc f args).run P w = .ok (.enter f args) w := fun args w => by
    have hname' : fn.name ≠ "runtime.NumGoroutine" := by simpa using hname
    simp [callFunc, hfn, hname', hb]
  refine .inr ⟨hcf _ _, ?_⟩
  refine calls_of_wp hfn hb (hM _ S (fun y hmem hbad => ?_) r w _ _ hrS (enter_ok hv) fun x e' s1 hmem q a' w' hx he => ?_)
  · rw [hy] at hmem
    obtain ⟨v1, s1, L, h1, _⟩ := hys y hmem
    subst hbad
    cases h1
  · rw [hy] at hmem
    obtain ⟨v1, s2, L, h1, h4, h5, h6, h7, E, g1, g2, g3, g4, g5⟩ := hys _ hmem
    obtain ⟨x', e1, h2, h3, h8⟩ := doneR_ok h1
    cases h2
    obtain ⟨u, h9, h10⟩ := results_ok hx.rel he h8
    have hcan := canon_ok hrS hx h4 h5 h6
    have hx' : Ext r E.S w (q.names S.next L) E.S' w' := by
      rw [g1]
      exact hcan.forget g5 g4
    have hx2 := hx'.beside hr (by rw [g1]; exact hs) g2
    rw [← g3] at hx2
    have hv2 := h10.ren (names_ok q S.next L) h7
    rcases h3 with rfl | rfl
    · exact ⟨he.defers, u, h9, u, rfl, _, hx2, hv2⟩
    · exact ⟨he.defers, u, h9, u, rfl, _, hx2, hv2⟩

/-- what the run leans on, without regions that are known otherwise -/
theorem stepM_ok {B : Base} (hB : BaseOK P B) (hreg : ∀ f id, B.reg f id = none) (M : FuncId → Bool) {call : CallF} (hcall : CallOK P call) (hdraw : ∀ K, DrawOK P call K) (fuel : Nat) (orc : FuncId → Option Orc) (horc : ∀ f g, orc f = some g → OrcOK P f g) :
    CallOK P (fun f args s => stepM P B M call fuel f args s (orc f)) := by
  intro f args s v s' h r w us hr hv
  have h : stepM P B M call fuel f args s (orc f) = .ok v s' := h
  have hB' : BaseOK P { B with orc := orc } := ⟨hB.fn, hB.reg, horc⟩
  cases ho : orc f with
  | some g =>
    rw [ho] at h
    exact horc f g ho args s v s' h r w us hr hv
  | none =>
    rw [ho] at h
    have h : sel (M f) (manyF P call (B.reg f) (B.keep f) fuel f args s (B.fn f)) (enterF P call (B.reg f) fuel args s (fcOf P call (B.keep f) (B.reg f) (B.fn f))) = .ok v s' := h
    rcases sel_eq h with ⟨_, h⟩ | ⟨_, h⟩
    · cases hf : B.fn f with
      | none => rw [hf] at h; cases h
      | some fn =>
        rw [hf] at h
        have h : manyB P call (B.reg f) (B.keep f) fuel f fn args s fn.body = .ok v s' := h
        obtain ⟨hfn, hname⟩ := hB.fn f fn hf
        cases hb : fn.body with
        | none => rw [hb] at h; cases h
        | some b =>
          have hk : ∀ d, Regs (KnOK P ⟨fn.ntmps, B.keep f⟩ (B.reg f)) d := fun d => Regs.all (fun id ops d g hg => by rw [hreg] at hg; cases hg) d
          exact many_ok hcall hdraw hfn hname hb (hk b) (fun d _ => hk d) h hr hv
    · have hs : callStep P { B with orc := orc } call fuel f args s ((fun _ => none : FuncId → Option Orc) f) = .ok v s' := h
      exact callStep_ok (B := { B with orc := fun _ => none }) ⟨hB.fn, hB.reg, fun f g h => by cases h⟩ hcall hdraw fuel f args s v s' hs r w us hr hv
theorem callM_ok {B : Base} (hB : BaseOK P B) (hreg : ∀ f id, B.reg f id = none) (hm : P.follows .mixedOrders = true) (M : FuncId → Bool) (fuel : Nat) : ∀ d, CallOK P (callM P B M fuel d)
  | 0 => fun f args s v s' h => by cases h
  | d + 1 => stepM_ok hB hreg M (callM_ok hB hreg hm M fuel d) (fun K => draw_ok hm (callM_ok hB hreg hm M fuel d)) fuel B.orc hB.orc
/-- what the kernel says of an entry is right -/
theorem entM_ok {B : Base} (hB : BaseOK P B) (hreg : ∀ f id, B.reg f id = none) (hm : P.follows .mixedOrders = true) {M : FuncId → Bool} {fuel d : Nat} {e : Ent} (h : entChkM P B M fuel d e = true) : EntOK P e := by
  intro r w us hr hv
  unfold entChkM chkR at h
  split at h
  · rename_i v s1 he
    obtain ⟨h1, h⟩ := sel_and h
    obtain ⟨h2, h3⟩ := sel_and h
    have hc := stepM_ok hB hreg M (callM_ok hB hreg hm M fuel d) (fun K => draw_ok hm (callM_ok hB hreg hm M fuel d)) fuel (fun _ => none) (fun f g h => by cases h) e.f e.args e.S v s1 he r w us hr hv
    refine hc.mono fun u w' ⟨q, h4, h5⟩ => ⟨q, h4.forget (fun i b hb => hasL_get h3 i b (putL_in hb)) (Nat.eq_of_beq_eq_true h2).symm, ?_⟩
    rw [← sameV_eq _ _ h1]
    exact h5
  · cases h
end Go.Proofs.YtchkcnecgfolmaaGreatDoor.Ev
