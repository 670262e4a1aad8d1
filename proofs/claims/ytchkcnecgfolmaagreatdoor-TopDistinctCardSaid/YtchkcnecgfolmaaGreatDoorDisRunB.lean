/-
  Operations, regions, code and calls of the evaluator do what the model does. No condition of ours.
-/
import Derived.Test.YtchkcnecgfolmaaGreatDoorDisRunA
import Derived.Laws.Tables
import Derived.Laws.AppendOwn
import Derived.Calls
import Derived.LoopN
import Derived.Scope
namespace Go.Proofs.YtchkcnecgfolmaaGreatDoor.Ev
open Go
set_option linter.unusedSectionVars false
set_option linter.unusedVariables false
set_option linter.unusedSimpArgs false
variable [Sig] {P : Program} {r : Rho} {s : St} {w : World}

/-- what a word of the model does that makes one block -/
def Make (P : Program) (r : Rho) (w : World) (x : Sem Value) (mk : Nat → AVal) (b : ABlk) : Prop :=
  ∃ w' u y o, x.run P w = .ok u w' ∧ y.blk = w.heap.size ∧ w'.heap[y.blk]? = some o ∧ (∀ k, k < w.heap.size → w'.heap[k]? = w.heap[k]?) ∧ w.heap.size ≤ w'.heap.size ∧
    w'.os = w.os ∧ w'.tape = w.tape ∧ w'.output = w.output ∧ ∀ i, r i = none → BR (r.at i y) b y o ∧ VR (r.at i y) (mk i) u
theorem Make.does (h : Rel r s w) {x : Sem Value} {mk : Nat → AVal} {b : ABlk} (hm : Make P r w x mk b) : Does P r s w x (mk s.next) (s.new b) := by
  obtain ⟨w', u, y, o, h1, h2, h3, h4, h5, h6, h7, h8, h9⟩ := hm
  obtain ⟨h10, h11⟩ := h9 s.next (h.none_next (Nat.le_refl _))
  exact ⟨r.at s.next y, w', u, h1, h11, Ext.new h h2 h3 h10 h4 h5 h6 h7 h8⟩

/-- a new object -/
theorem make_obj {x : Sem Value} {mk : Nat → AVal} {b : ABlk} {o : Obj} {u : Value} {n e : Nat} (hx : x.run P w = .ok u (w.alloc o))
    (hr : ∀ i, r i = none → BR (r.at i ⟨w.heap.size, n, e⟩) b ⟨w.heap.size, n, e⟩ o ∧ VR (r.at i ⟨w.heap.size, n, e⟩) (mk i) u) : Make P r w x mk b :=
  ⟨_, u, ⟨w.heap.size, n, e⟩, o, hx, rfl, alloc_new w o, fun k hk => alloc_old o hk, by rw [World.size_alloc]; omega, rfl, rfl, rfl, hr⟩
theorem br_cells {cs : List AVal} {vs : List Value} (hv : VRs r cs vs) {i : Nat} (hi : r i = none) (b : Nat) (t : TypeId) (e : Nat) :
    BR (r.at i ⟨b, vs.length, e⟩) (.cells cs e false) ⟨b, vs.length, e⟩ (.cells ⟨vs⟩ t) :=
  ⟨rfl, vs, [], t, (0, 0), by simp, hv.mono (Rho.at_le r _ hi), by simp, fun _ => rfl, fun i _ => by omega⟩

theorem run_newVar {t : TypeId} {u : Value} : (newVar t u).run P w = .ok ⟨w.heap.size, 0, none⟩ (w.alloc (.cells u.cells t)) := rfl
theorem alloc_ok {t : TypeId} {z : AVal} (hz : zeroT P t = some z) (u0 : Value) : Make P r w (Instr.alloc t true u0) (fun i => .ptr i 0) (.cells z.cells 0 false) := by
  obtain ⟨_, u, _, _, h1, h2⟩ := zeroT_ok hz
  refine make_obj (o := .cells ⟨u.cells.toList⟩ t) (u := .pointer (some ⟨w.heap.size, 0, none⟩)) (n := u.cells.toList.length) (e := 0) ?_ fun i hi => ⟨br_cells (h2 r).cells hi _ _ _, .ptr (Rho.at_same _ _ _)⟩
  simp only [Instr.alloc, Sem.run_bind, h1, Result.andThen_ok, run_newVar]
  rfl
theorem box_ok {t : TypeId} {v : AVal} {u : Value} (hv : VR r v u) : Make P r w (Instr.box t u) (fun i => .ptr i 0) (.cells v.cells 0 false) := by
  refine make_obj (o := .cells ⟨u.cells.toList⟩ t) (u := .pointer (some ⟨w.heap.size, 0, none⟩)) (n := u.cells.toList.length) (e := 0) ?_ fun i hi => ⟨br_cells hv.cells hi _ _ _, .ptr (Rho.at_same _ _ _)⟩
  simp only [Instr.box, Sem.run_bind, Result.andThen_ok, run_newVar]
  rfl
theorem makeMap_ok {t : TypeId} : Make P r w (Instr.makeMap t none) (fun i => .map i) (.map [] 0) := by
  refine make_obj (o := .map ⟨[]⟩ 0) (u := .map (some w.heap.size)) (n := 0) (e := 0) ?_ fun i hi => ⟨⟨[], rfl, .nil⟩, .map (x := ⟨w.heap.size, 0, 0⟩) (Rho.at_same _ _ _)⟩
  simp [Instr.makeMap]

/- parts laid into a whole -/
theorem set_mid : ∀ (cs mid pre post : List Value) (off k : Nat), pre.length = off + k → mid.length = cs.length →
    (cs.zipIdx k).foldl (fun (l : List Value) (x : Value × Nat) => l.set (off + x.2) x.1) (pre ++ (mid ++ post)) = pre ++ (cs ++ post)
  | [], [], pre, post, off, k, _, _ => rfl
  | [], _ :: _, _, _, _, _, _, h => by cases h
  | _ :: _, [], _, _, _, _, _, h => by cases h
  | c :: cs, m :: mid, pre, post, off, k, h, hm => by
    rw [List.zipIdx_cons, List.foldl_cons]
    have h1 : (pre ++ (m :: mid ++ post)).set (off + k) c = (pre ++ [c]) ++ (mid ++ post) := by
      rw [← h, List.set_append_right _ _ (Nat.le_refl _)]
      simp
    rw [h1, set_mid cs mid (pre ++ [c]) post off (k + 1) (by rw [List.length_append, h]; rfl) (by simpa using hm)]
    simp
theorem set_splice (off : Nat) (cs l : List Value) (h : off + cs.length ≤ l.length) :
    (cs.zipIdx).foldl (fun (l : List Value) (x : Value × Nat) => l.set (off + x.2) x.1) l = l.take off ++ (cs ++ l.drop (off + cs.length)) := by
  have h1 : l = l.take off ++ ((l.drop off).take cs.length ++ l.drop (off + cs.length)) := by
    rw [← List.drop_drop, List.take_append_drop, List.take_append_drop]
  have h2 := set_mid cs ((l.drop off).take cs.length) (l.take off) (l.drop (off + cs.length)) off 0 (by rw [List.length_take]; omega) (by rw [List.length_take, List.length_drop]; omega)
  rw [← h1] at h2
  exact h2
theorem foldl_toArray (f : Nat → Nat) : ∀ (l : List (Value × Nat)) (a : List Value),
    (l.foldl (fun (cs : Array Value) (x : Value × Nat) => cs.setIfInBounds (f x.2) x.1) ⟨a⟩) = ⟨l.foldl (fun (l : List Value) (x : Value × Nat) => l.set (f x.2) x.1) a⟩
  | [], a => rfl
  | x :: l, a => by
    rw [List.foldl_cons, List.foldl_cons, ← foldl_toArray f l]
    congr 1
    apply Array.ext'
    simp

/-- the parts of a whole and where they go, as the model has them -/
inductive FR2 (r : Rho) (l : List AVal) (e : Env) (place : Nat → Option (Nat × Nat)) : Fill → List (Nat × Value) → Prop where
  | nil : FR2 r l e place .nil []
  | cons {x : AOpd} {p : Pt} {f : Fill} {i : Nat} {u : Value} {ps : List (Nat × Value)} (hx : ∀ v, evalO l e x = .ok v → VR r v u)
      (hp : ∀ o n g, p = .mk o n g → place i = some (o, n)) (h : FR2 r l e place f ps) : FR2 r l e place (.cons x p f) ((i, u) :: ps)
theorem fillA_ok {l : List AVal} {e : Env} {place : Nat → Option (Nat × Nat)} : ∀ {f : Fill} {ps : List (Nat × Value)}, FR2 r l e place f ps → ∀ {cs cs' : List AVal} {us : List Value},
    fillA l e f cs = some cs' → VRs r cs us → ∃ us', Instr.fill place ⟨us⟩ ps = some ⟨us'⟩ ∧ VRs r cs' us'
  | _, _, .nil, cs, cs', us, h, hv => by
    cases h
    exact ⟨us, rfl, hv⟩
  | _, _, .cons (x := x) (p := p) (f := f) (u := u) hx hp hf, cs, cs', us, h, hv => by
    simp only [fillA] at h
    split at h
    · rename_i off n g v hv1
      rcases sel_eq h with ⟨h1, h2⟩ | ⟨_, h2⟩
      · split at h2
        · rename_i cs1 hs
          obtain ⟨h3, rfl, _⟩ := splice_eq hs
          have hxv := (hx v hv1).cells
          have hul := hxv.length
          have hvl := hv.length
          obtain ⟨us', h4, h5⟩ := fillA_ok hf h2 ((hv.take off).append (hxv.append (hv.drop (off + v.cells.length))))
          refine ⟨us', ?_, h5⟩
          have hsz : u.cells.size = n := by rw [← Array.length_toList, hul, hasLen_eq h1]
          have hle : ¬ (off + u.cells.size > us.length) := by rw [← Array.length_toList, hul, hvl]; omega
          rw [← h4]
          simp only [Instr.fill, hp off n g rfl]
          rw [hsz] at hle ⊢
          have hle' : ¬ (off + n > (⟨us⟩ : Array Value).size) := hle
          simp only [ne_eq, not_true_eq_false, decide_false, Bool.false_or, hle', Bool.false_eq_true, if_false]
          congr 1
          have hz : u.cells.zipIdx = ⟨u.cells.toList.zipIdx⟩ := by
            apply Array.ext'
            simp
          rw [hz]
          show (Array.foldl (fun (cs : Array Value) (x : Value × Nat) => cs.setIfInBounds (off + x.2) x.1) ⟨us⟩ ⟨u.cells.toList.zipIdx⟩) = _
          rw [List.foldl_toArray', foldl_toArray (fun k => off + k), set_splice off u.cells.toList us (by rw [hul, hvl]; omega), hul]
          rfl
        · cases h2
      · cases h2
    · cases h

theorem mapM_places : ∀ (fs : List Field), (∀ f ∈ fs, ∃ n, sizeOfT P f.type = some n) →
    ∃ ps : List (Nat × Nat), fs.mapM (fun f => (P.info? f.type).map fun i => (f.offset, i.size)) = some ps ∧ ∀ (i : Nat) (f : Field) (n : Nat), fs[i]? = some f → sizeOfT P f.type = some n → ps[i]? = some (f.offset, n)
  | [], _ => ⟨[], rfl, fun i f n h => by cases h⟩
  | f :: fs, h => by
    obtain ⟨n, hn⟩ := h f List.mem_cons_self
    obtain ⟨ps, h1, h2⟩ := mapM_places fs fun g hg => h g (List.mem_cons_of_mem _ hg)
    have hn' : (P.info? f.type).map (fun i => (f.offset, i.size)) = some (f.offset, n) := by
      unfold sizeOfT at hn
      rw [Option.map_eq_some_iff] at hn ⊢
      obtain ⟨i, h3, rfl⟩ := hn
      exact ⟨i, h3, rfl⟩
    refine ⟨(f.offset, n) :: ps, by simp [List.mapM_cons, hn', h1], fun i g m hg hm => ?_⟩
    cases i with
    | zero => cases hg; rw [hn] at hm; cases hm; rfl
    | succ i => exact h2 i g m hg hm
theorem build_ok {t : TypeId} {z : AVal} (hz : buildZ P t = some z) {l : List AVal} {e : Env} {f : Fill} {ps : Array (Nat × Value)} {cs : List AVal}
    (hf : ∀ place : Nat → Option (Nat × Nat), (∀ i o n g, fieldT P t i = .mk o n g → place i = some (o, n)) → FR2 r l e place f ps.toList)
    (h : fillA l e f z.cells = some cs) : Gives P r w (Instr.build t ps) (.agg cs) := by
  obtain ⟨fs, h1, h2, h3⟩ := buildZ_ok hz
  obtain ⟨_, u, _, _, h4, h5⟩ := zeroT_ok h2
  obtain ⟨pl, h6, h7⟩ := mapM_places fs.toList h3
  have hpl : ∀ i o n g, fieldT P t i = .mk o n g → (⟨pl⟩ : Array (Nat × Nat))[i]? = some (o, n) := fun i o n g hi => by
    obtain ⟨fs', x, h8, h9, h10, h11, _⟩ := fieldT_ok hi
    rw [h1] at h8
    cases h8
    rw [List.getElem?_toArray, ← h10]
    exact h7 i x n (by rw [Array.getElem?_toList]; exact h9) h11
  obtain ⟨us, h8, h9⟩ := fillA_ok (hf (fun i => (⟨pl⟩ : Array (Nat × Nat))[i]?) hpl) h (h5 r).cells
  refine ⟨_, ?_, .agg h9⟩
  have hp := run_places (P := P) w fs.toList pl h6
  have h8' : Instr.fill (fun x => pl[x]?) u.cells ps.toList = some ⟨us⟩ := by simpa using h8
  simp [Instr.build, run_underlying h1, h4, Array.mapM_eq_mapM_toList, hp, h8']

/-- so many copies of cells -/
theorem repl_length (l : List AVal) : ∀ n, (repl n l).length = n * l.length
  | 0 => by simp [repl]
  | n + 1 => by rw [repl, List.length_append, repl_length l n, Nat.succ_mul]; omega
def replV : Nat → List Value → List Value
  | 0, _ => []
  | n + 1, l => l ++ replV n l
theorem VRs.rep {l : List AVal} {l' : List Value} (h : VRs r l l') : ∀ n, VRs r (Ev.repl n l) (Ev.replV n l')
  | 0 => .nil
  | n + 1 => h.append (VRs.rep h n)
theorem replV_length (l : List Value) : ∀ n, (Ev.replV n l).length = n * l.length
  | 0 => by simp [Ev.replV]
  | n + 1 => by rw [Ev.replV, List.length_append, replV_length l n, Nat.succ_mul]; omega
theorem replV_get {l : List Value} : ∀ (n i : Nat), i < n * l.length → (Ev.replV n l)[i]? = l[i % l.length]?
  | 0, i, h => by simp at h
  | n + 1, i, h => by
    rw [Nat.succ_mul] at h
    rw [Ev.replV]
    by_cases hi : i < l.length
    · rw [List.getElem?_append_left hi, Nat.mod_eq_of_lt hi]
    · rw [List.getElem?_append_right (by omega), replV_get n (i - l.length) (by omega), ← Nat.mod_eq_sub_mod (a := i) (by omega)]
theorem cycle_eq (z : Array Value) (n : Nat) : (Array.range (n * z.size)).map (fun i => z[i % z.size]!) = ⟨Ev.replV n z.toList⟩ := by
  apply Array.ext'
  apply List.ext_getElem?
  intro i
  by_cases h : i < n * z.size
  · have h0 : 0 < z.size := Nat.pos_of_ne_zero fun e => by rw [e] at h; simp at h
    have h1 : i % z.size < z.size := Nat.mod_lt _ h0
    rw [replV_get n i (by simpa using h)]
    simp [h, h1]
  · rw [List.getElem?_eq_none (by simp; omega), List.getElem?_eq_none (by rw [replV_length]; simpa using h)]

theorem buildSlice_ok {t : TypeId} {z : AVal} {e0 sz n : Nat} {g : Bool} (hz : zeroEl P t = some z) (he : elemT P t = .mk e0 sz g) (hsz : sz ≠ 0) (hn : n * sz ≤ 16777216)
    {l : List AVal} {e : Env} {f : Fill} {ps : Array (Nat × Value)} {cs : List AVal}
    (hf : ∀ place : Nat → Option (Nat × Nat), (∀ i, place i = some (i * sz, sz)) → FR2 r l e place f ps.toList)
    (h : fillA l e f (repl n z.cells) = some cs) : Make P r w (Instr.buildSlice t n ps) (fun i => .slice i 0 n none) (.cells cs sz false) := by
  obtain ⟨h1, h2, _⟩ := elemT_ok he
  obtain ⟨el, h3, h4, m, h5, h6⟩ := zeroEl_ok hz
  rw [h1] at h3
  cases h3
  rw [h2] at h5
  cases h5
  obtain ⟨_, u, _, _, h7, h8⟩ := zeroT_ok h4
  have hu := (h8 r).cells
  have hul : u.cells.size = sz := by rw [← Array.length_toList, hu.length, h6]
  obtain ⟨us, h9, h10⟩ := fillA_ok (hf (fun i => some (i * sz, sz)) fun _ => rfl) h (hu.rep n)
  have hcl : us.length = n * sz := by
    have hlen : ∀ {f : Fill} {cs cs' : List AVal}, fillA l e f cs = some cs' → cs'.length = cs.length := by
      intro f
      induction f with
      | nil => intro cs cs' h; cases h; rfl
      | cons x p f ih =>
        intro cs cs' h
        simp only [fillA] at h
        split at h
        · rcases sel_eq h with ⟨h1, h2⟩ | ⟨_, h2⟩
          · split at h2
            · rename_i cs1 hs
              obtain ⟨h3, rfl, _⟩ := splice_eq hs
              rw [ih h2]
              simp only [List.length_append, List.length_take, List.length_drop]
              omega
            · cases h2
          · cases h2
        · cases h
    rw [h10.length, hlen h, repl_length, h6]
  have hcy := cycle_eq u.cells n
  rw [hul] at hcy
  refine make_obj (o := .cells ⟨us⟩ e0) (u := .slice (some ⟨w.heap.size, 0, none⟩) n n) (n := us.length) (e := sz) ?_ fun i hi => ⟨br_cells h10 hi _ _ _, .slice (Rho.at_same _ _ _) (Nat.le_refl _) (fun k hk => by cases hk) fun _ => by simp [hcl]⟩
  have hgt : ¬ (n * sz > 2 ^ 24) := by omega
  simp only [Instr.buildSlice, Sem.run_bind, run_underlying h1, Result.andThen_ok, run_sizeOf h2, hgt, if_false]
  by_cases h0 : n * sz = 0
  · have hn0 : n = 0 := by rcases Nat.mul_eq_zero.1 h0 with h | h; exact h; exact absurd h hsz
    subst hn0
    have h9' : Instr.fill (fun i => some (i * sz, sz)) #[] ps.toList = some ⟨us⟩ := h9
    have hr0 : Array.range 0 = #[] := rfl
    simp [h9', newRow, hr0]
  · simp [h0, h7, hul, hcy, h9, newRow]

theorem byT_ok {t : TypeId} (h : byT P t = true) : ∃ e i, P.underlying t = some (.slice e) ∧ P.info? e = some i ∧ i.bytes ≤ 65536 := by
  unfold byT at h
  split at h
  · rename_i e h0
    split at h
    · rename_i i h1
      exact ⟨e, i, h0, h1, ble_is h⟩
    · cases h
  · cases h
theorem wrap_small {c : Nat} (h : c ≤ 65536) : IntKind.i64.wrap (c : Int) = (c : Int) := by
  exact IntWalk.i64_in _ (by omega)
theorem makeSl_ok {t : TypeId} {z : AVal} {e0 sz n c : Nat} {g : Bool} {k k' : IntKind} (hby : byT P t = true) (hz : zeroEl P t = some z) (he : elemT P t = .mk e0 sz g) (hsz : sz ≠ 0) (hnc : n ≤ c) (hc : c ≤ 65536) :
    Make P r w (Instr.makeSlice t (.int k (n : Int)) (.int k' (c : Int))) (fun i => .slice i 0 n (some c)) (.cells (repl c z.cells) sz false) := by
  obtain ⟨h1, h2, _⟩ := elemT_ok he
  obtain ⟨el, h3, h4, m, h5, h6⟩ := zeroEl_ok hz
  rw [h1] at h3
  cases h3
  rw [h2] at h5
  cases h5
  obtain ⟨_, i, h3, h9, h10⟩ := byT_ok hby
  rw [h1] at h3
  cases h3
  obtain ⟨_, u, _, _, h7, h8⟩ := zeroT_ok h4
  have hu := (h8 r).cells
  have hul : u.cells.size = sz := by rw [← Array.length_toList, hu.length, h6]
  have hcy := cycle_eq u.cells c
  rw [hul] at hcy
  refine make_obj (o := .cells ⟨replV c u.cells.toList⟩ e0) (u := .slice (some ⟨w.heap.size, 0, none⟩) n c) (n := (replV c u.cells.toList).length) (e := sz) ?_ fun i hi =>
    ⟨br_cells (hu.rep c) hi _ _ _, .slice (Rho.at_same _ _ _) hnc (fun k hk => by cases hk; rfl) fun hk => by cases hk⟩
  have hp : i.bytes * c ≤ 4294967296 := Nat.mul_le_mul h10 hc
  have hp' : (i.bytes : Int) * (c : Int) ≤ 4294967296 := by
    rw [← Int.natCast_mul]
    omega
  have hcond : (decide ((c : Int) < 0) || decide ((i.bytes : Int) * (c : Int) > 2 ^ 48) || decide ((n : Int) < 0) || decide ((n : Int) > (c : Int))) = false := by
    rw [Bool.or_eq_false_iff, Bool.or_eq_false_iff, Bool.or_eq_false_iff]
    refine ⟨⟨⟨decide_eq_false (by omega), decide_eq_false (by omega)⟩, decide_eq_false (by omega)⟩, decide_eq_false (by omega)⟩
  simp only [Instr.makeSlice, Sem.run_bind, run_underlying h1, Result.andThen_ok, run_sizeOf h2, asInt, asIntOf, Sem.run_pure, run_typeInfo h9, wrap_small hc, wrap_small (Nat.le_trans hnc hc), hcond,
    Bool.false_eq_true, if_false, run_askRoom, Int.toNat_natCast]
  by_cases h0 : c * sz = 0
  · have hc0 : c = 0 := by rcases Nat.mul_eq_zero.1 h0 with h | h; exact h; exact absurd h hsz
    subst hc0
    have hr0 : Array.range 0 = #[] := rfl
    simp [newRow, hr0]
    rfl
  · simp [h0, h7, hul, hcy, newRow]
theorem cellsOf_ok {r : Rho} : ∀ l : List UInt8, VRs r (cellsOfBytes l) (l.map fun b => .int .u8 (Int.ofNat b.toNat))
  | [] => .nil
  | b :: l => .cons (.int _ _) (cellsOf_ok l)
theorem strBytes_ok {e : TypeId} (l : List UInt8) : Make P r w (Conv.stringToBytes e ⟨⟨l⟩⟩) (fun i => .slice i 0 l.length none) (.cells (cellsOfBytes l) 1 true) := by
  have hge : l.length ≤ grownCap w l.length 0 e := grownCap_ge w l.length 0 e
  let A : Array Value := (⟨l⟩ : Array UInt8).map (fun b => Value.int .u8 b.toNat) ++ Array.replicate (grownCap w l.length 0 e - l.length) (.int .u8 0)
  have hA : A = ⟨(l.map fun b => Value.int .u8 (Int.ofNat b.toNat)) ++ List.replicate (grownCap w l.length 0 e - l.length) (.int .u8 0)⟩ := by
    apply Array.ext'
    simp [A]
  have hAs : A.size = grownCap w l.length 0 e := by
    simp [A]
    omega
  have hfr : ((w.drew.alloc (.cells A e)).freeze ⟨w.heap.size, A.size, none⟩ 1).heap = w.heap.push (.cells A e (A.size, A.size + 1)) := by
    have h0 : (w.drew.alloc (.cells A e)).heap = w.heap.push (.cells A e) := rfl
    rw [World.freeze, if_neg (by decide)]
    simp only [h0]
    apply Array.ext_getElem?
    intro k
    rw [Array.getElem?_modify, Array.getElem?_push, Array.getElem?_push]
    by_cases hk : k = w.heap.size
    · subst hk
      simp
    · rw [if_neg hk, if_neg hk, if_neg (Ne.symm hk)]
  refine ⟨(w.drew.alloc (.cells A e)).freeze ⟨w.heap.size, A.size, none⟩ 1, .slice (some ⟨w.heap.size, 0, none⟩) l.length (grownCap w l.length 0 e), ⟨w.heap.size, A.size, 1⟩, .cells A e (A.size, A.size + 1), ?_, rfl, ?_, ?_, ?_, rfl, rfl, rfl, fun i hi => ⟨?_, ?_⟩⟩
  · have hsz : (⟨⟨l⟩⟩ : ByteArray).size = l.length := rfl
    have hsh : (w.drew.alloc (.cells A e)).shape? w.heap.size = some (e, A.size) := by
      show (match (w.heap.push (.cells A e))[w.heap.size]? with | some (.cells c elem _) => some (elem, c.size) | _ => none) = _
      simp
    have hrow : ∀ B : Array Value, B = A → (newRow e B).run P w.drew = .ok ⟨w.heap.size, 0, none⟩ (w.drew.alloc (.cells A e)) := fun B hB => by rw [hB]; rfl
    have hch : (choose (.appendCap l.length 0 e)).run P w = .ok (grownCap w l.length 0 e) w.drew := rfl
    simp only [Conv.stringToBytes, Sem.run_bind, hsz, hch, Result.andThen_ok]
    rw [hrow _ rfl]
    simp only [Result.andThen_ok, markStringish, Sem.run_bind, run_shape, hsh, run_freeze, Sem.run_pure]
  · rw [hfr]; simp
  · intro k hk; rw [hfr, Array.getElem?_push, if_neg (by omega)]
  · rw [hfr, Array.size_push]; omega
  · refine ⟨rfl, _, _, e, _, congrArg (fun B => Obj.cells B e (A.size, A.size + 1)) hA, (cellsOf_ok l).mono (Rho.at_le r _ hi), ?_, fun h => (by cases h), fun k hk => ?_⟩
    · exact (congrArg Array.size hA).symm
    · show ¬ (A.size ≤ k ∧ k < A.size + 1)
      have : k < A.size := hk
      omega
  · exact .slice (Rho.at_same _ _ _) hge (fun k hk => by cases hk) fun _ => by
      show 0 + grownCap w l.length 0 e * 1 = A.size
      rw [hAs]
      omega
end Go.Proofs.YtchkcnecgfolmaaGreatDoor.Ev
namespace Go.Proofs.YtchkcnecgfolmaaGreatDoor.Ev
open Go
set_option linter.unusedSectionVars false
set_option linter.unusedVariables false
set_option linter.unusedSimpArgs false
variable [Sig] {P : Program} {r : Rho} {s : St} {w : World}

/-- known cells of a block are written anew -/
theorem run_put (h : Rel r s w) {id off : Nat} {x : RB} (hx : r id = some x) {cs : List AVal} {e : Nat} {o : Bool} (hc : s.cellsAt id = .mk cs e o)
    {nw : List AVal} {us : List Value} (hv : VRs r nw us) {cs' : List AVal} (hp : splice cs off nw = some cs') :
    ∃ w', (storeCells ⟨x.blk, off, none⟩ us).run P w = .ok () w' ∧ Ext r s w r (s.put id (.cells cs' e o)) w' := by
  obtain ⟨ob, hb, hr⟩ := h.block id _ x (cellsAt_ok hc) hx
  obtain ⟨he, vs, rest, et, fr, rfl, hvs, hlen, hop, hfr⟩ := hr
  obtain ⟨h1, rfl, h3⟩ := splice_eq hp
  have hcl := hvs.length
  have hul := hv.length
  refine ⟨upd w x.blk (.cells ⟨(vs ++ rest).take off ++ (us ++ (vs ++ rest).drop (off + us.length))⟩ et fr), ?_, Ext.put h (cellsAt_ok hc) hx (upd_same hb) ?_ (fun k hk => upd_ne _ hk) (upd_size _ _) rfl rfl rfl⟩
  · exact run_storeCells us 0 (vs ++ rest) w hb (by simp only [List.length_append, Nat.add_zero]; omega) (fun k hk => hfr k (by rw [← hlen]; exact hk)) (hv.ones h3)
  · refine ⟨he, vs.take off ++ (us ++ vs.drop (off + us.length)), rest, et, fr, ?_, (hvs.take off).append (hv.append ?_), ?_, hop, hfr⟩
    · rw [List.take_append_of_le_length (by omega), List.drop_append_of_le_length (by omega)]
      simp
    · rw [hul]
      exact hvs.drop _
    · rw [← hlen]
      simp only [List.length_append, List.length_take, List.length_drop]
      omega

theorem storeV_ok {t : TypeId} (h : Rel r s w) {v a b : AVal} {s' : St} (hl : storeV s (wholeT P t) v a = .ok b s') {x y : Value} (hv : VR r v y) (ha : VR r a x) :
    b = aundef ∧ DoesU P r s w (Instr.storeAt t x y) s' := by
  unfold storeV at hl
  split at hl
  · rename_i id off
    unfold storeC at hl
    split at hl
    · rename_i cs e o o' n g hc hp
      obtain ⟨h1, h2⟩ := selR_good hl
      obtain ⟨h3, _⟩ := wholeT_ok hp
      cases ha with
      | ptr hr =>
        unfold putCells at h2
        split at h2
        · rename_i cs' hs
          cases h2
          obtain ⟨w', h4, h5⟩ := run_storeVar (P := P) h hr hc h3 hv h1 hs
          refine ⟨rfl, r, w', ?_, h5⟩
          simp only [Instr.storeAt, Instr.sureAddr, Sem.run_bind, Sem.run_pure, Result.andThen_ok, h4]
        · cases h2
    · cases hl
  · cases hl

/- what is appended, or copied -/
theorem run_lenOf {v : AVal} {u : Value} {sz k : Nat} {news : List AVal} (h : srcCells s sz v = .mk news k) (hv : VR r v u) : (Builtin.lenOf u).run P w = .ok k w := by
  unfold srcCells at h
  split at h
  · cases h; cases hv; rfl
  · cases h; cases hv; rfl
  · rename_i l
    cases hv
    have : Src.mk (cellsOfBytes l) l.length = .mk news k := by
      cases hb : Nat.beq sz 1
      · rw [hb] at h; cases h
      · rw [hb] at h; exact h
    cases this
    rfl
  · rename_i id off n c
    unfold srcC at h
    split at h
    · rename_i cs e o hc
      cases hb : Nat.beq e sz
      · rw [hb] at h; cases h
      · rw [hb] at h
        have h : srcOut n (sub cs off (n * sz)) = .mk news k := h
        unfold srcOut at h
        split at h
        · cases h; cases hv; rfl
        · cases h
    · cases h
  · cases h
theorem run_firstCells (h : Rel r s w) {v : AVal} {u : Value} {sz k : Nat} {news : List AVal} (hs : srcCells s sz v = .mk news k) (hv : VR r v u) {m : Nat} (hm : m ≤ k) :
    ∃ us, (∀ d, (Builtin.firstCells sz m u).run P { w with drawn := d } = .ok ⟨us⟩ { w with drawn := d }) ∧ VRs r (news.take (m * sz)) us ∧ us.length = m * sz := by
  unfold srcCells at hs
  split at hs
  · cases hs; cases hv
    have : m = 0 := by omega
    subst this
    exact ⟨[], fun _ => rfl, by simp; exact .nil, by simp⟩
  · cases hs
    cases hv with
    | eslice a c =>
      have : m = 0 := by omega
      subst this
      refine ⟨[], ?_, by simp; exact .nil, by simp⟩
      intro d
      simp [Builtin.firstCells, loadCells, loadCellsFrom]
  · rename_i l
    cases hv
    cases hb : Nat.beq sz 1
    · rw [hb] at hs; cases hs
    · rw [hb] at hs
      have hs : Src.mk (cellsOfBytes l) l.length = .mk news k := hs
      cases hs
      have := beq_is hb
      subst this
      refine ⟨(l.take m).map fun b => .int .u8 (Int.ofNat b.toNat), ?_, ?_, ?_⟩
      · intro d
        simp only [Builtin.firstCells, bytes_extract, Sem.run_pure]
        congr 1
        apply Array.ext'
        simp
      · have : (cellsOfBytes l).take (m * 1) = cellsOfBytes (l.take m) := by
          rw [Nat.mul_one]
          clear hm hs
          induction l generalizing m with
          | nil => simp [cellsOfBytes]
          | cons b l ih =>
            cases m with
            | zero => rfl
            | succ m => simp [cellsOfBytes, ih]
        rw [this]
        exact cellsOf_ok _
      · simp; omega
  · rename_i id off n c
    unfold srcC at hs
    split at hs
    · rename_i cs e o hc
      cases hb : Nat.beq e sz
      · rw [hb] at hs; cases hs
      · rw [hb] at hs
        have hs : srcOut n (sub cs off (n * sz)) = .mk news k := hs
        unfold srcOut at hs
        split at hs
        · rename_i l hl
          cases hs
          cases hv with
          | slice hr hn hcp hu =>
            obtain ⟨h1, rfl⟩ := sub_eq hl
            have h2 : m * sz ≤ k * sz := Nat.mul_le_mul_right _ hm
            obtain ⟨ob, hb, hbr⟩ := h.block id _ _ (cellsAt_ok hc) hr
            obtain ⟨_, vs, rest, et, fr, rfl, hvs, hlen, _, _⟩ := hbr
            have hcl := hvs.length
            refine ⟨((vs ++ rest).drop off).take (m * sz), ?_, ?_, by simp only [List.length_take, List.length_drop, List.length_append]; omega⟩
            · intro d
              simp only [Builtin.firstCells]
              exact run_loadRange (w := { w with drawn := d }) hb (by simp only [List.length_append]; omega)
            · rw [List.take_take, Nat.min_eq_left h2]
              exact hvs.range (by omega)
        · cases hs
    · cases hs
  · cases hs

theorem copy_ok {t : TypeId} {ts : Array TypeId} {ty : TypeId} (ht : ts[0]? = some t) (h : Rel r s w) {x y v : AVal} {s' : St} (hl : copy (elemT P t) s x y = .ok v s') {a b : Value} (hx : VR r x a) (hy : VR r y b) :
    Does P r s w (Builtin.copy_ ts ty #[a, b]) v s' := by
  unfold copy at hl
  split at hl
  · rename_i e0 sz g hel
    obtain ⟨h0, hl⟩ := selR_bad hl
    obtain ⟨h1, h2, _⟩ := elemT_ok hel
    unfold cpSrc at hl
    split at hl
    · rename_i news k hsrc
      have hlen := run_lenOf (P := P) (w := w) hsrc hy
      unfold copyV at hl
      split at hl
      · cases hl
        cases hx
        obtain ⟨us, h3, h4, h5⟩ := run_firstCells (P := P) h hsrc hy (Nat.zero_le k)
        refine ⟨r, w, .int .i64 0, ?_, .int _ _, Ext.refl h⟩
        simp only [Builtin.copy_, ht, List.getElem?_toArray, List.getElem?_cons_zero, List.getElem?_cons_succ, Sem.run_bind, run_underlying h1, Result.andThen_ok, hlen, run_sizeOf h2]
        have : Nat.min k 0 = 0 := Nat.min_zero k
        rw [this, h3 w.drawn]
        rfl
      · rename_i id off len c _
        have hmin : minN k len = Nat.min k len := by
          unfold minN
          cases hb : Nat.ble k len
          · have := ble_not hb
            show len = min k len
            omega
          · have := ble_is hb
            show k = min k len
            omega
        rw [hmin] at hl
        unfold cpSl at hl
        split at hl
        · rename_i cs e o news' hc htk
          obtain ⟨h6, hl⟩ := selR_good hl
          unfold cpPut at hl
          split at hl
          · rename_i cs' hsp
            cases hl
            cases hx with
            | slice hr hn hcp hu =>
              obtain ⟨us, h3, h4, h5⟩ := run_firstCells (P := P) h hsrc hy (Nat.min_le_left k len)
              obtain ⟨_, rfl⟩ := takeN_eq _ htk
              obtain ⟨w', h7, h8⟩ := run_put (P := P) h hr hc h4 hsp
              refine ⟨r, w', .int .i64 (Int.ofNat (Nat.min k len)), ?_, .int _ _, h8⟩
              simp only [Builtin.copy_, ht, List.getElem?_toArray, List.getElem?_cons_zero, List.getElem?_cons_succ, Sem.run_bind, run_underlying h1, Result.andThen_ok, hlen, run_sizeOf h2, h3 w.drawn, h7]
              rfl
          · cases hl
        · cases hl
      · cases hl
    · cases hl
  · cases hl

theorem clear_ok {t : TypeId} {ts : Array TypeId} {ty : TypeId} (ht : ts[0]? = some t) (h : Rel r s w) {x v : AVal} {s' : St} (hl : clear (zeroEl P t) (elemT P t) s x = .ok v s') {a : Value} (hx : VR r x a) :
    Does P r s w (Builtin.clear_ ts ty #[a]) v s' := by
  unfold clear at hl
  split at hl
  · rename_i o n g hel
    cases hl; cases hx
    obtain ⟨h1, _⟩ := elemT_ok hel
    refine ⟨r, w, .tuple #[], ?_, .tuple .nil, Ext.refl h⟩
    simp [Builtin.clear_, ht, run_underlying h1]
  · rename_i o n g hel
    cases hl
    obtain ⟨h1, _⟩ := elemT_ok hel
    cases hx with
    | eslice ad c =>
      refine ⟨r, w, .tuple #[], ?_, .tuple .nil, Ext.refl h⟩
      simp [Builtin.clear_, ht, run_underlying h1]
  · rename_i id off len c o sz g hel
    obtain ⟨h1, h2, _⟩ := elemT_ok hel
    cases hx with
    | slice hr hn hcp hu =>
      rename_i x cap
      cases hb : Nat.beq len 0
      · rw [hb] at hl
        have hl : clC s id off len (zeroEl P t) sz (s.cellsAt id) = .ok v s' := hl
        have hn0 : len ≠ 0 := beq_ne hb
        unfold clC at hl
        split at hl
        · rename_i cs e o' z hc hz
          obtain ⟨h6, hl⟩ := selR_good hl
          unfold clPut at hl
          split at hl
          · rename_i cs' hsp
            cases hl
            obtain ⟨el, h3, h4, m, h5, h7⟩ := zeroEl_ok hz
            rw [h1] at h3
            cases h3
            obtain ⟨_, u, _, _, h8, h9⟩ := zeroT_ok h4
            obtain ⟨w', h10, h11⟩ := run_put (P := P) h hr hc ((h9 r).cells.rep len) hsp
            refine ⟨r, w', .tuple #[], ?_, .tuple .nil, h11⟩
            have hcy : Builtin.zeroCells u.cells len = ⟨Ev.replV len u.cells.toList⟩ := cycle_eq u.cells len
            obtain ⟨len, rfl⟩ := Nat.exists_eq_succ_of_ne_zero hn0
            simp only [Builtin.clear_, ht, List.getElem?_toArray, List.getElem?_cons_zero, Sem.run_bind, run_underlying h1, Result.andThen_ok, h8]
            rw [hcy, h10]
            rfl
          · cases hl
        · cases hl
      · rw [hb] at hl
        have hl : R.ok (.tuple []) s = .ok v s' := hl
        cases hl
        have := beq_is hb
        subst this
        refine ⟨r, w, .tuple #[], ?_, .tuple .nil, Ext.refl h⟩
        simp [Builtin.clear_, ht, run_underlying h1]
  · cases hl
end Go.Proofs.YtchkcnecgfolmaaGreatDoor.Ev
namespace Go.Proofs.YtchkcnecgfolmaaGreatDoor.Ev
open Go
set_option linter.unusedSectionVars false
set_option linter.unusedVariables false
set_option linter.unusedSimpArgs false
variable [Sig] {P : Program} {r : Rho} {s : St} {w : World}

/-- what is known of what is appended -/
structure SrcR (P : Program) (r : Rho) (w : World) (zs : Bool) (sz k : Nat) (z : Value) (news : List AVal) (b : Value) (us : List Value) : Prop where
  rel : VRs r news us
  len : us.length = k * sz
  plain : zs = false → (∀ w, (Builtin.lenOf b).run P w = .ok k w) ∧ (Builtin.firstCells sz k b).run P w = .ok ⟨us⟩ w ∧ (Builtin.firstCells sz k b).run P w.drew = .ok ⟨us⟩ w.drew
  zeros : zs = true → ∃ j, b = .int j (k : Int) ∧ k ≤ 65536 ∧ us = Ev.replV k z.cells.toList

theorem src_ok (h : Rel r s w) {zs : Bool} {t : TypeId} {z : AVal} {e0 sz : Nat} {g : Bool} (hz : zeroEl P t = some z) (he : elemT P t = .mk e0 sz g) {y : AVal} {news : List AVal} {k : Nat}
    (hs : srcOf zs s (some z) sz y = .mk news k) {b : Value} (hy : VR r y b) {u : Value} (hu : VR r z u) : ∃ us, SrcR P r w zs sz k u news b us := by
  obtain ⟨h1, h2, _⟩ := elemT_ok he
  obtain ⟨el, h3, h4, m, h5, h6⟩ := zeroEl_ok hz
  rw [h1] at h3
  cases h3
  rw [h2] at h5
  cases h5
  cases zs
  · have hs : srcCells s sz y = .mk news k := hs
    obtain ⟨us, h7, h8, h9⟩ := run_firstCells (P := P) h hs hy (Nat.le_refl k)
    have hnl : news.length = k * sz := by
      unfold srcCells at hs
      split at hs
      · cases hs; simp
      · cases hs; simp
      · rename_i l
        rcases sel_eq hs with ⟨h0, h10⟩ | ⟨_, h10⟩
        · cases h10
          have : ∀ l : List UInt8, (cellsOfBytes l).length = l.length := by
            intro l
            induction l with
            | nil => rfl
            | cons b l ih => simp [cellsOfBytes, ih]
          rw [this, beq_is h0, Nat.mul_one]
        · cases h10
      · unfold srcC at hs
        split at hs
        · rcases sel_eq hs with ⟨h0, h10⟩ | ⟨_, h10⟩
          · unfold srcOut at h10
            split at h10
            · rename_i l hl
              cases h10
              obtain ⟨h11, rfl⟩ := sub_eq hl
              rw [List.length_take, List.length_drop]
              omega
            · cases h10
          · cases h10
        · cases hs
      · cases hs
    rw [← hnl, List.take_length] at h8
    exact ⟨us, h8, h9, fun _ => ⟨fun w => run_lenOf hs hy, h7 w.drawn, h7 (w.drawn + 1)⟩, fun e => by cases e⟩
  · have hs : zerosOf (some z) (asNat y) = .mk news k := hs
    unfold zerosOf at hs
    split at hs
    · rename_i z' n h7 h8
      cases h7
      rcases sel_eq hs with ⟨h0, h10⟩ | ⟨_, h10⟩
      · cases h10
        obtain ⟨j, rfl⟩ := asNat_ok h8 hy
        refine ⟨Ev.replV k u.cells.toList, hu.cells.rep k, ?_, fun e => (by cases e), fun _ => ⟨j, rfl, ble_is h0, rfl⟩⟩
        rw [replV_length, hu.cells.length, h6]
      · cases h10
    · cases hs

variable {t e0 : TypeId} {ts : Array TypeId} {ty : TypeId} {sz k : Nat} {z : Value} {zs : Bool} {news : List AVal} {b : Value} {us : List Value}

/-- a type's info, as far as append needs it -/
structure ElR (P : Program) (t e0 : TypeId) (sz : Nat) (z : Value) : Prop where
  sl : P.underlying t = some (.slice e0)
  size : ∀ w, (sizeOf e0).run P w = .ok sz w
  info : ∃ i, (∀ w, (typeInfo e0).run P w = .ok i w) ∧ i.bytes ≤ 65536
  zero : ∀ w, (zeroValue e0).run P w = .ok z w
  fit : z.cells.size = sz
  pos : sz ≠ 0
/-- what kind of thing is appended -/
inductive ZsR (P : Program) (ts : Array TypeId) : Bool → Prop where
  | none (h : ts[1]? = none) : ZsR P ts false
  | int {u : TypeId} {k : IntKind} (h : ts[1]? = some u) (hu : P.underlying u = some (.int k)) : ZsR P ts true
  | other {u : TypeId} {d : TypeDesc} (h : ts[1]? = some u) (hu : P.underlying u = some d) (hd : ∀ k, d ≠ .int k) : ZsR P ts false
theorem zsOf_ok {ou : Option TypeId} (h : zsOf P ou = some zs) (ho : ts[1]? = ou) : ZsR P ts zs := by
  cases ou with
  | none => cases h; exact .none ho
  | some u =>
    have h : isIntT P u = some zs := h
    unfold isIntT at h
    split at h
    · rename_i k hu
      cases h
      exact .int ho hu
    · rename_i d hd hu
      cases h
      exact .other ho hu fun k e => hd k e
    · cases h
theorem app_norm (ht : ts[0]? = some t) (hz : ZsR P ts false) (hel : ElR P t e0 sz z) (a : Option Addr) (n c : Nat) (b : Value) :
    (Builtin.append_ ts ty #[.slice a n c, b]).run P w = (Builtin.append_ #[t, t] ty #[.slice a n c, b]).run P w := by
  have key : ∀ d, (∀ k, d ≠ TypeDesc.int k) → ∀ u, ts[1]? = some u → P.underlying u = some d →
      (Builtin.append_ ts ty #[.slice a n c, b]).run P w = (Builtin.append_ #[t, t] ty #[.slice a n c, b]).run P w := by
    intro d hd u h hu
    cases d with
    | int k => exact absurd rfl (hd k)
    | _ =>
      simp only [Builtin.append_, ht, h, List.getElem?_toArray, List.getElem?_cons_zero, List.getElem?_cons_succ, Sem.run_bind, run_underlying hel.sl, run_underlying hu, hel.size, Result.andThen_ok, Sem.run_pure]
  cases hz with
  | none h =>
    simp only [Builtin.append_, ht, h, List.getElem?_toArray, List.getElem?_cons_zero, List.getElem?_cons_succ, Sem.run_bind, run_underlying hel.sl, hel.size, Result.andThen_ok, Sem.run_pure]
  | other h hu hd => exact key _ hd _ h hu

theorem zeros_run (hel : ElR P t e0 sz z) {us : List Value} (hl : us.length = k * sz) (hu : us = Ev.replV k z.cells.toList) (w : World) :
    (if k * sz = 0 then pure #[] else do pure (Builtin.zeroCells (← zeroValue e0).cells k) : Sem (Array Value)).run P w = .ok ⟨us⟩ w := by
  have hcy : Builtin.zeroCells z.cells k = ⟨Ev.replV k z.cells.toList⟩ := cycle_eq z.cells k
  by_cases h0 : k * sz = 0
  · rw [if_pos h0]
    have : us = [] := List.eq_nil_of_length_eq_zero (by rw [hl, h0])
    rw [this]
    rfl
  · rw [if_neg h0]
    simp only [Sem.run_bind, hel.zero, Result.andThen_ok, Sem.run_pure, hcy, hu]
theorem bytes_small {b : Nat} (h1 : k ≤ 65536) (hib : b ≤ 65536) : ¬ (281474976710656 < (k : Int) * (b : Int)) := by
  have h5 : k * b ≤ 65536 * 65536 := Nat.mul_le_mul h1 hib
  have h6 : ((k * b : Nat) : Int) ≤ 4294967296 := by omega
  rw [Int.natCast_mul] at h6
  omega
theorem app_in {w' : World} (ht : ts[0]? = some t) (hz : ZsR P ts zs) (hel : ElR P t e0 sz z) (hs : SrcR P r w zs sz k z news b us) {blk off n c : Nat} (hc : n + k ≤ c)
    (hst : (storeCells ⟨blk, off + n * sz, none⟩ us).run P w = .ok () w') :
    (Builtin.append_ ts ty #[.slice (some ⟨blk, off, none⟩) n c, b]).run P w = .ok (.slice (some ⟨blk, off, none⟩) (n + k) c) w' := by
  cases zs
  · rw [app_norm ht hz hel]
    obtain ⟨h1, h2, _⟩ := hs.plain rfl
    simp [Builtin.append_, run_underlying hel.sl, hel.size, h1, hc, h2, addr_add, hst]
  · cases hz with
    | int h hu =>
      obtain ⟨j, rfl, h1, h2⟩ := hs.zeros rfl
      obtain ⟨i, hi, hib⟩ := hel.info
      have h3 : ¬ ((k : Int) < 0) := by omega
      have h4 := bytes_small h1 hib
      have hap := zeros_run hel hs.len h2 w
      simp only [Builtin.append_, ht, h, List.getElem?_toArray, List.getElem?_cons_zero, List.getElem?_cons_succ, Sem.run_bind, run_underlying hel.sl, run_underlying hu, hel.size, Result.andThen_ok, Sem.run_pure]
      simp only [if_true, Sem.run_bind, asInt, asIntOf, Sem.run_pure, Result.andThen_ok, wrap_small h1, h3, if_false, hi, gt_iff_lt, show (2 : Int) ^ 48 = 281474976710656 from rfl, h4, Int.toNat_natCast, hc, Bool.not_true, Bool.false_eq_true, hap, addr_add, hst]
theorem app_in_nil (ht : ts[0]? = some t) (hz : ZsR P ts zs) (hel : ElR P t e0 sz z) (hs : SrcR P r w zs sz 0 z news b us) :
    (Builtin.append_ ts ty #[.slice none 0 0, b]).run P w = .ok (.slice none 0 0) w := by
  cases zs
  · rw [app_norm ht hz hel]
    obtain ⟨h1, h2, _⟩ := hs.plain rfl
    simp [Builtin.append_, run_underlying hel.sl, hel.size, h1, h2]
  · cases hz with
    | int h hu =>
      obtain ⟨j, rfl, h1, h2⟩ := hs.zeros rfl
      obtain ⟨i, hi, hib⟩ := hel.info
      have h3 : ¬ (((0 : Nat) : Int) < 0) := by omega
      have h4 := bytes_small h1 hib
      have hap := zeros_run hel hs.len h2 w
      have hc : 0 + 0 ≤ 0 := Nat.le_refl 0
      simp only [Builtin.append_, ht, h, List.getElem?_toArray, List.getElem?_cons_zero, List.getElem?_cons_succ, Sem.run_bind, run_underlying hel.sl, run_underlying hu, hel.size, Result.andThen_ok, Sem.run_pure]
      simp only [if_true, Sem.run_bind, asInt, asIntOf, Sem.run_pure, Result.andThen_ok, wrap_small h1, h3, if_false, hi, gt_iff_lt, show (2 : Int) ^ 48 = 281474976710656 from rfl, h4, Int.toNat_natCast, hc, Bool.not_true, Bool.false_eq_true, hap]

theorem grow_small {b n c : Nat} (hc : c < n) (hn : n ≤ 16777216) (hb : b ≤ 65536) : ¬ (281474976710656 < Builtin.nextslicecap n c * b) := by
  have h1 := nextslicecap_le hc
  have h2 : Builtin.nextslicecap n c * b ≤ 33554432 * 65536 := Nat.mul_le_mul (by omega) hb
  omega
theorem app_grow (ht : ts[0]? = some t) (hz : ZsR P ts zs) (hel : ElR P t e0 sz z) (hs : SrcR P r w zs sz k z news b us) {a : Option Addr} {n c : Nat} (hc : c < n + k) (hm : n + k ≤ 16777216) {os : List Value}
    (ho : (Builtin.firstCells sz n (.slice a n c)).run P w.drew = .ok ⟨os⟩ w.drew) :
    (Builtin.append_ ts ty #[.slice a n c, b]).run P w = .ok (.slice (some ⟨w.heap.size, 0, none⟩) (n + k) (grownCap w (n + k) c e0))
      (w.drew.alloc (.cells ⟨os ++ (us ++ Ev.replV (grownCap w (n + k) c e0 - (n + k)) z.cells.toList)⟩ e0)) := by
  obtain ⟨i, hi, hib⟩ := hel.info
  have hgr := grow_small hc hm hib
  have hc' : ¬ (n + k ≤ c) := by omega
  have h63 : ¬ (9223372036854775807 < ((n : Int) + (k : Int))) := by omega
  have hcy := fun m => cycle_eq z.cells m
  cases zs
  · rw [app_norm ht hz hel]
    obtain ⟨h1, h2, h5⟩ := hs.plain rfl
    simp [Builtin.append_, run_underlying hel.sl, hel.size, h1, hc', h63, hgr, hi, hel.zero, h5, ho, newRow, grownCap, Question.forced, Builtin.zeroCells, hcy]
  · cases hz with
    | int h hu =>
      obtain ⟨j, rfl, h1, h2⟩ := hs.zeros rfl
      have h3 : ¬ ((k : Int) < 0) := by omega
      have h4 := bytes_small h1 hib
      have hap := zeros_run hel hs.len h2 w.drew
      have h63' : ¬ (((n + k : Nat) : Int) > IntKind.i64.max) := by
        show ¬ ((n + k : Nat) : Int) > 9223372036854775807
        omega
      have h63a : ¬ (IntKind.i64.max < ((n + k : Nat) : Int) ∧ (True ∨ i.bytes = 0)) := fun h => h63' h.1
      have hgr' : ¬ (2 ^ 48 < Builtin.nextslicecap (n + k) c * i.bytes) := hgr
      have hch : (choose (.appendCap (n + k) c e0)).run P w = .ok (grownCap w (n + k) c e0) w.drew := rfl
      have hzc : ∀ m, Builtin.zeroCells z.cells m = ⟨Ev.replV m z.cells.toList⟩ := hcy
      simp only [Builtin.append_, ht, h, List.getElem?_toArray, List.getElem?_cons_zero, List.getElem?_cons_succ, Sem.run_bind, run_underlying hel.sl, run_underlying hu, hel.size, Result.andThen_ok, Sem.run_pure]
      simp only [if_true, Sem.run_bind, asInt, asIntOf, Sem.run_pure, Result.andThen_ok, wrap_small h1, h3, if_false, hi, gt_iff_lt, show (2 : Int) ^ 48 = 281474976710656 from rfl, h4, Int.toNat_natCast, hc', Bool.not_true, Bool.false_eq_true, h63a]
      simp only [hgr', if_false, Sem.run_bind, hch, Result.andThen_ok, hi, run_askRoom, ho, hap, hel.zero, hzc, newRow, Sem.run_pure]
      simp
      rfl
end Go.Proofs.YtchkcnecgfolmaaGreatDoor.Ev
namespace Go.Proofs.YtchkcnecgfolmaaGreatDoor.Ev
open Go
set_option linter.unusedSectionVars false
set_option linter.unusedVariables false
set_option linter.unusedSimpArgs false
variable [Sig] {P : Program} {r : Rho} {s : St} {w : World}

/-- a block is forgotten -/
theorem Ext.kill (h : Rel r s w) {id : Nat} {x : RB} (hx : r id = some x) : Ext r s w r (s.kill id) w where
  rel := by
    have live : ∀ {j d}, (s.kill id).get j = some d → s.get j = some d := fun {j d} hd => by
      rw [St.get_kill] at hd
      by_cases hj : id = j
      · rw [if_pos hj] at hd; cases hd
      · rw [if_neg hj] at hd; exact hd
    refine ⟨⟨fun j d y hd hy => h.block j d y (live hd) hy, fun j hj => ?_⟩, fun j k d e y z hd he hy hz => h.apart j k d e y z (live hd) (live he) hy hz, h.known⟩
    rw [St.next_kill] at hj
    rw [St.get_kill]
    by_cases hji : id = j
    · rw [if_pos hji]
    · rw [if_neg hji]; exact h.far j hj
  le := r.le_refl
  next := Nat.le_refl _
  os := rfl
  tape := rfl
  output := rfl
  size := Nat.le_refl _
  frame := fun _ _ _ => rfl
  still := fun i hi hn d hd => by
    rw [St.get_kill] at hd
    by_cases hj : id = i
    · subst hj; rw [hx] at hn; cases hn
    · rw [if_neg hj] at hd; exact hd
  dead := fun i hi hn => by
    rw [St.get_kill]
    by_cases hj : id = i
    · rw [if_pos hj]
    · rw [if_neg hj]; exact hn
  hits := fun k ⟨j, d, y, hd, hy, hk⟩ => by
    rw [St.get_kill] at hd
    by_cases hj : id = j
    · rw [if_pos hj] at hd; cases hd
    · rw [if_neg hj] at hd; exact .inl ⟨j, d, y, hd, hy, hk⟩
  fresh := fun i hn hp => absurd hn hp
/-- a block goes on under another number -/
theorem Ext.move {u : World} (h : Rel r s w) {id : Nat} {b c : ABlk} {x : RB} {o : Obj} (hb : s.get id = some b) (hx : r id = some x)
    (hu : u.heap[x.blk]? = some o) (hr : BR (r.at s.next x) c x o) (hf : ∀ k, k ≠ x.blk → u.heap[k]? = w.heap[k]?) (hs : u.heap.size = w.heap.size) (ho : u.os = w.os) (ht : u.tape = w.tape) (hp : u.output = w.output) :
    Ext r s w (r.at s.next x) ((s.kill id).new c) u := by
  have hn := h.none_next (Nat.le_refl s.next)
  have hidn : id < s.next := h.known id x hx
  have back : ∀ {j d y}, ((s.kill id).new c).get j = some d → (r.at s.next x) j = some y → (j = s.next ∧ d = c ∧ y = x) ∨ (j ≠ s.next ∧ j ≠ id ∧ s.get j = some d ∧ r j = some y) := fun {j d y} hd hy => by
    rw [St.get_new, St.next_kill] at hd
    by_cases hj : s.next = j
    · rw [if_pos hj] at hd
      cases hd
      subst hj
      rw [Rho.at_same] at hy
      cases hy
      exact .inl ⟨rfl, rfl, rfl⟩
    · rw [if_neg hj, St.get_kill] at hd
      by_cases hk : id = j
      · rw [if_pos hk] at hd; cases hd
      · rw [if_neg hk] at hd
        rw [Rho.at_ne r x (Ne.symm hj)] at hy
        exact .inr ⟨Ne.symm hj, Ne.symm hk, hd, hy⟩
  refine ⟨⟨⟨fun j d y hd hy => ?_, fun j hj => ?_⟩, fun j k d e y z hd he hy hz hyz => ?_, fun j y hy => ?_⟩, r.at_le x hn, by rw [St.next_new]; exact Nat.le_succ _, ho, ht, hp, by omega, fun k hk hnh => hf k fun e => hnh ⟨id, b, x, hb, hx, e.symm⟩,
    fun i hi hin d hd => ?_, fun i hi hin => ?_, fun k ⟨j, d, y, hd, hy, hk⟩ => ?_, fun i hin hip => ?_⟩
  · rcases back hd hy with ⟨rfl, rfl, rfl⟩ | ⟨h1, h2, h3, h4⟩
    · exact ⟨o, hu, hr⟩
    · obtain ⟨o', h5, h6⟩ := h.block j d y h3 h4
      exact ⟨o', by rw [hf y.blk fun e => h2 (h.apart j id d b y x h3 hb h4 hx e)]; exact h5, h6.mono (r.at_le x hn)⟩
  · rw [St.next_new, St.next_kill] at hj
    rw [St.get_new, St.next_kill, if_neg (by omega), St.get_kill]
    by_cases hji : id = j
    · rw [if_pos hji]
    · rw [if_neg hji]; exact h.far j (by omega)
  · rcases back hd hy with ⟨rfl, rfl, rfl⟩ | ⟨h1, h2, h3, h4⟩ <;> rcases back he hz with ⟨rfl, rfl, rfl⟩ | ⟨g1, g2, g3, g4⟩
    · rfl
    · exact absurd (h.apart id k b e _ z hb g3 hx g4 hyz) (Ne.symm g2)
    · exact absurd (h.apart j id d b y _ h3 hb h4 hx hyz) h2
    · exact h.apart j k d e y z h3 g3 h4 g4 hyz
  · rw [St.next_new, St.next_kill]
    by_cases hj : j = s.next
    · omega
    · rw [Rho.at_ne r x hj] at hy
      have := h.known j y hy
      omega
  · rw [St.get_new, St.next_kill, if_neg (by omega), St.get_kill, if_neg (fun e => by subst e; rw [hx] at hin; cases hin)] at hd
    exact hd
  · rw [St.get_new, St.next_kill, if_neg (by omega), St.get_kill]
    by_cases hj : id = i
    · rw [if_pos hj]
    · rw [if_neg hj]; exact hin
  · rcases back hd hy with ⟨rfl, rfl, rfl⟩ | ⟨h1, h2, h3, h4⟩
    · exact .inl ⟨id, b, _, hb, hx, hk⟩
    · exact .inl ⟨j, d, y, h3, h4, hk⟩
  · by_cases hj : i = s.next
    · omega
    · rw [Rho.at_ne r x hj] at hip
      exact absurd hin hip

/-- what a slice that grows comes to -/
theorem fresh_ok (h : Rel r s w) {cs : List AVal} {os rest : List Value} (hv : VRs r cs os) {n c sz : Nat} (hn : n ≤ c) (hl : os.length = n * sz) (hrl : rest.length = (c - n) * sz) (e0 : TypeId) :
    ∃ q, VR q (.slice s.next 0 n none) (.slice (some ⟨w.heap.size, 0, none⟩) n c) ∧ Ext r s w q (s.new (.cells cs sz true)) (w.drew.alloc (.cells ⟨os ++ rest⟩ e0)) := by
  have hle := Rho.at_le r ⟨w.heap.size, c * sz, sz⟩ (h.none_next (Nat.le_refl s.next))
  refine ⟨r.at s.next ⟨w.heap.size, c * sz, sz⟩, .slice (Rho.at_same _ _ _) hn (fun k hk => by cases hk) (fun _ => by simp), ?_⟩
  refine Ext.new h rfl (alloc_new w.drew _) ⟨rfl, os, rest, e0, (0, 0), rfl, hv.mono hle, ?_, fun e => (by cases e), fun i _ => by omega⟩ (fun k hk => alloc_old (w := w.drew) _ hk) (by rw [World.size_alloc]; exact Nat.le_succ _) rfl rfl rfl
  rw [List.length_append, hl, hrl, ← Nat.add_mul]
  congr 1
  omega

variable {t e0 : TypeId} {ts : Array TypeId} {ty : TypeId} {sz k : Nat} {z : Value} {zs : Bool} {news : List AVal} {b : Value} {us : List Value}

/-- in place -/
theorem apHere_ok (h : Rel r s w) (ht : ts[0]? = some t) (hz : ZsR P ts zs) (hel : ElR P t e0 sz z) (hs : SrcR P r w zs sz k z news b us)
    {id off n : Nat} {c : Option Nat} {x : RB} {cap : Nat} (hr : r id = some x) (hc : ∀ k, c = some k → cap = k) (hu : c = none → off + cap * x.esz = x.size) (hfit : n + k ≤ cap)
    {cs : List AVal} {o : Bool} (hb : s.cellsAt id = .mk cs sz o) {v : AVal} {s' : St} (hl : apHere s id off (n + k) sz o c (splice cs (off + n * sz) news) = .ok v s') :
    Does P r s w (Builtin.append_ ts ty #[.slice (some ⟨x.blk, off, none⟩) n cap, b]) v s' := by
  unfold apHere at hl
  split at hl
  · rename_i cs' hsp
    cases hl
    obtain ⟨w', h1, h2⟩ := run_put (P := P) h hr hb hs.rel hsp
    exact ⟨r, w', _, app_in ht hz hel hs hfit h1, .slice hr hfit hc hu, h2⟩
  · cases hl

/-- in a new block -/
theorem apFresh_ok (h : Rel r s w) (ht : ts[0]? = some t) (hz : ZsR P ts zs) (hel : ElR P t e0 sz z) (hs : SrcR P r w zs sz k z news b us)
    {a : Option Addr} {n c : Nat} (hc : c < n + k) (hm : n + k ≤ 16777216) {old : List AVal} {os : List Value} (hov : VRs r old os) (hol : os.length = n * sz)
    (ho : (Builtin.firstCells sz n (.slice a n c)).run P w.drew = .ok ⟨os⟩ w.drew) {v : AVal} {s' : St} (hl : apFresh s sz (n + k) (old ++ news) = .ok v s') :
    Does P r s w (Builtin.append_ ts ty #[.slice a n c, b]) v s' := by
  cases hl
  have hg := app_grow (ty := ty) ht hz hel hs hc hm ho
  rw [← List.append_assoc] at hg
  obtain ⟨q, h1, h2⟩ := fresh_ok h (hov.append hs.rel) (n := n + k) (c := grownCap w (n + k) c e0) (sz := sz) (grownCap_ge w (n + k) c e0)
    (by rw [List.length_append, hol, hs.len, Nat.add_mul]) (rest := Ev.replV (grownCap w (n + k) c e0 - (n + k)) z.cells.toList) (by rw [replV_length, Array.length_toList, hel.fit]) e0
  exact ⟨q, _, _, hg, h1, h2⟩

/-- a block that may be longer -/
theorem apOpen_ok (h : Rel r s w) (ht : ts[0]? = some t) (hz : ZsR P ts zs) (hel : ElR P t e0 sz z) (hs : SrcR P r w zs sz k z news b us)
    {id n : Nat} {x : RB} {cap : Nat} (hr : r id = some x) (hn : n ≤ cap) (hu : 0 + cap * x.esz = x.size) (hm : n + k ≤ 16777216) {cs : List AVal} (hb : s.cellsAt id = .mk cs sz true) (hcl : n * sz = cs.length) (hone : ∀ v ∈ news, isOne v = true) {v : AVal} {s' : St}
    (hl : R.ok (.slice s.next 0 (n + k) none) ((s.kill id).new (.cells (cs ++ news) sz true)) = .ok v s') :
    Does P r s w (Builtin.append_ ts ty #[.slice (some ⟨x.blk, 0, none⟩) n cap, b]) v s' := by
  cases hl
  obtain ⟨ob, hob, hbr⟩ := h.block id _ x (cellsAt_ok hb) hr
  obtain ⟨he, vs, rest, et, fr, rfl, hvs, hlen, _, hfr⟩ := hbr
  have hvl := hvs.length
  rw [he] at hu
  by_cases hfit : n + k ≤ cap
  · have hlr : n * sz + k * sz ≤ (vs ++ rest).length := by
      rw [hlen, ← hu, ← Nat.add_mul]
      simp only [Nat.zero_add]
      exact Nat.mul_le_mul_right _ hfit
    have hst := run_storeCells (P := P) (off := 0 + n * sz) us 0 (vs ++ rest) w hob (by rw [hs.len]; omega) (fun i hi => hfr i (by rw [← hlen]; exact hi)) (hs.rel.ones hone)
    have htk : (vs ++ rest).take (0 + n * sz + 0) = vs := by
      rw [show 0 + n * sz + 0 = vs.length by omega, List.take_left]
    have hdr : (vs ++ rest).drop (0 + n * sz + 0 + us.length) = rest.drop us.length := by
      rw [show 0 + n * sz + 0 + us.length = vs.length + us.length by omega, ← List.drop_drop, List.drop_left]
    rw [htk, hdr, ← List.append_assoc] at hst
    have hle := Rho.at_le r x (h.none_next (Nat.le_refl s.next))
    refine ⟨r.at s.next x, _, _, app_in ht hz hel hs hfit hst, .slice (Rho.at_same _ _ _) hfit (fun k hk => by cases hk) (fun _ => by rw [he]; exact hu), Ext.move h (cellsAt_ok hb) hr (upd_same hob) ⟨he, vs ++ us, rest.drop us.length, et, fr, rfl, (hvs.append hs.rel).mono hle, ?_, fun e => (by cases e), hfr⟩
      (fun k hk => upd_ne _ hk) (upd_size _ _) rfl rfl rfl⟩
    rw [← hlen]
    rw [List.length_append] at hlr
    have := hs.len
    simp only [List.length_append, List.length_drop]
    omega
  · have hk := Ext.kill h hr
    have ho : (Builtin.firstCells sz n (.slice (some ⟨x.blk, 0, none⟩) n cap)).run P w.drew = .ok ⟨vs⟩ w.drew := by
      simp only [Builtin.firstCells]
      rw [run_loadRange (w := w.drew) hob (by rw [List.length_append]; omega)]
      congr 2
      rw [List.drop_zero, show n * sz = vs.length by omega, List.take_left]
    have hg := app_grow (ty := ty) ht hz hel hs (by omega) hm ho
    rw [← List.append_assoc] at hg
    obtain ⟨q, h1, h2⟩ := fresh_ok hk.rel (hvs.append hs.rel) (n := n + k) (c := grownCap w (n + k) cap e0) (sz := sz) (grownCap_ge w (n + k) cap e0)
      (by rw [List.length_append, hs.len, Nat.add_mul]; omega) (rest := Ev.replV (grownCap w (n + k) cap e0 - (n + k)) z.cells.toList) (by rw [replV_length, Array.length_toList, hel.fit]) e0
    exact ⟨q, _, _, hg, h1, hk.trans h2⟩

theorem allOne_ok : ∀ {l : List AVal}, allOne l = true → ∀ v ∈ l, isOne v = true
  | [], _, _, h => by cases h
  | x :: l, h, v, hv => by
    simp only [allOne] at h
    rcases sel_eq h with ⟨h1, h2⟩ | ⟨_, h2⟩
    · rcases List.mem_cons.1 hv with rfl | hv
      · exact h1
      · exact allOne_ok h2 v hv
    · cases h2
theorem elR_ok {g : Bool} {za : AVal} (hby : byT P t = true) (hel : elemT P t = .mk e0 sz g) (hsz : sz ≠ 0) (hz : zeroEl P t = some za) : ∃ z, ElR P t e0 sz z ∧ ∀ r, VR r za z := by
  obtain ⟨h1, h2, _⟩ := elemT_ok hel
  obtain ⟨el, h3, h4, m, h5, h6⟩ := zeroEl_ok hz
  rw [h1] at h3
  cases h3
  rw [h2] at h5
  cases h5
  obtain ⟨_, i, h3, h9, h10⟩ := byT_ok hby
  rw [h1] at h3
  cases h3
  obtain ⟨_, u, _, _, h7, h8⟩ := zeroT_ok h4
  exact ⟨u, ⟨h1, fun w => run_sizeOf h2, ⟨i, fun w => run_typeInfo h9, h10⟩, h7, by rw [← Array.length_toList, (h8 (fun _ => none)).cells.length, h6], hsz⟩, h8⟩

theorem append_ok {ou : Option TypeId} (ht : ts[0]? = some t) (hou : ts[1]? = ou) (h : Rel r s w) {x y v : AVal} {s' : St} (hl : append (byT P t) (zsOf P ou) (zeroEl P t) (elemT P t) s x y = .ok v s')
    {a b : Value} (hx : VR r x a) (hy : VR r y b) : Does P r s w (Builtin.append_ ts ty #[a, b]) v s' := by
  unfold append at hl
  split at hl
  · rename_i e0 sz g za zs hel hza hzs
    obtain ⟨h0, hl⟩ := selR_bad hl
    obtain ⟨hby, hl⟩ := selR_good hl
    have hsz := beq_ne h0
    obtain ⟨z, helr, hzr⟩ := elR_ok hby hel hsz hza
    have hzs := zsOf_ok (ts := ts) hzs hou
    unfold apSrc at hl
    split at hl
    · rename_i news k hsrc
      obtain ⟨us, hs⟩ := src_ok (P := P) h hza hel hsrc hy (hzr r)
      unfold apV at hl
      split at hl
      · cases hx
        rcases sel_eq hl with ⟨hk, hl⟩ | ⟨hk, hl⟩
        · cases hl
          have := beq_is hk
          subst this
          exact ⟨r, w, _, app_in_nil ht hzs helr hs, .nilslice, Ext.refl h⟩
        · obtain ⟨hm, hl⟩ := selR_good hl
          have hm := ble_is hm
          have hk := beq_ne hk
          have hm' : 0 + k ≤ 16777216 := by rw [Nat.zero_add]; exact hm
          refine apFresh_ok h ht hzs helr hs (a := none) (n := 0) (c := 0) (by omega) hm' (old := []) (os := []) .nil (by simp) rfl ?_
          rw [Nat.zero_add]
          exact hl
      · rename_i id off len cap _ _
        obtain ⟨hm, hl⟩ := selR_good hl
        have hm : len + k ≤ 16777216 := ble_is hm
        unfold apSl at hl
        split at hl
        · rename_i cs e o hc
          obtain ⟨he, hl⟩ := selR_good hl
          have he := beq_is he
          subst he
          unfold apO at hl
          split at hl
          · rename_i old hold
            cases hx with
            | slice hr hn hcp hu =>
              rename_i x cp
              obtain ⟨ob, hob, hbr⟩ := h.block id _ x (cellsAt_ok hc) hr
              obtain ⟨hex, vs, rest, et, fr, rfl, hvs, hlen, hop, hfr⟩ := hbr
              obtain ⟨hsub, rfl⟩ := sub_eq hold
              have hcl := hvs.length
              have hfi : (Builtin.firstCells e len (.slice (some ⟨x.blk, off, none⟩) len cp)).run P w.drew = .ok ⟨((vs ++ rest).drop off).take (len * e)⟩ w.drew := by
                simp only [Builtin.firstCells]
                exact run_loadRange (w := w.drew) hob (by rw [List.length_append]; omega)
              have hol : (((vs ++ rest).drop off).take (len * e)).length = len * e := by
                simp only [List.length_take, List.length_drop, List.length_append]
                omega
              have frsh : cp < len + k → apFresh s e (len + k) ((cs.drop off).take (len * e) ++ news) = .ok v s' → Does P r s w (Builtin.append_ ts ty #[.slice (some ⟨x.blk, off, none⟩) len cp, b]) v s' :=
                fun hlt hl => apFresh_ok h ht hzs helr hs hlt hm (hvs.range hsub) hol hfi hl
              unfold apTo at hl
              split at hl
              · rename_i cc _ _ _ _
                have hcc := hcp _ rfl
                subst hcc
                rcases sel_eq hl with ⟨h1, hl⟩ | ⟨h1, hl⟩
                · exact apHere_ok h ht hzs helr hs hr hcp hu (ble_is h1) hc hl
                · exact frsh (ble_not h1) hl
              · have hu' := hu rfl
                rw [hex] at hu'
                have hpos : 0 < e := Nat.pos_of_ne_zero hsz
                rcases sel_eq hl with ⟨h1, hl⟩ | ⟨h1, hl⟩
                · have h1 := ble_is h1
                  have hfit : len + k ≤ cp := by
                    have : (len + k) * e ≤ cp * e := by
                      rw [List.length_append] at hlen
                      omega
                    exact Nat.le_of_mul_le_mul_right this hpos
                  exact apHere_ok h ht hzs helr hs hr hcp hu hfit hc hl
                · have h1 := ble_not h1
                  rcases sel_eq hl with ⟨h2, hl⟩ | ⟨h2, hl⟩
                  · subst h2
                    unfold apOpen at hl
                    obtain ⟨h3, hl⟩ := selR_good hl
                    obtain ⟨h4, hl⟩ := selR_good hl
                    obtain ⟨h5, hl9⟩ := selR_good hl
                    have h3 := beq_is h3
                    subst h3
                    exact apOpen_ok h ht hzs helr hs hr hn (hu rfl) hm hc (beq_is h4) (allOne_ok h5) hl9
                  · subst h2
                    have hrest := hop rfl
                    subst hrest
                    refine frsh ?_ hl
                    rw [List.append_nil] at hlen
                    have : cp * e < (len + k) * e := by omega
                    exact Nat.lt_of_mul_lt_mul_right this
          · cases hl
        · cases hl
      · cases hl
    · cases hl
  · cases hl
end Go.Proofs.YtchkcnecgfolmaaGreatDoor.Ev
namespace Go.Proofs.YtchkcnecgfolmaaGreatDoor.Ev
open Go
set_option linter.unusedSectionVars false
set_option linter.unusedVariables false
set_option linter.unusedSimpArgs false
variable [Sig] {P : Program} {r : Rho} {s : St} {w : World}

theorem bornA_ok {n : Nat} {v : AVal} : ∀ {es : List Entry} {l : List MapEntry}, bornA n es = .ok v → ERs r es l → ∃ m, l.find? (fun e => e.born == n) = some m ∧ VR r v (.tuple #[m.key, m.val])
  | [], _, h, _ => by cases h
  | (k, u, b) :: es, _, h, .cons (m := m) (l' := l) hh ht => by
    have hb : m.born = b := hh.2.2
    simp only [bornA] at h
    rcases sel_eq h with ⟨h0, h1⟩ | ⟨h0, h1⟩
    · cases h1
      have := beq_is h0
      refine ⟨m, ?_, .tuple (.cons hh.1 (.cons hh.2.1 .nil))⟩
      rw [List.find?_cons, hb, this]
      simp
    · obtain ⟨m', h2, h3⟩ := bornA_ok h1 ht
      refine ⟨m', ?_, h3⟩
      have : (b == n) = false := beq_false_of_ne (beq_ne h0)
      rw [List.find?_cons, hb, this]
      exact h2
theorem lastN_ok : ∀ {l : List Nat} {n : Nat}, lastN l = some n → (⟨l⟩ : Array Nat).back? = some n
  | [], _, h => by cases h
  | [a], _, h => by cases h; rfl
  | a :: b :: l, n, h => by
    have := lastN_ok (l := b :: l) h
    simp only [List.back?_toArray] at this ⊢
    rw [List.getLast?_cons_cons]
    exact this
theorem entV_ok (h : RelB r s w) {x v : AVal} (hl : entV s x = .ok v) {a : Value} (hx : VR r x a) : Gives P r w (Instr.entry a) v := by
  unfold entV at hl
  split at hl
  · rename_i id
    cases hx with
    | ptr hr =>
      rename_i x
      unfold entB at hl
      split at hl
      · rename_i m since seen stepped hb
        obtain ⟨o, h1, y, hy, rfl⟩ := h.block id _ x hb hr
        unfold entM at hl
        split at hl
        · rename_i n es c hln hma
          obtain ⟨hc, hl9⟩ := sel_good hl
          have hc := beq_is hc
          subst hc
          obtain ⟨l, h4, h5⟩ := mapAt_run h hy hma
          obtain ⟨me, h6, h7⟩ := bornA_ok hl9 h5
          have h8 := lastN_ok hln
          refine ⟨_, ?_, h7⟩
          have h9 : (⟨l⟩ : Array MapEntry).find? (fun e => e.born == n) = some me := by
            rw [List.find?_toArray]
            exact h6
          simp only [Instr.entry, Sem.run_bind, run_getIter h1, Result.andThen_ok, h8, run_getMap h4, bne_self_eq_false, Bool.false_eq_true, if_false, h9, Sem.run_pure]
        · cases hl
      · cases hl
  · cases hl
theorem isMapT_ok {t : TypeId} (h : isMapT P t = true) : ∃ k e, P.underlying t = some (.map k e) := by
  unfold isMapT at h
  split at h
  · rename_i k e h1; exact ⟨k, e, h1⟩
  · cases h
theorem rangeV_ok {t : TypeId} (ht : isMapT P t = true) (h : Rel r s w) {x v : AVal} {s' : St} (hl : rangeV s x = .ok v s') {a : Value} (hx : VR r x a) : Does P r s w (Instr.range t a) v s' := by
  obtain ⟨k, e, h1⟩ := isMapT_ok ht
  unfold rangeV at hl
  split at hl
  · cases hl
    cases hx
    refine Make.does h (mk := fun i => .ptr i 0) (make_obj (o := .mapIter none 0 ⟨[]⟩ 0) (u := .pointer (some ⟨w.heap.size, 0, none⟩)) (n := 0) (e := 0) ?_ fun i hi => ⟨rfl, .ptr (Rho.at_same r i _)⟩)
    simp [Instr.range, run_underlying h1]
  · rename_i id
    unfold rangeM at hl
    split at hl
    · rename_i es c hma
      cases hl
      cases hx with
      | map hr =>
        obtain ⟨l, h4, h5⟩ := mapAt_run h.toRelB hr hma
        refine Make.does h (mk := fun i => .ptr i 0) (make_obj (o := .mapIter (some _) c ⟨[]⟩ c) (u := .pointer (some ⟨w.heap.size, 0, none⟩)) (n := 0) (e := 0) ?_ fun i hi => ⟨⟨_, Rho.at_le r _ hi _ _ hr, rfl⟩, .ptr (Rho.at_same r i _)⟩)
        simp only [Instr.range, Sem.run_bind, run_underlying h1, Result.andThen_ok, run_getMap h4, Sem.run_pure]
        rfl
    · cases hl
  · cases hl

/- conversions -/
theorem toInt_ok {k : IntKind} {x v : AVal} {s' : St} (hl : toInt P k s x = .ok v s') {a : Value} (hx : VR r x a) {t u : TypeId} {d : TypeDesc} (ht : P.underlying t = some d) (hu : P.underlying u = some (.int k)) :
    s' = s ∧ Gives P r w (convert t u a) v := by
  unfold toInt at hl
  split at hl
  · cases hl; cases hx
    refine ⟨rfl, _, ?_, .int _ _⟩
    cases d <;> simp [convert, run_underlying ht, run_underlying hu, Conv.intToInt, wrapF_eq]
  · obtain ⟨h1, rfl⟩ := ret_ok hl
    cases hx
    obtain ⟨u', h2, h3⟩ := pureV_ok (r := r) (w := w) h1
    refine ⟨rfl, u', ?_, h3⟩
    cases d <;> simp [convert, run_underlying ht, run_underlying hu, h2]
  · obtain ⟨h1, rfl⟩ := ret_ok hl
    cases hx with
    | sint j hn =>
      subst hn
      refine ⟨rfl, _, ?_, wrapS_ok (r := r) h1⟩
      cases d <;> simp [convert, run_underlying ht, run_underlying hu, Conv.intToInt]
  · cases hl
theorem toFlt_ok {k : FloatKind} {x v : AVal} {s' : St} (hl : toFlt k s x = .ok v s') {a : Value} (hx : VR r x a) {t u : TypeId} {d : TypeDesc} (ht : P.underlying t = some d) (hu : P.underlying u = some (.float k)) :
    s' = s ∧ Gives P r w (convert t u a) v := by
  unfold toFlt at hl
  split at hl
  · cases hl; cases hx
    refine ⟨rfl, _, ?_, .flt _ _⟩
    cases d <;> simp [convert, run_underlying ht, run_underlying hu, Conv.intToFloat]
  · cases hl
theorem toStr_ok {x v : AVal} {s' : St} (hl : toStr s x = .ok v s') {a : Value} (hx : VR r x a) {t u : TypeId} (ht : P.underlying t = some .string) (hu : P.underlying u = some .string) :
    s' = s ∧ Gives P r w (convert t u a) v := by
  unfold toStr at hl
  split at hl
  · cases hl; cases hx
    refine ⟨rfl, _, ?_, .str _⟩
    simp [convert, run_underlying ht, run_underlying hu]
  · cases hl
theorem bytesStr_conv (h : RelB r s w) {x v : AVal} {s' : St} (hl : bytesStr s x = .ok v s') {a : Value} (hx : VR r x a) {t u e : TypeId} (ht : P.underlying t = some (.slice e)) (hu : P.underlying u = some .string) (he : isU8 P e = true) :
    s' = s ∧ Gives P r w (convert t u a) v := by
  obtain ⟨h1, u', h2, h3⟩ := bytesStr_ok (P := P) h hl hx
  refine ⟨h1, u', ?_, h3⟩
  have he' := isU8_ok he
  unfold bytesStr at hl
  split at hl
  · cases hx
    simp only [convert, Sem.run_bind, run_underlying ht, run_underlying hu, Result.andThen_ok, run_underlying he', h2]
  · cases hx
    simp only [convert, Sem.run_bind, run_underlying ht, run_underlying hu, Result.andThen_ok, run_underlying he', h2]
  · cases hl
theorem strBytes_conv {x v : AVal} {s' : St} (hl : strBytes s x = .ok v s') {t u e : TypeId} (ht : P.underlying t = some .string) (hu : P.underlying u = some (.slice e)) (he : isU8 P e = true) :
    ∃ mk b, v = mk s.next ∧ s' = s.new b ∧ ∀ (r : Rho) (w : World) (a : Value), VR r x a → Make P r w (convert t u a) mk b := by
  unfold strBytes at hl
  split at hl
  · rename_i l
    cases hl
    refine ⟨fun i => .slice i 0 l.length none, _, rfl, rfl, fun r w a hx => ?_⟩
    cases hx
    obtain ⟨w', u', y, o, h1, h2⟩ := strBytes_ok (P := P) (r := r) (w := w) (e := e) l
    refine ⟨w', u', y, o, ?_, h2⟩
    simp only [convert, Sem.run_bind, run_underlying ht, run_underlying hu, Result.andThen_ok, run_underlying (isU8_ok he), h1]
  · cases hl

/- interfaces -/
theorem ifaceOf_ok {t : TypeId} {x v : AVal} {s' : St} (hl : (ifaceOf P t).run s x = .ok v s') {a : Value} (hx : VR r x a) : s' = s ∧ Gives P r w (Instr.makeInterface t a) v := by
  unfold ifaceOf at hl
  split at hl
  · cases hl
  · rename_i d hd hu
    cases hl
    refine ⟨rfl, _, ?_, .iface t hx⟩
    cases d <;> first | exact absurd rfl (hd _) | simp [Instr.makeInterface, run_underlying hu]
  · cases hl
theorem assertOf_ok {t xt : TypeId} {ok : Bool} {x v : AVal} {s' : St} (hl : (assertOf P t ok).run s x = .ok v s') {a : Value} (hx : VR r x a) : s' = s ∧ Gives P r w (Instr.typeAssert a xt t ok) v := by
  unfold assertOf at hl
  split at hl
  · cases hl
  · rename_i d hd hu
    have hl : asserts t ok s x = .ok v s' := hl
    unfold asserts at hl
    split at hl
    · rename_i u y
      obtain ⟨h1, hl⟩ := selR_good hl
      cases hl
      have := beq_is h1
      subst this
      cases hx with
      | iface _ hy =>
        rename_i b
        refine ⟨rfl, if ok then .tuple #[b, .bool true] else b, ?_, ?_⟩
        · cases d <;> first | exact absurd rfl (hd _) | simp [Instr.typeAssert, run_underlying hu]
        · cases ok
          · exact hy
          · exact .tuple (.cons hy (.cons (.bool _) .nil))
    · cases hl
  · cases hl
end Go.Proofs.YtchkcnecgfolmaaGreatDoor.Ev
namespace Go.Proofs.YtchkcnecgfolmaaGreatDoor.Ev
open Go
set_option linter.unusedVariables false
noncomputable section

/-- what is known of temporaries while a region is made ready: which operation's result, which temporary ahead of the region, or which constant a temporary is -/
inductive Al where
  | nil
  | loc (t : Tmp) (i : Nat) (l : Al)
  | same (t u : Tmp) (l : Al)
  | const (t : Tmp) (v : Value) (l : Al)
def tmpOf (n : Nat) (al : Al) (t : Tmp) : AOpd := match al with
  | .nil => .tmp (bits t)
  | .loc u i l => sel (Nat.beq t u) (.loc (n - 1 - i)) (tmpOf n l t)
  | .same u v l => sel (Nat.beq t u) (.tmp (bits v)) (tmpOf n l t)
  | .const u v l => sel (Nat.beq t u) (cval v) (tmpOf n l t)
def copd (n : Nat) (al : Al) : Cod
  | .tmp t => tmpOf n al t
  | .const v => cval v
  | .global _ => .bad
  | .func f => .val (.func f [] [])

inductive Ex where
  | normal | exit (id : Nat) | goto (l : Nat) | ret
inductive Res where
  | ok (x : Ex) (e : Env) (s : St)
  | bad
structure RegF where
  run : Env → St → Res

/-- an operation made ready -/
inductive Ins where
  | mk (run : Cl) (dst : Option (List Bool)) (guard : Option (AOpd × Bool))
inductive Inss where
  | nil
  | cons (i : Ins) (l : Inss)
/-- which temporaries are kept behind their region -/
abbrev Keep := Tmp → Bool
/-- how many temporaries there are, and which are kept -/
structure Tmps where
  n : Nat
  keep : Keep
def dstOf (K : Tmps) (o : Oper) : Option (List Bool) := match o.dst with
  | some t => sel (K.keep t) (some (bits t)) none
  | none => none
def dstIn (K : Tmps) (o : Oper) : Bool := match o.dst with
  | some t => Nat.blt t K.n
  | none => true
def guardOf (co : Cod) (ops : Array Oper) (o : Oper) : Option (AOpd × Bool) :=
  match o.guard with
  | none => none
  | some (j, w) => match (ops[j]?).bind (·.dst) with
    | some t => some (co (.tmp t), w)
    | none => some (.bad, w)
/-- what a move stands for, if nobody need do it -/
inductive Mv where
  | no
  | const (d : Tmp) (v : Value)
  | same (d u : Tmp)
  | loc (d : Tmp) (i : Nat)
def mvTmp (al : Al) (d t : Tmp) : Mv := match al with
  | .nil => .same d t
  | .loc u i l => sel (Nat.beq t u) (.loc d i) (mvTmp l d t)
  | .same u v l => sel (Nat.beq t u) (.same d v) (mvTmp l d t)
  | .const u v l => sel (Nat.beq t u) (.const d v) (mvTmp l d t)
def mvOp (al : Al) (d : Tmp) (o : Op) : Mv := match o with
  | .move (.const v) => .const d v
  | .move (.tmp t) => mvTmp al d t
  | _ => .no
def mvOf (K : Tmps) (al : Al) (o : Oper) : Mv :=
  match o.guard, o.dst with
  | none, some d => sel (K.keep d) .no (mvOp al d o.op)
  | _, _ => .no
def alAfter (n : Nat) (al : Al) (o : Oper) : Al := match o.dst with
  | some t => .loc t n al
  | none => al
def badI : Ins := .mk ⟨opBad⟩ none none
def insOf (P : Program) (call : CallF) (K : Tmps) (ops : Array Oper) (n : Nat) (al : Al) (o : Oper) : Ins :=
  sel (dstIn K o) (.mk (comp (copd n al) P call o.op) (dstOf K o) (guardOf (copd n al) ops o)) badI
def inssOf (P : Program) (call : CallF) (K : Tmps) (ops : Array Oper) : List Oper → Nat → Al → Inss
  | [], _, _ => .nil
  | o :: l, n, al => match mvOf K al o with
    | .no => .cons (insOf P call K ops n al o) (inssOf P call K ops l (n + 1) (alAfter n al o))
    | .const d v => sel (dstIn K o) (inssOf P call K ops l n (.const d v al)) (.cons badI .nil)
    | .same d u => sel (dstIn K o) (inssOf P call K ops l n (.same d u al)) (.cons badI .nil)
    | .loc d i => sel (dstIn K o) (inssOf P call K ops l n (.loc d i al)) (.cons badI .nil)
def putE (e : Env) (v : AVal) (d : Option (List Bool)) : Env := @Option.rec (List Bool) (fun _ => Env) e (fun p => Tr.setP (some v) p e) d
def beqB (a b : Bool) : Bool := @Bool.rec (fun _ => Bool) (@Bool.rec (fun _ => Bool) true false b) b a
def isB (w : Bool) (o : Option Bool) : Bool := @Option.rec Bool (fun _ => Bool) false (fun b => beqB b w) o
/-- 0: not wanted, 1: wanted, else it is not known -/
inductive Wt where
  | yes | no | bad
def wtV (w : Bool) (v : V) : Wt := @V.rec (fun _ => Wt) (fun v => sel (isB w (boolV v)) .yes .no) .bad v
def wanted (l : List AVal) (e : Env) (g : Option (AOpd × Bool)) : Wt := @Option.rec (AOpd × Bool) (fun _ => Wt) .yes (fun x => wtV x.2 (evalO l e x.1)) g
def stepI (go : List AVal → Env → St → Res) (l : List AVal) (e0 e : Env) (s : St) (i : Ins) : Res :=
  @Ins.rec (fun _ => Res) (fun r d g => @Wt.rec (fun _ => Res)
    (@R.rec (fun _ => Res) (fun v s => go (v :: l) (putE e v d) s) .bad (r.run l e0 s))
    (go (aundef :: l) (putE e aundef d) s) .bad (wanted l e0 g)) i
def runInss (e0 : Env) (is : Inss) : List AVal → Env → St → Res :=
  @Inss.rec (fun _ => List AVal → Env → St → Res) (fun _ e s => .ok .normal e s) (fun i _ ih l e s => stepI ih l e0 e s i) is
def runReg (is : Inss) (e : Env) (s : St) : Res := runInss e is [] e s

/- regions that draw their order -/
mutual
/-- are two values the same? -/
def sameV : AVal → AVal → Bool
  | .bool a, .bool b => beqB a b
  | .int j a, .int k b => Bool.and (keq j k) (ieq a b)
  | .flt j a, .flt k b => Bool.and (fkeq j k) (Nat.beq a b)
  | .cplx j a c, .cplx k b d => Bool.and (fkeq j k) (Bool.and (Nat.beq a b) (Nat.beq c d))
  | .str a, .str b => beqBytes a b
  | .nilptr, .nilptr => true
  | .ptr i a, .ptr j b => Bool.and (Nat.beq i j) (Nat.beq a b)
  | .nilslice, .nilslice => true
  | .eslice, .eslice => true
  | .slice i a n none, .slice j b m none => Bool.and (Nat.beq i j) (Bool.and (Nat.beq a b) (Nat.beq n m))
  | .slice i a n (some c), .slice j b m (some d) => Bool.and (Nat.beq i j) (Bool.and (Nat.beq a b) (Bool.and (Nat.beq n m) (Nat.beq c d)))
  | .nilmap, .nilmap => true
  | .map i, .map j => Nat.beq i j
  | .func f a b, .func g c d => Bool.and (Nat.beq f g) (Bool.and (sameVs a c) (sameVs b d))
  | .nilfunc, .nilfunc => true
  | .nilIface, .nilIface => true
  | .iface t a, .iface u b => Bool.and (Nat.beq t u) (sameV a b)
  | .agg a, .agg b => sameVs a b
  | .tuple a, .tuple b => sameVs a b
  | .sint j c a b, .sint k d e f => Bool.and (keq j k) (Bool.and (ieq c d) (Bool.and (ieq a e) (ieq b f)))
  | .raw a, .raw b => beqB a b
  | _, _ => false
def sameVs : List AVal → List AVal → Bool
  | [], [] => true
  | x :: xs, y :: ys => Bool.and (sameV x y) (sameVs xs ys)
  | _, _ => false
end

/-- what an operation does with memory: nothing; it looks; it makes a block; anything -/
inductive Kd where
  | pure | look | make | eff
def kdConv (P : Program) (a b : TypeId) : Kd :=
  match P.underlying a, P.underlying b with
  | some (.slice _), _ => .look
  | some .string, some (.slice _) => .make
  | some (.int _), some (.int _) => .pure
  | some (.float _), some (.int _) => .pure
  | some (.int _), some (.float _) => .pure
  | some .string, some .string => .pure
  | _, _ => .eff
def kdCall (c : Call) : Kd := match c.callee with
  | .builtin .len => .look
  | .builtin .cap => .look
  | .builtin .real => .pure
  | .builtin .imag => .pure
  | .builtin .complex => .pure
  | .builtin .max => .pure
  | .builtin .min => .pure
  | _ => .eff
def kdOf (P : Program) (o : Op) : Kd := match o with
  | .move _ => .pure
  | .assign _ => .pure
  | .pick _ _ _ => .pure
  | .build _ _ => .pure
  | .nilCheck _ => .pure
  | .binOp _ _ _ _ _ => .pure
  | .unOp _ _ _ => .pure
  | .makeInterface _ _ => .pure
  | .makeFunc _ _ _ => .pure
  | .fieldAddr _ _ _ => .pure
  | .field _ _ _ => .pure
  | .indexAddr _ _ _ => .pure
  | .index _ _ _ => .pure
  | .typeAssert _ _ _ _ => .pure
  | .extract _ _ => .pure
  | .load _ _ => .look
  | .lookup _ _ _ _ => .look
  | .entry _ => .look
  | .slice _ _ _ _ _ => .look
  | .alloc _ => .make
  | .box _ _ => .make
  | .buildSlice _ _ _ => .make
  | .makeMap _ none => .make
  | .makeSlice _ _ _ => .make
  | .convert a b _ => kdConv P a b
  | .call c => kdCall c
  | _ => .eff
def Kd.isE (k : Kd) : Bool := match k with
  | .eff => true
  | _ => false
def Kd.isL (k : Kd) : Bool := match k with
  | .look => true
  | _ => false

/-- what is known of an operation ahead of all running: where its result goes, what it reads, its kind, which operations come before it -/
structure DI where
  dst : Option Tmp
  names : List Tmp
  eff : Bool
  look : Bool
  bf : Nat
def tmpsIn : List Operand → List Tmp
  | [] => []
  | .tmp t :: l => t :: tmpsIn l
  | _ :: l => tmpsIn l
def guardTmp (ops : Array Oper) (o : Oper) : List Tmp := match o.guard with
  | none => []
  | some (j, _) => match (ops[j]?).bind (·.dst) with
    | some t => [t]
    | none => []
def nthN : List Nat → Nat → Nat
  | [], _ => 0
  | a :: l, n => match n with
    | 0 => a
    | n + 1 => nthN l n
/-- the operations that come before one, as a number's bits; of the earlier ones: in their order -/
def bfOf (acc : List Nat) : List Edge → Nat
  | [] => 0
  | e :: l => sel (Region.binds .any e) (Nat.lor (Nat.lor (Nat.pow 2 e.on) (nthN acc e.on)) (bfOf acc l)) (bfOf acc l)
def bfsOf : List Oper → List Nat → List Nat
  | [], acc => acc
  | o :: l, acc => bfsOf l (acc ++ [bfOf acc o.after.toList])
def diOf (P : Program) (ops : Array Oper) (o : Oper) (bf : Nat) : DI :=
  ⟨o.dst, tmpsIn o.op.operands.toList ++ guardTmp ops o, (kdOf P o.op).isE, (kdOf P o.op).isL, bf⟩
def disOf (P : Program) (ops : Array Oper) : List Oper → List Nat → List DI
  | [], _ => []
  | o :: l, bfs => match bfs with
    | [] => []
    | b :: bfs => diOf P ops o b :: disOf P ops l bfs
def inO (o : Option Tmp) (l : List Tmp) : Bool := match o with
  | some t => hasN t l
  | none => false
def sameO (a b : Option Tmp) : Bool := match a, b with
  | some x, some y => Nat.beq x y
  | _, _ => false
/-- must one of two come before the other? -/
def clash (x y : DI) : Bool :=
  sel (inO x.dst y.names) true (sel (inO y.dst x.names) true (sel (sameO x.dst y.dst) true (Bool.and x.eff y.eff)))
/-- the earlier ones that clash with one come before it -/
def oneOK (y : DI) : List DI → Nat → Bool
  | [], _ => true
  | x :: l, i => sel (clash x y) (sel (Nat.testBit y.bf i) (oneOK y l (i + 1)) false) (oneOK y l (i + 1))
def allOK (all : List DI) : List DI → Bool
  | [] => true
  | y :: l => Bool.and (oneOK y all 0) (allOK all l)
def headsOK : List DI → List DI → Bool
  | _, [] => true
  | pre, y :: l => sel (oneOK y pre 0) (headsOK (pre ++ [y]) l) false
/-- the edges point back -/
def edgesOK (i : Nat) : List Edge → Bool
  | [] => true
  | e :: l => sel (Region.binds .any e) (sel (Nat.blt e.on i) (edgesOK i l) false) (edgesOK i l)
def backOK : List Oper → Nat → Bool
  | [], _ => true
  | o :: l, i => sel (edgesOK i o.after.toList) (backOK l (i + 1)) false
/-- how many effects come before one: at least, at most -/
def loOf (bf : Nat) : List DI → Nat → Nat
  | [], _ => 0
  | x :: l, i => sel (Bool.and x.eff (Nat.testBit bf i)) (loOf bf l (i + 1) + 1) (loOf bf l (i + 1))
def hiOf (j : Nat) : List DI → Nat
  | [] => 0
  | x :: l => sel (Bool.and x.eff (!Nat.testBit x.bf j)) (hiOf j l + 1) (hiOf j l)

/-- an operation of a region that draws: made ready; is it an effect?; how often it must be looked at again: from so many effects on to so many; what was reckoned at its place -/
inductive DIns where
  | mk (i : Ins) (eff look : Bool) (lo hi : Nat)
inductive DInss where
  | nil
  | cons (i : DIns) (l : DInss)
def dinsOf (P : Program) (call : CallF) (K : Tmps) (ops : Array Oper) (dis : List DI) : List Oper → List DI → Nat → Al → DInss
  | [], _, _, _ => .nil
  | o :: l, ds, n, al => match ds with
    | [] => .cons (.mk badI false false 0 0) .nil
    | d :: ds => .cons (.mk (insOf P call K ops n al o) d.eff d.look (loOf d.bf dis 0) (hiOf n dis)) (dinsOf P call K ops dis l ds (n + 1) (alAfter n al o))
mutual
/-- are the blocks of a value below a number? -/
def lowV (n : Nat) : AVal → Bool
  | .ptr i _ => Nat.blt i n
  | .slice i _ _ _ => Nat.blt i n
  | .map i => Nat.blt i n
  | .func _ a b => Bool.and (lowVs n a) (lowVs n b)
  | .iface _ v => lowV n v
  | .agg l => lowVs n l
  | .tuple l => lowVs n l
  | _ => true
def lowVs (n : Nat) : List AVal → Bool
  | [] => true
  | v :: l => Bool.and (lowV n v) (lowVs n l)
end
/-- behind all: the values (the last first), the temporaries, the state, the states ahead of the effects (the last first) -/
inductive DRes where
  | ok (l : List AVal) (e : Env) (s : St) (ss : List St)
  | bad
def stepD (go : List AVal → Env → St → List St → DRes) (l : List AVal) (e0 e : Env) (s : St) (ss : List St) (i : Ins) (eff : Bool) : DRes :=
  @Ins.rec (fun _ => DRes) (fun r d g => @Wt.rec (fun _ => DRes)
    (@R.rec (fun _ => DRes) (fun v s' => sel (Bool.and (Nat.ble s.next s'.next) (lowV s'.next v)) (go (v :: l) (putE e v d) s' (sel eff (s :: ss) ss)) .bad) .bad (r.run l e0 s))
    (go (aundef :: l) (putE e aundef d) s (sel eff (s :: ss) ss)) .bad (wanted l e0 g)) i
def runD (e0 : Env) (is : DInss) : List AVal → Env → St → List St → DRes :=
  @DInss.rec (fun _ => List AVal → Env → St → List St → DRes) (fun l e s ss => .ok l e s ss)
    (fun i _ ih l e s ss => @DIns.rec (fun _ => DRes) (fun i eff _ _ _ => stepD ih l e0 e s ss i eff) i) is
def sameR (v : AVal) (r : R) : Bool := match r with
  | .ok u _ => sameV u v
  | .bad => false
/-- does an operation that looks see the same in each of the states from one to another? (ss: in their order) -/
def looksAt (f : St → R) (v : AVal) (lo hi : Nat) : List St → Nat → Bool
  | [], _ => true
  | s :: ss, m => sel (Bool.and (Nat.ble lo m) (Nat.ble m hi)) (sel (sameR v (f s)) (looksAt f v lo hi ss (m + 1)) false) (looksAt f v lo hi ss (m + 1))
def lookI (l : List AVal) (e0 : Env) (v : AVal) (lo hi : Nat) (ss : List St) (i : Ins) : Bool :=
  @Ins.rec (fun _ => Bool) (fun r _ g => @Wt.rec (fun _ => Bool) (looksAt (r.run l e0) v lo hi ss 0) true false (wanted l e0 g)) i
/-- are all looks right? vs: the values in their order; l: those that were reckoned -/
def looks (e0 : Env) (ss : List St) (is : DInss) : List AVal → List AVal → Bool :=
  @DInss.rec (fun _ => List AVal → List AVal → Bool) (fun _ _ => true)
    (fun i _ ih vs l => @List.rec AVal (fun _ => Bool) false (fun v vs _ =>
      @DIns.rec (fun _ => Bool) (fun i _ look lo hi => sel look (sel (lookI l e0 v lo hi ss i) (ih vs (v :: l)) false) (ih vs (v :: l))) i) vs) is
def checkD (e0 : Env) (is : DInss) (r : DRes) : Res := match r with
  | .ok l e s ss => sel (looks e0 ((s :: ss).reverse) is l.reverse []) (.ok .normal e s) .bad
  | .bad => .bad
def runRegD (is : DInss) (e : Env) (s : St) : Res := checkD e is (runD e is [] e s [])
def goodD (P : Program) (ops : Array Oper) (dis : List DI) : Bool := sel (backOK ops.toList 0) (headsOK [] dis) false
/-- what is known of the temporaries so many operations on -/
def alFrom : List Oper → Nat → Al → Nat → Al
  | _, _, al, 0 => al
  | [], _, al, _ => al
  | o :: rest, n, al, k + 1 => alFrom rest (n + 1) (alAfter n al o) k
/- a region whose last operation is a store that may also come ahead of the store before it -/
def effAt : List DI → Nat → Option Nat → Option Nat
  | [], _, r => r
  | x :: l, i, r => effAt l (i + 1) (sel x.eff (some i) r)
def offD (y : DI) : DI := ⟨y.dst, y.names, false, y.look, y.bf⟩
/-- the effects ahead, but one, come before the last -/
def beforeT (p bf : Nat) : List DI → Nat → Bool
  | [], _ => true
  | x :: l, i => sel (sel x.eff (sel (Nat.beq i p) true (Nat.testBit bf i)) true) (beforeT p bf l (i + 1)) false
def Kd.isP (k : Kd) : Bool := match k with
  | .pure => true
  | _ => false
/-- what need not come before the last is pure, and so is what lies between -/
def pureT (P : Program) (p bf : Nat) : List Oper → Nat → Bool
  | [], _ => true
  | o :: l, i => sel (sel (Nat.beq i p) true (sel (kdOf P o.op).isP true (sel (Nat.blt p i) false (Nat.testBit bf i)))) (pureT P p bf l (i + 1)) false
def storeO (o : Oper) : Option Operand := match o.op, o.guard with
  | .store _ a _, none => some a
  | _, _ => none
def isSome {α : Type} (o : Option α) : Bool := match o with
  | some _ => true
  | none => false
def goodT (P : Program) (ops : Array Oper) (dis : List DI) : Option Nat :=
  match dis.getLast?, effAt dis.dropLast 0 none, ops.toList.getLast? with
  | some y, some p, some o => sel (backOK ops.toList 0) (sel (headsOK [] (dis.dropLast ++ [offD y])) (sel (beforeT p y.bf dis.dropLast 0) (sel (pureT P p y.bf ops.toList.dropLast 0)
      (sel (isSome (storeO o)) (sel (isSome ((ops.toList[p]?).bind storeO)) (some p) none) none) none) none) none) none
  | _, _, _ => none
def idV (v : V) : Option Nat := match v with
  | .ok (.ptr i _) => some i
  | _ => none
def idAt (ops : Array Oper) (e0 : Env) (vs : List AVal) (j : Nat) : Option Nat :=
  match (ops.toList[j]?).bind storeO with
  | some a => idV (evalO (vs.take j).reverse e0 (copd j (alFrom ops.toList 0 .nil j) a))
  | none => none
def unlikeO (a b : Option Nat) : Bool := match a, b with
  | some i, some j => sel (Nat.beq i j) false true
  | _, _ => false
def runT (ops : Array Oper) (p : Nat) (e0 : Env) (is : DInss) (r : DRes) : Res := match r with
  | .ok l e s ss => sel (unlikeO (idAt ops e0 l.reverse p) (idAt ops e0 l.reverse (l.length - 1))) (checkD e0 is (.ok l e s ss)) .bad
  | .bad => .bad
def runRegT (ops : Array Oper) (p : Nat) (is : DInss) (e : Env) (s : St) : Res := runT ops p e is (runD e is [] e s [])
def regT (P : Program) (call : CallF) (K : Tmps) (ops : Array Oper) (dis : List DI) (o : Option Nat) : RegF := match o with
  | some p => ⟨runRegT ops p (dinsOf P call K ops dis ops.toList dis 0 .nil)⟩
  | none => ⟨fun _ _ => .bad⟩
def regD (P : Program) (call : CallF) (K : Tmps) (ops : Array Oper) (dis : List DI) : RegF :=
  sel (goodD P ops dis) ⟨runRegD (dinsOf P call K ops dis ops.toList dis 0 .nil)⟩ (regT P call K ops dis (goodT P ops dis))

/-- code made ready -/
inductive CC where
  | skip | ret | bad
  | exit (i : Nat) | goto (l : Nat)
  | region (l : Inss)
  | special (g : RegF)
  | seq (a b : CC)
  | cond (x : AOpd) (a b : CC)
  | block (i : Nat) (b : CC)
  | loop (b : CC)
  | scope (b : CC) (l : Code)
/-- regions that are not run, but known otherwise -/
abbrev Known := Nat → Option RegF
def regOf (P : Program) (call : CallF) (K : Tmps) (ops : Array Oper) (d : Bool) (g : Option RegF) : CC := match g with
  | some g => .special g
  | none => sel d (.special (regD P call K ops (disOf P ops ops.toList (bfsOf ops.toList [])))) (.region (inssOf P call K ops ops.toList 0 .nil))
def cc (P : Program) (call : CallF) (K : Tmps) (kn : Known) : Code → CC
  | .skip => .skip
  | .label _ => .skip
  | .ret => .ret
  | .exit i => .exit i
  | .goto l => .goto l
  | .region id ops d => regOf P call K ops d (kn id)
  | .seq a b => .seq (cc P call K kn a) (cc P call K kn b)
  | .cond x a b => .cond (copd 0 .nil x) (cc P call K kn a) (cc P call K kn b)
  | .block i b => .block i (cc P call K kn b)
  | .loop b => .loop (cc P call K kn b)
  | .scope b => .scope (cc P call K kn b) b
  | _ => .bad

def thenR (k : Env → St → Res) (r : Res) : Res :=
  @Res.rec (fun _ => Res) (fun x e s => @Ex.rec (fun _ => Res) (k e s) (fun i => .ok (.exit i) e s) (fun l => .ok (.goto l) e s) (.ok .ret e s) x) .bad r
def blockR (i : Nat) (r : Res) : Res :=
  @Res.rec (fun _ => Res) (fun x e s => @Ex.rec (fun _ => Res) (.ok .normal e s) (fun j => sel (Nat.beq i j) (.ok .normal e s) (.ok (.exit j) e s)) (fun l => .ok (.goto l) e s) (.ok .ret e s) x) .bad r
def condO (a b : Env → St → Res) (e : Env) (s : St) (t : Option Bool) : Res :=
  @Option.rec Bool (fun _ => Res) .bad (fun t => @Bool.rec (fun _ => Res) (b e s) (a e s) t) t
def condR (a b : Env → St → Res) (e : Env) (s : St) (v : V) : Res :=
  @V.rec (fun _ => Res) (fun v => condO a b e s (boolV v)) .bad v
def loopN (f : Env → St → Res) (n : Nat) : Env → St → Res :=
  @Nat.rec (fun _ => Env → St → Res) (fun _ _ => .bad) (fun _ ih e s => thenR ih (f e s)) n
/-- behind a jump in a scope: the code behind the label, again and again -/
def jumpTo (ex : CC → Env → St → Res) (again : Res → Res) (l : Nat) (e : Env) (s : St) (c : Option CC) : Res := match c with
  | some c => again (ex c e s)
  | none => .ok (.goto l) e s
def scopeGo (ex : CC → Env → St → Res) (rest : Nat → Option CC) (again : Res → Res) (r : Res) : Res := match r with
  | .ok (.goto l) e s => jumpTo ex again l e s (rest l)
  | r => r
def scopeN (ex : CC → Env → St → Res) (rest : Nat → Option CC) (n : Nat) : Res → Res :=
  @Nat.rec (fun _ => Res → Res) (fun _ => .bad) (fun _ ih r => scopeGo ex rest ih r) n
def restOf (P : Program) (call : CallF) (K : Tmps) (kn : Known) (b : Code) (l : Nat) : Option CC := match findLabel b l with
  | some c => some (cc P call K kn c)
  | none => none
def exec1 (sc : Code → Res → Res) (fuel : Nat) (c : CC) : Env → St → Res :=
  @CC.rec (fun _ => Env → St → Res)
    (fun e s => .ok .normal e s) (fun e s => .ok .ret e s) (fun _ _ => .bad)
    (fun i e s => .ok (.exit i) e s) (fun l e s => .ok (.goto l) e s)
    (fun l => runReg l)
    (fun g => g.run)
    (fun _ _ fa fb e s => thenR fb (fa e s))
    (fun x _ _ fa fb e s => condR fa fb e s (evalO [] e x))
    (fun i _ fb e s => blockR i (fb e s))
    (fun _ fb => loopN fb fuel)
    (fun _ b fb e s => sc b (fb e s)) c
def execN (P : Program) (call : CallF) (K : Tmps) (kn : Known) (fuel : Nat) (n : Nat) : CC → Env → St → Res :=
  @Nat.rec (fun _ => CC → Env → St → Res) (fun _ _ _ => .bad)
    (fun _ ih c => exec1 (fun b r => scopeN ih (restOf P call K kn b) fuel r) fuel c) n

/- functions -/
def enterE (K : Tmps) : Nat → Env → List AVal → Env
  | _, e, [] => e
  | i, e, v :: l => enterE K (i + 1) (sel (K.keep i) (e.set i (some v)) e) l
inductive RV where
  | tmp (p : List Bool)
  | cell (p : List Bool) (t : Pt)
def rvOf (P : Program) (r : ResultVar) : RV := match r with
  | .tmp t => .tmp (bits t)
  | .cell a t => .cell (bits a) (wholeT P t)
def rvsOf (P : Program) : List ResultVar → List RV
  | [] => []
  | r :: l => rvOf P r :: rvsOf P l
def cellV (s : St) (t : Pt) (o : Option AVal) : V := match o with
  | some v => loadV s t v
  | none => .bad
def resOne (e : Env) (s : St) (r : RV) : V := match r with
  | .tmp p => V.ofO (Tr.getP p e)
  | .cell p t => cellV s t (Tr.getP p e)
def resAll (e : Env) (s : St) : List RV → Option (List AVal)
  | [] => some []
  | r :: l => consO (resOne e s r) (resAll e s l)
def resV (o : Option (List AVal)) : V := match o with
  | some [v] => .ok v
  | some vs => .ok (.tuple vs)
  | none => .bad
def doneR (l : List RV) (r : Res) : R := match r with
  | .ok .normal e s => V.ret s (resV (resAll e s l))
  | .ok .ret e s => V.ret s (resV (resAll e s l))
  | _ => .bad
/-- a function made ready -/
inductive FC where
  | mk (c : CC) (l : List RV) (K : Tmps)
  | bad
def fcB (P : Program) (call : CallF) (keep : Keep) (kn : Known) (fn : Func) (b : Option Code) : FC := match b with
  | some b => .mk (cc P call ⟨fn.ntmps, keep⟩ kn b) (rvsOf P fn.results.toList) ⟨fn.ntmps, keep⟩
  | none => .bad
def fcOf (P : Program) (call : CallF) (keep : Keep) (kn : Known) (fn : Option Func) : FC := match fn with
  | some fn => fcB P call keep kn fn fn.body
  | none => .bad
structure Orc where
  run : List AVal → St → R
/-- what the run leans on: the functions' texts, which temporaries are kept, the regions and the functions that are known otherwise -/
structure Base where
  fn : FuncId → Option Func
  keep : FuncId → Keep
  reg : FuncId → Known
  orc : FuncId → Option Orc
def enterF (P : Program) (call : CallF) (kn : Known) (fuel : Nat) (args : List AVal) (s : St) (f : FC) : R := match f with
  | .mk c l K => doneR l (execN P call K kn fuel fuel c (enterE K 0 .lf args) s)
  | .bad => .bad
def callStep (P : Program) (B : Base) (call : CallF) (fuel : Nat) (f : FuncId) (args : List AVal) (s : St) (o : Option Orc) : R :=
  @Option.rec Orc (fun _ => R) (enterF P call (B.reg f) fuel args s (fcOf P call (B.keep f) (B.reg f) (B.fn f))) (fun g => g.run args s) o
def callN (P : Program) (B : Base) (fuel : Nat) (d : Nat) : CallF :=
  @Nat.rec (fun _ => CallF) (fun _ _ _ => .bad) (fun _ ih f args s => callStep P B ih fuel f args s (B.orc f)) d

/- lists as trees, so that what is asked often is found fast -/
def evens {α : Type} : List α → List α
  | [] => []
  | a :: l => a :: (match l with | [] => [] | _ :: l => evens l)
def odds {α : Type} : List α → List α
  | [] => []
  | _ :: l => (match l with | [] => [] | b :: l => b :: odds l)
def treeOf {α : Type} : Nat → List α → Tr α
  | 0, _ => .lf
  | _ + 1, [] => .lf
  | f + 1, a :: l => .nd (some a) (treeOf f (evens l)) (treeOf f (odds l))
end
end Go.Proofs.YtchkcnecgfolmaaGreatDoor.Ev
namespace Go.Proofs.YtchkcnecgfolmaaGreatDoor.Ev
open Go
set_option linter.unusedSectionVars false
set_option linter.unusedVariables false
set_option linter.unusedSimpArgs false
variable [Sig] {P : Program}

/-- how a region's operands are found is right -/
def Cx (r : Rho) (l : List AVal) (e : Env) (co : Cod) (a : Act) (o : Op) : Prop := ∀ x ∈ o.operands, ∀ v, evalO l e (co x) = .ok v → VR r v (a.eval x)
/-- an operation that gives a value and changes nothing -/
def Yes (P : Program) (r : Rho) (w : World) (x : Sem Next) (v : AVal) : Prop := ∃ u, x.run P w = .ok (.value u) w ∧ VR r v u
/-- an operation that makes a block -/
def MakeN (P : Program) (r : Rho) (w : World) (x : Sem Next) (mk : Nat → AVal) (b : ABlk) : Prop :=
  ∃ w' u y o, x.run P w = .ok (.value u) w' ∧ y.blk = w.heap.size ∧ w'.heap[y.blk]? = some o ∧ (∀ k, k < w.heap.size → w'.heap[k]? = w.heap[k]?) ∧ w.heap.size ≤ w'.heap.size ∧
    w'.os = w.os ∧ w'.tape = w.tape ∧ w'.output = w.output ∧ ∀ i, r i = none → BR (r.at i y) b y o ∧ VR (r.at i y) (mk i) u
/-- what an operation does, whatever it be -/
def OpOK (P : Program) (o : Oper) (a : Act) (r : Rho) (s : St) (w : World) (v : AVal) (s' : St) : Prop :=
  ∀ (K : Act → World → Prop) (Q : Exit → Act → World → Prop), (∀ q u w', Ext r s w q s' w' → VR q v u → K (a.put o.dst u) w') → o.wp P a w K Q
/-- an operation's result, by its kind -/
def OpRes (P : Program) (o : Oper) (co : Cod) (l : List AVal) (e : Env) (s : St) (v : AVal) (s' : St) : Kd → Prop
  | .pure => s' = s ∧ ∀ r w a, Cx r l e co a o.op → Yes P r w (execOp a.eval o) v
  | .look => s' = s ∧ ∀ r w a, RelB r s w → Cx r l e co a o.op → Yes P r w (execOp a.eval o) v
  | .make => ∃ mk b, v = mk s.next ∧ s' = s.new b ∧ ∀ r w a, Cx r l e co a o.op → MakeN P r w (execOp a.eval o) mk b
  | .eff => ∀ r w a, Rel r s w → Cx r l e co a o.op → OpOK P o a r s w v s'

theorem Yes.ok {o : Oper} {a : Act} {r : Rho} {s : St} {w : World} {v : AVal} (h : Rel r s w) (hy : Yes P r w (execOp a.eval o) v) : OpOK P o a r s w v s := by
  obtain ⟨u, h1, h2⟩ := hy
  intro K Q hK
  unfold Oper.wp
  rw [h1]
  exact hK r u w (Ext.refl h) h2
theorem MakeN.ok {o : Oper} {a : Act} {r : Rho} {s : St} {w : World} {mk : Nat → AVal} {b : ABlk} (h : Rel r s w) (hm : MakeN P r w (execOp a.eval o) mk b) : OpOK P o a r s w (mk s.next) (s.new b) := by
  obtain ⟨w', u, y, o', h1, h2, h3, h4, h5, h6, h7, h8, h9⟩ := hm
  obtain ⟨h10, h11⟩ := h9 s.next (h.none_next (Nat.le_refl _))
  intro K Q hK
  unfold Oper.wp
  rw [h1]
  exact hK _ u w' (Ext.new h h2 h3 h10 h4 h5 h6 h7 h8) h11
/-- of whatever kind: it does what it should -/
theorem OpRes.ok {o : Oper} {co : Cod} {l : List AVal} {e : Env} {s s' : St} {v : AVal} {k : Kd} (h : OpRes P o co l e s v s' k) {r : Rho} {w : World} {a : Act} (hr : Rel r s w) (hc : Cx r l e co a o.op) :
    OpOK P o a r s w v s' := by
  cases k with
  | pure => obtain ⟨rfl, h1⟩ := h; exact (h1 r w a hc).ok hr
  | look => obtain ⟨rfl, h1⟩ := h; exact (h1 r w a hr.toRelB hc).ok hr
  | make => obtain ⟨mk, b, rfl, rfl, h1⟩ := h; exact (h1 r w a hc).ok hr
  | eff => exact h r w a hr hc

/- from words that give a value -/
theorem Gives.yes {r : Rho} {w : World} {x : Sem Value} {v : AVal} (h : Gives P r w x v) : Yes P r w (do pure (.value (← x))) v := by
  obtain ⟨u, h1, h2⟩ := h
  exact ⟨u, by simp only [Sem.run_bind, h1, Result.andThen_ok, Sem.run_pure], h2⟩
theorem Make.next {r : Rho} {w : World} {x : Sem Value} {mk : Nat → AVal} {b : ABlk} (h : Make P r w x mk b) : MakeN P r w (do pure (.value (← x))) mk b := by
  obtain ⟨w', u, y, o, h1, h2⟩ := h
  exact ⟨w', u, y, o, by simp only [Sem.run_bind, h1, Result.andThen_ok, Sem.run_pure], h2⟩
theorem Does.op {o : Oper} {a : Act} {r : Rho} {s s' : St} {w : World} {x : Sem Value} {v : AVal} (h : Does P r s w x v s') (he : execOp a.eval o = (do pure (.value (← x)))) : OpOK P o a r s w v s' := by
  obtain ⟨q, w', u, h1, h2, h3⟩ := h
  intro K Q hK
  unfold Oper.wp
  rw [he]
  simp only [Sem.run_bind, h1, Result.andThen_ok, Sem.run_pure]
  exact hK q u w' h3 h2
theorem DoesU.op {o : Oper} {a : Act} {r : Rho} {s s' : St} {w : World} {x : Sem Unit} (h : DoesU P r s w x s') (he : execOp a.eval o = (do x; pure .skip)) : OpOK P o a r s w aundef s' := by
  obtain ⟨q, w', h1, h3⟩ := h
  intro K Q hK
  unfold Oper.wp
  rw [he]
  simp only [Sem.run_bind, h1, Result.andThen_ok, Sem.run_pure]
  exact hK q undef w' h3 (.tuple .nil)

/- operands -/
theorem evalOs_ok {r : Rho} {l : List AVal} {e : Env} {co : Cod} {a : Act} : ∀ (xs : List Operand) {vs : List AVal}, (∀ x ∈ xs, ∀ v, evalO l e (co x) = .ok v → VR r v (a.eval x)) →
    evalOs l e (copds co xs) = some vs → VRs r vs (xs.map a.eval)
  | [], vs, _, h => by cases h; exact .nil
  | x :: xs, vs, hx, h => by
    have h : consO (evalO l e (co x)) (evalOs l e (copds co xs)) = some vs := h
    cases h1 : evalO l e (co x) with
    | bad => rw [h1] at h; cases h
    | ok v =>
      rw [h1] at h
      cases h2 : evalOs l e (copds co xs) with
      | none => rw [h2] at h; cases h
      | some us =>
        rw [h2] at h
        cases h
        exact .cons (hx x (List.mem_cons_self ..) v h1) (evalOs_ok xs (fun y hy => hx y (List.mem_cons_of_mem _ hy)) h2)
theorem fills_ok {r : Rho} {l : List AVal} {e : Env} {co : Cod} {a : Act} {pl : Nat → Pt} {place : Nat → Option (Nat × Nat)} (hp : ∀ i o n g, pl i = .mk o n g → place i = some (o, n)) :
    ∀ (ps : List (Nat × Operand)), (∀ p ∈ ps, ∀ v, evalO l e (co p.2) = .ok v → VR r v (a.eval p.2)) → FR2 r l e place (fillsOf co pl ps) (ps.map fun p => (p.1, a.eval p.2))
  | [], _ => .nil
  | (i, x) :: ps, hx => .cons (fun v hv => hx (i, x) (List.mem_cons_self ..) v hv) (fun o n g h => hp i o n g h) (fills_ok hp ps fun p hp' => hx p (List.mem_cons_of_mem _ hp'))
theorem evalN_ok {r : Rho} {l : List AVal} {e : Env} {co : Cod} {a : Act} {x : Option Operand} (hx : ∀ y, x = some y → ∀ v, evalO l e (co y) = .ok v → VR r v (a.eval y)) : NR (evalN l e (x.map co)) (x.map a.eval) := by
  cases x with
  | none => rfl
  | some y =>
    show NR (onV (evalO l e (co y))) (some (a.eval y))
    cases h : onV (evalO l e (co y)) with
    | none =>
      cases h1 : evalO l e (co y) with
      | bad => rw [h1] at h; cases h
      | ok v =>
        rw [h1] at h
        have h : onO (asNat v) = .none := h
        unfold onO at h
        split at h <;> cases h
    | bad => trivial
    | some n =>
      obtain ⟨v, h1, h2⟩ := onV_none h
      obtain ⟨k, h3⟩ := asNat_ok h2 (hx y rfl v h1)
      exact ⟨k, by rw [h3]⟩
end Go.Proofs.YtchkcnecgfolmaaGreatDoor.Ev
namespace Go.Proofs.YtchkcnecgfolmaaGreatDoor.Ev
open Go
set_option linter.unusedSectionVars false
set_option linter.unusedVariables false
set_option linter.unusedSimpArgs false
variable [Sig] {P : Program}

theorem unr_ok {f : Un} {x : AOpd} {l : List AVal} {e : Env} {s s' : St} {v : AVal} (h : opUnr f x l e s = .ok v s') : ∃ u, evalO l e x = .ok u ∧ f.run s u = .ok v s' := then_ok h
theorem bi_ok {f : Bi} {x y : AOpd} {l : List AVal} {e : Env} {s s' : St} {v : AVal} (h : opBi f x y l e s = .ok v s') : ∃ a b, evalO l e x = .ok a ∧ evalO l e y = .ok b ∧ f.run s a b = .ok v s' := by
  obtain ⟨a, h1, h2⟩ := then_ok h
  obtain ⟨b, h3, h4⟩ := then_ok h2
  exact ⟨a, b, h1, h3, h4⟩

theorem toInt_st {k : IntKind} {s s' : St} {x v : AVal} (h : toInt P k s x = .ok v s') : s' = s := by
  unfold toInt at h
  split at h
  · cases h; rfl
  · exact (ret_ok h).2
  · exact (ret_ok h).2
  · cases h
theorem toFlt_st {k : FloatKind} {s s' : St} {x v : AVal} (h : toFlt k s x = .ok v s') : s' = s := by
  unfold toFlt at h
  split at h
  · cases h; rfl
  · cases h
theorem toStr_st {s s' : St} {x v : AVal} (h : toStr s x = .ok v s') : s' = s := by
  unfold toStr at h
  split at h
  · cases h; rfl
  · cases h
theorem bytesStr_st {s s' : St} {x v : AVal} (h : bytesStr s x = .ok v s') : s' = s := by
  unfold bytesStr at h
  split at h
  · cases h; rfl
  · unfold bytesC at h
    split at h
    · obtain ⟨_, _, _, h3⟩ := strOut_ok h
      exact h3
    · cases h
  · cases h
theorem conv_ok {t u : TypeId} {x : Operand} {co : Cod} {l : List AVal} {e : Env} {s s' : St} {v : AVal} (dst : Option Tmp) (ty : TypeId) (pos : String) (af : Array Edge) (gd : Option (Nat × Bool))
    (h : opUnr (convOf P t u) (co x) l e s = .ok v s') : OpRes P ⟨dst, .convert t u x, ty, pos, af, gd⟩ co l e s v s' (kdConv P t u) := by
  obtain ⟨a, h1, h2⟩ := unr_ok h
  have hm : x ∈ (Op.convert t u x).operands := by simp [Op.operands]
  unfold convOf at h2
  unfold kdConv
  cases ht : P.underlying t with
  | none => rw [ht] at h2; cases hu : P.underlying u <;> rw [hu] at h2 <;> cases h2
  | some d =>
    cases hu : P.underlying u with
    | none => rw [ht, hu] at h2; cases d <;> cases h2
    | some d' =>
      rw [ht, hu] at h2
      cases d <;> cases d' <;> try (cases h2; done)
      case some.some.int.int k k' =>
        have h2 : toInt P k' s a = .ok v s' := h2
        exact ⟨toInt_st h2, fun r w b hc => (toInt_ok h2 (hc x hm a h1) ht hu).2.yes⟩
      case some.some.int.float k k' =>
        have h2 : toFlt k' s a = .ok v s' := h2
        exact ⟨toFlt_st h2, fun r w b hc => (toFlt_ok h2 (hc x hm a h1) ht hu).2.yes⟩
      case some.some.float.int k k' =>
        have h2 : toInt P k' s a = .ok v s' := h2
        exact ⟨toInt_st h2, fun r w b hc => (toInt_ok h2 (hc x hm a h1) ht hu).2.yes⟩
      case some.some.string.string =>
        have h2 : toStr s a = .ok v s' := h2
        exact ⟨toStr_st h2, fun r w b hc => (toStr_ok h2 (hc x hm a h1) ht hu).2.yes⟩
      case some.some.string.slice el =>
        have h2 : (sel (isU8 P el) ⟨strBytes⟩ badU).run s a = .ok v s' := h2
        cases hi : isU8 P el
        · rw [hi] at h2; cases h2
        · rw [hi] at h2
          obtain ⟨mk, b, h3, h4, h5⟩ := strBytes_conv h2 ht hu hi
          exact ⟨mk, b, h3, h4, fun r w b hc => (h5 r w _ (hc x hm a h1)).next⟩
      case some.some.slice.string el =>
        have h2 : (sel (isU8 P el) ⟨bytesStr⟩ badU).run s a = .ok v s' := h2
        cases hi : isU8 P el
        · rw [hi] at h2; cases h2
        · rw [hi] at h2
          exact ⟨bytesStr_st h2, fun r w b hr hc => by
            have h3 := bytesStr_st h2
            subst h3
            exact (bytesStr_conv hr h2 (hc x hm a h1) ht hu hi).2.yes⟩

theorem ifaceOf_st {t : TypeId} {s s' : St} {x v : AVal} (h : (ifaceOf P t).run s x = .ok v s') : s' = s := by
  unfold ifaceOf at h
  split at h
  · cases h
  · cases h; rfl
  · cases h
theorem assertOf_st {t : TypeId} {ok : Bool} {s s' : St} {x v : AVal} (h : (assertOf P t ok).run s x = .ok v s') : s' = s := by
  unfold assertOf at h
  split at h
  · cases h
  · have h : asserts t ok s x = .ok v s' := h
    unfold asserts at h
    split at h
    · obtain ⟨_, h⟩ := selR_good h
      cases h; rfl
    · cases h
  · cases h
theorem nilV_ok {r : Rho} {w : World} {x : AVal} {u : Value} (h : nilV x = true) (hx : VR r x u) (o : Oper) (a : Act) (y : Operand) (ho : o.op = .nilCheck y) (hy : a.eval y = u) : (execOp a.eval o).run P w = .ok (.value u) w := by
  unfold nilV at h
  split at h
  · cases hx; simp [execOp, ho, hy]
  · cases hx; simp [execOp, ho, hy]
  · cases hx; simp [execOp, ho, hy]
  · cases h

theorem comp_ok {co : Cod} {call : CallF} {o : Oper} {l : List AVal} {e : Env} {s s' : St} {v : AVal} (hcall : ∀ c, o.op ≠ .call c) (h : (comp co P call o.op).run l e s = .ok v s') :
    OpRes P o co l e s v s' (kdOf P o.op) := by
  obtain ⟨dst, op, ty, pos, af, gd⟩ := o
  cases op with
  | move x =>
    obtain ⟨h1, h2⟩ := ret_ok h
    exact ⟨h2, fun r w a hc => ⟨a.eval x, rfl, hc x (by simp [Op.operands]) v h1⟩⟩
  | assign x =>
    obtain ⟨h1, h2⟩ := ret_ok h
    exact ⟨h2, fun r w a hc => ⟨a.eval x, rfl, hc x (by simp [Op.operands]) v h1⟩⟩
  | pick c x y =>
    obtain ⟨b, h1, h2⟩ := then_ok h
    unfold pickO boolV at h2
    split at h2
    · rename_i b
      cases b
      · obtain ⟨h3, h4⟩ := ret_ok h2
        refine ⟨h4, fun r w a hc => ⟨a.eval y, ?_, hc y (by simp [Op.operands]) v h3⟩⟩
        have h5 := hc c (by simp [Op.operands]) _ h1
        generalize hg : a.eval c = g at h5
        cases h5
        simp [execOp, hg, asBool]
      · obtain ⟨h3, h4⟩ := ret_ok h2
        refine ⟨h4, fun r w a hc => ⟨a.eval x, ?_, hc x (by simp [Op.operands]) v h3⟩⟩
        have h5 := hc c (by simp [Op.operands]) _ h1
        generalize hg : a.eval c = g at h5
        cases h5
        simp [execOp, hg, asBool]
    · cases h2
  | alloc t =>
    have h : opAlloc (zeroT P t) l e s = .ok v s' := h
    unfold opAlloc at h
    split at h
    · rename_i z hz
      cases h
      exact ⟨fun i => .ptr i 0, _, rfl, rfl, fun r w a hc => (alloc_ok hz _).next⟩
    · cases h
  | box t x =>
    obtain ⟨u, h1, h2⟩ := then_ok h
    cases h2
    exact ⟨fun i => .ptr i 0, _, rfl, rfl, fun r w a hc => (box_ok (hc x (by simp [Op.operands]) u h1)).next⟩
  | build t ps =>
    have h : opBuild (buildZ P t) (fillsOf co (fieldT P t) ps.toList) l e s = .ok v s' := h
    unfold opBuild at h
    split at h
    · rename_i z hz
      unfold aggR at h
      split at h
      · rename_i cs hf
        cases h
        refine ⟨rfl, fun r w a hc => (build_ok (P := P) (l := l) (e := e) hz (fun place hp => ?_) hf).yes⟩
        rw [Array.toList_map]
        exact fills_ok hp ps.toList fun p hp' v hv => hc p.2 (by simp only [Op.operands, List.mem_toArray, List.mem_map]; exact ⟨p, hp', rfl⟩) v hv
      · cases h
    · cases h
  | buildSlice t n ps =>
    have h : opBuildSlice (zeroEl P t) (elemT P t) n (fillsOf co (elemPl (elemT P t)) ps.toList) l e s = .ok v s' := h
    unfold opBuildSlice at h
    split at h
    · rename_i z e0 sz g hz hel
      obtain ⟨h1, h⟩ := selR_bad h
      obtain ⟨h2, h⟩ := selR_good h
      unfold newSlice at h
      split at h
      · rename_i cs hf
        cases h
        refine ⟨fun i => .slice i 0 n none, _, rfl, rfl, fun r w a hc => (buildSlice_ok (P := P) (l := l) (e := e) hz hel (beq_ne h1) (ble_is h2) (fun place hp => ?_) hf).next⟩
        rw [Array.toList_map]
        refine fills_ok (fun i o n g hi => ?_) ps.toList fun p hp' v hv => hc p.2 (by simp only [Op.operands, List.mem_toArray, List.mem_map]; exact ⟨p, hp', rfl⟩) v hv
        rw [hel] at hi
        cases hi
        exact hp i
      · cases h
    · cases h
  | load t x =>
    obtain ⟨u, h1, h2⟩ := then_ok h
    obtain ⟨h3, h4⟩ := ret_ok h2
    subst h4
    exact ⟨rfl, fun r w a hr hc => (loadV_ok hr h3 (hc x (by simp [Op.operands]) u h1)).yes⟩
  | store t x y =>
    obtain ⟨u, h1, h2⟩ := then_ok h
    obtain ⟨p, h3, h4⟩ := then_ok h2
    intro r w a hr hc
    obtain ⟨rfl, h5⟩ := storeV_ok hr h4 (hc y (by simp [Op.operands]) u h1) (hc x (by simp [Op.operands]) p h3)
    exact h5.op rfl
  | nilCheck x =>
    obtain ⟨u, h1, h2⟩ := then_ok h
    obtain ⟨h3, h4⟩ := selR_good h2
    cases h4
    exact ⟨rfl, fun r w a hc => ⟨a.eval x, nilV_ok h3 (hc x (by simp [Op.operands]) _ h1) _ a x rfl rfl, hc x (by simp [Op.operands]) _ h1⟩⟩
  | binOp op t x y t' =>
    obtain ⟨u, h1, h2⟩ := then_ok h
    obtain ⟨p, h3, h4⟩ := then_ok h2
    obtain ⟨h5, h6⟩ := ret_ok h4
    exact ⟨h6, fun r w a hc => (bin_ok h5 (hc x (by simp [Op.operands]) u h1) (hc y (by simp [Op.operands]) p h3) x y).yes⟩
  | unOp op t x =>
    obtain ⟨u, h1, h2⟩ := then_ok h
    obtain ⟨h5, h6⟩ := ret_ok h2
    exact ⟨h6, fun r w a hc => (un_ok h5 (hc x (by simp [Op.operands]) u h1)).yes⟩
  | convert t u x => exact conv_ok dst ty pos af gd h
  | makeInterface t x =>
    obtain ⟨u, h1, h2⟩ := then_ok h
    exact ⟨ifaceOf_st h2, fun r w a hc => (ifaceOf_ok h2 (hc x (by simp [Op.operands]) u h1)).2.yes⟩
  | makeMap t n =>
    cases n with
    | some x => cases h
    | none =>
      cases h
      exact ⟨fun i => .map i, _, rfl, rfl, fun r w a hc => makeMap_ok.next⟩
  | makeFunc fn fi ca =>
    cases fn with
    | func f =>
      have h : opFunc f (copds co fi.toList) (copds co ca.toList) l e s = .ok v s' := h
      unfold opFunc at h
      split at h
      · rename_i vs us h1 h2
        cases h
        refine ⟨rfl, fun r w a hc => ?_⟩
        have h3 := evalOs_ok (a := a) fi.toList (fun x hx => hc x (by simp only [Op.operands, Array.mem_append]; exact .inl (by simpa using hx))) h1
        have h4 := evalOs_ok (a := a) ca.toList (fun x hx => hc x (by simp only [Op.operands, Array.mem_append]; exact .inr (by simpa using hx))) h2
        refine ⟨.func (.func f) (fi.map a.eval) (ca.map a.eval), rfl, ?_⟩
        have h5 := VR.func f h3 h4
        rw [← Array.toList_map, ← Array.toList_map] at h5
        exact h5
      · cases h
    | _ => cases h
  | makeSlice t n c =>
    obtain ⟨u, h1, h2⟩ := then_ok h
    obtain ⟨p, h3, h4⟩ := then_ok h2
    unfold makeSlV at h4
    split at h4
    · rename_i z e0 sz g n' c' hz hel hn hc'
      obtain ⟨h5, h4⟩ := selR_bad h4
      obtain ⟨h6, h4⟩ := selR_good h4
      unfold makeSl at h4
      obtain ⟨h7, h4⟩ := selR_good h4
      obtain ⟨h8, h4⟩ := selR_good h4
      cases h4
      refine ⟨fun i => .slice i 0 n' (some c'), _, rfl, rfl, fun r w a hc => ?_⟩
      obtain ⟨k, h9⟩ := asNat_ok hn (hc n (by simp [Op.operands]) u h1)
      obtain ⟨k', h10⟩ := asNat_ok hc' (hc c (by simp [Op.operands]) p h3)
      have h11 := makeSl_ok (P := P) (r := r) (w := w) (k := k) (k' := k') h6 hz hel (beq_ne h5) (ble_is h7) (ble_is h8)
      have h12 := h11.next
      show MakeN P r w (do pure (.value (← Instr.makeSlice t (a.eval n) (a.eval c)))) _ _
      rw [h9, h10]
      exact h12
    · cases h4
  | slice t x lo hi mx =>
    obtain ⟨u, h1, h2⟩ := then_ok h
    obtain ⟨h3, h4⟩ := ret_ok h2
    subst h4
    obtain ⟨g1, h3⟩ := sel_good h3
    obtain ⟨g2, h3⟩ := sel_good h3
    obtain ⟨g3, h3⟩ := sel_good h3
    refine ⟨rfl, fun r w a hr hc => (sliceV_ok hr g1 g2 g3 (evalN_ok (x := lo) fun y hy => hc y ?_) (evalN_ok (x := hi) fun y hy => hc y ?_) (evalN_ok (x := mx) fun y hy => hc y ?_) h3 (hc x ?_ u h1)).yes⟩
    · subst hy; simp [Op.operands]
    · subst hy; simp [Op.operands]
    · subst hy; simp [Op.operands]
    · simp [Op.operands]
  | fieldAddr t x f =>
    obtain ⟨u, h1, h2⟩ := then_ok h
    obtain ⟨h3, h4⟩ := ret_ok h2
    exact ⟨h4, fun r w a hc => (fieldAV_ok h3 (hc x (by simp [Op.operands]) u h1)).yes⟩
  | field t x f =>
    obtain ⟨u, h1, h2⟩ := then_ok h
    obtain ⟨h3, h4⟩ := ret_ok h2
    exact ⟨h4, fun r w a hc => (fieldVV_ok h3 (hc x (by simp [Op.operands]) u h1)).yes⟩
  | indexAddr t x i =>
    obtain ⟨u, h1, h2⟩ := then_ok h
    obtain ⟨p, h5, h6⟩ := then_ok h2
    obtain ⟨h3, h4⟩ := ret_ok h6
    exact ⟨h4, fun r w a hc => (ixAddr_ok h3 (hc x (by simp [Op.operands]) p h5) (hc i (by simp [Op.operands]) u h1)).yes⟩
  | index t x i =>
    obtain ⟨u, h1, h2⟩ := then_ok h
    obtain ⟨p, h5, h6⟩ := then_ok h2
    obtain ⟨h3, h4⟩ := ret_ok h6
    exact ⟨h4, fun r w a hc => (ixVal_ok h3 (hc x (by simp [Op.operands]) p h5) (hc i (by simp [Op.operands]) u h1)).yes⟩
  | lookup t m k ok =>
    obtain ⟨u, h1, h2⟩ := then_ok h
    obtain ⟨p, h5, h6⟩ := then_ok h2
    obtain ⟨h3, h4⟩ := ret_ok h6
    subst h4
    exact ⟨rfl, fun r w a hr hc => (lookT_ok hr h3 (hc k (by simp [Op.operands]) u h1) (hc m (by simp [Op.operands]) p h5)).yes⟩
  | mapUpdate t m k x =>
    obtain ⟨u, h1, h2⟩ := then_ok h
    obtain ⟨p, h3, h4⟩ := then_ok h2
    obtain ⟨q, h5, h6⟩ := then_ok h4
    intro r w a hr hc
    obtain ⟨rfl, h7⟩ := updV_ok hr h6 (hc k (by simp [Op.operands]) u h1) (hc x (by simp [Op.operands]) p h3) (hc m (by simp [Op.operands]) q h5)
    exact h7.op rfl
  | mapEntry t m k =>
    obtain ⟨u, h1, h2⟩ := then_ok h
    obtain ⟨p, h3, h4⟩ := then_ok h2
    intro r w a hr hc
    exact (entryV_ok hr h4 (hc k (by simp [Op.operands]) u h1) (hc m (by simp [Op.operands]) p h3)).op rfl
  | entryStore t m st x =>
    obtain ⟨u, h1, h2⟩ := then_ok h
    obtain ⟨p, h3, h4⟩ := then_ok h2
    obtain ⟨q, h5, h6⟩ := then_ok h4
    intro r w a hr hc
    obtain ⟨rfl, h7⟩ := entStV_ok (t := t) hr h6 (hc st (by simp [Op.operands]) u h1) (hc x (by simp [Op.operands]) p h3) (hc m (by simp [Op.operands]) q h5)
    exact h7.op rfl
  | range t x =>
    obtain ⟨u, h1, h2⟩ := then_ok h
    obtain ⟨h3, h4⟩ := selR_good h2
    intro r w a hr hc
    exact (rangeV_ok h3 hr h4 (hc x (by simp [Op.operands]) u h1)).op rfl
  | next it b =>
    cases b with
    | true => cases h
    | false =>
      obtain ⟨u, h1, h2⟩ := then_ok h
      intro r w a hr hc
      exact (nextV_ok hr h2 (hc it (by simp [Op.operands]) u h1)).op rfl
  | entry it =>
    obtain ⟨u, h1, h2⟩ := then_ok h
    obtain ⟨h3, h4⟩ := ret_ok h2
    subst h4
    exact ⟨rfl, fun r w a hr hc => (entV_ok hr h3 (hc it (by simp [Op.operands]) u h1)).yes⟩
  | typeAssert x t u ok =>
    obtain ⟨p, h1, h2⟩ := then_ok h
    exact ⟨assertOf_st h2, fun r w a hc => (assertOf_ok h2 (hc x (by simp [Op.operands]) p h1)).2.yes⟩
  | extract x i =>
    obtain ⟨u, h1, h2⟩ := then_ok h
    obtain ⟨h3, h4⟩ := ret_ok h2
    exact ⟨h4, fun r w a hc => (extrV_ok h3 (hc x (by simp [Op.operands]) u h1)).yes⟩
  | call c => exact absurd rfl (hcall c)
  | _ => cases h
end Go.Proofs.YtchkcnecgfolmaaGreatDoor.Ev
namespace Go.Proofs.YtchkcnecgfolmaaGreatDoor.Ev
open Go
set_option linter.unusedSectionVars false
set_option linter.unusedVariables false
set_option linter.unusedSimpArgs false
variable [Sig] {P : Program}

/-- what a call of a function comes to -/
def CallsF (P : Program) (f : FuncId) (us : Array Value) (w : World) (R : Value → World → Prop) : Prop :=
  (∃ u w', (callFunc f us).run P w = .ok (.value u) w' ∧ R u w') ∨ ((callFunc f us).run P w = .ok (.enter f us) w ∧ Calls P f us w (fun e w' => ∃ u, e = .returned u ∧ R u w'))
/-- calls of the run in the large are right -/
def CallOK (P : Program) (call : CallF) : Prop :=
  ∀ (f : FuncId) (args : List AVal) (s : St) (v : AVal) (s' : St), call f args s = .ok v s' → ∀ (r : Rho) (w : World) (us : List Value), Rel r s w → VRs r args us →
    CallsF P f ⟨us⟩ w fun u w' => ∃ q, Ext r s w q s' w' ∧ VR q v u

theorem CallsF.op {o : Oper} {a : Act} {r : Rho} {s s' : St} {w : World} {v : AVal} {f : FuncId} {us : Array Value} (h : CallsF P f us w fun u w' => ∃ q, Ext r s w q s' w' ∧ VR q v u)
    (he : (execOp a.eval o).run P w = (callFunc f us).run P w) : OpOK P o a r s w v s' := by
  intro K Q hK
  unfold Oper.wp
  rw [he]
  rcases h with ⟨u, w', h1, q, h2, h3⟩ | ⟨h1, h2⟩
  · rw [h1]
    exact hK q u w' h2 h3
  · rw [h1]
    refine Calls.mono h2 fun e w'' he => ?_
    obtain ⟨u, rfl, q, h3, h4⟩ := he
    exact hK q u w'' h3 h4

/- builtins -/
theorem bi1_ok {co : Cod} {b : Builtin} {x : Operand} {t : TypeId} {ts : List TypeId} {l : List AVal} {e : Env} {s s' : St} {v : AVal} (dst : Option Tmp) (ty : TypeId) (pos : String) (af : Array Edge) (gd : Option (Nat × Bool))
    (h : bi1 P b (co x) t l e s = .ok v s') :
    OpRes P ⟨dst, .call ⟨.builtin b, #[x], ⟨t :: ts⟩⟩, ty, pos, af, gd⟩ co l e s v s' (kdCall ⟨.builtin b, #[x], ⟨t :: ts⟩⟩) := by
  have hm : x ∈ (Op.call ⟨.builtin b, #[x], ⟨t :: ts⟩⟩).operands := by simp [Op.operands, Call.operands]
  have ht : (⟨t :: ts⟩ : Array TypeId)[0]? = some t := rfl
  cases b <;> try (cases h; done)
  case len =>
    obtain ⟨u, h1, h2⟩ := unr_ok h
    obtain ⟨h3, h4⟩ := ret_ok h2
    subst h4
    refine ⟨rfl, fun r w a hr hc => ?_⟩
    have he : execOp a.eval ⟨dst, .call ⟨.builtin .len, #[x], ⟨t :: ts⟩⟩, ty, pos, af, gd⟩ = (do pure (.value (← Builtin.len_ ⟨t :: ts⟩ ty #[a.eval x]))) := by
      simp only [execOp, resolve, List.map_toArray, List.map_cons, List.map_nil]; rfl
    rw [he]
    exact (lenV_ok ht hr h3 (hc x hm u h1)).yes
  case cap =>
    obtain ⟨u, h1, h2⟩ := unr_ok h
    obtain ⟨h3, h4⟩ := ret_ok h2
    subst h4
    refine ⟨rfl, fun r w a hr hc => ?_⟩
    have he : execOp a.eval ⟨dst, .call ⟨.builtin .cap, #[x], ⟨t :: ts⟩⟩, ty, pos, af, gd⟩ = (do pure (.value (← Builtin.cap_ ⟨t :: ts⟩ ty #[a.eval x]))) := by
      simp only [execOp, resolve, List.map_toArray, List.map_cons, List.map_nil]; rfl
    rw [he]
    exact (capV_ok ht hr h3 (hc x hm u h1)).yes
  case clear =>
    obtain ⟨u, h1, h2⟩ := unr_ok h
    intro r w a hr hc
    refine (clear_ok (ty := ty) ht hr h2 (hc x hm u h1)).op ?_
    simp only [execOp, resolve, List.map_toArray, List.map_cons, List.map_nil]; rfl
  case real =>
    obtain ⟨u, h1, h2⟩ := unr_ok h
    obtain ⟨h3, h4⟩ := ret_ok h2
    refine ⟨h4, fun r w a hc => ?_⟩
    have he : execOp a.eval ⟨dst, .call ⟨.builtin .real, #[x], ⟨t :: ts⟩⟩, ty, pos, af, gd⟩ = (do pure (.value (← Builtin.real_ ⟨t :: ts⟩ ty #[a.eval x]))) := by
      simp only [execOp, resolve, List.map_toArray, List.map_cons, List.map_nil]; rfl
    rw [he]
    exact (reV_ok h3 (hc x hm u h1)).yes
  case imag =>
    obtain ⟨u, h1, h2⟩ := unr_ok h
    obtain ⟨h3, h4⟩ := ret_ok h2
    refine ⟨h4, fun r w a hc => ?_⟩
    have he : execOp a.eval ⟨dst, .call ⟨.builtin .imag, #[x], ⟨t :: ts⟩⟩, ty, pos, af, gd⟩ = (do pure (.value (← Builtin.imag_ ⟨t :: ts⟩ ty #[a.eval x]))) := by
      simp only [execOp, resolve, List.map_toArray, List.map_cons, List.map_nil]; rfl
    rw [he]
    exact (imV_ok h3 (hc x hm u h1)).yes
theorem bi2_ok {co : Cod} {b : Builtin} {x y : Operand} {t : TypeId} {ts : List TypeId} {l : List AVal} {e : Env} {s s' : St} {v : AVal} (dst : Option Tmp) (ty : TypeId) (pos : String) (af : Array Edge) (gd : Option (Nat × Bool))
    (h : bi2 P b (co x) (co y) t ts.head? l e s = .ok v s') :
    OpRes P ⟨dst, .call ⟨.builtin b, #[x, y], ⟨t :: ts⟩⟩, ty, pos, af, gd⟩ co l e s v s' (kdCall ⟨.builtin b, #[x, y], ⟨t :: ts⟩⟩) := by
  have hm : x ∈ (Op.call ⟨.builtin b, #[x, y], ⟨t :: ts⟩⟩).operands := by simp [Op.operands, Call.operands]
  have hn : y ∈ (Op.call ⟨.builtin b, #[x, y], ⟨t :: ts⟩⟩).operands := by simp [Op.operands, Call.operands]
  have ht : (⟨t :: ts⟩ : Array TypeId)[0]? = some t := rfl
  have ht2 : (⟨t :: ts⟩ : Array TypeId)[1]? = ts.head? := by cases ts <;> rfl
  cases b <;> try (cases h; done)
  case append =>
    obtain ⟨u, p, h1, h2, h3⟩ := bi_ok h
    intro r w a hr hc
    refine (append_ok (ty := ty) ht ht2 hr h3 (hc x hm u h1) (hc y hn p h2)).op ?_
    simp only [execOp, resolve, List.map_toArray, List.map_cons, List.map_nil]; rfl
  case copy =>
    obtain ⟨u, p, h1, h2, h3⟩ := bi_ok h
    intro r w a hr hc
    refine (copy_ok (ty := ty) ht hr h3 (hc x hm u h1) (hc y hn p h2)).op ?_
    simp only [execOp, resolve, List.map_toArray, List.map_cons, List.map_nil]; rfl
  case delete =>
    obtain ⟨u, p, h1, h2, h3⟩ := bi_ok h
    intro r w a hr hc
    refine (delV_ok (ty := ty) ht hr h3 (hc y hn p h2) (hc x hm u h1)).op ?_
    simp only [execOp, resolve, List.map_toArray, List.map_cons, List.map_nil]; rfl
  case complex =>
    obtain ⟨u, p, h1, h2, h3⟩ := bi_ok h
    obtain ⟨h3, h4⟩ := ret_ok h3
    refine ⟨h4, fun r w a hc => ?_⟩
    have he : execOp a.eval ⟨dst, .call ⟨.builtin .complex, #[x, y], ⟨t :: ts⟩⟩, ty, pos, af, gd⟩ = (do pure (.value (← Builtin.complex_ ⟨t :: ts⟩ ty #[a.eval x, a.eval y]))) := by
      simp only [execOp, resolve, List.map_toArray, List.map_cons, List.map_nil]; rfl
    rw [he]
    exact (cxV_ok h3 (hc x hm u h1) (hc y hn p h2)).yes
  case max =>
    obtain ⟨u, p, h1, h2, h3⟩ := bi_ok h
    obtain ⟨h3, h4⟩ := ret_ok h3
    refine ⟨h4, fun r w a hc => ?_⟩
    have he : execOp a.eval ⟨dst, .call ⟨.builtin .max, #[x, y], ⟨t :: ts⟩⟩, ty, pos, af, gd⟩ = (do pure (.value (← Builtin.max_ ⟨t :: ts⟩ ty #[a.eval x, a.eval y]))) := by
      simp only [execOp, resolve, List.map_toArray, List.map_cons, List.map_nil]; rfl
    rw [he]
    exact (mmV_max h3 (hc x hm u h1) (hc y hn p h2)).yes
  case min =>
    obtain ⟨u, p, h1, h2, h3⟩ := bi_ok h
    obtain ⟨h3, h4⟩ := ret_ok h3
    refine ⟨h4, fun r w a hc => ?_⟩
    have he : execOp a.eval ⟨dst, .call ⟨.builtin .min, #[x, y], ⟨t :: ts⟩⟩, ty, pos, af, gd⟩ = (do pure (.value (← Builtin.min_ ⟨t :: ts⟩ ty #[a.eval x, a.eval y]))) := by
      simp only [execOp, resolve, List.map_toArray, List.map_cons, List.map_nil]; rfl
    rw [he]
    exact (mmV_min h3 (hc x hm u h1) (hc y hn p h2)).yes

/- functions -/
theorem callO_ok {k : List AVal → R} {o : Option (List AVal)} {v : AVal} {s' : St} (h : callO k o = .ok v s') : ∃ vs, o = some vs ∧ k vs = .ok v s' := by
  unfold callO at h
  split at h
  · exact ⟨_, rfl, h⟩
  · cases h
theorem methodOf_ok {t : TypeId} {name : String} {f : FuncId} (h : methodOf P t name = some f) :
    ∃ i m e, P.info? t = some i ∧ i.methods.find? (·.name == name) = some m ∧ m.func = some (f, true) ∧ P.underlying t = some (.pointer e) ∧ m.path.toList = [] := by
  unfold methodOf at h
  split at h
  · rename_i m hm
    rw [Option.bind_eq_some_iff] at hm
    obtain ⟨i, h1, h2⟩ := hm
    split at h
    · rename_i f' e hf hu
      rcases sel_eq h with ⟨h3, h4⟩ | ⟨_, h4⟩
      · cases h4
        exact ⟨i, m, e, h1, h2, hf, hu, by simpa using h3⟩
      · cases h4
    · cases h
  · cases h
theorem run_method {t : TypeId} {name : String} {f : FuncId} (h : methodOf P t name = some f) (n : Nat) (v : Value) (w : World) : (method (n + 1) t v name).run P w = .ok (f, v) w := by
  obtain ⟨i, m, e, h1, h2, h3, h4, h5⟩ := methodOf_ok h
  simp only [method, Sem.run_bind, run_typeInfo h1, Result.andThen_ok, h2, h5, follow, Sem.run_pure, h3, receiverAt, run_underlying h4, Place.get]

theorem callOf_ok {co : Cod} {call : CallF} (hcall : CallOK P call) {o : Oper} {c : Call} (ho : o.op = .call c) {l : List AVal} {e : Env} {s s' : St} {v : AVal} (h : callOf co P call c l e s = .ok v s') :
    OpRes P o co l e s v s' (kdCall c) := by
  obtain ⟨dst, op, ty, pos, af, gd⟩ := o
  cases ho
  obtain ⟨callee, args, types⟩ := c
  cases callee with
  | builtin b =>
    obtain ⟨args⟩ := args
    obtain ⟨types⟩ := types
    have h : biOf co P b types args l e s = .ok v s' := h
    unfold biOf at h
    split at h
    · exact bi1_ok dst ty pos af gd h
    · exact bi2_ok dst ty pos af gd h
    · cases h
  | value f =>
    intro r w a hr hc
    have hargs : ∀ x ∈ args.toList, ∀ v, evalO l e (co x) = .ok v → VR r v (a.eval x) := fun x hx => hc x (by simp [Op.operands, Call.operands]; exact .inr (by simpa using hx))
    have gen : opCall call (co f) (copds co args.toList) l e s = .ok v s' → OpOK P ⟨dst, .call ⟨.value f, args, types⟩, ty, pos, af, gd⟩ a r s w v s' := fun h => by
      obtain ⟨vs, h1, h2⟩ := callO_ok h
      obtain ⟨u, h3, h4⟩ := then_ok h2
      unfold callV at h4
      split at h4
      · rename_i g fi ca
        have h5 := hc f (by simp [Op.operands, Call.operands]) _ h3
        have h6 := evalOs_ok args.toList hargs h1
        generalize hg : a.eval f = gv at h5
        cases h5 with
        | func _ ha hb =>
          rename_i fi' ca'
          refine (hcall _ _ _ _ _ h4 r w _ hr (ha.append (h6.append hb))).op ?_
          have : (⟨fi'⟩ ++ args.map a.eval ++ ⟨ca'⟩ : Array Value) = ⟨fi' ++ (args.toList.map a.eval ++ ca')⟩ := by
            apply Array.ext'
            simp
          rw [← this]
          simp only [execOp, resolve, hg, Deferred.ofValue, Sem.run_bind, Sem.run_pure, Result.andThen_ok, invoke]
      · cases h4
    cases f with
    | func g =>
      obtain ⟨vs, h1, h2⟩ := callO_ok (h : opCallF call g (copds co args.toList) l e s = .ok v s')
      have h6 := evalOs_ok args.toList hargs h1
      refine (hcall _ _ _ _ _ h2 r w _ hr h6).op ?_
      have : (#[] ++ args.map a.eval ++ #[] : Array Value) = ⟨args.toList.map a.eval⟩ := by
        apply Array.ext'
        simp
      rw [← this]
      simp only [execOp, resolve, Act.eval, Deferred.ofValue, Sem.run_bind, Sem.run_pure, Result.andThen_ok, invoke]
    | _ => exact gen h
  | invoke rc name =>
    intro r w a hr hc
    have hargs : ∀ x ∈ args.toList, ∀ v, evalO l e (co x) = .ok v → VR r v (a.eval x) := fun x hx => hc x (by simp [Op.operands, Call.operands]; exact .inr (by simpa using hx))
    obtain ⟨vs, h1, h2⟩ := callO_ok (h : opInvoke P call (co rc) name (copds co args.toList) l e s = .ok v s')
    obtain ⟨u, h3, h4⟩ := then_ok h2
    have h6 := evalOs_ok args.toList hargs h1
    unfold invokeV at h4
    split at h4
    · rename_i t u
      obtain ⟨_, h4⟩ := selR_good h4
      unfold invoke2 at h4
      split at h4
      · rename_i g hg
        have h5 := hc rc (by simp [Op.operands, Call.operands]) _ h3
        generalize hrv : a.eval rc = rv at h5
        cases h5 with
        | iface _ hv =>
          rename_i u'
          refine (hcall _ _ _ _ _ h4 r w _ hr (.cons hv h6)).op ?_
          have hx : ((#[Value.iface t u'] ++ args.map a.eval : Array Value))[0]? = some (.iface t u') := by
            rw [Array.getElem?_append_left (by simp)]
            rfl
          have hy : (#[Value.iface t u'] ++ args.map a.eval : Array Value).extract 1 (#[Value.iface t u'] ++ args.map a.eval : Array Value).size = args.map a.eval := by
            apply Array.ext'
            simp
            rw [List.take_of_length_le (by simp)]
          have hz : (#[u'] ++ args.map a.eval : Array Value) = ⟨u' :: args.toList.map a.eval⟩ := by
            apply Array.ext'
            simp
          have hmt := fun w => run_method (P := P) hg (P.types.size + (Made.depth - 1)) u' w
          have hd : P.types.size + (Made.depth - 1) + 1 = P.types.size + Made.depth := rfl
          rw [hd] at hmt
          simp only [execOp, resolve, hrv, Sem.run_bind, Sem.run_pure, Result.andThen_ok, invoke, hx, hy, callMethod, run_program, hmt, hz]
      · cases h4
    · cases h4

/-- every operation, made ready, does what the model's operation does -/
theorem op_ok {co : Cod} {call : CallF} (hcall : CallOK P call) {o : Oper} {l : List AVal} {e : Env} {s s' : St} {v : AVal} (h : (comp co P call o.op).run l e s = .ok v s') :
    OpRes P o co l e s v s' (kdOf P o.op) := by
  cases ho : o.op with
  | call c =>
    rw [ho] at h
    exact callOf_ok hcall ho h
  | _ => rw [← ho]; exact comp_ok (fun c hc => by rw [ho] at hc; cases hc) h
end Go.Proofs.YtchkcnecgfolmaaGreatDoor.Ev
namespace Go.Proofs.YtchkcnecgfolmaaGreatDoor.Ev
open Go
set_option linter.unusedSectionVars false
set_option linter.unusedVariables false
set_option linter.unusedSimpArgs false
variable [Sig] {P : Program}

/-- temporaries: what is known of them -/
structure EnvR (K : Tmps) (r : Rho) (e : Env) (a : Act) : Prop where
  env : ∀ t v, e.get t = some v → K.keep t = true ∧ VR r v (a.tmps.getD t undef)
  size : K.n ≤ a.tmps.size
  defers : a.defers = []
def AlLt (n : Nat) : Al → Prop
  | .nil => True
  | .loc _ i l => i < n ∧ AlLt n l
  | .same _ _ l => AlLt n l
  | .const _ _ l => AlLt n l
theorem AlLt.mono {n m : Nat} (h : n ≤ m) : ∀ {al : Al}, AlLt n al → AlLt m al
  | .nil, _ => trivial
  | .loc _ _ al, h1 => ⟨Nat.lt_of_lt_of_le h1.1 h, AlLt.mono (al := al) h h1.2⟩
  | .same _ _ al, h1 => AlLt.mono (al := al) h (show AlLt n al from h1)
  | .const _ _ al, h1 => AlLt.mono (al := al) h (show AlLt n al from h1)
/-- what holds within a region -/
structure Inv (K : Tmps) (r : Rho) (s : St) (w : World) (l : List AVal) (e0 e : Env) (n : Nat) (al : Al) (a : Act) : Prop where
  rel : Rel r s w
  env : EnvR K r e a
  ali : ∀ t v, evalO l e0 (tmpOf n al t) = .ok v → VR r v (a.tmps.getD t undef)
  lts : AlLt n al
theorem Inv.start {K : Tmps} {r : Rho} {s : St} {w : World} {e : Env} {a : Act} (h : Rel r s w) (he : EnvR K r e a) : Inv K r s w [] e e 0 .nil a :=
  ⟨h, he, fun t v hv => (he.env t v (ofO_ok hv)).2, trivial⟩
theorem Inv.cx {K : Tmps} {r : Rho} {s : St} {w : World} {l : List AVal} {e0 e : Env} {n : Nat} {al : Al} {a : Act} (h : Inv K r s w l e0 e n al a) (o : Op) : Cx r l e0 (copd n al) a o := by
  intro x _ v hv
  cases x with
  | tmp t => exact h.ali t v hv
  | const u =>
    have hv : evalO l e0 (cval u) = .ok v := hv
    unfold cval at hv
    split at hv
    · rename_i b hb
      cases hv
      exact ofV_ok r u _ hb
    · cases hv
  | func f =>
    cases hv
    exact .func f .nil .nil
  | _ => cases hv

theorem nth_succ {l : List AVal} {v : AVal} {n i : Nat} (h : i < n) : nthV (n + 1 - 1 - i) (v :: l) = nthV (n - 1 - i) l := by
  have : n + 1 - 1 - i = (n - 1 - i) + 1 := by omega
  rw [this]
  rfl
theorem tmpOf_succ {l : List AVal} {e0 : Env} {v : AVal} {n : Nat} (t : Tmp) : ∀ {al : Al}, AlLt n al → evalO (v :: l) e0 (tmpOf (n + 1) al t) = evalO l e0 (tmpOf n al t)
  | .nil, _ => rfl
  | .loc u i al, h => by
    simp only [tmpOf]
    cases Nat.beq t u
    · exact tmpOf_succ t h.2
    · exact nth_succ h.1
  | .same u x al, h => by
    simp only [tmpOf]
    cases Nat.beq t u
    · exact tmpOf_succ t (al := al) h
    · rfl
  | .const u x al, h => by
    simp only [tmpOf]
    cases Nat.beq t u
    · exact tmpOf_succ t (al := al) h
    · show evalO (v :: l) e0 (cval x) = evalO l e0 (cval x)
      unfold cval
      split <;> rfl

theorem getD_put_same {a : Act} {d : Tmp} {u : Value} (h : d < a.tmps.size) : (a.put (some d) u).tmps.getD d undef = u := by
  simp [Act.put, h]
theorem getD_put_ne {a : Act} {d t : Tmp} {u : Value} (h : d ≠ t) : (a.put (some d) u).tmps.getD t undef = a.tmps.getD t undef := by
  simp [Act.put, Array.getElem?_setIfInBounds_ne h]
theorem put_size (a : Act) (d : Option Tmp) (u : Value) : (a.put d u).tmps.size = a.tmps.size := by
  cases d <;> simp [Act.put]
theorem put_defs (a : Act) (d : Option Tmp) (u : Value) : (a.put d u).defers = a.defers := by
  cases d <;> rfl

/-- a result goes to its place -/
theorem EnvR.put {K : Tmps} {r q : Rho} {e : Env} {a : Act} (h : EnvR K r e a) (hle : r.le q) {o : Oper} (hd : dstIn K o = true) {v : AVal} {u : Value} (hv : VR q v u) :
    EnvR K q (putE e v (dstOf K o)) (a.put o.dst u) := by
  refine ⟨fun t x hx => ?_, by rw [put_size]; exact h.size, by rw [put_defs]; exact h.defers⟩
  unfold dstIn at hd
  unfold dstOf at hx
  cases ho : o.dst with
  | none =>
    rw [ho] at hx
    have hx : e.get t = some x := hx
    obtain ⟨h1, h2⟩ := h.env t x hx
    exact ⟨h1, h2.mono hle⟩
  | some d =>
    rw [ho] at hx hd
    have hdn : d < a.tmps.size := Nat.lt_of_lt_of_le (blt_is hd) h.size
    simp only at hx
    cases hk : K.keep d
    · rw [hk] at hx
      have hx : e.get t = some x := hx
      obtain ⟨h1, h2⟩ := h.env t x hx
      have hne : d ≠ t := fun e => by subst e; rw [hk] at h1; cases h1
      exact ⟨h1, by rw [getD_put_ne hne]; exact h2.mono hle⟩
    · rw [hk] at hx
      have hx : (e.set d (some v)).get t = some x := hx
      rw [get_set] at hx
      by_cases hdt : d = t
      · subst hdt
        rw [if_pos rfl] at hx
        cases hx
        exact ⟨hk, by rw [getD_put_same hdn]; exact hv⟩
      · rw [if_neg hdt] at hx
        obtain ⟨h1, h2⟩ := h.env t x hx
        exact ⟨h1, by rw [getD_put_ne hdt]; exact h2.mono hle⟩

theorem Inv.step {K : Tmps} {r q : Rho} {s s1 : St} {w w1 : World} {l : List AVal} {e0 e : Env} {n : Nat} {al : Al} {a : Act} (h : Inv K r s w l e0 e n al a) {o : Oper} (hd : dstIn K o = true)
    {v : AVal} {u : Value} (hv : VR q v u) (hx : Ext r s w q s1 w1) : Inv K q s1 w1 (v :: l) e0 (putE e v (dstOf K o)) (n + 1) (alAfter n al o) (a.put o.dst u) := by
  refine ⟨hx.rel, h.env.put hx.le hd hv, fun t x ht => ?_, ?_⟩
  · unfold alAfter at ht
    unfold dstIn at hd
    cases ho : o.dst with
    | none =>
      rw [ho] at ht
      have ht : evalO (v :: l) e0 (tmpOf (n + 1) al t) = .ok x := ht
      rw [tmpOf_succ t h.lts] at ht
      exact (h.ali t x ht).mono hx.le
    | some d =>
      rw [ho] at ht hd
      have hdn : d < a.tmps.size := Nat.lt_of_lt_of_le (blt_is hd) h.env.size
      simp only [tmpOf] at ht
      cases hb : Nat.beq t d
      · rw [hb] at ht
        have ht : evalO (v :: l) e0 (tmpOf (n + 1) al t) = .ok x := ht
        rw [tmpOf_succ t h.lts] at ht
        rw [getD_put_ne (Ne.symm (beq_ne hb))]
        exact (h.ali t x ht).mono hx.le
      · rw [hb] at ht
        have := beq_is hb
        subst this
        have ht : nthV (n + 1 - 1 - n) (v :: l) = .ok x := ht
        rw [show n + 1 - 1 - n = 0 by omega] at ht
        cases ht
        rw [getD_put_same hdn]
        exact hv
  · unfold alAfter
    cases o.dst with
    | none => exact h.lts.mono (Nat.le_succ n)
    | some d => exact ⟨Nat.lt_succ_self n, h.lts.mono (Nat.le_succ n)⟩

/- moves that nobody need do -/
theorem mvTmp_ok (n : Nat) (d t : Tmp) : ∀ (al : Al), (∃ u, mvTmp al d t = .same d u ∧ tmpOf n al t = .tmp (bits u)) ∨ (∃ i, mvTmp al d t = .loc d i ∧ tmpOf n al t = .loc (n - 1 - i) ∧ (AlLt n al → i < n)) ∨
      (∃ v, mvTmp al d t = .const d v ∧ tmpOf n al t = cval v)
  | .nil => .inl ⟨t, rfl, rfl⟩
  | .loc u i al => by
    simp only [mvTmp, tmpOf]
    cases Nat.beq t u
    · rcases mvTmp_ok n d t al with h | ⟨j, h1, h2, h3⟩ | h
      · exact .inl h
      · exact .inr (.inl ⟨j, h1, h2, fun h => h3 h.2⟩)
      · exact .inr (.inr h)
    · exact .inr (.inl ⟨i, rfl, rfl, fun h => h.1⟩)
  | .same u x al => by
    simp only [mvTmp, tmpOf]
    cases Nat.beq t u
    · exact mvTmp_ok n d t al
    · exact .inl ⟨x, rfl, rfl⟩
  | .const u x al => by
    simp only [mvTmp, tmpOf]
    cases Nat.beq t u
    · exact mvTmp_ok n d t al
    · exact .inr (.inr ⟨x, rfl, rfl⟩)
theorem mvOf_ok {K : Tmps} {al : Al} {o : Oper} (h : mvOf K al o ≠ .no) : ∃ d, o.guard = none ∧ o.dst = some d ∧ K.keep d = false ∧ mvOf K al o = mvOp al d o.op := by
  unfold mvOf at h ⊢
  split at h
  · rename_i d hg hd
    cases hk : K.keep d
    · exact ⟨d, hg, hd, hk, rfl⟩
    · rw [hk] at h; exact absurd rfl h
  · exact absurd rfl h
theorem mvOp_ok {al : Al} {d : Tmp} {op : Op} (h : mvOp al d op ≠ .no) : (∃ v, op = .move (.const v) ∧ mvOp al d op = .const d v) ∨ (∃ t, op = .move (.tmp t) ∧ mvOp al d op = mvTmp al d t) := by
  unfold mvOp at h ⊢
  split at h
  · exact .inl ⟨_, rfl, rfl⟩
  · exact .inr ⟨_, rfl, rfl⟩
  · exact absurd rfl h
/-- behind a move: what the new place is known to be -/
theorem Inv.move {K : Tmps} {r : Rho} {s : St} {w : World} {l : List AVal} {e0 e : Env} {n : Nat} {al al' : Al} {a : Act} (h : Inv K r s w l e0 e n al a) {d : Tmp} (hk : K.keep d = false) (hd : Nat.blt d K.n = true)
    {u : Value} (h1 : ∀ t, t ≠ d → tmpOf n al' t = tmpOf n al t) (h2 : ∀ v, evalO l e0 (tmpOf n al' d) = .ok v → VR r v u) (h3 : AlLt n al') :
    Inv K r s w l e0 e n al' (a.put (some d) u) := by
  have hdn : d < a.tmps.size := Nat.lt_of_lt_of_le (blt_is hd) h.env.size
  refine ⟨h.rel, ⟨fun t v ht => ?_, by rw [put_size]; exact h.env.size, by rw [put_defs]; exact h.env.defers⟩, fun t v ht => ?_, h3⟩
  · obtain ⟨h4, h5⟩ := h.env.env t v ht
    have hne : d ≠ t := fun e => by subst e; rw [hk] at h4; cases h4
    exact ⟨h4, by rw [getD_put_ne hne]; exact h5⟩
  · by_cases hdt : t = d
    · subst hdt
      rw [getD_put_same hdn]
      exact h2 v ht
    · rw [h1 t hdt] at ht
      rw [getD_put_ne (Ne.symm hdt)]
      exact h.ali t v ht
end Go.Proofs.YtchkcnecgfolmaaGreatDoor.Ev
namespace Go.Proofs.YtchkcnecgfolmaaGreatDoor.Ev
open Go
set_option linter.unusedSectionVars false
set_option linter.unusedVariables false
set_option linter.unusedSimpArgs false
variable [Sig] {P : Program}

/- guards -/
theorem boolV_some {v : AVal} {b : Bool} (h : boolV v = some b) : v = .bool b := by
  unfold boolV at h
  split at h
  · cases h; rfl
  · cases h
theorem boolV_none {r : Rho} {v : AVal} {u : Value} (h : boolV v = none) (hv : VR r v u) (b : Bool) : u ≠ .bool b := by
  rintro rfl
  cases hv
  cases h
theorem beqB_eq (a b : Bool) : beqB a b = (a == b) := by cases a <;> cases b <;> rfl
theorem getD_get {a : Act} {t : Tmp} {b : Bool} (h : a.tmps.getD t undef = .bool b) : a.tmps[t]? = some (.bool b) := by
  rw [Array.getD_eq_getD_getElem?] at h
  cases hx : a.tmps[t]? with
  | none => rw [hx] at h; cases h
  | some u => rw [hx] at h; exact congrArg some h
theorem get_getD {a : Act} {t : Tmp} {u : Value} (h : a.tmps[t]? = some u) : a.tmps.getD t undef = u := by
  rw [Array.getD_eq_getD_getElem?, h]
  rfl
/-- is it wanted? -/
theorem wanted_ok {r : Rho} {l : List AVal} {e0 : Env} {co : Cod} {a : Act} {ops : Array Oper} {o : Oper} (hc : ∀ t ∈ guardTmp ops o, ∀ v, evalO l e0 (co (.tmp t)) = .ok v → VR r v (a.tmps.getD t undef)) :
    (wanted l e0 (guardOf co ops o) = .yes → Region.wanted o (yielded ops a.tmps) = true) ∧ (wanted l e0 (guardOf co ops o) = .no → Region.wanted o (yielded ops a.tmps) = false) := by
  cases hg : o.guard with
  | none =>
    have h1 : guardOf co ops o = none := by unfold guardOf; rw [hg]
    have h2 : Region.wanted o (yielded ops a.tmps) = true := by unfold Region.wanted; rw [hg]
    rw [h1, h2]
    exact ⟨fun _ => rfl, fun h => (by cases h)⟩
  | some jw =>
    obtain ⟨j, want⟩ := jw
    have h2 : Region.wanted o (yielded ops a.tmps) = (yielded ops a.tmps j == some want) := by unfold Region.wanted; rw [hg]
    rw [h2]
    cases ht : (ops[j]?).bind (·.dst) with
    | none =>
      have h1 : guardOf co ops o = some (.bad, want) := by unfold guardOf; rw [hg]; simp only [ht]
      rw [h1]
      exact ⟨fun h => (by cases h), fun h => (by cases h)⟩
    | some t =>
      have h1 : guardOf co ops o = some (co (.tmp t), want) := by unfold guardOf; rw [hg]; simp only [ht]
      rw [h1]
      show (wtV want (evalO l e0 (co (.tmp t))) = .yes → (yielded ops a.tmps j == some want) = true) ∧ (wtV want (evalO l e0 (co (.tmp t))) = .no → (yielded ops a.tmps j == some want) = false)
      cases hv : evalO l e0 (co (.tmp t)) with
      | bad => exact ⟨fun h => (by cases h), fun h => (by cases h)⟩
      | ok v =>
        have hvr := hc t (by unfold guardTmp; rw [hg]; simp only [ht]; exact List.mem_singleton.2 rfl) v hv
        have hy : yielded ops a.tmps j = boolV v := by
          unfold yielded
          rw [ht]
          cases hb : boolV v with
          | some b =>
            have := boolV_some hb
            subst this
            generalize hg2 : a.tmps.getD t undef = g at hvr
            cases hvr
            have := getD_get hg2
            simp [this]
          | none =>
            have hn := boolV_none hb hvr
            simp only [Option.bind_some]
            split
            · rename_i b hb'
              exact absurd (get_getD hb') (hn b)
            · rfl
        rw [hy]
        show (sel (isB want (boolV v)) Wt.yes Wt.no = .yes → _) ∧ (sel (isB want (boolV v)) Wt.yes Wt.no = .no → _)
        cases hb : boolV v with
        | none => exact ⟨fun h => (by cases h), fun _ => (by cases want <;> rfl)⟩
        | some b =>
          have : isB want (some b) = (b == want) := beqB_eq b want
          rw [this]
          cases b <;> cases want <;> exact ⟨fun h => (by first | rfl | cases h), fun h => (by first | rfl | cases h)⟩

theorem stepI_ok {go : List AVal → Env → St → Res} {l : List AVal} {e0 e e' : Env} {s s' : St} {x : Ex} {run : Cl} {d : Option (List Bool)} {g : Option (AOpd × Bool)} (h : stepI go l e0 e s (.mk run d g) = .ok x e' s') :
    ∃ v s1, ((wanted l e0 g = .yes ∧ run.run l e0 s = .ok v s1) ∨ (wanted l e0 g = .no ∧ v = aundef ∧ s1 = s)) ∧ go (v :: l) (putE e v d) s1 = .ok x e' s' := by
  have h : @Wt.rec (fun _ => Res) (@R.rec (fun _ => Res) (fun v s => go (v :: l) (putE e v d) s) .bad (run.run l e0 s)) (go (aundef :: l) (putE e aundef d) s) .bad (wanted l e0 g) = .ok x e' s' := h
  cases hw : wanted l e0 g with
  | yes =>
    rw [hw] at h
    cases hr : run.run l e0 s with
    | bad => rw [hr] at h; cases h
    | ok v s1 => rw [hr] at h; exact ⟨v, s1, .inl ⟨rfl, rfl⟩, h⟩
  | no => rw [hw] at h; exact ⟨aundef, s, .inr ⟨rfl, rfl, rfl⟩, h⟩
  | bad => rw [hw] at h; cases h

theorem wpOps_one {ops : Array Oper} {Q : Exit → Act → World → Prop} {i : Nat} {rest : List Nat} {o : Oper} {a : Act} {w : World} (ho : ops[i]? = some o)
    (h1 : Region.wanted o (yielded ops a.tmps) = true → o.wp P a w (wpOps P ops Q rest) Q) (h2 : Region.wanted o (yielded ops a.tmps) = false → wpOps P ops Q rest (a.put o.dst undef) w) :
    wpOps P ops Q (i :: rest) a w := by
  simp only [wpOps, ho]
  split
  · rename_i h; exact .inl (h1 h)
  · rename_i h; exact h2 (by simpa using h)

theorem beqt {t : Nat} : Nat.beq t t = true := Nat.beq_refl t
theorem beqf {t d : Nat} (h : t ≠ d) : Nat.beq t d = false := by
  cases hb : Nat.beq t d
  · rfl
  · exact absurd (beq_is hb) h
/-- what is known of a move that is not done -/
structure MvF (K : Tmps) (n : Nat) (al : Al) (o : Oper) (d : Tmp) (al' : Al) : Prop where
  guard : o.guard = none
  dst : o.dst = some d
  keep : K.keep d = false
  op : ∃ x, o.op = .move x ∧ tmpOf n al' d = copd n al x
  other : ∀ t, t ≠ d → tmpOf n al' t = tmpOf n al t
  lts : AlLt n al → AlLt n al'
theorem mv_const {K : Tmps} {al : Al} {o : Oper} {d : Tmp} {v : Value} (n : Nat) (h : mvOf K al o = .const d v) : MvF K n al o d (.const d v al) := by
  obtain ⟨d', hg, hd, hk, hm⟩ := mvOf_ok (K := K) (al := al) (o := o) (by rw [h]; intro e; cases e)
  rw [hm] at h
  have oth : ∀ t, t ≠ d → tmpOf n (.const d v al) t = tmpOf n al t := fun t ht => by
    simp only [tmpOf, beqf ht]
    rfl
  rcases mvOp_ok (al := al) (d := d') (op := o.op) (by rw [h]; intro e; cases e) with ⟨u, hop, h1⟩ | ⟨t, hop, h1⟩
  · rw [h1] at h
    cases h
    refine ⟨hg, hd, hk, ⟨_, hop, ?_⟩, oth, fun h => h⟩
    simp only [tmpOf, beqt]
    rfl
  · rw [h1] at h
    rcases mvTmp_ok n d' t al with ⟨u, h2, h3⟩ | ⟨j, h2, h3, h4⟩ | ⟨u, h2, h3⟩
    · rw [h2] at h; cases h
    · rw [h2] at h; cases h
    · rw [h2] at h
      cases h
      refine ⟨hg, hd, hk, ⟨_, hop, ?_⟩, oth, fun h => h⟩
      simp only [tmpOf, beqt]
      exact h3.symm
theorem mv_same {K : Tmps} {al : Al} {o : Oper} {d u : Tmp} (n : Nat) (h : mvOf K al o = .same d u) : MvF K n al o d (.same d u al) := by
  obtain ⟨d', hg, hd, hk, hm⟩ := mvOf_ok (K := K) (al := al) (o := o) (by rw [h]; intro e; cases e)
  rw [hm] at h
  have oth : ∀ t, t ≠ d → tmpOf n (.same d u al) t = tmpOf n al t := fun t ht => by
    simp only [tmpOf, beqf ht]
    rfl
  rcases mvOp_ok (al := al) (d := d') (op := o.op) (by rw [h]; intro e; cases e) with ⟨u, hop, h1⟩ | ⟨t, hop, h1⟩
  · rw [h1] at h
    cases h
  · rw [h1] at h
    rcases mvTmp_ok n d' t al with ⟨u, h2, h3⟩ | ⟨j, h2, h3, h4⟩ | ⟨u, h2, h3⟩
    · rw [h2] at h
      cases h
      refine ⟨hg, hd, hk, ⟨_, hop, ?_⟩, oth, fun h => h⟩
      simp only [tmpOf, beqt]
      exact h3.symm
    · rw [h2] at h; cases h
    · rw [h2] at h; cases h
theorem mv_loc {K : Tmps} {al : Al} {o : Oper} {d : Tmp} {i : Nat} (n : Nat) (h : mvOf K al o = .loc d i) (hl : AlLt n al) : MvF K n al o d (.loc d i al) := by
  obtain ⟨d', hg, hd, hk, hm⟩ := mvOf_ok (K := K) (al := al) (o := o) (by rw [h]; intro e; cases e)
  rw [hm] at h
  have oth : ∀ t, t ≠ d → tmpOf n (.loc d i al) t = tmpOf n al t := fun t ht => by
    simp only [tmpOf, beqf ht]
    rfl
  rcases mvOp_ok (al := al) (d := d') (op := o.op) (by rw [h]; intro e; cases e) with ⟨u, hop, h1⟩ | ⟨t, hop, h1⟩
  · rw [h1] at h
    cases h
  · rw [h1] at h
    rcases mvTmp_ok n d' t al with ⟨u, h2, h3⟩ | ⟨j, h2, h3, h4⟩ | ⟨u, h2, h3⟩
    · rw [h2] at h; cases h
    · rw [h2] at h
      cases h
      refine ⟨hg, hd, hk, ⟨_, hop, ?_⟩, oth, fun h => ⟨h4 h, h⟩⟩
      simp only [tmpOf, beqt]
      exact h3.symm
    · rw [h2] at h; cases h

theorem insts_ok {call : CallF} (hcall : CallOK P call) {K : Tmps} {ops : Array Oper} {e0 : Env} {Q : Exit → Act → World → Prop} : ∀ (rest : List Oper) (i : Nat), ops.toList.drop i = rest →
    ∀ (n : Nat) (al : Al) (l : List AVal) (e e' : Env) (s s' : St) (x : Ex) (a : Act) (w : World) (r : Rho), Inv K r s w l e0 e n al a →
    runInss e0 (inssOf P call K ops rest n al) l e s = .ok x e' s' →
    (∀ q a' w', Ext r s w q s' w' → EnvR K q e' a' → x = .normal → Q .normal a' w') → wpOps P ops Q (List.range' i rest.length) a w
  | [], i, _, n, al, l, e, e', s, s', x, a, w, r, inv, h, hQ => by
    cases h
    exact hQ r a w (Ext.refl inv.rel) inv.env rfl
  | o :: rest, i, hd, n, al, l, e, e', s, s', x, a, w, r, inv, h, hQ => by
    have ho : ops[i]? = some o := by
      rw [← Array.getElem?_toList, ← List.head?_drop, hd]
      rfl
    have hd' : ops.toList.drop (i + 1) = rest := by rw [← List.drop_drop, hd]; rfl
    rw [List.length_cons, List.range'_succ]
    have movd : ∀ (d : Tmp) (al' : Al), MvF K n al o d al' → runInss e0 (sel (dstIn K o) (inssOf P call K ops rest n al') (.cons badI .nil)) l e s = .ok x e' s' →
        wpOps P ops Q (i :: List.range' (i + 1) rest.length) a w := by
      intro d al' hf hrun
      cases hdi : dstIn K o
      · rw [hdi] at hrun; cases hrun
      · rw [hdi] at hrun
        have hdn : Nat.blt d K.n = true := by
          unfold dstIn at hdi
          rw [hf.dst] at hdi
          exact hdi
        obtain ⟨y, hop, hty⟩ := hf.op
        have hcx := inv.cx o.op y (by rw [hop]; simp [Op.operands])
        have inv' := inv.move (al' := al') (u := a.eval y) hf.keep hdn hf.other (fun v hv => hcx v (by rw [← hty]; exact hv)) (hf.lts inv.lts)
        have ih := insts_ok hcall (Q := Q) rest (i + 1) hd' n al' l e e' s s' x _ w r inv' hrun hQ
        refine wpOps_one ho (fun _ => ?_) fun hw => ?_
        · unfold Oper.wp execOp
          rw [hop]
          show wpOps P ops Q _ (a.put o.dst (a.eval y)) w
          rw [hf.dst]
          exact ih
        · unfold Region.wanted at hw
          rw [hf.guard] at hw
          cases hw
    unfold inssOf at h
    split at h
    · rename_i hmv
      unfold insOf at h
      cases hdi : dstIn K o
      · rw [hdi] at h; cases h
      · rw [hdi] at h
        obtain ⟨v, s1, h1, h2⟩ := stepI_ok h
        have hwt := wanted_ok (co := copd n al) (ops := ops) (o := o) fun t _ => inv.ali t
        rcases h1 with ⟨h3, h4⟩ | ⟨h3, rfl, rfl⟩
        · refine wpOps_one ho (fun _ => ?_) fun hw => ?_
          · refine (op_ok hcall h4).ok inv.rel (inv.cx _) _ _ fun q u w1 hx hv => ?_
            exact insts_ok hcall rest (i + 1) hd' (n + 1) _ _ _ e' s1 s' x _ w1 q (inv.step hdi hv hx) h2 fun q' a' w' hx' => hQ q' a' w' (hx.trans hx')
          · rw [hwt.1 h3] at hw
            cases hw
        · refine wpOps_one ho (fun hw => ?_) fun _ => ?_
          · rw [hwt.2 h3] at hw
            cases hw
          · exact insts_ok hcall rest (i + 1) hd' (n + 1) _ _ _ e' s1 s' x _ w r (inv.step hdi (.tuple .nil) (Ext.refl inv.rel)) h2 hQ
    · rename_i d y hmv
      exact movd d _ (mv_const n hmv) h
    · rename_i d y hmv
      exact movd d _ (mv_same n hmv) h
    · rename_i d y hmv
      exact movd d _ (mv_loc n hmv inv.lts) h

/-- a region in the text's order -/
theorem region_ok {call : CallF} (hcall : CallOK P call) {K : Tmps} {ops : Array Oper} {id : Nat} {e e' : Env} {s s' : St} {x : Ex} {a : Act} {w : World} {r : Rho} (hr : Rel r s w) (he : EnvR K r e a)
    (h : runReg (inssOf P call K ops ops.toList 0 .nil) e s = .ok x e' s') {Q : Exit → Act → World → Prop} (hQ : ∀ q a' w', Ext r s w q s' w' → EnvR K q e' a' → x = .normal → Q .normal a' w') :
    (Code.region id ops false).wp P Q a w := by
  refine wp_region ?_
  have := insts_ok hcall (Q := Q) ops.toList 0 rfl 0 .nil [] e e' s s' x a w r (Inv.start hr he) h hQ
  rw [List.range_eq_range', ← Array.length_toList]
  exact this
end Go.Proofs.YtchkcnecgfolmaaGreatDoor.Ev
namespace Go.Proofs.YtchkcnecgfolmaaGreatDoor.Ev
open Go
set_option linter.unusedSectionVars false
set_option linter.unusedVariables false
set_option linter.unusedSimpArgs false
variable [Sig] {P : Program}

def exOf : Ex → Exit
  | .normal => .normal
  | .exit i => .exit i
  | .goto l => .goto l
  | .ret => .ret
/-- code made ready does what the code does -/
def CodeOK (P : Program) (K : Tmps) (c : Code) (f : Env → St → Res) : Prop :=
  ∀ (e : Env) (s : St) (x : Ex) (e' : Env) (s' : St), f e s = .ok x e' s' → ∀ (r : Rho) (w : World) (a : Act) (Q : Exit → Act → World → Prop), Rel r s w → EnvR K r e a →
    (∀ q a' w', Ext r s w q s' w' → EnvR K q e' a' → Q (exOf x) a' w') → c.wp P Q a w
/-- a result behind which more is done -/
def ResOK (P : Program) (K : Tmps) (R : Exit → Act → World → Prop) (r : Rho) (s : St) (w : World) (y : Res) : Prop :=
  ∀ (x : Ex) (e' : Env) (s' : St), y = .ok x e' s' → ∀ q a' w', Ext r s w q s' w' → EnvR K q e' a' → R (exOf x) a' w'
theorem CodeOK.run {K : Tmps} {c : Code} {f : Env → St → Res} (h : CodeOK P K c f) {e : Env} {s : St} {r : Rho} {w : World} {a : Act} {Q : Exit → Act → World → Prop} (hr : Rel r s w) (he : EnvR K r e a)
    (hb : f e s ≠ .bad) (hQ : ResOK P K Q r s w (f e s)) : c.wp P Q a w := by
  cases hf : f e s with
  | bad => exact absurd hf hb
  | ok x e1 s1 => exact h e s x e1 s1 hf r w a Q hr he fun q a' w' hx he' => hQ x e1 s1 hf q a' w' hx he'

theorem thenR_ok {k : Env → St → Res} {y : Res} {x : Ex} {e' : Env} {s' : St} (h : thenR k y = .ok x e' s') : ∃ x1 e1 s1, y = .ok x1 e1 s1 ∧ ((x1 = .normal ∧ k e1 s1 = .ok x e' s') ∨ (x1 ≠ .normal ∧ x = x1 ∧ e' = e1 ∧ s' = s1)) := by
  cases y with
  | bad => cases h
  | ok x1 e1 s1 =>
    refine ⟨x1, e1, s1, rfl, ?_⟩
    cases x1 with
    | normal => exact .inl ⟨rfl, h⟩
    | exit i => cases h; exact .inr ⟨fun e => (by cases e), rfl, rfl, rfl⟩
    | goto l => cases h; exact .inr ⟨fun e => (by cases e), rfl, rfl, rfl⟩
    | ret => cases h; exact .inr ⟨fun e => (by cases e), rfl, rfl, rfl⟩

theorem seq_ok {K : Tmps} {c d : Code} {f g : Env → St → Res} (hf : CodeOK P K c f) (hg : CodeOK P K d g) : CodeOK P K (.seq c d) (fun e s => thenR g (f e s)) := by
  intro e s x e' s' h r w a Q hr he hQ
  obtain ⟨x1, e1, s1, h1, h2⟩ := thenR_ok h
  refine wp_seq (hf e s x1 e1 s1 h1 r w a _ hr he fun q a1 w1 hx he1 => ?_)
  rcases h2 with ⟨rfl, h2⟩ | ⟨hn, rfl, rfl, rfl⟩
  · exact hg e1 s1 x e' s' h2 q w1 a1 Q hx.rel he1 fun q' a' w' hx' he' => hQ q' a' w' (hx.trans hx') he'
  · have := hQ q a1 w1 hx he1
    cases x with
    | normal => exact absurd rfl hn
    | exit i => exact this
    | goto l => exact this
    | ret => exact this
theorem blockR_ok {i : Nat} {y : Res} {x : Ex} {e' : Env} {s' : St} (h : blockR i y = .ok x e' s') : ∃ x1, y = .ok x1 e' s' ∧ ((x1 = .exit i ∧ x = .normal) ∨ (x1 ≠ .exit i ∧ x = x1)) := by
  cases y with
  | bad => cases h
  | ok x1 e1 s1 =>
    cases x1 with
    | normal => cases h; exact ⟨_, rfl, .inr ⟨fun e => (by cases e), rfl⟩⟩
    | exit j =>
      have h : sel (Nat.beq i j) (Res.ok .normal e1 s1) (.ok (.exit j) e1 s1) = .ok x e' s' := h
      cases hb : Nat.beq i j
      · rw [hb] at h
        cases h
        exact ⟨_, rfl, .inr ⟨fun e => (by cases e; exact beq_ne hb rfl), rfl⟩⟩
      · rw [hb] at h
        cases h
        have := beq_is hb
        subst this
        exact ⟨_, rfl, .inl ⟨rfl, rfl⟩⟩
    | goto l => cases h; exact ⟨_, rfl, .inr ⟨fun e => (by cases e), rfl⟩⟩
    | ret => cases h; exact ⟨_, rfl, .inr ⟨fun e => (by cases e), rfl⟩⟩
theorem block_ok {K : Tmps} {i : Nat} {c : Code} {f : Env → St → Res} (hf : CodeOK P K c f) : CodeOK P K (.block i c) (fun e s => blockR i (f e s)) := by
  intro e s x e' s' h r w a Q hr he hQ
  obtain ⟨x1, h1, h2⟩ := blockR_ok h
  refine wp_block (hf e s x1 e' s' h1 r w a _ hr he fun q a1 w1 hx he1 => ?_)
  have := hQ q a1 w1 hx he1
  rcases h2 with ⟨rfl, rfl⟩ | ⟨hn, rfl⟩
  · show (if i = i then Q .normal a1 w1 else Q (.exit i) a1 w1)
    rw [if_pos rfl]
    exact this
  · cases x with
    | normal => exact this
    | exit j =>
      show (if j = i then Q .normal a1 w1 else Q (.exit j) a1 w1)
      rw [if_neg fun e => hn (by rw [e])]
      exact this
    | goto l => exact this
    | ret => exact this
theorem cond_ok {K : Tmps} {x : Operand} {c d : Code} {f g : Env → St → Res} (hf : CodeOK P K c f) (hg : CodeOK P K d g) : CodeOK P K (.cond x c d) (fun e s => condR f g e s (evalO [] e (copd 0 .nil x))) := by
  intro e s y e' s' h r w a Q hr he hQ
  have h : condR f g e s (evalO [] e (copd 0 .nil x)) = .ok y e' s' := h
  cases hv : evalO [] e (copd 0 .nil x) with
  | bad => rw [hv] at h; cases h
  | ok v =>
    rw [hv] at h
    have h : condO f g e s (boolV v) = .ok y e' s' := h
    have hc := (Inv.start hr he).cx (.move x) x (by simp [Op.operands]) v hv
    cases hb : boolV v with
    | none => rw [hb] at h; cases h
    | some b =>
      have := boolV_some hb
      subst this
      generalize hg2 : a.eval x = u at hc
      cases hc
      rw [hb] at h
      cases b
      · exact wp_cond_false hg2 (hg e s y e' s' h r w a Q hr he hQ)
      · exact wp_cond_true hg2 (hf e s y e' s' h r w a Q hr he hQ)
end Go.Proofs.YtchkcnecgfolmaaGreatDoor.Ev
namespace Go.Proofs.YtchkcnecgfolmaaGreatDoor.Ev
open Go
set_option linter.unusedSectionVars false
set_option linter.unusedVariables false
set_option linter.unusedSimpArgs false
variable [Sig] {P : Program}

theorem loop_ok {K : Tmps} {c : Code} {f : Env → St → Res} (hf : CodeOK P K c f) (n : Nat) : CodeOK P K (.loop c) (loopN f n) := by
  intro e s x e' s' h r w a Q hr he hQ
  refine wp_loop_rounds n ?_
  induction n generalizing e s r w a with
  | zero => cases h
  | succ n ih =>
    have h : thenR (loopN f n) (f e s) = .ok x e' s' := h
    obtain ⟨x1, e1, s1, h1, h2⟩ := thenR_ok h
    rw [rounds_succ]
    refine hf e s x1 e1 s1 h1 r w a _ hr he fun q a1 w1 hx he1 => ?_
    rcases h2 with ⟨rfl, h2⟩ | ⟨hn, rfl, rfl, rfl⟩
    · exact ih e1 s1 h2 q w1 a1 hx.rel he1 fun q' a' w' hx' he' => hQ q' a' w' (hx.trans hx') he'
    · have := hQ q a1 w1 hx he1
      cases x with
      | normal => exact absurd rfl hn
      | exit i => exact this
      | goto l => exact this
      | ret => exact this

/-- on the way through a scope -/
def InScope (P : Program) (body c : Code) (Q : Exit → Act → World → Prop) (a : Act) (w : World) : Prop :=
  ∀ (b : Frame) (k : List Item) (cs : List Frame), ∃ e a' w', Q e a' w' ∧ Arrives P (lone (b.at a (.code c :: .inScope body :: k)) cs w) b k cs e a' w'
/-- what a jump leads to -/
def scopeNext (P : Program) (body : Code) (Q : Exit → Act → World → Prop) : Exit → Act → World → Prop
  | .goto l, a, w => match findLabel body l with
    | some rest => InScope P body rest Q a w
    | none => Q (.goto l) a w
  | e, a, w => Q e a w
theorem inScope_step {body c : Code} {Q : Exit → Act → World → Prop} {a : Act} {w : World} (h : c.wp P (scopeNext P body Q) a w) : InScope P body c Q a w := by
  intro b k cs
  obtain ⟨e, a₁, w₁, hq, harr⟩ := h b (.inScope body :: k) cs
  cases e with
  | normal => exact ⟨.normal, a₁, w₁, hq, Steps.trans harr (.one step_inScope)⟩
  | exit id => exact ⟨.exit id, a₁, w₁, hq, fun k' hk => harr k' (by simp [exitTo, hk])⟩
  | goto l =>
    cases hl : findLabel body l with
    | some rest =>
      simp only [scopeNext, hl] at hq
      obtain ⟨e₂, a₂, w₂, hq₂, harr₂⟩ := hq b k cs
      exact ⟨e₂, a₂, w₂, hq₂, .of_steps (harr (.code rest :: .inScope body :: k) (by simp [gotoIn, hl])) harr₂⟩
    | none =>
      simp only [scopeNext, hl] at hq
      exact ⟨.goto l, a₁, w₁, hq, fun k' hk => harr k' (by simp [gotoIn, hl, hk])⟩
  | ret => exact ⟨.ret, a₁, w₁, hq, harr⟩
  | panic ch => exact ⟨.panic ch, a₁, w₁, hq, harr⟩
  | outgrown => exact ⟨.outgrown, a₁, w₁, hq, harr⟩
theorem wp_scope_in {body : Code} {Q : Exit → Act → World → Prop} {a : Act} {w : World} (h : InScope P body body Q a w) : (Code.scope body).wp P Q a w := by
  intro b k cs
  obtain ⟨e, a', w', hq, harr⟩ := h b k cs
  exact ⟨e, a', w', hq, .of_steps (.one step_scope) harr⟩

theorem scopeGo_ok {K : Tmps} {body : Code} {ex : CC → Env → St → Res} {rest : Nat → Option CC}
    (hrest : ∀ l, match findLabel body l with
      | some c => ∃ cc, rest l = some cc ∧ CodeOK P K c (ex cc)
      | none => rest l = none) :
    ∀ (n : Nat) (c : Code) (f : Env → St → Res), CodeOK P K c f → ∀ (e : Env) (s : St) (x : Ex) (e' : Env) (s' : St), scopeN ex rest n (f e s) = .ok x e' s' →
      ∀ (r : Rho) (w : World) (a : Act) (Q : Exit → Act → World → Prop), Rel r s w → EnvR K r e a → (∀ q a' w', Ext r s w q s' w' → EnvR K q e' a' → Q (exOf x) a' w') → InScope P body c Q a w
  | 0, c, f, hf, e, s, x, e', s', h, r, w, a, Q, hr, he, hQ => by cases h
  | n + 1, c, f, hf, e, s, x, e', s', h, r, w, a, Q, hr, he, hQ => by
    have h : scopeGo ex rest (scopeN ex rest n) (f e s) = .ok x e' s' := h
    refine inScope_step ?_
    cases hy : f e s with
    | bad => rw [hy] at h; cases h
    | ok x1 e1 s1 =>
      rw [hy] at h
      refine hf e s x1 e1 s1 hy r w a _ hr he fun q a1 w1 hx he1 => ?_
      cases x1 with
      | normal => cases h; exact hQ q a1 w1 hx he1
      | exit i => cases h; exact hQ q a1 w1 hx he1
      | ret => cases h; exact hQ q a1 w1 hx he1
      | goto l =>
        have h : jumpTo ex (scopeN ex rest n) l e1 s1 (rest l) = .ok x e' s' := h
        have hl := hrest l
        cases hfl : findLabel body l with
        | none =>
          rw [hfl] at hl
          have hl : rest l = none := hl
          rw [hl] at h
          cases h
          show (match findLabel body l with | some rest => InScope P body rest Q a1 w1 | none => Q (.goto l) a1 w1)
          rw [hfl]
          exact hQ q a1 w1 hx he1
        | some c1 =>
          rw [hfl] at hl
          obtain ⟨cc1, hl, hc1⟩ := hl
          rw [hl] at h
          show (match findLabel body l with | some rest => InScope P body rest Q a1 w1 | none => Q (.goto l) a1 w1)
          rw [hfl]
          exact scopeGo_ok hrest n c1 (ex cc1) hc1 e1 s1 x e' s' h q w1 a1 Q hx.rel he1 fun q' a' w' hx' he' => hQ q' a' w' (hx.trans hx') he'

/-- what holds of each region of a code -/
def Regs (T : Nat → Array Oper → Bool → Prop) : Code → Prop
  | .region id ops d => T id ops d
  | .seq a b => Regs T a ∧ Regs T b
  | .cond _ a b => Regs T a ∧ Regs T b
  | .block _ b => Regs T b
  | .loop b => Regs T b
  | .scope b => Regs T b
  | _ => True
theorem Regs.label {T : Nat → Array Oper → Bool → Prop} {l : Nat} : ∀ {c rest : Code}, Regs T c → findLabel c l = some rest → Regs T rest
  | .seq a b, rest, h, hf => by
    simp only [findLabel] at hf
    split at hf
    · rename_i ra hra
      cases hf
      exact ⟨Regs.label h.1 hra, h.2⟩
    · exact Regs.label h.2 hf
  | .label l', rest, h, hf => by
    simp only [findLabel] at hf
    split at hf
    · cases hf; trivial
    · cases hf
  | .skip, _, _, hf => by cases hf
  | .region _ _ _, _, _, hf => by cases hf
  | .cond _ _ _, _, _, hf => by cases hf
  | .block _ _, _, _, hf => by cases hf
  | .loop _, _, _, hf => by cases hf
  | .rangeFunc _ _ _ _, _, _, hf => by cases hf
  | .exit _, _, _, hf => by cases hf
  | .scope _, _, _, hf => by cases hf
  | .goto _, _, _, hf => by cases hf
  | .ret, _, _, hf => by cases hf
  | .refuse _, _, _, hf => by cases hf
theorem Regs.all {T : Nat → Array Oper → Bool → Prop} (h : ∀ id ops d, T id ops d) : ∀ c, Regs T c
  | .region id ops d => h id ops d
  | .seq a b => ⟨Regs.all h a, Regs.all h b⟩
  | .cond _ a b => ⟨Regs.all h a, Regs.all h b⟩
  | .block _ b => Regs.all h b
  | .loop b => Regs.all h b
  | .scope b => Regs.all h b
  | .skip => trivial
  | .label _ => trivial
  | .rangeFunc _ _ _ _ => trivial
  | .exit _ => trivial
  | .goto _ => trivial
  | .ret => trivial
  | .refuse _ => trivial

/-- regions that draw their order -/
def DrawOK (P : Program) (call : CallF) (K : Tmps) : Prop := ∀ id ops, CodeOK P K (.region id ops true) (regD P call K ops (disOf P ops ops.toList (bfsOf ops.toList []))).run
def KnOK (P : Program) (K : Tmps) (kn : Known) (id : Nat) (ops : Array Oper) (d : Bool) : Prop := ∀ g, kn id = some g → CodeOK P K (.region id ops d) g.run

theorem exec_ok {call : CallF} (hcall : CallOK P call) {K : Tmps} (hdraw : DrawOK P call K) {kn : Known} {fuel : Nat} : ∀ (n : Nat) (c : Code), Regs (KnOK P K kn) c →
    CodeOK P K c (execN P call K kn fuel n (cc P call K kn c))
  | 0, c, _ => fun e s x e' s' h => by cases h
  | n + 1, c, hreg => by
    induction c with
    | skip => intro e s x e' s' h r w a Q hr he hQ; cases h; exact wp_skip (hQ r a w (Ext.refl hr) he)
    | label l => intro e s x e' s' h r w a Q hr he hQ; cases h; exact wp_label (hQ r a w (Ext.refl hr) he)
    | exit i => intro e s x e' s' h r w a Q hr he hQ; cases h; exact wp_exit (hQ r a w (Ext.refl hr) he)
    | goto l => intro e s x e' s' h r w a Q hr he hQ; cases h; exact wp_goto (hQ r a w (Ext.refl hr) he)
    | ret => intro e s x e' s' h r w a Q hr he hQ; cases h; exact wp_ret (hQ r a w (Ext.refl hr) he)
    | rangeFunc f p a b => intro e s x e' s' h; cases h
    | refuse y => intro e s x e' s' h; cases h
    | region id ops d =>
      have hk : KnOK P K kn id ops d := hreg
      have hc : cc P call K kn (.region id ops d) = regOf P call K ops d (kn id) := rfl
      rw [hc]
      cases hg : kn id with
      | some g => exact hk g hg
      | none =>
        cases d
        · intro e s x e' s' h r w a Q hr he hQ
          refine region_ok hcall hr he (h : runReg (inssOf P call K ops ops.toList 0 .nil) e s = .ok x e' s') fun q a' w' hx he' hn => ?_
          subst hn
          exact hQ q a' w' hx he'
        · exact hdraw id ops
    | seq a b iha ihb => exact seq_ok (iha hreg.1) (ihb hreg.2)
    | cond x a b iha ihb => exact cond_ok (iha hreg.1) (ihb hreg.2)
    | block i b ih => exact block_ok (ih hreg)
    | loop b ih => exact loop_ok (ih hreg) fuel
    | scope b ih =>
      intro e s x e' s' h r w a Q hr he hQ
      refine wp_scope_in (scopeGo_ok (ex := execN P call K kn fuel n) (rest := restOf P call K kn b) (fun l => ?_) fuel b _ (ih hreg) e s x e' s' h r w a Q hr he hQ)
      unfold restOf
      cases hl : findLabel b l with
      | none => rfl
      | some c => exact ⟨_, rfl, exec_ok hcall hdraw n c (Regs.label (c := b) (show Regs _ b from hreg) hl)⟩
end Go.Proofs.YtchkcnecgfolmaaGreatDoor.Ev
namespace Go.Proofs.YtchkcnecgfolmaaGreatDoor.Ev
open Go
set_option linter.unusedSectionVars false
set_option linter.unusedVariables false
set_option linter.unusedSimpArgs false
variable [Sig] {P : Program}

/- ways in -/
theorem enterE_get {K : Tmps} {t : Tmp} {v : AVal} : ∀ (l : List AVal) (i : Nat) (e : Env), (enterE K i e l).get t = some v → (K.keep t = true ∧ i ≤ t ∧ l[t - i]? = some v) ∨ e.get t = some v
  | [], i, e, h => .inr h
  | x :: l, i, e, h => by
    rcases enterE_get l (i + 1) _ h with ⟨h1, h2, h3⟩ | h1
    · refine .inl ⟨h1, Nat.le_of_succ_le h2, ?_⟩
      have : t - i = (t - (i + 1)) + 1 := by rw [Nat.sub_add_eq, Nat.sub_add_cancel (Nat.sub_pos_of_lt h2)]
      rw [this]
      exact h3
    · cases hk : K.keep i
      · rw [hk] at h1; exact .inr h1
      · rw [hk] at h1
        have h1 : (e.set i (some x)).get t = some v := h1
        rw [get_set] at h1
        by_cases hi : i = t
        · subst hi
          rw [if_pos rfl] at h1
          cases h1
          exact .inl ⟨hk, Nat.le_refl _, by simp⟩
        · rw [if_neg hi] at h1
          exact .inr h1
theorem enter_ok {fn : Func} {keep : Keep} {r : Rho} {args : List AVal} {us : List Value} (h : VRs r args us) :
    EnvR ⟨fn.ntmps, keep⟩ r (enterE ⟨fn.ntmps, keep⟩ 0 .lf args) { tmps := ⟨us⟩ ++ Array.replicate (fn.ntmps - (⟨us⟩ : Array Value).size) undef, defers := [] } := by
  refine ⟨fun t v hv => ?_, by simp; omega, rfl⟩
  rcases enterE_get args 0 .lf hv with ⟨h1, _, h2⟩ | h1
  · refine ⟨h1, ?_⟩
    obtain ⟨u, h3, h4⟩ := h.get h2
    have ht : t < us.length := (List.getElem?_eq_some_iff.1 h3).1
    have : (⟨us⟩ ++ Array.replicate (fn.ntmps - (⟨us⟩ : Array Value).size) undef : Array Value)[t]? = some u := by
      rw [Array.getElem?_append_left (by simpa using ht)]
      simpa using h3
    rw [Array.getD_eq_getD_getElem?, this]
    exact h4
  · rw [get_lf] at h1; cases h1

/- ways out -/
def resSem (a : Act) : ResultVar → Sem Value
  | .tmp t => pure (a.tmps.getD t undef)
  | .cell c t => do loadVar t (← asAddr (a.tmps.getD c undef))
theorem results_eq (fn : Func) (a : Act) : results fn a.tmps = (do let vs ← fn.results.mapM (resSem a); pure (if h : vs.size = 1 then vs[0] else .tuple vs)) := by
  have key : ∀ f : ResultVar → Sem Value, (∀ x, f x = resSem a x) → (do let vs ← fn.results.mapM f; pure (if h : vs.size = 1 then vs[0] else .tuple vs) : Sem Value) =
      (do let vs ← fn.results.mapM (resSem a); pure (if h : vs.size = 1 then vs[0] else .tuple vs)) := fun f hf => by rw [funext hf]
  unfold results
  exact key _ fun x => by cases x <;> rfl
theorem resOne_ok {K : Tmps} {r : Rho} {s : St} {w : World} {e : Env} {a : Act} (hr : Rel r s w) (he : EnvR K r e a) {x : ResultVar} {v : AVal} (h : resOne e s (rvOf P x) = .ok v) :
    Gives P r w (resSem a x) v := by
  cases x with
  | tmp t => exact ⟨_, rfl, (he.env t v (ofO_ok h)).2⟩
  | cell c t =>
    have h : cellV s (wholeT P t) (e.get c) = .ok v := h
    unfold cellV at h
    split at h
    · rename_i p hp
      have hv := (he.env c p hp).2
      obtain ⟨u, h1, h2⟩ := loadV_ok (t := t) hr.toRelB h hv
      refine ⟨u, ?_, h2⟩
      unfold loadV at h
      split at h
      · generalize hg : a.tmps.getD c undef = g at hv h1
        cases hv
        simp only [Instr.loadAt, Instr.sureAddr, Sem.run_bind, Sem.run_pure, Result.andThen_ok] at h1
        simp only [resSem, hg, asAddr, Sem.run_bind, Sem.run_pure, Result.andThen_ok, h1]
      · cases h
    · cases h
theorem resAll_ok {K : Tmps} {r : Rho} {s : St} {w : World} {e : Env} {a : Act} (hr : Rel r s w) (he : EnvR K r e a) : ∀ (l : List ResultVar) {vs : List AVal}, resAll e s (rvsOf P l) = some vs →
    ∃ us, (l.mapM (resSem a)).run P w = .ok us w ∧ VRs r vs us
  | [], vs, h => by cases h; exact ⟨[], rfl, .nil⟩
  | x :: l, vs, h => by
    have h : consO (resOne e s (rvOf P x)) (resAll e s (rvsOf P l)) = some vs := h
    cases h1 : resOne e s (rvOf P x) with
    | bad => rw [h1] at h; cases h
    | ok v =>
      rw [h1] at h
      cases h2 : resAll e s (rvsOf P l) with
      | none => rw [h2] at h; cases h
      | some vs' =>
        rw [h2] at h
        cases h
        obtain ⟨u, h3, h4⟩ := resOne_ok hr he h1
        obtain ⟨us, h5, h6⟩ := resAll_ok hr he l h2
        refine ⟨u :: us, ?_, .cons h4 h6⟩
        rw [List.mapM_cons]
        simp only [Sem.run_bind, h3, Result.andThen_ok, h5, Sem.run_pure]
theorem results_ok {K : Tmps} {r : Rho} {s : St} {w : World} {e : Env} {a : Act} (hr : Rel r s w) (he : EnvR K r e a) {fn : Func} {v : AVal} (h : resV (resAll e s (rvsOf P fn.results.toList)) = .ok v) :
    ∃ u, (results fn a.tmps).run P w = .ok u w ∧ VR r v u := by
  cases h1 : resAll e s (rvsOf P fn.results.toList) with
  | none => rw [h1] at h; cases h
  | some vs =>
    rw [h1] at h
    obtain ⟨us, h2, h3⟩ := resAll_ok hr he fn.results.toList h1
    have hm : (fn.results.mapM (resSem a)).run P w = .ok ⟨us⟩ w := by
      rw [Array.mapM_eq_mapM_toList]
      simp only [Sem.run_map, h2]
      rfl
    have hres : (results fn a.tmps).run P w = .ok (if h : (⟨us⟩ : Array Value).size = 1 then (⟨us⟩ : Array Value)[0] else .tuple ⟨us⟩) w := by
      rw [results_eq]
      simp only [Sem.run_bind, hm, Result.andThen_ok, Sem.run_pure]
    refine ⟨_, hres, ?_⟩
    cases h3 with
    | nil =>
      cases h
      exact .tuple .nil
    | cons hv ht =>
      cases ht with
      | nil => cases h; exact hv
      | cons hv2 ht2 =>
        cases h
        exact .tuple (.cons hv (.cons hv2 ht2))

/-- what the run leans on is right -/
structure BaseOK (P : Program) (B : Base) : Prop where
  fn : ∀ f fn, B.fn f = some fn → P.funcs[f]? = some fn ∧ (fn.name == "runtime.NumGoroutine") = false
  reg : ∀ f fn b, B.fn f = some fn → fn.body = some b → Regs (KnOK P ⟨fn.ntmps, B.keep f⟩ (B.reg f)) b
  orc : ∀ f g, B.orc f = some g → ∀ (args : List AVal) (s : St) (v : AVal) (s' : St), g.run args s = .ok v s' → ∀ (r : Rho) (w : World) (us : List Value), Rel r s w → VRs r args us →
    CallsF P f ⟨us⟩ w fun u w' => ∃ q, Ext r s w q s' w' ∧ VR q v u

theorem doneR_ok {l : List RV} {y : Res} {v : AVal} {s' : St} (h : doneR l y = .ok v s') : ∃ x e, y = .ok x e s' ∧ (x = .normal ∨ x = .ret) ∧ resV (resAll e s' l) = .ok v := by
  unfold doneR at h
  split at h
  · obtain ⟨h1, rfl⟩ := ret_ok h
    exact ⟨_, _, rfl, .inl rfl, h1⟩
  · obtain ⟨h1, rfl⟩ := ret_ok h
    exact ⟨_, _, rfl, .inr rfl, h1⟩
  · cases h

theorem callStep_ok {B : Base} (hB : BaseOK P B) {call : CallF} (hcall : CallOK P call) (hdraw : ∀ K, DrawOK P call K) (fuel : Nat) :
    CallOK P (fun f args s => callStep P B call fuel f args s (B.orc f)) := by
  intro f args s v s' h r w us hr hv
  have h : callStep P B call fuel f args s (B.orc f) = .ok v s' := h
  cases ho : B.orc f with
  | some g =>
    rw [ho] at h
    exact hB.orc f g ho args s v s' h r w us hr hv
  | none =>
    rw [ho] at h
    have h : enterF P call (B.reg f) fuel args s (fcOf P call (B.keep f) (B.reg f) (B.fn f)) = .ok v s' := h
    cases hf : B.fn f with
    | none => rw [hf] at h; cases h
    | some fn =>
      rw [hf] at h
      cases hb : fn.body with
      | none =>
        have h : enterF P call (B.reg f) fuel args s (fcB P call (B.keep f) (B.reg f) fn fn.body) = .ok v s' := h
        rw [hb] at h
        cases h
      | some b =>
        have h : enterF P call (B.reg f) fuel args s (fcB P call (B.keep f) (B.reg f) fn fn.body) = .ok v s' := h
        rw [hb] at h
        have h : doneR (rvsOf P fn.results.toList) (execN P call ⟨fn.ntmps, B.keep f⟩ (B.reg f) fuel fuel (cc P call ⟨fn.ntmps, B.keep f⟩ (B.reg f) b) (enterE ⟨fn.ntmps, B.keep f⟩ 0 .lf args) s) = .ok v s' := h
        obtain ⟨x, e, h1, h2, h3⟩ := doneR_ok h
        obtain ⟨hfn, hname⟩ := hB.fn f fn hf
        refine .inr ⟨?_, ?_⟩
        · have hname' : fn.name ≠ "runtime.NumGoroutine" := by simpa using hname
          simp [callFunc, hfn, hname', hb]
        · refine calls_of_wp hfn hb (exec_ok hcall (hdraw _) fuel b (hB.reg f fn b hf hb) _ s x e s' h1 r w _ _ hr (enter_ok hv) fun q a' w' hx he => ?_)
          obtain ⟨u, h4, h5⟩ := results_ok hx.rel he h3
          rcases h2 with rfl | rfl
          · exact ⟨he.defers, u, h4, u, rfl, q, hx, h5⟩
          · exact ⟨he.defers, u, h4, u, rfl, q, hx, h5⟩

theorem callN_ok {B : Base} (hB : BaseOK P B) (hdraw : ∀ call K, CallOK P call → DrawOK P call K) (fuel : Nat) : ∀ d, CallOK P (callN P B fuel d)
  | 0 => fun f args s v s' h => by cases h
  | d + 1 => callStep_ok hB (callN_ok hB hdraw fuel d) (fun K => hdraw _ K (callN_ok hB hdraw fuel d)) fuel
end Go.Proofs.YtchkcnecgfolmaaGreatDoor.Ev
