/-
  Saved tables as plain lists; what Load reads of any bytes; Save's contract.
-/
import Derived.Test.YtiibkbkcncmjoaaSave
import Derived.Laws.Rows
namespace Go.Proofs.Ytiibkbkcncmjoaa
open Go.RowKit
set_option linter.unusedVariables false
set_option linter.unusedSimpArgs false

def srecb (r : SRec) : List UInt8 := le 8 (u64 r.q) ++ (le 8 (u64 r.y) ++ (le 8 (u64 r.a) ++ sput r.z.data.toList))
def ssave (f : Nat → SRec) : Nat → List UInt8
  | 0 => []
  | k + 1 => ssave f k ++ srecb (f k)
theorem ssave_le (f : Nat → SRec) {k n : Nat} (h : k ≤ n) : (ssave f k).length ≤ (ssave f n).length := by
  induction n with
  | zero => rw [Nat.le_zero.1 h]; exact Nat.le_refl _
  | succ n ih =>
    by_cases e : k = n + 1
    · rw [e]; exact Nat.le_refl _
    · rw [ssave, List.length_append]
      have := ih (by omega)
      omega
theorem ssave_congr {f g : Nat → SRec} : ∀ {n : Nat}, (∀ i, i < n → f i = g i) → ssave f n = ssave g n
  | 0, _ => rfl
  | n + 1, h => by rw [ssave, ssave, ssave_congr (n := n) (fun i hi => h i (by omega)), h n (by omega)]
theorem srecb_length (r : SRec) : (srecb r).length = 24 + (sput r.z.data.toList).length := by
  simp only [srecb, List.length_append, le_length]; omega
/-- a record is read -/
def srec (l : List UInt8) (s : RS) : SRec × RS :=
  (⟨s64 (num (rtake l 8 s).1), s64 (num (rtake l 8 (rtake l 8 s).2).1), s64 (num (rtake l 8 (rtake l 8 (rtake l 8 s).2).2).1), str (sget l (rtake l 8 (rtake l 8 (rtake l 8 s).2).2).2).1⟩, (sget l (rtake l 8 (rtake l 8 (rtake l 8 s).2).2).2).2)
def sloads (l : List UInt8) : Nat → (Nat → SRec) × RS
  | 0 => (fun _ => SRec.zero, ⟨0, 0, 0⟩)
  | k + 1 => (supd (sloads l k).1 k (srec l (sloads l k).2).1, (srec l (sloads l k).2).2)
def svalid (r : SRec) : Prop := 0 ≤ r.q ∧ r.q ≤ 1073741824 ∧ (r.q = 0 → r.y = 0 ∧ r.a = 0 ∧ r.z = ⟨#[]⟩)
/-- bytes that Load takes, for a table of N clients -/
def GoodN (N : Nat) (l : List UInt8) : Prop := (∀ k, k < N → svalid ((sloads l N).1 k)) ∧ (sloads l N).2.y = 0 ∧ ¬ (sloads l N).2.p < l.length ∧ ssave (sloads l N).1 N = l
def Good (l : List UInt8) : Prop := GoodN 16 l
theorem sloads_get {l : List UInt8} {k : Nat} : ∀ {n : Nat}, k < n → (sloads l n).1 k = (srec l (sloads l k).2).1
  | 0, h => absurd h (by omega)
  | n + 1, h => by
    by_cases e : k = n
    · subst e
      rw [sloads]
      exact supd_same _ _ _
    · rw [sloads]
      show supd (sloads l n).1 n _ k = _
      rw [supd_other _ _ e]
      exact sloads_get (n := n) (by omega)
theorem srec_size {l : List UInt8} {s : RS} (hp : s.p ≤ l.length) : (srec l s).2.p ≤ l.length ∧ s.p ≤ (srec l s).2.p ∧ ((srec l s).2.y = 0 → s.p + (srecb (srec l s).1).length ≤ (srec l s).2.p ∧ s.y = 0) := by
  obtain ⟨a1, a2, a3⟩ := rtake_fwd (n := 8) hp
  obtain ⟨b1, b2, b3⟩ := rtake_fwd (n := 8) a1
  obtain ⟨c1, c2, c3⟩ := rtake_fwd (n := 8) b1
  obtain ⟨d1, d2, d3, d4⟩ := sget_size c1
  refine ⟨d1, by show s.p ≤ (sget l _).2.p; omega, fun h => ?_⟩
  obtain ⟨e1, e2⟩ := d4 h
  obtain ⟨f1, f2⟩ := c3 e2
  obtain ⟨g1, g2⟩ := b3 f2
  obtain ⟨h1, h2⟩ := a3 g2
  refine ⟨?_, h2⟩
  rw [srecb_length]
  show s.p + (24 + (sput (sget l _).1).length) ≤ (sget l _).2.p
  omega
theorem sloads_size (l : List UInt8) : ∀ k, (sloads l k).2.p ≤ l.length ∧ ((sloads l k).2.y = 0 → (ssave (sloads l k).1 k).length ≤ (sloads l k).2.p)
  | 0 => ⟨Nat.zero_le _, fun _ => by simp [ssave]⟩
  | k + 1 => by
    obtain ⟨h1, h2⟩ := sloads_size l k
    obtain ⟨i1, i2, i3⟩ := srec_size h1
    refine ⟨i1, fun h => ?_⟩
    obtain ⟨j1, j2⟩ := i3 h
    have e : ssave (sloads l (k + 1)).1 (k + 1) = ssave (sloads l k).1 k ++ srecb (srec l (sloads l k).2).1 := by
      rw [ssave]
      congr 1
      · exact ssave_congr fun i hi => by rw [sloads]; exact supd_other _ _ (by omega)
      · rw [sloads]; exact congrArg srecb (supd_same _ _ _)
    rw [e, List.length_append]
    have := h2 j2
    show _ ≤ (srec l (sloads l k).2).2.p
    omega
/-- what a client's record must be for its bytes to say it -/
def SRec.fits (r : SRec) : Prop := (-9223372036854775808 ≤ r.q ∧ r.q ≤ 9223372036854775807) ∧ (-9223372036854775808 ≤ r.y ∧ r.y ≤ 9223372036854775807) ∧ (-9223372036854775808 ≤ r.a ∧ r.a ≤ 9223372036854775807) ∧ r.z.size < 9223372036854775808
theorem s64_le8 (n : Int) (h : -9223372036854775808 ≤ n ∧ n ≤ 9223372036854775807) : s64 (num (le 8 (u64 n))) = n := by
  rw [num_le, Nat.mod_eq_of_lt (by have := u64_le n; simp; omega), s64_u64 n h]
theorem srec_at {l pre post : List UInt8} {r : SRec} (hl : l = pre ++ (srecb r ++ post)) (hr : r.fits) : srec l ⟨pre.length, 0, 0⟩ = (r, ⟨(pre ++ srecb r).length, 0, 0⟩) := by
  obtain ⟨hq, hy, ha, hz⟩ := hr
  have e : r.z.data.toList.length = r.z.size := by rw [Array.length_toList]; rfl
  have h1 : rtake l 8 ⟨pre.length, 0, 0⟩ = (le 8 (u64 r.q), ⟨pre.length + 8, 0, 0⟩) := rtake_at (post := le 8 (u64 r.y) ++ (le 8 (u64 r.a) ++ (sput r.z.data.toList ++ post))) (by rw [hl, srecb]; simp) rfl (le_length _ _).symm
  have h2 : rtake l 8 ⟨pre.length + 8, 0, 0⟩ = (le 8 (u64 r.y), ⟨pre.length + 16, 0, 0⟩) := rtake_at (pre := pre ++ le 8 (u64 r.q)) (post := le 8 (u64 r.a) ++ (sput r.z.data.toList ++ post)) (by rw [hl, srecb]; simp) (by simp [le_length]) (le_length _ _).symm
  have h3 : rtake l 8 ⟨pre.length + 16, 0, 0⟩ = (le 8 (u64 r.a), ⟨pre.length + 24, 0, 0⟩) := rtake_at (pre := pre ++ le 8 (u64 r.q) ++ le 8 (u64 r.y)) (post := sput r.z.data.toList ++ post) (by rw [hl, srecb]; simp) (by simp [le_length]) (le_length _ _).symm
  have h4 : sget l ⟨pre.length + 24, 0, 0⟩ = (r.z.data.toList, ⟨pre.length + 24 + (sput r.z.data.toList).length, 0, 0⟩) := sget_at (pre := pre ++ le 8 (u64 r.q) ++ le 8 (u64 r.y) ++ le 8 (u64 r.a)) (s := r.z.data.toList) (post := post) (by rw [hl, srecb]; simp) (by simp [le_length]) (by omega)
  unfold srec
  rw [h1]
  simp only
  rw [h2]
  simp only
  rw [h3]
  simp only
  rw [h4]
  simp only
  rw [s64_le8 _ hq, s64_le8 _ hy, s64_le8 _ ha, List.length_append, srecb_length, show str r.z.data.toList = r.z by cases r.z; rfl, Nat.add_assoc]
theorem ssave_split (f : Nat → SRec) {k : Nat} : ∀ {n : Nat}, k < n → ∃ post, ssave f n = ssave f k ++ (srecb (f k) ++ post)
  | 0, h => absurd h (by omega)
  | n + 1, h => by
    by_cases e : k = n
    · subst e
      exact ⟨[], by rw [ssave, List.append_nil]⟩
    · obtain ⟨post, hp⟩ := ssave_split f (k := k) (n := n) (by omega)
      exact ⟨post ++ srecb (f n), by rw [ssave, hp]; simp⟩
theorem sloads_saved {f : Nat → SRec} {N : Nat} (hf : ∀ k, k < N → (f k).fits) : ∀ k, k ≤ N → (sloads (ssave f N) k).2 = ⟨(ssave f k).length, 0, 0⟩ ∧ ∀ i, i < k → (sloads (ssave f N) k).1 i = f i
  | 0, _ => ⟨rfl, fun i h => absurd h (by omega)⟩
  | k + 1, hk => by
    obtain ⟨h1, h2⟩ := sloads_saved hf k (by omega)
    obtain ⟨post, hp⟩ := ssave_split f (k := k) (n := N) (by omega)
    have h3 := srec_at hp (hf k (by omega))
    rw [← h1] at h3
    rw [sloads]
    refine ⟨?_, fun i hi => ?_⟩
    · show (srec _ _).2 = _
      rw [h3]
      rfl
    · show supd _ k _ i = f i
      rw [h3]
      by_cases e : i = k
      · subst e; exact supd_same _ _ _
      · rw [supd_other _ _ e]; exact h2 i (by omega)
theorem good_savedN {f : Nat → SRec} {N : Nat} (hf : ∀ k, k < N → (f k).fits) (hv : ∀ k, k < N → svalid (f k)) : GoodN N (ssave f N) ∧ ∀ i, i < N → (sloads (ssave f N) N).1 i = f i := by
  obtain ⟨h1, h2⟩ := sloads_saved hf N (Nat.le_refl _)
  refine ⟨⟨fun k hk => by rw [h2 k hk]; exact hv k hk, by rw [h1], by rw [h1]; exact Nat.lt_irrefl _, ssave_congr h2⟩, h2⟩
theorem good_saved {f : Nat → SRec} (hf : ∀ k, k < 16 → (f k).fits) (hv : ∀ k, k < 16 → svalid (f k)) : Good (ssave f 16) ∧ ∀ i, i < 16 → (sloads (ssave f 16) 16).1 i = f i := good_savedN hf hv
theorem tcells_congr {f g : Nat → SRec} : ∀ {n : Nat}, (∀ i, i < n → f i = g i) → tcells f n = tcells g n
  | 0, _ => rfl
  | n + 1, h => by rw [tcells, tcells, tcells_congr (n := n) (fun i hi => h i (by omega)), h n (by omega)]
theorem TblAt.congr {w : World} {T : Nat} {f g : Nat → SRec} (h : TblAt w T f) (he : ∀ i, i < 16 → f i = g i) : TblAt w T g := by
  unfold TblAt at h ⊢
  rw [← tcells_congr he]
  exact h

theorem tcells_part (f : Nat → SRec) {k n : Nat} (hk : k < n) : ((tcells f n).toArray.extract (k * 4) (k * 4 + 4)) = #[.int .i64 (f k).q, .int .i64 (f k).y, .int .i64 (f k).a, .string (f k).z] := by
  have h : ((tcells f n).drop (k * 4)).take 4 = (f k).cells := by
    apply List.ext_getElem?
    intro j
    by_cases hj : j < 4
    · rw [List.getElem?_take, if_pos hj, List.getElem?_drop, tcells_get f hj hk]
    · rw [List.getElem?_take, if_neg hj, List.getElem?_eq_none (by simp [SRec.cells]; omega)]
  apply Array.ext'
  simp only [List.extract_toArray, List.extract_eq_take_drop, Nat.add_sub_cancel_left]
  exact h
theorem index_rec {P : Program} {e t : TypeId} {fs : Array Field} (hu : P.underlying t = some (.array 16 e)) (he : P.underlying e = some (.struct fs)) (hs : (P.info? e).map (·.size) = some 4) (f : Nat → SRec) {k : Nat} (hk : k < 16) (w : World) :
    (Instr.index t (.agg (tcells f 16).toArray) (.int .i64 (k : Int))).run P w = .ok (.agg #[.int .i64 (f k).q, .int .i64 (f k).y, .int .i64 (f k).a, .string (f k).z]) w := by
  have hp := tcells_part f hk
  generalize (tcells f 16).toArray = cs at hp ⊢
  obtain ⟨i, hi⟩ : ∃ i, P.info? e = some i := by
    cases h : P.info? e with
    | none => rw [h] at hs; cases hs
    | some i => exact ⟨i, rfl⟩
  rw [hi] at hs
  have hsz : i.size = 4 := by simpa using hs
  have hk0 : (0 : Int) ≤ (k : Int) := by omega
  have hk1 : (k : Int) < 16 := by omega
  simp [Instr.index, asIntOf, run_underlying hu, part, isAgg, run_underlying he, sizeOf, typeInfo, hi, hsz, hk1, hp]
  intro h
  omega

set_option maxRecDepth 100000 in
set_option maxHeartbeats 2000000 in
theorem Save_calls {w : World} {T : Nat} {f : Nat → SRec} (ht : TblAt w T f) (hroom : (ssave f 16).length ≤ 140737488355328) :
    Calls Try.prog 44 #[.pointer (some ⟨T, 0, none⟩)] w (Cloned w (ssave f 16).length (ssave f 16)) := by
  have hix := fun (k : Nat) (hk : k < 16) (w : World) => index_rec (P := Try.prog) Try.underlying95 Try.underlying94 (by kernel_rfl) f hk w
  have hle := fun (k : Nat) (hk : k ≤ 16) => ssave_le f (n := 16) hk
  obtain ⟨cs, hcs⟩ : ∃ cs, (tcells f 16).toArray = cs := ⟨_, rfl⟩
  have hsz : cs.size = 64 := by rw [← hcs, List.size_toArray, tcells_length]
  rw [hcs] at hix
  have hh : w.heap[T]? = some (.cells cs 97 (0, 0)) := by rw [← hcs]; exact ht
  obtain ⟨L, hL⟩ : ∃ L, ssave f 16 = L := ⟨_, rfl⟩
  rw [hL] at hle hroom ⊢
  have HL := Lib.hid hL
  have HIX := Lib.hid hix
  have HLE := Lib.hid hle
  have HSZ := Lib.hid hsz
  have HH := Lib.hid hh
  clear hL hix hle hsz hh hcs ht
  go_enter Try.func44, Try.ntmps44
  go_wp2_with fail
  refine (NewWriter_calls (fun k => w.heap.size ≤ k) w (Nat.le_refl _)).mono ?_
  rintro e w1 ⟨rfl, hd1, hc1⟩
  have hz1 := hc1.size
  go_wp2_with (with_reducible refine wpList_load_row rfl 95 _ rfl T rfl 97 cs (0, 0) _ (hc1.heap HH.out (fun h => h)) Try.underlying95 rfl (by rw [HSZ.out]; kernel_rfl) ?_)
  obtain ⟨D, hD⟩ : ∃ D, w.heap.size = D := ⟨_, rfl⟩
  rw [hD] at hd1 hz1 ⊢
  have HD := Lib.hid hD
  have a1 : Chg (fun k => D ≤ k) w w1 := hc1.wide
  clear hD hc1
  go_wp2_with fail
  go_loopw [11] (fun i wr => ∃ k : Nat, k ≤ 16 ∧ i = .int .i64 k ∧ WrAt (fun k => D ≤ k) wr D (ssave f k) ∧ Chg (fun k => D ≤ k) w wr ∧ D ≤ wr.heap.size) (fun i _ => 16 - (intOf i).toNat)
  case atStart => exact ⟨0, Nat.zero_le _, rfl, hd1, a1, hz1⟩
  case round =>
    obtain ⟨k, hk, rfl, hd, a, hz⟩ := hrel
    by_cases hlt : k < 16
    · have hi := HIX.out k hlt
      have hroomk := HLE.out (k + 1) (by omega)
      have hbn : ssave f (k + 1) = ssave f k ++ srecb (f k) := rfl
      rw [hbn, List.length_append] at hroomk
      have HBN := Lib.hid hbn
      generalize f k = r at hi hroomk HBN
      obtain ⟨bs, hbs⟩ : ∃ bs, ssave f k = bs := ⟨_, rfl⟩
      rw [hbs] at hd hroomk HBN
      rw [srecb_length] at hroomk
      have HBS := Lib.hid hbs
      obtain ⟨X, hX⟩ : ∃ X, wr.heap.size = X := ⟨_, rfl⟩
      have HX := Lib.hid hX
      clear hbn hbs hX
      have hd2 := (hd.mono (V' := fun k => D ≤ k ∧ k ≠ X) (fun k hk hv => ⟨hv, by have := HX.out; omega⟩)).alloc (.cells #[.int .i64 r.q, .int .i64 r.y, .int .i64 r.a, .string r.z] 94)
      have ha2 : Chg (fun k => D ≤ k) w (wr.alloc (.cells #[.int .i64 r.q, .int .i64 r.y, .int .i64 r.a, .string r.z] 94)) := a.alloc _
      have hhX : (wr.alloc (.cells #[.int .i64 r.q, .int .i64 r.y, .int .i64 r.a, .string r.z] 94)).heap[X]? = some (.cells #[.int .i64 r.q, .int .i64 r.y, .int .i64 r.a, .string r.z] 94 (0, 0)) := by
        rw [← HX.out]; exact heap_alloc_new wr _
      have hzX : (wr.alloc (.cells #[.int .i64 r.q, .int .i64 r.y, .int .i64 r.a, .string r.z] 94)).heap.size = X + 1 := by simp [HX.out]
      have HZX := Lib.hid hzX
      clear hzX
      have hu1 : (bs ++ le 8 (Go.Proofs.Ytiibkbkcncmjoaa.u64 r.q)).length = bs.length + 8 := by rw [List.length_append, le_length]
      have hu2 : (bs ++ le 8 (Go.Proofs.Ytiibkbkcncmjoaa.u64 r.q) ++ le 8 (Go.Proofs.Ytiibkbkcncmjoaa.u64 r.y)).length = bs.length + 16 := by rw [List.length_append, hu1, le_length]
      have hu3 : (bs ++ le 8 (Go.Proofs.Ytiibkbkcncmjoaa.u64 r.q) ++ le 8 (Go.Proofs.Ytiibkbkcncmjoaa.u64 r.y) ++ le 8 (Go.Proofs.Ytiibkbkcncmjoaa.u64 r.a)).length = bs.length + 24 := by rw [List.length_append, hu2, le_length]
      have hfin : bs ++ le 8 (Go.Proofs.Ytiibkbkcncmjoaa.u64 r.q) ++ le 8 (Go.Proofs.Ytiibkbkcncmjoaa.u64 r.y) ++ le 8 (Go.Proofs.Ytiibkbkcncmjoaa.u64 r.a) ++ sput r.z.data.toList = ssave f (k + 1) := by rw [HBN.out, srecb]; simp
      have HU1 := Lib.hid hu1
      have HU2 := Lib.hid hu2
      have HU3 := Lib.hid hu3
      have HFIN := Lib.hid hfin
      have hXV : ¬ (D ≤ X ∧ X ≠ X) := fun h => h.2 rfl
      obtain ⟨⟨x0, x1, x2, x3⟩, -⟩ := four_cells hhX
      clear hu1 hu2 hu3 hfin
      go_wp2_with fail
      rw [HX.out]
      generalize wr.alloc (.cells #[.int .i64 r.q, .int .i64 r.y, .int .i64 r.a, .string r.z] 94) = w2 at hd2 ha2 x0 x1 x2 x3 HZX ⊢
      clear hhX
      refine (WLong_calls hd2 (fun k hk => ⟨by have := HX.out; have := HZX.out; omega, by have := HZX.out; omega⟩) r.q (by omega)).mono ?_
      rintro e w3 ⟨rfl, hd3, hc3⟩
      have x1 := hc3.cell x1 hXV
      have x2 := hc3.cell x2 hXV
      have x3 := hc3.cell x3 hXV
      have a3 := ha2.trans hc3 (fun _ _ h => h.1)
      have hz3 := hc3.size
      clear x0 hd2 ha2
      go_wp2_with fail
      refine (WLong_calls hd3 (fun k hk => ⟨by have := HX.out; have := HZX.out; omega, by have := HZX.out; omega⟩) r.y (by rw [HU1.out]; omega)).mono ?_
      rintro e w4 ⟨rfl, hd4, hc4⟩
      have x2 := hc4.cell x2 hXV
      have x3 := hc4.cell x3 hXV
      have a4 := a3.trans hc4 (fun _ _ h => h.1)
      have hz4 := hc4.size
      clear x1 hd3 a3
      go_wp2_with fail
      refine (WLong_calls hd4 (fun k hk => ⟨by have := HX.out; have := HZX.out; omega, by have := HZX.out; omega⟩) r.a (by rw [HU2.out]; omega)).mono ?_
      rintro e w5 ⟨rfl, hd5, hc5⟩
      have x3 := hc5.cell x3 hXV
      have a5 := a4.trans hc5 (fun _ _ h => h.1)
      have hz5 := hc5.size
      clear x2 hd4 a4
      have hpt := put_text (s := r.z.data.toList) hd5 (fun k hk => ⟨by have := HX.out; have := HZX.out; omega, by have := HZX.out; omega⟩) (by rw [HU3.out]; omega)
      rw [show str r.z.data.toList = r.z by cases r.z; rfl] at hpt
      have HPT := Lib.hid hpt
      clear hpt hd5
      go_wp2_with fail
      refine HPT.out.mono ?_
      rintro e w6 ⟨rfl, hd6, hc6⟩
      rw [HFIN.out] at hd6
      have a6 := a5.trans hc6 (fun _ _ h => h.1)
      have hz6 := hc6.size
      have hz9 : D ≤ w6.heap.size := by have := HX.out; have := HZX.out; omega
      clear x3 a5
      go_wp2_with fail
      go_roundw
      case rel => exact ⟨k + 1, by omega, by go_num, hd6.mono (fun k _ h => h.1), a6, hz9⟩
      case measure => simp [intOf]; omega
    · obtain rfl : k = 16 := by omega
      rw [HL.out] at hd
      go_wp2_with fail
      refine (Done_calls hd hroom).mono ?_
      rintro e w2 ⟨o2, A2, c2, rfl, hown2, hn2, hc2⟩
      go_wp2_with fail
      go_ret
      have hHD := HD.out
      exact ⟨o2, A2, c2, rfl, hown2, (fun g h => by have := hn2 g h; omega), (a.trans hc2 (fun _ _ h => h.elim)).new fun k hk h => by omega⟩
end Go.Proofs.Ytiibkbkcncmjoaa
