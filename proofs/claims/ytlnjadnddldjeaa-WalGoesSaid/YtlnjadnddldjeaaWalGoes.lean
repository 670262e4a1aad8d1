/-
  WalGoes: a log that was opened again goes on as if it had not been closed: the walk through the law.
-/
import Derived.Test.YtlnjadnddldjeaaWalTorn
namespace Go.Proofs.Ytlnjadnddldjeaa
open Go.RowKit
set_option linter.unusedVariables false
set_option linter.unusedSimpArgs false

abbrev gSnap : ByteArray := ⟨#[115, 110, 97, 112, 115, 104, 111, 116]⟩
/-- i records were put, m of them are wanted; the log at L begins at f -/
def GoesAt (W : Nat) (w0 : World) (D : Nat) (ss : List ByteArray) (i m L f : Nat) (A : Option Addr) (c : Nat) (w : World) : Prop :=
  ∃ (V : Nat → Prop) (es : List Ent) (safe : Nat) (own : Option Nat) (snap : ByteArray), WAt V w L D es safe ⟨f, (fews ss i).drop (f - 1), snap, ⟨#[]⟩⟩ ∧ (∀ k, V k → W ≤ k) ∧ (∀ k, w.heap.size ≤ k → V k) ∧
    Own w 9 own A m c (sv (fews ss m)) ∧ (∀ g, own = some g → W ≤ g ∧ ¬ V g) ∧ Chg (fun k => W ≤ k) w0 w ∧ (eb es).length ≤ 200 + 121 * i ∧ 1 ≤ f ∧ f ≤ i + 1 ∧ i ≤ 20 ∧ i ≤ ss.length ∧ m ≤ ss.length ∧ W ≤ w.heap.size
section
variable {W : Nat} {w0 w w' : World} {D i m L f c : Nat} {ss : List ByteArray} {A : Option Addr}
theorem GoesAt.keep (h : GoesAt W w0 D ss i m L f A c w) (hc : Chg (fun _ => False) w w') : GoesAt W w0 D ss i m L f A c w' := by
  obtain ⟨V, es, safe, own, snap, h1, h2, h3, h4, h5, h6, h7, h8, h9, h10, h11, h12, h13⟩ := h
  have := hc.size
  exact ⟨V, es, safe, own, snap, h1.keep hc, h2, fun k hk => h3 k (by omega), h4.chg hc (fun _ _ h => h), h5, h6.trans hc (fun _ _ h => h.elim), h7, h8, h9, h10, h11, h12, by omega⟩
theorem GoesAt.put (h : GoesAt W w0 D ss i m L f A c w) {s : ByteArray} {n : Int} (hn : ((i + 1 : Nat) : Int) = n) (hs : ss[i]? = some s) (hi : i < 20) :
    Calls Try.prog 11 #[.pointer (some ⟨L, 0, none⟩), .int .i64 n, .string (few21 s)] w fun e w' => e = .returned (.int .i64 0) ∧ GoesAt W w0 D ss (i + 1) m L f A c w' := by
  obtain ⟨V, es, safe, own, snap, h1, h2, h3, h4, h5, h6, h7, h8, h9, h10, h11, h12, h13⟩ := h
  have hlen : ((fews ss i).drop (f - 1)).length = i + 1 - f := by rw [List.length_drop, fews_length h11]; omega
  have hx := few21_size s
  have hil := (List.getElem?_eq_some_iff.1 hs).1
  refine (WPut h1 h3 (s := few21 s) (n := i + 1) hn h9 (by show i + 1 ≤ f + _; rw [hlen]; omega) (by omega) (by omega) (by show List.length _ < _; rw [hlen]; omega) (by omega)).mono ?_
  rintro e w' ⟨rfl, g1, hc⟩
  have z := hc.size
  have e1 : putS ⟨f, (fews ss i).drop (f - 1), snap, ⟨#[]⟩⟩ (i + 1) (few21 s) = ⟨f, (fews ss (i + 1)).drop (f - 1), snap, ⟨#[]⟩⟩ := by
    simp only [putS]
    rw [List.take_of_length_le (by rw [hlen]; omega), fews_snoc hs, List.drop_append_of_le_length (by rw [fews_length h11]; omega)]
  rw [e1] at g1
  refine ⟨rfl, V, _, safe, own, snap, g1, h2, fun k hk => h3 k (by omega), h4.chg hc (fun k hk hv => (h5 k hk).2 hv), h5, h6.trans hc (fun k _ hv => h2 k hv), ?_, h8, by omega, by omega, by omega, h12, by omega⟩
  rw [eb_snoc_length]
  show _ + ((few21 s).size + 21) ≤ _
  omega
theorem GoesAt.base (h : GoesAt W w0 D ss i m L f A c w) {n : Int} (hn : (i : Int) = n) (hi : 1 ≤ i) (hf : f ≤ i) :
    Calls Try.prog 27 #[.pointer (some ⟨L, 0, none⟩), .int .i64 n, .string gSnap] w fun e w' => e = .returned (.int .i64 0) ∧ GoesAt W w0 D ss i m L i A c w' := by
  obtain ⟨V, es, safe, own, snap, h1, h2, h3, h4, h5, h6, h7, h8, h9, h10, h11, h12, h13⟩ := h
  have hdd : ((fews ss i).drop (f - 1)).drop (i - f) = (fews ss i).drop (i - 1) := by rw [List.drop_drop]; congr 1; omega
  have hl1 : ((fews ss i).drop (i - 1)).length = 1 := by rw [List.length_drop, fews_length h11]; omega
  have hb : (eb (imgs i gSnap ⟨#[]⟩ ((fews ss i).drop (i - 1)))).length ≤ 200 := by
    have := imgs_length_le (f := i) (snap := gSnap) (note := ⟨#[]⟩) (a := (fews ss i).drop (i - 1)) (m := 100) (fun s hs => fews_size s (List.mem_of_mem_drop hs))
    rw [hl1] at this
    have e1 : gSnap.size = 8 := rfl
    have e2 : (⟨#[]⟩ : ByteArray).size = 0 := rfl
    omega
  refine (WBase h1 h3 (s := gSnap) (n := i) hn hf (by omega) (by decide) (by show (eb (imgs i gSnap _ (List.drop (i - f) (List.drop (f - 1) (fews ss i))))).length ≤ _; rw [hdd]; show (eb (imgs i gSnap ⟨#[]⟩ _)).length ≤ _; omega)).mono ?_
  rintro e w' ⟨rfl, g1, hc⟩
  have z := hc.size
  have e1 : baseS ⟨f, (fews ss i).drop (f - 1), snap, ⟨#[]⟩⟩ i gSnap = ⟨i, (fews ss i).drop (i - 1), gSnap, ⟨#[]⟩⟩ := by
    simp only [baseS]
    rw [hdd]
  rw [e1] at g1
  refine ⟨rfl, V, _, _, own, gSnap, g1, h2, fun k hk => h3 k (by omega), h4.chg hc (fun k hk hv => (h5 k hk).2 hv), h5, h6.trans hc (fun k _ hv => h2 k hv), ?_, hi, by omega, h10, h11, h12, by omega⟩
  show (eb (imgs i gSnap ⟨#[]⟩ (List.drop (i - f) (List.drop (f - 1) (fews ss i))))).length ≤ _
  rw [hdd]
  omega
theorem GoesAt.sync (h : GoesAt W w0 D ss i m L f A c w) :
    Calls Try.prog 13 #[.pointer (some ⟨L, 0, none⟩)] w fun e w' => e = .returned (.tuple #[]) ∧ GoesAt W w0 D ss i m L f A c w' := by
  obtain ⟨V, es, safe, own, snap, h1, h2, h3, h4, h5, h6, h7, h8, h9, h10, h11, h12, h13⟩ := h
  refine (WSync h1).mono ?_
  rintro e w' ⟨rfl, g1, hc⟩
  have z := hc.size
  exact ⟨rfl, V, es, _, own, snap, g1, h2, fun k hk => h3 k (by omega), h4.chg hc (fun k hk hv => (h5 k hk).2 hv), h5, h6.trans hc (fun k _ hv => h2 k hv), h7, h8, h9, h10, h11, h12, by omega⟩
def GoesOpened (W : Nat) (w0 : World) (D : Nat) (ss : List ByteArray) (i m f : Nat) (A : Option Addr) (c : Nat) (e : Ending) (w' : World) : Prop :=
  ∃ L, e = .returned (.tuple #[.pointer (some ⟨L, 0, none⟩), .int .i64 0]) ∧ GoesAt W w0 D ss i m L f A c w'
theorem GoesAt.open_ (h : GoesAt W w0 D ss i m L f A c w) :
    Calls Try.prog 20 #[.pointer (some ⟨D, 0, none⟩)] w (GoesOpened W w0 D ss i m f A c) := by
  obtain ⟨V, es, safe, own, snap, h1, h2, h3, h4, h5, h6, h7, h8, h9, h10, h11, h12, h13⟩ := h
  refine (WReopen h1 h3).mono ?_
  rintro e w' ⟨L2, rfl, g1, hL, hc⟩
  have z := hc.size
  exact ⟨L2, rfl, V, es, _, own, snap, g1, h2, fun k hk => h3 k (by omega), h4.chg hc (fun k hk hv => (h5 k hk).2 hv), h5, h6.trans hc (fun k _ hv => h2 k hv), h7, h8, h9, h10, h11, h12, by omega⟩
theorem GoesAt.first (h : GoesAt W w0 D ss i m L f A c w) : Calls Try.prog 21 #[.pointer (some ⟨L, 0, none⟩)] w fun e w' => e = .returned (.int .i64 (f : Int)) ∧ w = w' := by
  obtain ⟨V, es, safe, own, snap, h1, -⟩ := h
  exact WFirst h1
theorem GoesAt.next (h : GoesAt W w0 D ss i m L f A c w) {n : Int} (hn : (i : Int) + 1 = n) : Calls Try.prog 15 #[.pointer (some ⟨L, 0, none⟩)] w (Told (.int .i64 n) w) := by
  obtain ⟨V, es, safe, own, snap, h1, h2, h3, h4, h5, h6, h7, h8, h9, h10, h11, h12, h13⟩ := h
  have := WNext h1
  rwa [show (((⟨f, (fews ss i).drop (f - 1), snap, ⟨#[]⟩⟩ : LSt).f + (⟨f, (fews ss i).drop (f - 1), snap, ⟨#[]⟩⟩ : LSt).rs.length : Nat) : Int) = n by
    show ((f + ((fews ss i).drop (f - 1)).length : Nat) : Int) = n
    rw [List.length_drop, fews_length h11]; omega] at this
theorem GoesAt.get (h : GoesAt W w0 D ss i m L f A c w) {k : Nat} {s : ByteArray} (hk : f ≤ k) (hs : (fews ss i)[k - 1]? = some s) : Calls Try.prog 22 #[.pointer (some ⟨L, 0, none⟩), .int .i64 (k : Int)] w (Told (.tuple #[.string s, .bool true]) w) := by
  obtain ⟨V, es, safe, own, snap, h1, h2, h3, h4, h5, h6, h7, h8, h9, h10, h11, h12, h13⟩ := h
  exact WGet_in h1 (k := k - f) (by show ((f + (k - f) : Nat) : Int) = _; omega) (by show ((fews ss i).drop (f - 1))[k - f]? = _; rw [List.getElem?_drop, show f - 1 + (k - f) = k - 1 by omega]; exact hs)
/-- as GoesAt, with the wanted list's block -/
def GoesWith (W : Nat) (w0 : World) (D : Nat) (ss : List ByteArray) (i m L f : Nat) (A : Option Addr) (c : Nat) (own : Option Nat) (w : World) : Prop :=
  ∃ (V : Nat → Prop) (es : List Ent) (safe : Nat) (snap : ByteArray), WAt V w L D es safe ⟨f, (fews ss i).drop (f - 1), snap, ⟨#[]⟩⟩ ∧ (∀ k, V k → W ≤ k) ∧ (∀ k, w.heap.size ≤ k → V k) ∧
    Own w 9 own A m c (sv (fews ss m)) ∧ (∀ g, own = some g → W ≤ g ∧ ¬ V g) ∧ Chg (fun k => W ≤ k) w0 w ∧ (eb es).length ≤ 200 + 121 * i ∧ 1 ≤ f ∧ f ≤ i + 1 ∧ i ≤ 20 ∧ i ≤ ss.length ∧ m ≤ ss.length ∧ W ≤ w.heap.size
theorem GoesAt.withOwn (h : GoesAt W w0 D ss i m L f A c w) : ∃ own, GoesWith W w0 D ss i m L f A c own w := by
  obtain ⟨V, es, safe, own, snap, h⟩ := h
  exact ⟨own, V, es, safe, snap, h⟩
theorem GoesWith.owned {own : Option Nat} (h : GoesWith W w0 D ss i m L f A c own w) : Own w 9 own A m c (sv (fews ss m)) := by
  obtain ⟨V, es, safe, snap, h1, h2, h3, h4, h5⟩ := h
  exact h4
/-- the wanted list grows -/
theorem GoesWith.grow {own own' : Option Nat} {A' : Option Addr} {c' : Nat} {s : ByteArray} (h : GoesWith W w0 D ss i m L f A c own w) (hs : ss[m]? = some s)
    (hO' : Own w' 9 own' A' (m + 1) c' (sv (fews ss m) ++ [.string (few21 s)])) (hor : own' = own ∨ own' = some w.heap.size) (hc : Chg (fun k => own = some k) w w') : GoesAt W w0 D ss i (m + 1) L f A' c' w' := by
  obtain ⟨V, es, safe, snap, h1, h2, h3, h4, h5, h6, h7, h8, h9, h10, h11, h12, h13⟩ := h
  have z := hc.size
  have hil := (List.getElem?_eq_some_iff.1 hs).1
  have hv1 : ∀ k, k < w.heap.size → V k → own' ≠ some k := fun k hk hv e => by
    rcases hor with ho | ho
    · exact (h5 k (by rw [← ho, e])).2 hv
    · rw [ho] at e; injection e with e; omega
  have hv2 : ∀ k, w'.heap.size ≤ k → own' ≠ some k := fun k hk e => by have := hO'.lt e; omega
  have hg1 : ∀ g, own' = some g → W ≤ g := fun g hg => by
    rcases hor with ho | ho
    · exact (h5 g (by rw [← ho, hg])).1
    · rw [ho] at hg; injection hg with hg; omega
  have e : sv (fews ss m) ++ [.string (few21 s)] = sv (fews ss (m + 1)) := by rw [fews_snoc hs]; simp [sv]
  rw [e] at hO'
  have g1 : WAt (fun k => V k ∧ own' ≠ some k) w' L D es safe ⟨f, (fews ss i).drop (f - 1), snap, ⟨#[]⟩⟩ := (h1.mono fun k hk hv => ⟨hv, hv1 k hk hv⟩).chg hc fun k hk hv e => (h5 k e).2 hv.1
  exact ⟨fun k => V k ∧ own' ≠ some k, es, safe, own', snap, g1, fun k hk => h2 k hk.1, fun k hk => ⟨h3 k (by omega), hv2 k hk⟩, hO', fun g hg => ⟨hg1 g hg, fun hv => hv.2 hg⟩, h6.trans hc (fun k _ hv => (h5 k hv).1), h7, h8, h9, h10, h11, by omega, by omega⟩
end

set_option maxRecDepth 100000 in
set_option maxHeartbeats 8000000 in
theorem goes_walk {w : World} {A0 A2 : Option Addr} {n0 c0 n2 c2 : Nat} {ss : List ByteArray} {bs : List Bool} {base : Int} (ha0 : StrsArg w A0 n0 c0 ss) (hbase : -9223372036854775808 ≤ base ∧ base ≤ 9223372036854775807) (ha2 : BoolsArg w A2 n2 c2 bs) :
    Calls Try.prog 5 #[.slice A0 n0 c0, .int .i64 base, .slice A2 n2 c2] w (Known21 w) := by
  obtain ⟨hq0, hc0, hm0, -⟩ := ha0
  obtain ⟨hq2, hc2, hm2⟩ := ha2
  have hl0 : ss.length = n0 := by rw [← sv_length]; exact hq0.1
  have hl2 : bs.length = n2 := by have := hq2.1; rwa [List.length_map] at this
  have HL0 := Lib.hid hl0
  have HL2 := Lib.hid hl2
  have HQ0 := Lib.hid hq0
  have HQ2 := Lib.hid hq2
  obtain ⟨W, hW⟩ : ∃ W, w.heap.size = W := ⟨_, rfl⟩
  have HW := Lib.hid hW
  have HF := Lib.hid (fresh_calls (fun k => W ≤ k) w (fun k hk => by omega))
  clear hl0 hl2 hq0 hq2 hW
  go_enter Try.func5, Try.ntmps5
  go_wp2_with fail
  (with_reducible refine HF.out.mono ?_)
  rintro e w1 ⟨L, D, rfl, h1, k1⟩
  have z1 := k1.size
  have HG : Hid (GoesAt W w D ss 0 0 L 1 none 0 w1) := Lib.hid ⟨fun k => W ≤ k, [], 0, none, ⟨#[]⟩, h1, fun k hk => hk, fun k hk => by have := HW.out; omega, Own.nil_ _ _ _, (fun g hg => by cases hg), k1, by rw [eb_nil]; decide, Nat.le_refl _, Nat.le_refl _, by decide, Nat.zero_le _, Nat.zero_le _, by have := HW.out; omega⟩
  clear h1 k1 z1
  go_upto_block 0 with fail
  go_cut [8, 10, 11] (fun x o f wx => ∃ (k L F : Nat) (A : Option Addr) (c : Nat), x = .pointer (some ⟨L, 0, none⟩) ∧ o = .slice A k c ∧ f = .int .i64 (F : Int) ∧ k ≤ 20 ∧ 1 ≤ F ∧ k ≤ n0 ∧ Hid (GoesAt W w D ss k k L F A c wx))
  case first =>
    go_wp2_with fail
    go_loopw [12, 8, 10, 11] (fun i x o f wr => ∃ (k L F : Nat) (A : Option Addr) (c : Nat), i = .int .i64 (k : Int) ∧ x = .pointer (some ⟨L, 0, none⟩) ∧ o = .slice A k c ∧ f = .int .i64 (F : Int) ∧ k ≤ 20 ∧ k ≤ n0 ∧ 1 ≤ F ∧ F ≤ k + 1 ∧ Hid (GoesAt W w D ss k k L F A c wr)) (fun i _ _ _ _ => n0 - (intOf i).toNat)
    case atStart => exact ⟨0, L, 1, none, 0, rfl, rfl, rfl, rfl, Nat.zero_le _, Nat.zero_le _, Nat.le_refl _, Nat.le_refl _, HG⟩
    case round =>
      clear HG
      obtain ⟨k, L1, F, A, c, rfl, rfl, rfl, rfl, hk1, hk2, hF1, hF2, HG⟩ := hrel
      obtain ⟨w0, rfl⟩ : ∃ x : World, x = wr := ⟨_, rfl⟩
      by_cases hrun : k < n0 ∧ k < 20
      · obtain ⟨hlt, h20⟩ := hrun
        obtain ⟨s, hs⟩ : ∃ s, ss[k]? = some s := ⟨_, List.getElem?_eq_getElem (by rw [HL0.out]; exact hlt)⟩
        obtain ⟨b, off, hA, hb, hcell⟩ := HQ0.out.2 (by omega)
        subst hA
        have hbW : ¬ W ≤ b := by have := HW.out; omega
        have hcw := hcell k (.string s) (by simp [sv, hs])
        obtain ⟨_, _, _, _, _, _, _, _, _, _, ha0, -⟩ := HG.out
        have hc := ha0.cell hcw hbW
        have HC := Lib.hid hcw
        have HS := Lib.hid hs
        have HP := Lib.hid (HG.out.put (n := (k : Int) + 1) (by omega) hs h20)
        clear hcw hcell hs HG ha0
        go_wp2_with fail
        refine (few_calls _ s).mono ?_
        rintro e w2 ⟨rfl, rfl⟩
        go_wp2_with fail
        (with_reducible refine HP.out.mono ?_)
        rintro e w3 ⟨rfl, h3⟩
        obtain ⟨_, _, _, _, _, _, _, _, _, _, ha3, -⟩ := id h3
        have hc3 := ha3.cell HC.out hbW
        have H3 := Lib.hid h3
        clear h3 ha3 hc HP
        go_wp2_with fail
        refine (few_calls _ s).mono ?_
        rintro e w4 ⟨rfl, rfl⟩
        have ka := (Chg.refl (fun _ => False) w3).alloc (.cells #[.string (few21 s)] 9)
        have hsl := (Own.fresh w3 [.string (few21 s)] 9 (by simp)).cs
        obtain ⟨own, hwo⟩ := (H3.out.keep ka).withOwn
        have HWO := Lib.hid hwo
        have hOa := hwo.owned
        clear hwo
        go_wp2_with (at_builtin; refine wpList_append rfl _ _ 22 22 rfl 9 16 strsApp own A k c (sv (fews ss k)) [.string (few21 s)] _ rfl rfl hOa (by exact Src.slice hsl) (by intro u hu; simp at hu; subst hu; rfl) (k + 1) rfl (by omega) (by omega) ?_)
        intro own' A' c' w5 hO5 hor hchg
        have h5 := HWO.out.grow HS.out hO5 (by simpa using hor) hchg
        have H5 := Lib.hid h5
        clear h5 hO5 hor hchg hsl hOa ka hc3 H3
        go_wp2_with fail
        refine (Within_calls base 30 _ (by decide) (by decide) hbase.1 hbase.2).mono ?_
        rintro e w6 ⟨r, hr, rfl, rfl⟩
        go_upto_if 56 with fail
        go_cut [11] (fun f wx => ∃ F' : Nat, f = .int .i64 (F' : Int) ∧ 1 ≤ F' ∧ F' ≤ k + 2 ∧ Hid (GoesAt W w D ss (k + 1) (k + 1) L1 F' A' c' wx))
        case first =>
          by_cases hkr : k = r
          · subst hkr
            have HB := Lib.hid (H5.out.base (n := (k : Int) + 1) (by omega) (by omega) (by omega))
            go_wp2_with fail
            (with_reducible refine HB.out.mono ?_)
            rintro e w7 ⟨rfl, h7⟩
            have H7 := Lib.hid h7
            clear h7
            go_wp2_with fail
            go_meet
            exact ⟨k + 1, by go_num, by omega, by omega, H7⟩
          · have hkr1 : ((k : Int) == (r : Int)) = false := beq_eq_false_iff_ne.2 (by omega)
            have hkr2 : ¬ (k : Int) = (r : Int) := by omega
            go_wp2_with fail
            go_meet
            exact ⟨F, rfl, hF1, by omega, H5⟩
        case rest =>
          obtain ⟨F', rfl, hF1', hF2', H8⟩ := hcut
          obtain ⟨w8, rfl⟩ : ∃ x : World, x = wc := ⟨_, rfl⟩
          obtain ⟨_, _, _, _, _, _, _, _, _, _, ha8, -⟩ := id H8.out
          have hk2 : k < n2 ∨ ¬ k < n2 := by omega
          rcases hk2 with hk2 | hk2
          · obtain ⟨b2, off2, hA2, hb2, hcell2⟩ := HQ2.out.2 (by omega)
            subst hA2
            have hbW2 : ¬ W ≤ b2 := by have := HW.out; omega
            obtain ⟨u, hu⟩ : ∃ u, bs[k]? = some u := ⟨_, List.getElem?_eq_getElem (by rw [HL2.out]; exact hk2)⟩
            have hcu := ha8.cell (hcell2 k (.bool u) (by rw [List.getElem?_map, hu]; rfl)) hbW2
            clear hcell2 hu ha8
            cases u
            · go_wp2_with fail
              go_roundw
              case rel => exact ⟨k + 1, L1, F', A', c', by go_num, rfl, rfl, rfl, by omega, by omega, hF1', by omega, H8⟩
              case measure => simp [intOf]; omega
            · go_wp2_with fail
              have HSY := Lib.hid H8.out.sync
              (with_reducible refine HSY.out.mono ?_)
              rintro e w9 ⟨rfl, h9⟩
              have HOP := Lib.hid h9.open_
              clear h9 hcu
              go_wp2_with fail
              (with_reducible refine HOP.out.mono ?_)
              rintro e w10 ⟨L3, rfl, h10⟩
              have H10 := Lib.hid h10
              clear h10
              go_wp2_with fail
              go_roundw
              case rel => exact ⟨k + 1, L3, F', A', c', by go_num, rfl, rfl, rfl, by omega, by omega, hF1', by omega, H10⟩
              case measure => simp [intOf]; omega
          · clear ha8
            go_wp2_with fail
            go_roundw
            case rel => exact ⟨k + 1, L1, F', A', c', by go_num, rfl, rfl, rfl, by omega, by omega, hF1', by omega, H8⟩
            case measure => simp [intOf]; omega
      · have hcase : ¬ k < n0 ∨ (k < n0 ∧ ¬ k < 20) := by omega
        clear hrun
        rcases hcase with hIn | ⟨hIn, hI8⟩
        all_goals
          go_wp2_with fail
          go_meet
          exact ⟨k, L1, F, A, c, rfl, rfl, rfl, by omega, hF1, by omega, HG⟩
  case rest =>
    obtain ⟨k, L1, F, A, c, rfl, rfl, rfl, hk, hF, hkn, H2⟩ := hcut
    obtain ⟨w2, rfl⟩ : ∃ x : World, x = wc := ⟨_, rfl⟩
    have HFI := Lib.hid H2.out.first
    have HNX := Lib.hid (H2.out.next (n := (k : Int) + 1) rfl)
    go_wp2_with fail
    (with_reducible refine HFI.out.mono ?_)
    rintro e w3 ⟨rfl, rfl⟩
    go_wp2_with fail
    (with_reducible refine HNX.out.mono ?_)
    rintro e w4 ⟨rfl, q4, rfl⟩
    have H4 := Lib.hid (H2.out.keep ((Chg.refl (fun _ => False) w2).drewN q4))
    obtain ⟨w5, hw5⟩ : ∃ w5, w2.drewN q4 = w5 := ⟨_, rfl⟩
    rw [hw5] at H4 ⊢
    clear hw5 HFI HNX H2
    go_wp2_with fail
    go_loopw [15] (fun i wr => ∃ j : Nat, i = .int .i64 (j : Int) ∧ F ≤ j ∧ (j ≤ k + 1 ∨ j = F) ∧ Hid (GoesAt W w D ss k k L1 F A c wr)) (fun i _ => k + 1 - (intOf i).toNat)
    case atStart => exact ⟨F, rfl, Nat.le_refl _, .inr rfl, H4⟩
    case round =>
      clear H4
      obtain ⟨j, rfl, hj1, hj2, HR⟩ := hrel
      obtain ⟨w0, rfl⟩ : ∃ x : World, x = wr := ⟨_, rfl⟩
      by_cases hlt : j ≤ k
      · have hlen : (fews ss k).length = k := fews_length (by rw [HL0.out]; omega)
        obtain ⟨s, hs⟩ : ∃ s, (fews ss k)[j - 1]? = some s := ⟨_, List.getElem?_eq_getElem (by rw [hlen]; omega)⟩
        have HG := Lib.hid (HR.out.get hj1 hs)
        obtain ⟨own, hwo⟩ := HR.out.withOwn
        obtain ⟨b, off, hA, -, hcell⟩ := hwo.owned.cs.2 (by omega)
        subst hA
        have hcx := hcell (j - 1) (.string s) (by simp [sv, hs])
        have hji : (j : Int) - 1 = ((j - 1 : Nat) : Int) := by omega
        have hjl : ((j - 1 : Nat) : Int) < (k : Int) := by omega
        have hj0 : (0 : Int) ≤ (j : Int) - 1 := by omega
        clear hlen hs hwo hcell
        go_wp2_with fail
        (with_reducible refine HG.out.mono ?_)
        rintro e w6 ⟨rfl, q6, rfl⟩
        go_wp2_with fail
        go_roundw
        case rel => exact ⟨j + 1, by go_num, by omega, by omega, Lib.hid (HR.out.keep ((Chg.refl (fun _ => False) w0).drewN q6))⟩
        case measure => simp [intOf]; omega
      · go_wp2_with fail
        obtain ⟨_, _, _, _, _, _, _, _, _, _, ha, -⟩ := HR.out
        refine (known_calls _).mono ?_
        rintro e w6 ⟨rfl, k6⟩
        go_wp2_with fail
        go_ret
        exact ⟨rfl, (ha.trans k6 (fun _ _ h => h.elim)).new fun i hi h => by have := HW.out; omega⟩
end Go.Proofs.Ytlnjadnddldjeaa
