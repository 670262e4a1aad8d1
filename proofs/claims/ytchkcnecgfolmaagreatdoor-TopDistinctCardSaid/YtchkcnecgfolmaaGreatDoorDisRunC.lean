/-
  Regions that draw their order are right; what a call gave once serves again; code in which a coin is thrown. No condition of ours.
-/
import Derived.Test.YtchkcnecgfolmaaGreatDoorDisRunB
import Derived.Orders
namespace Go.Proofs.YtchkcnecgfolmaaGreatDoor.Ev
open Go
set_option linter.unusedSectionVars false
set_option linter.unusedVariables false
set_option linter.unusedSimpArgs false
variable [Sig] {P : Program}

/-- the environment, so many operations on -/
noncomputable def envFrom (K : Tmps) : List Oper → List AVal → Env → Env
  | o :: rest, v :: vs, e => envFrom K rest vs (putE e v (dstOf K o))
  | _, _, e => e
/-- the states ahead of the effects -/
noncomputable def effSt : List DI → List St → List St
  | d :: ds, s :: ss => sel d.eff (s :: effSt ds ss) (effSt ds ss)
  | _, _ => []
/-- one step of the run in the text's order -/
def StepP (P : Program) (call : CallF) (K : Tmps) (ops : Array Oper) (e0 : Env) (j : Nat) (o : Oper) (al : Al) (l : List AVal) (s1 : St) (v : AVal) (s2 : St) : Prop :=
  dstIn K o = true ∧ s1.next ≤ s2.next ∧ lowV s2.next v = true ∧ ((wanted l e0 (guardOf (copd j al) ops o) = .yes ∧ (comp (copd j al) P call o.op).run l e0 s1 = .ok v s2) ∨ (wanted l e0 (guardOf (copd j al) ops o) = .no ∧ v = aundef ∧ s2 = s1))

theorem stepD_ok {go : List AVal → Env → St → List St → DRes} {l l' : List AVal} {e0 e e' : Env} {s s' : St} {ss ss' : List St} {run : Cl} {d : Option (List Bool)} {g : Option (AOpd × Bool)} {eff : Bool}
    (h : stepD go l e0 e s ss (.mk run d g) eff = .ok l' e' s' ss') :
    ∃ v s1, s.next ≤ s1.next ∧ lowV s1.next v = true ∧ ((wanted l e0 g = .yes ∧ run.run l e0 s = .ok v s1) ∨ (wanted l e0 g = .no ∧ v = aundef ∧ s1 = s)) ∧ go (v :: l) (putE e v d) s1 (sel eff (s :: ss) ss) = .ok l' e' s' ss' := by
  have h : @Wt.rec (fun _ => DRes) (@R.rec (fun _ => DRes) (fun v s' => sel (Bool.and (Nat.ble s.next s'.next) (lowV s'.next v)) (go (v :: l) (putE e v d) s' (sel eff (s :: ss) ss)) .bad) .bad (run.run l e0 s))
    (go (aundef :: l) (putE e aundef d) s (sel eff (s :: ss) ss)) .bad (wanted l e0 g) = .ok l' e' s' ss' := h
  cases hw : wanted l e0 g with
  | yes =>
    rw [hw] at h
    cases hr : run.run l e0 s with
    | bad => rw [hr] at h; cases h
    | ok v s1 =>
      rw [hr] at h
      have h : sel (Bool.and (Nat.ble s.next s1.next) (lowV s1.next v)) (go (v :: l) (putE e v d) s1 (sel eff (s :: ss) ss)) .bad = .ok l' e' s' ss' := h
      cases hb : Bool.and (Nat.ble s.next s1.next) (lowV s1.next v)
      · rw [hb] at h; cases h
      · rw [hb] at h
        rw [Bool.and_eq_true] at hb
        exact ⟨v, s1, ble_is hb.1, hb.2, .inl ⟨rfl, rfl⟩, h⟩
  | no => rw [hw] at h; exact ⟨aundef, s, Nat.le_refl _, rfl, .inr ⟨rfl, rfl, rfl⟩, h⟩
  | bad => rw [hw] at h; cases h

/-- the run, step by step -/
theorem trace {call : CallF} {K : Tmps} {ops : Array Oper} {dis : List DI} {e0 : Env} : ∀ (rest : List Oper) (ds : List DI) (n : Nat) (al : Al) (l L : List AVal) (e E : Env) (s S : St) (ss SS : List St), ds.length = rest.length →
    runD e0 (dinsOf P call K ops dis rest ds n al) l e s ss = .ok L E S SS →
    ∃ (vs : List AVal) (sts : List St), vs.length = rest.length ∧ sts.length = rest.length ∧ L = vs.reverse ++ l ∧ E = envFrom K rest vs e ∧ SS = (effSt ds sts).reverse ++ ss ∧ (sts ++ [S])[0]? = some s ∧
      ∀ k o, rest[k]? = some o → ∃ v s1 s2, vs[k]? = some v ∧ sts[k]? = some s1 ∧ (sts ++ [S])[k + 1]? = some s2 ∧ StepP P call K ops e0 (n + k) o (alFrom rest n al k) ((vs.take k).reverse ++ l) s1 v s2
  | [], ds, n, al, l, L, e, E, s, S, ss, SS, hd, h => by
    cases h
    refine ⟨[], [], rfl, rfl, rfl, rfl, ?_, rfl, fun k o hk => by simp at hk⟩
    cases ds with
    | nil => rfl
    | cons d ds => cases hd
  | o :: rest, [], n, al, l, L, e, E, s, S, ss, SS, hd, h => by cases hd
  | o :: rest, d :: ds, n, al, l, L, e, E, s, S, ss, SS, hd, h => by
    cases hdi : dstIn K o
    · have h : stepD (runD e0 (dinsOf P call K ops dis rest ds (n + 1) (alAfter n al o))) l e0 e s ss (insOf P call K ops n al o) d.eff = .ok L E S SS := h
      unfold insOf at h
      rw [hdi] at h
      cases h
    · have h : stepD (runD e0 (dinsOf P call K ops dis rest ds (n + 1) (alAfter n al o))) l e0 e s ss (insOf P call K ops n al o) d.eff = .ok L E S SS := h
      unfold insOf at h
      rw [hdi] at h
      obtain ⟨v, s1, h1, hlow, h2, h3⟩ := stepD_ok h
      obtain ⟨vs, sts, h4, h5, h6, h7, h8, h9, h10⟩ := trace rest ds (n + 1) (alAfter n al o) (v :: l) L _ E s1 S _ SS (by simpa using hd) h3
      refine ⟨v :: vs, s :: sts, by rw [List.length_cons, List.length_cons, h4], by rw [List.length_cons, List.length_cons, h5], by rw [h6]; simp, h7, ?_, rfl, fun k o' hk => ?_⟩
      · rw [h8]
        show _ = (sel d.eff (s :: effSt ds sts) (effSt ds sts)).reverse ++ ss
        cases d.eff
        · rfl
        · show (effSt ds sts).reverse ++ (s :: ss) = (s :: effSt ds sts).reverse ++ ss
          simp
      · cases k with
        | zero =>
          cases hk
          exact ⟨v, s, s1, rfl, rfl, h9, hdi, h1, hlow, h2⟩
        | succ k =>
          obtain ⟨v', t1, t2, g1, g2, g3, g4⟩ := h10 k o' hk
          refine ⟨v', t1, t2, g1, g2, g3, ?_⟩
          have e1 : n + 1 + k = n + (k + 1) := by omega
          have e2 : (vs.take k).reverse ++ (v :: l) = ((v :: vs).take (k + 1)).reverse ++ l := by simp
          rw [e1, e2] at g4
          exact g4
end Go.Proofs.YtchkcnecgfolmaaGreatDoor.Ev
namespace Go.Proofs.YtchkcnecgfolmaaGreatDoor.Ev
open Go
set_option linter.unusedSectionVars false
set_option linter.unusedVariables false
set_option linter.unusedSimpArgs false
variable [Sig] {P : Program}

theorem alFrom_succ : ∀ (rest : List Oper) (n : Nat) (al : Al) (k : Nat) {o : Oper}, rest[k]? = some o → alFrom rest n al (k + 1) = alAfter (n + k) (alFrom rest n al k) o
  | [], n, al, k, o, h => by simp at h
  | x :: rest, n, al, 0, o, h => by
    cases h
    cases rest <;> rfl
  | x :: rest, n, al, k + 1, o, h => by
    have := alFrom_succ rest (n + 1) (alAfter n al x) k h
    rw [show n + 1 + k = n + (k + 1) by omega] at this
    exact this

/-- where an operation's result goes -/
def dstAt (ops : List Oper) (j : Nat) : Option Tmp := (ops[j]?).bind (·.dst)
/-- the last that wrote a temporary, ahead of one -/
theorem tmpOf_last (ops : List Oper) (n : Nat) (t : Tmp) : ∀ (j : Nat), j ≤ ops.length →
    (∃ i, i < j ∧ dstAt ops i = some t ∧ (∀ k, i < k → k < j → dstAt ops k ≠ some t) ∧ tmpOf n (alFrom ops 0 .nil j) t = .loc (n - 1 - i)) ∨
    ((∀ k, k < j → dstAt ops k ≠ some t) ∧ tmpOf n (alFrom ops 0 .nil j) t = .tmp (bits t))
  | 0, _ => .inr ⟨fun k h => by omega, by cases ops <;> rfl⟩
  | j + 1, h => by
    have hj : ops[j]? = some ops[j] := List.getElem?_eq_getElem (by omega)
    have hs := alFrom_succ ops 0 .nil j hj
    rw [Nat.zero_add] at hs
    have hd : dstAt ops j = ops[j].dst := by unfold dstAt; rw [hj]; rfl
    rw [hs]
    unfold alAfter
    cases ho : ops[j].dst with
    | none =>
      rcases tmpOf_last ops n t j (by omega) with ⟨i, h1, h2, h3, h4⟩ | ⟨h1, h2⟩
      · refine .inl ⟨i, by omega, h2, fun k hk hkj => ?_, h4⟩
        by_cases e : k = j
        · subst e; rw [hd, ho]; exact fun h => by cases h
        · exact h3 k hk (by omega)
      · refine .inr ⟨fun k hk => ?_, h2⟩
        by_cases e : k = j
        · subst e; rw [hd, ho]; exact fun h => by cases h
        · exact h1 k (by omega)
    | some d =>
      by_cases htd : t = d
      · subst htd
        refine .inl ⟨j, by omega, by rw [hd, ho], fun k hk hkj => by omega, ?_⟩
        simp only [tmpOf, beqt]
        rfl
      · have hne : dstAt ops j ≠ some t := by rw [hd, ho]; exact fun h => htd (by cases h; rfl)
        rcases tmpOf_last ops n t j (by omega) with ⟨i, h1, h2, h3, h4⟩ | ⟨h1, h2⟩
        · refine .inl ⟨i, by omega, h2, fun k hk hkj => ?_, ?_⟩
          · by_cases e : k = j
            · subst e; exact hne
            · exact h3 k hk (by omega)
          · simp only [tmpOf, beqf htd]
            exact h4
        · refine .inr ⟨fun k hk => ?_, ?_⟩
          · by_cases e : k = j
            · subst e; exact hne
            · exact h1 k (by omega)
          · simp only [tmpOf, beqf htd]
            exact h2
theorem evalO_last {ops : List Oper} {vs : List AVal} {e0 : Env} {j : Nat} (hj : j ≤ ops.length) (hv : vs.length = ops.length) {t : Tmp} {v : AVal} (h : evalO (vs.take j).reverse e0 (tmpOf j (alFrom ops 0 .nil j) t) = .ok v) :
    (∃ i, i < j ∧ dstAt ops i = some t ∧ (∀ k, i < k → k < j → dstAt ops k ≠ some t) ∧ vs[i]? = some v) ∨ ((∀ k, k < j → dstAt ops k ≠ some t) ∧ e0.get t = some v) := by
  rcases tmpOf_last ops j t j hj with ⟨i, h1, h2, h3, h4⟩ | ⟨h1, h2⟩
  · rw [h4] at h
    have h := nthV_eq _ (h : nthV (j - 1 - i) (vs.take j).reverse = .ok v)
    refine .inl ⟨i, h1, h2, h3, ?_⟩
    rw [List.getElem?_reverse (by rw [List.length_take]; omega), List.length_take, List.getElem?_take] at h
    have e1 : min j vs.length - 1 - (j - 1 - i) = i := by omega
    rw [e1, if_pos h1] at h
    exact h
  · rw [h2] at h
    exact .inr ⟨h1, ofO_ok h⟩

/- what comes before what -/
def bfAt (bfs : List Nat) (j i : Nat) : Prop := ∃ b, bfs[j]? = some b ∧ Nat.testBit b i = true
theorem nthN_eq : ∀ (l : List Nat) (n : Nat), nthN l n = (l[n]?).getD 0
  | [], n => by cases n <;> rfl
  | a :: l, 0 => rfl
  | a :: l, n + 1 => by
    show nthN l n = _
    rw [nthN_eq l n]
    simp
theorem bfOf_bit (acc : List Nat) (i : Nat) : ∀ (es : List Edge), Nat.testBit (bfOf acc es) i = true → ∃ e ∈ es, Region.binds .any e = true ∧ (e.on = i ∨ bfAt acc e.on i)
  | [], h => by simp [bfOf] at h
  | e :: es, h => by
    simp only [bfOf] at h
    cases hb : Region.binds .any e
    · rw [hb] at h
      obtain ⟨e', h1, h2⟩ := bfOf_bit acc i es h
      exact ⟨e', List.mem_cons_of_mem _ h1, h2⟩
    · rw [hb] at h
      have h : Nat.testBit (Nat.lor (Nat.lor (Nat.pow 2 e.on) (nthN acc e.on)) (bfOf acc es)) i = true := h
      have h : (2 ^ e.on ||| nthN acc e.on ||| bfOf acc es).testBit i = true := h
      rw [Nat.testBit_or, Nat.testBit_or, Bool.or_eq_true, Bool.or_eq_true] at h
      rcases h with (h | h) | h
      · rw [Nat.testBit_two_pow] at h
        exact ⟨e, List.mem_cons_self .., hb, .inl (by simpa using h)⟩
      · refine ⟨e, List.mem_cons_self .., hb, .inr ?_⟩
        rw [nthN_eq] at h
        cases ha : acc[e.on]? with
        | none => rw [ha] at h; simp at h
        | some b => rw [ha] at h; exact ⟨b, ha, h⟩
      · obtain ⟨e', h1, h2⟩ := bfOf_bit acc i es h
        exact ⟨e', List.mem_cons_of_mem _ h1, h2⟩
theorem bfsOf_pre : ∀ (l : List Oper) (acc : List Nat), ∃ t, bfsOf l acc = acc ++ t ∧ t.length = l.length
  | [], acc => ⟨[], by simp [bfsOf], rfl⟩
  | o :: l, acc => by
    obtain ⟨t, h1, h2⟩ := bfsOf_pre l (acc ++ [bfOf acc o.after.toList])
    exact ⟨bfOf acc o.after.toList :: t, by simp only [bfsOf]; rw [h1]; simp, by simp [h2]⟩
theorem bfsOf_at : ∀ (l : List Oper) (acc : List Nat) (k : Nat) {o : Oper}, l[k]? = some o → (bfsOf l acc)[acc.length + k]? = some (bfOf ((bfsOf l acc).take (acc.length + k)) o.after.toList)
  | [], acc, k, o, h => by simp at h
  | x :: l, acc, 0, o, h => by
    cases h
    obtain ⟨t, h1, h2⟩ := bfsOf_pre l (acc ++ [bfOf acc x.after.toList])
    simp only [bfsOf]
    rw [h1]
    have e1 : (acc ++ [bfOf acc x.after.toList] ++ t).take (acc.length + 0) = acc := by simp
    rw [e1, Nat.add_zero]
    simp
  | x :: l, acc, k + 1, o, h => by
    have := bfsOf_at l (acc ++ [bfOf acc x.after.toList]) k (o := o) h
    rw [List.length_append, List.length_singleton, show acc.length + 1 + k = acc.length + (k + 1) by omega] at this
    exact this
theorem bfAt_take {bfs : List Nat} {j e i : Nat} (h : bfAt (bfs.take j) e i) : bfAt bfs e i := by
  obtain ⟨b, h1, h2⟩ := h
  rw [List.getElem?_take] at h1
  split at h1
  · exact ⟨b, h1, h2⟩
  · cases h1
/-- closed: with each, all that come before it -/
def Closed (bfs : List Nat) (D : Nat → Prop) : Prop := ∀ j, D j → ∀ i, bfAt bfs j i → D i
/-- what is ready has all before it -/
theorem ready_closed {ops : List Oper} {D : Nat → Prop} (hD : Closed (bfsOf ops []) D) {j : Nat} {o : Oper} (ho : ops[j]? = some o) (hr : ∀ e ∈ o.after.toList, Region.binds .any e = true → D e.on) :
    ∀ i, bfAt (bfsOf ops []) j i → D i := by
  intro i hi
  obtain ⟨b, h1, h2⟩ := hi
  have h3 := bfsOf_at ops [] j ho
  rw [List.length_nil, Nat.zero_add, h1] at h3
  cases h3
  obtain ⟨e, h4, h5, h6⟩ := bfOf_bit _ i _ h2
  rcases h6 with rfl | h6
  · exact hr e h4 h5
  · exact hD _ (hr e h4 h5) i (bfAt_take h6)

theorem disOf_at {P : Program} {ops : Array Oper} : ∀ (l : List Oper) (bfs : List Nat) (j : Nat) {o : Oper} {b : Nat}, l[j]? = some o → bfs[j]? = some b → (disOf P ops l bfs)[j]? = some (diOf P ops o b)
  | [], _, _, _, _, h, _ => by simp at h
  | x :: l, [], j, _, _, _, h => by simp at h
  | x :: l, b :: bfs, 0, _, _, h, k => by cases h; cases k; rfl
  | x :: l, b :: bfs, j + 1, _, _, h, k => disOf_at l bfs j h k
theorem disOf_length {P : Program} {ops : Array Oper} : ∀ (l : List Oper) (bfs : List Nat), bfs.length = l.length → (disOf P ops l bfs).length = l.length
  | [], _, _ => rfl
  | x :: l, [], h => by cases h
  | x :: l, b :: bfs, h => by
    show (diOf P ops x b :: disOf P ops l bfs).length = _
    rw [List.length_cons, disOf_length l bfs (by simpa using h), List.length_cons]

theorem oneOK_ok {y : DI} : ∀ (pre : List DI) (i : Nat), oneOK y pre i = true → ∀ (k : Nat) (x : DI), pre[k]? = some x → clash x y = true → Nat.testBit y.bf (i + k) = true
  | [], _, _, k, x, h, _ => by simp at h
  | z :: pre, i, h, k, x, hk, hc => by
    simp only [oneOK] at h
    cases k with
    | zero =>
      cases hk
      rw [hc] at h
      have h : sel (Nat.testBit y.bf i) (oneOK y pre (i + 1)) false = true := h
      rcases sel_eq h with ⟨h1, _⟩ | ⟨_, h1⟩
      · rw [Nat.add_zero]; exact h1
      · cases h1
    | succ k =>
      have h1 : oneOK y pre (i + 1) = true := by
        rcases sel_eq h with ⟨_, h1⟩ | ⟨_, h1⟩
        · rcases sel_eq h1 with ⟨_, h2⟩ | ⟨_, h2⟩
          · exact h2
          · cases h2
        · exact h1
      have := oneOK_ok pre (i + 1) h1 k x hk hc
      rw [show i + 1 + k = i + (k + 1) by omega] at this
      exact this
theorem headsOK_ok : ∀ (l pre : List DI), headsOK pre l = true → ∀ (j : Nat) (y : DI), l[j]? = some y → ∀ (i : Nat) (x : DI), (pre ++ l)[i]? = some x → i < pre.length + j → clash x y = true → Nat.testBit y.bf i = true
  | [], _, _, j, y, h, _, _, _, _, _ => by simp at h
  | z :: l, pre, h, j, y, hj, i, x, hi, hlt, hc => by
    simp only [headsOK] at h
    rcases sel_eq h with ⟨h1, h2⟩ | ⟨_, h2⟩
    · cases j with
      | zero =>
        cases hj
        rw [List.getElem?_append_left (by omega)] at hi
        have := oneOK_ok pre 0 h1 i x hi hc
        rw [Nat.zero_add] at this
        exact this
      | succ j =>
        refine headsOK_ok l (pre ++ [z]) h2 j y hj i x (by rw [List.append_assoc]; exact hi) ?_ hc
        rw [List.length_append, List.length_singleton]
        omega
    · cases h2
end Go.Proofs.YtchkcnecgfolmaaGreatDoor.Ev
namespace Go.Proofs.YtchkcnecgfolmaaGreatDoor.Ev
open Go
set_option linter.unusedSectionVars false
set_option linter.unusedVariables false
set_option linter.unusedSimpArgs false
variable [Sig] {P : Program}

/-- how many effects there are ahead of one -/
def cnt : List DI → Nat → Nat
  | [], _ => 0
  | _ :: _, 0 => 0
  | x :: l, p + 1 => (if x.eff = true then 1 else 0) + cnt l p
theorem lo_le (bf : Nat) : ∀ (l : List DI) (i p : Nat), (∀ k x, l[k]? = some x → x.eff = true → Nat.testBit bf (i + k) = true → k < p) → loOf bf l i ≤ cnt l p
  | [], i, p, h => Nat.le_refl _
  | x :: l, i, p, h => by
    simp only [loOf]
    cases hc : Bool.and x.eff (Nat.testBit bf i)
    · show loOf bf l (i + 1) ≤ _
      cases p with
      | zero =>
        refine Nat.le_trans (lo_le bf l (i + 1) 0 fun k y hk he hb => ?_) (by cases l <;> exact Nat.le_refl _)
        have := h (k + 1) y hk he (by rw [show i + (k + 1) = i + 1 + k by omega]; exact hb)
        omega
      | succ p =>
        have := lo_le bf l (i + 1) p fun k y hk he hb => by
          have := h (k + 1) y hk he (by rw [show i + (k + 1) = i + 1 + k by omega]; exact hb)
          omega
        simp only [cnt]
        omega
    · show loOf bf l (i + 1) + 1 ≤ _
      rw [Bool.and_eq_true] at hc
      have h0 := h 0 x rfl hc.1 (by rw [Nat.add_zero]; exact hc.2)
      cases p with
      | zero => omega
      | succ p =>
        have := lo_le bf l (i + 1) p fun k y hk he hb => by
          have := h (k + 1) y hk he (by rw [show i + (k + 1) = i + 1 + k by omega]; exact hb)
          omega
        simp only [cnt, hc.1, if_true]
        omega
theorem le_hi (j : Nat) : ∀ (l : List DI) (p : Nat), (∀ k x, l[k]? = some x → k < p → x.eff = true → Nat.testBit x.bf j = false) → cnt l p ≤ hiOf j l
  | [], p, h => Nat.le_refl _
  | x :: l, 0, h => Nat.zero_le _
  | x :: l, p + 1, h => by
    have ih := le_hi j l p fun k y hk hp he => h (k + 1) y hk (by omega) he
    simp only [cnt, hiOf]
    cases he : x.eff
    · show (if false = true then 1 else 0) + cnt l p ≤ hiOf j l
      simpa using ih
    · have := h 0 x rfl (by omega) he
      rw [this]
      show (if true = true then 1 else 0) + cnt l p ≤ hiOf j l + 1
      simp
      omega
theorem effSt_at (S : St) : ∀ (ds : List DI) (sts : List St) (p : Nat), ds.length = sts.length → (p = ds.length ∨ ∃ x, ds[p]? = some x ∧ x.eff = true) → (effSt ds sts ++ [S])[cnt ds p]? = (sts ++ [S])[p]?
  | [], [], p, _, h => by
    rcases h with rfl | ⟨x, h, _⟩
    · rfl
    · simp at h
  | [], _ :: _, _, h, _ => by cases h
  | _ :: _, [], _, h, _ => by cases h
  | d :: ds, s :: sts, 0, h, hp => by
    rcases hp with h0 | ⟨x, h0, h1⟩
    · cases h0
    · cases h0
      show (sel d.eff (s :: effSt ds sts) (effSt ds sts) ++ [S])[0]? = _
      rw [h1]
      rfl
  | d :: ds, s :: sts, p + 1, h, hp => by
    have ih := effSt_at S ds sts p (by simpa using h) (by
      rcases hp with h0 | ⟨x, h0, h1⟩
      · exact .inl (by simpa using h0)
      · exact .inr ⟨x, h0, h1⟩)
    show (sel d.eff (s :: effSt ds sts) (effSt ds sts) ++ [S])[(if d.eff = true then 1 else 0) + cnt ds p]? = _
    cases d.eff
    · show (effSt ds sts ++ [S])[(if false = true then 1 else 0) + cnt ds p]? = (sts ++ [S])[p]?
      simpa using ih
    · show (s :: (effSt ds sts ++ [S]))[(if true = true then 1 else 0) + cnt ds p]? = (sts ++ [S])[p]?
      rw [if_pos rfl, Nat.add_comm, List.getElem?_cons_succ]
      exact ih

mutual
theorem sameV_eq : ∀ (a b : AVal), sameV a b = true → a = b
  | .bool a, b, h => by
    cases b <;> first | (cases h; done) | (have h : beqB _ _ = true := h; rw [beqB_eq] at h; rw [eq_of_beq h])
  | .int j a, b, h => by
    cases b <;> first
      | (cases h; done)
      | (have h : Bool.and (keq _ _) (ieq _ _) = true := h; rw [Bool.and_eq_true, ieq_eq] at h; rw [keq_eq h.1, eq_of_beq h.2])
  | .flt j a, b, h => by
    cases b <;> first
      | (cases h; done)
      | (have h : Bool.and (fkeq _ _) (Nat.beq _ _) = true := h; rw [Bool.and_eq_true] at h; rw [fkeq_eq h.1, beq_is h.2])
  | .cplx j a c, b, h => by
    cases b <;> first
      | (cases h; done)
      | (have h : Bool.and (fkeq _ _) (Bool.and (Nat.beq _ _) (Nat.beq _ _)) = true := h; rw [Bool.and_eq_true, Bool.and_eq_true] at h; rw [fkeq_eq h.1, beq_is h.2.1, beq_is h.2.2])
  | .str a, b, h => by
    cases b <;> first
      | (cases h; done)
      | (have h : beqBytes _ _ = true := h; rw [beqBytes_eq] at h; rw [eq_of_beq h])
  | .nilptr, b, h => by cases b <;> first | rfl | cases h
  | .ptr i a, b, h => by
    cases b <;> first
      | (cases h; done)
      | (have h : Bool.and (Nat.beq _ _) (Nat.beq _ _) = true := h; rw [Bool.and_eq_true] at h; rw [beq_is h.1, beq_is h.2])
  | .nilslice, b, h => by cases b <;> first | rfl | cases h
  | .eslice, b, h => by cases b <;> first | rfl | cases h
  | .slice i a n c, b, h => by
    cases b with
    | slice j b m d =>
      cases c <;> cases d
      · have h : Bool.and (Nat.beq _ _) (Bool.and (Nat.beq _ _) (Nat.beq _ _)) = true := h
        rw [Bool.and_eq_true, Bool.and_eq_true] at h
        rw [beq_is h.1, beq_is h.2.1, beq_is h.2.2]
      · cases h
      · cases h
      · have h : Bool.and (Nat.beq _ _) (Bool.and (Nat.beq _ _) (Bool.and (Nat.beq _ _) (Nat.beq _ _))) = true := h
        rw [Bool.and_eq_true, Bool.and_eq_true, Bool.and_eq_true] at h
        rw [beq_is h.1, beq_is h.2.1, beq_is h.2.2.1, beq_is h.2.2.2]
    | _ => cases c <;> cases h
  | .nilmap, b, h => by cases b <;> first | rfl | cases h
  | .map i, b, h => by
    cases b <;> first
      | (cases h; done)
      | (have h : Nat.beq _ _ = true := h; rw [beq_is h])
  | .func f a c, b, h => by
    cases b with
    | func g a' c' =>
      have h : Bool.and (Nat.beq f g) (Bool.and (sameVs a a') (sameVs c c')) = true := h
      rw [Bool.and_eq_true, Bool.and_eq_true] at h
      rw [beq_is h.1, sameVs_eq a a' h.2.1, sameVs_eq c c' h.2.2]
    | _ => cases h
  | .nilfunc, b, h => by cases b <;> first | rfl | cases h
  | .nilIface, b, h => by cases b <;> first | rfl | cases h
  | .iface t a, b, h => by
    cases b with
    | iface u b =>
      have h : Bool.and (Nat.beq t u) (sameV a b) = true := h
      rw [Bool.and_eq_true] at h
      rw [beq_is h.1, sameV_eq a b h.2]
    | _ => cases h
  | .agg a, b, h => by
    cases b with
    | agg b => rw [sameVs_eq a b h]
    | _ => cases h
  | .tuple a, b, h => by
    cases b with
    | tuple b => rw [sameVs_eq a b h]
    | _ => cases h
  | .sint j c a b, x, h => by
    cases x with
    | sint k d e f =>
      have h : Bool.and (keq _ _) (Bool.and (ieq _ _) (Bool.and (ieq _ _) (ieq _ _))) = true := h
      rw [Bool.and_eq_true, Bool.and_eq_true, Bool.and_eq_true, ieq_eq, ieq_eq, ieq_eq] at h
      rw [keq_eq h.1, eq_of_beq h.2.1, eq_of_beq h.2.2.1, eq_of_beq h.2.2.2]
    | _ => cases h
  | .raw a, b, h => by
    cases b <;> first | (cases h; done) | (have h : beqB _ _ = true := h; rw [beqB_eq] at h; rw [eq_of_beq h])
theorem sameVs_eq : ∀ (a b : List AVal), sameVs a b = true → a = b
  | [], [], _ => rfl
  | [], _ :: _, h => by simp [sameVs] at h
  | _ :: _, [], h => by simp [sameVs] at h
  | x :: xs, y :: ys, h => by
    simp only [sameVs, Bool.and_eq_true] at h
    rw [sameV_eq x y h.1, sameVs_eq xs ys h.2]
end
end Go.Proofs.YtchkcnecgfolmaaGreatDoor.Ev
namespace Go.Proofs.YtchkcnecgfolmaaGreatDoor.Ev
open Go
set_option linter.unusedSectionVars false
set_option linter.unusedVariables false
set_option linter.unusedSimpArgs false
variable [Sig] {P : Program} {X : Nat → Nat → Prop}

/-- the temporaries that an operation reads -/
def readsAt (ops : Array Oper) (o : Oper) : List Tmp := tmpsIn o.op.operands.toList ++ guardTmp ops o
def isEff (P : Program) (ops : Array Oper) (j : Nat) : Prop := ∃ o, ops.toList[j]? = some o ∧ (kdOf P o.op).isE = true
/-- what is known of a region whose check went well -/
structure Plan (X : Nat → Nat → Prop) (P : Program) (call : CallF) (K : Tmps) (ops : Array Oper) (e0 : Env) (vs : List AVal) (st : Nat → St) : Prop where
  len : vs.length = ops.toList.length
  step : ∀ j o, ops.toList[j]? = some o → ∃ v, vs[j]? = some v ∧ StepP P call K ops e0 j o (alFrom ops.toList 0 .nil j) (vs.take j).reverse (st j) v (st (j + 1))
  back : ∀ j o, ops.toList[j]? = some o → ∀ e ∈ o.after.toList, Region.binds .any e = true → e.on < j
  reads : ∀ i j o t, ops.toList[j]? = some o → t ∈ readsAt ops o → dstAt ops.toList i = some t → (i < j → bfAt (bfsOf ops.toList []) j i) ∧ (j < i → bfAt (bfsOf ops.toList []) i j)
  writes : ∀ i j t, i < j → dstAt ops.toList i = some t → dstAt ops.toList j = some t → bfAt (bfsOf ops.toList []) j i
  effs : ∀ i j, i < j → ¬ X i j → isEff P ops i → isEff P ops j → bfAt (bfsOf ops.toList []) j i
  look : ∀ j o v, ops.toList[j]? = some o → kdOf P o.op = .look → vs[j]? = some v → wanted (vs.take j).reverse e0 (guardOf (copd j (alFrom ops.toList 0 .nil j)) ops o) = .yes →
    ∀ p, (p = ops.toList.length ∨ isEff P ops p) → (∀ i, isEff P ops i → bfAt (bfsOf ops.toList []) j i → i < p) → (∀ i, isEff P ops i → i < p → ¬ bfAt (bfsOf ops.toList []) i j) →
      ∃ s', (comp (copd j (alFrom ops.toList 0 .nil j)) P call o.op).run (vs.take j).reverse e0 (st p) = .ok v s'

theorem hasN_mem {n : Nat} : ∀ {l : List Nat}, hasN n l = true ↔ n ∈ l
  | [] => by simp [hasN]
  | m :: l => by
    rw [hasN_ok]
    simp
theorem inO_iff {o : Option Tmp} {l : List Tmp} : inO o l = true ↔ ∃ t, o = some t ∧ t ∈ l := by
  cases o with
  | none => simp [inO]
  | some t => simp [inO, hasN_mem]
theorem clash_reads1 {x y : DI} {t : Tmp} (h : x.dst = some t) (hm : t ∈ y.names) : clash x y = true := by
  unfold clash
  rw [show inO x.dst y.names = true from inO_iff.2 ⟨t, h, hm⟩]
  rfl
theorem clash_reads2 {x y : DI} {t : Tmp} (h : y.dst = some t) (hm : t ∈ x.names) : clash x y = true := by
  unfold clash
  rw [show inO y.dst x.names = true from inO_iff.2 ⟨t, h, hm⟩]
  cases inO x.dst y.names <;> rfl
theorem clash_writes {x y : DI} {t : Tmp} (h : x.dst = some t) (k : y.dst = some t) : clash x y = true := by
  unfold clash
  have : sameO x.dst y.dst = true := by rw [h, k]; exact beqt
  rw [this]
  cases inO x.dst y.names <;> cases inO y.dst x.names <;> rfl
theorem clash_effs {x y : DI} (h : x.eff = true) (k : y.eff = true) : clash x y = true := by
  unfold clash
  rw [h, k]
  cases inO x.dst y.names <;> cases inO y.dst x.names <;> cases sameO x.dst y.dst <;> rfl
theorem edgesOK_ok {i : Nat} : ∀ {es : List Edge}, edgesOK i es = true → ∀ e ∈ es, Region.binds .any e = true → e.on < i
  | [], _, _, h, _ => by cases h
  | e :: es, h, e', he, hb => by
    simp only [edgesOK] at h
    rcases sel_eq h with ⟨h1, h2⟩ | ⟨h1, h2⟩
    · rcases sel_eq h2 with ⟨h3, h4⟩ | ⟨_, h4⟩
      · rcases List.mem_cons.1 he with rfl | he
        · exact blt_is h3
        · exact edgesOK_ok h4 e' he hb
      · cases h4
    · rcases List.mem_cons.1 he with rfl | he
      · rw [h1] at hb; cases hb
      · exact edgesOK_ok h2 e' he hb
theorem backOK_ok : ∀ (l : List Oper) (i : Nat), backOK l i = true → ∀ k o, l[k]? = some o → ∀ e ∈ o.after.toList, Region.binds .any e = true → e.on < i + k
  | [], _, _, k, o, h, _, _, _ => by simp at h
  | x :: l, i, h, k, o, hk, e, he, hb => by
    simp only [backOK] at h
    rcases sel_eq h with ⟨h1, h2⟩ | ⟨_, h2⟩
    · cases k with
      | zero => cases hk; rw [Nat.add_zero]; exact edgesOK_ok h1 e he hb
      | succ k =>
        have := backOK_ok l (i + 1) h2 k o hk e he hb
        omega
    · cases h2

theorem looksAt_ok {f : St → R} {v : AVal} {lo hi : Nat} : ∀ (ss : List St) (m : Nat), looksAt f v lo hi ss m = true → ∀ k s, ss[k]? = some s → lo ≤ m + k → m + k ≤ hi → ∃ s', f s = .ok v s'
  | [], _, _, k, s, h, _, _ => by simp at h
  | t :: ss, m, h, k, s, hk, h1, h2 => by
    simp only [looksAt] at h
    cases k with
    | zero =>
      cases hk
      have hc : Bool.and (Nat.ble lo m) (Nat.ble m hi) = true := by
        rw [Bool.and_eq_true]
        exact ⟨Nat.ble_eq_true_of_le h1, Nat.ble_eq_true_of_le h2⟩
      rw [hc] at h
      have h : sel (sameR v (f t)) (looksAt f v lo hi ss (m + 1)) false = true := h
      rcases sel_eq h with ⟨h3, _⟩ | ⟨_, h3⟩
      · unfold sameR at h3
        split at h3
        · rename_i u s' hf
          rw [← sameV_eq _ _ h3]
          exact ⟨s', hf⟩
        · cases h3
      · cases h3
    | succ k =>
      have hn : looksAt f v lo hi ss (m + 1) = true := by
        rcases sel_eq h with ⟨_, h3⟩ | ⟨_, h3⟩
        · rcases sel_eq h3 with ⟨_, h4⟩ | ⟨_, h4⟩
          · exact h4
          · cases h4
        · exact h3
      exact looksAt_ok ss (m + 1) hn k s hk (by omega) (by omega)
theorem looks_ok {call : CallF} {K : Tmps} {ops : Array Oper} {dis : List DI} {e0 : Env} {SS : List St} : ∀ (rest : List Oper) (ds : List DI) (n : Nat) (al : Al) (vs l : List AVal), ds.length = rest.length →
    looks e0 SS (dinsOf P call K ops dis rest ds n al) vs l = true →
    ∀ k o v d, rest[k]? = some o → vs[k]? = some v → ds[k]? = some d → d.look = true → dstIn K o = true →
      wanted ((vs.take k).reverse ++ l) e0 (guardOf (copd (n + k) (alFrom rest n al k)) ops o) = .yes →
      looksAt ((comp (copd (n + k) (alFrom rest n al k)) P call o.op).run ((vs.take k).reverse ++ l) e0) v (loOf d.bf dis 0) (hiOf (n + k) dis) SS 0 = true
  | [], _, _, _, _, _, _, _, k, o, _, _, h, _, _, _, _, _ => by simp at h
  | x :: rest, [], n, al, vs, l, h, _, _, _, _, _, _, _, _, _, _, _ => by cases h
  | x :: rest, d :: ds, n, al, [], l, hl, h, k, o, v, d', hk, hv, _, _, _, _ => by simp at hv
  | x :: rest, d :: ds, n, al, u :: vs, l, hl, h, k, o, v, d', hk, hv, hd, hlk, hdi, hw => by
    have h : sel d.look (sel (lookI l e0 u (loOf d.bf dis 0) (hiOf n dis) SS (insOf P call K ops n al x)) (looks e0 SS (dinsOf P call K ops dis rest ds (n + 1) (alAfter n al x)) vs (u :: l)) false)
      (looks e0 SS (dinsOf P call K ops dis rest ds (n + 1) (alAfter n al x)) vs (u :: l)) = true := h
    cases k with
    | zero =>
      cases hk
      cases hv
      cases hd
      rw [hlk] at h
      have h : sel (lookI l e0 u (loOf d.bf dis 0) (hiOf n dis) SS (insOf P call K ops n al x)) (looks e0 SS (dinsOf P call K ops dis rest ds (n + 1) (alAfter n al x)) vs (u :: l)) false = true := h
      rcases sel_eq h with ⟨h1, _⟩ | ⟨_, h1⟩
      · unfold insOf at h1
        rw [hdi] at h1
        have h1 : @Wt.rec (fun _ => Bool) (looksAt ((comp (copd n al) P call x.op).run l e0) u (loOf d.bf dis 0) (hiOf n dis) SS 0) true false (wanted l e0 (guardOf (copd n al) ops x)) = true := h1
        have hw : wanted l e0 (guardOf (copd n al) ops x) = .yes := hw
        rw [hw] at h1
        exact h1
      · cases h1
    | succ k =>
      have hn : looks e0 SS (dinsOf P call K ops dis rest ds (n + 1) (alAfter n al x)) vs (u :: l) = true := by
        rcases sel_eq h with ⟨_, h3⟩ | ⟨_, h3⟩
        · rcases sel_eq h3 with ⟨_, h4⟩ | ⟨_, h4⟩
          · exact h4
          · cases h4
        · exact h3
      have e1 : n + 1 + k = n + (k + 1) := by omega
      have e2 : (vs.take k).reverse ++ (u :: l) = ((u :: vs).take (k + 1)).reverse ++ l := by simp
      have := looks_ok rest ds (n + 1) (alAfter n al x) vs (u :: l) (by simpa using hl) hn k o v d' hk hv hd hlk hdi (by rw [e1, e2]; exact hw)
      rw [e1, e2] at this
      exact this

theorem bfs_at (ops : List Oper) {j : Nat} (h : j < ops.length) : ∃ b, (bfsOf ops [])[j]? = some b := by
  obtain ⟨t, h1, h2⟩ := bfsOf_pre ops []
  rw [h1, List.nil_append]
  exact ⟨t[j], List.getElem?_eq_getElem (by omega)⟩
theorem bfs_length (ops : List Oper) : (bfsOf ops []).length = ops.length := by
  obtain ⟨t, h1, h2⟩ := bfsOf_pre ops []
  rw [h1, List.nil_append, h2]

/-- a region whose check went well -/
theorem clash_off {x y : DI} (h : clash x (offD y) = true) : clash x y = true := by
  unfold clash at h ⊢
  have e1 : (offD y).names = y.names := rfl
  have e2 : (offD y).dst = y.dst := rfl
  have e3 : (offD y).eff = false := rfl
  rw [e1, e2, e3] at h
  rcases sel_eq h with ⟨g, _⟩ | ⟨g, h⟩
  · rw [g]; rfl
  · rw [g]
    rcases sel_eq h with ⟨g, _⟩ | ⟨g, h⟩
    · rw [g]; rfl
    · rw [g]
      rcases sel_eq h with ⟨g, _⟩ | ⟨g, h⟩
      · rw [g]; rfl
      · rw [Bool.and_false] at h; cases h
/-- a run in the text's order is a plan -/
theorem plan_core {call : CallF} {K : Tmps} {ops : Array Oper} {e0 e' : Env} {s s' : St} {x : Ex} {dis : List DI} (hdis : disOf P ops ops.toList (bfsOf ops.toList []) = dis) {L : List AVal} {E : Env} {S : St} {SS : List St}
    (hr : runD e0 (dinsOf P call K ops dis ops.toList dis 0 .nil) [] e0 s [] = .ok L E S SS) (h : checkD e0 (dinsOf P call K ops dis ops.toList dis 0 .nil) (.ok L E S SS) = .ok x e' s') (hback : backOK ops.toList 0 = true)
    (hcl0 : ∀ i j x y, i < j → dis[i]? = some x → dis[j]? = some y → clash x (offD y) = true → Nat.testBit y.bf i = true)
    (hef0 : ∀ i j x y, i < j → ¬ X i j → dis[i]? = some x → dis[j]? = some y → x.eff = true → y.eff = true → Nat.testBit y.bf i = true) :
    x = .normal ∧ ∃ (vs : List AVal) (st : Nat → St), Plan X P call K ops e0 vs st ∧ st 0 = s ∧ st ops.toList.length = s' ∧ e' = envFrom K ops.toList vs e0 ∧ vs = L.reverse := by
  have hbl := bfs_length ops.toList
  have hdl := disOf_length (P := P) (ops := ops) ops.toList (bfsOf ops.toList []) hbl
  rw [hdis] at hdl
  have h : sel (looks e0 ((S :: SS).reverse) (dinsOf P call K ops dis ops.toList dis 0 .nil) L.reverse []) (Res.ok .normal E S) .bad = .ok x e' s' := h
  cases hl : looks e0 ((S :: SS).reverse) (dinsOf P call K ops dis ops.toList dis 0 .nil) L.reverse []
  · rw [hl] at h; cases h
  · rw [hl] at h
    cases h
    obtain ⟨vs, sts, h1, h2, h3, h4, h5, h6, h7⟩ := trace ops.toList dis 0 .nil [] L e0 e' s s' [] SS hdl hr
    rw [List.append_nil] at h3 h5
    rw [h3, List.reverse_reverse] at hl
    have hss : (s' :: SS).reverse = effSt dis sts ++ [s'] := by rw [List.reverse_cons, h5, List.reverse_reverse]
    rw [hss] at hl
    have hdi : ∀ j o, ops.toList[j]? = some o → ∃ b, (bfsOf ops.toList [])[j]? = some b ∧ dis[j]? = some (diOf P ops o b) := fun j o hj => by
      obtain ⟨b, hb⟩ := bfs_at ops.toList (List.getElem?_eq_some_iff.1 hj).1
      refine ⟨b, hb, ?_⟩
      rw [← hdis]
      exact disOf_at ops.toList _ j hj hb
    have hcl : ∀ i j oi oj bi bj, i < j → ops.toList[i]? = some oi → ops.toList[j]? = some oj → dis[i]? = some (diOf P ops oi bi) → dis[j]? = some (diOf P ops oj bj) → (bfsOf ops.toList [])[j]? = some bj →
        clash (diOf P ops oi bi) (offD (diOf P ops oj bj)) = true → bfAt (bfsOf ops.toList []) j i := fun i j oi oj bi bj hij _ _ hi hj hb hc =>
      ⟨bj, hb, hcl0 i j _ _ hij hi hj hc⟩
    have dstop : ∀ {i t}, dstAt ops.toList i = some t → ∃ o, ops.toList[i]? = some o ∧ o.dst = some t := fun {i t} hd => by
      unfold dstAt at hd
      rw [Option.bind_eq_some_iff] at hd
      exact hd
    refine ⟨rfl, vs, fun j => ((sts ++ [s'])[j]?).getD s', ⟨h1, fun j o hj => ?_, fun j o hj e he hb => ?_, fun i j o t hj ht hd => ?_, fun i j t hij hi hj => ?_, fun i j hij hX hi hj => ?_, ?_⟩, ?_, ?_, h4, by rw [h3, List.reverse_reverse]⟩
    · obtain ⟨v, s1, s2, g1, g2, g3, g4⟩ := h7 j o hj
      rw [List.append_nil, Nat.zero_add] at g4
      refine ⟨v, g1, ?_⟩
      have e1 : (sts ++ [s'])[j]? = some s1 := by
        rw [List.getElem?_append_left (List.getElem?_eq_some_iff.1 g2).1]
        exact g2
      simp only [e1, g3, Option.getD_some]
      exact g4
    · have := backOK_ok ops.toList 0 hback j o hj e he hb
      omega
    · obtain ⟨oi, hi, hdi'⟩ := dstop hd
      obtain ⟨bi, hbi, hdii⟩ := hdi i oi hi
      obtain ⟨bj, hbj, hdij⟩ := hdi j o hj
      exact ⟨fun hij => hcl i j oi o bi bj hij hi hj hdii hdij hbj (clash_reads1 (t := t) hdi' ht), fun hji => hcl j i o oi bj bi hji hj hi hdij hdii hbi (clash_reads2 (t := t) hdi' ht)⟩
    · obtain ⟨oi, hi, hdi'⟩ := dstop hi
      obtain ⟨oj, hj, hdj'⟩ := dstop hj
      obtain ⟨bi, hbi, hdii⟩ := hdi i oi hi
      obtain ⟨bj, hbj, hdij⟩ := hdi j oj hj
      exact hcl i j oi oj bi bj hij hi hj hdii hdij hbj (clash_writes (t := t) hdi' hdj')
    · obtain ⟨oi, hi, hei⟩ := hi
      obtain ⟨oj, hj, hej⟩ := hj
      obtain ⟨bi, hbi, hdii⟩ := hdi i oi hi
      obtain ⟨bj, hbj, hdij⟩ := hdi j oj hj
      exact ⟨bj, hbj, hef0 i j _ _ hij hX hdii hdij hei hej⟩
    · intro j o v hj hk hv hw p hp hlo hhi
      obtain ⟨b, hb, hd⟩ := hdi j o hj
      obtain ⟨v', g1, hst⟩ := h7 j o hj
      have hdin : dstIn K o = true := by
        obtain ⟨_, _, _, _, g⟩ := hst
        exact g.1
      have hla := looks_ok ops.toList dis 0 .nil vs [] hdl hl j o v _ hj hv hd (by show (kdOf P o.op).isL = true; rw [hk]; rfl) hdin (by rw [List.append_nil, Nat.zero_add]; exact hw)
      rw [List.append_nil, Nat.zero_add] at hla
      have opOf : ∀ {k y}, dis[k]? = some y → ∃ o b, ops.toList[k]? = some o ∧ (bfsOf ops.toList [])[k]? = some b ∧ y = diOf P ops o b := fun {k y} hy => by
        have hkl : k < ops.toList.length := by
          rw [← hdl]
          exact (List.getElem?_eq_some_iff.1 hy).1
        obtain ⟨b, hb, hd⟩ := hdi k _ (List.getElem?_eq_getElem hkl)
        rw [hd] at hy
        cases hy
        exact ⟨_, b, List.getElem?_eq_getElem hkl, hb, rfl⟩
      have hat := effSt_at s' dis sts p (by rw [hdl, h2]) (by
        rcases hp with rfl | ⟨o', g1, g2⟩
        · exact .inl hdl.symm
        · obtain ⟨b', _, g3⟩ := hdi p o' g1
          exact .inr ⟨_, g3, g2⟩)
      have hpl : p ≤ ops.toList.length := by
        rcases hp with rfl | ⟨o', g1, _⟩
        · exact Nat.le_refl _
        · exact Nat.le_of_lt (List.getElem?_eq_some_iff.1 g1).1
      have hsp : (sts ++ [s'])[p]? = some (((sts ++ [s'])[p]?).getD s') := by
        rw [List.getElem?_eq_getElem (by rw [List.length_append, h2, List.length_singleton]; omega)]
        rfl
      rw [hsp] at hat
      refine looksAt_ok _ 0 hla (cnt dis p) _ hat ?_ ?_
      · rw [Nat.zero_add]
        refine lo_le b dis 0 p fun k y hy he htb => ?_
        obtain ⟨o', b', g1, g2, rfl⟩ := opOf hy
        rw [Nat.zero_add] at htb
        exact hlo k ⟨o', g1, he⟩ ⟨b, hb, htb⟩
      · rw [Nat.zero_add]
        refine le_hi j dis p fun k y hy hkp he => ?_
        obtain ⟨o', b', g1, g2, rfl⟩ := opOf hy
        cases htb : Nat.testBit (diOf P ops o' b').bf j
        · rfl
        · exact absurd ⟨b', g2, htb⟩ (hhi k ⟨o', g1, he⟩ hkp)
    · simp only [h6]
      rfl
    · have : (sts ++ [s'])[ops.toList.length]? = some s' := by rw [← h2, List.getElem?_append_right (Nat.le_refl _)]; simp
      simp only [this]
      rfl

theorem plan_ok {call : CallF} {K : Tmps} {ops : Array Oper} {e0 e' : Env} {s s' : St} {x : Ex} (hg : goodD P ops (disOf P ops ops.toList (bfsOf ops.toList [])) = true)
    (h : runRegD (dinsOf P call K ops (disOf P ops ops.toList (bfsOf ops.toList [])) ops.toList (disOf P ops ops.toList (bfsOf ops.toList [])) 0 .nil) e0 s = .ok x e' s') :
    x = .normal ∧ ∃ (vs : List AVal) (st : Nat → St), Plan (fun _ _ => False) P call K ops e0 vs st ∧ st 0 = s ∧ st ops.toList.length = s' ∧ e' = envFrom K ops.toList vs e0 := by
  generalize hdis : disOf P ops ops.toList (bfsOf ops.toList []) = dis at h hg
  have h : checkD e0 (dinsOf P call K ops dis ops.toList dis 0 .nil) (runD e0 (dinsOf P call K ops dis ops.toList dis 0 .nil) [] e0 s []) = .ok x e' s' := h
  have hgood : backOK ops.toList 0 = true ∧ headsOK [] dis = true := by
    unfold goodD at hg
    rcases sel_eq hg with ⟨g1, g2⟩ | ⟨_, g2⟩
    · exact ⟨g1, g2⟩
    · cases g2
  have hcl : ∀ i j x y, i < j → dis[i]? = some x → dis[j]? = some y → clash x y = true → Nat.testBit y.bf i = true := fun i j x y hij hi hj hc =>
    headsOK_ok dis [] hgood.2 j _ hj i _ (by rw [List.nil_append]; exact hi) (by simpa using hij) hc
  cases hr : runD e0 (dinsOf P call K ops dis ops.toList dis 0 .nil) [] e0 s [] with
  | bad => rw [hr] at h; cases h
  | ok L E S SS =>
    rw [hr] at h
    obtain ⟨h1, vs, st, h2, h3, h4, h5, _⟩ := plan_core (X := fun _ _ => False) hdis hr h hgood.1 (fun i j x y hij hi hj hc => hcl i j x y hij hi hj (clash_off hc))
      (fun i j x y hij _ hi hj hx hy => hcl i j x y hij hi hj (clash_effs hx hy))
    exact ⟨h1, vs, st, h2, h3, h4, h5⟩
end Go.Proofs.YtchkcnecgfolmaaGreatDoor.Ev
namespace Go.Proofs.YtchkcnecgfolmaaGreatDoor.Ev
open Go
set_option linter.unusedSectionVars false
set_option linter.unusedVariables false
set_option linter.unusedSimpArgs false
variable [Sig] {P : Program} {X : Nat → Nat → Prop}

/-- where the blocks lie, of those below a number -/
def Rho.till (r : Rho) (n : Nat) : Rho := fun i => if i < n then r i else none
theorem Rho.till_some {r : Rho} {n i : Nat} {x : RB} (h : r.till n i = some x) : i < n ∧ r i = some x := by
  unfold Rho.till at h
  split at h
  · rename_i hi; exact ⟨hi, h⟩
  · cases h
theorem Rho.till_lt {r : Rho} {n i : Nat} (h : i < n) : r.till n i = r i := if_pos h
theorem Rho.till_ge {r : Rho} {n i : Nat} (h : n ≤ i) : r.till n i = none := if_neg (by omega)
theorem Rho.till_le {r q : Rho} {n m : Nat} (h : r.le q) (hn : n ≤ m) : (r.till n).le (q.till m) := fun i x hx => by
  obtain ⟨h1, h2⟩ := Rho.till_some hx
  rw [Rho.till_lt (Nat.lt_of_lt_of_le h1 hn)]
  exact h i x h2
theorem Rho.till_of {r : Rho} {n : Nat} (h : ∀ i x, r i = some x → i < n) : r.till n = r := by
  funext i
  by_cases hi : i < n
  · exact Rho.till_lt hi
  · rw [Rho.till_ge (by omega)]
    cases e : r i with
    | none => rfl
    | some x => exact absurd (h i x e) hi
theorem Rho.till_at {r : Rho} {n m : Nat} {x : RB} (h : n < m) : (r.at n x).till m = (r.till m).at n x := by
  funext i
  by_cases hi : i = n
  · subst hi
    rw [Rho.till_lt h, Rho.at_same, Rho.at_same]
  · rw [Rho.at_ne _ x hi]
    unfold Rho.till
    rw [Rho.at_ne r x hi]
theorem Rho.till_at_ge {r : Rho} {n m : Nat} {x : RB} (h : m ≤ n) : (r.at n x).till m = r.till m := by
  funext i
  by_cases hi : i < m
  · rw [Rho.till_lt hi, Rho.till_lt hi, Rho.at_ne _ x (by omega)]
  · rw [Rho.till_ge (by omega), Rho.till_ge (by omega)]
theorem Rho.till_succ {r : Rho} {n : Nat} {x : RB} (h : r n = some x) : r.till (n + 1) = (r.till n).at n x := by
  funext i
  by_cases hi : i = n
  · subst hi
    rw [Rho.till_lt (Nat.lt_succ_self _), Rho.at_same, h]
  · rw [Rho.at_ne _ x hi]
    by_cases h1 : i < n
    · rw [Rho.till_lt h1, Rho.till_lt (by omega)]
    · rw [Rho.till_ge (by omega), Rho.till_ge (by omega)]
theorem Rho.till_none {r : Rho} {n : Nat} (h : r n = none) : r.till (n + 1) = r.till n := by
  funext i
  by_cases hi : i = n
  · subst hi
    rw [Rho.till_lt (Nat.lt_succ_self _), Rho.till_ge (Nat.le_refl _), h]
  · by_cases h1 : i < n
    · rw [Rho.till_lt h1, Rho.till_lt (by omega)]
    · rw [Rho.till_ge (by omega), Rho.till_ge (by omega)]
theorem Rho.at_le_at {r q : Rho} {n : Nat} {x : RB} (h : r.le q) : (r.at n x).le (q.at n x) := fun i y hy => by
  by_cases hi : i = n
  · subst hi; rw [Rho.at_same] at hy ⊢; exact hy
  · rw [Rho.at_ne _ x hi] at hy ⊢; exact h i y hy

section
variable {r0 q : Rho} {s0 s : St} {w0 w w' : World}
/-- the world grows -/
theorem Ext.grow (h : Ext r0 s0 w0 q s w) (hf : ∀ k, k < w.heap.size → w'.heap[k]? = w.heap[k]?) (hs : w.heap.size ≤ w'.heap.size) (ho : w'.os = w.os) (ht : w'.tape = w.tape) (hp : w'.output = w.output) :
    Ext r0 s0 w0 q s w' where
  rel := by
    refine ⟨⟨fun i b x hb hx => ?_, h.rel.far⟩, h.rel.apart, h.rel.known⟩
    obtain ⟨o, h1, h2⟩ := h.rel.block i b x hb hx
    exact ⟨o, by rw [hf _ (Array.getElem?_eq_some_iff.1 h1).1]; exact h1, h2⟩
  le := h.le
  next := h.next
  os := ho.trans h.os
  tape := ht.trans h.tape
  output := hp.trans h.output
  size := Nat.le_trans h.size hs
  frame := fun k hk hn => (hf k (Nat.lt_of_lt_of_le hk h.size)).trans (h.frame k hk hn)
  still := h.still
  dead := h.dead
  hits := h.hits
  fresh := h.fresh
/-- a known block that lay nowhere gets its place -/
theorem Ext.born (h : Ext r0 s0 w0 q s w) {n : Nat} {b : ABlk} {y : RB} {o : Obj} (hq : q n = none) (hb : ∀ c, s.get n = some c → c = b) (hns : n < s.next) (hn : s0.next ≤ n) (hy : w.heap.size ≤ y.blk) (hu : w'.heap[y.blk]? = some o) (hr : BR (q.at n y) b y o)
    (hf : ∀ k, k < w.heap.size → w'.heap[k]? = w.heap[k]?) (hs : w.heap.size ≤ w'.heap.size) (ho : w'.os = w.os) (ht : w'.tape = w.tape) (hp : w'.output = w.output) : Ext r0 s0 w0 (q.at n y) s w' := by
  have h1 := h.grow hf hs ho ht hp
  have hle := q.at_le y hq
  have blk : ∀ {i c x}, s.get i = some c → q i = some x → x.blk < w.heap.size := fun {i c x} hc hx => by
    obtain ⟨o', g1, _⟩ := h.rel.block i c x hc hx
    exact (Array.getElem?_eq_some_iff.1 g1).1
  refine ⟨⟨⟨fun i c x hc hx => ?_, h.rel.far⟩, fun i j c d x z hc hd hx hz hxz => ?_, fun i x hx => ?_⟩, Rho.le_trans h.le hle, h1.next, h1.os, h1.tape, h1.output, h1.size, h1.frame, h1.still, h1.dead, fun k ⟨i, c, x, hc, hx, hk⟩ => ?_, fun i hi hne => ?_⟩
  · by_cases hi : i = n
    · subst hi
      rw [Rho.at_same] at hx
      cases hx
      rw [hb c hc]
      exact ⟨o, hu, hr⟩
    · rw [Rho.at_ne _ y hi] at hx
      obtain ⟨o', g1, g2⟩ := h1.rel.block i c x hc hx
      exact ⟨o', g1, g2.mono hle⟩
  · by_cases hi : i = n <;> by_cases hj : j = n
    · rw [hi, hj]
    · subst hi
      rw [Rho.at_same] at hx
      cases hx
      rw [Rho.at_ne _ y hj] at hz
      have := blk hd hz
      omega
    · subst hj
      rw [Rho.at_same] at hz
      cases hz
      rw [Rho.at_ne _ y hi] at hx
      have := blk hc hx
      omega
    · rw [Rho.at_ne _ y hi] at hx
      rw [Rho.at_ne _ y hj] at hz
      exact h.rel.apart i j c d x z hc hd hx hz hxz
  · by_cases hi : i = n
    · subst hi; exact hns
    · rw [Rho.at_ne _ y hi] at hx
      exact h.rel.known i x hx
  · by_cases hi : i = n
    · subst hi
      rw [Rho.at_same] at hx
      cases hx
      have := h.size
      exact .inr (by omega)
    · rw [Rho.at_ne _ y hi] at hx
      exact h.hits k ⟨i, c, x, hc, hx, hk⟩
  · by_cases hin : i = n
    · subst hin; exact hn
    · rw [Rho.at_ne _ y hin] at hne
      exact h.fresh i hi hne
/-- a block more, that lies nowhere yet -/
theorem Ext.skip (h : Ext r0 s0 w0 q s w) (b : ABlk) : Ext r0 s0 w0 q (s.new b) w := by
  have hn := h.rel.none_next (Nat.le_refl s.next)
  have back : ∀ {i c x}, (s.new b).get i = some c → q i = some x → s.get i = some c := fun {i c x} hc hx => by
    rw [St.get_new] at hc
    by_cases hi : s.next = i
    · subst hi; rw [hn] at hx; cases hx
    · rw [if_neg hi] at hc; exact hc
  refine ⟨⟨⟨fun i c x hc hx => h.rel.block i c x (back hc hx) hx, fun i hi => ?_⟩, fun i j c d x z hc hd hx hz => h.rel.apart i j c d x z (back hc hx) (back hd hz) hx hz, fun i x hx => ?_⟩, h.le, ?_, h.os, h.tape, h.output, h.size, h.frame, fun i hi hr d hd => ?_, fun i hi hg => ?_, fun k ⟨i, c, x, hc, hx, hk⟩ => h.hits k ⟨i, c, x, back hc hx, hx, hk⟩, h.fresh⟩
  · rw [St.next_new] at hi
    rw [St.get_new, if_neg (by omega)]
    exact h.rel.far i (by omega)
  · rw [St.next_new]
    have := h.rel.known i x hx
    omega
  · rw [St.next_new]
    have := h.next
    omega
  · have := h.next
    rw [St.get_new, if_neg (by omega)] at hd
    exact h.still i hi hr d hd
  · have := h.next
    rw [St.get_new, if_neg (by omega)]
    exact h.dead i hi hg
/-- a block more, that lies somewhere already -/
theorem Ext.catch_ (h : Ext r0 s0 w0 q s w) {b : ABlk} {x : RB} {o : Obj} (hx : w.heap[x.blk]? = some o) (hr : BR (q.at s.next x) b x o) (hh : ¬ Hit q s x.blk) (h0 : w0.heap.size ≤ x.blk) : Ext r0 s0 w0 (q.at s.next x) (s.new b) w := by
  have hn := h.rel.none_next (Nat.le_refl s.next)
  have hle := q.at_le x hn
  have h1 := h.skip b
  have back : ∀ {i c z}, (s.new b).get i = some c → (q.at s.next x) i = some z → (i = s.next ∧ c = b ∧ z = x) ∨ (i ≠ s.next ∧ s.get i = some c ∧ q i = some z) := fun {i c z} hc hz => by
    rw [St.get_new] at hc
    by_cases hi : s.next = i
    · subst hi
      rw [if_pos rfl] at hc
      cases hc
      rw [Rho.at_same] at hz
      cases hz
      exact .inl ⟨rfl, rfl, rfl⟩
    · rw [if_neg hi] at hc
      rw [Rho.at_ne _ x (Ne.symm hi)] at hz
      exact .inr ⟨Ne.symm hi, hc, hz⟩
  refine ⟨⟨⟨fun i c z hc hz => ?_, h1.rel.far⟩, fun i j c d y z hc hd hy hz hyz => ?_, fun i z hz => ?_⟩, Rho.le_trans h.le hle, h1.next, h1.os, h1.tape, h1.output, h1.size, h1.frame, h1.still, h1.dead, fun k ⟨i, c, z, hc, hz, hk⟩ => ?_, fun i hi hne => ?_⟩
  · rcases back hc hz with ⟨rfl, rfl, rfl⟩ | ⟨g1, g2, g3⟩
    · exact ⟨o, hx, hr⟩
    · obtain ⟨o', g4, g5⟩ := h.rel.block i c z g2 g3
      exact ⟨o', g4, g5.mono hle⟩
  · rcases back hc hy with ⟨rfl, rfl, rfl⟩ | ⟨g1, g2, g3⟩ <;> rcases back hd hz with ⟨rfl, rfl, rfl⟩ | ⟨k1, k2, k3⟩
    · rfl
    · exact absurd ⟨j, d, z, k2, k3, hyz.symm⟩ hh
    · exact absurd ⟨i, c, y, g2, g3, hyz⟩ hh
    · exact h.rel.apart i j c d y z g2 k2 g3 k3 hyz
  · rw [St.next_new]
    by_cases hi : i = s.next
    · omega
    · rw [Rho.at_ne _ x hi] at hz
      have := h.rel.known i z hz
      omega
  · rcases back hc hz with ⟨rfl, rfl, rfl⟩ | ⟨g1, g2, g3⟩
    · exact .inr (by omega)
    · exact h.hits k ⟨i, c, z, g2, g3, hk⟩
  · by_cases hin : i = s.next
    · rw [hin]; exact h.next
    · rw [Rho.at_ne _ x hin] at hne
      exact h.fresh i hi hne
end
end Go.Proofs.YtchkcnecgfolmaaGreatDoor.Ev
namespace Go.Proofs.YtchkcnecgfolmaaGreatDoor.Ev
open Go
set_option linter.unusedSectionVars false
set_option linter.unusedVariables false
set_option linter.unusedSimpArgs false
variable [Sig] {P : Program} {X : Nat → Nat → Prop}

/- low values -/
mutual
theorem VR.low {r : Rho} {n : Nat} : ∀ {v : AVal} {u : Value}, VR r v u → lowV n v = true → VR (r.till n) v u
  | _, _, .bool b, _ => .bool b
  | _, _, .int k m, _ => .int k m
  | _, _, .flt k b, _ => .flt k b
  | _, _, .cplx k a b, _ => .cplx k a b
  | _, _, .str l, _ => .str l
  | _, _, .nilptr, _ => .nilptr
  | _, _, .ptr h, hl => .ptr (by rw [Rho.till_lt (blt_is hl)]; exact h)
  | _, _, .nilslice, _ => .nilslice
  | _, _, .eslice a c, _ => .eslice a c
  | _, _, .slice h hn hc hu, hl => .slice (by rw [Rho.till_lt (blt_is hl)]; exact h) hn hc hu
  | _, _, .nilmap, _ => .nilmap
  | _, _, .map h, hl => .map (by rw [Rho.till_lt (blt_is hl)]; exact h)
  | .func f a b, _, .func _ ha hb, hl => by
    have hl : Bool.and (lowVs n a) (lowVs n b) = true := hl
    rw [Bool.and_eq_true] at hl
    exact .func f (VRs.low ha hl.1) (VRs.low hb hl.2)
  | _, _, .nilfunc, _ => .nilfunc
  | _, _, .nilIface, _ => .nilIface
  | .iface t v, _, .iface _ h, hl => by
    have hl : lowV n v = true := hl
    exact .iface t (VR.low h hl)
  | .agg l, _, .agg h, hl => by
    have hl : lowVs n l = true := hl
    exact .agg (VRs.low h hl)
  | .tuple l, _, .tuple h, hl => by
    have hl : lowVs n l = true := hl
    exact .tuple (VRs.low h hl)
  | _, _, .sint k h, _ => .sint k h
  | _, _, .raw h, _ => .raw h
theorem VRs.low {r : Rho} {n : Nat} : ∀ {l : List AVal} {l' : List Value}, VRs r l l' → lowVs n l = true → VRs (r.till n) l l'
  | _, _, .nil, _ => .nil
  | v :: l, _, .cons h t, hl => by
    have hl : Bool.and (lowV n v) (lowVs n l) = true := hl
    rw [Bool.and_eq_true] at hl
    exact .cons (VR.low h hl.1) (VRs.low t hl.2)
end

section
variable {call : CallF} {K : Tmps} {ops : Array Oper} {e0 : Env} {vs : List AVal} {st : Nat → St}

/-- how an operation finds what it reads -/
noncomputable abbrev codAt (ops : Array Oper) (j : Nat) : Cod := copd j (alFrom ops.toList 0 .nil j)
/-- an operation that makes a block -/
def Made (P : Program) (ops : Array Oper) (e0 : Env) (vs : List AVal) (j : Nat) : Prop :=
  ∃ o, ops.toList[j]? = some o ∧ kdOf P o.op = .make ∧ wanted (vs.take j).reverse e0 (guardOf (codAt ops j) ops o) = .yes
theorem isE_eff {k : Kd} (h : k.isE = true) : k = .eff := by cases k <;> first | rfl | cases h

theorem Plan.st_step (hp : Plan X P call K ops e0 vs st) (hcall : CallOK P call) {j : Nat} (hj : j < ops.toList.length) (he : ¬ isEff P ops j) :
    (Made P ops e0 vs j ∧ ∃ b, st (j + 1) = (st j).new b) ∨ (¬ Made P ops e0 vs j ∧ st (j + 1) = st j) := by
  have ho : ops.toList[j]? = some ops.toList[j] := List.getElem?_eq_getElem hj
  obtain ⟨v, hv, _, hn, _, h⟩ := hp.step j _ ho
  rcases h with ⟨hw, hr⟩ | ⟨hw, rfl, hs⟩
  · have h1 := op_ok hcall hr
    cases hk : kdOf P (ops.toList[j]).op with
    | pure =>
      rw [hk] at h1
      refine .inr ⟨fun ⟨o, g1, g2, _⟩ => ?_, h1.1⟩
      rw [ho] at g1; cases g1; rw [hk] at g2; cases g2
    | look =>
      rw [hk] at h1
      refine .inr ⟨fun ⟨o, g1, g2, _⟩ => ?_, h1.1⟩
      rw [ho] at g1; cases g1; rw [hk] at g2; cases g2
    | make =>
      rw [hk] at h1
      obtain ⟨mk, b, _, h2, _⟩ := h1
      exact .inl ⟨⟨_, ho, hk, hw⟩, b, h2⟩
    | eff => exact absurd ⟨_, ho, by rw [hk]; rfl⟩ he
  · refine .inr ⟨fun ⟨o, g1, _, g3⟩ => ?_, hs⟩
    rw [ho] at g1; cases g1; rw [hw] at g3; cases g3
theorem Plan.next_mono (hp : Plan X P call K ops e0 vs st) : ∀ (d i : Nat), i + d ≤ ops.toList.length → (st i).next ≤ (st (i + d)).next
  | 0, i, _ => Nat.le_refl _
  | d + 1, i, h => by
    have ho : ops.toList[i + d]? = some ops.toList[i + d] := List.getElem?_eq_getElem (by omega)
    obtain ⟨v, hv, _, hn, _, _⟩ := hp.step _ _ ho
    exact Nat.le_trans (Plan.next_mono hp d i (by omega)) hn
theorem Plan.next_le (hp : Plan X P call K ops e0 vs st) {i j : Nat} (h : i ≤ j) (hj : j ≤ ops.toList.length) : (st i).next ≤ (st j).next := by
  have := hp.next_mono (j - i) i (by omega)
  rw [show i + (j - i) = j by omega] at this
  exact this
theorem Made.lt {j : Nat} (h : Made P ops e0 vs j) : j < ops.toList.length := by
  obtain ⟨o, h1, _⟩ := h
  exact (List.getElem?_eq_some_iff.1 h1).1
theorem Made.notEff {j : Nat} (h : Made P ops e0 vs j) : ¬ isEff P ops j := by
  obtain ⟨o, h1, h2, _⟩ := h
  rintro ⟨o', g1, g2⟩
  rw [h1] at g1; cases g1; rw [h2] at g2; cases g2
theorem Plan.made_next (hp : Plan X P call K ops e0 vs st) (hcall : CallOK P call) {j : Nat} (h : Made P ops e0 vs j) : ∃ b, st (j + 1) = (st j).new b := by
  rcases hp.st_step hcall h.lt h.notEff with ⟨_, h1⟩ | ⟨h1, _⟩
  · exact h1
  · exact absurd h h1
theorem Plan.made_lt (hp : Plan X P call K ops e0 vs st) (hcall : CallOK P call) {j m : Nat} (h : Made P ops e0 vs j) (hjm : j < m) (hm : m ≤ ops.toList.length) : (st j).next < (st m).next := by
  obtain ⟨b, hb⟩ := hp.made_next hcall h
  have h1 := hp.next_le (show j + 1 ≤ m from hjm) hm
  rw [hb, St.next_new] at h1
  omega
theorem Plan.made_ne (hp : Plan X P call K ops e0 vs st) (hcall : CallOK P call) {j k : Nat} (h : Made P ops e0 vs j) (h' : Made P ops e0 vs k) (hn : (st j).next = (st k).next) : j = k := by
  rcases Nat.lt_trichotomy j k with h1 | h1 | h1
  · have := hp.made_lt hcall h h1 (Nat.le_of_lt h'.lt); omega
  · exact h1
  · have := hp.made_lt hcall h' h1 (Nat.le_of_lt h.lt); omega

/-- what holds behind the operations D, where the state in the text's order is reached as far as m -/
structure Iv (P : Program) (call : CallF) (K : Tmps) (ops : Array Oper) (e0 : Env) (vs : List AVal) (st : Nat → St) (r0 : Rho) (w0 : World) (a0 : Act) (D : Nat → Prop) (m : Nat) (r : Rho) (a : Act) (w : World) : Prop where
  closed : Closed (bfsOf ops.toList []) D
  effs : ∀ i, isEff P ops i → (D i ↔ i < m)
  le : m ≤ ops.toList.length
  ext : Ext r0 (st 0) w0 (r.till (st m).next) (st m) w
  vals : ∀ i t v, D i → dstAt ops.toList i = some t → (∀ k, i < k → D k → dstAt ops.toList k ≠ some t) → vs[i]? = some v → VR r v (a.tmps.getD t undef)
  olds : ∀ t, (∀ k, D k → dstAt ops.toList k ≠ some t) → a.tmps.getD t undef = a0.tmps.getD t undef
  size : a.tmps.size = a0.tmps.size
  defs : a.defers = []
  early : ∀ j, m ≤ j → D j → Made P ops e0 vs j → ∃ x b o, r (st j).next = some x ∧ (st (j + 1)).get (st j).next = some b ∧ BR (r.till ((st j).next + 1)) b x o ∧ w.heap[x.blk]? = some o ∧ w0.heap.size ≤ x.blk ∧ ¬ Hit (r.till (st m).next) (st m) x.blk
  apart : ∀ j k x y, m ≤ j → m ≤ k → D j → D k → Made P ops e0 vs j → Made P ops e0 vs k → r (st j).next = some x → r (st k).next = some y → x.blk = y.blk → j = k
  later : ∀ j, ¬ D j → Made P ops e0 vs j → r (st j).next = none ∧ (j < m → ∀ b, (st m).get (st j).next = some b → (st (j + 1)).get (st j).next = some b)
  known : ∀ i x, r i = some x → i < (st m).next ∨ ∃ j, m ≤ j ∧ D j ∧ Made P ops e0 vs j ∧ i = (st j).next

variable {r0 : Rho} {w0 : World} {a0 : Act} {D : Nat → Prop} {m : Nat} {r : Rho} {a : Act} {w : World}

/-- ahead of all -/
theorem Iv.start (hp : Plan X P call K ops e0 vs st) (hr : Rel r0 (st 0) w0) (ha : a0.defers = []) : Iv P call K ops e0 vs st r0 w0 a0 (fun _ => False) 0 r0 a0 w0 := by
  have ht : r0.till (st 0).next = r0 := Rho.till_of hr.known
  refine ⟨fun j hj => hj.elim, fun i _ => ⟨fun h => h.elim, fun h => by omega⟩, Nat.zero_le _, by rw [ht]; exact Ext.refl hr, fun i t v h => h.elim, fun t _ => rfl, rfl, ha, fun j _ h => h.elim, fun j k x y _ _ h => h.elim, fun j _ hm => ?_, fun i x h => .inl (hr.known i x h)⟩
  exact ⟨hr.none_next (hp.next_le (Nat.zero_le j) (Nat.le_of_lt hm.lt)), fun h => by omega⟩

/-- the state in the text's order goes on by one -/
theorem Iv.on (hp : Plan X P call K ops e0 vs st) (hcall : CallOK P call) (h : Iv P call K ops e0 vs st r0 w0 a0 D m r a w) (hm : m < ops.toList.length) (he : ¬ isEff P ops m) :
    Iv P call K ops e0 vs st r0 w0 a0 D (m + 1) r a w := by
  have heffs : ∀ i, isEff P ops i → (D i ↔ i < m + 1) := fun i hi => by
    rw [h.effs i hi]
    refine ⟨fun h => by omega, fun h => ?_⟩
    by_cases hi' : i = m
    · subst hi'; exact absurd hi he
    · omega
  rcases hp.st_step hcall hm he with ⟨hmade, b, hb⟩ | ⟨hmade, hs⟩
  · have hnx : (st (m + 1)).next = (st m).next + 1 := by rw [hb, St.next_new]
    by_cases hD : D m
    · obtain ⟨x, b', o, h1, h2, h3, h4, h5, h6⟩ := h.early m (Nat.le_refl _) hD hmade
      have hbb : b' = b := by
        rw [hb, St.get_new, if_pos rfl] at h2
        cases h2; rfl
      subst hbb
      have ht : r.till (st (m + 1)).next = (r.till (st m).next).at (st m).next x := by rw [hnx]; exact Rho.till_succ h1
      have hext : Ext r0 (st 0) w0 ((r.till (st m).next).at (st m).next x) ((st m).new b') w := h.ext.catch_ h4 (by rw [← Rho.till_succ h1]; exact h3) h6 h5
      refine ⟨h.closed, heffs, hm, by rw [ht, hb]; exact hext, h.vals, h.olds, h.size, h.defs, fun j hj hDj hMj => ?_, fun j k y z hj hk => h.apart j k y z (by omega) (by omega), fun j hDj hMj => ?_, fun i y hy => ?_⟩
      · obtain ⟨y, c, o', g1, g2, g3, g4, g5, g6⟩ := h.early j (by omega) hDj hMj
        refine ⟨y, c, o', g1, g2, g3, g4, g5, ?_⟩
        rw [ht, hb]
        rintro ⟨i, d, z, k1, k2, k3⟩
        by_cases hi : i = (st m).next
        · subst hi
          rw [Rho.at_same] at k2
          cases k2
          have := h.apart m j x y (Nat.le_refl _) (by omega) hD hDj hmade hMj h1 g1 k3
          omega
        · rw [Rho.at_ne _ x hi] at k2
          rw [St.get_new, if_neg (Ne.symm hi)] at k1
          exact g6 ⟨i, d, z, k1, k2, k3⟩
      · obtain ⟨g1, g2⟩ := h.later j hDj hMj
        refine ⟨g1, fun hjm d hd => ?_⟩
        have hjm' : j < m := by
          rcases Nat.lt_or_ge j m with h7 | h7
          · exact h7
          · have : j = m := by omega
            subst this; exact absurd hD hDj
        have := hp.made_lt hcall hMj hjm' (Nat.le_of_lt hm)
        rw [hb, St.get_new, if_neg (by omega)] at hd
        exact g2 hjm' d hd
      · rcases h.known i y hy with g | ⟨j, g1, g2, g3, g4⟩
        · exact .inl (by omega)
        · by_cases hjm : j = m
          · subst hjm; exact .inl (by omega)
          · exact .inr ⟨j, by omega, g2, g3, g4⟩
    · obtain ⟨h1, _⟩ := h.later m hD hmade
      have ht : r.till (st (m + 1)).next = r.till (st m).next := by rw [hnx]; exact Rho.till_none h1
      refine ⟨h.closed, heffs, hm, by rw [ht, hb]; exact h.ext.skip b, h.vals, h.olds, h.size, h.defs, fun j hj hDj hMj => ?_, fun j k y z hj hk => h.apart j k y z (by omega) (by omega), fun j hDj hMj => ?_, fun i y hy => ?_⟩
      · obtain ⟨y, c, o', g1, g2, g3, g4, g5, g6⟩ := h.early j (by omega) hDj hMj
        refine ⟨y, c, o', g1, g2, g3, g4, g5, ?_⟩
        rw [ht, hb]
        rintro ⟨i, d, z, k1, k2, k3⟩
        have hi : i ≠ (st m).next := fun e => by
          have := (Rho.till_some k2).1
          omega
        rw [St.get_new, if_neg (Ne.symm hi)] at k1
        exact g6 ⟨i, d, z, k1, k2, k3⟩
      · obtain ⟨g1, g2⟩ := h.later j hDj hMj
        refine ⟨g1, fun hjm d hd => ?_⟩
        by_cases hjm' : j = m
        · subst hjm'; exact hd
        · have := hp.made_lt hcall hMj (show j < m by omega) (Nat.le_of_lt hm)
          rw [hb, St.get_new, if_neg (by omega)] at hd
          exact g2 (by omega) d hd
      · rcases h.known i y hy with g | ⟨j, g1, g2, g3, g4⟩
        · exact .inl (by omega)
        · by_cases hjm : j = m
          · subst hjm; exact absurd g2 hD
          · exact .inr ⟨j, by omega, g2, g3, g4⟩
  · refine ⟨h.closed, heffs, hm, by rw [hs]; exact h.ext, h.vals, h.olds, h.size, h.defs, fun j hj hDj hMj => ?_, fun j k y z hj hk => h.apart j k y z (by omega) (by omega), fun j hDj hMj => ?_, fun i y hy => ?_⟩
    · obtain ⟨y, c, o', g1, g2, g3, g4, g5, g6⟩ := h.early j (by omega) hDj hMj
      exact ⟨y, c, o', g1, g2, g3, g4, g5, by rw [hs]; exact g6⟩
    · obtain ⟨g1, g2⟩ := h.later j hDj hMj
      refine ⟨g1, fun hjm d hd => ?_⟩
      by_cases hjm' : j = m
      · subst hjm'; exact absurd hMj hmade
      · rw [hs] at hd; exact g2 (by omega) d hd
    · rcases h.known i y hy with g | ⟨j, g1, g2, g3, g4⟩
      · exact .inl (by rw [hs]; exact g)
      · by_cases hjm : j = m
        · subst hjm; exact absurd g3 hmade
        · exact .inr ⟨j, by omega, g2, g3, g4⟩
/-- .. up to the next effect -/
theorem Iv.full (hp : Plan X P call K ops e0 vs st) (hcall : CallOK P call) : ∀ (d : Nat) {m : Nat}, ops.toList.length - m = d → Iv P call K ops e0 vs st r0 w0 a0 D m r a w →
    ∃ p, Iv P call K ops e0 vs st r0 w0 a0 D p r a w ∧ (p = ops.toList.length ∨ isEff P ops p)
  | 0, m, hd, h => ⟨m, h, .inl (by have := h.le; omega)⟩
  | d + 1, m, hd, h => by
    by_cases he : isEff P ops m
    · exact ⟨m, h, .inr he⟩
    · exact Iv.full hp hcall d (m := m + 1) (by omega) (h.on hp hcall (by omega) he)
end
end Go.Proofs.YtchkcnecgfolmaaGreatDoor.Ev
namespace Go.Proofs.YtchkcnecgfolmaaGreatDoor.Ev
open Go
set_option linter.unusedSectionVars false
set_option linter.unusedVariables false
set_option linter.unusedSimpArgs false
variable [Sig] {P : Program} {X : Nat → Nat → Prop}

theorem mem_tmpsIn {t : Tmp} : ∀ {l : List Operand}, Operand.tmp t ∈ l → t ∈ tmpsIn l
  | .tmp u :: l, h => by
    rcases List.mem_cons.1 h with h | h
    · cases h; exact List.mem_cons_self ..
    · exact List.mem_cons_of_mem _ (mem_tmpsIn h)
  | .const v :: l, h => by
    rcases List.mem_cons.1 h with h | h
    · cases h
    · exact mem_tmpsIn (l := l) h
  | .global g :: l, h => by
    rcases List.mem_cons.1 h with h | h
    · cases h
    · exact mem_tmpsIn (l := l) h
  | .func f :: l, h => by
    rcases List.mem_cons.1 h with h | h
    · cases h
    · exact mem_tmpsIn (l := l) h

section
variable {call : CallF} {K : Tmps} {ops : Array Oper} {e0 : Env} {vs : List AVal} {st : Nat → St}
variable {r0 : Rho} {w0 : World} {a0 : Act} {D D' : Nat → Prop} {m : Nat} {r : Rho} {a : Act} {w : World}

/-- what an operation reads -/
theorem Iv.read (hp : Plan X P call K ops e0 vs st) (hr0 : Rel r0 (st 0) w0) (he0 : EnvR K r0 e0 a0) (h : Iv P call K ops e0 vs st r0 w0 a0 D m r a w) {j : Nat} {o : Oper} (ho : ops.toList[j]? = some o) (hD : ¬ D j)
    (hr : ∀ i, bfAt (bfsOf ops.toList []) j i → D i) {t : Tmp} (ht : t ∈ readsAt ops o) {v : AVal} (hv : evalO (vs.take j).reverse e0 (codAt ops j (.tmp t)) = .ok v) : VR (r.till (st j).next) v (a.tmps.getD t undef) := by
  have hjl := (List.getElem?_eq_some_iff.1 ho).1
  have behind : ∀ k, j < k → D k → dstAt ops.toList k ≠ some t := fun k hjk hDk hk => hD (h.closed k hDk j ((hp.reads k j o t ho ht hk).2 hjk))
  rcases evalO_last (Nat.le_of_lt hjl) hp.len hv with ⟨i, hij, hdi, hlast, hvi⟩ | ⟨hnone, hget⟩
  · have hDi : D i := hr i ((hp.reads i j o t ho ht hdi).1 hij)
    have h1 := h.vals i t v hDi hdi (fun k hik hDk hk => by
      rcases Nat.lt_trichotomy k j with g | g | g
      · exact hlast k hik g hk
      · subst g; exact hD hDk
      · exact behind k g hDk hk) hvi
    obtain ⟨v', hv', _, _, hlow, _⟩ := hp.step i _ (List.getElem?_eq_getElem (show i < ops.toList.length by omega))
    rw [hvi] at hv'
    cases hv'
    exact (h1.low hlow).mono (Rho.till_le r.le_refl (hp.next_le hij (Nat.le_of_lt hjl)))
  · rw [h.olds t fun k hDk hk => by
      rcases Nat.lt_trichotomy k j with g | g | g
      · exact hnone k g hk
      · subst g; exact hD hDk
      · exact behind k g hDk hk]
    refine (he0.env t v hget).2.mono fun i x hx => ?_
    have h1 := hr0.known i x hx
    have h2 := hp.next_le (Nat.zero_le j) (Nat.le_of_lt hjl)
    rw [Rho.till_lt (by omega)]
    exact (Rho.till_some (h.ext.le i x hx)).2
theorem Iv.cx (hp : Plan X P call K ops e0 vs st) (hr0 : Rel r0 (st 0) w0) (he0 : EnvR K r0 e0 a0) (h : Iv P call K ops e0 vs st r0 w0 a0 D m r a w) {j : Nat} {o : Oper} (ho : ops.toList[j]? = some o) (hD : ¬ D j)
    (hr : ∀ i, bfAt (bfsOf ops.toList []) j i → D i) : Cx (r.till (st j).next) (vs.take j).reverse e0 (codAt ops j) a o.op := by
  intro x hx v hv
  cases x with
  | tmp t => exact h.read hp hr0 he0 ho hD hr (List.mem_append_left _ (mem_tmpsIn (Array.mem_toList_iff.2 hx))) hv
  | const u =>
    have hv : evalO (vs.take j).reverse e0 (cval u) = .ok v := hv
    unfold cval at hv
    split at hv
    · rename_i b hb
      cases hv
      exact ofV_ok _ u _ hb
    · cases hv
  | func f =>
    cases hv
    exact .func f .nil .nil
  | _ => cases hv
/-- a result goes to its place -/
theorem Iv.put (hp : Plan X P call K ops e0 vs st) (he0 : EnvR K r0 e0 a0) (h : Iv P call K ops e0 vs st r0 w0 a0 D m r a w) {j : Nat} {o : Oper} (ho : ops.toList[j]? = some o) (hdi : dstIn K o = true) (hD : ¬ D j)
    (hD' : ∀ k, D' k ↔ D k ∨ k = j) {r' : Rho} (hle : r.le r') {v : AVal} {u : Value} (hv : vs[j]? = some v) (hvr : VR r' v u) :
    (∀ i t v, D' i → dstAt ops.toList i = some t → (∀ k, i < k → D' k → dstAt ops.toList k ≠ some t) → vs[i]? = some v → VR r' v ((a.put o.dst u).tmps.getD t undef)) ∧
      (∀ t, (∀ k, D' k → dstAt ops.toList k ≠ some t) → (a.put o.dst u).tmps.getD t undef = a0.tmps.getD t undef) := by
  have hdst : dstAt ops.toList j = o.dst := by unfold dstAt; rw [ho]; rfl
  have hDj : D' j := (hD' j).2 (.inr rfl)
  have ne : ∀ {t}, o.dst ≠ some t → (a.put o.dst u).tmps.getD t undef = a.tmps.getD t undef := fun {t} hn => by
    cases hd : o.dst with
    | none => rfl
    | some d => exact getD_put_ne fun e => hn (by rw [hd, e])
  refine ⟨fun i t v' hDi hit hlast hvi => ?_, fun t hn => ?_⟩
  · by_cases hij : i = j
    · subst hij
      rw [hv] at hvi
      cases hvi
      rw [hdst] at hit
      rw [hit]
      rw [getD_put_same]
      · exact hvr
      · unfold dstIn at hdi
        rw [hit] at hdi
        rw [h.size]
        exact Nat.lt_of_lt_of_le (blt_is hdi) he0.size
    · have hDi' : D i := ((hD' i).1 hDi).resolve_right hij
      have hn : o.dst ≠ some t := fun e => by
        rcases Nat.lt_or_ge i j with g | g
        · exact hlast j g hDj (by rw [hdst, e])
        · exact hD (h.closed i hDi' j (hp.writes j i t (by omega) (by rw [hdst, e]) hit))
      rw [ne hn]
      exact (h.vals i t v' hDi' hit (fun k hik hDk => hlast k hik ((hD' k).2 (.inl hDk))) hvi).mono hle
  · rw [ne (fun e => hn j hDj (by rw [hdst, e]))]
    exact h.olds t fun k hDk => hn k ((hD' k).2 (.inl hDk))
theorem Iv.closed' (h : Iv P call K ops e0 vs st r0 w0 a0 D m r a w) {j : Nat} (hr : ∀ i, bfAt (bfsOf ops.toList []) j i → D i) (hD' : ∀ k, D' k ↔ D k ∨ k = j) : Closed (bfsOf ops.toList []) D' := fun k hk i hi => by
  rcases (hD' k).1 hk with g | g
  · exact (hD' i).2 (.inl (h.closed k g i hi))
  · subst g; exact (hD' i).2 (.inl (hr i hi))
theorem put_size' (h : Iv P call K ops e0 vs st r0 w0 a0 D m r a w) (d : Option Tmp) (u : Value) : (a.put d u).tmps.size = a0.tmps.size ∧ (a.put d u).defers = [] :=
  ⟨by rw [put_size]; exact h.size, by rw [put_defs]; exact h.defs⟩

/-- one operation more that is no effect and makes nothing -/
theorem Iv.quiet (hp : Plan X P call K ops e0 vs st) (he0 : EnvR K r0 e0 a0) (h : Iv P call K ops e0 vs st r0 w0 a0 D m r a w) {j : Nat} {o : Oper} (ho : ops.toList[j]? = some o) (hD : ¬ D j)
    (hr : ∀ i, bfAt (bfsOf ops.toList []) j i → D i) (hD' : ∀ k, D' k ↔ D k ∨ k = j) (hne : ¬ isEff P ops j) (hnm : ¬ Made P ops e0 vs j) {v : AVal} {u : Value} (hdi : dstIn K o = true) (hv : vs[j]? = some v) (hvr : VR r v u) :
    Iv P call K ops e0 vs st r0 w0 a0 D' m r (a.put o.dst u) w := by
  obtain ⟨h1, h2⟩ := h.put hp he0 ho hdi hD hD' r.le_refl hv hvr
  obtain ⟨h3, h4⟩ := put_size' h o.dst u
  have dm : ∀ {k}, D' k → Made P ops e0 vs k → D k := fun {k} hk hm => ((hD' k).1 hk).resolve_right fun e => hnm (e ▸ hm)
  refine ⟨h.closed' hr hD', fun i hi => ?_, h.le, h.ext, h1, h2, h3, h4, fun k hk hDk hMk => h.early k hk (dm hDk hMk) hMk, fun k l x y hk hl hDk hDl hMk hMl => h.apart k l x y hk hl (dm hDk hMk) (dm hDl hMl) hMk hMl,
    fun k hDk hMk => h.later k (fun g => hDk ((hD' k).2 (.inl g))) hMk, fun i x hx => ?_⟩
  · rw [← h.effs i hi, hD' i]
    exact ⟨fun g => g.resolve_right fun e => hne (e ▸ hi), .inl⟩
  · rcases h.known i x hx with g | ⟨k, g1, g2, g3, g4⟩
    · exact .inl g
    · exact .inr ⟨k, g1, (hD' k).2 (.inl g2), g3, g4⟩
/-- .. an effect that is not wanted -/
theorem Iv.unwanted (hp : Plan X P call K ops e0 vs st) (he0 : EnvR K r0 e0 a0) (h : Iv P call K ops e0 vs st r0 w0 a0 D m r a w) {o : Oper} (ho : ops.toList[m]? = some o) (hD : ¬ D m)
    (hr : ∀ i, bfAt (bfsOf ops.toList []) m i → D i) (hD' : ∀ k, D' k ↔ D k ∨ k = m) (hne : isEff P ops m) {v : AVal} {u : Value} (hdi : dstIn K o = true) (hv : vs[m]? = some v) (hvr : VR r v u) (hs : st (m + 1) = st m) :
    Iv P call K ops e0 vs st r0 w0 a0 D' (m + 1) r (a.put o.dst u) w := by
  obtain ⟨h1, h2⟩ := h.put hp he0 ho hdi hD hD' r.le_refl hv hvr
  obtain ⟨h3, h4⟩ := put_size' h o.dst u
  have hml := (List.getElem?_eq_some_iff.1 ho).1
  have nm : ∀ {k}, Made P ops e0 vs k → k ≠ m := fun {k} hk e => by subst e; exact hk.notEff hne
  have dm : ∀ {k}, D' k → Made P ops e0 vs k → D k := fun {k} hk hm => ((hD' k).1 hk).resolve_right (nm hm)
  refine ⟨h.closed' hr hD', fun i hi => ?_, hml, by rw [hs]; exact h.ext, h1, h2, h3, h4, fun k hk hDk hMk => by rw [hs]; exact h.early k (by omega) (dm hDk hMk) hMk, fun k l x y hk hl hDk hDl hMk hMl => h.apart k l x y (by omega) (by omega) (dm hDk hMk) (dm hDl hMl) hMk hMl,
    fun k hDk hMk => ?_, fun i x hx => ?_⟩
  · rw [hD' i, h.effs i hi]
    omega
  · obtain ⟨g1, g2⟩ := h.later k (fun g => hDk ((hD' k).2 (.inl g))) hMk
    have := nm hMk
    exact ⟨g1, fun hk d hd => by rw [hs] at hd; exact g2 (by omega) d hd⟩
  · rcases h.known i x hx with g | ⟨k, g1, g2, g3, g4⟩
    · exact .inl (by rw [hs]; exact g)
    · have := nm g3
      exact .inr ⟨k, by omega, (hD' k).2 (.inl g2), g3, g4⟩
/-- .. an effect -/
theorem Iv.effect (hp : Plan X P call K ops e0 vs st) (hcall : CallOK P call) (he0 : EnvR K r0 e0 a0) (h : Iv P call K ops e0 vs st r0 w0 a0 D m r a w) {o : Oper} (ho : ops.toList[m]? = some o) (hD : ¬ D m)
    (hr : ∀ i, bfAt (bfsOf ops.toList []) m i → D i) (hD' : ∀ k, D' k ↔ D k ∨ k = m) (hne : isEff P ops m) {v : AVal} {u : Value} (hdi : dstIn K o = true) (hv : vs[m]? = some v) {q : Rho} {w' : World}
    (hx : Ext (r.till (st m).next) (st m) w q (st (m + 1)) w') (hvr : VR q v u) :
    ∃ r', Iv P call K ops e0 vs st r0 w0 a0 D' (m + 1) r' (a.put o.dst u) w' := by
  have hml := (List.getElem?_eq_some_iff.1 ho).1
  have nm : ∀ {k}, Made P ops e0 vs k → k ≠ m := fun {k} hk e => by subst e; exact hk.notEff hne
  have dm : ∀ {k}, D' k → Made P ops e0 vs k → D k := fun {k} hk hm => ((hD' k).1 hk).resolve_right (nm hm)
  have up : ∀ {k}, Made P ops e0 vs k → m ≤ k → (st (m + 1)).next ≤ (st k).next := fun {k} hk hmk => hp.next_le (by have := nm hk; omega) (Nat.le_of_lt hk.lt)
  have hnn := hx.next
  let r' : Rho := fun i => if i < (st (m + 1)).next then q i else r i
  have rlt : ∀ {i}, i < (st (m + 1)).next → r' i = q i := fun hi => if_pos hi
  have rge : ∀ {i}, (st (m + 1)).next ≤ i → r' i = r i := fun hi => if_neg (by omega)
  have hle : r.le r' := fun i x hi => by
    rcases h.known i x hi with g | ⟨k, g1, g2, g3, g4⟩
    · rw [rlt (by omega)]
      exact hx.le i x (by rw [Rho.till_lt g]; exact hi)
    · have := up g3 g1
      rw [rge (by omega)]
      exact hi
  have htill : r'.till (st (m + 1)).next = q := by
    funext i
    by_cases hi : i < (st (m + 1)).next
    · rw [Rho.till_lt hi, rlt hi]
    · rw [Rho.till_ge (by omega)]
      exact (hx.rel.none_next (by omega)).symm
  have hqr : q.le r' := fun i x hi => by rw [rlt (hx.rel.known i x hi)]; exact hi
  obtain ⟨h1, h2⟩ := h.put hp he0 ho hdi hD hD' hle hv (hvr.mono hqr)
  obtain ⟨h3, h4⟩ := put_size' h o.dst u
  refine ⟨r', h.closed' hr hD', fun i hi => ?_, hml, by rw [htill]; exact h.ext.trans hx, h1, h2, h3, h4, fun k hk hDk hMk => ?_, fun k l x y hk hl hDk hDl hMk hMl hxk hyl => ?_, fun k hDk hMk => ?_, fun i x hi => ?_⟩
  · rw [hD' i, h.effs i hi]
    omega
  · obtain ⟨x, b, ob, g1, g2, g3, g4, g5, g6⟩ := h.early k (by omega) (dm hDk hMk) hMk
    have hsz := (Array.getElem?_eq_some_iff.1 g4).1
    refine ⟨x, b, ob, by rw [rge (up hMk (by omega))]; exact g1, g2, g3.mono (Rho.till_le hle (Nat.le_refl _)), by rw [hx.frame _ hsz g6]; exact g4, g5, ?_⟩
    rw [htill]
    intro hh
    rcases hx.hits _ hh with g | g
    · exact g6 g
    · omega
  · rw [rge (up hMk (by omega))] at hxk
    rw [rge (up hMl (by omega))] at hyl
    exact h.apart k l x y (by omega) (by omega) (dm hDk hMk) (dm hDl hMl) hMk hMl hxk hyl
  · obtain ⟨g1, g2⟩ := h.later k (fun g => hDk ((hD' k).2 (.inl g))) hMk
    have hkm := nm hMk
    rcases Nat.lt_or_ge k m with hlt | hge
    · have hkn := hp.made_lt hcall hMk hlt (Nat.le_of_lt hml)
      have hn : (r.till (st m).next) (st k).next = none := by rw [Rho.till_lt hkn]; exact g1
      refine ⟨?_, fun _ d hd => g2 hlt d (hx.still _ hkn hn d hd)⟩
      rw [rlt (by omega)]
      cases e : q (st k).next with
      | none => rfl
      | some x => exact absurd (hx.fresh _ hn (by rw [e]; exact fun h => by cases h)) (by omega)
    · exact ⟨by rw [rge (up hMk hge)]; exact g1, fun hk => by omega⟩
  · by_cases hin : i < (st (m + 1)).next
    · exact .inl hin
    · rw [rge (by omega)] at hi
      rcases h.known i x hi with g | ⟨k, g1, g2, g3, g4⟩
      · exact .inl (by omega)
      · have := nm g3
        exact .inr ⟨k, by omega, (hD' k).2 (.inl g2), g3, g4⟩
/-- .. one that makes a block -/
theorem Iv.made (hp : Plan X P call K ops e0 vs st) (hcall : CallOK P call) (he0 : EnvR K r0 e0 a0) (h : Iv P call K ops e0 vs st r0 w0 a0 D m r a w) {j : Nat} {o : Oper} (ho : ops.toList[j]? = some o) (hD : ¬ D j)
    (hr : ∀ i, bfAt (bfsOf ops.toList []) j i → D i) (hD' : ∀ k, D' k ↔ D k ∨ k = j) (hM : Made P ops e0 vs j) (hjm : j ≠ m) {v : AVal} {u : Value} (hdi : dstIn K o = true) (hv : vs[j]? = some v) {b : ABlk} (hb : st (j + 1) = (st j).new b)
    {w' : World} {y : RB} {ob : Obj} (hy : y.blk = w.heap.size) (hu : w'.heap[y.blk]? = some ob) (hf : ∀ k, k < w.heap.size → w'.heap[k]? = w.heap[k]?) (hs : w.heap.size ≤ w'.heap.size) (hos : w'.os = w.os) (hta : w'.tape = w.tape)
    (hout : w'.output = w.output) (hbr : BR ((r.till (st j).next).at (st j).next y) b y ob) (hvr : VR ((r.till (st j).next).at (st j).next y) v u) :
    ∃ r', Iv P call K ops e0 vs st r0 w0 a0 D' m r' (a.put o.dst u) w' := by
  have hjl := (List.getElem?_eq_some_iff.1 ho).1
  have hne := hM.notEff
  obtain ⟨hrn, hst⟩ := h.later j hD hM
  have hle : r.le (r.at (st j).next y) := r.at_le y hrn
  have hatle : ((r.till (st j).next).at (st j).next y).le (r.at (st j).next y) := Rho.at_le_at fun i x hx => (Rho.till_some hx).2
  obtain ⟨h1, h2⟩ := h.put hp he0 ho hdi hD hD' hle hv (hvr.mono hatle)
  obtain ⟨h3, h4⟩ := put_size' h o.dst u
  have hnx : (st (j + 1)).next = (st j).next + 1 := by rw [hb, St.next_new]
  have hget : (st (j + 1)).get (st j).next = some b := by rw [hb, St.get_new, if_pos rfl]
  have ne : ∀ {k}, Made P ops e0 vs k → k ≠ j → (st k).next ≠ (st j).next := fun {k} hk hkj e => hkj (hp.made_ne hcall hk hM e)
  have effs : ∀ i, isEff P ops i → (D' i ↔ i < m) := fun i hi => by
    rw [← h.effs i hi, hD' i]
    exact ⟨fun g => g.resolve_right fun e => hne (e ▸ hi), .inl⟩
  have later : ∀ k, ¬ D' k → Made P ops e0 vs k → (r.at (st j).next y) (st k).next = none ∧ (k < m → ∀ b, (st m).get (st k).next = some b → (st (k + 1)).get (st k).next = some b) := fun k hDk hMk => by
    have hkj : k ≠ j := fun e => hDk ((hD' k).2 (.inr e))
    rw [Rho.at_ne r y (ne hMk hkj)]
    exact h.later k (fun g => hDk ((hD' k).2 (.inl g))) hMk
  have old : ∀ {k}, m ≤ k → D k → Made P ops e0 vs k → ∃ x c oc, (r.at (st j).next y) (st k).next = some x ∧ (st (k + 1)).get (st k).next = some c ∧ BR ((r.at (st j).next y).till ((st k).next + 1)) c x oc ∧ w'.heap[x.blk]? = some oc ∧ w0.heap.size ≤ x.blk ∧
      ¬ Hit (r.till (st m).next) (st m) x.blk ∧ x.blk < w.heap.size := fun {k} hk hDk hMk => by
    obtain ⟨x, c, oc, g1, g2, g3, g4, g5, g6⟩ := h.early k hk hDk hMk
    have hsz := (Array.getElem?_eq_some_iff.1 g4).1
    exact ⟨x, c, oc, hle _ _ g1, g2, g3.mono (Rho.till_le hle (Nat.le_refl _)), by rw [hf _ hsz]; exact g4, g5, g6, hsz⟩
  have hw0 := h.ext.size
  rcases Nat.lt_or_ge j m with hlt | hge
  · have hjn := hp.made_lt hcall hM hlt h.le
    have ht : (r.at (st j).next y).till (st m).next = (r.till (st m).next).at (st j).next y := Rho.till_at hjn
    have hq : (r.till (st m).next) (st j).next = none := by rw [Rho.till_lt hjn]; exact hrn
    have hext := h.ext.born (n := (st j).next) hq (fun c hc => by have := hst hlt c hc; rw [hget] at this; cases this; rfl) hjn (hp.next_le (Nat.zero_le j) (Nat.le_of_lt hjl)) (by omega) hu (hbr.mono (Rho.at_le_at (Rho.till_le r.le_refl (Nat.le_of_lt hjn)))) hf hs hos hta hout
    have dj : ∀ {k}, m ≤ k → D' k → D k := fun {k} hk hDk => ((hD' k).1 hDk).resolve_right (by omega)
    refine ⟨_, h.closed' hr hD', effs, h.le, by rw [ht]; exact hext, h1, h2, h3, h4, fun k hk hDk hMk => ?_, fun k l x z hk hl hDk hDl hMk hMl hxk hyl => ?_, later, fun i x hx => ?_⟩
    · obtain ⟨x, c, oc, g1, g2, g3, g4, g5, g6, g7⟩ := old hk (dj hk hDk) hMk
      refine ⟨x, c, oc, g1, g2, g3, g4, g5, ?_⟩
      rw [ht]
      rintro ⟨i, d, z, k1, k2, k3⟩
      by_cases hi : i = (st j).next
      · subst hi
        rw [Rho.at_same] at k2
        cases k2
        omega
      · rw [Rho.at_ne _ y hi] at k2
        exact g6 ⟨i, d, z, k1, k2, k3⟩
    · rw [Rho.at_ne r y (ne hMk (by omega))] at hxk
      rw [Rho.at_ne r y (ne hMl (by omega))] at hyl
      exact h.apart k l x z hk hl (dj hk hDk) (dj hl hDl) hMk hMl hxk hyl
    · by_cases hi : i = (st j).next
      · exact .inl (by omega)
      · rw [Rho.at_ne r y hi] at hx
        rcases h.known i x hx with g | ⟨k, g1, g2, g3, g4⟩
        · exact .inl g
        · exact .inr ⟨k, g1, (hD' k).2 (.inl g2), g3, g4⟩
  · have hmn := hp.next_le (show m ≤ j from hge) (Nat.le_of_lt hjl)
    have ht : (r.at (st j).next y).till (st m).next = r.till (st m).next := Rho.till_at_ge hmn
    refine ⟨_, h.closed' hr hD', effs, h.le, by rw [ht]; exact h.ext.grow hf hs hos hta hout, h1, h2, h3, h4, fun k hk hDk hMk => ?_, fun k l x z hk hl hDk hDl hMk hMl hxk hyl => ?_, later, fun i x hx => ?_⟩
    · rw [ht]
      by_cases hkj : k = j
      · subst hkj
        refine ⟨y, b, ob, Rho.at_same r _ y, hget, hbr.mono ?_, hu, by omega, fun hh => ?_⟩
        · rw [Rho.till_at (Nat.lt_succ_self _)]
          exact Rho.at_le_at (Rho.till_le r.le_refl (by omega))
        · have := h.ext.rel.lt hh
          omega
      · obtain ⟨x, c, oc, g1, g2, g3, g4, g5, g6, g7⟩ := old hk (((hD' k).1 hDk).resolve_right hkj) hMk
        exact ⟨x, c, oc, g1, g2, g3, g4, g5, g6⟩
    · intro hxz
      by_cases hkj : k = j <;> by_cases hlj : l = j
      · omega
      · subst hkj
        rw [Rho.at_same] at hxk
        cases hxk
        obtain ⟨x', c, oc, g1, g2, g3, g4, g5, g6, g7⟩ := old hl (((hD' l).1 hDl).resolve_right hlj) hMl
        rw [g1] at hyl
        cases hyl
        omega
      · subst hlj
        rw [Rho.at_same] at hyl
        cases hyl
        obtain ⟨x', c, oc, g1, g2, g3, g4, g5, g6, g7⟩ := old hk (((hD' k).1 hDk).resolve_right hkj) hMk
        rw [g1] at hxk
        cases hxk
        omega
      · rw [Rho.at_ne r y (ne hMk hkj)] at hxk
        rw [Rho.at_ne r y (ne hMl hlj)] at hyl
        exact h.apart k l x z hk hl (((hD' k).1 hDk).resolve_right hkj) (((hD' l).1 hDl).resolve_right hlj) hMk hMl hxk hyl hxz
    · by_cases hi : i = (st j).next
      · exact .inr ⟨j, hge, (hD' j).2 (.inr rfl), hM, hi⟩
      · rw [Rho.at_ne r y hi] at hx
        rcases h.known i x hx with g | ⟨k, g1, g2, g3, g4⟩
        · exact .inl g
        · exact .inr ⟨k, g1, (hD' k).2 (.inl g2), g3, g4⟩
end
end Go.Proofs.YtchkcnecgfolmaaGreatDoor.Ev
namespace Go.Proofs.YtchkcnecgfolmaaGreatDoor.Ev
open Go
set_option linter.unusedSectionVars false
set_option linter.unusedVariables false
set_option linter.unusedSimpArgs false
variable [Sig] {P : Program} {X : Nat → Nat → Prop}

/-- how many are not listed -/
def cntF : List Bool → Nat
  | [] => 0
  | b :: l => (if b = false then 1 else 0) + cntF l
theorem cntF_set : ∀ {l : List Bool} {i : Nat}, l[i]? = some false → cntF (l.set i true) + 1 = cntF l
  | [], i, h => by simp at h
  | b :: l, 0, h => by
    cases h
    simp [cntF]
    omega
  | b :: l, i + 1, h => by
    have := cntF_set (l := l) (i := i) (by simpa using h)
    simp only [List.set_cons_succ, cntF]
    omega
theorem cntF_zero : ∀ {l : List Bool} {i : Nat}, cntF l = 0 → l[i]? ≠ some false
  | [], i, _ => by simp
  | b :: l, 0, h => by
    cases b
    · simp [cntF] at h
    · simp
  | b :: l, i + 1, h => by
    have : cntF l = 0 := by simp only [cntF] at h; omega
    simpa using cntF_zero (i := i) this
theorem cntF_rep : ∀ n, cntF (List.replicate n false) = n
  | 0 => rfl
  | n + 1 => by
    rw [List.replicate_succ]
    simp only [cntF, cntF_rep n]
    simp
    omega

section
variable {call : CallF} {K : Tmps} {ops : Array Oper} {e0 : Env} {vs : List AVal} {st : Nat → St}
variable {r0 : Rho} {w0 : World} {a0 : Act} {m : Nat} {r : Rho} {a : Act} {w : World}

/-- the listed ones -/
def Lst (l : Array Bool) (j : Nat) : Prop := l.getD j false = true
theorem lst_set {l : Array Bool} {i : Nat} (hi : i < l.size) (k : Nat) : Lst (l.setIfInBounds i true) k ↔ Lst l k ∨ k = i := by
  unfold Lst
  by_cases h : i = k
  · subst h; simp [hi]
  · rw [getD_set_ne false h]
    exact ⟨.inl, fun g => g.resolve_right fun e => h e.symm⟩

/-- any operation that is ready -/
theorem Iv.next (hp : Plan X P call K ops e0 vs st) (hcall : CallOK P call) (hr0 : Rel r0 (st 0) w0) (he0 : EnvR K r0 e0 a0) {D D' : Nat → Prop} (h : Iv P call K ops e0 vs st r0 w0 a0 D m r a w)
    (hm : m = ops.toList.length ∨ isEff P ops m) {j : Nat} (hX : ¬ X m j) {o : Oper} (ho : ops.toList[j]? = some o) (hD : ¬ D j) (hr : ∀ i, bfAt (bfsOf ops.toList []) j i → D i) (hD' : ∀ k, D' k ↔ D k ∨ k = j)
    {Kn : Act → World → Prop} {Q : Exit → Act → World → Prop} (hK : ∀ r' a' w' p, Iv P call K ops e0 vs st r0 w0 a0 D' p r' a' w' → Kn a' w') : wpOp P ops Q j Kn a w := by
  have hjl := (List.getElem?_eq_some_iff.1 ho).1
  have ho' : ops[j]? = some o := by rw [← Array.getElem?_toList]; exact ho
  obtain ⟨v, hv, hdi, hnx, hlow, hst⟩ := hp.step j o ho
  have hcx := h.cx hp hr0 he0 ho hD hr
  have hwt := wanted_ok (r := r.till (st j).next) (l := (vs.take j).reverse) (e0 := e0) (co := codAt ops j) (a := a) (ops := ops) (o := o) fun t ht v' hv' => h.read hp hr0 he0 ho hD hr (List.mem_append_right _ ht) hv'
  have tl : ∀ {n}, (r.till n).le r := fun {n} i x hx => (Rho.till_some hx).2
  have effj : isEff P ops j → j = m := fun he => by
    rcases hm with rfl | hm
    · exact absurd ((h.effs j he).2 hjl) hD
    · have h1 : ¬ j < m := fun g => hD ((h.effs j he).2 g)
      rcases Nat.lt_trichotomy j m with g | g | g
      · exact absurd g h1
      · exact g
      · exact absurd ((h.effs m hm).1 (hr m (hp.effs m j g hX hm he))) (by omega)
  unfold wpOp
  rw [ho']
  simp only
  rcases hst with ⟨hw, hrun⟩ | ⟨hw, rfl, hs⟩
  · rw [hwt.1 hw, if_pos rfl]
    refine .inl ?_
    have hop := op_ok hcall hrun
    cases hk : kdOf P o.op with
    | pure =>
      rw [hk] at hop
      obtain ⟨u, h1, h2⟩ := hop.2 _ w a hcx
      unfold Oper.wp
      rw [h1]
      refine hK r _ w m (h.quiet hp he0 ho hD hr hD' (fun ⟨o', g1, g2⟩ => ?_) (fun ⟨o', g1, g2, _⟩ => ?_) hdi hv (h2.mono tl))
      · rw [ho] at g1; cases g1; rw [hk] at g2; cases g2
      · rw [ho] at g1; cases g1; rw [hk] at g2; cases g2
    | look =>
      obtain ⟨s', hrun'⟩ := hp.look j o v ho hk hv hw m hm (fun i hi hb => (h.effs i hi).1 (hr i hb)) (fun i hi him hb => hD (h.closed i ((h.effs i hi).2 him) j hb))
      have hop' := op_ok hcall hrun'
      rw [hk] at hop'
      have hrel : RelB r (st m) w := ⟨fun i b x hb hx => by
        have hi : i < (st m).next := h.ext.rel.below hb
        obtain ⟨ob, g1, g2⟩ := h.ext.rel.block i b x hb (by rw [Rho.till_lt hi]; exact hx)
        exact ⟨ob, g1, g2.mono tl⟩, h.ext.rel.far⟩
      obtain ⟨u, h1, h2⟩ := hop'.2 r w a hrel fun x hx v' hv' => (hcx x hx v' hv').mono tl
      unfold Oper.wp
      rw [h1]
      refine hK r _ w m (h.quiet hp he0 ho hD hr hD' (fun ⟨o', g1, g2⟩ => ?_) (fun ⟨o', g1, g2, _⟩ => ?_) hdi hv h2)
      · rw [ho] at g1; cases g1; rw [hk] at g2; cases g2
      · rw [ho] at g1; cases g1; rw [hk] at g2; cases g2
    | make =>
      rw [hk] at hop
      obtain ⟨mk, b, rfl, hb, hmk⟩ := hop
      obtain ⟨w', u, y, ob, h1, h2, h3, h4, h5, h6, h7, h8, h9⟩ := hmk _ w a hcx
      obtain ⟨h10, h11⟩ := h9 (st j).next (Rho.till_ge (Nat.le_refl _))
      have hM : Made P ops e0 vs j := ⟨o, ho, hk, hw⟩
      obtain ⟨r', hiv⟩ := h.made hp hcall he0 ho hD hr hD' hM (fun e => by
        subst e
        rcases hm with e | e
        · omega
        · exact hM.notEff e) hdi hv hb h2 h3 h4 h5 h6 h7 h8 h10 h11
      unfold Oper.wp
      rw [h1]
      exact hK r' _ w' m hiv
    | eff =>
      have he : isEff P ops j := ⟨o, ho, by rw [hk]; rfl⟩
      have := effj he
      subst this
      exact hop.ok h.ext.rel hcx _ _ fun q u w' hx hvr => by
        obtain ⟨r', hiv⟩ := h.effect hp hcall he0 ho hD hr hD' he hdi hv hx hvr
        exact hK r' _ w' _ hiv
  · rw [hwt.2 hw]
    simp only [Bool.false_eq_true, if_false]
    by_cases he : isEff P ops j
    · have := effj he
      subst this
      exact hK r _ w _ (h.unwanted hp he0 ho hD hr hD' he hdi hv (.tuple .nil) hs)
    · refine hK r _ w _ (h.quiet hp he0 ho hD hr hD' he (fun ⟨o', g1, _, g2⟩ => ?_) hdi hv (.tuple .nil))
      rw [ho] at g1; cases g1; rw [hw] at g2; cases g2

/-- the temporaries behind all -/
theorem envFrom_get {t : Tmp} {v : AVal} : ∀ (L : List Oper) (vs : List AVal) (e : Env), vs.length = L.length → (envFrom K L vs e).get t = some v →
    (∃ i, dstAt L i = some t ∧ (∀ k, i < k → dstAt L k ≠ some t) ∧ vs[i]? = some v ∧ K.keep t = true) ∨ (((∀ k, dstAt L k ≠ some t) ∨ K.keep t = false) ∧ e.get t = some v)
  | [], vs, e, _, h => .inr ⟨.inl fun k => by simp [dstAt], by cases vs <;> exact h⟩
  | o :: L, [], e, hl, h => by cases hl
  | o :: L, u :: vs, e, hl, h => by
    have h : (envFrom K L vs (putE e u (dstOf K o))).get t = some v := h
    rcases envFrom_get L vs _ (by simpa using hl) h with ⟨i, h1, h2, h3, h4⟩ | ⟨h1, h2⟩
    · refine .inl ⟨i + 1, by simpa [dstAt] using h1, fun k hk => ?_, by simpa using h3, h4⟩
      cases k with
      | zero => omega
      | succ k => simpa [dstAt] using h2 k (by omega)
    · unfold dstOf at h2
      cases hd : o.dst with
      | none =>
        rw [hd] at h2
        refine .inr ⟨h1.imp_left fun h1 k => ?_, h2⟩
        cases k with
        | zero => simp [dstAt, hd]
        | succ k => simpa [dstAt] using h1 k
      | some d =>
        rw [hd] at h2
        have h2 : (putE e u (sel (K.keep d) (some (bits d)) none)).get t = some v := h2
        cases hk : K.keep d
        · rw [hk] at h2
          refine .inr ⟨?_, h2⟩
          by_cases hdt : d = t
          · subst hdt; exact .inr hk
          · refine h1.imp_left fun h1 k => ?_
            cases k with
            | zero => simp [dstAt, hd, hdt]
            | succ k => simpa [dstAt] using h1 k
        · rw [hk] at h2
          have h2 : (e.set d (some u)).get t = some v := h2
          rw [get_set] at h2
          by_cases hdt : d = t
          · subst hdt
            rw [if_pos rfl] at h2
            cases h2
            rcases h1 with h1 | h1
            · refine .inl ⟨0, by simp [dstAt, hd], fun k hk' => ?_, rfl, hk⟩
              cases k with
              | zero => omega
              | succ k => simpa [dstAt] using h1 k
            · rw [hk] at h1; cases h1
          · rw [if_neg hdt] at h2
            refine .inr ⟨h1.imp_left fun h1 k => ?_, h2⟩
            cases k with
            | zero => simp [dstAt, hd, hdt]
            | succ k => simpa [dstAt] using h1 k

/-- behind all -/
theorem Iv.all (hp : Plan X P call K ops e0 vs st) (hcall : CallOK P call) (he0 : EnvR K r0 e0 a0) {D : Nat → Prop} (h : Iv P call K ops e0 vs st r0 w0 a0 D m r a w) (hall : ∀ j, j < ops.toList.length → D j) :
    ∃ q, Ext r0 (st 0) w0 q (st ops.toList.length) w ∧ EnvR K q (envFrom K ops.toList vs e0) a := by
  obtain ⟨p, hiv, hpe⟩ := h.full hp hcall _ rfl
  have hpN : p = ops.toList.length := by
    rcases hpe with g | g
    · exact g
    · have g' := g
      obtain ⟨o, h1, _⟩ := g'
      have hl := (List.getElem?_eq_some_iff.1 h1).1
      have := (hiv.effs p g).1 (hall p hl)
      omega
  subst hpN
  have tl : ∀ {i x}, r i = some x → i < (st ops.toList.length).next := fun {i x} hx => by
    rcases hiv.known i x hx with g | ⟨k, g1, g2, g3, g4⟩
    · exact g
    · have := g3.lt; omega
  have ht : r.till (st ops.toList.length).next = r := Rho.till_of fun i x => tl
  have hext := hiv.ext
  rw [ht] at hext
  refine ⟨r, hext, fun t v hv => ?_, by rw [hiv.size]; exact he0.size, hiv.defs⟩
  have lt : ∀ {k}, dstAt ops.toList k = some t → k < ops.toList.length := fun {k} hk => by
    unfold dstAt at hk
    rw [Option.bind_eq_some_iff] at hk
    obtain ⟨o, h1, _⟩ := hk
    exact (List.getElem?_eq_some_iff.1 h1).1
  rcases envFrom_get ops.toList vs e0 hp.len hv with ⟨i, h1, h2, h3, h4⟩ | ⟨h1, h2⟩
  · exact ⟨h4, hiv.vals i t v (hall i (lt h1)) h1 (fun k hk _ => h2 k hk) h3⟩
  · obtain ⟨h3, h4⟩ := he0.env t v h2
    rcases h1 with h1 | h1
    · exact ⟨h3, by rw [hiv.olds t fun k _ => h1 k]; exact h4.mono hext.le⟩
    · rw [h1] at h3; cases h3

/-- in every order -/
theorem any_ok (hp : Plan X P call K ops e0 vs st) (hcall : CallOK P call) (hr0 : Rel r0 (st 0) w0) (he0 : EnvR K r0 e0 a0) {Q : Exit → Act → World → Prop}
    (hQ : ∀ q a' w', Ext r0 (st 0) w0 q (st ops.toList.length) w' → EnvR K q (envFrom K ops.toList vs e0) a' → Q .normal a' w')
    (hS : ∀ (fuel : Nat) (listed : Array Bool) (m j : Nat) (r : Rho) (a : Act) (w : World), listed.size = ops.size → cntF (listed.setIfInBounds j true).toList ≤ fuel → Iv P call K ops e0 vs st r0 w0 a0 (Lst listed) m r a w → X m j → (m = ops.toList.length ∨ isEff P ops m) →
      ¬ Lst listed j → (∀ i, bfAt (bfsOf ops.toList []) j i → Lst listed i) → wpOp P ops Q j (fun a w => wpAny P .any ops Q fuel (listed.setIfInBounds j true) a w) a w) : ∀ (fuel : Nat) (listed : Array Bool) (m : Nat) (r : Rho) (a : Act) (w : World), listed.size = ops.size →
    cntF listed.toList ≤ fuel → Iv P call K ops e0 vs st r0 w0 a0 (Lst listed) m r a w → wpAny P .any ops Q fuel listed a w := by
  have done : ∀ (listed : Array Bool) (m : Nat) (r : Rho) (a : Act) (w : World), listed.size = ops.size → Iv P call K ops e0 vs st r0 w0 a0 (Lst listed) m r a w → Region.ready .any ops listed = [] → Q .normal a w := by
    intro listed m r a w hsz hiv hrdy
    have hall : ∀ j, j < ops.toList.length → Lst listed j := by
      intro j
      induction j using Nat.strongRecOn with
      | ind j ih =>
        intro hj
        apply Classical.byContradiction
        intro hn
        have hjl : j < listed.size := by rw [hsz]; simpa using hj
        have ho : ops.toList[j]? = some ops.toList[j] := List.getElem?_eq_getElem hj
        have hin : j ∈ Region.ready .any ops listed := mem_ready.2 ⟨by
          unfold Lst at hn
          simp [hjl] at hn ⊢
          exact hn, _, by rw [← Array.getElem?_toList]; exact ho, fun e he hb => by
          have hlt := hp.back j _ ho e (Array.mem_toList_iff.2 he) hb
          exact ih e.on hlt (by omega)⟩
        rw [hrdy] at hin
        cases hin
    obtain ⟨q, h1, h2⟩ := hiv.all hp hcall he0 hall
    exact hQ q a w h1 h2
  intro fuel
  induction fuel with
  | zero =>
    intro listed m r a w hsz hc hiv
    have hnil : Region.ready .any ops listed = [] := by
      cases hx : Region.ready .any ops listed with
      | nil => rfl
      | cons j l =>
        have hj : j ∈ Region.ready .any ops listed := by rw [hx]; exact List.mem_cons_self ..
        obtain ⟨h0, o, ho, _⟩ := mem_ready.1 hj
        have hjl : j < listed.size := by rw [hsz]; exact (Array.getElem?_eq_some_iff.1 ho).1
        refine absurd ?_ (cntF_zero (l := listed.toList) (i := j) (by omega))
        rw [Array.getElem?_toList, Array.getElem?_eq_getElem hjl]
        simp [hjl] at h0
        rw [h0]
    exact ⟨hnil, done listed m r a w hsz hiv hnil⟩
  | succ fuel ih =>
    intro listed m r a w hsz hc hiv
    refine ⟨done listed m r a w hsz hiv, fun j hj => ?_⟩
    obtain ⟨h0, o, ho, hall⟩ := mem_ready.1 hj
    have hjs : j < ops.size := (Array.getElem?_eq_some_iff.1 ho).1
    have hjl : j < listed.size := by rw [hsz]; exact hjs
    have hlf : listed.toList[j]? = some false := by
      rw [Array.getElem?_toList, Array.getElem?_eq_getElem hjl]
      simp [hjl] at h0
      rw [h0]
    have ho' : ops.toList[j]? = some o := by rw [Array.getElem?_toList]; exact ho
    obtain ⟨p, hiv', hpe⟩ := hiv.full hp hcall _ rfl
    have hnl : ¬ Lst listed j := fun g => by
      unfold Lst at g
      simp [hjl] at h0 g
      rw [h0] at g
      cases g
    have hcl := ready_closed hiv'.closed ho' fun e he hb => hall e (Array.mem_toList_iff.1 he) hb
    have hcn : cntF (listed.setIfInBounds j true).toList ≤ fuel := by
      have := cntF_set hlf
      rw [Array.toList_setIfInBounds]
      omega
    by_cases hX : X p j
    · exact hS fuel listed p j r a w hsz hcn hiv' hX hpe hnl hcl
    refine hiv'.next hp hcall hr0 he0 hpe hX (D' := Lst (listed.setIfInBounds j true)) ho' hnl hcl (lst_set hjl) fun r' a' w' p' hiv2 => ?_
    exact ih _ p' r' a' w' (by simpa using hsz) hcn hiv2
end

/-- regions that draw their order, whose effects stand in a row -/
theorem drawD_ok (hm : P.follows .mixedOrders = true) {call : CallF} {K : Tmps} (hcall : CallOK P call) {id : Nat} {ops : Array Oper} (hg : goodD P ops (disOf P ops ops.toList (bfsOf ops.toList [])) = true) :
    CodeOK P K (.region id ops true) (runRegD (dinsOf P call K ops (disOf P ops ops.toList (bfsOf ops.toList [])) ops.toList (disOf P ops ops.toList (bfsOf ops.toList [])) 0 .nil)) := by
  intro e s x e' s' h r w a Q hr he hQ
  obtain ⟨rfl, vs, st, hp, rfl, rfl, rfl⟩ := plan_ok hg h
  refine wp_region_any hm ?_
  have hr' : Rel r (st 0) { w with drawn := w.drawn + 1 } := hr.drawn _
  have hst := Iv.start (r0 := r) (w0 := { w with drawn := w.drawn + 1 }) (a0 := a) hp hr' he.defers
  refine any_ok hp hcall hr' he (fun q a' w' hx he' => hQ q a' w' ((Ext.drawn hr _).trans hx) he') (fun _ _ _ _ _ _ _ _ _ _ h => h.elim) ops.size _ 0 r a _ (by simp) (by rw [Array.toList_replicate, cntF_rep]; exact Nat.le_refl _) ?_
  have : Lst (Array.replicate ops.size false) = fun _ => False := by
    funext j
    unfold Lst
    simp [Array.getElem?_replicate]
    split <;> simp
  rw [this]
  exact hst
end Go.Proofs.YtchkcnecgfolmaaGreatDoor.Ev
namespace Go.Proofs.YtchkcnecgfolmaaGreatDoor.Ev
open Go
set_option linter.unusedSectionVars false
set_option linter.unusedVariables false
set_option linter.unusedSimpArgs false
variable [Sig] {P : Program} {X : Nat → Nat → Prop}

/-- blocks may be forgotten -/
theorem Ext.forget {r q : Rho} {s t t' : St} {w u : World} (h : Ext r s w q t u) (hs : ∀ i b, t'.get i = some b → t.get i = some b) (hn : t'.next = t.next) : Ext r s w q t' u where
  rel := ⟨⟨fun i b x hb hx => h.rel.block i b x (hs i b hb) hx, fun i hi => by
      cases e : t'.get i with
      | none => rfl
      | some b => have := hs i b e; rw [h.rel.far i (hn ▸ hi)] at this; cases this⟩,
    fun i j b c x y hb hc => h.rel.apart i j b c x y (hs i b hb) (hs j c hc), fun i x hx => hn ▸ h.rel.known i x hx⟩
  le := h.le
  next := hn ▸ h.next
  os := h.os
  tape := h.tape
  output := h.output
  size := h.size
  frame := h.frame
  still := fun i hi hr b hb => h.still i hi hr b (hs i b hb)
  dead := fun i hi hg => by
    cases e : t'.get i with
    | none => rfl
    | some b => have := hs i b e; rw [h.dead i hi hg] at this; cases this
  hits := fun k ⟨i, b, x, hb, hx, hk⟩ => h.hits k ⟨i, b, x, hs i b hb, hx, hk⟩
  fresh := h.fresh
/-- a store hangs on one block alone -/
theorem store_run {p : Pt} {a x : AOpd} {l : List AVal} {e : Env} {s s' : St} {v : AVal} (h : opStore p a x l e s = .ok v s') :
    ∃ id b, idV (evalO l e a) = some id ∧ v = aundef ∧ s' = s.put id b ∧ ∀ t : St, t.get id = s.get id → opStore p a x l e t = .ok v (t.put id b) := by
  cases hx : evalO l e x with
  | bad => unfold opStore at h; rw [hx] at h; cases h
  | ok u =>
    cases ha : evalO l e a with
    | bad => unfold opStore at h; rw [hx, ha] at h; cases h
    | ok c =>
      have hs : ∀ t : St, opStore p a x l e t = storeV t p u c := fun t => by unfold opStore; rw [hx, ha]; rfl
      rw [hs s] at h
      unfold storeV at h
      split at h
      · rename_i id off
        have h : storeC s p u id off (csOf (s.get id)) = .ok v s' := h
        have hs' : ∀ t : St, t.get id = s.get id → opStore p a x l e t = storeC t p u id off (csOf (s.get id)) := fun t ht => by
          rw [hs t]
          show storeC t p u id off (csOf (t.get id)) = _
          rw [ht]
        generalize csOf (s.get id) = c at h hs'
        cases c with
        | bad => cases h
        | mk cs ez o =>
          cases p with
          | bad => cases h
          | mk fo n g =>
            have h : sel (hasLen u.cells n) (putCells s id ez o (splice cs off u.cells)) .bad = .ok v s' := h
            have hs'' : ∀ t : St, t.get id = s.get id → opStore (.mk fo n g) a x l e t = sel (hasLen u.cells n) (putCells t id ez o (splice cs off u.cells)) .bad := hs'
            cases hl : hasLen u.cells n
            · rw [hl] at h; cases h
            · rw [hl] at h hs''
              cases hsp : splice cs off u.cells with
              | none => rw [hsp] at h; cases h
              | some cs' =>
                rw [hsp] at h hs''
                cases h
                exact ⟨id, _, rfl, rfl, rfl, hs''⟩
      · cases h

theorem effAt_lt {p : Nat} : ∀ (l : List DI) (i : Nat) (r : Option Nat), effAt l i r = some p → r = some p ∨ (i ≤ p ∧ p < i + l.length)
  | [], i, r, h => .inl h
  | x :: l, i, r, h => by
    rcases effAt_lt l (i + 1) _ h with h1 | ⟨h1, h2⟩
    · cases hx : x.eff
      · rw [hx] at h1; exact .inl h1
      · rw [hx] at h1; cases h1; exact .inr ⟨Nat.le_refl _, by rw [List.length_cons]; omega⟩
    · exact .inr ⟨by omega, by rw [List.length_cons]; omega⟩
theorem beforeT_ok {p bf : Nat} : ∀ (l : List DI) (i : Nat), beforeT p bf l i = true → ∀ k x, l[k]? = some x → x.eff = true → i + k = p ∨ Nat.testBit bf (i + k) = true
  | [], _, _, k, x, hx, _ => by simp at hx
  | y :: l, i, h, k, x, hx, he => by
    have h : sel (sel y.eff (sel (Nat.beq i p) true (Nat.testBit bf i)) true) (beforeT p bf l (i + 1)) false = true := h
    rcases sel_eq h with ⟨h1, h2⟩ | ⟨_, h2⟩
    · cases k with
      | zero =>
        cases hx
        rw [he] at h1
        have h1 : sel (Nat.beq i p) true (Nat.testBit bf i) = true := h1
        rcases sel_eq h1 with ⟨g1, _⟩ | ⟨_, g2⟩
        · exact .inl (Nat.eq_of_beq_eq_true g1)
        · exact .inr g2
      | succ k =>
        have := beforeT_ok l (i + 1) h2 k x (by simpa using hx) he
        rw [show i + (k + 1) = i + 1 + k by omega]
        exact this
    · cases h2
theorem isP_eq {k : Kd} (h : k.isP = true) : k = .pure := by cases k <;> first | rfl | cases h
theorem pureT_ok {p bf : Nat} : ∀ (l : List Oper) (i : Nat), pureT P p bf l i = true → ∀ k o, l[k]? = some o → i + k = p ∨ kdOf P o.op = .pure ∨ (i + k ≤ p ∧ Nat.testBit bf (i + k) = true)
  | [], _, _, k, x, hx => by simp at hx
  | y :: l, i, h, k, x, hx => by
    have h : sel (sel (Nat.beq i p) true (sel (kdOf P y.op).isP true (sel (Nat.blt p i) false (Nat.testBit bf i)))) (pureT P p bf l (i + 1)) false = true := h
    rcases sel_eq h with ⟨h1, h2⟩ | ⟨_, h2⟩
    · cases k with
      | zero =>
        cases hx
        rcases sel_eq h1 with ⟨g1, _⟩ | ⟨_, g2⟩
        · exact .inl (Nat.eq_of_beq_eq_true g1)
        · rcases sel_eq g2 with ⟨g1, _⟩ | ⟨_, g2⟩
          · exact .inr (.inl (isP_eq g1))
          · rcases sel_eq g2 with ⟨_, g2⟩ | ⟨g1, g2⟩
            · cases g2
            · refine .inr (.inr ⟨?_, g2⟩)
              have : ¬ p < i + 0 := fun hlt => by
                have h3 : Nat.blt p i = true := Nat.ble_eq_true_of_le hlt
                rw [h3] at g1; cases g1
              omega
      | succ k =>
        have := pureT_ok l (i + 1) h2 k x (by simpa using hx)
        rw [show i + (k + 1) = i + 1 + k by omega]
        exact this
    · cases h2
theorem storeO_ok {o : Oper} {a : Operand} (h : storeO o = some a) : ∃ t x, o.op = .store t a x ∧ o.guard = none := by
  unfold storeO at h
  split at h
  · rename_i h1 h2
    cases h
    exact ⟨_, _, h1, h2⟩
  · cases h
theorem isSome_ok {α : Type} {o : Option α} (h : isSome o = true) : ∃ a, o = some a := by
  cases o with
  | none => cases h
  | some a => exact ⟨a, rfl⟩

/-- what is known of a region with two stores at its end -/
structure TwoOK (P : Program) (ops : Array Oper) (e0 : Env) (vs : List AVal) (p n : Nat) : Prop where
  len : ops.toList.length = n + 1
  lt : p < n
  st1 : ∃ o t a x, ops.toList[p]? = some o ∧ o.op = .store t a x ∧ o.guard = none
  st2 : ∃ o t a x, ops.toList[n]? = some o ∧ o.op = .store t a x ∧ o.guard = none
  pure : ∀ i o, i < n → ops.toList[i]? = some o → i = p ∨ kdOf P o.op = .pure ∨ (i ≤ p ∧ bfAt (bfsOf ops.toList []) n i)
  apart : ∃ i j, idAt ops e0 vs p = some i ∧ idAt ops e0 vs n = some j ∧ i ≠ j

theorem planT_ok {call : CallF} {K : Tmps} {ops : Array Oper} {e0 e' : Env} {s s' : St} {x : Ex} {p : Nat} (hg : goodT P ops (disOf P ops ops.toList (bfsOf ops.toList [])) = some p)
    (h : runRegT ops p (dinsOf P call K ops (disOf P ops ops.toList (bfsOf ops.toList [])) ops.toList (disOf P ops ops.toList (bfsOf ops.toList [])) 0 .nil) e0 s = .ok x e' s') :
    x = .normal ∧ ∃ (vs : List AVal) (st : Nat → St) (n : Nat), Plan (fun i j => i = p ∧ j = n) P call K ops e0 vs st ∧ st 0 = s ∧ st ops.toList.length = s' ∧ e' = envFrom K ops.toList vs e0 ∧ TwoOK P ops e0 vs p n := by
  have hdl := disOf_length (P := P) (ops := ops) ops.toList (bfsOf ops.toList []) (bfs_length ops.toList)
  have hat : ∀ j o, ops.toList[j]? = some o → ∃ b, (bfsOf ops.toList [])[j]? = some b ∧ (disOf P ops ops.toList (bfsOf ops.toList []))[j]? = some (diOf P ops o b) := fun j o hj => by
    obtain ⟨b, hb⟩ := bfs_at ops.toList (List.getElem?_eq_some_iff.1 hj).1
    exact ⟨b, hb, disOf_at ops.toList _ j hj hb⟩
  generalize hdis : disOf P ops ops.toList (bfsOf ops.toList []) = dis at h hg hdl hat
  have h : runT ops p e0 (dinsOf P call K ops dis ops.toList dis 0 .nil) (runD e0 (dinsOf P call K ops dis ops.toList dis 0 .nil) [] e0 s []) = .ok x e' s' := h
  unfold goodT at hg
  split at hg
  · rename_i y p' o hy hp' ho
    rcases sel_eq hg with ⟨g1, hg⟩ | ⟨_, hg⟩
    · rcases sel_eq hg with ⟨g2, hg⟩ | ⟨_, hg⟩
      · rcases sel_eq hg with ⟨g3, hg⟩ | ⟨_, hg⟩
        · rcases sel_eq hg with ⟨g4, hg⟩ | ⟨_, hg⟩
          · rcases sel_eq hg with ⟨g5, hg⟩ | ⟨_, hg⟩
            · rcases sel_eq hg with ⟨g6, hg⟩ | ⟨_, hg⟩
              · cases hg
                have hpos : 0 < dis.length := by
                  cases dis with
                  | nil => cases hy
                  | cons _ _ => exact Nat.succ_pos _
                obtain ⟨n, hn⟩ : ∃ n, dis.length = n + 1 := ⟨dis.length - 1, by omega⟩
                have hyn : dis[n]? = some y := by rw [List.getLast?_eq_getElem?, hn] at hy; exact hy
                have hon : ops.toList[n]? = some o := by rw [List.getLast?_eq_getElem?, ← hdl, hn] at ho; exact ho
                have hdrop : ∀ {i}, i < n → dis.dropLast[i]? = dis[i]? := fun {i} hi => by
                  rw [List.getElem?_dropLast, hn, if_pos (by omega)]
                have hodrop : ∀ {i}, i < n → ops.toList.dropLast[i]? = ops.toList[i]? := fun {i} hi => by
                  rw [List.getElem?_dropLast, ← hdl, hn, if_pos (by omega)]
                have hdlen : dis.dropLast.length = n := by rw [List.length_dropLast, hn]; rfl
                have hcl : ∀ i j x y, i < j → dis[i]? = some x → dis[j]? = some y → clash x (offD y) = true → Nat.testBit y.bf i = true := fun i j x z hij hi hj hc => by
                  have hjn : j ≤ n := by have := (List.getElem?_eq_some_iff.1 hj).1; omega
                  have hi' : (dis.dropLast ++ [offD y])[i]? = some x := by rw [List.getElem?_append_left (by omega), hdrop (by omega)]; exact hi
                  rcases Nat.lt_or_ge j n with hlt | hge
                  · refine headsOK_ok _ [] g2 j z (by rw [List.getElem?_append_left (by omega), hdrop hlt]; exact hj) i x (by rw [List.nil_append]; exact hi') (by simpa using hij) (clash_off hc)
                  · have : j = n := by omega
                    subst this
                    rw [hyn] at hj
                    cases hj
                    exact headsOK_ok _ [] g2 j (offD y) (by rw [List.getElem?_append_right (by omega), hdlen]; simp) i x (by rw [List.nil_append]; exact hi') (by simpa using hij) hc
                have hef : ∀ i j x y, i < j → ¬ (i = p ∧ j = n) → dis[i]? = some x → dis[j]? = some y → x.eff = true → y.eff = true → Nat.testBit y.bf i = true := fun i j x z hij hX hi hj hx hz => by
                  have hjn : j ≤ n := by have := (List.getElem?_eq_some_iff.1 hj).1; omega
                  rcases Nat.lt_or_ge j n with hlt | hge
                  · refine headsOK_ok _ [] g2 j z (by rw [List.getElem?_append_left (by omega), hdrop hlt]; exact hj) i x (by rw [List.nil_append, List.getElem?_append_left (by omega), hdrop (by omega)]; exact hi) (by simpa using hij) (clash_effs hx hz)
                  · have : j = n := by omega
                    subst this
                    rw [hyn] at hj
                    cases hj
                    rcases beforeT_ok _ 0 g3 i x (by rw [hdrop (by omega)]; exact hi) hx with g | g
                    · exact absurd ⟨by omega, rfl⟩ hX
                    · rw [Nat.zero_add] at g; exact g
                cases hr : runD e0 (dinsOf P call K ops dis ops.toList dis 0 .nil) [] e0 s [] with
                | bad => rw [hr] at h; cases h
                | ok L E S SS =>
                  rw [hr] at h
                  have h : sel (unlikeO (idAt ops e0 L.reverse p) (idAt ops e0 L.reverse (L.length - 1))) (checkD e0 (dinsOf P call K ops dis ops.toList dis 0 .nil) (.ok L E S SS)) .bad = .ok x e' s' := h
                  rcases sel_eq h with ⟨hu, h⟩ | ⟨_, h⟩
                  · obtain ⟨h1, vs, st, h2, h3, h4, h5, h6⟩ := plan_core (X := fun i j => i = p ∧ j = n) hdis hr h g1 hcl hef
                    refine ⟨h1, vs, st, n, h2, h3, h4, h5, ⟨by omega, ?_, ?_, ?_, ?_, ?_⟩⟩
                    · rcases effAt_lt _ _ _ hp' with g | ⟨_, g⟩
                      · cases g
                      · rw [hdlen] at g; omega
                    · obtain ⟨a, ha⟩ := isSome_ok g6
                      rw [Option.bind_eq_some_iff] at ha
                      obtain ⟨o', g7, g8⟩ := ha
                      obtain ⟨t, z, g9, g10⟩ := storeO_ok g8
                      exact ⟨o', t, a, z, g7, g9, g10⟩
                    · obtain ⟨a, ha⟩ := isSome_ok g5
                      obtain ⟨t, z, g9, g10⟩ := storeO_ok ha
                      exact ⟨o, t, a, z, hon, g9, g10⟩
                    · intro i o' hi ho'
                      obtain ⟨b, hb1, hb2⟩ := hat n o hon
                      rw [hyn] at hb2
                      cases hb2
                      rcases pureT_ok _ 0 g4 i o' (by rw [hodrop hi]; exact ho') with g | g | ⟨g, g'⟩
                      · exact .inl (by omega)
                      · exact .inr (.inl g)
                      · rw [Nat.zero_add] at g g'
                        exact .inr (.inr ⟨g, b, hb1, g'⟩)
                    · have hL : L.length - 1 = n := by
                        have := h2.len
                        rw [h6, List.length_reverse] at this
                        omega
                      rw [hL, ← h6] at hu
                      unfold unlikeO at hu
                      split at hu
                      · rename_i i j hi hj
                        refine ⟨i, j, hi, hj, fun e => ?_⟩
                        subst e
                        rw [Nat.beq_refl] at hu
                        cases hu
                      · cases hu
                  · cases h
              · cases hg
            · cases hg
          · cases hg
        · cases hg
      · cases hg
    · cases hg
  · cases hg
end Go.Proofs.YtchkcnecgfolmaaGreatDoor.Ev
namespace Go.Proofs.YtchkcnecgfolmaaGreatDoor.Ev
open Go
set_option linter.unusedSectionVars false
set_option linter.unusedVariables false
set_option linter.unusedSimpArgs false
variable [Sig] {P : Program} {X : Nat → Nat → Prop}

section
variable {call : CallF} {K : Tmps} {ops : Array Oper} {e0 : Env} {vs : List AVal} {st : Nat → St}
variable {r0 : Rho} {w0 : World} {a0 : Act} {D D' : Nat → Prop} {m : Nat} {r : Rho} {a : Act} {w : World}

/-- what holds of the temporaries behind the operations D -/
structure Ia (ops : Array Oper) (vs : List AVal) (r0 : Rho) (a0 : Act) (D : Nat → Prop) (r : Rho) (a : Act) : Prop where
  closed : Closed (bfsOf ops.toList []) D
  le : r0.le r
  vals : ∀ i t v, D i → dstAt ops.toList i = some t → (∀ k, i < k → D k → dstAt ops.toList k ≠ some t) → vs[i]? = some v → VR r v (a.tmps.getD t undef)
  olds : ∀ t, (∀ k, D k → dstAt ops.toList k ≠ some t) → a.tmps.getD t undef = a0.tmps.getD t undef
  size : a.tmps.size = a0.tmps.size
  defs : a.defers = []
theorem Iv.ia (h : Iv P call K ops e0 vs st r0 w0 a0 D m r a w) : Ia ops vs r0 a0 D r a :=
  ⟨h.closed, fun i x hx => (Rho.till_some (h.ext.le i x hx)).2, h.vals, h.olds, h.size, h.defs⟩
theorem Ia.cx (hp : Plan X P call K ops e0 vs st) (he0 : EnvR K r0 e0 a0) (h : Ia ops vs r0 a0 D r a) {j : Nat} {o : Oper} (ho : ops.toList[j]? = some o) (hD : ¬ D j)
    (hr : ∀ i, bfAt (bfsOf ops.toList []) j i → D i) {t : Tmp} (ht : t ∈ readsAt ops o) {v : AVal} (hv : evalO (vs.take j).reverse e0 (codAt ops j (.tmp t)) = .ok v) : VR r v (a.tmps.getD t undef) := by
  have hjl := (List.getElem?_eq_some_iff.1 ho).1
  have behind : ∀ k, j < k → D k → dstAt ops.toList k ≠ some t := fun k hjk hDk hk => hD (h.closed k hDk j ((hp.reads k j o t ho ht hk).2 hjk))
  rcases evalO_last (Nat.le_of_lt hjl) hp.len hv with ⟨i, hij, hdi, hlast, hvi⟩ | ⟨hnone, hget⟩
  · have hDi : D i := hr i ((hp.reads i j o t ho ht hdi).1 hij)
    exact h.vals i t v hDi hdi (fun k hik hDk hk => by
      rcases Nat.lt_trichotomy k j with g | g | g
      · exact hlast k hik g hk
      · subst g; exact hD hDk
      · exact behind k g hDk hk) hvi
  · rw [h.olds t fun k hDk hk => by
      rcases Nat.lt_trichotomy k j with g | g | g
      · exact hnone k g hk
      · subst g; exact hD hDk
      · exact behind k g hDk hk]
    exact (he0.env t v hget).2.mono h.le
theorem Ia.cxs (hp : Plan X P call K ops e0 vs st) (he0 : EnvR K r0 e0 a0) (h : Ia ops vs r0 a0 D r a) {j : Nat} {o : Oper} (ho : ops.toList[j]? = some o) (hD : ¬ D j)
    (hr : ∀ i, bfAt (bfsOf ops.toList []) j i → D i) : Cx r (vs.take j).reverse e0 (codAt ops j) a o.op := by
  intro x hx v hv
  cases x with
  | tmp t => exact h.cx hp he0 ho hD hr (List.mem_append_left _ (mem_tmpsIn (Array.mem_toList_iff.2 hx))) hv
  | const u =>
    have hv : evalO (vs.take j).reverse e0 (cval u) = .ok v := hv
    unfold cval at hv
    split at hv
    · rename_i b hb
      cases hv
      exact ofV_ok _ u _ hb
    · cases hv
  | func f =>
    cases hv
    exact .func f .nil .nil
  | _ => cases hv
theorem Ia.put (hp : Plan X P call K ops e0 vs st) (he0 : EnvR K r0 e0 a0) (h : Ia ops vs r0 a0 D r a) {j : Nat} {o : Oper} (ho : ops.toList[j]? = some o) (hdi : dstIn K o = true) (hD : ¬ D j)
    (hr : ∀ i, bfAt (bfsOf ops.toList []) j i → D i) (hD' : ∀ k, D' k ↔ D k ∨ k = j) {r' : Rho} (hle : r.le r') {v : AVal} {u : Value} (hv : vs[j]? = some v) (hvr : VR r' v u) : Ia ops vs r0 a0 D' r' (a.put o.dst u) := by
  have hdst : dstAt ops.toList j = o.dst := by unfold dstAt; rw [ho]; rfl
  have hDj : D' j := (hD' j).2 (.inr rfl)
  have ne : ∀ {t}, o.dst ≠ some t → (a.put o.dst u).tmps.getD t undef = a.tmps.getD t undef := fun {t} hn => by
    cases hd : o.dst with
    | none => rfl
    | some d => exact getD_put_ne fun e => hn (by rw [hd, e])
  refine ⟨fun k hk i hi => ?_, Rho.le_trans h.le hle, fun i t v' hDi hit hlast hvi => ?_, fun t hn => ?_, by rw [put_size]; exact h.size, by rw [put_defs]; exact h.defs⟩
  · rcases (hD' k).1 hk with g | g
    · exact (hD' i).2 (.inl (h.closed k g i hi))
    · subst g; exact (hD' i).2 (.inl (hr i hi))
  · by_cases hij : i = j
    · subst hij
      rw [hv] at hvi
      cases hvi
      rw [hdst] at hit
      rw [hit]
      rw [getD_put_same]
      · exact hvr
      · unfold dstIn at hdi
        rw [hit] at hdi
        rw [h.size]
        exact Nat.lt_of_lt_of_le (blt_is hdi) he0.size
    · have hDi' : D i := ((hD' i).1 hDi).resolve_right hij
      have hn : o.dst ≠ some t := fun e => by
        rcases Nat.lt_or_ge i j with g | g
        · exact hlast j g hDj (by rw [hdst, e])
        · exact hD (h.closed i hDi' j (hp.writes j i t (by omega) (by rw [hdst, e]) hit))
      rw [ne hn]
      exact (h.vals i t v' hDi' hit (fun k hik hDk => hlast k hik ((hD' k).2 (.inl hDk))) hvi).mono hle
  · rw [ne (fun e => hn j hDj (by rw [hdst, e]))]
    exact h.olds t fun k hDk => hn k ((hD' k).2 (.inl hDk))
theorem Ia.env (hp : Plan X P call K ops e0 vs st) (he0 : EnvR K r0 e0 a0) (h : Ia ops vs r0 a0 D r a) (hall : ∀ j, j < ops.toList.length → D j) : EnvR K r (envFrom K ops.toList vs e0) a := by
  refine ⟨fun t v hv => ?_, by rw [h.size]; exact he0.size, h.defs⟩
  have lt : ∀ {k}, dstAt ops.toList k = some t → k < ops.toList.length := fun {k} hk => by
    unfold dstAt at hk
    rw [Option.bind_eq_some_iff] at hk
    obtain ⟨o, h1, _⟩ := hk
    exact (List.getElem?_eq_some_iff.1 h1).1
  rcases envFrom_get ops.toList vs e0 hp.len hv with ⟨i, h1, h2, h3, h4⟩ | ⟨h1, h2⟩
  · exact ⟨h4, h.vals i t v (hall i (lt h1)) h1 (fun k hk _ => h2 k hk) h3⟩
  · obtain ⟨h3, h4⟩ := he0.env t v h2
    rcases h1 with h1 | h1
    · exact ⟨h3, by rw [h.olds t fun k _ => h1 k]; exact h4.mono h.le⟩
    · rw [h1] at h3; cases h3

/-- nothing is ready: all are listed -/
theorem all_listed (hp : Plan X P call K ops e0 vs st) {listed : Array Bool} (hsz : listed.size = ops.size) (hrdy : Region.ready .any ops listed = []) : ∀ j, j < ops.toList.length → Lst listed j := by
  intro j
  induction j using Nat.strongRecOn with
  | ind j ih =>
    intro hj
    apply Classical.byContradiction
    intro hn
    have hjl : j < listed.size := by rw [hsz]; simpa using hj
    have ho : ops.toList[j]? = some ops.toList[j] := List.getElem?_eq_getElem hj
    have hin : j ∈ Region.ready .any ops listed := mem_ready.2 ⟨by
      unfold Lst at hn
      simp [hjl] at hn ⊢
      exact hn, _, by rw [← Array.getElem?_toList]; exact ho, fun e he hb => by
      have hlt := hp.back j _ ho e (Array.mem_toList_iff.2 he) hb
      exact ih e.on hlt (by omega)⟩
    rw [hrdy] at hin
    cases hin

/-- behind the last store, that came first: pure operations and the other store are left -/
theorem tail_ok (hp : Plan X P call K ops e0 vs st) (hcall : CallOK P call) (he0 : EnvR K r0 e0 a0) {Q : Exit → Act → World → Prop} {s2 s3 : St} {p : Nat} {op : Oper} (hop : ops.toList[p]? = some op)
    (hQ : ∀ q a' w', Ext r0 (st 0) w0 q (st ops.toList.length) w' → EnvR K q (envFrom K ops.toList vs e0) a' → Q .normal a' w')
    {v1 : AVal} (hv1 : vs[p]? = some v1) (hrun : (comp (codAt ops p) P call op.op).run (vs.take p).reverse e0 s2 = .ok v1 s3) (hgd : op.guard = none) (hkd : kdOf P op.op = .eff)
    (hs3 : ∀ i b, (st ops.toList.length).get i = some b → s3.get i = some b) (hn3 : (st ops.toList.length).next = s3.next) (hdi1 : dstIn K op = true) :
    ∀ (fuel : Nat) (listed : Array Bool) (r : Rho) (a : Act) (w : World), listed.size = ops.size → cntF listed.toList ≤ fuel → Ia ops vs r0 a0 (Lst listed) r a →
      (∀ j o, ops.toList[j]? = some o → ¬ Lst listed j → j = p ∨ kdOf P o.op = .pure) → ((¬ Lst listed p ∧ Ext r0 (st 0) w0 r s2 w) ∨ (Lst listed p ∧ Ext r0 (st 0) w0 r (st ops.toList.length) w)) →
      wpAny P .any ops Q fuel listed a w := by
  have done : ∀ (listed : Array Bool) (r : Rho) (a : Act) (w : World), listed.size = ops.size → Ia ops vs r0 a0 (Lst listed) r a → ((¬ Lst listed p ∧ Ext r0 (st 0) w0 r s2 w) ∨ (Lst listed p ∧ Ext r0 (st 0) w0 r (st ops.toList.length) w)) →
      Region.ready .any ops listed = [] → Q .normal a w := by
    intro listed r a w hsz hia hex hrdy
    have hall := all_listed hp hsz hrdy
    rcases hex with ⟨g, _⟩ | ⟨_, hx⟩
    · exact absurd (hall p (List.getElem?_eq_some_iff.1 hop).1) g
    · exact hQ r a w hx (hia.env hp he0 hall)
  intro fuel
  induction fuel with
  | zero =>
    intro listed r a w hsz hc hia hpu hex
    have hnil : Region.ready .any ops listed = [] := by
      cases hx : Region.ready .any ops listed with
      | nil => rfl
      | cons j l =>
        have hj : j ∈ Region.ready .any ops listed := by rw [hx]; exact List.mem_cons_self ..
        obtain ⟨h0, o, ho, _⟩ := mem_ready.1 hj
        have hjl : j < listed.size := by rw [hsz]; exact (Array.getElem?_eq_some_iff.1 ho).1
        refine absurd ?_ (cntF_zero (l := listed.toList) (i := j) (by omega))
        rw [Array.getElem?_toList, Array.getElem?_eq_getElem hjl]
        simp [hjl] at h0
        rw [h0]
    exact ⟨hnil, done listed r a w hsz hia hex hnil⟩
  | succ fuel ih =>
    intro listed r a w hsz hc hia hpu hex
    refine ⟨done listed r a w hsz hia hex, fun j hj => ?_⟩
    obtain ⟨h0, o, ho, hall⟩ := mem_ready.1 hj
    have hjs : j < ops.size := (Array.getElem?_eq_some_iff.1 ho).1
    have hjl : j < listed.size := by rw [hsz]; exact hjs
    have hlf : listed.toList[j]? = some false := by
      rw [Array.getElem?_toList, Array.getElem?_eq_getElem hjl]
      simp [hjl] at h0
      rw [h0]
    have ho' : ops.toList[j]? = some o := by rw [Array.getElem?_toList]; exact ho
    have hnl : ¬ Lst listed j := fun g => by
      unfold Lst at g
      simp [hjl] at h0 g
      rw [h0] at g
      cases g
    have hcl := ready_closed hia.closed ho' fun e he hb => hall e (Array.mem_toList_iff.1 he) hb
    have hcn : cntF (listed.setIfInBounds j true).toList ≤ fuel := by
      have := cntF_set hlf
      rw [Array.toList_setIfInBounds]
      omega
    have hD' := lst_set hjl (l := listed)
    have hpu' : ∀ k o, ops.toList[k]? = some o → ¬ Lst (listed.setIfInBounds j true) k → k = p ∨ kdOf P o.op = .pure := fun k o hk hn => hpu k o hk fun g => hn ((hD' k).2 (.inl g))
    have hwt := wanted_ok (r := r) (l := (vs.take j).reverse) (e0 := e0) (co := codAt ops j) (a := a) (ops := ops) (o := o) fun t ht v' hv' => hia.cx hp he0 ho' hnl hcl (List.mem_append_right _ ht) hv'
    have hcx := hia.cxs hp he0 ho' hnl hcl
    unfold wpOp
    rw [ho]
    simp only
    by_cases hjp : j = p
    · subst hjp
      rw [hop] at ho'
      cases ho'
      have hw : wanted (vs.take j).reverse e0 (guardOf (codAt ops j) ops op) = .yes := by unfold guardOf; rw [hgd]; rfl
      rw [hwt.1 hw, if_pos rfl]
      refine .inl ?_
      rcases hex with ⟨_, hx⟩ | ⟨g, _⟩
      · have hr := op_ok hcall hrun
        refine hr.ok hx.rel hcx _ _ fun q u w' hx' hvr => ?_
        exact ih _ q _ w' (by simpa using hsz) hcn (hia.put hp he0 hop hdi1 hnl hcl hD' hx'.le hv1 hvr) hpu' (.inr ⟨(hD' j).2 (.inr rfl), (hx.trans hx').forget hs3 hn3⟩)
      · exact absurd g hnl
    · have hk := (hpu j o ho' hnl).resolve_left hjp
      obtain ⟨v, hv, hdi, _, _, hst⟩ := hp.step j o ho'
      have hex' : (¬ Lst (listed.setIfInBounds j true) p ∧ Ext r0 (st 0) w0 r s2 w) ∨ (Lst (listed.setIfInBounds j true) p ∧ Ext r0 (st 0) w0 r (st ops.toList.length) w) := by
        rcases hex with ⟨g1, g2⟩ | ⟨g1, g2⟩
        · exact .inl ⟨fun g => ((hD' p).1 g).elim g1 fun e => hjp e.symm, g2⟩
        · exact .inr ⟨(hD' p).2 (.inl g1), g2⟩
      rcases hst with ⟨hw, hrun'⟩ | ⟨hw, rfl, _⟩
      · rw [hwt.1 hw, if_pos rfl]
        refine .inl ?_
        have hr := op_ok hcall hrun'
        rw [hk] at hr
        obtain ⟨u, h1, h2⟩ := hr.2 r w a hcx
        unfold Oper.wp
        rw [h1]
        exact ih _ r _ w (by simpa using hsz) hcn (hia.put hp he0 ho' hdi hnl hcl hD' r.le_refl hv h2) hpu' hex'
      · rw [hwt.2 hw]
        simp only [Bool.false_eq_true, if_false]
        exact ih _ r _ w (by simpa using hsz) hcn (hia.put hp he0 ho' hdi hnl hcl hD' r.le_refl hv (.tuple .nil)) hpu' hex'

/-- between the two stores nothing changes -/
theorem Plan.still (hp : Plan X P call K ops e0 vs st) (hcall : CallOK P call) {p : Nat} : ∀ (d : Nat), p + d ≤ ops.toList.length → (∀ i o, p ≤ i → i < p + d → ops.toList[i]? = some o → kdOf P o.op = .pure) → st (p + d) = st p
  | 0, _, _ => rfl
  | d + 1, hl, hk => by
    have h1 := Plan.still hp hcall d (by omega) fun i o h1 h2 => hk i o h1 (by omega)
    have ho : ops.toList[p + d]? = some ops.toList[p + d] := List.getElem?_eq_getElem (by omega)
    have hkd := hk _ _ (Nat.le_add_right p d) (by omega) ho
    rcases hp.st_step hcall (j := p + d) (by omega) (fun ⟨o, g1, g2⟩ => by rw [ho] at g1; cases g1; rw [hkd] at g2; cases g2) with ⟨⟨o, g1, g2, _⟩, _⟩ | ⟨_, h2⟩
    · rw [ho] at g1; cases g1; rw [hkd] at g2; cases g2
    · rw [show p + (d + 1) = p + d + 1 by omega, h2, h1]

/-- the last store comes ahead of the other -/
theorem two_ok (hm : P.follows .mixedOrders = true) {n p : Nat} (hp : Plan (fun i j => i = p ∧ j = n) P call K ops e0 vs st) (ht : TwoOK P ops e0 vs p n) (hcall : CallOK P call) (hr0 : Rel r0 (st 0) w0) (he0 : EnvR K r0 e0 a0) {Q : Exit → Act → World → Prop}
    (hQ : ∀ q a' w', Ext r0 (st 0) w0 q (st ops.toList.length) w' → EnvR K q (envFrom K ops.toList vs e0) a' → Q .normal a' w') :
    ∀ (fuel : Nat) (listed : Array Bool) (m j : Nat) (r : Rho) (a : Act) (w : World), listed.size = ops.size → cntF (listed.setIfInBounds j true).toList ≤ fuel → Iv P call K ops e0 vs st r0 w0 a0 (Lst listed) m r a w → (m = p ∧ j = n) →
      (m = ops.toList.length ∨ isEff P ops m) → ¬ Lst listed j → (∀ i, bfAt (bfsOf ops.toList []) j i → Lst listed i) → wpOp P ops Q j (fun a w => wpAny P .any ops Q fuel (listed.setIfInBounds j true) a w) a w := by
  rintro fuel listed m j r a w hsz hcn hiv ⟨hmp, hjn⟩ hme hnl hcl
  have hmp' := hmp
  subst hmp
  subst hjn
  obtain ⟨o1, t1, a1, x1, ho1, hop1, hg1⟩ := ht.st1
  obtain ⟨o2, t2, a2, x2, ho2, hop2, hg2⟩ := ht.st2
  have hlt := ht.lt
  have hlen := ht.len
  have hk1 : kdOf P o1.op = .eff := by rw [hop1]; rfl
  have hk2 : kdOf P o2.op = .eff := by rw [hop2]; rfl
  have he1 : isEff P ops m := ⟨o1, ho1, by rw [hk1]; rfl⟩
  have hnp : ¬ Lst listed m := fun g => absurd ((hiv.effs m he1).1 g) (by omega)
  have nomade : ∀ k, m ≤ k → ¬ Made P ops e0 vs k := fun k hk ⟨o, g1, g2, _⟩ => by
    have hkl := (List.getElem?_eq_some_iff.1 g1).1
    rcases Nat.lt_or_ge k j with hlt | hge
    · rcases ht.pure k o hlt g1 with g | g | ⟨g, _⟩
      · subst g; rw [ho1] at g1; cases g1; rw [hk1] at g2; cases g2
      · rw [g] at g2; cases g2
      · have : k = m := by omega
        subst this; rw [ho1] at g1; cases g1; rw [hk1] at g2; cases g2
    · have : k = j := by omega
      subst this; rw [ho2] at g1; cases g1; rw [hk2] at g2; cases g2
  have htill : r.till (st m).next = r := Rho.till_of fun i x hx => by
    rcases hiv.known i x hx with g | ⟨k, g1, _, g3, _⟩
    · exact g
    · exact absurd g3 (nomade k g1)
  have hext := hiv.ext
  rw [htill] at hext
  -- the two runs
  obtain ⟨v1, hv1, hdi1, _, _, hs1⟩ := hp.step m o1 ho1
  obtain ⟨v2, hv2, hdi2, _, _, hs2⟩ := hp.step j o2 ho2
  have w1 : wanted (vs.take m).reverse e0 (guardOf (codAt ops m) ops o1) = .yes := by unfold guardOf; rw [hg1]; rfl
  have w2 : wanted (vs.take j).reverse e0 (guardOf (codAt ops j) ops o2) = .yes := by unfold guardOf; rw [hg2]; rfl
  have r1 : (comp (codAt ops m) P call o1.op).run (vs.take m).reverse e0 (st m) = .ok v1 (st (m + 1)) := by
    rcases hs1 with ⟨_, g⟩ | ⟨g, _⟩
    · exact g
    · rw [w1] at g; cases g
  have r2 : (comp (codAt ops j) P call o2.op).run (vs.take j).reverse e0 (st j) = .ok v2 (st (j + 1)) := by
    rcases hs2 with ⟨_, g⟩ | ⟨g, _⟩
    · exact g
    · rw [w2] at g; cases g
  have hst : st j = st (m + 1) := by
    have := hp.still hcall (p := m + 1) (j - (m + 1)) (by omega) fun i o h1 h2 ho => by
      rcases ht.pure i o (by omega) ho with g | g | ⟨g, _⟩
      · omega
      · exact g
      · omega
    rw [show m + 1 + (j - (m + 1)) = j by omega] at this
    exact this
  rw [hop1] at r1
  rw [hop2] at r2
  obtain ⟨id1, b1, hid1, hv1', hb1, hall1⟩ := store_run (p := wholeT P t1) r1
  obtain ⟨id2, b2, hid2, hv2', hb2, hall2⟩ := store_run (p := wholeT P t2) r2
  have hne : id1 ≠ id2 := by
    obtain ⟨i, k, g1, g2, g3⟩ := ht.apart
    have e1 : idAt ops e0 vs m = idV (evalO (vs.take m).reverse e0 (codAt ops m a1)) := by
      unfold idAt
      rw [show (ops.toList[m]?).bind storeO = some a1 by rw [ho1]; show storeO o1 = some a1; unfold storeO; rw [hop1, hg1]]
    have e2 : idAt ops e0 vs j = idV (evalO (vs.take j).reverse e0 (codAt ops j a2)) := by
      unfold idAt
      rw [show (ops.toList[j]?).bind storeO = some a2 by rw [ho2]; show storeO o2 = some a2; unfold storeO; rw [hop2, hg2]]
    rw [e1, hid1] at g1
    rw [e2, hid2] at g2
    cases g1
    cases g2
    exact g3
  rw [hst, hb1] at hb2 hall2
  have r2' := hall2 (st m) (by rw [St.get_put, if_neg hne])
  have r1' := hall1 ((st m).put id2 b2) (by rw [St.get_put, if_neg (Ne.symm hne)])
  have hia := hiv.ia
  have hcx := hia.cxs hp he0 ho2 hnl hcl
  have hjl : j < listed.size := by
    rw [hsz]
    have := (List.getElem?_eq_some_iff.1 ho2).1
    simpa using this
  have hD' := lst_set hjl (l := listed)
  have hwt := wanted_ok (r := r) (l := (vs.take j).reverse) (e0 := e0) (co := codAt ops j) (a := a) (ops := ops) (o := o2) fun t ht v' hv' => hia.cx hp he0 ho2 hnl hcl (List.mem_append_right _ ht) hv'
  unfold wpOp
  rw [show ops[j]? = some o2 by rw [← Array.getElem?_toList]; exact ho2]
  simp only
  rw [hwt.1 w2, if_pos rfl]
  refine .inl ?_
  have hr2 : (comp (codAt ops j) P call o2.op).run (vs.take j).reverse e0 (st m) = .ok v2 ((st m).put id2 b2) := by rw [hop2]; exact r2'
  have hr1 : (comp (codAt ops m) P call o1.op).run (vs.take m).reverse e0 ((st m).put id2 b2) = .ok v1 (((st m).put id2 b2).put id1 b1) := by rw [hop1]; exact r1'
  refine (op_ok hcall hr2).ok hext.rel hcx _ _ fun q u w' hx hvr => ?_
  have hN : st ops.toList.length = ((st m).put id1 b1).put id2 b2 := by rw [hlen, hb2]
  refine tail_ok hp hcall he0 ho1 hQ hv1 hr1 hg1 hk1 (fun i b hb => ?_) (by rw [hN]; rfl) hdi1 fuel _ q _ w' (by simpa using hsz) hcn (hia.put hp he0 ho2 hdi2 hnl hcl hD' hx.le hv2 hvr) (fun k o hk hn => ?_) (.inl ⟨fun g => ?_, hext.trans hx⟩)
  · rw [hN, St.get_put, St.get_put] at hb
    rw [St.get_put, St.get_put]
    by_cases h1 : id1 = i
    · rw [if_pos h1]
      by_cases h2 : id2 = i
      · exact absurd (h1.trans h2.symm) hne
      · rw [if_neg h2, if_pos h1] at hb; exact hb
    · rw [if_neg h1]
      rw [if_neg h1] at hb
      exact hb
  · have hkl := (List.getElem?_eq_some_iff.1 hk).1
    rcases Nat.lt_or_ge k j with g | g
    · rcases ht.pure k o g hk with g | g | ⟨_, g⟩
      · exact .inl g
      · exact .inr g
      · exact absurd ((hD' k).2 (.inl (hcl k g))) hn
    · exact absurd ((hD' k).2 (.inr (by omega))) hn
  · rcases (hD' m).1 g with g | g
    · exact hnp g
    · omega
end

/-- regions that draw their order are right -/
theorem draw_ok (hm : P.follows .mixedOrders = true) {call : CallF} {K : Tmps} (hcall : CallOK P call) : DrawOK P call K := by
  intro id ops
  cases hg : goodD P ops (disOf P ops ops.toList (bfsOf ops.toList [])) with
  | true =>
    have : regD P call K ops (disOf P ops ops.toList (bfsOf ops.toList [])) = ⟨runRegD (dinsOf P call K ops (disOf P ops ops.toList (bfsOf ops.toList [])) ops.toList (disOf P ops ops.toList (bfsOf ops.toList [])) 0 .nil)⟩ := by
      unfold regD; rw [hg]; rfl
    rw [this]
    exact drawD_ok hm hcall hg
  | false =>
    have : regD P call K ops (disOf P ops ops.toList (bfsOf ops.toList [])) = regT P call K ops (disOf P ops ops.toList (bfsOf ops.toList [])) (goodT P ops (disOf P ops ops.toList (bfsOf ops.toList []))) := by
      unfold regD; rw [hg]; rfl
    rw [this]
    cases ht : goodT P ops (disOf P ops ops.toList (bfsOf ops.toList [])) with
    | none => intro e s x e' s' h; cases h
    | some p =>
      intro e s x e' s' h r w a Q hr he hQ
      obtain ⟨rfl, vs, st, n, hp, rfl, rfl, rfl, htw⟩ := planT_ok ht h
      refine wp_region_any hm ?_
      have hr' : Rel r (st 0) { w with drawn := w.drawn + 1 } := hr.drawn _
      have hst := Iv.start (r0 := r) (w0 := { w with drawn := w.drawn + 1 }) (a0 := a) hp hr' he.defers
      have hQ' : ∀ q a' w', Ext r (st 0) { w with drawn := w.drawn + 1 } q (st ops.toList.length) w' → EnvR K q (envFrom K ops.toList vs e) a' → Q .normal a' w' := fun q a' w' hx he' => hQ q a' w' ((Ext.drawn hr _).trans hx) he'
      refine any_ok hp hcall hr' he hQ' (two_ok hm hp htw hcall hr' he hQ') ops.size _ 0 r a _ (by simp) (by rw [Array.toList_replicate, cntF_rep]; exact Nat.le_refl _) ?_
      have : Lst (Array.replicate ops.size false) = fun _ => False := by
        funext j
        unfold Lst
        simp [Array.getElem?_replicate]
        split <;> simp
      rw [this]
      exact hst
end Go.Proofs.YtchkcnecgfolmaaGreatDoor.Ev
namespace Go.Proofs.YtchkcnecgfolmaaGreatDoor.Ev
open Go
set_option linter.unusedSectionVars false
set_option linter.unusedVariables false

noncomputable section
/-- entries of a list laid into a tree, one after the other -/
def putL {α : Type} (l : List (Nat × α)) : Tr α → Tr α :=
  @List.rec (Nat × α) (fun _ => Tr α → Tr α) (fun t => t) (fun x _ ih t => ih (t.set x.1 (some x.2))) l
/-- the places of a list's entries made empty -/
def outL {α : Type} (l : List (Nat × α)) : Tr α → Tr α :=
  @List.rec (Nat × α) (fun _ => Tr α → Tr α) (fun t => t) (fun x _ ih t => ih (t.set x.1 none)) l

def sameEs : List Entry → List Entry → Bool
  | [], [] => true
  | (a, b, n) :: l, (c, d, m) :: k => sel (sameV a c) (sel (sameV b d) (sel (Nat.beq n m) (sameEs l k) false) false) false
  | _, _ => false
def sameNs : List Nat → List Nat → Bool
  | [], [] => true
  | a :: l, b :: k => sel (Nat.beq a b) (sameNs l k) false
  | _, _ => false
def sameON : Option Nat → Option Nat → Bool
  | none, none => true
  | some a, some b => Nat.beq a b
  | _, _ => false
def sameB : ABlk → ABlk → Bool
  | .cells cs e o, .cells ds f p => sel (Nat.beq e f) (sel (beqB o p) (sameVs cs ds) false) false
  | .map es c, .map fs d => sel (Nat.beq c d) (sameEs es fs) false
  | .mapIter m a l b, .mapIter n c k d => sel (sameON m n) (sel (Nat.beq a c) (sel (sameNs l k) (Nat.beq b d) false) false) false
  | _, _ => false
def sameOB (b : ABlk) (o : Option ABlk) : Bool := match o with
  | some c => sameB b c
  | none => false
/-- are all the blocks of a list there? -/
def hasL (s : St) (l : List (Nat × ABlk)) : Bool :=
  @List.rec (Nat × ABlk) (fun _ => Bool) true (fun x _ ih => sel (sameOB x.2 (s.get x.1)) ih false) l

/-- an entry: a call with these arguments, where these blocks are and the next one's number is n, gives this value, and then these blocks are, and m -/
structure Ent where
  f : FuncId
  args : List AVal
  pre : List (Nat × ABlk)
  n : Nat
  v : AVal
  post : List (Nat × ABlk)
  m : Nat
def Ent.S (e : Ent) : St := ⟨putL e.pre .lf, e.n⟩
def Ent.S' (e : Ent) : St := ⟨putL e.post .lf, e.m⟩
def Ent.over (e : Ent) (s : St) : St := ⟨putL e.post (outL e.pre s.heap), e.m⟩
def entR (e : Ent) (args : List AVal) (s : St) (r : R) : R :=
  sel (Nat.beq e.n s.next) (sel (sameVs e.args args) (sel (hasL s e.pre) (.ok e.v (e.over s)) r) r) r
def tabR (args : List AVal) (s : St) : List Ent → R
  | [] => .bad
  | e :: l => entR e args s (tabR args s l)
def tabO (T : List Ent) : Orc := ⟨fun args s => tabR args s T⟩
def chkR (e : Ent) (r : R) : Bool := match r with
  | .ok v s1 => sel (sameV v e.v) (sel (Nat.beq s1.next e.m) (hasL s1 e.post) false) false
  | .bad => false
/-- the kernel's word for an entry -/
def entChk (P : Program) (B : Base) (fuel d : Nat) (e : Ent) : Bool :=
  chkR e (callStep P B (callN P B fuel d) fuel e.f e.args e.S none)
end
variable [Sig]

theorem putL_mem {α : Type} : ∀ (l : List (Nat × α)) (t : Tr α) (i : Nat) (b : α), (putL l t).get i = some b → (i, b) ∈ l ∨ t.get i = some b
  | [], _, _, _, h => .inr h
  | (j, c) :: l, t, i, b, h => by
    rcases putL_mem l _ i b h with h1 | h1
    · exact .inl (List.mem_cons_of_mem _ h1)
    · rw [get_set] at h1
      by_cases hj : j = i
      · subst hj; rw [if_pos rfl] at h1; cases h1; exact .inl List.mem_cons_self
      · rw [if_neg hj] at h1; exact .inr h1
theorem putL_in {α : Type} {l : List (Nat × α)} {i : Nat} {b : α} (h : (putL l .lf).get i = some b) : (i, b) ∈ l := by
  rcases putL_mem l _ i b h with h1 | h1
  · exact h1
  · rw [get_lf] at h1; cases h1
theorem putL_get {α : Type} (i : Nat) : ∀ (l : List (Nat × α)) (t : Tr α), (putL l t).get i = ((putL l .lf).get i).or (t.get i)
  | [], t => by show t.get i = ((Tr.lf : Tr α).get i).or (t.get i); rw [get_lf]; rfl
  | (j, c) :: l, t => by
    show (putL l (t.set j (some c))).get i = ((putL l (Tr.lf.set j (some c))).get i).or (t.get i)
    rw [putL_get i l, putL_get i l (Tr.lf.set j (some c)), get_set, get_set]
    by_cases hj : j = i
    · rw [if_pos hj, if_pos hj]; cases (putL l .lf).get i <;> rfl
    · rw [if_neg hj, if_neg hj, get_lf]; cases (putL l .lf).get i <;> rfl
theorem outL_get {α : Type} (i : Nat) : ∀ (l : List (Nat × α)) (t : Tr α) (b : α), (outL l t).get i = some b → t.get i = some b ∧ ∀ c, (i, c) ∉ l
  | [], t, b, h => ⟨h, fun _ h => by cases h⟩
  | (j, c) :: l, t, b, h => by
    obtain ⟨h1, h2⟩ := outL_get i l _ b h
    rw [get_set] at h1
    by_cases hj : j = i
    · rw [if_pos hj] at h1; cases h1
    · rw [if_neg hj] at h1
      refine ⟨h1, fun d hd => ?_⟩
      rcases List.mem_cons.1 hd with h3 | h3
      · exact hj (congrArg Prod.fst h3).symm
      · exact h2 d h3

theorem sel_and {a b : Bool} (h : sel a b false = true) : a = true ∧ b = true := by
  cases a
  · cases h
  · exact ⟨rfl, h⟩
theorem sameEs_eq : ∀ (l k : List Entry), sameEs l k = true → l = k
  | [], [], _ => rfl
  | [], _ :: _, h => by cases h
  | (a, b, n) :: l, [], h => by cases h
  | (a, b, n) :: l, (c, d, m) :: k, h => by
    obtain ⟨h1, h⟩ := sel_and h
    obtain ⟨h2, h⟩ := sel_and h
    obtain ⟨h3, h⟩ := sel_and h
    rw [sameV_eq a c h1, sameV_eq b d h2, Nat.eq_of_beq_eq_true h3, sameEs_eq l k h]
theorem sameNs_eq : ∀ (l k : List Nat), sameNs l k = true → l = k
  | [], [], _ => rfl
  | [], _ :: _, h => by cases h
  | a :: l, [], h => by cases h
  | a :: l, b :: k, h => by
    obtain ⟨h1, h⟩ := sel_and h
    rw [Nat.eq_of_beq_eq_true h1, sameNs_eq l k h]
theorem sameON_eq : ∀ (a b : Option Nat), sameON a b = true → a = b
  | none, none, _ => rfl
  | none, some _, h => by cases h
  | some _, none, h => by cases h
  | some a, some b, h => by rw [Nat.eq_of_beq_eq_true h]
theorem sameB_eq : ∀ (b c : ABlk), sameB b c = true → b = c
  | .cells cs e o, .cells ds f p, h => by
    obtain ⟨h1, h⟩ := sel_and h
    obtain ⟨h2, h⟩ := sel_and h
    have ho : o = p := by cases o <;> cases p <;> first | rfl | cases h2
    rw [Nat.eq_of_beq_eq_true h1, ho, sameVs_eq cs ds h]
  | .map es c, .map fs d, h => by
    obtain ⟨h1, h⟩ := sel_and h
    rw [Nat.eq_of_beq_eq_true h1, sameEs_eq es fs h]
  | .mapIter m a l b, .mapIter n c k d, h => by
    obtain ⟨h1, h⟩ := sel_and h
    obtain ⟨h2, h⟩ := sel_and h
    obtain ⟨h3, h⟩ := sel_and h
    rw [sameON_eq m n h1, Nat.eq_of_beq_eq_true h2, sameNs_eq l k h3, Nat.eq_of_beq_eq_true h]
  | .cells _ _ _, .map _ _, h => by cases h
  | .cells _ _ _, .mapIter _ _ _ _, h => by cases h
  | .map _ _, .cells _ _ _, h => by cases h
  | .map _ _, .mapIter _ _ _ _, h => by cases h
  | .mapIter _ _ _ _, .cells _ _ _, h => by cases h
  | .mapIter _ _ _ _, .map _ _, h => by cases h
theorem hasL_get {s : St} : ∀ {l : List (Nat × ABlk)}, hasL s l = true → ∀ i b, (i, b) ∈ l → s.get i = some b
  | [], _, _, _, h => by cases h
  | (j, c) :: l, h, i, b, hm => by
    have h : sel (sameOB c (s.get j)) (hasL s l) false = true := h
    obtain ⟨h1, h2⟩ := sel_and h
    rcases List.mem_cons.1 hm with h3 | h3
    · cases h3
      unfold sameOB at h1
      split at h1
      · rename_i d hd
        rw [hd, sameB_eq _ _ h1]
      · cases h1
    · exact hasL_get h2 i b h3

variable {P : Program}
/-- an entry is right -/
def EntOK (P : Program) (e : Ent) : Prop := ∀ (r : Rho) (w : World) (us : List Value), Rel r e.S w → VRs r e.args us →
  CallsF P e.f ⟨us⟩ w fun u w' => ∃ q, Ext r e.S w q e.S' w' ∧ VR q e.v u
theorem CallsF.mono {f : FuncId} {us : Array Value} {w : World} {R R' : Value → World → Prop} (h : CallsF P f us w R) (k : ∀ u w', R u w' → R' u w') : CallsF P f us w R' := by
  rcases h with ⟨u, w', h1, h2⟩ | ⟨h1, h2⟩
  · exact .inl ⟨u, w', h1, k u w' h2⟩
  · refine .inr ⟨h1, h2.mono ?_⟩
    rintro e w' ⟨u, rfl, h3⟩
    exact ⟨u, rfl, k u w' h3⟩
/-- only some blocks are looked at -/
theorem Rel.some {r : Rho} {s s' : St} {w : World} (h : Rel r s w) (hs : ∀ i b, s'.get i = some b → s.get i = some b) (hn : s'.next = s.next) : Rel r s' w :=
  ⟨⟨fun i b x hb hx => h.block i b x (hs i b hb) hx, fun i hi => by
      cases e : s'.get i with
      | none => rfl
      | some b => have := hs i b e; rw [h.far i (hn ▸ hi)] at this; cases this⟩,
    fun i j b c x y hb hc => h.apart i j b c x y (hs i b hb) (hs j c hc), fun i x hx => hn ▸ h.known i x hx⟩
/-- what is said of some blocks holds with the others beside -/
theorem Ext.beside {r q : Rho} {s : St} {e : Ent} {w u : World} (hr : Rel r s w) (hs : ∀ i b, e.S.get i = some b → s.get i = some b) (hn : e.n = s.next) (h : Ext r e.S w q e.S' u) : Ext r s w q (e.over s) u := by
  have back : ∀ i b, (e.over s).get i = some b → e.S'.get i = some b ∨ (s.get i = some b ∧ e.S.get i = none) := fun i b hb => by
    have hb : (putL e.post (outL e.pre s.heap)).get i = some b := hb
    rw [putL_get] at hb
    cases hp : (putL e.post .lf).get i with
    | some c => rw [hp] at hb; cases hb; exact .inl hp
    | none =>
      rw [hp] at hb
      obtain ⟨h1, h2⟩ := outL_get i _ _ b hb
      refine .inr ⟨h1, ?_⟩
      cases hq : e.S.get i with
      | none => rfl
      | some c => exact absurd (putL_in hq) (h2 c)
  have old : ∀ i b x, s.get i = some b → q i = some x → r i = some x := fun i b x hb hx => by
    have hi := hr.below hb
    cases hri : r i with
    | none => have := h.fresh i hri (by rw [hx]; exact fun h => by cases h); have h2 : e.S.next = e.n := rfl; omega
    | some y => rw [h.le i y hri] at hx; exact hx
  have nohit : ∀ i b x, s.get i = some b → e.S.get i = none → r i = some x → ¬ Hit r e.S x.blk := fun i b x hb he hx ⟨j, c, y, hc, hy, hk⟩ => by
    have := hr.apart j i c b y x (hs j c hc) hb hy hx hk
    subst this
    rw [hc] at he; cases he
  have lt : ∀ i b x, s.get i = some b → r i = some x → x.blk < w.heap.size := fun i b x hb hx => hr.lt ⟨i, b, x, hb, hx, rfl⟩
  have cross : ∀ i j b c x y, e.S'.get i = some b → s.get j = some c → e.S.get j = none → q i = some x → q j = some y → x.blk = y.blk → False := fun i j b c x y hb hc hj hx hy hxy => by
    have hy' := old j c y hc hy
    rcases h.hits x.blk ⟨i, b, x, hb, hx, rfl⟩ with h1 | h1
    · exact nohit j c y hc hj hy' (hxy ▸ h1)
    · have := lt j c y hc hy'; omega
  have hns : s.next ≤ e.m := hn ▸ h.next
  refine ⟨⟨⟨fun i b x hb hx => ?_, fun i hi => ?_⟩, fun i j b c x y hb hc hx hy hxy => ?_, fun i x hx => h.rel.known i x hx⟩, h.le, hns, h.os, h.tape, h.output, h.size, fun k hk hh => h.frame k hk fun ⟨i, b, x, hb, hx, hk⟩ => hh ⟨i, b, x, hs i b hb, hx, hk⟩,
    fun i hi hri b hb => ?_, fun i hi hg => ?_, fun k ⟨i, b, x, hb, hx, hk⟩ => ?_, fun i hri hq => hn ▸ h.fresh i hri hq⟩
  · rcases back i b hb with h1 | ⟨h1, h2⟩
    · exact h.rel.block i b x h1 hx
    · have hx' := old i b x h1 hx
      obtain ⟨o, h3, h4⟩ := hr.block i b x h1 hx'
      exact ⟨o, by rw [h.frame x.blk (lt i b x h1 hx') (nohit i b x h1 h2 hx')]; exact h3, h4.mono h.le⟩
  · cases hb : (e.over s).get i with
    | none => rfl
    | some b =>
      have hi : e.m ≤ i := hi
      rcases back i b hb with h1 | ⟨h1, h2⟩
      · rw [h.rel.far i hi] at h1; cases h1
      · rw [hr.far i (by omega)] at h1; cases h1
  · rcases back i b hb with h1 | ⟨h1, h2⟩ <;> rcases back j c hc with h3 | ⟨h3, h4⟩
    · exact h.rel.apart i j b c x y h1 h3 hx hy hxy
    · exact (cross i j b c x y h1 h3 h4 hx hy hxy).elim
    · exact (cross j i c b y x h3 h1 h2 hy hx hxy.symm).elim
    · exact hr.apart i j b c x y h1 h3 (old i b x h1 hx) (old j c y h3 hy) hxy
  · rcases back i b hb with h1 | ⟨h1, h2⟩
    · exact hs i b (h.still i (by have h2 : e.S.next = e.n := rfl; omega) hri b h1)
    · exact h1
  · cases hb : (e.over s).get i with
    | none => rfl
    | some b =>
      rcases back i b hb with h1 | ⟨h1, h2⟩
      · have hd := h.dead i (by have h2 : e.S.next = e.n := rfl; omega) (by
          cases hc : e.S.get i with
          | none => rfl
          | some c => rw [hs i c hc] at hg; cases hg)
        rw [hd] at h1; cases h1
      · rw [hg] at h1; cases h1
  · rcases back i b hb with h1 | ⟨h1, h2⟩
    · rcases h.hits k ⟨i, b, x, h1, hx, hk⟩ with ⟨j, c, y, hc, hy, hk⟩ | h3
      · exact .inl ⟨j, c, y, hs j c hc, hy, hk⟩
      · exact .inr h3
    · exact .inl ⟨i, b, x, h1, old i b x h1 hx, hk⟩

/-- a function that is known otherwise is right -/
def OrcOK (P : Program) (f : FuncId) (g : Orc) : Prop := ∀ (args : List AVal) (s : St) (v : AVal) (s' : St), g.run args s = .ok v s' → ∀ (r : Rho) (w : World) (us : List Value), Rel r s w → VRs r args us →
    CallsF P f ⟨us⟩ w fun u w' => ∃ q, Ext r s w q s' w' ∧ VR q v u
theorem tab_ok {f : FuncId} : ∀ {T : List Ent}, (∀ e ∈ T, e.f = f ∧ EntOK P e) → OrcOK P f (tabO T)
  | [], _ => fun args s v s' h => by cases h
  | e :: T, hT => fun args s v s' h r w us hr hv => by
    have h : entR e args s (tabR args s T) = .ok v s' := h
    have rest : tabR args s T = .ok v s' → CallsF P f ⟨us⟩ w fun u w' => ∃ q, Ext r s w q s' w' ∧ VR q v u := fun h =>
      tab_ok (T := T) (fun e he => hT e (List.mem_cons_of_mem _ he)) args s v s' h r w us hr hv
    unfold entR at h
    rcases sel_eq h with ⟨h1, h⟩ | ⟨_, h⟩
    · rcases sel_eq h with ⟨h2, h⟩ | ⟨_, h⟩
      · rcases sel_eq h with ⟨h3, h⟩ | ⟨_, h⟩
        · cases h
          obtain ⟨rfl, he⟩ := hT e List.mem_cons_self
          have hn : e.n = s.next := Nat.eq_of_beq_eq_true h1
          have hs : ∀ i b, e.S.get i = some b → s.get i = some b := fun i b hb => hasL_get h3 i b (putL_in hb)
          have ha := sameVs_eq _ _ h2
          subst ha
          refine (he r w us (hr.some hs hn) hv).mono fun u w' ⟨q, h4, h5⟩ => ⟨q, h4.beside hr hs hn, h5⟩
        · exact rest h
      · exact rest h
    · exact rest h
/-- what the kernel says of an entry is right -/
theorem ent_ok {B : Base} (hB : BaseOK P B) (hm : P.follows .mixedOrders = true) {fuel d : Nat} {e : Ent} (h : entChk P B fuel d e = true) : EntOK P e := by
  intro r w us hr hv
  have hB' : BaseOK P { B with orc := fun _ => none } := ⟨hB.fn, hB.reg, fun f g h => by cases h⟩
  unfold entChk chkR at h
  split at h
  · rename_i v s1 he
    obtain ⟨h1, h⟩ := sel_and h
    obtain ⟨h2, h3⟩ := sel_and h
    have hc := callStep_ok hB' (callN_ok hB (fun call K hc => draw_ok hm hc) fuel d) (fun K => draw_ok hm (callN_ok hB (fun call K hc => draw_ok hm hc) fuel d)) fuel e.f e.args e.S v s1 he r w us hr hv
    refine hc.mono fun u w' ⟨q, h4, h5⟩ => ⟨q, h4.forget (fun i b hb => hasL_get h3 i b (putL_in hb)) (Nat.eq_of_beq_eq_true h2).symm, ?_⟩
    rw [← sameV_eq _ _ h1]
    exact h5
  · cases h
end Go.Proofs.YtchkcnecgfolmaaGreatDoor.Ev
namespace Go.Proofs.YtchkcnecgfolmaaGreatDoor.Ev
open Go
set_option linter.unusedSectionVars false
set_option linter.unusedVariables false

noncomputable section
def bindM (k : Env → St → List Res) : List Res → List Res
  | [] => []
  | y :: l => (match y with | .ok .normal e s => k e s | y => [y]) ++ bindM k l
def condM (a b : Env → St → List Res) (e : Env) (s : St) (v : V) : List Res := match v with
  | .ok (.bool true) => a e s
  | .ok (.bool false) => b e s
  | _ => [.bad]
def coinR (t u : Tmp) (e : Env) (s : St) : List Res := [.ok .normal ((e.set u none).set t (some (.bool true))) ⟨s.heap, s.next + 1⟩, .ok .normal ((e.set u none).set t (some (.bool false))) ⟨s.heap, s.next + 1⟩]
/-- all ways; in the region of this number a coin is thrown -/
def execM (ex : Code → Env → St → Res) (coin : Nat) (t u : Tmp) : Code → Env → St → List Res
  | .seq a b => fun e s => bindM (execM ex coin t u b) (execM ex coin t u a e s)
  | .cond x a b => fun e s => condM (execM ex coin t u a) (execM ex coin t u b) e s (evalO [] e (copd 0 .nil x))
  | .region id ops d => fun e s => sel (Nat.beq id coin) (coinR t u e s) [ex (.region id ops d) e s]
  | c => fun e s => [ex c e s]
/-- the blocks with these numbers -/
def gather (s : St) : List Nat → List (Nat × ABlk)
  | [] => []
  | i :: l => match s.get i with
    | some b => (i, b) :: gather s l
    | none => gather s l
def sameAll (v : AVal) (m : Nat) : List R → Bool
  | [] => true
  | .ok u s :: l => sel (sameV u v) (sel (Nat.beq s.next m) (sameAll v m l) false) false
  | .bad :: _ => false
def hasAll (b : ABlk) (i : Nat) : List R → Bool
  | [] => true
  | .ok _ s :: l => sel (sameOB b (s.get i)) (hasAll b i l) false
  | .bad :: _ => false
def keepL (rs : List R) : List (Nat × ABlk) → List (Nat × ABlk)
  | [] => []
  | (i, b) :: l => sel (hasAll b i rs) ((i, b) :: keepL rs l) (keepL rs l)
def upto (n : Nat) : Nat → List Nat
  | 0 => []
  | k + 1 => (n + k) :: upto n k
def entOf (f : FuncId) (args : List AVal) (s : St) (ids : List Nat) (v : AVal) (s1 : St) (rs : List R) : Ent :=
  ⟨f, args, gather s ids, s.next, v, keepL rs (gather s1 (ids ++ upto s.next (s1.next - s.next))), s1.next⟩
def twoR (f : FuncId) (args : List AVal) (s : St) (ids : List Nat) : List R → R
  | .ok v s1 :: rs => sel (sameAll v s1.next rs) (.ok v ((entOf f args s ids v s1 rs).over s)) .bad
  | _ => .bad
def doneRs (l : List RV) : List Res → List R
  | [] => []
  | y :: ys => doneR l y :: doneRs l ys
structure Two where
  f : FuncId
  coin : Nat
  t : Tmp
  u : Tmp
  ids : List AVal → St → List Nat
def exT (P : Program) (K : Tmps) (c : Code) : Env → St → Res := execN P (fun _ _ _ => .bad) K (fun _ => none) 1 1 (cc P (fun _ _ _ => .bad) K (fun _ => none) c)
def twoB (P : Program) (T : Two) (keep : Keep) (fn : Func) (args : List AVal) (s : St) (b : Option Code) : R := match b with
  | some b => twoR T.f args s (T.ids args s) (doneRs (rvsOf P fn.results.toList) (execM (exT P ⟨fn.ntmps, keep⟩) T.coin T.t T.u b (enterE ⟨fn.ntmps, keep⟩ 0 .lf args) ⟨putL (gather s (T.ids args s)) .lf, s.next⟩))
  | none => .bad
def oTwo (P : Program) (T : Two) (keep : Keep) (fn : Func) : Orc := ⟨fun args s => twoB P T keep fn args s fn.body⟩
end
variable [Sig]

variable {P : Program}
/-- code that goes several ways -/
def CodeM (P : Program) (K : Tmps) (c : Code) (F : Env → St → List Res) : Prop :=
  ∀ (e : Env) (s : St), (∀ y ∈ F e s, y ≠ .bad) → ∀ (r : Rho) (w : World) (a : Act) (Q : Exit → Act → World → Prop), Rel r s w → EnvR K r e a →
    (∀ x e' s', Res.ok x e' s' ∈ F e s → ∀ q a' w', Ext r s w q s' w' → EnvR K q e' a' → Q (exOf x) a' w') → c.wp P Q a w
theorem CodeM.of {K : Tmps} {c : Code} {f : Env → St → Res} (h : CodeOK P K c f) : CodeM P K c fun e s => [f e s] := by
  intro e s hb r w a Q hr he hQ
  cases hy : f e s with
  | bad => exact absurd hy (hb _ (List.mem_singleton.2 rfl))
  | ok x e' s' => exact h e s x e' s' hy r w a Q hr he fun q a' w' hx he' => hQ x e' s' (by show _ ∈ [f e s]; rw [hy]; exact List.mem_singleton.2 rfl) q a' w' hx he'
theorem bindM_normal {k : Env → St → List Res} {e : Env} {s : St} : ∀ {l : List Res}, Res.ok .normal e s ∈ l → ∀ z ∈ k e s, z ∈ bindM k l
  | y :: l, h, z, hz => by
    rcases List.mem_cons.1 h with h | h
    · subst h; exact List.mem_append_left _ hz
    · exact List.mem_append_right _ (bindM_normal h z hz)
theorem bindM_other {k : Env → St → List Res} {y : Res} (hy : ∀ e s, y ≠ .ok .normal e s) : ∀ {l : List Res}, y ∈ l → y ∈ bindM k l
  | z :: l, h => by
    rcases List.mem_cons.1 h with h | h
    · subst h
      refine List.mem_append_left _ ?_
      split
      · rename_i e s; exact absurd rfl (hy e s)
      · exact List.mem_singleton.2 rfl
    · exact List.mem_append_right _ (bindM_other hy h)
theorem CodeM.seq {K : Tmps} {c d : Code} {F G : Env → St → List Res} (hf : CodeM P K c F) (hg : CodeM P K d G) : CodeM P K (.seq c d) fun e s => bindM G (F e s) := by
  intro e s hb r w a Q hr he hQ
  refine wp_seq (hf e s (fun y hy hbad => ?_) r w a _ hr he fun x e1 s1 hm q a1 w1 hx he1 => ?_)
  · subst hbad
    exact hb .bad (bindM_other (fun _ _ h => by cases h) hy) rfl
  · cases x with
    | normal => exact hg e1 s1 (fun y hy => hb y (bindM_normal hm y hy)) q w1 a1 Q hx.rel he1 fun x e' s' hm' q' a' w' hx' he' => hQ x e' s' (bindM_normal hm _ hm') q' a' w' (hx.trans hx') he'
    | exit i => exact hQ _ e1 s1 (bindM_other (fun _ _ h => by cases h) hm) q a1 w1 hx he1
    | goto i => exact hQ _ e1 s1 (bindM_other (fun _ _ h => by cases h) hm) q a1 w1 hx he1
    | ret => exact hQ _ e1 s1 (bindM_other (fun _ _ h => by cases h) hm) q a1 w1 hx he1
theorem CodeM.cond {K : Tmps} {x : Operand} {c d : Code} {F G : Env → St → List Res} (hf : CodeM P K c F) (hg : CodeM P K d G) : CodeM P K (.cond x c d) fun e s => condM F G e s (evalO [] e (copd 0 .nil x)) := by
  intro e s hb r w a Q hr he hQ
  cases hv : evalO [] e (copd 0 .nil x) with
  | bad => exact absurd rfl (hb .bad (by show _ ∈ condM F G e s _; rw [hv]; exact List.mem_singleton.2 rfl))
  | ok v =>
    have hc := (Inv.start hr he).cx (.move x) x (by simp [Op.operands]) v hv
    have hb' : ∀ y ∈ condM F G e s (.ok v), y ≠ .bad := fun y hy => hb y (by show _ ∈ condM F G e s _; rw [hv]; exact hy)
    have hQ' : ∀ x e' s', Res.ok x e' s' ∈ condM F G e s (.ok v) → ∀ q a' w', Ext r s w q s' w' → EnvR K q e' a' → Q (exOf x) a' w' := fun x e' s' hm => hQ x e' s' (by show _ ∈ condM F G e s _; rw [hv]; exact hm)
    unfold condM at hb' hQ'
    split at hb'
    · rename_i e1
      cases e1
      generalize hg2 : a.eval x = u at hc
      cases hc
      exact wp_cond_true hg2 (hf e s hb' r w a Q hr he hQ')
    · rename_i e1
      cases e1
      generalize hg2 : a.eval x = u at hc
      cases hc
      exact wp_cond_false hg2 (hg e s hb' r w a Q hr he hQ')
    · exact absurd rfl (hb' .bad (List.mem_singleton.2 rfl))
theorem execM_ok {K : Tmps} {ex : Code → Env → St → Res} {coin : Nat} {t u : Tmp} (hex : ∀ c, CodeOK P K c (ex c)) : ∀ c, Regs (fun id ops d => id = coin → CodeM P K (.region id ops d) (coinR t u)) c → CodeM P K c (execM ex coin t u c)
  | .seq a b, h => CodeM.seq (execM_ok hex a h.1) (execM_ok hex b h.2)
  | .cond x a b, h => CodeM.cond (execM_ok hex a h.1) (execM_ok hex b h.2)
  | .region id ops d, h => by
    have e1 : execM ex coin t u (.region id ops d) = fun e s => sel (Nat.beq id coin) (coinR t u e s) [ex (.region id ops d) e s] := by unfold execM; rfl
    rw [e1]
    cases hc : Nat.beq id coin
    · exact CodeM.of (hex _)
    · exact h (Nat.eq_of_beq_eq_true hc)
  | .skip, _ => CodeM.of (hex _)
  | .label _, _ => CodeM.of (hex _)
  | .rangeFunc _ _ _ _, _ => CodeM.of (hex _)
  | .exit _, _ => CodeM.of (hex _)
  | .goto _, _ => CodeM.of (hex _)
  | .ret, _ => CodeM.of (hex _)
  | .refuse _, _ => CodeM.of (hex _)
  | .block _ _, _ => CodeM.of (hex _)
  | .loop _, _ => CodeM.of (hex _)
  | .scope _, _ => CodeM.of (hex _)

theorem gather_get {s : St} : ∀ {l : List Nat} {i : Nat} {b : ABlk}, (i, b) ∈ gather s l → s.get i = some b
  | j :: l, i, b, h => by
    unfold gather at h
    split at h
    · rename_i c hc
      rcases List.mem_cons.1 h with h | h
      · cases h; exact hc
      · exact gather_get h
    · exact gather_get h
theorem keepL_ok {rs : List R} : ∀ {l : List (Nat × ABlk)} {i : Nat} {b : ABlk}, (i, b) ∈ keepL rs l → (i, b) ∈ l ∧ hasAll b i rs = true
  | (j, c) :: l, i, b, h => by
    have h : (i, b) ∈ sel (hasAll c j rs) ((j, c) :: keepL rs l) (keepL rs l) := h
    cases hh : hasAll c j rs
    · rw [hh] at h
      obtain ⟨h1, h2⟩ := keepL_ok (l := l) h
      exact ⟨List.mem_cons_of_mem _ h1, h2⟩
    · rw [hh] at h
      rcases List.mem_cons.1 h with h | h
      · cases h; exact ⟨List.mem_cons_self, hh⟩
      · obtain ⟨h1, h2⟩ := keepL_ok (l := l) h
        exact ⟨List.mem_cons_of_mem _ h1, h2⟩
theorem hasAll_ok {b : ABlk} {i : Nat} : ∀ {rs : List R}, hasAll b i rs = true → ∀ v s, R.ok v s ∈ rs → s.get i = some b
  | .ok u s :: l, h, v, t, hm => by
    obtain ⟨h1, h2⟩ := sel_and h
    rcases List.mem_cons.1 hm with hm | hm
    · cases hm
      unfold sameOB at h1
      split at h1
      · rename_i c hc; rw [hc, sameB_eq _ _ h1]
      · cases h1
    · exact hasAll_ok h2 v t hm
  | .bad :: l, h, _, _, _ => by cases h
theorem sameAll_ok {v : AVal} {m : Nat} : ∀ {rs : List R}, sameAll v m rs = true → ∀ y ∈ rs, ∃ s, y = .ok v s ∧ s.next = m
  | .ok u s :: l, h, y, hm => by
    obtain ⟨h1, h⟩ := sel_and h
    obtain ⟨h2, h3⟩ := sel_and h
    rcases List.mem_cons.1 hm with hm | hm
    · subst hm; exact ⟨s, by rw [sameV_eq _ _ h1], Nat.eq_of_beq_eq_true h2⟩
    · exact sameAll_ok h3 y hm
  | .bad :: l, h, _, _ => by cases h
theorem doneRs_mem {l : List RV} : ∀ {ys : List Res} {y : Res}, y ∈ ys → doneR l y ∈ doneRs l ys
  | z :: ys, y, h => by
    rcases List.mem_cons.1 h with h | h
    · subst h; exact List.mem_cons_self
    · exact List.mem_cons_of_mem _ (doneRs_mem h)

/-- a function of which a coin is thrown -/
theorem two_right (hm : P.follows .mixedOrders = true) {T : Two} {keep : Keep} {fn : Func} {b : Code} (hfn : P.funcs[T.f]? = some fn) (hb : fn.body = some b) (hcf : ∀ args w, (callFunc T.f args).run P w = .ok (.enter T.f args) w)
    (hc : Regs (fun id ops d => id = T.coin → CodeM P ⟨fn.ntmps, keep⟩ (.region id ops d) (coinR T.t T.u)) b) : OrcOK P T.f (oTwo P T keep fn) := by
  intro args s v s' h r w us hr hv
  have h : twoB P T keep fn args s fn.body = .ok v s' := h
  rw [hb] at h
  have h : twoR T.f args s (T.ids args s) (doneRs (rvsOf P fn.results.toList) (execM (exT P ⟨fn.ntmps, keep⟩) T.coin T.t T.u b (enterE ⟨fn.ntmps, keep⟩ 0 .lf args) ⟨putL (gather s (T.ids args s)) .lf, s.next⟩)) = .ok v s' := h
  have hbadc : CallOK P (fun _ _ _ => R.bad) := fun f args s v s' h => by cases h
  have hM : CodeM P ⟨fn.ntmps, keep⟩ b (execM (exT P ⟨fn.ntmps, keep⟩) T.coin T.t T.u b) := execM_ok (fun c => exec_ok hbadc (draw_ok hm hbadc) 1 c (Regs.all (fun _ _ _ g hg => by cases hg) c)) b hc
  generalize execM (exT P ⟨fn.ntmps, keep⟩) T.coin T.t T.u b = F at h hM
  generalize hids : T.ids args s = ids at h
  generalize hy : F (enterE ⟨fn.ntmps, keep⟩ 0 .lf args) ⟨putL (gather s ids) .lf, s.next⟩ = ys at h
  have hys : ∀ y ∈ ys, ∃ s1, doneR (rvsOf P fn.results.toList) y = .ok v s1 ∧ ∃ E : Ent, E.f = T.f ∧ E.args = args ∧ E.pre = gather s ids ∧ E.n = s.next ∧ E.v = v ∧ E.m = s1.next ∧ s' = E.over s ∧ ∀ i b, (i, b) ∈ E.post → s1.get i = some b := by
    intro y hmem
    have hd := doneRs_mem (l := rvsOf P fn.results.toList) hmem
    unfold twoR at h
    split at h
    · rename_i v1 s1 rs hrs
      rcases sel_eq h with ⟨hs, h⟩ | ⟨_, h⟩
      · cases h
        rw [hrs] at hd
        rcases List.mem_cons.1 hd with hd | hd
        · exact ⟨s1, hd, _, rfl, rfl, rfl, rfl, rfl, rfl, rfl, fun i b hi => gather_get (keepL_ok hi).1⟩
        · obtain ⟨s2, h1, h2⟩ := sameAll_ok hs _ hd
          refine ⟨s2, h1, _, rfl, rfl, rfl, rfl, rfl, h2.symm, rfl, fun i b hi => ?_⟩
          rw [h1] at hd
          exact hasAll_ok (keepL_ok hi).2 v s2 hd
      · cases h
    · cases h
  have hs : ∀ i b, (⟨putL (gather s ids) .lf, s.next⟩ : St).get i = some b → s.get i = some b := fun i b hb => gather_get (putL_in hb)
  refine .inr ⟨hcf _ _, ?_⟩
  refine calls_of_wp hfn hb (hM _ ⟨putL (gather s ids) .lf, s.next⟩ (fun y hmem hbad => ?_) r w _ _ (hr.some hs rfl) (enter_ok hv) fun x e' s1 hmem q a' w' hx he => ?_)
  · rw [hy] at hmem
    obtain ⟨s1, h1, _⟩ := hys y hmem
    subst hbad
    cases h1
  · rw [hy] at hmem
    obtain ⟨s2, h1, E, g1, g2, g3, g4, g5, g6, g7, g8⟩ := hys _ hmem
    obtain ⟨x', e1, h2, h3, h4⟩ := doneR_ok h1
    cases h2
    obtain ⟨u, h5, h6⟩ := results_ok hx.rel he h4
    have hES : E.S = ⟨putL (gather s ids) .lf, s.next⟩ := by unfold Ent.S; rw [g3, g4]
    have hx' : Ext r E.S w q E.S' w' := by
      rw [hES]
      exact hx.forget (fun i b hb => g8 i b (putL_in hb)) g6
    have hx2 := hx'.beside hr (by rw [hES]; exact hs) g4
    rw [← g7] at hx2
    rcases h3 with rfl | rfl
    · exact ⟨he.defers, u, h5, u, rfl, q, hx2, h6⟩
    · exact ⟨he.defers, u, h5, u, rfl, q, hx2, h6⟩
end Go.Proofs.YtchkcnecgfolmaaGreatDoor.Ev
namespace Go.Proofs.YtchkcnecgfolmaaGreatDoor.Ev
open Go
set_option linter.unusedSectionVars false
set_option linter.unusedVariables false
set_option linter.unusedSimpArgs false
variable [Sig] {P : Program}

theorem op_step {K : Tmps} {r : Rho} {s s' : St} {w : World} {e : Env} {a : Act} (hr : Rel r s w) (he : EnvR K r e a) {ops : Array Oper} {j : Nat} {o : Oper} (ho : ops[j]? = some o) (hg : o.guard = none) (hd : dstIn K o = true) {v : AVal}
    (hrun : (comp (copd 0 .nil) P (fun _ _ _ => .bad) o.op).run [] e s = .ok v s') {Q : Exit → Act → World → Prop} {Kn : Act → World → Prop}
    (hK : ∀ q a' w', Ext r s w q s' w' → EnvR K q (putE e v (dstOf K o)) a' → Kn a' w') : wpOp P ops Q j Kn a w := by
  have hbadc : CallOK P (fun _ _ _ => R.bad) := fun f args s v s' h => by cases h
  unfold wpOp
  rw [ho]
  simp only
  have hw : Region.wanted o (yielded ops a.tmps) = true := by unfold Region.wanted; rw [hg]
  rw [hw, if_pos rfl]
  refine .inl ((op_ok hbadc hrun).ok hr ((Inv.start hr he).cx o.op) _ _ fun q u w' hx hvr => ?_)
  exact hK q _ w' hx (he.put hx.le hd hvr)

theorem run_load {P : Program} {ty : TypeId} (hw : wholeT P ty = .mk 0 1 false) {u : Tmp} {e : Env} {s : St} {n : Nat} {c : AVal} (he : e.get u = some (.ptr n 0)) (hs : s.get n = some (.cells [c] 0 false)) :
    (comp (copd 0 .nil) P (fun _ _ _ => .bad) (.load ty (.tmp u))).run [] e s = .ok c s := by
  show V.then (fun v => V.ret s (loadV s (wholeT P ty) v)) (evalO [] e (.tmp (bits u))) = _
  have h1 : evalO [] e (.tmp (bits u)) = .ok (.ptr n 0) := by
    show V.ofO (e.get u) = _
    rw [he]; rfl
  rw [h1, hw]
  show V.ret s (loadC (.mk 0 1 false) 0 (csOf (s.get n))) = _
  rw [hs]
  rfl
theorem run_store {P : Program} {ty : TypeId} (hw : wholeT P ty = .mk 0 1 false) {u : Tmp} {e : Env} {s : St} {n : Nat} {c : AVal} {b : Bool} (he : e.get u = some (.ptr n 0)) (hs : s.get n = some (.cells [c] 0 false)) :
    (comp (copd 0 .nil) P (fun _ _ _ => .bad) (.store ty (.tmp u) (.const (.bool b)))).run [] e s = .ok aundef (s.put n (.cells [.bool b] 0 false)) := by
  show V.then (fun v => V.then (storeV s (wholeT P ty) v) (evalO [] e (.tmp (bits u)))) (evalO [] e (.val (.bool b))) = _
  have h1 : evalO [] e (.tmp (bits u)) = .ok (.ptr n 0) := by
    show V.ofO (e.get u) = _
    rw [he]; rfl
  rw [h1, hw]
  show storeC s (.mk 0 1 false) (.bool b) n 0 (csOf (s.get n)) = _
  rw [hs]
  rfl

/-- a region in which a coin is thrown -/
theorem coin_right (hm : P.follows .mixedOrders = true) {K : Tmps} {id : Nat} {ops : Array Oper} {t u ty : Nat} {o0 o1 o2 o3 : Oper} (h0 : ops[0]? = some o0) (h1 : ops[1]? = some o1) (h2 : ops[2]? = some o2) (h3 : ops[3]? = some o3) (hsz : ops.size = 4)
    (d0 : o0.dst = some u) (d1 : o1.dst = none) (d2 : o2.dst = none) (d3 : o3.dst = some t) (p0 : o0.op = .alloc ty) (p1 : o1.op = .store ty (.tmp u) (.const (.bool true))) (p2 : o2.op = .store ty (.tmp u) (.const (.bool false)))
    (p3 : o3.op = .load ty (.tmp u)) (g0 : o0.guard = none) (g1 : o1.guard = none) (g2 : o2.guard = none) (g3 : o3.guard = none)
    (r0 : Region.ready .any ops #[false, false, false, false] = [0]) (r1 : Region.ready .any ops #[true, false, false, false] = [1, 2]) (r2 : Region.ready .any ops #[true, true, false, false] = [2]) (r3 : Region.ready .any ops #[true, false, true, false] = [1])
    (r4 : Region.ready .any ops #[true, true, true, false] = [3]) (r5 : Region.ready .any ops #[true, true, true, true] = []) (hz : zeroT P ty = some (.bool false)) (hw : wholeT P ty = .mk 0 1 false) (htu : t ≠ u) (hkt : K.keep t = true) (htn : t < K.n) (hun : u < K.n) :
    CodeM P K (.region id ops true) (coinR t u) := by
  intro e s _ r w a Q hr he hQ
  have hn0 : s.get s.next = none := hr.far _ (Nat.le_refl _)
  refine wp_region_any hm ?_
  rw [hsz]
  have he' : EnvR ⟨K.n, fun _ => true⟩ r e a := ⟨fun t v h => ⟨rfl, (he.env t v h).2⟩, he.size, he.defers⟩
  have hr' : Rel r s { w with drawn := w.drawn + 1 } := hr.drawn _
  -- the end
  have fin : ∀ (b : Bool) (sF : St) (eF : Env) (q : Rho) (a' : Act) (w' : World), Ext r s { w with drawn := w.drawn + 1 } q sF w' → EnvR ⟨K.n, fun _ => true⟩ q eF a' → sF.next = s.next + 1 → (∀ i, i ≠ s.next → sF.get i = s.get i) →
      eF.get t = some (.bool b) → (∀ x, x ≠ t → x ≠ u → eF.get x = e.get x) → Q .normal a' w' := fun b sF eF q a' w' hx hE hnx hget ht hoth => by
    refine hQ .normal ((e.set u none).set t (some (.bool b))) ⟨s.heap, s.next + 1⟩ ?_ q a' w' (((Ext.drawn hr _).trans hx).forget (fun i c hc => ?_) hnx.symm) ⟨fun x v hv => ?_, hE.size, hE.defers⟩
    · unfold coinR; cases b
      · exact List.mem_cons_of_mem _ List.mem_cons_self
      · exact List.mem_cons_self
    · have hc : s.get i = some c := hc
      rw [hget i fun e => by subst e; rw [hn0] at hc; cases hc]
      exact hc
    · rw [get_set] at hv
      by_cases h1 : t = x
      · subst h1
        rw [if_pos rfl] at hv
        cases hv
        exact ⟨hkt, (hE.env t _ ht).2⟩
      · rw [if_neg h1, get_set] at hv
        by_cases h2 : u = x
        · rw [if_pos h2] at hv; cases hv
        · rw [if_neg h2] at hv
          exact ⟨(he.env x v hv).1, (hE.env x v (by rw [hoth x (Ne.symm h1) (Ne.symm h2)]; exact hv)).2⟩
  -- the last operation: a load
  have last : ∀ (b : Bool) (sF : St) (e1 : Env) (q : Rho) (a' : Act) (w' : World), Ext r s { w with drawn := w.drawn + 1 } q sF w' → EnvR ⟨K.n, fun _ => true⟩ q e1 a' → sF.next = s.next + 1 → (∀ i, i ≠ s.next → sF.get i = s.get i) →
      e1.get u = some (.ptr s.next 0) → sF.get s.next = some (.cells [.bool b] 0 false) → (∀ x, x ≠ u → e1.get x = e.get x) → wpAny P .any ops Q 1 #[true, true, true, false] a' w' := fun b sF e1 q a' w' hx hE hnx hget hu hc hoth => by
    refine ⟨fun h => (by rw [r4] at h; cases h), fun j hj => ?_⟩
    rw [r4] at hj
    rcases List.mem_singleton.1 hj with rfl
    refine op_step hx.rel hE h3 g3 (by unfold dstIn; rw [d3]; exact Nat.ble_eq_true_of_le htn) (by rw [p3]; exact run_load hw hu hc) fun q' a'' w'' hx' hE' => ?_
    refine ⟨r5, ?_⟩
    have hd : dstOf ⟨K.n, fun _ => true⟩ o3 = some (bits t) := by unfold dstOf; rw [d3]; rfl
    rw [hd] at hE'
    have hE' : EnvR ⟨K.n, fun _ => true⟩ q' (e1.set t (some (.bool b))) a'' := hE'
    exact fin b sF _ q' a'' w'' (hx.trans hx') hE' hnx hget (get_set_same _ _ _) fun x h1 h2 => by rw [get_set_ne _ _ (Ne.symm h1)]; exact hoth x h2
  -- the first: a new block
  refine ⟨fun h => (by have h : Region.ready .any ops #[false, false, false, false] = [] := h; rw [r0] at h; cases h), fun j hj => ?_⟩
  have hj : j ∈ Region.ready .any ops #[false, false, false, false] := hj
  rw [r0] at hj
  rcases List.mem_singleton.1 hj with rfl
  have hrun0 : (comp (copd 0 .nil) P (fun _ _ _ => .bad) o0.op).run [] e s = .ok (.ptr s.next 0) (s.new (.cells [.bool false] 0 false)) := by
    rw [p0]
    show opAlloc (zeroT P ty) [] e s = _
    rw [hz]; rfl
  refine op_step hr' he' h0 g0 (by unfold dstIn; rw [d0]; exact Nat.ble_eq_true_of_le hun) hrun0 fun q a1 w1 hx1 hE1 => ?_
  have hd : dstOf ⟨K.n, fun _ => true⟩ o0 = some (bits u) := by unfold dstOf; rw [d0]; rfl
  rw [hd] at hE1
  have hE1 : EnvR ⟨K.n, fun _ => true⟩ q (e.set u (some (.ptr s.next 0))) a1 := hE1
  have hu1 : (e.set u (some (.ptr s.next 0))).get u = some (.ptr s.next 0) := get_set_same _ _ _
  have hot : ∀ x, x ≠ u → (e.set u (some (.ptr s.next 0))).get x = e.get x := fun x hx => get_set_ne _ _ (Ne.symm hx)
  have hc1 : (s.new (.cells [.bool false] 0 false)).get s.next = some (.cells [.bool false] 0 false) := by rw [St.get_new, if_pos rfl]
  have hg1' : ∀ i, i ≠ s.next → (s.new (.cells [.bool false] 0 false)).get i = s.get i := fun i hi => by rw [St.get_new, if_neg (Ne.symm hi)]
  have hnx1 : (s.new (.cells [.bool false] 0 false)).next = s.next + 1 := St.next_new _ _
  generalize (s.new (.cells [.bool false] 0 false)) = s1 at hx1 hc1 hg1' hnx1
  generalize e.set u (some (.ptr s.next 0)) = e1 at hE1 hu1 hot
  have nod : ∀ {o : Oper} {v : AVal}, o.dst = none → putE e1 v (dstOf ⟨K.n, fun _ => true⟩ o) = e1 := fun {o v} h => by unfold dstOf; rw [h]; rfl
  have nodi : ∀ {o : Oper}, o.dst = none → dstIn ⟨K.n, fun _ => true⟩ o = true := fun {o} h => by unfold dstIn; rw [h]
  have put1 : ∀ (sA : St) (b : Bool), sA.next = s.next + 1 → (∀ i, i ≠ s.next → sA.get i = s.get i) → (sA.put s.next (.cells [.bool b] 0 false)).next = s.next + 1 ∧ (∀ i, i ≠ s.next → (sA.put s.next (.cells [.bool b] 0 false)).get i = s.get i) ∧
      (sA.put s.next (.cells [.bool b] 0 false)).get s.next = some (.cells [.bool b] 0 false) := fun sA b h1 h2 => ⟨h1, fun i hi => by rw [St.get_put, if_neg (Ne.symm hi)]; exact h2 i hi, by rw [St.get_put, if_pos rfl]⟩
  refine ⟨fun h => (by have h : Region.ready .any ops #[true, false, false, false] = [] := h; rw [r1] at h; cases h), fun j hj => ?_⟩
  have hj : j ∈ Region.ready .any ops #[true, false, false, false] := hj
  rw [r1] at hj
  rcases List.mem_cons.1 hj with rfl | hj
  · refine op_step hx1.rel hE1 h1 g1 (nodi d1) (by rw [p1]; exact run_store hw hu1 hc1) fun q2 a2 w2 hx2 hE2 => ?_
    rw [nod d1] at hE2
    obtain ⟨k1, k2, k3⟩ := put1 s1 true hnx1 hg1'
    refine ⟨fun h => (by have h : Region.ready .any ops #[true, true, false, false] = [] := h; rw [r2] at h; cases h), fun j hj => ?_⟩
    have hj : j ∈ Region.ready .any ops #[true, true, false, false] := hj
    rw [r2] at hj
    rcases List.mem_singleton.1 hj with rfl
    refine op_step hx2.rel hE2 h2 g2 (nodi d2) (by rw [p2]; exact run_store hw hu1 k3) fun q3 a3 w3 hx3 hE3 => ?_
    rw [nod d2] at hE3
    obtain ⟨l1, l2, l3⟩ := put1 _ false k1 k2
    exact last false _ e1 q3 a3 w3 ((hx1.trans hx2).trans hx3) hE3 l1 l2 hu1 l3 hot
  · rcases List.mem_singleton.1 hj with rfl
    refine op_step hx1.rel hE1 h2 g2 (nodi d2) (by rw [p2]; exact run_store hw hu1 hc1) fun q2 a2 w2 hx2 hE2 => ?_
    rw [nod d2] at hE2
    obtain ⟨k1, k2, k3⟩ := put1 s1 false hnx1 hg1'
    refine ⟨fun h => (by have h : Region.ready .any ops #[true, false, true, false] = [] := h; rw [r3] at h; cases h), fun j hj => ?_⟩
    have hj : j ∈ Region.ready .any ops #[true, false, true, false] := hj
    rw [r3] at hj
    rcases List.mem_singleton.1 hj with rfl
    refine op_step hx2.rel hE2 h1 g1 (nodi d1) (by rw [p1]; exact run_store hw hu1 k3) fun q3 a3 w3 hx3 hE3 => ?_
    rw [nod d1] at hE3
    obtain ⟨l1, l2, l3⟩ := put1 _ true k1 k2
    exact last true _ e1 q3 a3 w3 ((hx1.trans hx2).trans hx3) hE3 l1 l2 hu1 l3 hot
end Go.Proofs.YtchkcnecgfolmaaGreatDoor.Ev
namespace Go.Proofs.YtchkcnecgfolmaaGreatDoor.Ev
open Go
set_option linter.unusedVariables false
noncomputable section
def vI (n : Nat) : AVal := .int .i64 (.ofNat n)
def vJ (n : Nat) : AVal := .int .i64 (.negSucc n)
def vU (n : Nat) : AVal := .int .u8 (.ofNat n)
def vW (n : Nat) : AVal := .int .u64 (.ofNat n)
def vK (k : IntKind) (n : Nat) : AVal := .int k (.ofNat n)
def vP (i o : Nat) : AVal := .ptr i o
def vL (i o n : Nat) : AVal := .slice i o n none
def vM (i : Nat) : AVal := .map i
def vT : AVal := .bool true
def vF : AVal := .bool false
/-- so many bytes of a number, the least first -/
def byN (k : Nat) : Nat → List UInt8 := @Nat.rec (fun _ => Nat → List UInt8) (fun _ => []) (fun _ ih n => UInt8.ofNat (Nat.mod n 256) :: ih (Nat.div n 256)) k
def ceN (k : Nat) : Nat → List AVal := @Nat.rec (fun _ => Nat → List AVal) (fun _ => []) (fun _ ih n => .int .u8 (.ofNat (Nat.mod n 256)) :: ih (Nat.div n 256)) k
def vX (k n : Nat) : AVal := .str (byN k n)
def bC (cs : List AVal) (e : Nat) : ABlk := .cells cs e false
def bO (cs : List AVal) (e : Nat) : ABlk := .cells cs e true
def bY (k n : Nat) : ABlk := .cells (ceN k n) 1 false
def bZ (k n : Nat) : ABlk := .cells (ceN k n) 1 true
def bM (es : List Entry) (c : Nat) : ABlk := .map es c
end
end Go.Proofs.YtchkcnecgfolmaaGreatDoor.Ev
