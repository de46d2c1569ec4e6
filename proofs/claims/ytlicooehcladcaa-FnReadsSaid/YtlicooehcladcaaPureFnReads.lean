/- FnReads: for every code the answer is true: a line stops after enough wrong reads in a row, near codes differ in one digit, the best code is read most often; program and reference agree. No conditions. -/
import Derived.Test.YtlicooehcladcaaX15
import Derived.Test.YtlicooehcladcaaPDraw
import Derived.Test.YtlicooehcladcaaPureNear
import Derived.Test.YtlicooehcladcaaEBestCode
namespace Go.Proofs.Ytlicooehcladcaa.Pure
open Go.RowKit Go.Proofs.Ytlicooehcladcaa.X Go.Proofs.YtlicooehcladcaaW.PrintWords Go.Proofs.YtlicooehcladcaaW.PrintLast
set_option linter.unusedVariables false
set_option linter.unusedSimpArgs false

theorem sw {x : Int} (h1 : -1000000000000 ≤ x) (h2 : x ≤ 1000000000000) : wrap64 x = x := by unfold wrap64; omega
theorem rd_at (l : List Int) (i : Nat) (h : i < l.length) : rd l (i : Int) = l[i] := by
  unfold rd
  simp [List.getD_eq_getElem?_getD, h]
-- the draws
theorem digits_k (n : Int) (k : Nat) (hk : 9 ≤ k) : spec_l15Digits.f k n = some (digS n) := at_rounds (fun k => spec_l15Digits.mono n k) hk (digS_eq n).1
theorem number_k (l : List Int) (h : l.length = 7) (k : Nat) (hk : 9 ≤ k) : spec_l15Number.f k l = some (numS l) := at_rounds (fun k => spec_l15Number.mono l k) hk (numS_eq l h)
theorem make_loop (x5 : Int) (d : Nat) : ∀ (k : Nat) (x6 : Int), x6 + (d : Int) = 97 → 0 ≤ x6 → d < k → ∃ r, spec_l15Make.l0 k x5 x6 = some r := by
  induction d with
  | zero =>
    intro k x6 hx h0 hk
    obtain ⟨k, rfl⟩ : ∃ m, k = m + 1 := ⟨k - 1, by omega⟩
    simp only [spec_l15Make.l0]
    rw [if_neg (by omega)]
    exact ⟨_, rfl⟩
  | succ d ih =>
    intro k x6 hx h0 hk
    obtain ⟨k, rfl⟩ : ∃ m, k = m + 1 := ⟨k - 1, by omega⟩
    simp only [spec_l15Make.l0, spec_l15Remainder.f, Option.bind_some]
    rw [if_pos (by omega)]
    split
    · exact ⟨_, rfl⟩
    · rw [sw (x := x6 + 1) (by omega) (by omega)]
      exact ih k (x6 + 1) (by omega) (by omega) (by omega)
theorem make_ok (a b : Int) (k : Nat) (hk : 100 ≤ k) : ∃ r, spec_l15Make.f k a b = some r := by
  unfold spec_l15Make.f
  exact make_loop _ 96 k 1 (by omega) (by omega) (by omega)
theorem code_draw {c : List Int} {a s : Int} (h : St c a s) (k : Nat) (hk : 120 ≤ k) : ∃ r a' s', spec_l15DrawCode.f k c a s = some (r, a', s') ∧ St c a' s' := by
  obtain ⟨r1, a1, s1, e1, h1, _⟩ := next_ok h 1000
  obtain ⟨r2, a2, s2, e2, h2, _⟩ := next_ok h1 100
  obtain ⟨m, em⟩ := make_ok r1 r2 k (by omega)
  obtain ⟨r3, a3, s3, e3, h3, _⟩ := next_ok h2 5
  unfold spec_l15DrawCode.f
  rw [e1, Option.bind_some, e2, Option.bind_some, em, Option.bind_some, e3, Option.bind_some]
  simp only
  by_cases c0 : r3 = 0
  · rw [if_pos c0, digits_k m k (by omega), Option.bind_some]
    obtain ⟨r4, a4, s4, e4, h4, l4, u4, _⟩ := next_ok h3 7
    obtain ⟨r5, a5, s5, e5, h5, _⟩ := next_ok h4 10
    have u4 := u4 (by omega)
    have hl := (digS_eq m).2
    rw [e4, Option.bind_some, e5, Option.bind_some, if_pos l4, if_pos (by omega), number_k _ (by rw [List.length_set]; exact hl) k (by omega), Option.bind_some]
    exact ⟨_, _, _, rfl, h5⟩
  · rw [if_neg c0]
    by_cases c1 : r3 = 1
    · rw [if_pos c1]
      obtain ⟨r4, a4, s4, e4, h4, _⟩ := next_ok h3 6
      rw [e4, Option.bind_some]
      simp only
      by_cases c2 : r4 = 0
      · rw [if_pos c2]
        obtain ⟨p, a5, s5, e5, h5, _⟩ := pick_ok h4 ([(-1), 0, 1, 9999999, 10000000, 98] : List Int) (by simp) (by simp)
        rw [e5, Option.bind_some]
        exact ⟨_, _, _, rfl, h5⟩
      · rw [if_neg c2]
        exact ⟨_, _, _, rfl, h4⟩
    · rw [if_neg c1]
      exact ⟨_, _, _, rfl, h3⟩
theorem reads_loop (c : List Int) (x4 : Int) (d : Nat) : ∀ (k : Nat) (x5 : List Int) (a s : Int), d + 130 < k → x5.length + d ≤ 20 → St c a s → ∃ l e a' s', spec_l15DrawReads.l0 k x4 x5 (d : Int) c a s = some (l, e, a', s') ∧ l.length ≤ 210 ∧ St c a' s' := by
  induction d with
  | zero =>
    intro k x5 a s hk hl hs
    obtain ⟨k, rfl⟩ : ∃ m, k = m + 1 := ⟨k - 1, by omega⟩
    obtain ⟨r, a1, s1, e1, hs1, _⟩ := next_ok hs 40
    simp only [spec_l15DrawReads.l0]
    rw [if_neg (by omega), e1, Option.bind_some]
    simp only
    by_cases c0 : r = 0
    · rw [if_pos c0]
      obtain ⟨p, a2, s2, e2, hs2, _⟩ := pick_ok hs1 ([(-1), 0, 9999999, 10000000] : List Int) (by simp) (by simp)
      rw [e2, Option.bind_some, if_pos (by omega)]
      exact ⟨_, _, _, _, rfl, by simp; omega, hs2⟩
    · rw [if_neg c0]
      by_cases c1 : r = 1
      · rw [if_pos c1]
        obtain ⟨q, a2, s2, e2, hs2, l2, u2, _⟩ := next_ok hs1 2
        have u2 := u2 (by omega)
        rw [e2, Option.bind_some]
        simp only
        rw [sw (by omega) (by omega), if_pos (by omega), if_pos (by omega)]
        exact ⟨_, _, _, _, rfl, by simp; omega, hs2⟩
      · rw [if_neg c1]
        exact ⟨_, _, _, _, rfl, by omega, hs1⟩
  | succ d ih =>
    intro k x5 a s hk hl hs
    obtain ⟨k, rfl⟩ : ∃ m, k = m + 1 := ⟨k - 1, by omega⟩
    obtain ⟨r, a1, s1, e1, hs1, _⟩ := next_ok hs 4
    have hd : wrap64 (((d + 1 : Nat) : Int) - 1) = (d : Int) := by unfold wrap64; omega
    simp only [spec_l15DrawReads.l0]
    rw [if_pos (by omega), e1, Option.bind_some]
    simp only
    rw [hd]
    by_cases c0 : r = 0
    · rw [if_pos c0]
      obtain ⟨p, a2, s2, e2, hs2⟩ := code_draw hs1 k (by omega)
      rw [e2, Option.bind_some, if_pos (by omega)]
      exact ih k _ a2 s2 (by omega) (by simp; omega) hs2
    · rw [if_neg c0]
      by_cases c1 : r = 1
      · rw [if_pos c1]
        obtain ⟨p, a2, s2, e2, hs2, _⟩ := next_ok hs1 3
        obtain ⟨m, em⟩ := make_ok 7 p k (by omega)
        rw [e2, Option.bind_some, em, Option.bind_some, if_pos (by omega)]
        exact ih k _ a2 s2 (by omega) (by simp; omega) hs2
      · rw [if_neg c1, if_pos (by omega)]
        exact ih k _ a1 s1 (by omega) (by simp; omega) hs1
theorem reads_draw {c : List Int} {a s : Int} (h : St c a s) (k : Nat) (hk : 200 ≤ k) : ∃ l e a' s', spec_l15DrawReads.f k c a s = some (l, e, a', s') ∧ l.length ≤ 210 ∧ St c a' s' := by
  obtain ⟨r1, a1, s1, e1, h1, _⟩ := next_ok h 1000
  obtain ⟨r2, a2, s2, e2, h2, _⟩ := next_ok h1 100
  obtain ⟨m, em⟩ := make_ok r1 r2 k (by omega)
  obtain ⟨r3, a3, s3, e3, h3, l3, u3, _⟩ := next_ok h2 16
  have u3 := u3 (by omega)
  obtain ⟨d, rfl⟩ : ∃ d : Nat, r3 = (d : Int) := ⟨r3.toNat, by omega⟩
  unfold spec_l15DrawReads.f
  rw [e1, Option.bind_some, e2, Option.bind_some, em, Option.bind_some, e3, Option.bind_some]
  exact reads_loop c m d k [] a3 s3 (by omega) (by simp; omega) h3
-- what both say of reads
def okReads (l : List Int) : Bool := l.all (fun x => decide (0 ≤ x) && decide (x ≤ 9999999)) && decide ((l.length : Int) ≤ 200)
theorem within_loop (l : List Int) (hl : l.length ≤ 1000) (d : Nat) : ∀ (k i : Nat), i + d = l.length → d < k → spec_l01Within.l0 k l 200 0 9999999 (i : Int) = some ((l.drop i).all (fun x => decide (0 ≤ x) && decide (x ≤ 9999999)) && decide ((l.length : Int) ≤ 200)) ∨ ((l.drop i).all (fun x => decide (0 ≤ x) && decide (x ≤ 9999999)) = false ∧ spec_l01Within.l0 k l 200 0 9999999 (i : Int) = some false) := by
  induction d with
  | zero =>
    intro k i hi hk
    obtain ⟨k, rfl⟩ : ∃ m, k = m + 1 := ⟨k - 1, by omega⟩
    simp only [spec_l01Within.l0]
    rw [if_neg (by omega), List.drop_eq_nil_of_le (by omega)]
    left
    simp
  | succ d ih =>
    intro k i hi hk
    obtain ⟨k, rfl⟩ : ∃ m, k = m + 1 := ⟨k - 1, by omega⟩
    have hil : i < l.length := by omega
    simp only [spec_l01Within.l0]
    rw [if_pos (by omega), if_pos (by omega), rd_at l i hil, List.drop_eq_getElem_cons hil]
    unfold spec_l01In.f
    by_cases c : l[i] ≥ 0
    · rw [if_pos c, Option.bind_some]
      by_cases c2 : l[i] ≤ 9999999
      · have hc : (0 : Int) ≤ l[i] := c
        rw [decide_eq_true c2, if_pos rfl, sw (by omega) (by omega)]
        have := ih k (i + 1) (by omega) (by omega)
        simp only [List.all_cons, hc, c2, decide_true, Bool.true_and]
        exact this
      · rw [decide_eq_false c2, if_neg (by simp)]
        right
        exact ⟨by rw [List.all_cons, decide_eq_false c2, Bool.and_false, Bool.false_and], rfl⟩
    · rw [if_neg c, Option.bind_some, if_neg (by simp)]
      right
      have c3 : ¬ (0 : Int) ≤ l[i] := c
      exact ⟨by rw [List.all_cons, decide_eq_false c3, Bool.false_and, Bool.false_and], rfl⟩
theorem sreads_ok (l : List Int) (hl : l.length ≤ 1000) (k : Nat) (hk : 1100 ≤ k) : spec_l15Reads.f k l = some (okReads l) := by
  unfold spec_l15Reads.f spec_l01Within.f okReads
  have := within_loop l hl l.length k 0 (by omega) (by omega)
  simp only [List.drop_zero] at this
  rcases this with h | ⟨h1, h2⟩
  · rw [show ((0 : Nat) : Int) = 0 from rfl] at h
    rw [h, Option.bind_some]
  · rw [show ((0 : Nat) : Int) = 0 from rfl] at h2
    rw [h2, Option.bind_some, h1, Bool.false_and]
theorem ireads_ok (l : List Int) : impl_areReads.f l = some (okReads l) := by
  unfold impl_areReads.f impl_allIn.f okReads
  by_cases c : (l.length : Int) ≤ 200
  · rw [if_pos c, Option.bind_some, decide_eq_true c, Bool.and_true]
  · rw [if_neg c, decide_eq_false c, Bool.and_false]
-- a line stops
theorem stop_loop (l : List Int) (hl : l.length ≤ 1000) (e kk : Int) (hk1 : 1 ≤ kk) (d : Nat) : ∀ (k i : Nat) (row : Int), i + d = l.length → d < k → 0 ≤ row → row ≤ i → (∀ j : Nat, (i : Int) - row ≤ j → j < i → rd l (j : Int) ≠ e) →
    ∃ r : Int × Int, impl_StopAfter.l0 k e kk row l (l.length : Int) (i : Int) = some r ∧ spec_StopAfter.l0 k l e kk row (i : Int) = some r ∧ (r.2 = 0 → 0 ≤ r.1 - kk + 1 ∧ r.1 < l.length ∧ 0 ≤ r.1 ∧ ∀ j : Nat, r.1 - kk + 1 ≤ j → (j : Int) ≤ r.1 → rd l (j : Int) ≠ e) := by
  induction d with
  | zero =>
    intro k i row hi hk h0 hr hrow
    obtain ⟨k, rfl⟩ : ∃ m, k = m + 1 := ⟨k - 1, by omega⟩
    simp only [impl_StopAfter.l0, spec_StopAfter.l0]
    rw [if_neg (by omega), if_neg (by omega)]
    exact ⟨_, rfl, rfl, fun h => by simp at h⟩
  | succ d ih =>
    intro k i row hi hk h0 hr hrow
    obtain ⟨k, rfl⟩ : ∃ m, k = m + 1 := ⟨k - 1, by omega⟩
    simp only [impl_StopAfter.l0, spec_StopAfter.l0]
    have a1 : (i : Int) < (l.length : Int) := by omega
    have a2 : (0 : Int) ≤ (i : Int) := by omega
    have a3 : ¬ (0 : Int) = kk := by omega
    simp only [if_pos a1, if_pos a2, if_neg a3]
    rw [sw (x := (i : Int) + 1) (by omega) (by omega), sw (x := row + 1) (by omega) (by omega)]
    by_cases c : rd l (i : Int) = e
    · simp only [if_pos c]
      exact ih k (i + 1) 0 (by omega) (by omega) (by omega) (by omega) (fun j h1 h2 => by omega)
    · simp only [if_neg c]
      by_cases c2 : row + 1 = kk
      · simp only [if_pos c2]
        refine ⟨_, rfl, rfl, fun _ => ⟨by show 0 ≤ (i : Int) - kk + 1; omega, by show (i : Int) < l.length; omega, by show 0 ≤ (i : Int); omega, fun j h1 h2 => ?_⟩⟩
        have h1 : (i : Int) - kk + 1 ≤ j := h1
        have h2 : (j : Int) ≤ i := h2
        by_cases hj : j = i
        · rw [hj]; exact c
        · exact hrow j (by omega) (by omega)
      · simp only [if_neg c2]
        refine ih k (i + 1) (row + 1) (by omega) (by omega) (by omega) (by omega) (fun j h1 h2 => ?_)
        by_cases hj : j = i
        · rw [hj]; exact c
        · exact hrow j (by omega) (by omega)
theorem stop_both (l : List Int) (hl : l.length ≤ 1000) (e kk : Int) (k : Nat) (hk : 2000 ≤ k) :
    ∃ r : Int × Int, impl_StopAfter.f k l e kk = some r ∧ spec_StopAfter.f k l e kk = some r ∧ (r.2 = 0 → 0 ≤ r.1 - kk + 1 ∧ r.1 < l.length ∧ 0 ≤ r.1 ∧ 1 ≤ kk ∧ kk ≤ 200 ∧ ∀ j : Nat, r.1 - kk + 1 ≤ j → (j : Int) ≤ r.1 → rd l (j : Int) ≠ e) := by
  obtain ⟨k, rfl⟩ : ∃ m, k = m + 1 := ⟨k - 1, by omega⟩
  unfold impl_StopAfter.f spec_StopAfter.f
  rw [ireads_ok, sreads_ok l hl _ (by omega), Option.bind_some, Option.bind_some]
  cases h1 : okReads l with
  | false =>
    refine ⟨(0, 2), ?_, ?_, fun h => by simp at h⟩
    · rw [if_neg (by simp)]; simp only [impl_StopAfter.j0]; rfl
    · rw [if_neg (by simp)]; simp only [spec_StopAfter.j0]; rfl
  | true =>
    rw [if_pos rfl, if_pos rfl]
    by_cases c1 : 1 ≤ kk ∧ kk ≤ 200
    · have e1 : impl_inRange.f kk 1 200 = some true := by unfold impl_inRange.f; rw [if_pos c1.1, decide_eq_true c1.2]
      have e2 : spec_l01In.f kk 1 200 = some true := by unfold spec_l01In.f; rw [if_pos (show kk ≥ 1 from c1.1), decide_eq_true c1.2]
      rw [e1, e2, Option.bind_some, Option.bind_some]
      simp only [impl_StopAfter.j0, spec_StopAfter.j0]
      rw [codeI_eq, codeS_eq, Option.bind_some, Option.bind_some, code_same]
      cases h2 : codeS e with
      | false => exact ⟨(0, 1), rfl, rfl, fun h => by simp at h⟩
      | true =>
        obtain ⟨r, e1, e2, hr⟩ := stop_loop l hl e kk c1.1 l.length k 0 0 (by omega) (by omega) (by omega) (by omega) (fun j h1 h2 => by omega)
        refine ⟨r, e1, e2, fun h => ?_⟩
        obtain ⟨p1, p2, p3, p4⟩ := hr h
        exact ⟨p1, p2, p3, c1.1, c1.2, p4⟩
    · have e1 : impl_inRange.f kk 1 200 = some false := by
        unfold impl_inRange.f
        by_cases c : 1 ≤ kk
        · rw [if_pos c, decide_eq_false (fun h => c1 ⟨c, h⟩)]
        · rw [if_neg c]
      have e2 : spec_l01In.f kk 1 200 = some false := by
        unfold spec_l01In.f
        by_cases c : kk ≥ 1
        · rw [if_pos c, decide_eq_false (fun h => c1 ⟨c, h⟩)]
        · rw [if_neg c]
      rw [e1, e2, Option.bind_some, Option.bind_some]
      simp only [impl_StopAfter.j0, spec_StopAfter.j0]
      exact ⟨(0, 2), rfl, rfl, fun h => by simp at h⟩
-- the best code
theorem codeB_is (m : Int) : codeB m = codeS m := code_same m
theorem best_l1 (l : List Int) (hl : l.length ≤ 1000) (b m : Int) (i : Nat) (hi : i < l.length) (d : Nat) : ∀ (k j : Nat), j + d = l.length → spec_BestCode.l1 (k + d + 1) l b m (i : Int) (many (l.take j) l[i]) (j : Int) = spec_BestCode.l0 k l (bestStep l (b, m) l[i]).1 (bestStep l (b, m) l[i]).2 ((i + 1 : Nat) : Int) := by
  induction d with
  | zero =>
    intro k j hj
    have hjl : j = l.length := by omega
    subst hjl
    simp only [spec_BestCode.l1, Nat.add_zero]
    rw [if_neg (by omega), if_pos (by omega), if_pos (by omega), rd_at l i hi, codeS_eq, Option.bind_some, List.take_length, sw (by omega) (by omega)]
    unfold bestStep
    rw [codeB_is]
    cases hc : codeS l[i] with
    | false => rw [if_neg (by simp), if_neg (by simp)]; rfl
    | true =>
      rw [if_pos rfl]
      by_cases c1 : many l l[i] > m
      · rw [if_pos c1, if_pos ⟨rfl, .inl c1⟩]; rfl
      · rw [if_neg c1]
        by_cases c2 : many l l[i] = m
        · rw [if_pos c2]
          by_cases c3 : l[i] < b
          · rw [if_pos c3, if_pos ⟨rfl, .inr ⟨c2, c3⟩⟩]; rfl
          · rw [if_neg c3, if_neg (fun h => h.2.elim c1 (fun h => c3 h.2))]; rfl
        · rw [if_neg c2, if_neg (fun h => h.2.elim c1 (fun h => c2 h.1))]; rfl
  | succ d ih =>
    intro k j hj
    have hjl : j < l.length := by omega
    obtain ⟨K, hK⟩ : ∃ K, K = k + d + 1 := ⟨_, rfl⟩
    rw [show k + (d + 1) + 1 = K + 1 by omega]
    simp only [spec_BestCode.l1]
    rw [if_pos (by omega), if_pos (by omega), if_pos (by omega), if_pos (by omega), rd_at l j hjl, rd_at l i hi, sw (x := (j : Int) + 1) (by omega) (by omega)]
    have ht : l.take (j + 1) = l.take j ++ [l[j]] := by rw [List.take_add_one, List.getElem?_eq_getElem hjl]; rfl
    have hb : many (l.take j) l[i] ≤ l.length := by
      unfold many
      have h1 : (l.take j).count l[i] ≤ (l.take j).length := List.count_le_length
      rw [List.length_take] at h1
      omega
    have hb0 : 0 ≤ many (l.take j) l[i] := by unfold many; omega
    have hm : many (l.take (j + 1)) l[i] = many (l.take j) l[i] + (if l[j] = l[i] then 1 else 0) := by
      unfold many
      rw [ht, List.count_append, List.count_singleton]
      by_cases c : l[j] = l[i]
      · simp [c]
      · rw [if_neg c, show (l[j] == l[i]) = false from beq_eq_false_iff_ne.mpr c]
        simp
    have ih := ih k (j + 1) (by omega)
    rw [hm, ← hK] at ih
    by_cases c : l[j] = l[i]
    · rw [if_pos c] at ih ⊢
      rw [sw (x := many (l.take j) l[i] + 1) (by omega) (by omega)]
      exact ih
    · rw [if_neg c] at ih ⊢
      simpa using ih
def bestRes (s : Int × Int) : Int × Int × Int := if s.2 = 0 then (0, 0, 4) else (s.1, s.2, 0)
theorem best_l0 (l : List Int) (hl : l.length ≤ 1000) (d : Nat) : ∀ (k i : Nat) (s : Int × Int), i + d = l.length → d * (l.length + 3) + 1 ≤ k → spec_BestCode.l0 k l s.1 s.2 (i : Int) = some (bestRes ((l.drop i).foldl (bestStep l) s)) := by
  induction d with
  | zero =>
    intro k i s hi hk
    obtain ⟨k, rfl⟩ : ∃ m, k = m + 1 := ⟨k - 1, by omega⟩
    simp only [spec_BestCode.l0]
    rw [if_neg (by omega), List.drop_eq_nil_of_le (by omega), List.foldl_nil]
    unfold bestRes
    split <;> rfl
  | succ d ih =>
    intro k i s hi hk
    have hil : i < l.length := by omega
    rw [Nat.add_mul] at hk
    obtain ⟨k, rfl⟩ : ∃ m, k = m + l.length + 1 + 1 := ⟨k - l.length - 2, by omega⟩
    simp only [spec_BestCode.l0]
    rw [if_pos (by omega)]
    have h0 : (0 : Int) = many (l.take 0) l[i] := by unfold many; simp
    have h1 := best_l1 l hl s.1 s.2 i hil l.length k 0 (by omega)
    rw [← h0] at h1
    rw [show ((0 : Nat) : Int) = 0 from rfl] at h1
    rw [h1, ih k (i + 1) (bestStep l s l[i]) (by omega) (by omega), List.drop_eq_getElem_cons hil, List.foldl_cons]
theorem best_both (l : List Int) (hl : l.length ≤ 210) (k : Nat) (hk : 100000 ≤ k) :
    ∃ r : Int × Int × Int, impl_BestCode.f l = some r ∧ spec_BestCode.f k l = some r ∧ (r.2.2 = 0 → codeS r.1 = true ∧ r.2.1 = many l r.1) := by
  unfold impl_BestCode.f spec_BestCode.f
  rw [ireads_ok, sreads_ok l (by omega) k (by omega), Option.bind_some, Option.bind_some]
  cases h1 : okReads l with
  | false =>
    rw [if_neg (by simp), if_neg (by simp)]
    exact ⟨_, rfl, rfl, fun h => by simp at h⟩
  | true =>
    rw [if_pos rfl, if_pos rfl]
    have hb := best_l0 l (by omega) l.length k 0 (0, 0) (by omega) (by
      have : l.length * (l.length + 3) ≤ 210 * 213 := Nat.mul_le_mul (by omega) (by omega)
      omega)
    simp only [List.drop_zero] at hb
    rw [show ((0 : Nat) : Int) = 0 from rfl] at hb
    rw [hb]
    have hbest := bestF_best l
    unfold bestF at hbest ⊢
    refine ⟨bestRes (l.foldl (bestStep l) (0, 0)), ?_, rfl, fun h => ?_⟩
    · unfold bestRes
      split <;> rfl
    · unfold bestRes at h ⊢
      split at h
      · simp at h
      · rename_i hne
        rw [if_neg hne]
        rcases hbest.2 with ⟨h2, _⟩ | ⟨h2, _, h3⟩
        · exact absurd h2 hne
        · exact ⟨by rw [← codeB_is]; exact h2, h3⟩
-- the law's own loops
theorem like_loop (a : List Int) (hl : a.length ≤ 1000) (d : Nat) : ∀ (k i : Nat), i + d = a.length → d < k → laws_likeInts.l0 k a a (i : Int) = some true := by
  induction d with
  | zero =>
    intro k i hi hk
    obtain ⟨k, rfl⟩ : ∃ m, k = m + 1 := ⟨k - 1, by omega⟩
    simp only [laws_likeInts.l0]
    rw [if_neg (by omega)]
  | succ d ih =>
    intro k i hi hk
    obtain ⟨k, rfl⟩ : ∃ m, k = m + 1 := ⟨k - 1, by omega⟩
    simp only [laws_likeInts.l0]
    rw [if_pos (by omega), if_pos (by omega), if_pos (by omega), if_pos trivial, sw (by omega) (by omega)]
    exact ih k (i + 1) (by omega) (by omega)
theorem like_self (a : List Int) (hl : a.length ≤ 1000) (k : Nat) (hk : 1100 ≤ k) : laws_likeInts.f k a a = some true := by
  unfold laws_likeInts.f
  rw [if_pos rfl]
  exact like_loop a hl a.length k 0 (by omega) (by omega)
theorem dig_ne (n m : Int) (j d r : Nat) (hj : j < 7) (hd : d < 10) (hr : r < 7) (h0 : 0 ≤ n) (h1 : n ≤ 9999999) (g0 : 0 ≤ m) (g1 : m ≤ 9999999) (hm : m = swapAt n j d) (hne : m ≠ n) : (m / ((10 ^ r : Nat) : Int) % 10 = n / ((10 ^ r : Nat) : Int) % 10) ↔ r ≠ j := by
  unfold swapAt at hm
  have cj : j = 0 ∨ j = 1 ∨ j = 2 ∨ j = 3 ∨ j = 4 ∨ j = 5 ∨ j = 6 := by omega
  have cr : r = 0 ∨ r = 1 ∨ r = 2 ∨ r = 3 ∨ r = 4 ∨ r = 5 ∨ r = 6 := by omega
  rcases cj with rfl | rfl | rfl | rfl | rfl | rfl | rfl <;> rcases cr with rfl | rfl | rfl | rfl | rfl | rfl | rfl <;> simp only [Nat.reducePow, Int.cast_ofNat_Int] at hm ⊢ <;> omega
theorem ediv_pow (x : Int) (r : Nat) : x / ((10 ^ r : Nat) : Int) / 10 = x / ((10 ^ (r + 1) : Nat) : Int) := by
  rw [Int.ediv_ediv_of_nonneg (Int.natCast_nonneg _), Nat.pow_succ]
  simp
theorem near_l1 (x3 : List Int) (x4 x5 x6 x7 : Int) (x10 : List Int) (x11 x12 x13 x17 : Int) (x18 : List Int) (q : Nat) (hq : q < x18.length) (hql : x18.length ≤ 1000) (n m : Int) (j dd : Nat) (hj : j < 7) (hd : dd < 10) (h0 : 0 ≤ n) (h1 : n ≤ 9999999) (g0 : 0 ≤ m) (g1 : m ≤ 9999999) (hm : m = swapAt n j dd) (hne : m ≠ n) (hx : rd x18 (q : Int) = m) (hc : codeS m = true) (t : Nat) :
    ∀ (k r : Nat), r + t = 7 → laws_FnReads.l1 (k + t + 1) x3 x4 x5 x6 x7 x10 x11 x12 x13 x17 x18 (q : Int) (if j < r then 1 else 0) (m / ((10 ^ r : Nat) : Int)) (n / ((10 ^ r : Nat) : Int)) (r : Int) = laws_FnReads.l0 k x3 x4 x5 x6 x7 x10 x11 x12 x13 x17 x18 ((q + 1 : Nat) : Int) := by
  induction t with
  | zero =>
    intro k r hr
    simp only [laws_FnReads.l1, Nat.add_zero]
    rw [if_neg (by omega), if_pos (by omega), if_pos (by omega), if_pos (by omega), hx, codeI_eq, code_same, hc, Option.bind_some, if_pos rfl, sw (by omega) (by omega)]
    rfl
  | succ t ih =>
    intro k r hr
    obtain ⟨K, hK⟩ : ∃ K, K = k + t + 1 := ⟨_, rfl⟩
    rw [show k + (t + 1) + 1 = K + 1 by omega]
    have em : 0 ≤ m / ((10 ^ r : Nat) : Int) := Int.ediv_nonneg g0 (Int.natCast_nonneg _)
    have en : 0 ≤ n / ((10 ^ r : Nat) : Int) := Int.ediv_nonneg h0 (Int.natCast_nonneg _)
    have em2 : m / ((10 ^ r : Nat) : Int) ≤ m := Int.ediv_le_self _ g0
    have en2 : n / ((10 ^ r : Nat) : Int) ≤ n := Int.ediv_le_self _ h0
    simp only [laws_FnReads.l1]
    rw [if_pos (by omega), Int.tmod_eq_emod_of_nonneg em, Int.tmod_eq_emod_of_nonneg en, Int.tdiv_eq_ediv_of_nonneg em, Int.tdiv_eq_ediv_of_nonneg en, ediv_pow, ediv_pow]
    have em3 : 0 ≤ m / ((10 ^ (r + 1) : Nat) : Int) := Int.ediv_nonneg g0 (Int.natCast_nonneg _)
    have en3 : 0 ≤ n / ((10 ^ (r + 1) : Nat) : Int) := Int.ediv_nonneg h0 (Int.natCast_nonneg _)
    have em4 : m / ((10 ^ (r + 1) : Nat) : Int) ≤ m := Int.ediv_le_self _ g0
    have en4 : n / ((10 ^ (r + 1) : Nat) : Int) ≤ n := Int.ediv_le_self _ h0
    rw [sw (x := m / ((10 ^ (r + 1) : Nat) : Int)) (by omega) (by omega), sw (x := n / ((10 ^ (r + 1) : Nat) : Int)) (by omega) (by omega), sw (x := (r : Int) + 1) (by omega) (by omega)]
    have hdig := dig_ne n m j dd r hj hd (by omega) h0 h1 g0 g1 hm hne
    have ih := ih k (r + 1) (by omega)
    rw [← hK] at ih
    by_cases c : r = j
    · rw [if_neg (fun h => hdig.1 h c)]
      rw [if_pos (by omega)] at ih
      rw [if_neg (by omega), show wrap64 (0 + 1) = 1 from sw (by omega) (by omega)]
      exact ih
    · rw [if_pos (hdig.2 c)]
      rw [← ih]
      congr 1
      by_cases c2 : j < r
      · rw [if_pos c2, if_pos (by omega)]
      · rw [if_neg c2, if_neg (by omega)]
theorem last_l3 (x3 : List Int) (hl : x3.length ≤ 1000) (x4 x6 : Int) (h6 : x6 < x3.length) (d : Nat) : ∀ (k : Nat) (j : Int), 0 ≤ j → j + (d : Int) = x6 + 1 → d < k → (∀ t : Nat, j ≤ t → (t : Int) ≤ x6 → rd x3 (t : Int) ≠ x4) → laws_FnReads.l3 k x3 x4 x6 j = some true := by
  induction d with
  | zero =>
    intro k j h0 hj hk h
    obtain ⟨k, rfl⟩ : ∃ m, k = m + 1 := ⟨k - 1, by omega⟩
    simp only [laws_FnReads.l3]
    rw [if_neg (by omega)]
  | succ d ih =>
    intro k j h0 hj hk h
    obtain ⟨k, rfl⟩ : ∃ m, k = m + 1 := ⟨k - 1, by omega⟩
    simp only [laws_FnReads.l3]
    have hne := h j.toNat (by omega) (by omega)
    rw [show ((j.toNat : Nat) : Int) = j by omega] at hne
    rw [if_pos (by omega), if_pos h0, if_pos (by omega), if_neg hne, sw (by omega) (by omega)]
    exact ih k (j + 1) (by omega) (by omega) (by omega) (fun t h1 h2 => h t (by omega) h2)
theorem last_j4 (x3 : List Int) (hl : x3.length ≤ 1000) (x4 x5 : Int) (r : Int × Int) (hr : r.2 = 0 → 0 ≤ r.1 - x5 + 1 ∧ r.1 < x3.length ∧ 0 ≤ r.1 ∧ 1 ≤ x5 ∧ x5 ≤ 200 ∧ ∀ j : Nat, r.1 - x5 + 1 ≤ j → (j : Int) ≤ r.1 → rd x3 (j : Int) ≠ x4) (k : Nat) (hk : 2000 ≤ k) : laws_FnReads.j4 k x3 x4 x5 r.1 r.2 = some true := by
  obtain ⟨k, rfl⟩ : ∃ m, k = m + 1 := ⟨k - 1, by omega⟩
  simp only [laws_FnReads.j4]
  by_cases c : r.2 = 0
  · obtain ⟨p1, p2, p3, p4, p5, p6⟩ := hr c
    rw [if_pos c, sw (x := r.1 - x5) (by omega) (by omega), sw (x := r.1 - x5 + 1) (by omega) (by omega)]
    exact last_l3 x3 hl x4 r.1 p2 (x5.toNat) k (r.1 - x5 + 1) p1 (by omega) (by omega) p6
  · rw [if_neg c]
theorem count_l2 (x3 : List Int) (hl : x3.length ≤ 1000) (x4 x5 : Int) (r : Int × Int) (hr : r.2 = 0 → 0 ≤ r.1 - x5 + 1 ∧ r.1 < x3.length ∧ 0 ≤ r.1 ∧ 1 ≤ x5 ∧ x5 ≤ 200 ∧ ∀ j : Nat, r.1 - x5 + 1 ≤ j → (j : Int) ≤ r.1 → rd x3 (j : Int) ≠ x4) (x10 : List Int) (hl2 : x10.length ≤ 1000) (x11 : Int) (hc : codeS x11 = true) (d : Nat) :
    ∀ (k j : Nat), j + d = x10.length → d + 2010 ≤ k → laws_FnReads.l2 k x3 x4 x5 r.1 r.2 x10 x11 (many x10 x11) (many (x10.take j) x11) (j : Int) = some true := by
  induction d with
  | zero =>
    intro k j hj hk
    obtain ⟨k, rfl⟩ : ∃ m, k = m + 1 := ⟨k - 1, by omega⟩
    have hjl : j = x10.length := by omega
    subst hjl
    simp only [laws_FnReads.l2]
    rw [if_neg (by omega), List.take_length, if_pos rfl, codeI_eq, code_same, hc, Option.bind_some, if_pos rfl]
    exact last_j4 x3 hl x4 x5 r hr k (by omega)
  | succ d ih =>
    intro k j hj hk
    obtain ⟨k, rfl⟩ : ∃ m, k = m + 1 := ⟨k - 1, by omega⟩
    have hjl : j < x10.length := by omega
    simp only [laws_FnReads.l2]
    rw [if_pos (by omega), if_pos (by omega), rd_at x10 j hjl, sw (x := (j : Int) + 1) (by omega) (by omega)]
    have ht : x10.take (j + 1) = x10.take j ++ [x10[j]] := by rw [List.take_add_one, List.getElem?_eq_getElem hjl]; rfl
    have hb : many (x10.take j) x11 ≤ x10.length := by
      unfold many
      have h1 : (x10.take j).count x11 ≤ (x10.take j).length := List.count_le_length
      rw [List.length_take] at h1
      omega
    have hb0 : 0 ≤ many (x10.take j) x11 := by unfold many; omega
    have hm : many (x10.take (j + 1)) x11 = many (x10.take j) x11 + (if x10[j] = x11 then 1 else 0) := by
      unfold many
      rw [ht, List.count_append, List.count_singleton]
      by_cases c : x10[j] = x11
      · simp [c]
      · rw [if_neg c, show (x10[j] == x11) = false from beq_eq_false_iff_ne.mpr c]
        simp
    have ih := ih k (j + 1) (by omega) (by omega)
    rw [hm] at ih
    by_cases c : x10[j] = x11
    · rw [if_pos c] at ih ⊢
      rw [sw (x := many (x10.take j) x11 + 1) (by omega) (by omega)]
      exact ih
    · rw [if_neg c] at ih ⊢
      simpa using ih
theorem code_in (m : Int) (h : codeS m = true) : 0 ≤ m ∧ m ≤ 9999999 := by
  have e := codeS_eq m
  rw [h] at e
  unfold spec_IsCode.f spec_l01In.f at e
  by_cases c : m ≥ 0
  · rw [if_pos c, Option.bind_some] at e
    by_cases c2 : m ≤ 9999999
    · exact ⟨c, c2⟩
    · rw [decide_eq_false c2, if_neg (by simp)] at e
      simp at e
  · rw [if_neg c, Option.bind_some, if_neg (by simp)] at e
    simp at e
theorem all_l0 (x3 : List Int) (hl : x3.length ≤ 1000) (x4 x5 : Int) (r : Int × Int) (hr : r.2 = 0 → 0 ≤ r.1 - x5 + 1 ∧ r.1 < x3.length ∧ 0 ≤ r.1 ∧ 1 ≤ x5 ∧ x5 ≤ 200 ∧ ∀ j : Nat, r.1 - x5 + 1 ≤ j → (j : Int) ≤ r.1 → rd x3 (j : Int) ≠ x4) (x10 : List Int) (hl2 : x10.length ≤ 1000) (b : Int × Int × Int) (hb : b.2.2 = 0 → codeS b.1 = true ∧ b.2.1 = many x10 b.1) (n : Int) (x18 : List Int) (hql : x18.length ≤ 1000) (hn : ∀ m ∈ x18, 0 ≤ n ∧ n ≤ 9999999 ∧ codeS m = true ∧ ∃ j d : Nat, j < 7 ∧ d < 10 ∧ m = swapAt n j d ∧ m ≠ n) (d : Nat) :
    ∀ (k q : Nat), q + d = x18.length → 9 * d + 4000 ≤ k → laws_FnReads.l0 k x3 x4 x5 r.1 r.2 x10 b.1 b.2.1 b.2.2 n x18 (q : Int) = some true := by
  induction d with
  | zero =>
    intro k q hq hk
    obtain ⟨k, rfl⟩ : ∃ m, k = m + 1 := ⟨k - 1, by omega⟩
    simp only [laws_FnReads.l0]
    rw [if_neg (by omega)]
    by_cases c : b.2.2 = 0
    · obtain ⟨h1, h2⟩ := hb c
      rw [if_pos c, h2]
      have := count_l2 x3 hl x4 x5 r hr x10 hl2 b.1 h1 x10.length k 0 (by omega) (by omega)
      rw [show many (x10.take 0) b.1 = 0 by unfold many; simp] at this
      exact this
    · rw [if_neg c]
      exact last_j4 x3 hl x4 x5 r hr k (by omega)
  | succ d ih =>
    intro k q hq hk
    obtain ⟨k, rfl⟩ : ∃ m, k = m + 7 + 1 + 1 := ⟨k - 9, by omega⟩
    have hql2 : q < x18.length := by omega
    obtain ⟨n0, n1, hc, j, dd, hj, hd, hm, hne⟩ := hn _ (List.getElem_mem hql2)
    obtain ⟨g0, g1⟩ := code_in _ hc
    simp only [laws_FnReads.l0]
    rw [if_pos (by omega), if_pos (by omega), rd_at x18 q hql2]
    have h1 := near_l1 x3 x4 x5 r.1 r.2 x10 b.1 b.2.1 b.2.2 n x18 q hql2 hql n x18[q] j dd hj hd n0 n1 g0 g1 hm hne (rd_at x18 q hql2) hc 7 k 0 (by omega)
    simp only [Nat.not_lt_zero, if_false, Nat.pow_zero, Int.cast_ofNat_Int, Int.ediv_one] at h1
    rw [show k + 8 = k + 7 + 1 by omega, h1]
    exact ih k (q + 1) (by omega) (by omega)

theorem FnReads : laws_FnReads.Pure := by
  intro l hmax hsz hwf
  obtain ⟨K, hK⟩ : ∃ K, K = 200000 := ⟨_, rfl⟩
  refine ⟨K + 1, ?_⟩
  unfold laws_FnReads.f laws_big.f
  rw [Option.bind_some]
  by_cases cb : (l.length : Int) > 4096
  · rw [decide_eq_true cb, if_pos rfl]
  rw [decide_eq_false cb, if_neg (by simp)]
  obtain ⟨s, hfrom, hst⟩ := from_ok l (bytes_of hwf) (by omega)
  obtain ⟨l1, e1, a1, s1, d1, h1l, hst1⟩ := reads_draw hst (K + 1) (by omega)
  have hstop : ∃ reads e kk, spec_DrawStopAfter.f (K + 1) l = some (reads, e, kk) ∧ reads.length ≤ 210 := by
    unfold spec_DrawStopAfter.f
    rw [hfrom (K + 1) (by omega), Option.bind_some, d1, Option.bind_some]
    obtain ⟨r2, a2, s2, d2, hst2, _⟩ := next_ok hst1 16
    simp only
    rw [d2, Option.bind_some]
    simp only
    by_cases c : r2 = 0
    · rw [if_pos c]
      obtain ⟨p, a3, s3, d3, hst3⟩ := code_draw hst2 (K + 1) (by omega)
      obtain ⟨p2, a4, s4, d4, hst4, _⟩ := pick_ok hst3 ([0, 1, 200, 201] : List Int) (by simp) (by simp)
      rw [d3, Option.bind_some, d4, Option.bind_some]
      exact ⟨_, _, _, rfl, h1l⟩
    · rw [if_neg c]
      obtain ⟨p, a3, s3, d3, hst3, _⟩ := next_ok hst2 4
      rw [d3, Option.bind_some]
      exact ⟨_, _, _, rfl, h1l⟩
  obtain ⟨reads, e, kk, hds, hrl⟩ := hstop
  have hdb : spec_DrawBestCode.f (K + 1) l = some l1 := by
    unfold spec_DrawBestCode.f
    rw [hfrom (K + 1) (by omega), Option.bind_some, d1, Option.bind_some]
  obtain ⟨n, a2, s2, d2, hst2⟩ := code_draw hst (K + 1) (by omega)
  have hdn : spec_DrawNearCodes.f (K + 1) l = some n := by
    unfold spec_DrawNearCodes.f
    rw [hfrom (K + 1) (by omega), Option.bind_some, d2, Option.bind_some]
  obtain ⟨r, i1, i2, hr⟩ := stop_both reads (by omega) e kk (K + 1) (by omega)
  obtain ⟨b, b1, b2, hb⟩ := best_both l1 h1l (K + 1) (by omega)
  obtain ⟨p, n1, n2, hpl, hn⟩ := near_both n
  rw [hds, Option.bind_some]
  simp only
  rw [i1, Option.bind_some, i2, Option.bind_some, hdb, Option.bind_some, b1, Option.bind_some, b2, Option.bind_some, hdn, Option.bind_some, n2, Option.bind_some, n1, Option.bind_some]
  rw [if_pos rfl, if_pos rfl, if_pos rfl, if_pos rfl, if_pos rfl, if_pos rfl, like_self p.1 (by omega) (K + 1) (by omega), Option.bind_some]
  simp only [laws_FnReads.j0]
  rw [if_neg (by simp)]
  have hn' : ∀ m ∈ p.1, 0 ≤ n ∧ n ≤ 9999999 ∧ codeS m = true ∧ ∃ j d : Nat, j < 7 ∧ d < 10 ∧ m = swapAt n j d ∧ m ≠ n := by
    intro m hm
    by_cases c : p.2 = 0
    · exact hn c m hm
    · have : p.1 = [] := by
        unfold spec_NearCodes.f at n1
        split at n1
        · have := Option.some.inj n1
          rw [← this] at c
          exact absurd rfl c
        · have := Option.some.inj n1
          rw [← this]
      rw [this] at hm
      simp at hm
  exact all_l0 reads (by omega) e kk r hr l1 (by omega) b hb n p.1 (by omega) hn' p.1.length K 0 (by omega) (by omega)
end Go.Proofs.Ytlicooehcladcaa.Pure
