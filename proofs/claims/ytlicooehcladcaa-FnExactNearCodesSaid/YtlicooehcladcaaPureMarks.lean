/- Lists compared, and a list that is marked holds its marks. No conditions but the length's bound. -/
import Derived.Test.YtlicooehcladcaaX10
import Derived.Test.YtlicooehcladcaaX10
import Derived.Test.YtlicooehcladcaaX10
namespace Go.Proofs.Ytlicooehcladcaa.Pure
open Go.RowKit Go.Proofs.Ytlicooehcladcaa.X Go.Proofs.YtlicooehcladcaaW.PrintWords Go.Proofs.YtlicooehcladcaaW.PrintLast
set_option linter.unusedVariables false
set_option linter.unusedSimpArgs false

theorem swc {x : Int} (h1 : -1000000000000 ≤ x) (h2 : x ≤ 1000000000000) : wrap64 x = x := by unfold wrap64; omega
theorem rd_atc (l : List Int) (i : Nat) (h : i < l.length) : rd l i = l[i] := by
  unfold rd
  simp [List.getD_eq_getElem?_getD, h]
theorem eqs_loop (a b : List Int) (hab : a.length = b.length) (hl : a.length ≤ 2000000) (d : Nat) : ∀ (k i : Nat), i + d = a.length → d < k → ∃ q, laws_eqInt64S.l0 k a b (i : Int) = some q ∧ (q = true ↔ ∀ j : Nat, i ≤ j → j < a.length → rd a j = rd b j) := by
  induction d with
  | zero =>
    intro k i hi hk
    obtain ⟨k, rfl⟩ : ∃ m, k = m + 1 := ⟨k - 1, by omega⟩
    simp only [laws_eqInt64S.l0]
    rw [if_neg (by omega)]
    exact ⟨true, rfl, by simp; intro j h1 h2; omega⟩
  | succ d ih =>
    intro k i hi hk
    obtain ⟨k, rfl⟩ : ∃ m, k = m + 1 := ⟨k - 1, by omega⟩
    simp only [laws_eqInt64S.l0]
    have w1 : wrap64 ((i : Int) + 1) = ((i + 1 : Nat) : Int) := by unfold wrap64; omega
    rw [if_pos (by omega), if_pos (by omega), if_pos (by omega), w1]
    by_cases c : rd a i = rd b i
    · rw [if_pos c]
      obtain ⟨q, e, hq⟩ := ih k (i + 1) (by omega) (by omega)
      refine ⟨q, e, hq.trans ⟨fun h j h1 h2 => ?_, fun h j h1 h2 => h j (by omega) h2⟩⟩
      by_cases hj : j = i
      · rw [hj]; exact c
      · exact h j (by omega) h2
    · rw [if_neg c]
      refine ⟨false, rfl, ?_⟩
      constructor
      · intro h; simp at h
      · intro h; exact absurd (h i (Nat.le_refl _) (by omega)) c
theorem eqs_ok (a b : List Int) (hl : a.length ≤ 2000000) (k : Nat) (hk : a.length < k) : laws_eqInt64S.f k a b = some (decide (a = b)) := by
  unfold laws_eqInt64S.f
  by_cases hab : a.length = b.length
  · rw [if_pos (by omega)]
    obtain ⟨q, e, hq⟩ := eqs_loop a b hab hl a.length k 0 (by omega) hk
    rw [show ((0 : Nat) : Int) = 0 from rfl] at e
    rw [e]
    congr 1
    rw [Bool.eq_iff_iff, hq]
    simp only [decide_eq_true_eq]
    refine ⟨fun h => List.ext_getElem hab (fun j h1 h2 => ?_), fun h => by rw [h]; intro j _ _; rfl⟩
    have := h j (by omega) h1
    rwa [rd_atc a j h1, rd_atc b j h2] at this
  · rw [if_neg (by omega), decide_eq_false (fun h => hab (by rw [h]))]
theorem eqs_self (a : List Int) (hl : a.length ≤ 2000000) (k : Nat) (hk : a.length < k) : laws_eqInt64S.f k a a = some true := by rw [eqs_ok a a hl k hk, decide_eq_true rfl]
theorem mark_loop (n : Nat) (q : Int) (hq : 0 ≤ q ∧ q ≤ 100000000) (hl : n ≤ 2000000) (d : Nat) : ∀ (k i : Nat) (x : List Int), i + d = n → d < k → x.length = n → (∀ j : Nat, j < i → x[j]? = some (q + j)) →
    ∃ s, laws_markInt64S.l0 k x (q + i) (i : Int) = some (q + n, s) ∧ s.length = n ∧ ∀ j : Nat, j < n → s[j]? = some (q + j) := by
  induction d with
  | zero =>
    intro k i x hi hk hlen h
    obtain ⟨k, rfl⟩ : ∃ m, k = m + 1 := ⟨k - 1, by omega⟩
    obtain rfl : i = n := by omega
    simp only [laws_markInt64S.l0]
    rw [if_neg (by omega)]
    exact ⟨x, rfl, hlen, h⟩
  | succ d ih =>
    intro k i x hi hk hlen h
    obtain ⟨k, rfl⟩ : ∃ m, k = m + 1 := ⟨k - 1, by omega⟩
    simp only [laws_markInt64S.l0]
    have w1 : wrap64 ((i : Int) + 1) = ((i + 1 : Nat) : Int) := by unfold wrap64; omega
    have w2 : wrap64 (q + (i : Int) + 1) = q + ((i + 1 : Nat) : Int) := by unfold wrap64; omega
    rw [if_pos (by omega), if_pos (by omega), w1, w2, Int.toNat_natCast]
    refine ih k (i + 1) _ (by omega) (by omega) (by simp [hlen]) (fun j hj => ?_)
    by_cases hji : j = i
    · subst hji
      rw [List.getElem?_set_self (by omega)]
    · rw [List.getElem?_set_ne (by omega)]
      exact h j (by omega)
theorem mark_ok (l : List Int) (q : Int) (hq : 0 ≤ q ∧ q ≤ 100000000) (hl : l.length ≤ 2000000) (k : Nat) (hk : l.length < k) : ∃ s, laws_markInt64S.f k l q = some (q + l.length, s) ∧ s.length = l.length ∧ ∀ j : Nat, j < l.length → s[j]? = some (q + j) := by
  have := mark_loop l.length q hq hl l.length k 0 l (by omega) hk rfl (fun j hj => by omega)
  simpa [laws_markInt64S.f] using this
theorem held_loop (s : List Int) (q : Int) (hq : 0 ≤ q ∧ q ≤ 100000000) (hl : s.length ≤ 2000000) (h : ∀ j : Nat, j < s.length → s[j]? = some (q + j)) (d : Nat) : ∀ (k i : Nat), i + d = s.length → d < k → laws_heldInt64S.l0 k s (q + i) (i : Int) = some (q + s.length) := by
  induction d with
  | zero =>
    intro k i hi hk
    obtain ⟨k, rfl⟩ : ∃ m, k = m + 1 := ⟨k - 1, by omega⟩
    simp only [laws_heldInt64S.l0]
    rw [if_neg (by omega), show i = s.length by omega]
  | succ d ih =>
    intro k i hi hk
    obtain ⟨k, rfl⟩ : ∃ m, k = m + 1 := ⟨k - 1, by omega⟩
    simp only [laws_heldInt64S.l0]
    have w1 : wrap64 ((i : Int) + 1) = ((i + 1 : Nat) : Int) := by unfold wrap64; omega
    have w2 : wrap64 (q + (i : Int) + 1) = q + ((i + 1 : Nat) : Int) := by unfold wrap64; omega
    have hi' : i < s.length := by omega
    have hr : rd s i = q + i := by
      have h1 := h i hi'
      rw [List.getElem?_eq_getElem hi'] at h1
      rw [rd_atc s i hi']
      exact Option.some.inj h1
    rw [if_pos (by omega), if_pos (by omega), if_pos hr, w1, w2]
    exact ih k (i + 1) (by omega) (by omega)
theorem held_ok (s : List Int) (q : Int) (hq : 0 ≤ q ∧ q ≤ 100000000) (hl : s.length ≤ 2000000) (h : ∀ j : Nat, j < s.length → s[j]? = some (q + j)) (k : Nat) (hk : s.length < k) : laws_heldInt64S.f k s q = some (q + s.length) := by
  have := held_loop s q hq hl h s.length k 0 (by omega) hk
  simpa [laws_heldInt64S.f] using this
end Go.Proofs.Ytlicooehcladcaa.Pure
