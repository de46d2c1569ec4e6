/- The reference's ExplainBlock is the program's, at every block. No conditions but the length's bound. -/
import Derived.Test.YthfegojffgblmaaPureExplain
namespace Go.Proofs.Ythfegojffgblmaa.Pure
open Go.RowKit Go.Proofs.Ythfegojffgblmaa.X Go.Proofs.YthfegojffgblmaaW.PrintWords Go.Proofs.YthfegojffgblmaaW.PrintLast
set_option linter.unusedVariables false
set_option linter.unusedSimpArgs false

theorem within_loop (l : List Int) (x1 lo hi : Int) (hl : l.length ≤ 2000000) (d : Nat) : ∀ (k i : Nat), i + d = l.length → d < k → ∃ q, spec_l01Within.l0 k l x1 lo hi (i : Int) = some q ∧ (q = true ↔ (∀ j : Nat, i ≤ j → j < l.length → lo ≤ rd l j ∧ rd l j ≤ hi) ∧ (l.length : Int) ≤ x1) := by
  induction d with
  | zero =>
    intro k i h hk
    obtain ⟨k, rfl⟩ : ∃ m, k = m + 1 := ⟨k - 1, by omega⟩
    simp only [spec_l01Within.l0]
    rw [if_neg (by omega)]
    refine ⟨_, rfl, ?_⟩
    simp only [decide_eq_true_eq]
    exact ⟨fun h => ⟨fun j h1 h2 => by omega, h⟩, fun h => h.2⟩
  | succ d ih =>
    intro k i h hk
    obtain ⟨k, rfl⟩ : ∃ m, k = m + 1 := ⟨k - 1, by omega⟩
    simp only [spec_l01Within.l0]
    have w1 : wrap64 ((i : Int) + 1) = ((i + 1 : Nat) : Int) := by unfold wrap64; omega
    rw [if_pos (by omega), if_pos (by omega), w1]
    unfold spec_l01In.f
    by_cases c1 : rd l i ≥ lo
    · rw [if_pos c1, Option.bind_some]
      by_cases c2 : rd l i ≤ hi
      · rw [if_pos (decide_eq_true c2)]
        obtain ⟨q, e, hq⟩ := ih k (i + 1) (by omega) (by omega)
        refine ⟨q, e, hq.trans ⟨fun ⟨h1, h2⟩ => ⟨fun j h3 h4 => ?_, h2⟩, fun ⟨h1, h2⟩ => ⟨fun j h3 h4 => h1 j (by omega) h4, h2⟩⟩⟩
        by_cases hj : j = i
        · subst hj; exact ⟨c1, c2⟩
        · exact h1 j (by omega) h4
      · rw [if_neg (by simpa using c2)]
        exact ⟨false, rfl, by constructor; intro h; simp at h; intro h; exact absurd (h.1 i (Nat.le_refl _) (by omega)).2 c2⟩
    · rw [if_neg c1, Option.bind_some, if_neg (by simp)]
      exact ⟨false, rfl, by constructor; intro h; simp at h; intro h; exact absurd (h.1 i (Nat.le_refl _) (by omega)).1 c1⟩
theorem has_loop (l : List Int) (a : Int) (hl : l.length ≤ 2000000) (d : Nat) : ∀ (k i : Nat), i + d = l.length → d < k → ∃ q, spec_l01Has.l0 k l a (i : Int) = some q ∧ (q = true ↔ ∃ j : Nat, i ≤ j ∧ j < l.length ∧ a = rd l j) := by
  induction d with
  | zero =>
    intro k i h hk
    obtain ⟨k, rfl⟩ : ∃ m, k = m + 1 := ⟨k - 1, by omega⟩
    simp only [spec_l01Has.l0]
    rw [if_neg (by omega)]
    exact ⟨false, rfl, by constructor; intro h; simp at h; rintro ⟨j, h1, h2, _⟩; omega⟩
  | succ d ih =>
    intro k i h hk
    obtain ⟨k, rfl⟩ : ∃ m, k = m + 1 := ⟨k - 1, by omega⟩
    simp only [spec_l01Has.l0]
    have w1 : wrap64 ((i : Int) + 1) = ((i + 1 : Nat) : Int) := by unfold wrap64; omega
    rw [if_pos (by omega), if_pos (by omega), w1]
    by_cases c : rd l i = a
    · rw [if_pos c]
      exact ⟨true, rfl, by constructor; intro _; exact ⟨i, Nat.le_refl _, by omega, c.symm⟩; intro _; rfl⟩
    · rw [if_neg c]
      obtain ⟨q, e, hq⟩ := ih k (i + 1) (by omega) (by omega)
      refine ⟨q, e, hq.trans ⟨fun ⟨j, h1, h2, h3⟩ => ⟨j, by omega, h2, h3⟩, fun ⟨j, h1, h2, h3⟩ => ?_⟩⟩
      by_cases hj : j = i
      · exact absurd (hj ▸ h3).symm c
      · exact ⟨j, by omega, h2, h3⟩
theorem fits_is (a0 : Int) (l1 : List Int) (hl : l1.length ≤ 2000000) (k : Nat) (hk : l1.length < k) : ∃ t : Bool, spec_l14Fits.f k a0 l1 = some t ∧ (t = true ↔ Gate a0 l1) := by
  unfold spec_l14Fits.f spec_l14Line.f
  have h0 : spec_l01In.f 0 0 40 = some true := by unfold spec_l01In.f; simp
  rw [h0]
  by_cases h1 : 1 ≤ a0 ∧ a0 ≤ 12
  · rw [show spec_l01In.f a0 1 12 = some true from by unfold spec_l01In.f; rw [if_pos h1.1]; simp [h1.2]]
    simp only [Option.bind_some, if_true]
    have w1 : wrap64 (2 * a0) = 2 * a0 := by unfold wrap64; omega
    have w2 : wrap64 (-a0) = -a0 := by unfold wrap64; omega
    rw [w1, w2]
    obtain ⟨q, e, hq⟩ := within_loop l1 24 (-a0) a0 hl l1.length k 0 (by omega) hk
    unfold spec_l01Within.f spec_l01Has.f
    rw [show ((0 : Nat) : Int) = 0 from rfl] at e
    rw [e, Option.bind_some]
    have hall : (∀ j : Nat, 0 ≤ j → j < l1.length → -a0 ≤ rd l1 j ∧ rd l1 j ≤ a0) ↔ ∀ x ∈ l1, -a0 ≤ x ∧ x ≤ a0 := by
      constructor
      · intro h x hx
        obtain ⟨j, h1, h2, rfl⟩ := mem_rd.2 hx
        exact h j h1 h2
      · intro h j h1 h2
        exact h _ (mem_rd.1 ⟨j, h1, h2, rfl⟩)
    rw [hall] at hq
    by_cases hqt : q = true
    · rw [if_pos hqt]
      have h3 := hq.1 hqt
      by_cases h2 : (l1.length : Int) ≤ 2 * a0
      · rw [if_pos h2]
        obtain ⟨r, e2, hr⟩ := has_loop l1 0 hl l1.length k 0 (by omega) hk
        rw [show ((0 : Nat) : Int) = 0 from rfl] at e2
        rw [e2, Option.bind_some]
        refine ⟨_, rfl, ?_⟩
        rw [mem_rd] at hr
        unfold Gate
        have h3' := h3.1
        constructor
        · intro hh
          refine ⟨h1, h2, h3', fun hm => ?_⟩
          rw [hr.2 hm] at hh
          simp at hh
        · intro hh
          cases hr_ : r with
          | false => rfl
          | true => exact absurd (hr.1 hr_) hh.2.2.2
      · rw [if_neg h2]
        exact ⟨_, rfl, by unfold Gate; constructor; intro h; simp at h; intro h; exact absurd h.2.1 h2⟩
    · rw [if_neg hqt]
      refine ⟨_, rfl, ?_⟩
      unfold Gate
      constructor
      · intro h; simp at h
      · intro h
        exact absurd (hq.2 ⟨h.2.2.1, by omega⟩) hqt
  · have hin : spec_l01In.f a0 1 12 = some false := by
      unfold spec_l01In.f
      by_cases h2 : a0 ≥ 1
      · rw [if_pos h2]; simp; omega
      · rw [if_neg h2]
    rw [hin]
    exact ⟨false, rfl, by unfold Gate; constructor; intro h; simp at h; intro h; exact absurd h.1 h1⟩

theorem blocks (a0 : Int) (l1 : List Int) (hl : l1.length ≤ 2000000) (k : Nat) (hk : l1.length + 6000 < k) : ∃ r : List Int × Int, spec_ExplainBlock.f k a0 l1 = some r ∧ impl_ExplainBlock.f a0 l1 = some r ∧ r.1.length ≤ 100 ∧ (∀ x ∈ r.1, 0 ≤ x ∧ x ≤ 4) ∧ (r.2 ≠ 0 → r.1 = []) ∧
    (r.2 = 0 → Gate a0 l1 ∧ few l1 a0.toNat 0 0 < 1000000000 ∧ r.1 = build l1 a0.toNat 0 0 (few l1 a0.toNat 0 0) ∧ cnt r.1 = few l1 a0.toNat 0 0 ∧ r.1.length = a0.toNat) := by
  obtain ⟨t1, e1, h1⟩ := fits_is a0 l1 hl k (by omega)
  obtain ⟨t2, e2, h2⟩ := isBlock_is a0 l1 (l1.length + 5) (by omega)
  obtain rfl : t1 = t2 := by rw [Bool.eq_iff_iff, h1, h2]
  unfold spec_ExplainBlock.f impl_ExplainBlock.f
  rw [e1, e2, Option.bind_some, Option.bind_some]
  by_cases ht : t1 = true
  · rw [if_pos ht, if_pos ht]
    obtain ⟨g1, g2, g3, g4⟩ := gate_facts (h1.1 ht)
    obtain ⟨R, hR, hR1, hR2⟩ := rest_all l1 a0.toNat (by omega) (by omega) a0.toNat 0 (by omega) 0 k (by omega) (by have : a0.toNat ≤ 12 := g2; omega)
    rw [List.drop_zero, ← g1] at hR
    rw [show ((0 : Nat) : Int) = 0 from rfl] at hR
    rw [hR, Option.bind_some]
    by_cases hf : few l1 a0.toNat 0 0 < 1000000000
    · obtain ⟨hb, hc, hv, hlen⟩ := hR2 hf
      rw [if_pos (decide_eq_true hf), if_neg (by omega)]
      exact ⟨(R, 0), rfl, by rw [← hb], by show R.length ≤ 100; omega, hv, fun h => absurd rfl h, fun _ => ⟨h1.1 ht, hf, hb, hc, hlen⟩⟩
    · rw [if_neg (by simp; omega), if_pos (by omega)]
      exact ⟨([], 4), rfl, rfl, by simp, by simp, fun _ => rfl, fun h => by simp at h⟩
  · rw [if_neg ht, if_neg ht]
    exact ⟨([], 2), rfl, rfl, by simp, by simp, fun _ => rfl, fun h => by simp at h⟩
end Go.Proofs.Ythfegojffgblmaa.Pure
