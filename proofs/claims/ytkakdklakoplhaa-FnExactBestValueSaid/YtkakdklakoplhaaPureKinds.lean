/- Catalogues and best values: the reference's answers are the program's. No conditions but the list's length. -/
import Derived.Test.YtkakdklakoplhaaX2
import Derived.Test.YtkakdklakoplhaaEBestValue
namespace Go.Proofs.Ytkakdklakoplhaa.Pure
open Go.RowKit Go.Proofs.Ytkakdklakoplhaa.X Go.Proofs.YtkakdklakoplhaaW.PrintWords Go.Proofs.YtkakdklakoplhaaW.PrintLast
set_option linter.unusedVariables false
set_option linter.unusedSimpArgs false

theorem sw {x : Int} (h1 : -1000000000000 ≤ x) (h2 : x ≤ 1000000000000) : wrap64 x = x := by unfold wrap64; omega
theorem in_is (x lo hi : Int) : spec_l01In.f x lo hi = some (decide (lo ≤ x) && decide (x ≤ hi)) := by
  unfold spec_l01In.f
  by_cases h : x ≥ lo
  · have h2 : lo ≤ x := h
    rw [if_pos h, decide_eq_true h2, Bool.true_and]
  · have h2 : ¬ lo ≤ x := h
    rw [if_neg h, decide_eq_false h2, Bool.false_and]
theorem sheet_is (a b : Int) : spec_l12Sheet.f a b = some ((decide (1 ≤ a) && decide (a ≤ 40)) && (decide (1 ≤ b) && decide (b ≤ 40))) := by
  unfold spec_l12Sheet.f
  rw [in_is, in_is, Option.bind_some, Option.bind_some]
  cases (decide (1 ≤ a) && decide (a ≤ 40)) <;> rfl
theorem rdK (l : List S35) (i : Nat) (h : i < l.length) : rd_T35 l i = l[i] := by
  unfold rd_T35
  simp [List.getD_eq_getElem?_getD, List.getElem?_eq_getElem h]
theorem scat_loop (l : List S35) (hl : l.length ≤ 2000000) (d : Nat) : ∀ (k i : Nat), i + d = l.length → d < k → spec_IsCatalogue.l0 k l (i : Int) = some ((decide (1 ≤ (l.length : Int)) && decide ((l.length : Int) ≤ 6)) && (l.drop i).all okK) ∨ ((l.drop i).all okK = false ∧ spec_IsCatalogue.l0 k l (i : Int) = some false) := by
  induction d with
  | zero =>
    intro k i hi hk
    obtain ⟨k, rfl⟩ : ∃ m, k = m + 1 := ⟨k - 1, by omega⟩
    simp only [spec_IsCatalogue.l0]
    rw [if_neg (by omega), List.drop_eq_nil_of_le (by omega)]
    left
    by_cases h : (l.length : Int) ≥ 1
    · have h2 : (1 : Int) ≤ l.length := h
      rw [if_pos h, decide_eq_true h2]
      simp
    · have h2 : ¬ (1 : Int) ≤ l.length := h
      rw [if_neg h, decide_eq_false h2]
      simp
  | succ d ih =>
    intro k i hi hk
    obtain ⟨k, rfl⟩ : ∃ m, k = m + 1 := ⟨k - 1, by omega⟩
    have hil : i < l.length := by omega
    simp only [spec_IsCatalogue.l0]
    rw [if_pos (by omega), if_pos (by omega), rdK l i hil, sheet_is, in_is, Option.bind_some, Option.bind_some, List.drop_eq_getElem_cons hil, List.all_cons]
    obtain ⟨b1, hb1⟩ : ∃ b, b = ((decide (1 ≤ l[i].f0) && decide (l[i].f0 ≤ 40)) && (decide (1 ≤ l[i].f1) && decide (l[i].f1 ≤ 40))) := ⟨_, rfl⟩
    obtain ⟨b2, hb2⟩ : ∃ b, b = (decide (0 ≤ l[i].f2) && decide (l[i].f2 ≤ 1000)) := ⟨_, rfl⟩
    have hok : okK l[i] = (b1 && b2) := by unfold okK; rw [hb1, hb2]; simp only [Bool.and_assoc]
    rw [hok, ← hb1, ← hb2]
    cases b1 with
    | false => right; exact ⟨by simp, by rfl⟩
    | true =>
      cases b2 with
      | false => right; exact ⟨by simp, by rfl⟩
      | true =>
        rw [if_pos rfl, if_pos rfl, sw (by omega) (by omega)]
        have := ih k (i + 1) (by omega) (by omega)
        simpa using this
theorem scat_is (l : List S35) (hl : l.length ≤ 2000000) (k : Nat) (hk : l.length < k) : spec_IsCatalogue.f k l = some (catOk l) := by
  unfold spec_IsCatalogue.f catOk
  have := scat_loop l hl l.length k 0 (by omega) hk
  rw [show ((0 : Nat) : Int) = 0 from rfl, List.drop_zero] at this
  rcases this with h | ⟨h1, h2⟩
  · exact h
  · rw [h2, h1, Bool.and_false]
theorem code_is (a0 a1 : Int) (l : List S35) (hl : l.length ≤ 2000000) (k : Nat) (hk : l.length < k) : spec_l12Code.f k a0 a1 l = impl_checkTable.f a0 a1 l := by
  rw [checkTable_is]
  unfold spec_l12Code.f
  rw [scat_is l hl k hk, Option.bind_some]
  cases catOk l with
  | false => rfl
  | true =>
    rw [if_pos rfl, if_pos rfl, sheet_is, Option.bind_some]
    by_cases h1 : 1 ≤ a0 <;> by_cases h2 : a0 ≤ 40 <;> by_cases h3 : 1 ≤ a1 <;> by_cases h4 : a1 ≤ 40 <;> simp [h1, h2, h3, h4]
theorem check_zero {a0 a1 : Int} {l : List S35} (h : impl_checkTable.f a0 a1 l = some 0) : catOk l = true ∧ 1 ≤ a0 ∧ a0 ≤ 40 ∧ 1 ≤ a1 ∧ a1 ≤ 40 := by
  rw [checkTable_is] at h
  have hc := Option.some.inj h
  by_cases h1 : catOk l = true
  · rw [if_pos h1] at hc
    by_cases h2 : 1 ≤ a0 ∧ a0 ≤ 40 ∧ 1 ≤ a1 ∧ a1 ≤ 40
    · exact ⟨h1, h2⟩
    · rw [if_neg h2] at hc; omega
  · rw [if_neg h1] at hc; omega
theorem table_is {a0 a1 : Int} {l : List S35} (h : impl_checkTable.f a0 a1 l = some 0) : spec_l12Table.f a0 a1 l = some ((List.range (a0.toNat + 1)).map (rowTo l (a1.toNat + 1))) := by
  obtain ⟨h1, h2, h3, h4, h5⟩ := check_zero h
  have := (catOk_len l h1).1
  unfold spec_l12Table.f
  rw [if_pos (by omega)]
theorem table_rd (l : List S35) (n m : Nat) (x : Int) (h0 : 0 ≤ x) (h1 : x ≤ n) : rd_L4 ((List.range (n + 1)).map (rowTo l m)) x = rowTo l m x.toNat := by
  unfold rd_L4
  simp [List.getD_eq_getElem?_getD, show x.toNat < n + 1 by omega]
theorem value_both (a0 a1 : Int) (l : List S35) (hl : l.length ≤ 2000000) (k : Nat) (hk : l.length < k) : ∃ r : Int × Int, spec_BestValue.f k a0 a1 l = some r ∧ impl_BestValue.f a0 a1 l = some r := by
  unfold spec_BestValue.f impl_BestValue.f
  rw [code_is a0 a1 l hl k hk]
  obtain ⟨c, hc⟩ : ∃ c, impl_checkTable.f a0 a1 l = some c := ⟨_, checkTable_is a0 a1 l⟩
  rw [hc, Option.bind_some, Option.bind_some]
  by_cases c0 : c = 0
  · subst c0
    obtain ⟨h1, h2, h3, h4, h5⟩ := check_zero hc
    rw [if_pos rfl, if_pos rfl, table_is hc, Option.bind_some, if_pos (by omega), if_pos (by simp; omega), if_pos (by omega), table_rd l a0.toNat _ a0 (by omega) (by omega), if_pos (by rw [rowTo_len]; omega), rowTo_rd l _ _ a1 (by omega) (by omega)]
    exact ⟨_, rfl, rfl⟩
  · rw [if_neg c0, if_neg c0]
    exact ⟨_, rfl, rfl⟩
end Go.Proofs.Ytkakdklakoplhaa.Pure
