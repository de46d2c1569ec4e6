/- FnExactCountFaults: for all arguments the answer is true: the program's CountFaults answers as the reference's. No conditions. -/
import Derived.Test.YthfegojffgblmaaX6
import Derived.Test.YthfegojffgblmaaPureBlocks
import Derived.Test.YthfegojffgblmaaPureCopyA
namespace Go.Proofs.Ythfegojffgblmaa.Pure
open Go.RowKit Go.Proofs.Ythfegojffgblmaa.X Go.Proofs.YthfegojffgblmaaW.PrintWords Go.Proofs.YthfegojffgblmaaW.PrintLast
set_option linter.unusedVariables false
set_option linter.unusedSimpArgs false

theorem count_loop (l : List Int) (x7 : Int) (hv : ∀ x ∈ l, 0 ≤ x ∧ x ≤ 4) (hl : l.length ≤ 1000) (d : Nat) : ∀ (k i c : Nat), i + d = l.length → d < k → c ≤ i → impl_CountFaults.l0 k x7 (c : Int) l (l.length : Int) (i : Int) = some (((c + cnt (l.drop i) : Nat) : Int), x7) := by
  induction d with
  | zero =>
    intro k i c hi hk hc
    obtain ⟨k, rfl⟩ : ∃ m, k = m + 1 := ⟨k - 1, by omega⟩
    simp only [impl_CountFaults.l0]
    rw [if_neg (by omega), List.drop_eq_nil_of_le (by omega)]
    simp [cnt]
  | succ d ih =>
    intro k i c hi hk hc
    obtain ⟨k, rfl⟩ : ∃ m, k = m + 1 := ⟨k - 1, by omega⟩
    simp only [impl_CountFaults.l0]
    have hil : i < l.length := by omega
    have w1 : wrap64 ((i : Int) + 1) = ((i + 1 : Nat) : Int) := by unfold wrap64; omega
    have hx := hv l[i] (List.getElem_mem hil)
    rw [if_pos (by omega), if_pos (by omega), if_pos (by omega), w1, rd_at l i hil, List.drop_eq_getElem_cons hil]
    obtain ⟨x, hx_⟩ : ∃ x, x = l[i] := ⟨_, rfl⟩
    rw [← hx_] at hx ⊢
    have ht : impl_toInt.f (decide (x > 0)) = some ((if x = 0 then 0 else 1 : Nat) : Int) := by
      unfold impl_toInt.f
      by_cases h0 : x = 0
      · subst h0; simp
      · rw [decide_eq_true (by omega), if_neg h0]; rfl
    rw [ht, Option.bind_some]
    have hm : wrap64 ((c : Int) + ((if x = 0 then 0 else 1 : Nat) : Int)) = ((c + (if x = 0 then 0 else 1) : Nat) : Int) := by
      by_cases h0 : x = 0
      · rw [if_pos h0, sw (by omega) (by omega)]; omega
      · rw [if_neg h0, sw (by omega) (by omega)]; omega
    rw [hm, ih k (i + 1) _ (by omega) (by omega) (by split <;> omega)]
    simp only [cnt]
    congr 2
    congr 1
    omega
theorem FnExactCountFaults : laws_FnExactCountFaults.Pure := by
  intro a0 l1 _ _ _ _
  obtain ⟨K, hK⟩ : ∃ K, K = 3000000 := ⟨_, rfl⟩
  refine ⟨K + 1, ?_⟩
  unfold laws_FnExactCountFaults.f
  by_cases hl : (l1.length : Int) > 1048576
  · rw [if_pos hl]
  rw [if_neg hl]
  obtain ⟨r, hs, hi, h100, hv, hne, heq⟩ := blocks a0 l1 (by omega) (K + 1) (by omega)
  rw [copy_ok l1 (by omega) (K + 1) (by omega)]
  simp only [Option.bind_some]
  unfold spec_CountFaults.f impl_CountFaults.f
  rw [hs, hi]
  simp only [Option.bind_some]
  have hcl := count_loop r.1 r.2 hv (by omega) r.1.length (K + 1) 0 0 (by omega) (by omega) (Nat.le_refl _)
  rw [show ((0 : Nat) : Int) = 0 from rfl, Nat.zero_add, List.drop_zero] at hcl
  rw [hcl]
  by_cases h0 : r.2 = 0
  · rw [if_pos h0, kinds_ok r.1 hv (by omega) (K + 1) (by omega)]
    simp only [Option.bind_some, if_true]
    rw [h0]
    simp only [laws_FnExactCountFaults.j0]
    rw [if_neg (by simp), copy_ok l1 (by omega) K (by omega)]
    simp only [Option.bind_some]
    rw [eqs_self l1 (by omega) K (by omega)]
    simp
  · rw [if_neg h0, hne h0]
    simp only [Option.bind_some, cnt]
    rw [if_pos (by rfl)]
    simp only [laws_FnExactCountFaults.j0]
    rw [if_neg (by simp), copy_ok l1 (by omega) K (by omega)]
    simp only [Option.bind_some]
    rw [eqs_self l1 (by omega) K (by omega)]
    simp
end Go.Proofs.Ythfegojffgblmaa.Pure
