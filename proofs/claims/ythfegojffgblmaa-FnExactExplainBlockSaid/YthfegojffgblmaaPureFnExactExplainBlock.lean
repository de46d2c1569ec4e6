/- FnExactExplainBlock: for all arguments the answer is true: the program's ExplainBlock answers as the reference's, in memory of its own. No conditions. -/
import Derived.Test.YthfegojffgblmaaX7
import Derived.Test.YthfegojffgblmaaPureBlocks
import Derived.Test.YthfegojffgblmaaPureCopyB
namespace Go.Proofs.Ythfegojffgblmaa.Pure
open Go.RowKit Go.Proofs.Ythfegojffgblmaa.X Go.Proofs.YthfegojffgblmaaW.PrintWords Go.Proofs.YthfegojffgblmaaW.PrintLast
set_option linter.unusedVariables false
set_option linter.unusedSimpArgs false

theorem FnExactExplainBlock : laws_FnExactExplainBlock.Pure := by
  intro a0 l1 _ _ _ _
  obtain ⟨K, hK⟩ : ∃ K, K = 3000000 := ⟨_, rfl⟩
  refine ⟨K + 3, ?_⟩
  unfold laws_FnExactExplainBlock.f
  by_cases hl : (l1.length : Int) > 1048576
  · rw [if_pos hl]
  rw [if_neg hl]
  obtain ⟨r, hs, hi, h100, hv, hne, heq⟩ := blocks a0 l1 (by omega) (K + 3) (by omega)
  rw [copy_ok l1 (by omega) (K + 3) (by omega)]
  simp only [Option.bind_some]
  rw [hs, hi]
  simp only [Option.bind_some]
  rw [eqs_self r.1 (by omega) (K + 3) (by omega)]
  simp only [Option.bind_some, if_true]
  simp only [laws_FnExactExplainBlock.j0]
  rw [if_neg (by simp), copy_ok l1 (by omega) (K + 2) (by omega)]
  simp only [Option.bind_some]
  rw [eqs_self l1 (by omega) (K + 2) (by omega)]
  simp only [Option.bind_some, if_true]
  obtain ⟨s1, e1, _, _⟩ := mark_ok l1 1 (by omega) (by omega) (K + 2) (by omega)
  rw [e1]
  simp only [Option.bind_some]
  rw [if_neg (by omega), eqs_self r.1 (by omega) (K + 2) (by omega)]
  simp only [Option.bind_some, if_true]
  simp only [laws_FnExactExplainBlock.j1]
  obtain ⟨s2, e2, hs2, hm2⟩ := mark_ok r.1 1 (by omega) (by omega) (K + 1) (by omega)
  have hh := held_ok s2 1 (by omega) (by omega) (fun j hj => hm2 j (by omega)) (K + 1) (by omega)
  rw [if_neg (by simp), e2]
  simp only [Option.bind_some]
  rw [hh]
  simp only [Option.bind_some]
  rw [if_neg (by omega), if_pos (by omega), copy_ok l1 (by omega) (K + 1) (by omega)]
  simp only [Option.bind_some]
  rw [hi]
  simp only [Option.bind_some]
  rw [eqs_self r.1 (by omega) (K + 1) (by omega)]
  simp only [Option.bind_some, if_true]
  simp only [laws_FnExactExplainBlock.j2]
  have hh0 := held_ok s2 1 (by omega) (by omega) (fun j hj => hm2 j (by omega)) K (by omega)
  rw [if_neg (by simp), hh0]
  simp only [Option.bind_some]
  rw [if_neg (by omega), if_pos (by omega)]
end Go.Proofs.Ythfegojffgblmaa.Pure
