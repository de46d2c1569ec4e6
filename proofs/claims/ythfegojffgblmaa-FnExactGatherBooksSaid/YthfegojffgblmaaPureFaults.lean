/- The reference's faults, blocks and counts are the program's. No conditions but the lists' bounds. -/
import Derived.Test.YthfegojffgblmaaX2
import Derived.Test.YthfegojffgblmaaX3
import Derived.Test.YthfegojffgblmaaX3
import Derived.Test.YthfegojffgblmaaPureBase
import Derived.Test.YthfegojffgblmaaEAreFaults
import Derived.Test.YthfegojffgblmaaEGather
namespace Go.Proofs.Ythfegojffgblmaa.Pure
open Go.RowKit Go.Proofs.Ythfegojffgblmaa.X Go.Proofs.YthfegojffgblmaaW.PrintWords Go.Proofs.YthfegojffgblmaaW.PrintLast
set_option linter.unusedVariables false
set_option linter.unusedSimpArgs false

theorem inS (x lo hi : Int) : spec_l01In.f x lo hi = some (decide (lo ≤ x) && decide (x ≤ hi)) := by
  unfold spec_l01In.f
  by_cases h : x ≥ lo
  · rw [if_pos h]; simp; omega
  · rw [if_neg h]; simp; omega
theorem rdT (l : List S54) (i : Nat) (h : i < l.length) : rd_T54 l i = l[i] := by
  unfold rd_T54
  simp [List.getD_eq_getElem?_getD, List.getElem?_eq_getElem h]

-- no fault of the same book and station ahead
theorem ahead_loop (a0 a1 : Int) (l : List S54) (hl : l.length ≤ 1000) (i : Nat) (hi : i < l.length) (f : S54) (t : Nat) : ∀ (j k : Nat), j + t = i → t + 1 ≤ k → ∃ k', k ≤ k' + t + 1 ∧ spec_AreFaults.l1 k a0 a1 l (i : Int) (j : Int) f.f0 f.f1 f.f2 f.f3 = if ((l.take i).drop j).any (sameF f) = true then some false else spec_AreFaults.l0 k' a0 a1 l ((i + 1 : Nat) : Int) := by
  induction t with
  | zero =>
    intro j k hj hk
    obtain ⟨k, rfl⟩ : ∃ m, k = m + 1 := ⟨k - 1, by omega⟩
    refine ⟨k, by omega, ?_⟩
    simp only [spec_AreFaults.l1]
    rw [if_neg (by omega), List.drop_eq_nil_of_le (by rw [List.length_take]; omega), sw (by omega) (by omega)]
    rfl
  | succ t ih =>
    intro j k hj hk
    obtain ⟨k, rfl⟩ : ∃ m, k = m + 1 := ⟨k - 1, by omega⟩
    have hjl : j < l.length := by omega
    have hd : (l.take i).drop j = l[j] :: (l.take i).drop (j + 1) := by
      rw [List.drop_eq_getElem_cons (by rw [List.length_take]; omega), List.getElem_take]
    simp only [spec_AreFaults.l1]
    rw [if_pos (by omega), if_pos (by omega), if_pos (by omega), rdT l j hjl, hd, sw (by omega) (by omega)]
    obtain ⟨k', hk', e⟩ := ih (j + 1) k (by omega) (by omega)
    rw [show ((j + 1 : Nat) : Int) = (j : Int) + 1 from rfl] at e
    by_cases c0 : l[j].f0 = f.f0
    · rw [if_pos c0]
      by_cases c1 : l[j].f1 = f.f1
      · rw [if_pos c1]
        exact ⟨k, by omega, by simp [sameF, c0, c1]⟩
      · rw [if_neg c1, e]
        exact ⟨k', by omega, by simp [sameF, c1]⟩
    · rw [if_neg c0, e]
      exact ⟨k', by omega, by simp [sameF, c0]⟩
theorem faults_loop (a0 a1 : Int) (h0 : 1 ≤ a0 ∧ a0 ≤ 12) (l : List S54) (hl : l.length ≤ 20) (d : Nat) : ∀ (i k : Nat), i + d = l.length → 30 * d + 30 ≤ k → spec_AreFaults.l0 k a0 a1 l (i : Int) = some (((List.range l.length).drop i).all (okAt a0 a1 l)) := by
  induction d with
  | zero =>
    intro i k hi hk
    obtain ⟨k, rfl⟩ : ∃ m, k = m + 1 := ⟨k - 1, by omega⟩
    simp only [spec_AreFaults.l0]
    rw [if_neg (by omega), List.drop_eq_nil_of_le (by simp; omega)]
    rfl
  | succ d ih =>
    intro i k hi hk
    obtain ⟨k, rfl⟩ : ∃ m, k = m + 3 := ⟨k - 3, by omega⟩
    have hil : i < l.length := by omega
    have hw : wrap64 (a0 - 1) = a0 - 1 := sw (by omega) (by omega)
    have hd : (List.range l.length).drop i = i :: (List.range l.length).drop (i + 1) := by
      rw [List.drop_eq_getElem_cons (by simpa using hil), List.getElem_range]
    obtain ⟨f, hf⟩ : ∃ f, f = rd_T54 l i := ⟨_, rfl⟩
    obtain ⟨k', hk', e⟩ := ahead_loop a0 a1 l (by omega) i hil f i 0 k (by omega) (by omega)
    rw [List.drop_zero, show ((0 : Nat) : Int) = 0 from rfl] at e
    have hrest := ih (i + 1) k' (by omega) (by omega)
    rw [hrest] at e
    rw [hd, List.all_cons]
    have hok : okAt a0 a1 l i = (okF a0 a1 f && !(l.take i).any (sameF f)) := by unfold okAt; rw [← hf]
    rw [hok]
    simp only [spec_AreFaults.l0]
    rw [if_pos (by omega), if_pos (by omega), ← hf]
    simp only [inS, Option.bind_some]
    obtain ⟨any, hany⟩ : ∃ any, any = (l.take i).any (sameF f) := ⟨_, rfl⟩
    rw [← hany] at e ⊢
    -- the second half
    have h2t : ∀ x0 x1 x2 x3, spec_AreFaults.j2 (k + 2) a0 a1 l (i : Int) true x0 x1 x2 x3 = some false := by
      intro x0 x1 x2 x3
      simp only [spec_AreFaults.j2]
      rw [if_pos trivial]
    have h3t : ∀ x0 x1 x2 x3, spec_AreFaults.j3 (k + 1) a0 a1 l (i : Int) true x0 x1 x2 x3 = some false := by
      intro x0 x1 x2 x3
      simp only [spec_AreFaults.j3]
      rw [if_pos trivial]
    have h3f : spec_AreFaults.j3 (k + 1) a0 a1 l (i : Int) false f.f0 f.f1 f.f2 f.f3 = if any = true then some false else some (((List.range l.length).drop (i + 1)).all (okAt a0 a1 l)) := by
      simp only [spec_AreFaults.j3]
      rw [if_neg (by simp), e]
    have h2f : spec_AreFaults.j2 (k + 2) a0 a1 l (i : Int) false f.f0 f.f1 f.f2 f.f3 = if f.f2 = 4 then (if f.f3 = f.f1 then some false else (if any = true then some false else some (((List.range l.length).drop (i + 1)).all (okAt a0 a1 l)))) else (if f.f3 = 0 then (if any = true then some false else some (((List.range l.length).drop (i + 1)).all (okAt a0 a1 l))) else some false) := by
      simp only [spec_AreFaults.j2]
      rw [if_neg (by simp)]
      by_cases c4 : f.f2 = 4
      · rw [if_pos c4, if_pos c4]
        by_cases c3 : f.f3 = f.f1
        · rw [if_pos c3, show (f.f3 == f.f1) = true from by simp [c3], h3t]
        · rw [if_neg c3, show (f.f3 == f.f1) = false from by simp [c3], h3f]
      · rw [if_neg c4, if_neg c4]
        by_cases c3 : f.f3 = 0
        · rw [if_pos c3, if_pos c3, h3f]
        · rw [if_neg c3, if_neg c3, h3t]
    unfold okF
    rw [hw]
    by_cases b0 : (decide (0 ≤ f.f0) && decide (f.f0 ≤ wrap64 (a1 - 1))) = true
    · rw [if_pos b0, b0]
      by_cases b1 : (decide (0 ≤ f.f1) && decide (f.f1 ≤ a0 - 1)) = true
      · rw [if_pos b1, b1]
        by_cases b2 : (decide (1 ≤ f.f2) && decide (f.f2 ≤ 4)) = true
        · rw [if_pos b2, b2]
          by_cases b3 : (decide (0 ≤ f.f3) && decide (f.f3 ≤ a0 - 1)) = true
          · rw [b3, Bool.not_true, h2f]
            by_cases c4 : f.f2 = 4
            · rw [if_pos c4, if_pos c4]
              by_cases c3 : f.f3 = f.f1
              · rw [if_pos c3, decide_eq_true c3]; rfl
              · rw [if_neg c3, decide_eq_false c3]
                cases any <;> rfl
            · rw [if_neg c4, if_neg c4]
              by_cases c3 : f.f3 = 0
              · rw [if_pos c3, decide_eq_true c3]
                cases any <;> rfl
              · rw [if_neg c3, decide_eq_false c3]; rfl
          · have b3' : (decide (0 ≤ f.f3) && decide (f.f3 ≤ a0 - 1)) = false := by simpa using b3
            rw [b3', Bool.not_false, h2t]
            by_cases c4 : f.f2 = 4
            · rw [if_pos c4]; rfl
            · rw [if_neg c4]
              have c3 : ¬ f.f3 = 0 := by
                intro h
                rw [h] at b3
                simp at b3
                omega
              rw [decide_eq_false c3]; rfl
        · have b2' : (decide (1 ≤ f.f2) && decide (f.f2 ≤ 4)) = false := by simpa using b2
          rw [if_neg b2, b2', h2t]; rfl
      · have b1' : (decide (0 ≤ f.f1) && decide (f.f1 ≤ a0 - 1)) = false := by simpa using b1
        rw [if_neg b1, b1', h2t]; rfl
    · have b0' : (decide (0 ≤ f.f0) && decide (f.f0 ≤ wrap64 (a1 - 1))) = false := by simpa using b0
      rw [if_neg b0, b0', h2t]; rfl
theorem areFaults_eq (a0 a1 : Int) (l : List S54) (k : Nat) (hk : 1000 ≤ k) (hml : l.length ≤ 2000000) : spec_AreFaults.f k a0 a1 l = impl_AreFaults.f a0 a1 l := by
  obtain ⟨k, rfl⟩ : ∃ m, k = m + 1 := ⟨k - 1, by omega⟩
  unfold spec_AreFaults.f impl_AreFaults.f spec_l14Line.f
  rw [inS, inS]
  simp only [Option.bind_some]
  by_cases h0 : (decide (1 ≤ a0) && decide (a0 ≤ 12)) = true
  · rw [if_pos h0, h0, Option.bind_some]
    by_cases h1 : (decide (0 ≤ a1) && decide (a1 ≤ 40)) = true
    · rw [if_pos h1, h1]
      simp only [spec_AreFaults.j0]
      by_cases h2 : l.length ≤ 20
      · rw [if_neg (by simp; omega), decide_eq_true h2]
        have h0' : 1 ≤ a0 ∧ a0 ≤ 12 := by simpa using h0
        have := faults_loop a0 a1 h0' l h2 l.length 0 k (by omega) (by omega)
        rw [show ((0 : Nat) : Int) = 0 from rfl, List.drop_zero] at this
        rw [this]
        simp
      · rw [if_pos (by simp; omega), decide_eq_false h2]
        simp
    · have h1' : (decide (0 ≤ a1) && decide (a1 ≤ 40)) = false := by simpa using h1
      rw [if_neg h1, h1']
      simp only [spec_AreFaults.j0]
      rw [if_pos trivial]
      simp
  · have h0' : (decide (1 ≤ a0) && decide (a0 ≤ 12)) = false := by simpa using h0
    rw [if_neg h0, h0', Option.bind_some, if_neg (by simp)]
    simp only [spec_AreFaults.j0]
    rw [if_pos trivial]
    simp
end Go.Proofs.Ythfegojffgblmaa.Pure
