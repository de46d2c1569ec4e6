/- Blocks: the reference's are the program's. No conditions but the lists' bounds. -/
import Derived.Test.YthfegojffgblmaaPureFaults
namespace Go.Proofs.Ythfegojffgblmaa.Pure
open Go.RowKit Go.Proofs.Ythfegojffgblmaa.X Go.Proofs.YthfegojffgblmaaW.PrintWords Go.Proofs.YthfegojffgblmaaW.PrintLast
set_option linter.unusedVariables false
set_option linter.unusedSimpArgs false

/-- No book and station twice. -/
def Once (l : List S54) : Prop := ∀ i j : Nat, i < j → j < l.length → ¬ ((rd_T54 l i).f0 = (rd_T54 l j).f0 ∧ (rd_T54 l i).f1 = (rd_T54 l j).f1)
theorem valid_of {a0 a1 : Int} {l : List S54} (h : impl_AreFaults.f a0 a1 l = some true) : (1 ≤ a0 ∧ a0 ≤ 12) ∧ (0 ≤ a1 ∧ a1 ≤ 40) ∧ l.length ≤ 20 ∧ Once l ∧ (∀ i : Nat, i < l.length → 0 ≤ (rd_T54 l i).f1 ∧ (rd_T54 l i).f1 < a0) := by
  unfold impl_AreFaults.f at h
  have h := Option.some.inj h
  simp only [Bool.and_eq_true, decide_eq_true_eq, List.all_eq_true, List.mem_range] at h
  obtain ⟨⟨h1, h2⟩, h3, h4⟩ := h
  have hw : wrap64 (a0 - 1) = a0 - 1 := sw (by omega) (by omega)
  refine ⟨h1, h2, h3, fun i j hij hj hsame => ?_, fun i hi => ?_⟩
  · have h5 := h4 j hj
    unfold okAt at h5
    rw [Bool.and_eq_true, Bool.not_eq_true', List.any_eq_false] at h5
    have h6 := h5.2 (rd_T54 l i) (by
      rw [rdT l i (by omega), ← List.getElem_take (j := j) (h := by rw [List.length_take]; omega)]
      exact List.getElem_mem _)
    apply h6
    unfold sameF
    rw [decide_eq_true hsame.1, decide_eq_true hsame.2]
    rfl
  · have h5 := h4 i hi
    unfold okAt at h5
    rw [Bool.and_eq_true] at h5
    have h6 := h5.1
    unfold okF at h6
    rw [hw] at h6
    simp only [Bool.and_eq_true, decide_eq_true_eq] at h6
    omega
theorem part_left (a b c : Int) : spec_l14Part.f a b c = impl_left.f a b c := rfl

-- a station's part: the last fault of it is the first
theorem part_loop (a0 bk : Int) (l : List S54) (hl : l.length ≤ 20) (hO : Once l) (st : Nat) (hst : st ≤ 12) (x7 : List Int) (t : Nat) : ∀ (j k : Nat) (x9 : List Int), j + t = l.length → t + 1 ≤ k → x7.length + 2 ≤ 1000 → x9.length ≤ 2 → ∃ k' y, k ≤ k' + t + 1 ∧ y.length ≤ 2 ∧ spec_l14Block.l1 k a0 bk l x7 (st : Int) x9 (j : Int) = spec_l14Block.l0 k' a0 bk l (x7 ++ y) ((st + 1 : Nat) : Int) ∧
    ((∀ i, j ≤ i → i < l.length → hereF bk st (rd_T54 l i) = false) → y = x9) ∧ (∀ i, j ≤ i → i < l.length → hereF bk st (rd_T54 l i) = true → some y = impl_left.f st (rd_T54 l i).f2 (rd_T54 l i).f3) := by
  induction t with
  | zero =>
    intro j k x9 hj hk hx7 hx9
    obtain ⟨k, rfl⟩ : ∃ m, k = m + 1 := ⟨k - 1, by omega⟩
    refine ⟨k, x9, by omega, hx9, ?_, fun _ => rfl, fun i h1 h2 => by omega⟩
    simp only [spec_l14Block.l1]
    rw [if_neg (by omega), if_pos (by omega), sw (by omega) (by omega)]
    rfl
  | succ t ih =>
    intro j k x9 hj hk hx7 hx9
    obtain ⟨k, rfl⟩ : ∃ m, k = m + 1 := ⟨k - 1, by omega⟩
    simp only [spec_l14Block.l1]
    rw [if_pos (by omega), if_pos (by omega), sw (x := (j : Int) + 1) (by omega) (by omega)]
    by_cases c : hereF bk st (rd_T54 l j) = true
    · have c' : (rd_T54 l j).f0 = bk ∧ (rd_T54 l j).f1 = (st : Int) := by
        unfold hereF at c
        simpa using c
      obtain ⟨lf, hlf, hlf2⟩ := left_len (st : Int) (rd_T54 l j).f2 (rd_T54 l j).f3
      obtain ⟨k', y, h1, h2, h3, h4, h5⟩ := ih (j + 1) k lf (by omega) (by omega) hx7 hlf2
      rw [if_pos c'.1, if_pos c'.2, part_left, hlf, Option.bind_some]
      have hy : y = lf := h4 (fun i hi1 hi2 => by
        cases hh : hereF bk st (rd_T54 l i) with
        | false => rfl
        | true =>
          have hh' : (rd_T54 l i).f0 = bk ∧ (rd_T54 l i).f1 = (st : Int) := by unfold hereF at hh; simpa using hh
          exact absurd ⟨c'.1.trans hh'.1.symm, c'.2.trans hh'.2.symm⟩ (hO j i (by omega) hi2))
      refine ⟨k', y, by omega, h2, h3, fun h => absurd (h j (Nat.le_refl _) (by omega)) (by rw [c]; simp), fun i hi1 hi2 hi3 => ?_⟩
      by_cases hij : i = j
      · subst hij; rw [hy, hlf]
      · exact h5 i (by omega) hi2 hi3
    · have c' : ¬ ((rd_T54 l j).f0 = bk ∧ (rd_T54 l j).f1 = (st : Int)) := by
        intro h
        apply c
        unfold hereF
        rw [decide_eq_true h.1, decide_eq_true h.2]
        rfl
      obtain ⟨k', y, h1, h2, h3, h4, h5⟩ := ih (j + 1) k x9 (by omega) (by omega) hx7 hx9
      have hstep : (if (rd_T54 l j).f0 = bk then (if (rd_T54 l j).f1 = (st : Int) then ((spec_l14Part.f (st : Int) ((rd_T54 l j).f2) ((rd_T54 l j).f3)).bind fun t273 => (spec_l14Block.l1 k a0 bk l x7 (st : Int) t273 ((j : Int) + 1))) else (spec_l14Block.l1 k a0 bk l x7 (st : Int) x9 ((j : Int) + 1))) else (spec_l14Block.l1 k a0 bk l x7 (st : Int) x9 ((j : Int) + 1))) = spec_l14Block.l1 k a0 bk l x7 (st : Int) x9 ((j : Int) + 1) := by
        by_cases d0 : (rd_T54 l j).f0 = bk
        · rw [if_pos d0, if_neg (fun h => c' ⟨d0, h⟩)]
        · rw [if_neg d0]
      rw [hstep]
      refine ⟨k', y, by omega, h2, h3, fun h => h4 (fun i hi1 hi2 => h i (by omega) hi2), fun i hi1 hi2 hi3 => ?_⟩
      by_cases hij : i = j
      · subst hij; exact absurd hi3 c
      · exact h5 i (by omega) hi2 hi3
theorem sblock_is (N : Nat) (hN : N ≤ 12) (bk : Int) (l : List S54) (hl : l.length ≤ 20) (hO : Once l) (d : Nat) : ∀ (s k : Nat), s + d = N → 30 * d + 30 ≤ k → spec_l14Block.l0 k (N : Int) bk l (blockTo l bk s) (s : Int) = some (blockTo l bk N) := by
  induction d with
  | zero =>
    intro s k hs hk
    obtain ⟨k, rfl⟩ : ∃ m, k = m + 1 := ⟨k - 1, by omega⟩
    simp only [spec_l14Block.l0]
    rw [if_neg (by omega), show s = N by omega]
  | succ d ih =>
    intro s k hs hk
    obtain ⟨k, rfl⟩ : ∃ m, k = m + 1 := ⟨k - 1, by omega⟩
    simp only [spec_l14Block.l0]
    have hp : spec_l14Part.f (s : Int) 0 0 = some [(s : Int) + 1] := by
      unfold spec_l14Part.f
      rw [if_neg (by omega), if_neg (by omega), if_neg (by omega), if_neg (by omega), sw (by omega) (by omega)]
    have hbl := blockTo_len l bk s
    rw [if_pos (by omega), hp, Option.bind_some]
    obtain ⟨k', y, h1, h2, h3, h4, h5⟩ := part_loop (N : Int) bk l hl hO s (by omega) (blockTo l bk s) l.length 0 k [(s : Int) + 1] (by omega) (by omega) (by omega) (by simp)
    rw [show ((0 : Nat) : Int) = 0 from rfl] at h3
    rw [h3]
    have hy : y = stat l bk s := by
      unfold stat
      rcases idx_cases (hereF bk s) l 0 with ⟨g1, g2⟩ | ⟨j, hj, g1, g2⟩
      · rw [g1, if_pos (by omega), sw (by omega) (by omega)]
        exact h4 (fun i _ hi => by rw [rdT l i hi]; exact g2 _ (List.getElem_mem hi))
      · rw [g1, if_neg (by omega), show (0 : Int) + (j : Int) = (j : Int) by omega]
        have := h5 j (by omega) hj (by rw [rdT l j hj]; exact g2)
        rw [← this]
        rfl
    rw [hy]
    exact ih (s + 1) k' (by omega) (by omega)
theorem block_f (N : Nat) (hN : N ≤ 12) (bk : Int) (l : List S54) (hl : l.length ≤ 20) (hO : Once l) (k : Nat) (hk : 1000 ≤ k) : spec_l14Block.f k (N : Int) bk l = some (blockTo l bk N) := by
  have := sblock_is N hN bk l hl hO N 0 k (by omega) (by omega)
  rw [show ((0 : Nat) : Int) = 0 from rfl] at this
  exact this
theorem right_blockTo (N : Nat) (hN : N ≤ 12) (bk : Int) : blockTo [] bk N = rbTo N := by
  have : ∀ s, s ≤ N → blockTo [] bk s = rbTo s := by
    intro s
    induction s with
    | zero => intro _; rfl
    | succ s ih =>
      intro h
      simp only [blockTo, rbTo]
      rw [ih (by omega)]
      congr 1
      unfold stat
      rw [if_pos (by simp [idxFrom]), sw (by omega) (by omega)]
  exact this N (Nat.le_refl _)
theorem rd_books (l : List S54) (N : Nat) : ∀ (B b : Nat), b < B → rd_L3 (booksTo l N B) (b : Int) = blockTo l b N
  | 0, b, h => absurd h (by omega)
  | B + 1, b, h => by
    have hlen := booksTo_len l N B
    unfold rd_L3
    rw [Int.toNat_natCast, List.getD_eq_getElem?_getD]
    simp only [booksTo]
    by_cases c : b < B
    · have := rd_books l N B b c
      unfold rd_L3 at this
      rw [Int.toNat_natCast, List.getD_eq_getElem?_getD] at this
      rw [List.getElem?_append_left (by omega)]
      exact this
    · obtain rfl : b = B := by omega
      rw [List.getElem?_append_right (by omega), hlen]
      simp

end Go.Proofs.Ythfegojffgblmaa.Pure
