/- Near codes: the reference's list is the program's, for every number; and what each of them is. No conditions. -/
import Derived.Test.YtlicooehcladcaaENearSpec
import Derived.Test.YtlicooehcladcaaENearImpl
namespace Go.Proofs.Ytlicooehcladcaa.Pure
open Go.RowKit Go.Proofs.Ytlicooehcladcaa.X Go.Proofs.YtlicooehcladcaaW.PrintWords Go.Proofs.YtlicooehcladcaaW.PrintLast
set_option linter.unusedVariables false
set_option linter.unusedSimpArgs false

theorem code_same (m : Int) : codeI m = codeS m := by
  have h1 := codeI_eq m
  have h2 := codeS_eq m
  have : impl_IsCode.f m = spec_IsCode.f m := by
    unfold impl_IsCode.f spec_IsCode.f impl_inRange.f spec_l01In.f spec_l15Remainder.f
    simp only [ge_iff_le, Option.bind_some]
    split
    · simp only [Option.bind_some]
      split
      · by_cases c : Int.tmod m 97 = 1
        · rw [if_pos c]
          split
          · simp only [Option.bind_some]
            split <;> simp_all
          · simp
        · rw [if_neg c]
          split
          · simp only [Option.bind_some]
            split <;> simp_all
          · simp
      · rfl
    · simp
  rw [h1, h2] at this
  exact Option.some.inj this
/-- The digits, from the highest. -/
def digs (n : Int) : List Int := [n / 1000000 % 10, n / 100000 % 10, n / 10000 % 10, n / 1000 % 10, n / 100 % 10, n / 10 % 10, n % 10]
theorem digS_is (n : Int) (h0 : 0 ≤ n) (h1 : n ≤ 9999999) : digS n = digs n := by
  have e : spec_l15Digits.f 9 n = some (digs n) := by
    have w : ∀ x : Int, 0 ≤ x → x ≤ 9999999 → wrap64 (Int.tdiv x 10) = x / 10 ∧ Int.tmod x 10 = x % 10 := fun x hx hy => by
      rw [Int.tdiv_eq_ediv_of_nonneg hx, Int.tmod_eq_emod_of_nonneg hx]
      exact ⟨by unfold wrap64; omega, rfl⟩
    have s : ∀ (k : Nat) (x : Int) (l : List Int) (i : Nat), i < 7 → l.length = 7 → 0 ≤ x → x ≤ 9999999 → spec_l15Digits.l0 (k + 1) x l (i : Int) = spec_l15Digits.l0 k (x / 10) (l.set i (x % 10)) ((i : Int) - 1) := fun k x l i hi hl hx hy => by
      simp only [spec_l15Digits.l0]
      rw [if_pos (by omega), if_pos (by omega), if_pos (by omega), (w x hx hy).1, (w x hx hy).2, Int.toNat_natCast]
      congr 1
      unfold wrap64; omega
    unfold spec_l15Digits.f
    rw [if_pos (by omega)]
    rw [show (6 : Int) = ((6 : Nat) : Int) from rfl, s 8 n _ 6 (by omega) (by simp) h0 h1]
    rw [show ((6 : Nat) : Int) - 1 = ((5 : Nat) : Int) from rfl, s 7 _ _ 5 (by omega) (by simp) (by omega) (by omega)]
    rw [show ((5 : Nat) : Int) - 1 = ((4 : Nat) : Int) from rfl, s 6 _ _ 4 (by omega) (by simp) (by omega) (by omega)]
    rw [show ((4 : Nat) : Int) - 1 = ((3 : Nat) : Int) from rfl, s 5 _ _ 3 (by omega) (by simp) (by omega) (by omega)]
    rw [show ((3 : Nat) : Int) - 1 = ((2 : Nat) : Int) from rfl, s 4 _ _ 2 (by omega) (by simp) (by omega) (by omega)]
    rw [show ((2 : Nat) : Int) - 1 = ((1 : Nat) : Int) from rfl, s 3 _ _ 1 (by omega) (by simp) (by omega) (by omega)]
    rw [show ((1 : Nat) : Int) - 1 = ((0 : Nat) : Int) from rfl, s 2 _ _ 0 (by omega) (by simp) (by omega) (by omega)]
    simp only [spec_l15Digits.l0]
    rw [if_neg (by omega)]
    congr 1
    simp only [List.replicate, List.set_cons_zero, List.set_cons_succ, digs]
    simp only [Int.ediv_ediv_of_nonneg (show (0 : Int) ≤ 10 by omega), Int.reduceMul, List.cons.injEq, and_true, true_and]
    repeat' constructor
    all_goals omega
  have := (digS_eq n).1
  rw [e] at this
  exact (Option.some.inj this).symm
theorem numS_is (a b c d e f g : Int) (ha : 0 ≤ a ∧ a ≤ 9) (hb : 0 ≤ b ∧ b ≤ 9) (hc : 0 ≤ c ∧ c ≤ 9) (hd : 0 ≤ d ∧ d ≤ 9) (he : 0 ≤ e ∧ e ≤ 9) (hf : 0 ≤ f ∧ f ≤ 9) (hg : 0 ≤ g ∧ g ≤ 9) :
    numS [a, b, c, d, e, f, g] = a * 1000000 + b * 100000 + c * 10000 + d * 1000 + e * 100 + f * 10 + g := by
  have s : ∀ (k : Nat) (l : List Int) (i : Nat) (x y : Int), l.length = 7 → i < 7 → rd l (i : Int) = y → 0 ≤ x → x ≤ 999999 → 0 ≤ y ∧ y ≤ 9 → spec_l15Number.l0 (k + 1) l x (i : Int) = spec_l15Number.l0 k l (10 * x + y) ((i + 1 : Nat) : Int) := fun k l i x y hl hi hr h0 h1 hy => by
    simp only [spec_l15Number.l0]
    rw [if_pos (by omega), if_pos (by omega), hr]
    congr 1
    · unfold wrap64; omega
    · unfold wrap64; omega
  have e : spec_l15Number.f 9 [a, b, c, d, e, f, g] = some (a * 1000000 + b * 100000 + c * 10000 + d * 1000 + e * 100 + f * 10 + g) := by
    unfold spec_l15Number.f
    rw [show (0 : Int) = ((0 : Nat) : Int) from rfl]
    rw [s 8 _ 0 _ a rfl (by omega) rfl (by omega) (by omega) ha, s 7 _ 1 _ b rfl (by omega) rfl (by omega) (by omega) hb, s 6 _ 2 _ c rfl (by omega) rfl (by omega) (by omega) hc, s 5 _ 3 _ d rfl (by omega) rfl (by omega) (by omega) hd, s 4 _ 4 _ e rfl (by omega) rfl (by omega) (by omega) he, s 3 _ 5 _ f rfl (by omega) rfl (by omega) (by omega) hf, s 2 _ 6 _ g rfl (by omega) rfl (by omega) (by omega) hg]
    simp only [spec_l15Number.l0]
    rw [if_neg (by simp)]
    congr 1
    omega
  unfold numS
  rw [e]
  rfl
/-- The number with digit d at the place j (from the lowest). -/
def swapAt (n : Int) (j d : Nat) : Int := n + ((d : Int) - n / ((10 ^ j : Nat) : Int) % 10) * ((10 ^ j : Nat) : Int)
theorem numS_set (n : Int) (h0 : 0 ≤ n) (h1 : n ≤ 9999999) (i d : Nat) (hi : i < 7) (hd : d < 10) : numS ((digS n).set i (d : Int)) = swapAt n (6 - i) d := by
  rw [digS_is n h0 h1]
  unfold digs swapAt
  have a0 : 0 ≤ n / 1000000 % 10 ∧ n / 1000000 % 10 ≤ 9 := by omega
  have a1 : 0 ≤ n / 100000 % 10 ∧ n / 100000 % 10 ≤ 9 := by omega
  have a2 : 0 ≤ n / 10000 % 10 ∧ n / 10000 % 10 ≤ 9 := by omega
  have a3 : 0 ≤ n / 1000 % 10 ∧ n / 1000 % 10 ≤ 9 := by omega
  have a4 : 0 ≤ n / 100 % 10 ∧ n / 100 % 10 ≤ 9 := by omega
  have a5 : 0 ≤ n / 10 % 10 ∧ n / 10 % 10 ≤ 9 := by omega
  have a6 : 0 ≤ n % 10 ∧ n % 10 ≤ 9 := by omega
  have ad : 0 ≤ (d : Int) ∧ (d : Int) ≤ 9 := by omega
  match i, hi with
  | 0, _ => simp only [List.set_cons_zero]; rw [numS_is _ _ _ _ _ _ _ ad a1 a2 a3 a4 a5 a6]; simp only [Nat.reduceSub, Nat.reducePow, Int.cast_ofNat_Int]; omega
  | 1, _ => simp only [List.set_cons_zero, List.set_cons_succ]; rw [numS_is _ _ _ _ _ _ _ a0 ad a2 a3 a4 a5 a6]; simp only [Nat.reduceSub, Nat.reducePow, Int.cast_ofNat_Int]; omega
  | 2, _ => simp only [List.set_cons_zero, List.set_cons_succ]; rw [numS_is _ _ _ _ _ _ _ a0 a1 ad a3 a4 a5 a6]; simp only [Nat.reduceSub, Nat.reducePow, Int.cast_ofNat_Int]; omega
  | 3, _ => simp only [List.set_cons_zero, List.set_cons_succ]; rw [numS_is _ _ _ _ _ _ _ a0 a1 a2 ad a4 a5 a6]; simp only [Nat.reduceSub, Nat.reducePow, Int.cast_ofNat_Int]; omega
  | 4, _ => simp only [List.set_cons_zero, List.set_cons_succ]; rw [numS_is _ _ _ _ _ _ _ a0 a1 a2 a3 ad a5 a6]; simp only [Nat.reduceSub, Nat.reducePow, Int.cast_ofNat_Int]; omega
  | 5, _ => simp only [List.set_cons_zero, List.set_cons_succ]; rw [numS_is _ _ _ _ _ _ _ a0 a1 a2 a3 a4 ad a6]; simp only [Nat.reduceSub, Nat.reducePow, Int.cast_ofNat_Int]; omega
  | 6, _ => simp only [List.set_cons_zero, List.set_cons_succ]; rw [numS_is _ _ _ _ _ _ _ a0 a1 a2 a3 a4 a5 ad]; simp only [Nat.reduceSub, Nat.reducePow, Int.cast_ofNat_Int]; omega
  | i + 7, h => omega
theorem dgI_is (n : Int) (h0 : 0 ≤ n) (h1 : n ≤ 9999999) (j : Nat) : dgI n ((10 ^ j : Nat) : Int) = n / ((10 ^ j : Nat) : Int) % 10 := by
  unfold dgI
  have hp : 1 ≤ (10 ^ j : Nat) := Nat.one_le_pow _ _ (by omega)
  obtain ⟨p, hp2⟩ : ∃ p : Nat, p = 10 ^ j := ⟨_, rfl⟩
  rw [← hp2] at hp ⊢
  have hq : 0 ≤ n / (p : Int) := Int.ediv_nonneg h0 (by omega)
  have hq2 : n / (p : Int) ≤ n := Int.ediv_le_self _ h0
  rw [Int.tdiv_eq_ediv_of_nonneg h0]
  obtain ⟨q, hqe⟩ : ∃ q, q = n / (p : Int) := ⟨_, rfl⟩
  rw [← hqe] at hq hq2 ⊢
  have : wrap64 q = q := by unfold wrap64; omega
  rw [this, Int.tmod_eq_emod_of_nonneg hq]
theorem mI_is (n : Int) (h0 : 0 ≤ n) (h1 : n ≤ 9999999) (j d : Nat) (hj : j < 7) (hd : d < 10) : mI n ((10 ^ j : Nat) : Int) (d : Int) = swapAt n j d := by
  unfold mI swapAt
  rw [dgI_is n h0 h1 j]
  obtain ⟨g, hg⟩ : ∃ g, g = n / ((10 ^ j : Nat) : Int) % 10 := ⟨_, rfl⟩
  have hg0 : 0 ≤ g ∧ g ≤ 9 := by rw [hg]; omega
  rw [← hg]
  clear hg
  match j, hj with
  | 0, _ => simp only [Nat.reducePow, Int.cast_ofNat_Int]; unfold wrap64; omega
  | 1, _ => simp only [Nat.reducePow, Int.cast_ofNat_Int]; unfold wrap64; omega
  | 2, _ => simp only [Nat.reducePow, Int.cast_ofNat_Int]; unfold wrap64; omega
  | 3, _ => simp only [Nat.reducePow, Int.cast_ofNat_Int]; unfold wrap64; omega
  | 4, _ => simp only [Nat.reducePow, Int.cast_ofNat_Int]; unfold wrap64; omega
  | 5, _ => simp only [Nat.reducePow, Int.cast_ofNat_Int]; unfold wrap64; omega
  | 6, _ => simp only [Nat.reducePow, Int.cast_ofNat_Int]; unfold wrap64; omega
  | j + 7, h => omega
theorem swap_self (n : Int) (j d : Nat) : swapAt n j d = n ↔ (d : Int) = n / ((10 ^ j : Nat) : Int) % 10 := by
  unfold swapAt
  have hp : 1 ≤ (10 ^ j : Nat) := Nat.one_le_pow _ _ (by omega)
  obtain ⟨p, hp2⟩ : ∃ p : Int, p = ((10 ^ j : Nat) : Int) := ⟨_, rfl⟩
  have hp3 : p ≠ 0 := by omega
  rw [← hp2]
  constructor
  · intro h
    have : ((d : Int) - n / p % 10) * p = 0 := by omega
    rcases Int.mul_eq_zero.1 this with h | h
    · omega
    · exact absurd h hp3
  · intro h
    rw [h]
    simp
/-- The near codes that differ at the place j. -/
def cands (n : Int) (j : Nat) (d : Nat) : List Int := if swapAt n j d = n then [] else if codeS (swapAt n j d) = true then [swapAt n j d] else []
def candsAt (n : Int) (j : Nat) : List Int := (List.range 10).flatMap (cands n j)
theorem candIn_is (n : Int) (h0 : 0 ≤ n) (h1 : n ≤ 9999999) (j : Nat) (hj : j < 7) (out : List Int) : ∀ d, d ≤ 10 → candIn n ((10 ^ j : Nat) : Int) out d = out ++ (List.range d).flatMap (cands n j)
  | 0, _ => by simp [candIn]
  | d + 1, hd => by
    rw [List.range_succ, List.flatMap_append, ← List.append_assoc, ← candIn_is n h0 h1 j hj out d (by omega)]
    simp only [candIn, candOne, List.flatMap_cons, List.flatMap_nil, List.append_nil, cands]
    rw [dgI_is n h0 h1 j, mI_is n h0 h1 j d hj (by omega), code_same]
    by_cases c : (d : Int) = n / ((10 ^ j : Nat) : Int) % 10
    · rw [if_pos c, if_pos ((swap_self n j d).2 c), List.append_nil]
    · rw [if_neg c, if_neg (fun h => c ((swap_self n j d).1 h))]
      split
      · rfl
      · rw [List.append_nil]
theorem candTo_is (n : Int) (h0 : 0 ≤ n) (h1 : n ≤ 9999999) : ∀ j, j ≤ 7 → candTo n j = (List.range j).flatMap (candsAt n)
  | 0, _ => rfl
  | j + 1, hj => by
    rw [List.range_succ, List.flatMap_append, ← candTo_is n h0 h1 j (by omega)]
    simp only [candTo, List.flatMap_cons, List.flatMap_nil, List.append_nil]
    rw [candIn_is n h0 h1 j (by omega) _ 10 (by omega)]
    rfl
theorem nearIn_is (n : Int) (h0 : 0 ≤ n) (h1 : n ≤ 9999999) (i : Nat) (hi : i < 7) (out : List Int) : ∀ d, d ≤ 10 → nearIn (digS n) n i out d = ((List.range d).flatMap (cands n (6 - i))).foldl ins out
  | 0, _ => rfl
  | d + 1, hd => by
    rw [List.range_succ, List.flatMap_append, List.foldl_append, ← nearIn_is n h0 h1 i hi out d (by omega)]
    simp only [nearIn, nearOne, List.flatMap_cons, List.flatMap_nil, List.append_nil, cands]
    rw [numS_set n h0 h1 i d hi (by omega)]
    split
    · rfl
    · split <;> rfl
theorem nearTo_is (n : Int) (h0 : 0 ≤ n) (h1 : n ≤ 9999999) : ∀ i, i ≤ 7 → nearTo (digS n) n i = ((List.range i).flatMap (fun i => candsAt n (6 - i))).foldl ins []
  | 0, _ => rfl
  | i + 1, hi => by
    rw [List.range_succ, List.flatMap_append, List.foldl_append, ← nearTo_is n h0 h1 i (by omega)]
    simp only [nearTo, List.flatMap_cons, List.flatMap_nil, List.append_nil]
    rw [nearIn_is n h0 h1 i (by omega) _ 10 (by omega)]
    rfl
theorem near_same (n : Int) (h0 : 0 ≤ n) (h1 : n ≤ 9999999) : nearTo (digS n) n 7 = (candTo n 7).mergeSort (fun x y => decide (x ≤ y)) := by
  rw [nearTo_is n h0 h1 7 (by omega), candTo_is n h0 h1 7 (by omega)]
  refine sort_eq _ _ ?_
  have h : ((List.range 7).map (fun i => 6 - i)).Perm (List.range 7) := by decide
  have := List.Perm.flatMap_right (candsAt n) h
  rw [List.flatMap_map] at this
  exact this
theorem near_both (n : Int) : ∃ r : List Int × Int, spec_NearCodes.f n = some r ∧ impl_NearCodes.f n = some r ∧ r.1.length ≤ 100 ∧ (r.2 = 0 → ∀ m ∈ r.1, 0 ≤ n ∧ n ≤ 9999999 ∧ codeS m = true ∧ ∃ j d : Nat, j < 7 ∧ d < 10 ∧ m = swapAt n j d ∧ m ≠ n) := by
  unfold spec_NearCodes.f impl_NearCodes.f
  by_cases c : 0 ≤ n ∧ n ≤ 9999999
  · rw [if_pos c, if_pos c, near_same n c.1 c.2]
    refine ⟨_, rfl, rfl, ?_, fun _ m hm => ?_⟩
    · show (List.mergeSort _ _).length ≤ 100
      rw [List.length_mergeSort]
      have := candTo_len n 7
      omega
    · have hm2 : m ∈ candTo n 7 := (List.mergeSort_perm _ _).mem_iff.1 hm
      rw [candTo_is n c.1 c.2 7 (by omega)] at hm2
      obtain ⟨j, hj, hmj⟩ := List.mem_flatMap.1 hm2
      obtain ⟨d, hd, hmd⟩ := List.mem_flatMap.1 hmj
      unfold cands at hmd
      split at hmd
      · simp at hmd
      · rename_i hne
        split at hmd
        · rename_i hc
          have hmd' : m = swapAt n j d := by simpa using hmd
          subst hmd'
          exact ⟨c.1, c.2, hc, j, d, List.mem_range.1 hj, List.mem_range.1 hd, rfl, hne⟩
        · simp at hmd
  · rw [if_neg c, if_neg c]
    exact ⟨_, rfl, rfl, by simp, fun h => by simp at h⟩
end Go.Proofs.Ytlicooehcladcaa.Pure
