/- A code's text: seven digits, on the reference's side. -/
import Derived.Test.YtlicooehcladcaaDoorX2
import Derived.Test.YtlicooehcladcaaDoorPureSeven
namespace Go.Proofs.YtlicooehcladcaaDoor.Pure
open Go.RowKit Go.Proofs.YtlicooehcladcaaDoor.X Go.Proofs.YtlicooehcladcaaDoorW.PrintWords Go.Proofs.YtlicooehcladcaaDoorW.PrintLast
set_option linter.unusedVariables false
set_option linter.unusedSimpArgs false
theorem digits_is (k : Nat) (n : Int) (h0 : 0 ≤ n) (h1 : n ≤ 9999999) : spec_l15Digits.f (k + 9) n = some (digs n) := by
  have w : ∀ x : Int, 0 ≤ x → x ≤ 9999999 → wrap64 (Int.tdiv x 10) = x / 10 ∧ Int.tmod x 10 = x % 10 := fun x hx hy => by
    rw [Int.tdiv_eq_ediv_of_nonneg hx, Int.tmod_eq_emod_of_nonneg hx]
    exact ⟨by unfold wrap64; omega, rfl⟩
  have s : ∀ (k : Nat) (x : Int) (l : List Int) (i : Nat), i < 7 → l.length = 7 → 0 ≤ x → x ≤ 9999999 → spec_l15Digits.l0 (k + 1) x l (i : Int) = spec_l15Digits.l0 k (x / 10) (l.set i (x % 10)) ((i : Int) - 1) := fun k x l i hi hl hx hy => by
    simp only [spec_l15Digits.l0]
    rw [if_pos (by omega), if_pos (by omega), if_pos (by omega), (w x hx hy).1, (w x hx hy).2, Int.toNat_natCast]
    congr 1
    unfold wrap64; omega
  unfold spec_l15Digits.f
  rw [if_pos (by omega)]
  rw [show (6 : Int) = ((6 : Nat) : Int) from rfl, s (k + 8) n _ 6 (by omega) (by simp) h0 h1]
  rw [show ((6 : Nat) : Int) - 1 = ((5 : Nat) : Int) from rfl, s (k + 7) _ _ 5 (by omega) (by simp) (by omega) (by omega)]
  rw [show ((5 : Nat) : Int) - 1 = ((4 : Nat) : Int) from rfl, s (k + 6) _ _ 4 (by omega) (by simp) (by omega) (by omega)]
  rw [show ((4 : Nat) : Int) - 1 = ((3 : Nat) : Int) from rfl, s (k + 5) _ _ 3 (by omega) (by simp) (by omega) (by omega)]
  rw [show ((3 : Nat) : Int) - 1 = ((2 : Nat) : Int) from rfl, s (k + 4) _ _ 2 (by omega) (by simp) (by omega) (by omega)]
  rw [show ((2 : Nat) : Int) - 1 = ((1 : Nat) : Int) from rfl, s (k + 3) _ _ 1 (by omega) (by simp) (by omega) (by omega)]
  rw [show ((1 : Nat) : Int) - 1 = ((0 : Nat) : Int) from rfl, s (k + 2) _ _ 0 (by omega) (by simp) (by omega) (by omega)]
  simp only [spec_l15Digits.l0]
  rw [if_neg (by omega)]
  congr 1
  simp only [List.replicate, List.set_cons_zero, List.set_cons_succ, digs]
  simp only [Int.ediv_ediv_of_nonneg (show (0 : Int) ≤ 10 by omega), Int.reduceMul, List.cons.injEq, and_true, true_and]
  repeat' constructor
  all_goals omega
/-- A digit's text. -/
def dgB (y : Int) : ByteArray := strOfNums [(wrap64 (48 + y)) % 256]
theorem dgB_is (y : Int) (h0 : 0 ≤ y) (h1 : y ≤ 9) : dgB y = ⟨[UInt8.ofNat (48 + y.toNat)].toArray⟩ := by
  have : (wrap64 (48 + y)) % 256 = 48 + y := by unfold wrap64; omega
  unfold dgB
  rw [this]
  unfold strOfNums
  show (⟨[UInt8.ofNat (48 + y).toNat].toArray⟩ : ByteArray) = _
  rw [show (48 + y).toNat = 48 + y.toNat by omega]
theorem dgB_size (y : Int) (h0 : 0 ≤ y) (h1 : y ≤ 9) : (dgB y).size = 1 := by rw [dgB_is y h0 h1]; rfl
theorem join_is (k : Nat) (n : Int) (h0 : 0 ≤ n) (h1 : n ≤ 9999999) : spec_l01Join.f (k + 10) (digs n) ⟨#[]⟩ = some ⟨(txt n).toArray⟩ := by
  have s : ∀ (k : Nat) (l : List Int) (acc : List UInt8) (i : Nat) (y : Int), l.length = 7 → i < 7 → rd l (i : Int) = y → 0 ≤ y → y ≤ 9 → acc.length ≤ 100 → spec_l01Join.l0 (k + 2) l ⟨#[]⟩ ⟨acc.toArray⟩ (i : Int) = spec_l01Join.l0 (k + 1) l ⟨#[]⟩ ⟨(acc ++ [UInt8.ofNat (48 + y.toNat)]).toArray⟩ ((i + 1 : Nat) : Int) := fun k l acc i y hl hi hr hy0 hy1 ha => by
    have e : spec_l01Number.f (k + 1) y = some (dgB y) := by
      unfold spec_l01Number.f
      rw [if_neg (by omega)]
      simp only [spec_l01Dec.f]
      rw [if_pos (by omega)]
      rfl
    have hz : ((⟨#[]⟩ : ByteArray)).size = 0 := rfl
    have ha' : (⟨acc.toArray⟩ : ByteArray).size = acc.length := by simp [ByteArray.size]
    have he : (⟨acc.toArray⟩ : ByteArray) ++ ⟨#[]⟩ = ⟨acc.toArray⟩ := by
      have := ba_append acc []
      rw [List.append_nil] at this
      exact this
    have hw : wrap64 ((i : Int) + 1) = ((i + 1 : Nat) : Int) := by unfold wrap64; omega
    rw [spec_l01Join.l0, if_pos (by omega), he, hr, e, hw]
    simp only [Option.bind_some]
    rw [dgB_size y hy0 hy1, hz, ha', dgB_is y hy0 hy1, ba_append]
    split
    · rw [if_pos (by omega), if_pos (by omega), if_pos (by omega)]
    · rw [if_pos (by omega), if_pos (by omega)]
  unfold spec_l01Join.f
  have l7 : (digs n).length = 7 := rfl
  refine (s (k + 8) (digs n) [] 0 (n / 1000000 % 10) l7 (by omega) rfl (by omega) (by omega) (by simp)).trans ?_
  refine (s (k + 7) (digs n) _ 1 (n / 100000 % 10) l7 (by omega) rfl (by omega) (by omega) (by simp)).trans ?_
  refine (s (k + 6) (digs n) _ 2 (n / 10000 % 10) l7 (by omega) rfl (by omega) (by omega) (by simp)).trans ?_
  refine (s (k + 5) (digs n) _ 3 (n / 1000 % 10) l7 (by omega) rfl (by omega) (by omega) (by simp)).trans ?_
  refine (s (k + 4) (digs n) _ 4 (n / 100 % 10) l7 (by omega) rfl (by omega) (by omega) (by simp)).trans ?_
  refine (s (k + 3) (digs n) _ 5 (n / 10 % 10) l7 (by omega) rfl (by omega) (by omega) (by simp)).trans ?_
  refine (s (k + 2) (digs n) _ 6 (n % 10) l7 (by omega) rfl (by omega) (by omega) (by simp)).trans ?_
  rw [spec_l01Join.l0, if_neg (by rw [l7]; decide)]
  rfl
theorem code_text (k : Nat) (n : Int) : spec_CodeText.f (k + 10) n = some (codeTxt n) := by
  unfold spec_CodeText.f codeTxt
  rw [code_spec]
  simp only [Option.bind_some]
  by_cases c : codeB n = true
  · have h := of_decide_eq_true c
    rw [if_pos c, if_pos c, digits_is (k + 1) n h.1 h.2.1]
    simp only [Option.bind_some]
    rw [join_is k n h.1 h.2.1]
    rfl
  · rw [if_neg c, if_neg c]
end Go.Proofs.YtlicooehcladcaaDoor.Pure
