/- A code's text: seven digits, on both sides. -/
import Derived.Test.YtlicooehcladcaaDoorX2
import Derived.Test.YtlicooehcladcaaDoorECodeText
namespace Go.Proofs.YtlicooehcladcaaDoor.Pure
open Go.RowKit Go.Proofs.YtlicooehcladcaaDoor.X Go.Proofs.YtlicooehcladcaaDoorW.PrintWords Go.Proofs.YtlicooehcladcaaDoorW.PrintLast
set_option linter.unusedVariables false
set_option linter.unusedSimpArgs false
/-- The digits, from the highest. -/
def digs (n : Int) : List Int := [n / 1000000 % 10, n / 100000 % 10, n / 10000 % 10, n / 1000 % 10, n / 100 % 10, n / 10 % 10, n % 10]
theorem digits_is (k : Nat) (n : Int) (h0 : 0 ≤ n) (h1 : n ≤ 9999999) : spec_l15Digits.f (k + 9) n = some (digs n) := by
  have w : ∀ x : Int, 0 ≤ x → x ≤ 9999999 → wrap64 (Int.tdiv x 10) = x / 10 ∧ Int.tmod x 10 = x % 10 := fun x hx hy => by
    rw [Int.tdiv_eq_ediv_of_nonneg hx, Int.tmod_eq_emod_of_nonneg hx]
    exact ⟨by unfold wrap64; omega, rfl⟩
  have s : ∀ (k : Nat) (x : Int) (l : List Int) (i : Nat), i < 7 → l.length = 7 → 0 ≤ x → x ≤ 9999999 → spec_l15Digits.l0 (k + 1) x l (i : Int) = spec_l15Digits.l0 k (x / 10) (l.set i (x % 10)) ((i : Int) - 1) := fun k x l i hi hl hx hy => by
    simp only [spec_l15Digits.l0]
    rw [if_pos (by omega), if_pos (by omega), if_pos (by omega), (w x hx hy).1, (w x hx hy).2, Int.toNat_natCast]
    congr 1
    unfold wrap64; omega
  unfold spec_l15Digits.f
  rw [if_pos (by omega)]
  rw [show (6 : Int) = ((6 : Nat) : Int) from rfl, s (k + 8) n _ 6 (by omega) (by simp) h0 h1]
  rw [show ((6 : Nat) : Int) - 1 = ((5 : Nat) : Int) from rfl, s (k + 7) _ _ 5 (by omega) (by simp) (by omega) (by omega)]
  rw [show ((5 : Nat) : Int) - 1 = ((4 : Nat) : Int) from rfl, s (k + 6) _ _ 4 (by omega) (by simp) (by omega) (by omega)]
  rw [show ((4 : Nat) : Int) - 1 = ((3 : Nat) : Int) from rfl, s (k + 5) _ _ 3 (by omega) (by simp) (by omega) (by omega)]
  rw [show ((3 : Nat) : Int) - 1 = ((2 : Nat) : Int) from rfl, s (k + 4) _ _ 2 (by omega) (by simp) (by omega) (by omega)]
  rw [show ((2 : Nat) : Int) - 1 = ((1 : Nat) : Int) from rfl, s (k + 3) _ _ 1 (by omega) (by simp) (by omega) (by omega)]
  rw [show ((1 : Nat) : Int) - 1 = ((0 : Nat) : Int) from rfl, s (k + 2) _ _ 0 (by omega) (by simp) (by omega) (by omega)]
  simp only [spec_l15Digits.l0]
  rw [if_neg (by omega)]
  congr 1
  simp only [List.replicate, List.set_cons_zero, List.set_cons_succ, digs]
  simp only [Int.ediv_ediv_of_nonneg (show (0 : Int) ≤ 10 by omega), Int.reduceMul, List.cons.injEq, and_true, true_and]
  repeat' constructor
  all_goals omega
/-- A digit's text. -/
def dgB (y : Int) : ByteArray := strOfNums [(wrap64 (48 + y)) % 256]
theorem dgB_is (y : Int) (h0 : 0 ≤ y) (h1 : y ≤ 9) : dgB y = ⟨[UInt8.ofNat (48 + y.toNat)].toArray⟩ := by
  have : (wrap64 (48 + y)) % 256 = 48 + y := by unfold wrap64; omega
  unfold dgB
  rw [this]
  unfold strOfNums
  show (⟨[UInt8.ofNat (48 + y).toNat].toArray⟩ : ByteArray) = _
  rw [show (48 + y).toNat = 48 + y.toNat by omega]
theorem dgB_size (y : Int) (h0 : 0 ≤ y) (h1 : y ≤ 9) : (dgB y).size = 1 := by rw [dgB_is y h0 h1]; rfl
/-- The seven digits as bytes. -/
def txt (n : Int) : List UInt8 := (digs n).map fun y => UInt8.ofNat (48 + y.toNat)
theorem ba_append (a b : List UInt8) : (⟨a.toArray⟩ : ByteArray) ++ ⟨b.toArray⟩ = ⟨(a ++ b).toArray⟩ := by
  apply ByteArray.ext
  simp
theorem join_is (k : Nat) (n : Int) (h0 : 0 ≤ n) (h1 : n ≤ 9999999) : spec_l01Join.f (k + 10) (digs n) ⟨#[]⟩ = some ⟨(txt n).toArray⟩ := by
  have s : ∀ (k : Nat) (l : List Int) (acc : List UInt8) (i : Nat) (y : Int), l.length = 7 → i < 7 → rd l (i : Int) = y → 0 ≤ y → y ≤ 9 → acc.length ≤ 100 → spec_l01Join.l0 (k + 2) l ⟨#[]⟩ ⟨acc.toArray⟩ (i : Int) = spec_l01Join.l0 (k + 1) l ⟨#[]⟩ ⟨(acc ++ [UInt8.ofNat (48 + y.toNat)]).toArray⟩ ((i + 1 : Nat) : Int) := fun k l acc i y hl hi hr hy0 hy1 ha => by
    have e : spec_l01Number.f (k + 1) y = some (dgB y) := by
      unfold spec_l01Number.f
      rw [if_neg (by omega)]
      simp only [spec_l01Dec.f]
      rw [if_pos (by omega)]
      rfl
    have hz : ((⟨#[]⟩ : ByteArray)).size = 0 := rfl
    have ha' : (⟨acc.toArray⟩ : ByteArray).size = acc.length := by simp [ByteArray.size]
    have he : (⟨acc.toArray⟩ : ByteArray) ++ ⟨#[]⟩ = ⟨acc.toArray⟩ := by
      have := ba_append acc []
      rw [List.append_nil] at this
      exact this
    have hw : wrap64 ((i : Int) + 1) = ((i + 1 : Nat) : Int) := by unfold wrap64; omega
    rw [spec_l01Join.l0, if_pos (by omega), he, hr, e, hw]
    simp only [Option.bind_some]
    rw [dgB_size y hy0 hy1, hz, ha', dgB_is y hy0 hy1, ba_append]
    split
    · rw [if_pos (by omega), if_pos (by omega), if_pos (by omega)]
    · rw [if_pos (by omega), if_pos (by omega)]
  unfold spec_l01Join.f
  have l7 : (digs n).length = 7 := rfl
  refine (s (k + 8) (digs n) [] 0 (n / 1000000 % 10) l7 (by omega) rfl (by omega) (by omega) (by simp)).trans ?_
  refine (s (k + 7) (digs n) _ 1 (n / 100000 % 10) l7 (by omega) rfl (by omega) (by omega) (by simp)).trans ?_
  refine (s (k + 6) (digs n) _ 2 (n / 10000 % 10) l7 (by omega) rfl (by omega) (by omega) (by simp)).trans ?_
  refine (s (k + 5) (digs n) _ 3 (n / 1000 % 10) l7 (by omega) rfl (by omega) (by omega) (by simp)).trans ?_
  refine (s (k + 4) (digs n) _ 4 (n / 100 % 10) l7 (by omega) rfl (by omega) (by omega) (by simp)).trans ?_
  refine (s (k + 3) (digs n) _ 5 (n / 10 % 10) l7 (by omega) rfl (by omega) (by omega) (by simp)).trans ?_
  refine (s (k + 2) (digs n) _ 6 (n % 10) l7 (by omega) rfl (by omega) (by omega) (by simp)).trans ?_
  rw [spec_l01Join.l0, if_neg (by rw [l7]; decide)]
  rfl
theorem nDigits_le : ∀ (k u : Nat), u < 10 ^ (k + 1) → Lib.nDigits u ≤ k + 1
  | 0, u, h => by rw [Lib.nDigits_small (by simpa using h)]; exact Nat.le_refl _
  | k + 1, u, h => by
    by_cases c : u < 10
    · rw [Lib.nDigits_small c]; omega
    · rw [Lib.nDigits_big c]
      rw [Nat.pow_succ] at h
      have := nDigits_le k (u / 10) (by omega)
      omega
theorem seven_is (n : Int) (h0 : 0 ≤ n) (h1 : n ≤ 9999999) : (decS n).size ≤ 7 ∧ sevenS n = ⟨(txt n).toArray⟩ := by
  obtain ⟨u, rfl⟩ := Int.eq_ofNat_of_zero_le h0
  have hu : u < 10000000 := by omega
  have hd : decS (u : Int) = ⟨(Lib.decDigits u).toArray⟩ := by
    unfold decS Lib.itoa
    rw [if_neg (by omega), Int.toNat_natCast]
  have hl : (decS (u : Int)).size = Lib.nDigits u := by rw [hd, ← Lib.decDigits_length]; simp [ByteArray.size]
  have hp := Lib.nDigits_pos u
  have hlt := Lib.lt_pow_nDigits u
  have hle : Lib.nDigits u ≤ 7 := nDigits_le 6 u (by omega)
  refine ⟨by omega, ?_⟩
  have ht : txt (u : Int) = (List.range 7).map fun t => Lib.dg u (6 - t) := by
    unfold txt digs
    simp only [List.map_cons, List.map_nil, List.range_succ, List.range_zero, List.nil_append, List.cons_append, List.map_append]
    simp only [Lib.dg, List.cons.injEq, and_true]
    refine ⟨?_, ?_, ?_, ?_, ?_, ?_, ?_⟩
    all_goals
      congr 1
      try simp only [Nat.reduceSub, Nat.reducePow]
      try omega
  unfold sevenS
  rw [hl, hd, ba_append]
  congr 2
  rw [ht, Lib.decDigits_eq]
  show Lib.repeatL (List.replicate 1 48) (7 - Lib.nDigits u) ++ _ = _
  rw [Lib.repeatL_replicate]
  refine List.ext_getElem (by simp; omega) fun i h1 h2 => ?_
  rw [List.getElem_append]
  simp only [List.length_replicate, Nat.mul_one]
  simp only [List.length_map, List.length_range] at h2
  split
  · rename_i hi
    simp only [List.getElem_replicate, List.getElem_map, List.getElem_range, Lib.dg]
    rw [Nat.div_eq_of_lt (Nat.lt_of_lt_of_le hlt (Nat.pow_le_pow_right (by omega) (by omega)))]
    rfl
  · rename_i hi
    simp only [List.getElem_map, List.getElem_range]
    congr 1
    omega
/-- Is it a code? -/
def codeB (m : Int) : Bool := decide (0 ≤ m ∧ m ≤ 9999999 ∧ m % 97 = 1 ∧ 1 ≤ m % 100 ∧ m % 100 ≤ 97)
theorem code_spec (m : Int) : spec_IsCode.f m = some (codeB m) := by
  unfold spec_IsCode.f spec_l01In.f spec_l15Remainder.f codeB
  by_cases h0 : 0 ≤ m
  · rw [if_pos h0]
    simp only [Option.bind_some, Int.tmod_eq_emod_of_nonneg h0]
    by_cases h1 : m ≤ 9999999
    · rw [if_pos (decide_eq_true h1)]
      by_cases h2 : 1 ≤ m % 100
      · rw [if_pos h2]
        simp only [Option.bind_some]
        by_cases h3 : m % 100 ≤ 97
        · rw [if_pos (decide_eq_true h3)]
          by_cases h4 : m % 97 = 1
          · rw [h4, decide_eq_true (show 0 ≤ m ∧ m ≤ 9999999 ∧ (1 : Int) = 1 ∧ 1 ≤ m % 100 ∧ m % 100 ≤ 97 from ⟨h0, h1, rfl, h2, h3⟩)]
            rfl
          · rw [beq_eq_false_iff_ne.2 h4, decide_eq_false (fun h => h4 h.2.2.1)]
        · rw [if_neg (by rw [decide_eq_false h3]; decide), decide_eq_false (fun h => h3 h.2.2.2.2)]
      · rw [if_neg h2]
        simp only [Option.bind_some]
        rw [if_neg (by decide), decide_eq_false (fun h => h2 h.2.2.2.1)]
    · rw [if_neg (by rw [decide_eq_false h1]; decide), decide_eq_false (fun h => h1 h.2.1)]
  · rw [if_neg h0]
    simp only [Option.bind_some]
    rw [if_neg (by decide), decide_eq_false (fun h => h0 h.1)]
theorem code_impl (m : Int) : impl_IsCode.f m = some (codeB m) := by
  unfold impl_IsCode.f impl_inRange.f codeB
  by_cases h0 : 0 ≤ m
  · rw [if_pos h0]
    simp only [Option.bind_some, Int.tmod_eq_emod_of_nonneg h0]
    by_cases h1 : m ≤ 9999999
    · rw [if_pos (decide_eq_true h1)]
      by_cases h4 : m % 97 = 1
      · rw [if_pos h4]
        by_cases h2 : 1 ≤ m % 100
        · rw [if_pos h2]
          simp only [Option.bind_some]
          congr 1
          exact decide_eq_decide.2 ⟨fun h3 => ⟨h0, h1, h4, h2, h3⟩, fun h => h.2.2.2.2⟩
        · rw [if_neg h2]
          simp only [Option.bind_some]
          rw [decide_eq_false (fun h => h2 h.2.2.2.1)]
      · rw [if_neg h4, decide_eq_false (fun h => h4 h.2.2.1)]
    · rw [if_neg (by rw [decide_eq_false h1]; decide), decide_eq_false (fun h => h1 h.2.1)]
  · rw [if_neg h0]
    simp only [Option.bind_some]
    rw [if_neg (by decide), decide_eq_false (fun h => h0 h.1)]
/-- A code's text, on both sides. -/
def codeTxt (n : Int) : ByteArray := if codeB n = true then ⟨(txt n).toArray⟩ else ⟨#[]⟩
theorem code_text' (k : Nat) (n : Int) : spec_CodeText.f (k + 10) n = some (codeTxt n) ∧ impl_CodeText.f n = some (codeTxt n) := by
  unfold spec_CodeText.f impl_CodeText.f codeTxt
  rw [code_spec, code_impl]
  simp only [Option.bind_some]
  by_cases c : codeB n = true
  · have h := of_decide_eq_true c
    obtain ⟨h7, hs⟩ := seven_is n h.1 h.2.1
    rw [if_pos c, if_pos c, if_pos c, digits_is (k + 1) n h.1 h.2.1, if_pos ⟨h7, by omega, by omega⟩, hs]
    simp only [Option.bind_some]
    rw [join_is k n h.1 h.2.1]
    exact ⟨rfl, trivial⟩
  · rw [if_neg c, if_neg c, if_neg c]
    exact ⟨rfl, rfl⟩
theorem code_text (k : Nat) (n : Int) : ∃ r, spec_CodeText.f (k + 10) n = some r ∧ impl_CodeText.f n = some r := ⟨_, code_text' k n⟩
end Go.Proofs.YtlicooehcladcaaDoor.Pure
