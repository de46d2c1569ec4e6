/- A code's text: seven digits, on the implementation's side. -/
import Derived.Test.YtlicooehcladcaaDoorX2
import Derived.Test.YtlicooehcladcaaDoorX1
import Derived.Test.YtlicooehcladcaaDoorECodeText
namespace Go.Proofs.YtlicooehcladcaaDoor.Pure
open Go.RowKit Go.Proofs.YtlicooehcladcaaDoor.X Go.Proofs.YtlicooehcladcaaDoorW.PrintWords Go.Proofs.YtlicooehcladcaaDoorW.PrintLast
set_option linter.unusedVariables false
set_option linter.unusedSimpArgs false
/-- The digits, from the highest. -/
def digs (n : Int) : List Int := [n / 1000000 % 10, n / 100000 % 10, n / 10000 % 10, n / 1000 % 10, n / 100 % 10, n / 10 % 10, n % 10]
/-- The seven digits as bytes. -/
def txt (n : Int) : List UInt8 := (digs n).map fun y => UInt8.ofNat (48 + y.toNat)
theorem ba_append (a b : List UInt8) : (⟨a.toArray⟩ : ByteArray) ++ ⟨b.toArray⟩ = ⟨(a ++ b).toArray⟩ := by
  apply ByteArray.ext
  simp
theorem nDigits_le : ∀ (k u : Nat), u < 10 ^ (k + 1) → Lib.nDigits u ≤ k + 1
  | 0, u, h => by rw [Lib.nDigits_small (by simpa using h)]; exact Nat.le_refl _
  | k + 1, u, h => by
    by_cases c : u < 10
    · rw [Lib.nDigits_small c]; omega
    · rw [Lib.nDigits_big c]
      rw [Nat.pow_succ] at h
      have := nDigits_le k (u / 10) (by omega)
      omega
theorem seven_is (n : Int) (h0 : 0 ≤ n) (h1 : n ≤ 9999999) : (decS n).size ≤ 7 ∧ sevenS n = ⟨(txt n).toArray⟩ := by
  obtain ⟨u, rfl⟩ := Int.eq_ofNat_of_zero_le h0
  have hu : u < 10000000 := by omega
  have hd : decS (u : Int) = ⟨(Lib.decDigits u).toArray⟩ := by
    unfold decS Lib.itoa
    rw [if_neg (by omega), Int.toNat_natCast]
  have hl : (decS (u : Int)).size = Lib.nDigits u := by rw [hd, ← Lib.decDigits_length]; simp [ByteArray.size]
  have hp := Lib.nDigits_pos u
  have hlt := Lib.lt_pow_nDigits u
  have hle : Lib.nDigits u ≤ 7 := nDigits_le 6 u (by omega)
  refine ⟨by omega, ?_⟩
  have ht : txt (u : Int) = (List.range 7).map fun t => Lib.dg u (6 - t) := by
    unfold txt digs
    simp only [List.map_cons, List.map_nil, List.range_succ, List.range_zero, List.nil_append, List.cons_append, List.map_append]
    simp only [Lib.dg, List.cons.injEq, and_true]
    refine ⟨?_, ?_, ?_, ?_, ?_, ?_, ?_⟩
    all_goals
      congr 1
      try simp only [Nat.reduceSub, Nat.reducePow]
      try omega
  unfold sevenS
  rw [hl, hd, ba_append]
  congr 2
  rw [ht, Lib.decDigits_eq]
  show Lib.repeatL (List.replicate 1 48) (7 - Lib.nDigits u) ++ _ = _
  rw [Lib.repeatL_replicate]
  refine List.ext_getElem (by simp; omega) fun i h1 h2 => ?_
  rw [List.getElem_append]
  simp only [List.length_replicate, Nat.mul_one]
  simp only [List.length_map, List.length_range] at h2
  split
  · rename_i hi
    simp only [List.getElem_replicate, List.getElem_map, List.getElem_range, Lib.dg]
    rw [Nat.div_eq_of_lt (Nat.lt_of_lt_of_le hlt (Nat.pow_le_pow_right (by omega) (by omega)))]
    rfl
  · rename_i hi
    simp only [List.getElem_map, List.getElem_range]
    congr 1
    omega
/-- Is it a code? -/
def codeB (m : Int) : Bool := decide (0 ≤ m ∧ m ≤ 9999999 ∧ m % 97 = 1 ∧ 1 ≤ m % 100 ∧ m % 100 ≤ 97)
theorem code_spec (m : Int) : spec_IsCode.f m = some (codeB m) := by
  unfold spec_IsCode.f spec_l01In.f spec_l15Remainder.f codeB
  by_cases h0 : 0 ≤ m
  · rw [if_pos h0]
    simp only [Option.bind_some, Int.tmod_eq_emod_of_nonneg h0]
    by_cases h1 : m ≤ 9999999
    · rw [if_pos (decide_eq_true h1)]
      by_cases h2 : 1 ≤ m % 100
      · rw [if_pos h2]
        simp only [Option.bind_some]
        by_cases h3 : m % 100 ≤ 97
        · rw [if_pos (decide_eq_true h3)]
          by_cases h4 : m % 97 = 1
          · rw [h4, decide_eq_true (show 0 ≤ m ∧ m ≤ 9999999 ∧ (1 : Int) = 1 ∧ 1 ≤ m % 100 ∧ m % 100 ≤ 97 from ⟨h0, h1, rfl, h2, h3⟩)]
            rfl
          · rw [beq_eq_false_iff_ne.2 h4, decide_eq_false (fun h => h4 h.2.2.1)]
        · rw [if_neg (by rw [decide_eq_false h3]; decide), decide_eq_false (fun h => h3 h.2.2.2.2)]
      · rw [if_neg h2]
        simp only [Option.bind_some]
        rw [if_neg (by decide), decide_eq_false (fun h => h2 h.2.2.2.1)]
    · rw [if_neg (by rw [decide_eq_false h1]; decide), decide_eq_false (fun h => h1 h.2.1)]
  · rw [if_neg h0]
    simp only [Option.bind_some]
    rw [if_neg (by decide), decide_eq_false (fun h => h0 h.1)]
theorem code_impl (m : Int) : impl_IsCode.f m = some (codeB m) := by
  unfold impl_IsCode.f impl_inRange.f codeB
  by_cases h0 : 0 ≤ m
  · rw [if_pos h0]
    simp only [Option.bind_some, Int.tmod_eq_emod_of_nonneg h0]
    by_cases h1 : m ≤ 9999999
    · rw [if_pos (decide_eq_true h1)]
      by_cases h4 : m % 97 = 1
      · rw [if_pos h4]
        by_cases h2 : 1 ≤ m % 100
        · rw [if_pos h2]
          simp only [Option.bind_some]
          congr 1
          exact decide_eq_decide.2 ⟨fun h3 => ⟨h0, h1, h4, h2, h3⟩, fun h => h.2.2.2.2⟩
        · rw [if_neg h2]
          simp only [Option.bind_some]
          rw [decide_eq_false (fun h => h2 h.2.2.2.1)]
      · rw [if_neg h4, decide_eq_false (fun h => h4 h.2.2.1)]
    · rw [if_neg (by rw [decide_eq_false h1]; decide), decide_eq_false (fun h => h1 h.2.1)]
  · rw [if_neg h0]
    simp only [Option.bind_some]
    rw [if_neg (by decide), decide_eq_false (fun h => h0 h.1)]
/-- A code's text, on both sides. -/
def codeTxt (n : Int) : ByteArray := if codeB n = true then ⟨(txt n).toArray⟩ else ⟨#[]⟩
theorem code_text_impl (n : Int) : impl_CodeText.f n = some (codeTxt n) := by
  unfold impl_CodeText.f codeTxt
  rw [code_impl]
  simp only [Option.bind_some]
  by_cases c : codeB n = true
  · have h := of_decide_eq_true c
    obtain ⟨h7, hs⟩ := seven_is n h.1 h.2.1
    rw [if_pos c, if_pos c, if_pos ⟨h7, by omega, by omega⟩, hs]
  · rw [if_neg c, if_neg c]
end Go.Proofs.YtlicooehcladcaaDoor.Pure
