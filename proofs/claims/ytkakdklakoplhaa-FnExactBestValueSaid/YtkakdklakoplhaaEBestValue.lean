/- impl.BestValue walked. No conditions. -/
import Derived.Test.YtkakdklakoplhaaX3
import Derived.Test.YtkakdklakoplhaaEValues
namespace Go.Proofs.Ytkakdklakoplhaa.X
open Go.RowKit Go.Proofs.YtkakdklakoplhaaW.PrintWords Go.Proofs.YtkakdklakoplhaaW.PrintLast Go.Proofs.YtkakdklakoplhaaW.PrintMore
set_option linter.unusedVariables false
set_option linter.unusedSimpArgs false

theorem checkTable_is (a0 a1 : Int) (l2 : List S35) : impl_checkTable.f a0 a1 l2 = some (if catOk l2 = true then (if 1 ≤ a0 ∧ a0 ≤ 40 ∧ 1 ≤ a1 ∧ a1 ≤ 40 then 0 else 2) else 1) := by
  unfold impl_checkTable.f impl_IsCatalogue.f
  rw [Option.bind_some]
  cases hc : catOk l2 with
  | false => rfl
  | true =>
    rw [if_pos rfl, if_pos rfl, inR_is, inR_is, Option.bind_some, Option.bind_some]
    by_cases h1 : 1 ≤ a0 <;> by_cases h2 : a0 ≤ 40 <;> by_cases h3 : 1 ≤ a1 <;> by_cases h4 : a1 ≤ 40 <;> simp [h1, h2, h3, h4]
theorem catOk_len (l2 : List S35) (h : catOk l2 = true) : l2.length ≤ 6 ∧ 1 ≤ l2.length := by
  unfold catOk at h
  simp only [Bool.and_eq_true, decide_eq_true_eq] at h
  omega
def impl_BestValue.f (a0 a1 : Int) (l2 : List S35) : Option (Int × Int) := (impl_checkTable.f a0 a1 l2).bind fun c => if c = 0 then some (tab l2 a0.toNat a1.toNat, 0) else some (0, c)

set_option maxHeartbeats 8000000 in
set_option maxRecDepth 100000 in
theorem impl_BestValue.calls (a0 : Int) (a1 : Int) (A2 : Option Addr) (c2 : Nat) (l2 : List S35) (r1 : Int) (r2 : Int) (w : World) (hr2 : Kd.C k35 w A2 l2.length l2) (hc2 : l2.length ≤ c2) (h : impl_BestValue.f a0 a1 l2 = some (r1, r2)) :
    Calls Try.prog 7 #[.int .i64 a0, .int .i64 a1, .slice A2 l2.length c2] w fun e w' => e = .returned (.tuple #[.int .i64 r1, .int .i64 r2]) ∧ Below w.heap.size w w' := by
  unfold impl_BestValue.f at h
  obtain ⟨c, hc, h⟩ := Option.bind_eq_some_iff.1 h
  have HK := Aside0.mk hc
  have HR := Aside0.mk hr2
  have HC := Aside0.mk hc2
  by_cases c0 : c = 0
  · rw [if_pos c0] at h
    simp only [Option.some.injEq, Prod.mk.injEq] at h
    obtain ⟨hr1, rfl⟩ := h
    rw [checkTable_is] at hc
    have hlim : catOk l2 = true ∧ 1 ≤ a0 ∧ a0 ≤ 40 ∧ 1 ≤ a1 ∧ a1 ≤ 40 := by
      have hc := Option.some.inj hc
      by_cases h1 : catOk l2 = true
      · rw [if_pos h1] at hc
        by_cases h2 : 1 ≤ a0 ∧ a0 ≤ 40 ∧ 1 ≤ a1 ∧ a1 ≤ 40
        · exact ⟨h1, h2⟩
        · rw [if_neg h2] at hc; omega
      · rw [if_neg h1] at hc; omega
    have hl := (catOk_len l2 hlim.1).1
    have HLIM := Aside0.mk hlim.2
    have HLL := Aside0.mk hl
    have HR1 := Aside0.mk hr1
    have c0b : (c != 0) = false := bne_eq_false_iff_eq.mpr c0
    clear hc hr2 hc2 hr1 hlim hl c0
    have x0 := eq_true (show 0 ≤ a0 by have := HLIM.out; omega)
    have x1 := eq_true (show a0 < 41 by have := HLIM.out; omega)
    have y0 := eq_true (show 0 ≤ a1 by have := HLIM.out; omega)
    have y1 := eq_true (show a1 < 41 by have := HLIM.out; omega)
    go_enter Try.func7, Try.ntmps7
    go_wp2_with (first
      | (go_at_call 12; (with_reducible refine (impl_checkTable.calls a0 a1 A2 c2 l2 c w ?side1 ?side2 HK.out).mono ?_); (case side1 => exact HR.out); (case side2 => exact HC.out); rintro e w1 ⟨rfl, hb⟩; have HB1 := Aside0.mk hb; clear hb)
      | (go_at_call 13; (with_reducible refine (impl_valuesOf.calls a0 a1 A2 c2 l2 _ ?side1 ?side2 ?side3 ?side4 ?side5).mono ?_); (case side1 => exact Kd.C_below HR.out HB1.out); (case side2 => exact HC.out); (case side3 => have := HLIM.out; omega); (case side4 => have := HLIM.out; omega); (case side5 => have := HLL.out; omega); rintro e w2 ⟨g, rfl, hg, ht, hb⟩; have hcell := ht.at_ a0 a1 ⟨by have := HLIM.out; omega, by have := HLIM.out; omega⟩ ⟨by have := HLIM.out; omega, by have := HLIM.out; omega⟩ (vUpto_done l2 a1.toNat (a0.toNat + 1) 0 a0.toNat a1.toNat (by have := HLIM.out; omega) (by omega)); rw [HR1.out] at hcell; have HB2 := Aside0.mk (below_step HB1.out hb); clear hg ht hb))
    go_ret2
    exact ⟨rfl, HB2.out⟩
  · rw [if_neg c0] at h
    simp only [Option.some.injEq, Prod.mk.injEq] at h
    obtain ⟨rfl, rfl⟩ := h
    have c0b : (c != 0) = true := bne_iff_ne.mpr c0
    clear hc hr2 hc2 c0
    go_enter Try.func7, Try.ntmps7
    go_wp2_with (go_at_call 12; (with_reducible refine (impl_checkTable.calls a0 a1 A2 c2 l2 c w ?side1 ?side2 HK.out).mono ?_); (case side1 => exact HR.out); (case side2 => exact HC.out); rintro e w1 ⟨rfl, hb⟩; have HB1 := Aside0.mk hb; clear hb)
    go_ret2
    exact ⟨rfl, HB1.out⟩
end Go.Proofs.Ytkakdklakoplhaa.X
