/- impl.CodeText walked. The table that FormatInt reads: a condition (LaidT). -/
import Derived.Test.YtlicooehcladcaaDoorX2
import Derived.Test.YtlicooehcladcaaDoorEFmt
namespace Go.Proofs.YtlicooehcladcaaDoor.X
open Go.RowKit Go.Sort Go.Proofs.YtlicooehcladcaaDoorW.PrintWords Go.Proofs.YtlicooehcladcaaDoorW.PrintLast Go.Proofs.YtlicooehcladcaaDoorW.PrintMore
set_option linter.unusedVariables false
set_option linter.unusedSimpArgs false

/-- A number in decimal. -/
def decS (n : Int) : ByteArray := ⟨(Lib.itoa n).toArray⟩
/-- A number with seven digits. -/
def sevenS (n : Int) : ByteArray := ⟨(Lib.repeatL (⟨#[48]⟩ : ByteArray).data.toList (7 - (decS n).size)).toArray⟩ ++ decS n
def impl_CodeText.f (a0 : Int) : Option ByteArray := (impl_IsCode.f a0).bind fun t => if t = true then (if (decS a0).size ≤ 7 ∧ -9223372036854775808 ≤ a0 ∧ a0 ≤ 9223372036854775807 then some (sevenS a0) else none) else some ⟨#[]⟩

theorem grow_below {B : Nat} {w W : World} (h : Below B w W) (hB : B ≤ W.heap.size) (os : Array Obj) : Below B w (grow W os) :=
  h.trans ⟨rfl, rfl, rfl, by simp [size_grow], fun i hi => heap_grow_old W os (by omega)⟩
set_option maxHeartbeats 4000000 in
set_option maxRecDepth 100000 in
theorem impl_decimal.calls (a0 : Int) (w : World) (ht : LaidT w) (h0 : -9223372036854775808 ≤ a0) (h1 : a0 ≤ 9223372036854775807) :
    Calls Tryd.prog 35 #[.int .i64 a0] w fun e w' => e = .returned (.string (decS a0)) ∧ Below w.heap.size w w' := by
  go_enter Tryd.func35, Tryd.ntmps35
  go_wp2_with (go_at_call 40; (with_reducible refine (format_int a0 h0 h1 _ ht).mono ?_); rintro e w5 ⟨rfl, k, os, rfl⟩)
  go_ret
  exact ⟨rfl, grow_below (pw_below_drewN (Below.refl _ _) k) (Nat.le_refl _) os⟩
set_option maxHeartbeats 4000000 in
set_option maxRecDepth 100000 in
theorem impl_seven.calls (a0 : Int) (w : World) (ht : LaidT w) (h0 : -9223372036854775808 ≤ a0) (h1 : a0 ≤ 9223372036854775807) (h7 : (decS a0).size ≤ 7) :
    Calls Tryd.prog 22 #[.int .i64 a0] w fun e w' => e = .returned (.string (sevenS a0)) ∧ Below w.heap.size w w' := by
  go_enter Tryd.func22, Tryd.ntmps22
  have hs : (⟨(Lib.repeatL (⟨#[48]⟩ : ByteArray).data.toList (7 - (decS a0).size)).toArray⟩ : ByteArray).size + (decS a0).size ≤ 9223372036854775807 := by
    have : (⟨(Lib.repeatL (⟨#[48]⟩ : ByteArray).data.toList (7 - (decS a0).size)).toArray⟩ : ByteArray).size = (7 - (decS a0).size) * 1 := by
      show (Lib.repeatL _ _).toArray.size = _
      rw [List.size_toArray, Lib.repeatL_length]
      rfl
    omega
  have hs0 := eq_true hs
  have hs1 := decide_eq_true hs
  have hs2 := eq_false (Nat.not_lt.2 hs)
  go_wp2_with (first | (go_at_call 35; (with_reducible refine (impl_decimal.calls a0 _ ht h0 h1).mono ?_); rintro e w5 ⟨rfl, hb5⟩) | (go_at_call 36; rw [show (7 : Int) - ((decS a0).size : Int) = ((7 - (decS a0).size : Nat) : Int) by omega]; (with_reducible refine (repeat_str _ (7 - (decS a0).size) _ (by omega) (by rw [show (⟨#[48]⟩ : ByteArray).size = 1 from rfl]; omega)).mono ?_); rintro e w6 ⟨rfl, hb6⟩))
  go_ret
  exact ⟨rfl, below_step hb5 hb6⟩
set_option maxHeartbeats 4000000 in
set_option maxRecDepth 100000 in
theorem impl_CodeText.calls (a0 : Int) (r : ByteArray) (w : World) (h : impl_CodeText.f a0 = some r) (ht : LaidT w) :
    Calls Tryd.prog 7 #[.int .i64 a0] w fun e w' => e = .returned (.string r) ∧ Below w.heap.size w w' := by
  unfold impl_CodeText.f at h
  obtain ⟨t, hc, h⟩ := Option.bind_eq_some_iff.mp h
  cases t with
  | false =>
    simp only [Bool.false_eq_true, if_false, Option.some.injEq] at h
    subst h
    go_enter Tryd.func7, Tryd.ntmps7
    go_wp2_with (go_at_call 18; (with_reducible refine (impl_IsCode.calls a0 false _ hc).mono ?_); rintro e w5 ⟨rfl, ⟨nd, rfl⟩⟩)
    go_ret
    exact ⟨rfl, pw_below_drewN (Below.refl _ _) nd⟩
  | true =>
    simp only [if_true] at h
    by_cases h7 : (decS a0).size ≤ 7 ∧ -9223372036854775808 ≤ a0 ∧ a0 ≤ 9223372036854775807
    · rw [if_pos h7] at h
      obtain rfl := Option.some.inj h
      have hh := Aside0.mk h7
      clear h7
      go_enter Tryd.func7, Tryd.ntmps7
      go_wp2_with (first | (go_at_call 18; (with_reducible refine (impl_IsCode.calls a0 true _ hc).mono ?_); rintro e w5 ⟨rfl, ⟨nd, rfl⟩⟩) | (go_at_call 22; (with_reducible refine (impl_seven.calls a0 _ (laidT_below ht (pw_below_drewN (Below.refl _ _) nd)) hh.out.2.1 hh.out.2.2 hh.out.1).mono ?_); rintro e w6 ⟨rfl, hb6⟩))
      go_ret
      exact ⟨rfl, below_step (pw_below_drewN (Below.refl _ _) nd) hb6⟩
    · rw [if_neg h7] at h
      cases h
end Go.Proofs.YtlicooehcladcaaDoor.X
