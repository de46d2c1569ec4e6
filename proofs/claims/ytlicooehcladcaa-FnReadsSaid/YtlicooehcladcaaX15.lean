-- Written by this session's own program (wip/xprint.py) out of the translation; Lean checks it.
import Derived.Test.YtlicooehcladcaaX0
import Derived.Test.YtlicooehcladcaaX2
import Derived.Test.YtlicooehcladcaaX10
import Derived.Test.YtlicooehcladcaaX11
import Derived.Test.YtlicooehcladcaaX12
import Derived.Test.YtlicooehcladcaaX13
import Derived.Test.YtlicooehcladcaaX14
import Derived.Test.YtlicooehcladcaaEBestCode
import Derived.Test.YtlicooehcladcaaENearImpl
import Derived.Test.YtlicooehcladcaaENearSpec
namespace Go.Proofs.Ytlicooehcladcaa.X
open Go.RowKit Go.Proofs.YtlicooehcladcaaW.PrintWords Go.Proofs.YtlicooehcladcaaW.PrintLast Go.Proofs.YtlicooehcladcaaW.PrintMore
attribute [local go_sem] max2_int min2_int max_two min_two max_three min_three max_four min_four   -- for this text's walks alone
set_option linter.unusedVariables false
set_option linter.unusedSimpArgs false

/-! ### laws_FnReads: function 4 -/
mutual
def laws_FnReads.j0 : Nat → List Int → Int → Int → Int → Int → List Int → Int → Int → Int → Int → List Int → Bool → Option (Bool)
  | 0, _, _, _, _, _, _, _, _, _, _, _, _ => none
  | k + 1, x3, x4, x5, x6, x7, x10, x11, x12, x13, x17, x18, x111 => if x111 = true then (some false) else (laws_FnReads.l0 k x3 x4 x5 x6 x7 x10 x11 x12 x13 x17 x18 0)
def laws_FnReads.l0 : Nat → List Int → Int → Int → Int → Int → List Int → Int → Int → Int → Int → List Int → Int → Option (Bool)
  | 0, _, _, _, _, _, _, _, _, _, _, _, _ => none
  | k + 1, x3, x4, x5, x6, x7, x10, x11, x12, x13, x17, x18, x22 => if x22 < (x18.length : Int) then (if 0 ≤ x22 then (laws_FnReads.l1 k x3 x4 x5 x6 x7 x10 x11 x12 x13 x17 x18 x22 0 (rd x18 x22) x17 0) else (none)) else (if x13 = 0 then (laws_FnReads.l2 k x3 x4 x5 x6 x7 x10 x11 x12 0 0) else (laws_FnReads.j4 k x3 x4 x5 x6 x7))
def laws_FnReads.l1 : Nat → List Int → Int → Int → Int → Int → List Int → Int → Int → Int → Int → List Int → Int → Int → Int → Int → Int → Option (Bool)
  | 0, _, _, _, _, _, _, _, _, _, _, _, _, _, _, _, _ => none
  | k + 1, x3, x4, x5, x6, x7, x10, x11, x12, x13, x17, x18, x22, x23, x24, x25, x26 => if x26 < 7 then (if (Int.tmod x24 10) = (Int.tmod x25 10) then (laws_FnReads.l1 k x3 x4 x5 x6 x7 x10 x11 x12 x13 x17 x18 x22 x23 (wrap64 (Int.tdiv x24 10)) (wrap64 (Int.tdiv x25 10)) (wrap64 (x26 + 1))) else (laws_FnReads.l1 k x3 x4 x5 x6 x7 x10 x11 x12 x13 x17 x18 x22 (wrap64 (x23 + 1)) (wrap64 (Int.tdiv x24 10)) (wrap64 (Int.tdiv x25 10)) (wrap64 (x26 + 1)))) else (if x23 = 1 then (if 0 ≤ x22 then (if x22 < (x18.length : Int) then ((impl_IsCode.f (rd x18 x22)).bind fun t421 => (if t421 = true then (laws_FnReads.l0 k x3 x4 x5 x6 x7 x10 x11 x12 x13 x17 x18 (wrap64 (x22 + 1))) else (some false))) else (none)) else (none)) else (some false))
def laws_FnReads.j4 : Nat → List Int → Int → Int → Int → Int → Option (Bool)
  | 0, _, _, _, _, _ => none
  | k + 1, x3, x4, x5, x6, x7 => if x7 = 0 then (laws_FnReads.l3 k x3 x4 x6 (wrap64 ((wrap64 (x6 - x5)) + 1))) else (some true)
def laws_FnReads.l3 : Nat → List Int → Int → Int → Int → Option (Bool)
  | 0, _, _, _, _ => none
  | k + 1, x3, x4, x6, x29 => if x29 ≤ x6 then (if 0 ≤ x29 then (if x29 < (x3.length : Int) then (if (rd x3 x29) = x4 then (some false) else (laws_FnReads.l3 k x3 x4 x6 (wrap64 (x29 + 1)))) else (none)) else (none)) else (some true)
def laws_FnReads.l2 : Nat → List Int → Int → Int → Int → Int → List Int → Int → Int → Int → Int → Option (Bool)
  | 0, _, _, _, _, _, _, _, _, _, _ => none
  | k + 1, x3, x4, x5, x6, x7, x10, x11, x12, x27, x28 => if x28 < (x10.length : Int) then (if 0 ≤ x28 then (if (rd x10 x28) = x11 then (laws_FnReads.l2 k x3 x4 x5 x6 x7 x10 x11 x12 (wrap64 (x27 + 1)) (wrap64 (x28 + 1))) else (laws_FnReads.l2 k x3 x4 x5 x6 x7 x10 x11 x12 x27 (wrap64 (x28 + 1)))) else (none)) else (if x27 = x12 then ((impl_IsCode.f x11).bind fun t423 => (if t423 = true then (laws_FnReads.j4 k x3 x4 x5 x6 x7) else (some false))) else (some false))
end
def laws_FnReads.f (k : Nat) (l0 : List Int) : Option (Bool) := (laws_big.f l0).bind fun t390 => (if t390 = true then (some true) else ((spec_DrawStopAfter.f k l0).bind fun bt391 => ((impl_StopAfter.f k bt391.1 bt391.2.1 bt391.2.2).bind fun bt396 => ((spec_StopAfter.f k bt391.1 bt391.2.1 bt391.2.2).bind fun bt398 => ((spec_DrawBestCode.f k l0).bind fun t400 => ((impl_BestCode.f t400).bind fun bt403 => ((spec_BestCode.f k t400).bind fun bt406 => ((spec_DrawNearCodes.f k l0).bind fun t409 => ((impl_NearCodes.f t409).bind fun bt410 => ((spec_NearCodes.f t409).bind fun bt414 => (if bt396.2 = bt398.2 then (if bt396.1 = bt398.1 then (if bt403.2.2 = bt406.2.2 then (if bt403.1 = bt406.1 then (if bt403.2.1 = bt406.2.1 then (if bt410.2 = bt414.2 then ((laws_likeInts.f k bt410.1 bt414.1).bind fun t418 => (laws_FnReads.j0 k bt391.1 bt391.2.1 bt391.2.2 bt396.1 bt396.2 t400 bt403.1 bt403.2.1 bt403.2.2 t409 bt410.1 (!t418))) else (laws_FnReads.j0 k bt391.1 bt391.2.1 bt391.2.2 bt396.1 bt396.2 t400 bt403.1 bt403.2.1 bt403.2.2 t409 bt410.1 true)) else (laws_FnReads.j0 k bt391.1 bt391.2.1 bt391.2.2 bt396.1 bt396.2 t400 bt403.1 bt403.2.1 bt403.2.2 t409 bt410.1 true)) else (laws_FnReads.j0 k bt391.1 bt391.2.1 bt391.2.2 bt396.1 bt396.2 t400 bt403.1 bt403.2.1 bt403.2.2 t409 bt410.1 true)) else (laws_FnReads.j0 k bt391.1 bt391.2.1 bt391.2.2 bt396.1 bt396.2 t400 bt403.1 bt403.2.1 bt403.2.2 t409 bt410.1 true)) else (laws_FnReads.j0 k bt391.1 bt391.2.1 bt391.2.2 bt396.1 bt396.2 t400 bt403.1 bt403.2.1 bt403.2.2 t409 bt410.1 true)) else (laws_FnReads.j0 k bt391.1 bt391.2.1 bt391.2.2 bt396.1 bt396.2 t400 bt403.1 bt403.2.1 bt403.2.2 t409 bt410.1 true))))))))))))
theorem laws_FnReads.mono_l : ∀ k, (∀ y0 y1 y2 y3 y4 y5 y6 y7 y8 y9 y10 y11, LeO (laws_FnReads.j0 k y0 y1 y2 y3 y4 y5 y6 y7 y8 y9 y10 y11) (laws_FnReads.j0 (k + 1) y0 y1 y2 y3 y4 y5 y6 y7 y8 y9 y10 y11)) ∧ (∀ y0 y1 y2 y3 y4 y5 y6 y7 y8 y9 y10 y11, LeO (laws_FnReads.l0 k y0 y1 y2 y3 y4 y5 y6 y7 y8 y9 y10 y11) (laws_FnReads.l0 (k + 1) y0 y1 y2 y3 y4 y5 y6 y7 y8 y9 y10 y11)) ∧ (∀ y0 y1 y2 y3 y4 y5 y6 y7 y8 y9 y10 y11 y12 y13 y14 y15, LeO (laws_FnReads.l1 k y0 y1 y2 y3 y4 y5 y6 y7 y8 y9 y10 y11 y12 y13 y14 y15) (laws_FnReads.l1 (k + 1) y0 y1 y2 y3 y4 y5 y6 y7 y8 y9 y10 y11 y12 y13 y14 y15)) ∧ (∀ y0 y1 y2 y3 y4, LeO (laws_FnReads.j4 k y0 y1 y2 y3 y4) (laws_FnReads.j4 (k + 1) y0 y1 y2 y3 y4)) ∧ (∀ y0 y1 y2 y3, LeO (laws_FnReads.l3 k y0 y1 y2 y3) (laws_FnReads.l3 (k + 1) y0 y1 y2 y3)) ∧ (∀ y0 y1 y2 y3 y4 y5 y6 y7 y8 y9, LeO (laws_FnReads.l2 k y0 y1 y2 y3 y4 y5 y6 y7 y8 y9) (laws_FnReads.l2 (k + 1) y0 y1 y2 y3 y4 y5 y6 y7 y8 y9))
  | 0 => ⟨fun _ _ _ _ _ _ _ _ _ _ _ _ r h => by simp [laws_FnReads.j0] at h, fun _ _ _ _ _ _ _ _ _ _ _ _ r h => by simp [laws_FnReads.l0] at h, fun _ _ _ _ _ _ _ _ _ _ _ _ _ _ _ _ r h => by simp [laws_FnReads.l1] at h, fun _ _ _ _ _ r h => by simp [laws_FnReads.j4] at h, fun _ _ _ _ r h => by simp [laws_FnReads.l3] at h, fun _ _ _ _ _ _ _ _ _ _ r h => by simp [laws_FnReads.l2] at h⟩
  | k + 1 => by
    obtain ⟨ih0, ih1, ih2, ih3, ih4, ih5⟩ := laws_FnReads.mono_l k
    refine ⟨?_, ?_, ?_, ?_, ?_, ?_⟩
    · intro y0 y1 y2 y3 y4 y5 y6 y7 y8 y9 y10 y11
      unfold laws_FnReads.j0
      repeat' first
      | (with_reducible exact ih0 _ _ _ _ _ _ _ _ _ _ _ _)
      | (with_reducible exact ih1 _ _ _ _ _ _ _ _ _ _ _ _)
      | (with_reducible exact ih2 _ _ _ _ _ _ _ _ _ _ _ _ _ _ _ _)
      | (with_reducible exact ih3 _ _ _ _ _)
      | (with_reducible exact ih4 _ _ _ _)
      | (with_reducible exact ih5 _ _ _ _ _ _ _ _ _ _)
      | (with_reducible exact impl_StopAfter.mono _ _ _ _)
      | (with_reducible exact laws_likeInts.mono _ _ _)
      | (with_reducible exact spec_BestCode.mono _ _)
      | (with_reducible exact spec_DrawBestCode.mono _ _)
      | (with_reducible exact spec_DrawNearCodes.mono _ _)
      | (with_reducible exact spec_DrawStopAfter.mono _ _)
      | (with_reducible exact spec_StopAfter.mono _ _ _ _)
      | (with_reducible exact LeO.refl _)
      | (with_reducible exact LeO.none _)
      | (with_reducible refine LeO.ite ?_ ?_)
      | (with_reducible refine LeO.bind ?_ (fun _ => ?_))
      | exact ih0 _ _ _ _ _ _ _ _ _ _ _ _
      | exact ih1 _ _ _ _ _ _ _ _ _ _ _ _
      | exact ih2 _ _ _ _ _ _ _ _ _ _ _ _ _ _ _ _
      | exact ih3 _ _ _ _ _
      | exact ih4 _ _ _ _
      | exact ih5 _ _ _ _ _ _ _ _ _ _
      | exact impl_StopAfter.mono _ _ _ _
      | exact laws_likeInts.mono _ _ _
      | exact spec_BestCode.mono _ _
      | exact spec_DrawBestCode.mono _ _
      | exact spec_DrawNearCodes.mono _ _
      | exact spec_DrawStopAfter.mono _ _
      | exact spec_StopAfter.mono _ _ _ _
      | exact LeO.none _
      | refine LeO.ite ?_ ?_
      | refine LeO.bind ?_ (fun _ => ?_)
    · intro y0 y1 y2 y3 y4 y5 y6 y7 y8 y9 y10 y11
      unfold laws_FnReads.l0
      repeat' first
      | (with_reducible exact ih0 _ _ _ _ _ _ _ _ _ _ _ _)
      | (with_reducible exact ih1 _ _ _ _ _ _ _ _ _ _ _ _)
      | (with_reducible exact ih2 _ _ _ _ _ _ _ _ _ _ _ _ _ _ _ _)
      | (with_reducible exact ih3 _ _ _ _ _)
      | (with_reducible exact ih4 _ _ _ _)
      | (with_reducible exact ih5 _ _ _ _ _ _ _ _ _ _)
      | (with_reducible exact impl_StopAfter.mono _ _ _ _)
      | (with_reducible exact laws_likeInts.mono _ _ _)
      | (with_reducible exact spec_BestCode.mono _ _)
      | (with_reducible exact spec_DrawBestCode.mono _ _)
      | (with_reducible exact spec_DrawNearCodes.mono _ _)
      | (with_reducible exact spec_DrawStopAfter.mono _ _)
      | (with_reducible exact spec_StopAfter.mono _ _ _ _)
      | (with_reducible exact LeO.refl _)
      | (with_reducible exact LeO.none _)
      | (with_reducible refine LeO.ite ?_ ?_)
      | (with_reducible refine LeO.bind ?_ (fun _ => ?_))
      | exact ih0 _ _ _ _ _ _ _ _ _ _ _ _
      | exact ih1 _ _ _ _ _ _ _ _ _ _ _ _
      | exact ih2 _ _ _ _ _ _ _ _ _ _ _ _ _ _ _ _
      | exact ih3 _ _ _ _ _
      | exact ih4 _ _ _ _
      | exact ih5 _ _ _ _ _ _ _ _ _ _
      | exact impl_StopAfter.mono _ _ _ _
      | exact laws_likeInts.mono _ _ _
      | exact spec_BestCode.mono _ _
      | exact spec_DrawBestCode.mono _ _
      | exact spec_DrawNearCodes.mono _ _
      | exact spec_DrawStopAfter.mono _ _
      | exact spec_StopAfter.mono _ _ _ _
      | exact LeO.none _
      | refine LeO.ite ?_ ?_
      | refine LeO.bind ?_ (fun _ => ?_)
    · intro y0 y1 y2 y3 y4 y5 y6 y7 y8 y9 y10 y11 y12 y13 y14 y15
      unfold laws_FnReads.l1
      repeat' first
      | (with_reducible exact ih0 _ _ _ _ _ _ _ _ _ _ _ _)
      | (with_reducible exact ih1 _ _ _ _ _ _ _ _ _ _ _ _)
      | (with_reducible exact ih2 _ _ _ _ _ _ _ _ _ _ _ _ _ _ _ _)
      | (with_reducible exact ih3 _ _ _ _ _)
      | (with_reducible exact ih4 _ _ _ _)
      | (with_reducible exact ih5 _ _ _ _ _ _ _ _ _ _)
      | (with_reducible exact impl_StopAfter.mono _ _ _ _)
      | (with_reducible exact laws_likeInts.mono _ _ _)
      | (with_reducible exact spec_BestCode.mono _ _)
      | (with_reducible exact spec_DrawBestCode.mono _ _)
      | (with_reducible exact spec_DrawNearCodes.mono _ _)
      | (with_reducible exact spec_DrawStopAfter.mono _ _)
      | (with_reducible exact spec_StopAfter.mono _ _ _ _)
      | (with_reducible exact LeO.refl _)
      | (with_reducible exact LeO.none _)
      | (with_reducible refine LeO.ite ?_ ?_)
      | (with_reducible refine LeO.bind ?_ (fun _ => ?_))
      | exact ih0 _ _ _ _ _ _ _ _ _ _ _ _
      | exact ih1 _ _ _ _ _ _ _ _ _ _ _ _
      | exact ih2 _ _ _ _ _ _ _ _ _ _ _ _ _ _ _ _
      | exact ih3 _ _ _ _ _
      | exact ih4 _ _ _ _
      | exact ih5 _ _ _ _ _ _ _ _ _ _
      | exact impl_StopAfter.mono _ _ _ _
      | exact laws_likeInts.mono _ _ _
      | exact spec_BestCode.mono _ _
      | exact spec_DrawBestCode.mono _ _
      | exact spec_DrawNearCodes.mono _ _
      | exact spec_DrawStopAfter.mono _ _
      | exact spec_StopAfter.mono _ _ _ _
      | exact LeO.none _
      | refine LeO.ite ?_ ?_
      | refine LeO.bind ?_ (fun _ => ?_)
    · intro y0 y1 y2 y3 y4
      unfold laws_FnReads.j4
      repeat' first
      | (with_reducible exact ih0 _ _ _ _ _ _ _ _ _ _ _ _)
      | (with_reducible exact ih1 _ _ _ _ _ _ _ _ _ _ _ _)
      | (with_reducible exact ih2 _ _ _ _ _ _ _ _ _ _ _ _ _ _ _ _)
      | (with_reducible exact ih3 _ _ _ _ _)
      | (with_reducible exact ih4 _ _ _ _)
      | (with_reducible exact ih5 _ _ _ _ _ _ _ _ _ _)
      | (with_reducible exact impl_StopAfter.mono _ _ _ _)
      | (with_reducible exact laws_likeInts.mono _ _ _)
      | (with_reducible exact spec_BestCode.mono _ _)
      | (with_reducible exact spec_DrawBestCode.mono _ _)
      | (with_reducible exact spec_DrawNearCodes.mono _ _)
      | (with_reducible exact spec_DrawStopAfter.mono _ _)
      | (with_reducible exact spec_StopAfter.mono _ _ _ _)
      | (with_reducible exact LeO.refl _)
      | (with_reducible exact LeO.none _)
      | (with_reducible refine LeO.ite ?_ ?_)
      | (with_reducible refine LeO.bind ?_ (fun _ => ?_))
      | exact ih0 _ _ _ _ _ _ _ _ _ _ _ _
      | exact ih1 _ _ _ _ _ _ _ _ _ _ _ _
      | exact ih2 _ _ _ _ _ _ _ _ _ _ _ _ _ _ _ _
      | exact ih3 _ _ _ _ _
      | exact ih4 _ _ _ _
      | exact ih5 _ _ _ _ _ _ _ _ _ _
      | exact impl_StopAfter.mono _ _ _ _
      | exact laws_likeInts.mono _ _ _
      | exact spec_BestCode.mono _ _
      | exact spec_DrawBestCode.mono _ _
      | exact spec_DrawNearCodes.mono _ _
      | exact spec_DrawStopAfter.mono _ _
      | exact spec_StopAfter.mono _ _ _ _
      | exact LeO.none _
      | refine LeO.ite ?_ ?_
      | refine LeO.bind ?_ (fun _ => ?_)
    · intro y0 y1 y2 y3
      unfold laws_FnReads.l3
      repeat' first
      | (with_reducible exact ih0 _ _ _ _ _ _ _ _ _ _ _ _)
      | (with_reducible exact ih1 _ _ _ _ _ _ _ _ _ _ _ _)
      | (with_reducible exact ih2 _ _ _ _ _ _ _ _ _ _ _ _ _ _ _ _)
      | (with_reducible exact ih3 _ _ _ _ _)
      | (with_reducible exact ih4 _ _ _ _)
      | (with_reducible exact ih5 _ _ _ _ _ _ _ _ _ _)
      | (with_reducible exact impl_StopAfter.mono _ _ _ _)
      | (with_reducible exact laws_likeInts.mono _ _ _)
      | (with_reducible exact spec_BestCode.mono _ _)
      | (with_reducible exact spec_DrawBestCode.mono _ _)
      | (with_reducible exact spec_DrawNearCodes.mono _ _)
      | (with_reducible exact spec_DrawStopAfter.mono _ _)
      | (with_reducible exact spec_StopAfter.mono _ _ _ _)
      | (with_reducible exact LeO.refl _)
      | (with_reducible exact LeO.none _)
      | (with_reducible refine LeO.ite ?_ ?_)
      | (with_reducible refine LeO.bind ?_ (fun _ => ?_))
      | exact ih0 _ _ _ _ _ _ _ _ _ _ _ _
      | exact ih1 _ _ _ _ _ _ _ _ _ _ _ _
      | exact ih2 _ _ _ _ _ _ _ _ _ _ _ _ _ _ _ _
      | exact ih3 _ _ _ _ _
      | exact ih4 _ _ _ _
      | exact ih5 _ _ _ _ _ _ _ _ _ _
      | exact impl_StopAfter.mono _ _ _ _
      | exact laws_likeInts.mono _ _ _
      | exact spec_BestCode.mono _ _
      | exact spec_DrawBestCode.mono _ _
      | exact spec_DrawNearCodes.mono _ _
      | exact spec_DrawStopAfter.mono _ _
      | exact spec_StopAfter.mono _ _ _ _
      | exact LeO.none _
      | refine LeO.ite ?_ ?_
      | refine LeO.bind ?_ (fun _ => ?_)
    · intro y0 y1 y2 y3 y4 y5 y6 y7 y8 y9
      unfold laws_FnReads.l2
      repeat' first
      | (with_reducible exact ih0 _ _ _ _ _ _ _ _ _ _ _ _)
      | (with_reducible exact ih1 _ _ _ _ _ _ _ _ _ _ _ _)
      | (with_reducible exact ih2 _ _ _ _ _ _ _ _ _ _ _ _ _ _ _ _)
      | (with_reducible exact ih3 _ _ _ _ _)
      | (with_reducible exact ih4 _ _ _ _)
      | (with_reducible exact ih5 _ _ _ _ _ _ _ _ _ _)
      | (with_reducible exact impl_StopAfter.mono _ _ _ _)
      | (with_reducible exact laws_likeInts.mono _ _ _)
      | (with_reducible exact spec_BestCode.mono _ _)
      | (with_reducible exact spec_DrawBestCode.mono _ _)
      | (with_reducible exact spec_DrawNearCodes.mono _ _)
      | (with_reducible exact spec_DrawStopAfter.mono _ _)
      | (with_reducible exact spec_StopAfter.mono _ _ _ _)
      | (with_reducible exact LeO.refl _)
      | (with_reducible exact LeO.none _)
      | (with_reducible refine LeO.ite ?_ ?_)
      | (with_reducible refine LeO.bind ?_ (fun _ => ?_))
      | exact ih0 _ _ _ _ _ _ _ _ _ _ _ _
      | exact ih1 _ _ _ _ _ _ _ _ _ _ _ _
      | exact ih2 _ _ _ _ _ _ _ _ _ _ _ _ _ _ _ _
      | exact ih3 _ _ _ _ _
      | exact ih4 _ _ _ _
      | exact ih5 _ _ _ _ _ _ _ _ _ _
      | exact impl_StopAfter.mono _ _ _ _
      | exact laws_likeInts.mono _ _ _
      | exact spec_BestCode.mono _ _
      | exact spec_DrawBestCode.mono _ _
      | exact spec_DrawNearCodes.mono _ _
      | exact spec_DrawStopAfter.mono _ _
      | exact spec_StopAfter.mono _ _ _ _
      | exact LeO.none _
      | refine LeO.ite ?_ ?_
      | refine LeO.bind ?_ (fun _ => ?_)
theorem laws_FnReads.mono : ∀ a0 k, LeO (laws_FnReads.f k a0) (laws_FnReads.f (k + 1) a0) := by
  intro a0 k
  obtain ⟨ih0, ih1, ih2, ih3, ih4, ih5⟩ := laws_FnReads.mono_l k
  unfold laws_FnReads.f
  repeat' first
      | (with_reducible exact ih0 _ _ _ _ _ _ _ _ _ _ _ _)
      | (with_reducible exact ih1 _ _ _ _ _ _ _ _ _ _ _ _)
      | (with_reducible exact ih2 _ _ _ _ _ _ _ _ _ _ _ _ _ _ _ _)
      | (with_reducible exact ih3 _ _ _ _ _)
      | (with_reducible exact ih4 _ _ _ _)
      | (with_reducible exact ih5 _ _ _ _ _ _ _ _ _ _)
      | (with_reducible exact impl_StopAfter.mono _ _ _ _)
      | (with_reducible exact laws_likeInts.mono _ _ _)
      | (with_reducible exact spec_BestCode.mono _ _)
      | (with_reducible exact spec_DrawBestCode.mono _ _)
      | (with_reducible exact spec_DrawNearCodes.mono _ _)
      | (with_reducible exact spec_DrawStopAfter.mono _ _)
      | (with_reducible exact spec_StopAfter.mono _ _ _ _)
      | (with_reducible exact LeO.refl _)
      | (with_reducible exact LeO.none _)
      | (with_reducible refine LeO.ite ?_ ?_)
      | (with_reducible refine LeO.bind ?_ (fun _ => ?_))
      | exact ih0 _ _ _ _ _ _ _ _ _ _ _ _
      | exact ih1 _ _ _ _ _ _ _ _ _ _ _ _
      | exact ih2 _ _ _ _ _ _ _ _ _ _ _ _ _ _ _ _
      | exact ih3 _ _ _ _ _
      | exact ih4 _ _ _ _
      | exact ih5 _ _ _ _ _ _ _ _ _ _
      | exact impl_StopAfter.mono _ _ _ _
      | exact laws_likeInts.mono _ _ _
      | exact spec_BestCode.mono _ _
      | exact spec_DrawBestCode.mono _ _
      | exact spec_DrawNearCodes.mono _ _
      | exact spec_DrawStopAfter.mono _ _
      | exact spec_StopAfter.mono _ _ _ _
      | exact LeO.none _
      | refine LeO.ite ?_ ?_
      | refine LeO.bind ?_ (fun _ => ?_)
set_option maxHeartbeats 8000000 in
set_option maxRecDepth 100000 in
theorem laws_FnReads.calls (k : Nat) (A0 : Option Addr) (c0 : Nat) (l0 : List Int) (r : Bool) (w : World) (hr0 : Kd.C (Kd.int .u8) w A0 l0.length l0) (hc0 : l0.length ≤ c0) (h : laws_FnReads.f k l0 = some r) :
    Calls Try.prog 4 #[.slice A0 l0.length c0] w fun e w' => e = .returned (.bool r) ∧ Below w.heap.size w w' := by
  have HR0 := Aside0.mk hr0
  have HC0 := Aside0.mk hc0
  clear hr0 hc0
  have HB := Aside0.mk (Below.refl w.heap.size w)
  have H : ((laws_big.f l0).bind fun t390 => (if t390 = true then (some true) else ((spec_DrawStopAfter.f k l0).bind fun bt391 => ((impl_StopAfter.f k bt391.1 bt391.2.1 bt391.2.2).bind fun bt396 => ((spec_StopAfter.f k bt391.1 bt391.2.1 bt391.2.2).bind fun bt398 => ((spec_DrawBestCode.f k l0).bind fun t400 => ((impl_BestCode.f t400).bind fun bt403 => ((spec_BestCode.f k t400).bind fun bt406 => ((spec_DrawNearCodes.f k l0).bind fun t409 => ((impl_NearCodes.f t409).bind fun bt410 => ((spec_NearCodes.f t409).bind fun bt414 => (if bt396.2 = bt398.2 then (if bt396.1 = bt398.1 then (if bt403.2.2 = bt406.2.2 then (if bt403.1 = bt406.1 then (if bt403.2.1 = bt406.2.1 then (if bt410.2 = bt414.2 then ((laws_likeInts.f k bt410.1 bt414.1).bind fun t418 => (laws_FnReads.j0 k bt391.1 bt391.2.1 bt391.2.2 bt396.1 bt396.2 t400 bt403.1 bt403.2.1 bt403.2.2 t409 bt410.1 (!t418))) else (laws_FnReads.j0 k bt391.1 bt391.2.1 bt391.2.2 bt396.1 bt396.2 t400 bt403.1 bt403.2.1 bt403.2.2 t409 bt410.1 true)) else (laws_FnReads.j0 k bt391.1 bt391.2.1 bt391.2.2 bt396.1 bt396.2 t400 bt403.1 bt403.2.1 bt403.2.2 t409 bt410.1 true)) else (laws_FnReads.j0 k bt391.1 bt391.2.1 bt391.2.2 bt396.1 bt396.2 t400 bt403.1 bt403.2.1 bt403.2.2 t409 bt410.1 true)) else (laws_FnReads.j0 k bt391.1 bt391.2.1 bt391.2.2 bt396.1 bt396.2 t400 bt403.1 bt403.2.1 bt403.2.2 t409 bt410.1 true)) else (laws_FnReads.j0 k bt391.1 bt391.2.1 bt391.2.2 bt396.1 bt396.2 t400 bt403.1 bt403.2.1 bt403.2.2 t409 bt410.1 true)) else (laws_FnReads.j0 k bt391.1 bt391.2.1 bt391.2.2 bt396.1 bt396.2 t400 bt403.1 bt403.2.1 bt403.2.2 t409 bt410.1 true))))))))))))) = some r := h
  clear h
  replace H := Option.bind_eq_some_iff.mp H
  obtain ⟨t390, A20, H⟩ := H
  replace H : (if t390 = true then (some true) else ((spec_DrawStopAfter.f k l0).bind fun bt391 => ((impl_StopAfter.f k bt391.1 bt391.2.1 bt391.2.2).bind fun bt396 => ((spec_StopAfter.f k bt391.1 bt391.2.1 bt391.2.2).bind fun bt398 => ((spec_DrawBestCode.f k l0).bind fun t400 => ((impl_BestCode.f t400).bind fun bt403 => ((spec_BestCode.f k t400).bind fun bt406 => ((spec_DrawNearCodes.f k l0).bind fun t409 => ((impl_NearCodes.f t409).bind fun bt410 => ((spec_NearCodes.f t409).bind fun bt414 => (if bt396.2 = bt398.2 then (if bt396.1 = bt398.1 then (if bt403.2.2 = bt406.2.2 then (if bt403.1 = bt406.1 then (if bt403.2.1 = bt406.2.1 then (if bt410.2 = bt414.2 then ((laws_likeInts.f k bt410.1 bt414.1).bind fun t418 => (laws_FnReads.j0 k bt391.1 bt391.2.1 bt391.2.2 bt396.1 bt396.2 t400 bt403.1 bt403.2.1 bt403.2.2 t409 bt410.1 (!t418))) else (laws_FnReads.j0 k bt391.1 bt391.2.1 bt391.2.2 bt396.1 bt396.2 t400 bt403.1 bt403.2.1 bt403.2.2 t409 bt410.1 true)) else (laws_FnReads.j0 k bt391.1 bt391.2.1 bt391.2.2 bt396.1 bt396.2 t400 bt403.1 bt403.2.1 bt403.2.2 t409 bt410.1 true)) else (laws_FnReads.j0 k bt391.1 bt391.2.1 bt391.2.2 bt396.1 bt396.2 t400 bt403.1 bt403.2.1 bt403.2.2 t409 bt410.1 true)) else (laws_FnReads.j0 k bt391.1 bt391.2.1 bt391.2.2 bt396.1 bt396.2 t400 bt403.1 bt403.2.1 bt403.2.2 t409 bt410.1 true)) else (laws_FnReads.j0 k bt391.1 bt391.2.1 bt391.2.2 bt396.1 bt396.2 t400 bt403.1 bt403.2.1 bt403.2.2 t409 bt410.1 true)) else (laws_FnReads.j0 k bt391.1 bt391.2.1 bt391.2.2 bt396.1 bt396.2 t400 bt403.1 bt403.2.1 bt403.2.2 t409 bt410.1 true)))))))))))) = some r := H
  have A2 := Aside0.mk A20
  clear A20
  by_cases c3 : t390 = true
  · subst c3
    have H1 : (some true) = some r := by rw [if_pos rfl] at H; exact H
    clear H
    have H := H1
    clear H1
    obtain rfl := Option.some.inj H
    go_enter Try.func4, Try.ntmps4
    go_wp2_with (first | (go_at_call 10; (with_reducible refine (laws_big.calls _ _ l0 true _ ?side1 ?side2 A2.out).mono ?_); (case side1 => repeat (first | exact HR0.out | (with_reducible refine Kd.C_alloc ?_ _) | (with_reducible refine Kd.C_drewN ?_ _) | (with_reducible refine Kd.C_drew ?_))); (case side2 => exact HC0.out); rintro e w' ⟨rfl, ⟨nd, rfl⟩⟩; (try first | exact ⟨rfl, _, World.drewN_drewN _ _ _⟩ | exact ⟨rfl, _, Eq.trans (World.drewN_drewN _ _ _) (congrArg (World.drewN _) (Nat.add_assoc _ _ _))⟩)))
    repeat (go_quiet (first | (go_at_call 10; (with_reducible refine (laws_big.calls _ _ l0 true _ ?side1 ?side2 A2.out).mono ?_); (case side1 => repeat (first | exact HR0.out | (with_reducible refine Kd.C_alloc ?_ _) | (with_reducible refine Kd.C_drewN ?_ _) | (with_reducible refine Kd.C_drew ?_))); (case side2 => exact HC0.out); rintro e w' ⟨rfl, ⟨nd, rfl⟩⟩; (try first | exact ⟨rfl, _, World.drewN_drewN _ _ _⟩ | exact ⟨rfl, _, Eq.trans (World.drewN_drewN _ _ _) (congrArg (World.drewN _) (Nat.add_assoc _ _ _))⟩))); try go_wp2_with (first | (go_at_call 10; (with_reducible refine (laws_big.calls _ _ l0 true _ ?side1 ?side2 A2.out).mono ?_); (case side1 => repeat (first | exact HR0.out | (with_reducible refine Kd.C_alloc ?_ _) | (with_reducible refine Kd.C_drewN ?_ _) | (with_reducible refine Kd.C_drew ?_))); (case side2 => exact HC0.out); rintro e w' ⟨rfl, ⟨nd, rfl⟩⟩; (try first | exact ⟨rfl, _, World.drewN_drewN _ _ _⟩ | exact ⟨rfl, _, Eq.trans (World.drewN_drewN _ _ _) (congrArg (World.drewN _) (Nat.add_assoc _ _ _))⟩))))
    go_ret
    exact ⟨by first | rfl | (simp [errW_none, errW_some] <;> rfl) | (simp [*, errW_none, errW_some] <;> rfl), by repeat (first | (with_reducible first | exact HB.out | apply below_alloc | apply pw_below_drewN | apply below_drew1) | exact HB.out)⟩
  · replace c3 := Bool.eq_false_iff.mpr c3
    subst c3
    have H1 : ((spec_DrawStopAfter.f k l0).bind fun bt391 => ((impl_StopAfter.f k bt391.1 bt391.2.1 bt391.2.2).bind fun bt396 => ((spec_StopAfter.f k bt391.1 bt391.2.1 bt391.2.2).bind fun bt398 => ((spec_DrawBestCode.f k l0).bind fun t400 => ((impl_BestCode.f t400).bind fun bt403 => ((spec_BestCode.f k t400).bind fun bt406 => ((spec_DrawNearCodes.f k l0).bind fun t409 => ((impl_NearCodes.f t409).bind fun bt410 => ((spec_NearCodes.f t409).bind fun bt414 => (if bt396.2 = bt398.2 then (if bt396.1 = bt398.1 then (if bt403.2.2 = bt406.2.2 then (if bt403.1 = bt406.1 then (if bt403.2.1 = bt406.2.1 then (if bt410.2 = bt414.2 then ((laws_likeInts.f k bt410.1 bt414.1).bind fun t418 => (laws_FnReads.j0 k bt391.1 bt391.2.1 bt391.2.2 bt396.1 bt396.2 t400 bt403.1 bt403.2.1 bt403.2.2 t409 bt410.1 (!t418))) else (laws_FnReads.j0 k bt391.1 bt391.2.1 bt391.2.2 bt396.1 bt396.2 t400 bt403.1 bt403.2.1 bt403.2.2 t409 bt410.1 true)) else (laws_FnReads.j0 k bt391.1 bt391.2.1 bt391.2.2 bt396.1 bt396.2 t400 bt403.1 bt403.2.1 bt403.2.2 t409 bt410.1 true)) else (laws_FnReads.j0 k bt391.1 bt391.2.1 bt391.2.2 bt396.1 bt396.2 t400 bt403.1 bt403.2.1 bt403.2.2 t409 bt410.1 true)) else (laws_FnReads.j0 k bt391.1 bt391.2.1 bt391.2.2 bt396.1 bt396.2 t400 bt403.1 bt403.2.1 bt403.2.2 t409 bt410.1 true)) else (laws_FnReads.j0 k bt391.1 bt391.2.1 bt391.2.2 bt396.1 bt396.2 t400 bt403.1 bt403.2.1 bt403.2.2 t409 bt410.1 true)) else (laws_FnReads.j0 k bt391.1 bt391.2.1 bt391.2.2 bt396.1 bt396.2 t400 bt403.1 bt403.2.1 bt403.2.2 t409 bt410.1 true))))))))))) = some r := by rw [if_neg (show ¬ (false = true) by decide)] at H; exact H
    clear H
    have H := H1
    clear H1
    replace H := Option.bind_eq_some_iff.mp H
    obtain ⟨⟨t391, t392, t393⟩, A40, H⟩ := H
    replace H : ((impl_StopAfter.f k t391 t392 t393).bind fun bt396 => ((spec_StopAfter.f k t391 t392 t393).bind fun bt398 => ((spec_DrawBestCode.f k l0).bind fun t400 => ((impl_BestCode.f t400).bind fun bt403 => ((spec_BestCode.f k t400).bind fun bt406 => ((spec_DrawNearCodes.f k l0).bind fun t409 => ((impl_NearCodes.f t409).bind fun bt410 => ((spec_NearCodes.f t409).bind fun bt414 => (if bt396.2 = bt398.2 then (if bt396.1 = bt398.1 then (if bt403.2.2 = bt406.2.2 then (if bt403.1 = bt406.1 then (if bt403.2.1 = bt406.2.1 then (if bt410.2 = bt414.2 then ((laws_likeInts.f k bt410.1 bt414.1).bind fun t418 => (laws_FnReads.j0 k t391 t392 t393 bt396.1 bt396.2 t400 bt403.1 bt403.2.1 bt403.2.2 t409 bt410.1 (!t418))) else (laws_FnReads.j0 k t391 t392 t393 bt396.1 bt396.2 t400 bt403.1 bt403.2.1 bt403.2.2 t409 bt410.1 true)) else (laws_FnReads.j0 k t391 t392 t393 bt396.1 bt396.2 t400 bt403.1 bt403.2.1 bt403.2.2 t409 bt410.1 true)) else (laws_FnReads.j0 k t391 t392 t393 bt396.1 bt396.2 t400 bt403.1 bt403.2.1 bt403.2.2 t409 bt410.1 true)) else (laws_FnReads.j0 k t391 t392 t393 bt396.1 bt396.2 t400 bt403.1 bt403.2.1 bt403.2.2 t409 bt410.1 true)) else (laws_FnReads.j0 k t391 t392 t393 bt396.1 bt396.2 t400 bt403.1 bt403.2.1 bt403.2.2 t409 bt410.1 true)) else (laws_FnReads.j0 k t391 t392 t393 bt396.1 bt396.2 t400 bt403.1 bt403.2.1 bt403.2.2 t409 bt410.1 true)))))))))) = some r := H
    have A4 := Aside0.mk A40
    clear A40
    replace H := Option.bind_eq_some_iff.mp H
    obtain ⟨⟨t396, t397⟩, A50, H⟩ := H
    replace H : ((spec_StopAfter.f k t391 t392 t393).bind fun bt398 => ((spec_DrawBestCode.f k l0).bind fun t400 => ((impl_BestCode.f t400).bind fun bt403 => ((spec_BestCode.f k t400).bind fun bt406 => ((spec_DrawNearCodes.f k l0).bind fun t409 => ((impl_NearCodes.f t409).bind fun bt410 => ((spec_NearCodes.f t409).bind fun bt414 => (if t397 = bt398.2 then (if t396 = bt398.1 then (if bt403.2.2 = bt406.2.2 then (if bt403.1 = bt406.1 then (if bt403.2.1 = bt406.2.1 then (if bt410.2 = bt414.2 then ((laws_likeInts.f k bt410.1 bt414.1).bind fun t418 => (laws_FnReads.j0 k t391 t392 t393 t396 t397 t400 bt403.1 bt403.2.1 bt403.2.2 t409 bt410.1 (!t418))) else (laws_FnReads.j0 k t391 t392 t393 t396 t397 t400 bt403.1 bt403.2.1 bt403.2.2 t409 bt410.1 true)) else (laws_FnReads.j0 k t391 t392 t393 t396 t397 t400 bt403.1 bt403.2.1 bt403.2.2 t409 bt410.1 true)) else (laws_FnReads.j0 k t391 t392 t393 t396 t397 t400 bt403.1 bt403.2.1 bt403.2.2 t409 bt410.1 true)) else (laws_FnReads.j0 k t391 t392 t393 t396 t397 t400 bt403.1 bt403.2.1 bt403.2.2 t409 bt410.1 true)) else (laws_FnReads.j0 k t391 t392 t393 t396 t397 t400 bt403.1 bt403.2.1 bt403.2.2 t409 bt410.1 true)) else (laws_FnReads.j0 k t391 t392 t393 t396 t397 t400 bt403.1 bt403.2.1 bt403.2.2 t409 bt410.1 true))))))))) = some r := H
    have A5 := Aside0.mk A50
    clear A50
    replace H := Option.bind_eq_some_iff.mp H
    obtain ⟨⟨t398, t399⟩, A60, H⟩ := H
    replace H : ((spec_DrawBestCode.f k l0).bind fun t400 => ((impl_BestCode.f t400).bind fun bt403 => ((spec_BestCode.f k t400).bind fun bt406 => ((spec_DrawNearCodes.f k l0).bind fun t409 => ((impl_NearCodes.f t409).bind fun bt410 => ((spec_NearCodes.f t409).bind fun bt414 => (if t397 = t399 then (if t396 = t398 then (if bt403.2.2 = bt406.2.2 then (if bt403.1 = bt406.1 then (if bt403.2.1 = bt406.2.1 then (if bt410.2 = bt414.2 then ((laws_likeInts.f k bt410.1 bt414.1).bind fun t418 => (laws_FnReads.j0 k t391 t392 t393 t396 t397 t400 bt403.1 bt403.2.1 bt403.2.2 t409 bt410.1 (!t418))) else (laws_FnReads.j0 k t391 t392 t393 t396 t397 t400 bt403.1 bt403.2.1 bt403.2.2 t409 bt410.1 true)) else (laws_FnReads.j0 k t391 t392 t393 t396 t397 t400 bt403.1 bt403.2.1 bt403.2.2 t409 bt410.1 true)) else (laws_FnReads.j0 k t391 t392 t393 t396 t397 t400 bt403.1 bt403.2.1 bt403.2.2 t409 bt410.1 true)) else (laws_FnReads.j0 k t391 t392 t393 t396 t397 t400 bt403.1 bt403.2.1 bt403.2.2 t409 bt410.1 true)) else (laws_FnReads.j0 k t391 t392 t393 t396 t397 t400 bt403.1 bt403.2.1 bt403.2.2 t409 bt410.1 true)) else (laws_FnReads.j0 k t391 t392 t393 t396 t397 t400 bt403.1 bt403.2.1 bt403.2.2 t409 bt410.1 true)))))))) = some r := H
    have A6 := Aside0.mk A60
    clear A60
    replace H := Option.bind_eq_some_iff.mp H
    obtain ⟨t400, A70, H⟩ := H
    replace H : ((impl_BestCode.f t400).bind fun bt403 => ((spec_BestCode.f k t400).bind fun bt406 => ((spec_DrawNearCodes.f k l0).bind fun t409 => ((impl_NearCodes.f t409).bind fun bt410 => ((spec_NearCodes.f t409).bind fun bt414 => (if t397 = t399 then (if t396 = t398 then (if bt403.2.2 = bt406.2.2 then (if bt403.1 = bt406.1 then (if bt403.2.1 = bt406.2.1 then (if bt410.2 = bt414.2 then ((laws_likeInts.f k bt410.1 bt414.1).bind fun t418 => (laws_FnReads.j0 k t391 t392 t393 t396 t397 t400 bt403.1 bt403.2.1 bt403.2.2 t409 bt410.1 (!t418))) else (laws_FnReads.j0 k t391 t392 t393 t396 t397 t400 bt403.1 bt403.2.1 bt403.2.2 t409 bt410.1 true)) else (laws_FnReads.j0 k t391 t392 t393 t396 t397 t400 bt403.1 bt403.2.1 bt403.2.2 t409 bt410.1 true)) else (laws_FnReads.j0 k t391 t392 t393 t396 t397 t400 bt403.1 bt403.2.1 bt403.2.2 t409 bt410.1 true)) else (laws_FnReads.j0 k t391 t392 t393 t396 t397 t400 bt403.1 bt403.2.1 bt403.2.2 t409 bt410.1 true)) else (laws_FnReads.j0 k t391 t392 t393 t396 t397 t400 bt403.1 bt403.2.1 bt403.2.2 t409 bt410.1 true)) else (laws_FnReads.j0 k t391 t392 t393 t396 t397 t400 bt403.1 bt403.2.1 bt403.2.2 t409 bt410.1 true))))))) = some r := H
    have A7 := Aside0.mk A70
    clear A70
    replace H := Option.bind_eq_some_iff.mp H
    obtain ⟨⟨t403, t404, t405⟩, A80, H⟩ := H
    replace H : ((spec_BestCode.f k t400).bind fun bt406 => ((spec_DrawNearCodes.f k l0).bind fun t409 => ((impl_NearCodes.f t409).bind fun bt410 => ((spec_NearCodes.f t409).bind fun bt414 => (if t397 = t399 then (if t396 = t398 then (if t405 = bt406.2.2 then (if t403 = bt406.1 then (if t404 = bt406.2.1 then (if bt410.2 = bt414.2 then ((laws_likeInts.f k bt410.1 bt414.1).bind fun t418 => (laws_FnReads.j0 k t391 t392 t393 t396 t397 t400 t403 t404 t405 t409 bt410.1 (!t418))) else (laws_FnReads.j0 k t391 t392 t393 t396 t397 t400 t403 t404 t405 t409 bt410.1 true)) else (laws_FnReads.j0 k t391 t392 t393 t396 t397 t400 t403 t404 t405 t409 bt410.1 true)) else (laws_FnReads.j0 k t391 t392 t393 t396 t397 t400 t403 t404 t405 t409 bt410.1 true)) else (laws_FnReads.j0 k t391 t392 t393 t396 t397 t400 t403 t404 t405 t409 bt410.1 true)) else (laws_FnReads.j0 k t391 t392 t393 t396 t397 t400 t403 t404 t405 t409 bt410.1 true)) else (laws_FnReads.j0 k t391 t392 t393 t396 t397 t400 t403 t404 t405 t409 bt410.1 true)))))) = some r := H
    have A8 := Aside0.mk A80
    clear A80
    replace H := Option.bind_eq_some_iff.mp H
    obtain ⟨⟨t406, t407, t408⟩, A90, H⟩ := H
    replace H : ((spec_DrawNearCodes.f k l0).bind fun t409 => ((impl_NearCodes.f t409).bind fun bt410 => ((spec_NearCodes.f t409).bind fun bt414 => (if t397 = t399 then (if t396 = t398 then (if t405 = t408 then (if t403 = t406 then (if t404 = t407 then (if bt410.2 = bt414.2 then ((laws_likeInts.f k bt410.1 bt414.1).bind fun t418 => (laws_FnReads.j0 k t391 t392 t393 t396 t397 t400 t403 t404 t405 t409 bt410.1 (!t418))) else (laws_FnReads.j0 k t391 t392 t393 t396 t397 t400 t403 t404 t405 t409 bt410.1 true)) else (laws_FnReads.j0 k t391 t392 t393 t396 t397 t400 t403 t404 t405 t409 bt410.1 true)) else (laws_FnReads.j0 k t391 t392 t393 t396 t397 t400 t403 t404 t405 t409 bt410.1 true)) else (laws_FnReads.j0 k t391 t392 t393 t396 t397 t400 t403 t404 t405 t409 bt410.1 true)) else (laws_FnReads.j0 k t391 t392 t393 t396 t397 t400 t403 t404 t405 t409 bt410.1 true)) else (laws_FnReads.j0 k t391 t392 t393 t396 t397 t400 t403 t404 t405 t409 bt410.1 true))))) = some r := H
    have A9 := Aside0.mk A90
    clear A90
    replace H := Option.bind_eq_some_iff.mp H
    obtain ⟨t409, A100, H⟩ := H
    replace H : ((impl_NearCodes.f t409).bind fun bt410 => ((spec_NearCodes.f t409).bind fun bt414 => (if t397 = t399 then (if t396 = t398 then (if t405 = t408 then (if t403 = t406 then (if t404 = t407 then (if bt410.2 = bt414.2 then ((laws_likeInts.f k bt410.1 bt414.1).bind fun t418 => (laws_FnReads.j0 k t391 t392 t393 t396 t397 t400 t403 t404 t405 t409 bt410.1 (!t418))) else (laws_FnReads.j0 k t391 t392 t393 t396 t397 t400 t403 t404 t405 t409 bt410.1 true)) else (laws_FnReads.j0 k t391 t392 t393 t396 t397 t400 t403 t404 t405 t409 bt410.1 true)) else (laws_FnReads.j0 k t391 t392 t393 t396 t397 t400 t403 t404 t405 t409 bt410.1 true)) else (laws_FnReads.j0 k t391 t392 t393 t396 t397 t400 t403 t404 t405 t409 bt410.1 true)) else (laws_FnReads.j0 k t391 t392 t393 t396 t397 t400 t403 t404 t405 t409 bt410.1 true)) else (laws_FnReads.j0 k t391 t392 t393 t396 t397 t400 t403 t404 t405 t409 bt410.1 true)))) = some r := H
    have A10 := Aside0.mk A100
    clear A100
    replace H := Option.bind_eq_some_iff.mp H
    obtain ⟨⟨t410, t411⟩, A110, H⟩ := H
    replace H : ((spec_NearCodes.f t409).bind fun bt414 => (if t397 = t399 then (if t396 = t398 then (if t405 = t408 then (if t403 = t406 then (if t404 = t407 then (if t411 = bt414.2 then ((laws_likeInts.f k t410 bt414.1).bind fun t418 => (laws_FnReads.j0 k t391 t392 t393 t396 t397 t400 t403 t404 t405 t409 t410 (!t418))) else (laws_FnReads.j0 k t391 t392 t393 t396 t397 t400 t403 t404 t405 t409 t410 true)) else (laws_FnReads.j0 k t391 t392 t393 t396 t397 t400 t403 t404 t405 t409 t410 true)) else (laws_FnReads.j0 k t391 t392 t393 t396 t397 t400 t403 t404 t405 t409 t410 true)) else (laws_FnReads.j0 k t391 t392 t393 t396 t397 t400 t403 t404 t405 t409 t410 true)) else (laws_FnReads.j0 k t391 t392 t393 t396 t397 t400 t403 t404 t405 t409 t410 true)) else (laws_FnReads.j0 k t391 t392 t393 t396 t397 t400 t403 t404 t405 t409 t410 true))) = some r := H
    have A11 := Aside0.mk A110
    clear A110
    replace H := Option.bind_eq_some_iff.mp H
    obtain ⟨⟨t414, t415⟩, A120, H⟩ := H
    replace H : (if t397 = t399 then (if t396 = t398 then (if t405 = t408 then (if t403 = t406 then (if t404 = t407 then (if t411 = t415 then ((laws_likeInts.f k t410 t414).bind fun t418 => (laws_FnReads.j0 k t391 t392 t393 t396 t397 t400 t403 t404 t405 t409 t410 (!t418))) else (laws_FnReads.j0 k t391 t392 t393 t396 t397 t400 t403 t404 t405 t409 t410 true)) else (laws_FnReads.j0 k t391 t392 t393 t396 t397 t400 t403 t404 t405 t409 t410 true)) else (laws_FnReads.j0 k t391 t392 t393 t396 t397 t400 t403 t404 t405 t409 t410 true)) else (laws_FnReads.j0 k t391 t392 t393 t396 t397 t400 t403 t404 t405 t409 t410 true)) else (laws_FnReads.j0 k t391 t392 t393 t396 t397 t400 t403 t404 t405 t409 t410 true)) else (laws_FnReads.j0 k t391 t392 t393 t396 t397 t400 t403 t404 t405 t409 t410 true)) = some r := H
    have A12 := Aside0.mk A120
    clear A120
    have HC13 := Aside0.mk H
    clear H
    go_enter Try.func4, Try.ntmps4
    go_upto_region 12 with (first | (go_at_call 10; (with_reducible refine (laws_big.calls _ _ l0 false _ ?side1 ?side2 A2.out).mono ?_); (case side1 => repeat (first | exact HR0.out | (with_reducible refine Kd.C_alloc ?_ _) | (with_reducible refine Kd.C_drewN ?_ _) | (with_reducible refine Kd.C_drew ?_))); (case side2 => exact HC0.out); rintro e w' ⟨rfl, ⟨nd, rfl⟩⟩; (try first | exact ⟨rfl, _, World.drewN_drewN _ _ _⟩ | exact ⟨rfl, _, Eq.trans (World.drewN_drewN _ _ _) (congrArg (World.drewN _) (Nat.add_assoc _ _ _))⟩)) | (go_at_call 11; (with_reducible refine (spec_DrawStopAfter.calls k _ _ l0 t391 t392 t393 _ ?side1 ?side2 A4.out).mono ?_); (case side1 => repeat (first | exact HR0.out | (with_reducible refine Kd.C_alloc ?_ _) | (with_reducible refine Kd.C_drewN ?_ _) | (with_reducible refine Kd.C_drew ?_))); (case side2 => exact HC0.out); rintro e w14 ⟨v394, rfl, ho0, hb⟩; have n0_ := Aside0.mk (Kd.R_lower ho0 (below_size (by repeat (first | (with_reducible first | exact HB.out | apply below_alloc | apply pw_below_drewN | apply below_drew1) | exact HB.out)))); have n1_ := Aside0.mk (below_step (by repeat (first | (with_reducible first | exact HB.out | apply below_alloc | apply pw_below_drewN | apply below_drew1) | exact HB.out)) hb); clear HB; have HO395 := n0_; have HB := n1_; clear n0_ n1_; (try clear hb); (try clear hb2); (try clear hk); (try clear hi); (try clear ho0); obtain ⟨Ao15, co15, eo15⟩ := Kd.R_slice HO395.out; subst eo15) | (go_at_call 12; (with_reducible refine (impl_StopAfter.calls k _ _ t391 t392 t393 t396 t397 _ ?side1 ?side2 A5.out).mono ?_); (case side1 => repeat (first | exact (Kd.R_reads' HO395.out).2.2 | (with_reducible refine Kd.C_alloc ?_ _) | (with_reducible refine Kd.C_drewN ?_ _) | (with_reducible refine Kd.C_drew ?_))); (case side2 => exact (Kd.R_reads' HO395.out).2.1); rintro e w16 ⟨rfl, hb⟩; have n0_ := Aside0.mk (Kd.R_below (by (with_reducible repeat (first | apply Kd.R_alloc | apply Kd.R_drewN | apply Kd.R_drew)); exact HO395.out) hb); have n1_ := Aside0.mk (below_step (by repeat (first | (with_reducible first | exact HB.out | apply below_alloc | apply pw_below_drewN | apply below_drew1) | exact HB.out)) hb); clear HO395; clear HB; have HO395 := n0_; have HB := n1_; clear n0_ n1_; (try clear hb); (try clear hb2); (try clear hk); (try clear hi)) | (go_at_call 13; (with_reducible refine (spec_StopAfter.calls k _ _ t391 t392 t393 t398 t399 _ ?side1 ?side2 A6.out).mono ?_); (case side1 => repeat (first | exact (Kd.R_reads' HO395.out).2.2 | (with_reducible refine Kd.C_alloc ?_ _) | (with_reducible refine Kd.C_drewN ?_ _) | (with_reducible refine Kd.C_drew ?_))); (case side2 => exact (Kd.R_reads' HO395.out).2.1); rintro e w' ⟨rfl, ⟨nd, rfl⟩⟩; (try first | exact ⟨rfl, _, World.drewN_drewN _ _ _⟩ | exact ⟨rfl, _, Eq.trans (World.drewN_drewN _ _ _) (congrArg (World.drewN _) (Nat.add_assoc _ _ _))⟩)) | (go_at_call 14; (with_reducible refine (spec_DrawBestCode.calls k _ _ l0 t400 _ ?side1 ?side2 A7.out).mono ?_); (case side1 => repeat (first | exact (Kd.C_below HR0.out (by repeat (first | (with_reducible first | exact HB.out | apply below_alloc | apply pw_below_drewN | apply below_drew1) | exact HB.out))) | (with_reducible refine Kd.C_alloc ?_ _) | (with_reducible refine Kd.C_drewN ?_ _) | (with_reducible refine Kd.C_drew ?_))); (case side2 => exact HC0.out); rintro e w17 ⟨v401, rfl, ho0, hb⟩; have n0_ := Aside0.mk (Kd.R_elder' (by (with_reducible repeat (first | apply Kd.R_alloc | apply Kd.R_drewN | apply Kd.R_drew)); exact HO395.out) (Kd.R_base ho0) hb); have n1_ := Aside0.mk (Kd.R_lower (Kd.R_new' ho0 (Kd.R_lt (by (with_reducible repeat (first | apply Kd.R_alloc | apply Kd.R_drewN | apply Kd.R_drew)); exact HO395.out))) (below_size (by repeat (first | (with_reducible first | exact HB.out | apply below_alloc | apply pw_below_drewN | apply below_drew1) | exact HB.out)))); have n2_ := Aside0.mk (below_step (by repeat (first | (with_reducible first | exact HB.out | apply below_alloc | apply pw_below_drewN | apply below_drew1) | exact HB.out)) hb); clear HO395; clear HB; have HO395 := n0_; have HO402 := n1_; have HB := n2_; clear n0_ n1_ n2_; (try clear hb); (try clear hb2); (try clear hk); (try clear hi); (try clear ho0); obtain ⟨Ao18, co18, eo18⟩ := Kd.R_slice HO402.out; subst eo18) | (go_at_call 15; (with_reducible refine (impl_BestCode.calls _ _ t400 t403 t404 t405 _ ?side1 ?side2 A8.out).mono ?_); (case side1 => repeat (first | exact (Kd.R_reads' HO402.out).2.2 | (with_reducible refine Kd.C_alloc ?_ _) | (with_reducible refine Kd.C_drewN ?_ _) | (with_reducible refine Kd.C_drew ?_))); (case side2 => exact (Kd.R_reads' HO402.out).2.1); rintro e w19 ⟨rfl, hb⟩; have n0_ := Aside0.mk (Kd.R_below (by (with_reducible repeat (first | apply Kd.R_alloc | apply Kd.R_drewN | apply Kd.R_drew)); exact HO395.out) hb); have n1_ := Aside0.mk (Kd.R_below (by (with_reducible repeat (first | apply Kd.R_alloc | apply Kd.R_drewN | apply Kd.R_drew)); exact HO402.out) hb); have n2_ := Aside0.mk (below_step (by repeat (first | (with_reducible first | exact HB.out | apply below_alloc | apply pw_below_drewN | apply below_drew1) | exact HB.out)) hb); clear HO395; clear HO402; clear HB; have HO395 := n0_; have HO402 := n1_; have HB := n2_; clear n0_ n1_ n2_; (try clear hb); (try clear hb2); (try clear hk); (try clear hi)) | (go_at_call 16; (with_reducible refine (spec_BestCode.calls k _ _ t400 t406 t407 t408 _ ?side1 ?side2 A9.out).mono ?_); (case side1 => repeat (first | exact (Kd.R_reads' HO402.out).2.2 | (with_reducible refine Kd.C_alloc ?_ _) | (with_reducible refine Kd.C_drewN ?_ _) | (with_reducible refine Kd.C_drew ?_))); (case side2 => exact (Kd.R_reads' HO402.out).2.1); rintro e w' ⟨rfl, ⟨nd, rfl⟩⟩; (try first | exact ⟨rfl, _, World.drewN_drewN _ _ _⟩ | exact ⟨rfl, _, Eq.trans (World.drewN_drewN _ _ _) (congrArg (World.drewN _) (Nat.add_assoc _ _ _))⟩)) | (go_at_call 17; (with_reducible refine (spec_DrawNearCodes.calls k _ _ l0 t409 _ ?side1 ?side2 A10.out).mono ?_); (case side1 => repeat (first | exact (Kd.C_below HR0.out (by repeat (first | (with_reducible first | exact HB.out | apply below_alloc | apply pw_below_drewN | apply below_drew1) | exact HB.out))) | (with_reducible refine Kd.C_alloc ?_ _) | (with_reducible refine Kd.C_drewN ?_ _) | (with_reducible refine Kd.C_drew ?_))); (case side2 => exact HC0.out); rintro e w20 ⟨rfl, hb⟩; have n0_ := Aside0.mk (Kd.R_below (by (with_reducible repeat (first | apply Kd.R_alloc | apply Kd.R_drewN | apply Kd.R_drew)); exact HO395.out) hb); have n1_ := Aside0.mk (Kd.R_below (by (with_reducible repeat (first | apply Kd.R_alloc | apply Kd.R_drewN | apply Kd.R_drew)); exact HO402.out) hb); have n2_ := Aside0.mk (below_step (by repeat (first | (with_reducible first | exact HB.out | apply below_alloc | apply pw_below_drewN | apply below_drew1) | exact HB.out)) hb); clear HO395; clear HO402; clear HB; have HO395 := n0_; have HO402 := n1_; have HB := n2_; clear n0_ n1_ n2_; (try clear hb); (try clear hb2); (try clear hk); (try clear hi)) | (go_at_call 6; (with_reducible refine (impl_NearCodes.calls t409 t410 t411 _ A11.out).mono ?_); rintro e w21 ⟨v412, rfl, ho0, hb⟩; have n0_ := Aside0.mk (Kd.R_elder' (by (with_reducible repeat (first | apply Kd.R_alloc | apply Kd.R_drewN | apply Kd.R_drew)); exact HO395.out) (Kd.R_base ho0) hb); have n1_ := Aside0.mk (Kd.R_elder' (by (with_reducible repeat (first | apply Kd.R_alloc | apply Kd.R_drewN | apply Kd.R_drew)); exact HO402.out) (Kd.R_base ho0) hb); have n2_ := Aside0.mk (Kd.R_lower (Kd.R_new' (Kd.R_new' ho0 (Kd.R_lt (by (with_reducible repeat (first | apply Kd.R_alloc | apply Kd.R_drewN | apply Kd.R_drew)); exact HO395.out))) (Kd.R_lt (by (with_reducible repeat (first | apply Kd.R_alloc | apply Kd.R_drewN | apply Kd.R_drew)); exact HO402.out))) (below_size (by repeat (first | (with_reducible first | exact HB.out | apply below_alloc | apply pw_below_drewN | apply below_drew1) | exact HB.out)))); have n3_ := Aside0.mk (below_step (by repeat (first | (with_reducible first | exact HB.out | apply below_alloc | apply pw_below_drewN | apply below_drew1) | exact HB.out)) hb); clear HO395; clear HO402; clear HB; have HO395 := n0_; have HO402 := n1_; have HO413 := n2_; have HB := n3_; clear n0_ n1_ n2_ n3_; (try clear hb); (try clear hb2); (try clear hk); (try clear hi); (try clear ho0)) | (go_at_call 5; (with_reducible refine (spec_NearCodes.calls t409 t414 t415 _ A12.out).mono ?_); rintro e w22 ⟨v416, rfl, ho0, hb⟩; have n0_ := Aside0.mk (Kd.R_elder' (by (with_reducible repeat (first | apply Kd.R_alloc | apply Kd.R_drewN | apply Kd.R_drew)); exact HO395.out) (Kd.R_base ho0) hb); have n1_ := Aside0.mk (Kd.R_elder' (by (with_reducible repeat (first | apply Kd.R_alloc | apply Kd.R_drewN | apply Kd.R_drew)); exact HO402.out) (Kd.R_base ho0) hb); have n2_ := Aside0.mk (Kd.R_elder' (by (with_reducible repeat (first | apply Kd.R_alloc | apply Kd.R_drewN | apply Kd.R_drew)); exact HO413.out) (Kd.R_base ho0) hb); have n3_ := Aside0.mk (Kd.R_lower (Kd.R_new' (Kd.R_new' (Kd.R_new' ho0 (Kd.R_lt (by (with_reducible repeat (first | apply Kd.R_alloc | apply Kd.R_drewN | apply Kd.R_drew)); exact HO395.out))) (Kd.R_lt (by (with_reducible repeat (first | apply Kd.R_alloc | apply Kd.R_drewN | apply Kd.R_drew)); exact HO402.out))) (Kd.R_lt (by (with_reducible repeat (first | apply Kd.R_alloc | apply Kd.R_drewN | apply Kd.R_drew)); exact HO413.out))) (below_size (by repeat (first | (with_reducible first | exact HB.out | apply below_alloc | apply pw_below_drewN | apply below_drew1) | exact HB.out)))); have n4_ := Aside0.mk (below_step (by repeat (first | (with_reducible first | exact HB.out | apply below_alloc | apply pw_below_drewN | apply below_drew1) | exact HB.out)) hb); clear HO395; clear HO402; clear HO413; clear HB; have HO395 := n0_; have HO402 := n1_; have HO413 := n2_; have HO417 := n3_; have HB := n4_; clear n0_ n1_ n2_ n3_ n4_; (try clear hb); (try clear hb2); (try clear hk); (try clear hi); (try clear ho0)))
    repeat (go_quiet (first | (go_at_call 10; (with_reducible refine (laws_big.calls _ _ l0 false _ ?side1 ?side2 A2.out).mono ?_); (case side1 => repeat (first | exact HR0.out | (with_reducible refine Kd.C_alloc ?_ _) | (with_reducible refine Kd.C_drewN ?_ _) | (with_reducible refine Kd.C_drew ?_))); (case side2 => exact HC0.out); rintro e w' ⟨rfl, ⟨nd, rfl⟩⟩; (try first | exact ⟨rfl, _, World.drewN_drewN _ _ _⟩ | exact ⟨rfl, _, Eq.trans (World.drewN_drewN _ _ _) (congrArg (World.drewN _) (Nat.add_assoc _ _ _))⟩)) | (go_at_call 11; (with_reducible refine (spec_DrawStopAfter.calls k _ _ l0 t391 t392 t393 _ ?side1 ?side2 A4.out).mono ?_); (case side1 => repeat (first | exact HR0.out | (with_reducible refine Kd.C_alloc ?_ _) | (with_reducible refine Kd.C_drewN ?_ _) | (with_reducible refine Kd.C_drew ?_))); (case side2 => exact HC0.out); rintro e w14 ⟨v394, rfl, ho0, hb⟩; have n0_ := Aside0.mk (Kd.R_lower ho0 (below_size (by repeat (first | (with_reducible first | exact HB.out | apply below_alloc | apply pw_below_drewN | apply below_drew1) | exact HB.out)))); have n1_ := Aside0.mk (below_step (by repeat (first | (with_reducible first | exact HB.out | apply below_alloc | apply pw_below_drewN | apply below_drew1) | exact HB.out)) hb); clear HB; have HO395 := n0_; have HB := n1_; clear n0_ n1_; (try clear hb); (try clear hb2); (try clear hk); (try clear hi); (try clear ho0); obtain ⟨Ao15, co15, eo15⟩ := Kd.R_slice HO395.out; subst eo15) | (go_at_call 12; (with_reducible refine (impl_StopAfter.calls k _ _ t391 t392 t393 t396 t397 _ ?side1 ?side2 A5.out).mono ?_); (case side1 => repeat (first | exact (Kd.R_reads' HO395.out).2.2 | (with_reducible refine Kd.C_alloc ?_ _) | (with_reducible refine Kd.C_drewN ?_ _) | (with_reducible refine Kd.C_drew ?_))); (case side2 => exact (Kd.R_reads' HO395.out).2.1); rintro e w16 ⟨rfl, hb⟩; have n0_ := Aside0.mk (Kd.R_below (by (with_reducible repeat (first | apply Kd.R_alloc | apply Kd.R_drewN | apply Kd.R_drew)); exact HO395.out) hb); have n1_ := Aside0.mk (below_step (by repeat (first | (with_reducible first | exact HB.out | apply below_alloc | apply pw_below_drewN | apply below_drew1) | exact HB.out)) hb); clear HO395; clear HB; have HO395 := n0_; have HB := n1_; clear n0_ n1_; (try clear hb); (try clear hb2); (try clear hk); (try clear hi)) | (go_at_call 13; (with_reducible refine (spec_StopAfter.calls k _ _ t391 t392 t393 t398 t399 _ ?side1 ?side2 A6.out).mono ?_); (case side1 => repeat (first | exact (Kd.R_reads' HO395.out).2.2 | (with_reducible refine Kd.C_alloc ?_ _) | (with_reducible refine Kd.C_drewN ?_ _) | (with_reducible refine Kd.C_drew ?_))); (case side2 => exact (Kd.R_reads' HO395.out).2.1); rintro e w' ⟨rfl, ⟨nd, rfl⟩⟩; (try first | exact ⟨rfl, _, World.drewN_drewN _ _ _⟩ | exact ⟨rfl, _, Eq.trans (World.drewN_drewN _ _ _) (congrArg (World.drewN _) (Nat.add_assoc _ _ _))⟩)) | (go_at_call 14; (with_reducible refine (spec_DrawBestCode.calls k _ _ l0 t400 _ ?side1 ?side2 A7.out).mono ?_); (case side1 => repeat (first | exact (Kd.C_below HR0.out (by repeat (first | (with_reducible first | exact HB.out | apply below_alloc | apply pw_below_drewN | apply below_drew1) | exact HB.out))) | (with_reducible refine Kd.C_alloc ?_ _) | (with_reducible refine Kd.C_drewN ?_ _) | (with_reducible refine Kd.C_drew ?_))); (case side2 => exact HC0.out); rintro e w17 ⟨v401, rfl, ho0, hb⟩; have n0_ := Aside0.mk (Kd.R_elder' (by (with_reducible repeat (first | apply Kd.R_alloc | apply Kd.R_drewN | apply Kd.R_drew)); exact HO395.out) (Kd.R_base ho0) hb); have n1_ := Aside0.mk (Kd.R_lower (Kd.R_new' ho0 (Kd.R_lt (by (with_reducible repeat (first | apply Kd.R_alloc | apply Kd.R_drewN | apply Kd.R_drew)); exact HO395.out))) (below_size (by repeat (first | (with_reducible first | exact HB.out | apply below_alloc | apply pw_below_drewN | apply below_drew1) | exact HB.out)))); have n2_ := Aside0.mk (below_step (by repeat (first | (with_reducible first | exact HB.out | apply below_alloc | apply pw_below_drewN | apply below_drew1) | exact HB.out)) hb); clear HO395; clear HB; have HO395 := n0_; have HO402 := n1_; have HB := n2_; clear n0_ n1_ n2_; (try clear hb); (try clear hb2); (try clear hk); (try clear hi); (try clear ho0); obtain ⟨Ao18, co18, eo18⟩ := Kd.R_slice HO402.out; subst eo18) | (go_at_call 15; (with_reducible refine (impl_BestCode.calls _ _ t400 t403 t404 t405 _ ?side1 ?side2 A8.out).mono ?_); (case side1 => repeat (first | exact (Kd.R_reads' HO402.out).2.2 | (with_reducible refine Kd.C_alloc ?_ _) | (with_reducible refine Kd.C_drewN ?_ _) | (with_reducible refine Kd.C_drew ?_))); (case side2 => exact (Kd.R_reads' HO402.out).2.1); rintro e w19 ⟨rfl, hb⟩; have n0_ := Aside0.mk (Kd.R_below (by (with_reducible repeat (first | apply Kd.R_alloc | apply Kd.R_drewN | apply Kd.R_drew)); exact HO395.out) hb); have n1_ := Aside0.mk (Kd.R_below (by (with_reducible repeat (first | apply Kd.R_alloc | apply Kd.R_drewN | apply Kd.R_drew)); exact HO402.out) hb); have n2_ := Aside0.mk (below_step (by repeat (first | (with_reducible first | exact HB.out | apply below_alloc | apply pw_below_drewN | apply below_drew1) | exact HB.out)) hb); clear HO395; clear HO402; clear HB; have HO395 := n0_; have HO402 := n1_; have HB := n2_; clear n0_ n1_ n2_; (try clear hb); (try clear hb2); (try clear hk); (try clear hi)) | (go_at_call 16; (with_reducible refine (spec_BestCode.calls k _ _ t400 t406 t407 t408 _ ?side1 ?side2 A9.out).mono ?_); (case side1 => repeat (first | exact (Kd.R_reads' HO402.out).2.2 | (with_reducible refine Kd.C_alloc ?_ _) | (with_reducible refine Kd.C_drewN ?_ _) | (with_reducible refine Kd.C_drew ?_))); (case side2 => exact (Kd.R_reads' HO402.out).2.1); rintro e w' ⟨rfl, ⟨nd, rfl⟩⟩; (try first | exact ⟨rfl, _, World.drewN_drewN _ _ _⟩ | exact ⟨rfl, _, Eq.trans (World.drewN_drewN _ _ _) (congrArg (World.drewN _) (Nat.add_assoc _ _ _))⟩)) | (go_at_call 17; (with_reducible refine (spec_DrawNearCodes.calls k _ _ l0 t409 _ ?side1 ?side2 A10.out).mono ?_); (case side1 => repeat (first | exact (Kd.C_below HR0.out (by repeat (first | (with_reducible first | exact HB.out | apply below_alloc | apply pw_below_drewN | apply below_drew1) | exact HB.out))) | (with_reducible refine Kd.C_alloc ?_ _) | (with_reducible refine Kd.C_drewN ?_ _) | (with_reducible refine Kd.C_drew ?_))); (case side2 => exact HC0.out); rintro e w20 ⟨rfl, hb⟩; have n0_ := Aside0.mk (Kd.R_below (by (with_reducible repeat (first | apply Kd.R_alloc | apply Kd.R_drewN | apply Kd.R_drew)); exact HO395.out) hb); have n1_ := Aside0.mk (Kd.R_below (by (with_reducible repeat (first | apply Kd.R_alloc | apply Kd.R_drewN | apply Kd.R_drew)); exact HO402.out) hb); have n2_ := Aside0.mk (below_step (by repeat (first | (with_reducible first | exact HB.out | apply below_alloc | apply pw_below_drewN | apply below_drew1) | exact HB.out)) hb); clear HO395; clear HO402; clear HB; have HO395 := n0_; have HO402 := n1_; have HB := n2_; clear n0_ n1_ n2_; (try clear hb); (try clear hb2); (try clear hk); (try clear hi)) | (go_at_call 6; (with_reducible refine (impl_NearCodes.calls t409 t410 t411 _ A11.out).mono ?_); rintro e w21 ⟨v412, rfl, ho0, hb⟩; have n0_ := Aside0.mk (Kd.R_elder' (by (with_reducible repeat (first | apply Kd.R_alloc | apply Kd.R_drewN | apply Kd.R_drew)); exact HO395.out) (Kd.R_base ho0) hb); have n1_ := Aside0.mk (Kd.R_elder' (by (with_reducible repeat (first | apply Kd.R_alloc | apply Kd.R_drewN | apply Kd.R_drew)); exact HO402.out) (Kd.R_base ho0) hb); have n2_ := Aside0.mk (Kd.R_lower (Kd.R_new' (Kd.R_new' ho0 (Kd.R_lt (by (with_reducible repeat (first | apply Kd.R_alloc | apply Kd.R_drewN | apply Kd.R_drew)); exact HO395.out))) (Kd.R_lt (by (with_reducible repeat (first | apply Kd.R_alloc | apply Kd.R_drewN | apply Kd.R_drew)); exact HO402.out))) (below_size (by repeat (first | (with_reducible first | exact HB.out | apply below_alloc | apply pw_below_drewN | apply below_drew1) | exact HB.out)))); have n3_ := Aside0.mk (below_step (by repeat (first | (with_reducible first | exact HB.out | apply below_alloc | apply pw_below_drewN | apply below_drew1) | exact HB.out)) hb); clear HO395; clear HO402; clear HB; have HO395 := n0_; have HO402 := n1_; have HO413 := n2_; have HB := n3_; clear n0_ n1_ n2_ n3_; (try clear hb); (try clear hb2); (try clear hk); (try clear hi); (try clear ho0)) | (go_at_call 5; (with_reducible refine (spec_NearCodes.calls t409 t414 t415 _ A12.out).mono ?_); rintro e w22 ⟨v416, rfl, ho0, hb⟩; have n0_ := Aside0.mk (Kd.R_elder' (by (with_reducible repeat (first | apply Kd.R_alloc | apply Kd.R_drewN | apply Kd.R_drew)); exact HO395.out) (Kd.R_base ho0) hb); have n1_ := Aside0.mk (Kd.R_elder' (by (with_reducible repeat (first | apply Kd.R_alloc | apply Kd.R_drewN | apply Kd.R_drew)); exact HO402.out) (Kd.R_base ho0) hb); have n2_ := Aside0.mk (Kd.R_elder' (by (with_reducible repeat (first | apply Kd.R_alloc | apply Kd.R_drewN | apply Kd.R_drew)); exact HO413.out) (Kd.R_base ho0) hb); have n3_ := Aside0.mk (Kd.R_lower (Kd.R_new' (Kd.R_new' (Kd.R_new' ho0 (Kd.R_lt (by (with_reducible repeat (first | apply Kd.R_alloc | apply Kd.R_drewN | apply Kd.R_drew)); exact HO395.out))) (Kd.R_lt (by (with_reducible repeat (first | apply Kd.R_alloc | apply Kd.R_drewN | apply Kd.R_drew)); exact HO402.out))) (Kd.R_lt (by (with_reducible repeat (first | apply Kd.R_alloc | apply Kd.R_drewN | apply Kd.R_drew)); exact HO413.out))) (below_size (by repeat (first | (with_reducible first | exact HB.out | apply below_alloc | apply pw_below_drewN | apply below_drew1) | exact HB.out)))); have n4_ := Aside0.mk (below_step (by repeat (first | (with_reducible first | exact HB.out | apply below_alloc | apply pw_below_drewN | apply below_drew1) | exact HB.out)) hb); clear HO395; clear HO402; clear HO413; clear HB; have HO395 := n0_; have HO402 := n1_; have HO413 := n2_; have HO417 := n3_; have HB := n4_; clear n0_ n1_ n2_ n3_ n4_; (try clear hb); (try clear hb2); (try clear hk); (try clear hi); (try clear ho0))); go_upto_region 12 with (first | (go_at_call 10; (with_reducible refine (laws_big.calls _ _ l0 false _ ?side1 ?side2 A2.out).mono ?_); (case side1 => repeat (first | exact HR0.out | (with_reducible refine Kd.C_alloc ?_ _) | (with_reducible refine Kd.C_drewN ?_ _) | (with_reducible refine Kd.C_drew ?_))); (case side2 => exact HC0.out); rintro e w' ⟨rfl, ⟨nd, rfl⟩⟩; (try first | exact ⟨rfl, _, World.drewN_drewN _ _ _⟩ | exact ⟨rfl, _, Eq.trans (World.drewN_drewN _ _ _) (congrArg (World.drewN _) (Nat.add_assoc _ _ _))⟩)) | (go_at_call 11; (with_reducible refine (spec_DrawStopAfter.calls k _ _ l0 t391 t392 t393 _ ?side1 ?side2 A4.out).mono ?_); (case side1 => repeat (first | exact HR0.out | (with_reducible refine Kd.C_alloc ?_ _) | (with_reducible refine Kd.C_drewN ?_ _) | (with_reducible refine Kd.C_drew ?_))); (case side2 => exact HC0.out); rintro e w14 ⟨v394, rfl, ho0, hb⟩; have n0_ := Aside0.mk (Kd.R_lower ho0 (below_size (by repeat (first | (with_reducible first | exact HB.out | apply below_alloc | apply pw_below_drewN | apply below_drew1) | exact HB.out)))); have n1_ := Aside0.mk (below_step (by repeat (first | (with_reducible first | exact HB.out | apply below_alloc | apply pw_below_drewN | apply below_drew1) | exact HB.out)) hb); clear HB; have HO395 := n0_; have HB := n1_; clear n0_ n1_; (try clear hb); (try clear hb2); (try clear hk); (try clear hi); (try clear ho0); obtain ⟨Ao15, co15, eo15⟩ := Kd.R_slice HO395.out; subst eo15) | (go_at_call 12; (with_reducible refine (impl_StopAfter.calls k _ _ t391 t392 t393 t396 t397 _ ?side1 ?side2 A5.out).mono ?_); (case side1 => repeat (first | exact (Kd.R_reads' HO395.out).2.2 | (with_reducible refine Kd.C_alloc ?_ _) | (with_reducible refine Kd.C_drewN ?_ _) | (with_reducible refine Kd.C_drew ?_))); (case side2 => exact (Kd.R_reads' HO395.out).2.1); rintro e w16 ⟨rfl, hb⟩; have n0_ := Aside0.mk (Kd.R_below (by (with_reducible repeat (first | apply Kd.R_alloc | apply Kd.R_drewN | apply Kd.R_drew)); exact HO395.out) hb); have n1_ := Aside0.mk (below_step (by repeat (first | (with_reducible first | exact HB.out | apply below_alloc | apply pw_below_drewN | apply below_drew1) | exact HB.out)) hb); clear HO395; clear HB; have HO395 := n0_; have HB := n1_; clear n0_ n1_; (try clear hb); (try clear hb2); (try clear hk); (try clear hi)) | (go_at_call 13; (with_reducible refine (spec_StopAfter.calls k _ _ t391 t392 t393 t398 t399 _ ?side1 ?side2 A6.out).mono ?_); (case side1 => repeat (first | exact (Kd.R_reads' HO395.out).2.2 | (with_reducible refine Kd.C_alloc ?_ _) | (with_reducible refine Kd.C_drewN ?_ _) | (with_reducible refine Kd.C_drew ?_))); (case side2 => exact (Kd.R_reads' HO395.out).2.1); rintro e w' ⟨rfl, ⟨nd, rfl⟩⟩; (try first | exact ⟨rfl, _, World.drewN_drewN _ _ _⟩ | exact ⟨rfl, _, Eq.trans (World.drewN_drewN _ _ _) (congrArg (World.drewN _) (Nat.add_assoc _ _ _))⟩)) | (go_at_call 14; (with_reducible refine (spec_DrawBestCode.calls k _ _ l0 t400 _ ?side1 ?side2 A7.out).mono ?_); (case side1 => repeat (first | exact (Kd.C_below HR0.out (by repeat (first | (with_reducible first | exact HB.out | apply below_alloc | apply pw_below_drewN | apply below_drew1) | exact HB.out))) | (with_reducible refine Kd.C_alloc ?_ _) | (with_reducible refine Kd.C_drewN ?_ _) | (with_reducible refine Kd.C_drew ?_))); (case side2 => exact HC0.out); rintro e w17 ⟨v401, rfl, ho0, hb⟩; have n0_ := Aside0.mk (Kd.R_elder' (by (with_reducible repeat (first | apply Kd.R_alloc | apply Kd.R_drewN | apply Kd.R_drew)); exact HO395.out) (Kd.R_base ho0) hb); have n1_ := Aside0.mk (Kd.R_lower (Kd.R_new' ho0 (Kd.R_lt (by (with_reducible repeat (first | apply Kd.R_alloc | apply Kd.R_drewN | apply Kd.R_drew)); exact HO395.out))) (below_size (by repeat (first | (with_reducible first | exact HB.out | apply below_alloc | apply pw_below_drewN | apply below_drew1) | exact HB.out)))); have n2_ := Aside0.mk (below_step (by repeat (first | (with_reducible first | exact HB.out | apply below_alloc | apply pw_below_drewN | apply below_drew1) | exact HB.out)) hb); clear HO395; clear HB; have HO395 := n0_; have HO402 := n1_; have HB := n2_; clear n0_ n1_ n2_; (try clear hb); (try clear hb2); (try clear hk); (try clear hi); (try clear ho0); obtain ⟨Ao18, co18, eo18⟩ := Kd.R_slice HO402.out; subst eo18) | (go_at_call 15; (with_reducible refine (impl_BestCode.calls _ _ t400 t403 t404 t405 _ ?side1 ?side2 A8.out).mono ?_); (case side1 => repeat (first | exact (Kd.R_reads' HO402.out).2.2 | (with_reducible refine Kd.C_alloc ?_ _) | (with_reducible refine Kd.C_drewN ?_ _) | (with_reducible refine Kd.C_drew ?_))); (case side2 => exact (Kd.R_reads' HO402.out).2.1); rintro e w19 ⟨rfl, hb⟩; have n0_ := Aside0.mk (Kd.R_below (by (with_reducible repeat (first | apply Kd.R_alloc | apply Kd.R_drewN | apply Kd.R_drew)); exact HO395.out) hb); have n1_ := Aside0.mk (Kd.R_below (by (with_reducible repeat (first | apply Kd.R_alloc | apply Kd.R_drewN | apply Kd.R_drew)); exact HO402.out) hb); have n2_ := Aside0.mk (below_step (by repeat (first | (with_reducible first | exact HB.out | apply below_alloc | apply pw_below_drewN | apply below_drew1) | exact HB.out)) hb); clear HO395; clear HO402; clear HB; have HO395 := n0_; have HO402 := n1_; have HB := n2_; clear n0_ n1_ n2_; (try clear hb); (try clear hb2); (try clear hk); (try clear hi)) | (go_at_call 16; (with_reducible refine (spec_BestCode.calls k _ _ t400 t406 t407 t408 _ ?side1 ?side2 A9.out).mono ?_); (case side1 => repeat (first | exact (Kd.R_reads' HO402.out).2.2 | (with_reducible refine Kd.C_alloc ?_ _) | (with_reducible refine Kd.C_drewN ?_ _) | (with_reducible refine Kd.C_drew ?_))); (case side2 => exact (Kd.R_reads' HO402.out).2.1); rintro e w' ⟨rfl, ⟨nd, rfl⟩⟩; (try first | exact ⟨rfl, _, World.drewN_drewN _ _ _⟩ | exact ⟨rfl, _, Eq.trans (World.drewN_drewN _ _ _) (congrArg (World.drewN _) (Nat.add_assoc _ _ _))⟩)) | (go_at_call 17; (with_reducible refine (spec_DrawNearCodes.calls k _ _ l0 t409 _ ?side1 ?side2 A10.out).mono ?_); (case side1 => repeat (first | exact (Kd.C_below HR0.out (by repeat (first | (with_reducible first | exact HB.out | apply below_alloc | apply pw_below_drewN | apply below_drew1) | exact HB.out))) | (with_reducible refine Kd.C_alloc ?_ _) | (with_reducible refine Kd.C_drewN ?_ _) | (with_reducible refine Kd.C_drew ?_))); (case side2 => exact HC0.out); rintro e w20 ⟨rfl, hb⟩; have n0_ := Aside0.mk (Kd.R_below (by (with_reducible repeat (first | apply Kd.R_alloc | apply Kd.R_drewN | apply Kd.R_drew)); exact HO395.out) hb); have n1_ := Aside0.mk (Kd.R_below (by (with_reducible repeat (first | apply Kd.R_alloc | apply Kd.R_drewN | apply Kd.R_drew)); exact HO402.out) hb); have n2_ := Aside0.mk (below_step (by repeat (first | (with_reducible first | exact HB.out | apply below_alloc | apply pw_below_drewN | apply below_drew1) | exact HB.out)) hb); clear HO395; clear HO402; clear HB; have HO395 := n0_; have HO402 := n1_; have HB := n2_; clear n0_ n1_ n2_; (try clear hb); (try clear hb2); (try clear hk); (try clear hi)) | (go_at_call 6; (with_reducible refine (impl_NearCodes.calls t409 t410 t411 _ A11.out).mono ?_); rintro e w21 ⟨v412, rfl, ho0, hb⟩; have n0_ := Aside0.mk (Kd.R_elder' (by (with_reducible repeat (first | apply Kd.R_alloc | apply Kd.R_drewN | apply Kd.R_drew)); exact HO395.out) (Kd.R_base ho0) hb); have n1_ := Aside0.mk (Kd.R_elder' (by (with_reducible repeat (first | apply Kd.R_alloc | apply Kd.R_drewN | apply Kd.R_drew)); exact HO402.out) (Kd.R_base ho0) hb); have n2_ := Aside0.mk (Kd.R_lower (Kd.R_new' (Kd.R_new' ho0 (Kd.R_lt (by (with_reducible repeat (first | apply Kd.R_alloc | apply Kd.R_drewN | apply Kd.R_drew)); exact HO395.out))) (Kd.R_lt (by (with_reducible repeat (first | apply Kd.R_alloc | apply Kd.R_drewN | apply Kd.R_drew)); exact HO402.out))) (below_size (by repeat (first | (with_reducible first | exact HB.out | apply below_alloc | apply pw_below_drewN | apply below_drew1) | exact HB.out)))); have n3_ := Aside0.mk (below_step (by repeat (first | (with_reducible first | exact HB.out | apply below_alloc | apply pw_below_drewN | apply below_drew1) | exact HB.out)) hb); clear HO395; clear HO402; clear HB; have HO395 := n0_; have HO402 := n1_; have HO413 := n2_; have HB := n3_; clear n0_ n1_ n2_ n3_; (try clear hb); (try clear hb2); (try clear hk); (try clear hi); (try clear ho0)) | (go_at_call 5; (with_reducible refine (spec_NearCodes.calls t409 t414 t415 _ A12.out).mono ?_); rintro e w22 ⟨v416, rfl, ho0, hb⟩; have n0_ := Aside0.mk (Kd.R_elder' (by (with_reducible repeat (first | apply Kd.R_alloc | apply Kd.R_drewN | apply Kd.R_drew)); exact HO395.out) (Kd.R_base ho0) hb); have n1_ := Aside0.mk (Kd.R_elder' (by (with_reducible repeat (first | apply Kd.R_alloc | apply Kd.R_drewN | apply Kd.R_drew)); exact HO402.out) (Kd.R_base ho0) hb); have n2_ := Aside0.mk (Kd.R_elder' (by (with_reducible repeat (first | apply Kd.R_alloc | apply Kd.R_drewN | apply Kd.R_drew)); exact HO413.out) (Kd.R_base ho0) hb); have n3_ := Aside0.mk (Kd.R_lower (Kd.R_new' (Kd.R_new' (Kd.R_new' ho0 (Kd.R_lt (by (with_reducible repeat (first | apply Kd.R_alloc | apply Kd.R_drewN | apply Kd.R_drew)); exact HO395.out))) (Kd.R_lt (by (with_reducible repeat (first | apply Kd.R_alloc | apply Kd.R_drewN | apply Kd.R_drew)); exact HO402.out))) (Kd.R_lt (by (with_reducible repeat (first | apply Kd.R_alloc | apply Kd.R_drewN | apply Kd.R_drew)); exact HO413.out))) (below_size (by repeat (first | (with_reducible first | exact HB.out | apply below_alloc | apply pw_below_drewN | apply below_drew1) | exact HB.out)))); have n4_ := Aside0.mk (below_step (by repeat (first | (with_reducible first | exact HB.out | apply below_alloc | apply pw_below_drewN | apply below_drew1) | exact HB.out)) hb); clear HO395; clear HO402; clear HO413; clear HB; have HO395 := n0_; have HO402 := n1_; have HO413 := n2_; have HO417 := n3_; have HB := n4_; clear n0_ n1_ n2_ n3_ n4_; (try clear hb); (try clear hb2); (try clear hk); (try clear hi); (try clear ho0))))
    (try simp only [Act.put, List.setIfInBounds_toArray, List.set_cons_zero, List.set_cons_succ])
    go_cut [111] (fun v111 wc => ∃ (kq : Nat) (x111_12 : Bool), v111 = .bool x111_12 ∧ Aside0 (laws_FnReads.j0 kq t391 t392 t393 t396 t397 t400 t403 t404 t405 t409 t410 x111_12 = some r) ∧ Aside0 (kq ≤ k) ∧ Aside0 (Kd.R (Kd.int .i64) 2 wc w.heap.size (fun k_ => some k_ ≠ ((.slice Ao18 t400.length co18) : Value).ownBlock ∧ some k_ ≠ (v412 : Value).ownBlock) (.slice Ao15 t391.length co15) t391) ∧ Aside0 (Kd.R (Kd.int .i64) 2 wc w.heap.size (fun k_ => some k_ ≠ ((.slice Ao15 t391.length co15) : Value).ownBlock ∧ some k_ ≠ (v412 : Value).ownBlock) (.slice Ao18 t400.length co18) t400) ∧ Aside0 (Kd.R (Kd.int .i64) 2 wc w.heap.size (fun k_ => some k_ ≠ ((.slice Ao15 t391.length co15) : Value).ownBlock ∧ some k_ ≠ ((.slice Ao18 t400.length co18) : Value).ownBlock) v412 t410) ∧ Aside0 (Below w.heap.size w wc))
    case first =>
      have H := HC13.out
      clear HC13
      by_cases c23 : t397 = t399
      · rw [if_pos c23] at H
        have c23b0 : (t397 == t399) = true := beq_iff_eq.mpr c23
        have c23b1 : (t397 != t399) = false := bne_eq_false_iff_eq.mpr c23
        clear c23
        (first | rw [c23b0] | (simp only [i64_w, i32_w]; rw [c23b0]) | skip)
        by_cases c24 : t396 = t398
        · rw [if_pos c24] at H
          have c24b0 : (t396 == t398) = true := beq_iff_eq.mpr c24
          have c24b1 : (t396 != t398) = false := bne_eq_false_iff_eq.mpr c24
          clear c24
          by_cases c25 : t405 = t408
          · rw [if_pos c25] at H
            have c25b0 : (t405 == t408) = true := beq_iff_eq.mpr c25
            have c25b1 : (t405 != t408) = false := bne_eq_false_iff_eq.mpr c25
            clear c25
            by_cases c26 : t403 = t406
            · rw [if_pos c26] at H
              have c26b0 : (t403 == t406) = true := beq_iff_eq.mpr c26
              have c26b1 : (t403 != t406) = false := bne_eq_false_iff_eq.mpr c26
              clear c26
              by_cases c27 : t404 = t407
              · rw [if_pos c27] at H
                have c27b0 : (t404 == t407) = true := beq_iff_eq.mpr c27
                have c27b1 : (t404 != t407) = false := bne_eq_false_iff_eq.mpr c27
                clear c27
                by_cases c28 : t411 = t415
                · rw [if_pos c28] at H
                  have c28b0 : (t411 == t415) = true := beq_iff_eq.mpr c28
                  have c28b1 : (t411 != t415) = false := bne_eq_false_iff_eq.mpr c28
                  clear c28
                  replace H := Option.bind_eq_some_iff.mp H
                  obtain ⟨t418, A290, H⟩ := H
                  replace H : (laws_FnReads.j0 k t391 t392 t393 t396 t397 t400 t403 t404 t405 t409 t410 (!t418)) = some r := H
                  have A29 := Aside0.mk A290
                  clear A290
                  have H' := Aside0.mk H
                  clear H
                  obtain ⟨Ao30, co30, eo30⟩ := Kd.R_slice HO413.out
                  subst eo30
                  obtain ⟨Ao31, co31, eo31⟩ := Kd.R_slice HO417.out
                  subst eo31
                  go_wp2_with (first | (go_at_call 18; (with_reducible refine (laws_likeInts.calls k _ _ t410 _ _ t414 t418 _ ?side1 ?side2 ?side3 ?side4 A29.out).mono ?_); (case side1 => repeat (first | exact (Kd.R_reads' HO413.out).2.2 | (with_reducible refine Kd.C_alloc ?_ _) | (with_reducible refine Kd.C_drewN ?_ _) | (with_reducible refine Kd.C_drew ?_))); (case side2 => exact (Kd.R_reads' HO413.out).2.1); (case side3 => repeat (first | exact (Kd.R_reads' HO417.out).2.2 | (with_reducible refine Kd.C_alloc ?_ _) | (with_reducible refine Kd.C_drewN ?_ _) | (with_reducible refine Kd.C_drew ?_))); (case side4 => exact (Kd.R_reads' HO417.out).2.1); rintro e w' ⟨rfl, ⟨nd, rfl⟩⟩; (try first | exact ⟨rfl, _, World.drewN_drewN _ _ _⟩ | exact ⟨rfl, _, Eq.trans (World.drewN_drewN _ _ _) (congrArg (World.drewN _) (Nat.add_assoc _ _ _))⟩)))
                  repeat (go_quiet (first | (go_at_call 18; (with_reducible refine (laws_likeInts.calls k _ _ t410 _ _ t414 t418 _ ?side1 ?side2 ?side3 ?side4 A29.out).mono ?_); (case side1 => repeat (first | exact (Kd.R_reads' HO413.out).2.2 | (with_reducible refine Kd.C_alloc ?_ _) | (with_reducible refine Kd.C_drewN ?_ _) | (with_reducible refine Kd.C_drew ?_))); (case side2 => exact (Kd.R_reads' HO413.out).2.1); (case side3 => repeat (first | exact (Kd.R_reads' HO417.out).2.2 | (with_reducible refine Kd.C_alloc ?_ _) | (with_reducible refine Kd.C_drewN ?_ _) | (with_reducible refine Kd.C_drew ?_))); (case side4 => exact (Kd.R_reads' HO417.out).2.1); rintro e w' ⟨rfl, ⟨nd, rfl⟩⟩; (try first | exact ⟨rfl, _, World.drewN_drewN _ _ _⟩ | exact ⟨rfl, _, Eq.trans (World.drewN_drewN _ _ _) (congrArg (World.drewN _) (Nat.add_assoc _ _ _))⟩))); try go_wp2_with (first | (go_at_call 18; (with_reducible refine (laws_likeInts.calls k _ _ t410 _ _ t414 t418 _ ?side1 ?side2 ?side3 ?side4 A29.out).mono ?_); (case side1 => repeat (first | exact (Kd.R_reads' HO413.out).2.2 | (with_reducible refine Kd.C_alloc ?_ _) | (with_reducible refine Kd.C_drewN ?_ _) | (with_reducible refine Kd.C_drew ?_))); (case side2 => exact (Kd.R_reads' HO413.out).2.1); (case side3 => repeat (first | exact (Kd.R_reads' HO417.out).2.2 | (with_reducible refine Kd.C_alloc ?_ _) | (with_reducible refine Kd.C_drewN ?_ _) | (with_reducible refine Kd.C_drew ?_))); (case side4 => exact (Kd.R_reads' HO417.out).2.1); rintro e w' ⟨rfl, ⟨nd, rfl⟩⟩; (try first | exact ⟨rfl, _, World.drewN_drewN _ _ _⟩ | exact ⟨rfl, _, Eq.trans (World.drewN_drewN _ _ _) (congrArg (World.drewN _) (Nat.add_assoc _ _ _))⟩))))
                  go_meet
                  case rel => exact ⟨_, (!t418), (by first | rfl | (simp; done) | (simp [*]; done)), H', ⟨by first | omega | exact Nat.le_refl _⟩, ⟨by (with_reducible repeat (first | apply Kd.R_alloc | apply Kd.R_drewN | apply Kd.R_drew)); exact Kd.R_mono HO395.out (fun _ hk => ⟨hk.1.1.2, hk.1.2⟩)⟩, ⟨by (with_reducible repeat (first | apply Kd.R_alloc | apply Kd.R_drewN | apply Kd.R_drew)); exact Kd.R_mono HO402.out (fun _ hk => ⟨hk.1.1.2, hk.1.2⟩)⟩, ⟨by (with_reducible repeat (first | apply Kd.R_alloc | apply Kd.R_drewN | apply Kd.R_drew)); exact Kd.R_mono HO413.out (fun _ hk => ⟨hk.1.1.2, hk.1.2⟩)⟩, ⟨by repeat (first | (with_reducible first | exact HB.out | apply below_alloc | apply pw_below_drewN | apply below_drew1) | exact HB.out)⟩⟩
                · rw [if_neg c28] at H
                  have c28b0 : (t411 == t415) = false := beq_eq_false_iff_ne.mpr c28
                  have c28b1 : (t411 != t415) = true := bne_iff_ne.mpr c28
                  have H' := Aside0.mk H
                  clear H
                  go_wp2
                  repeat (go_quiet (fail); try go_wp2)
                  go_meet
                  case rel => exact ⟨_, (true), (by first | rfl | (simp; done) | (simp [*]; done)), H', ⟨by first | omega | exact Nat.le_refl _⟩, ⟨by (with_reducible repeat (first | apply Kd.R_alloc | apply Kd.R_drewN | apply Kd.R_drew)); exact Kd.R_mono HO395.out (fun _ hk => ⟨hk.1.1.2, hk.1.2⟩)⟩, ⟨by (with_reducible repeat (first | apply Kd.R_alloc | apply Kd.R_drewN | apply Kd.R_drew)); exact Kd.R_mono HO402.out (fun _ hk => ⟨hk.1.1.2, hk.1.2⟩)⟩, ⟨by (with_reducible repeat (first | apply Kd.R_alloc | apply Kd.R_drewN | apply Kd.R_drew)); exact Kd.R_mono HO413.out (fun _ hk => ⟨hk.1.1.2, hk.1.2⟩)⟩, ⟨by repeat (first | (with_reducible first | exact HB.out | apply below_alloc | apply pw_below_drewN | apply below_drew1) | exact HB.out)⟩⟩
              · rw [if_neg c27] at H
                have c27b0 : (t404 == t407) = false := beq_eq_false_iff_ne.mpr c27
                have c27b1 : (t404 != t407) = true := bne_iff_ne.mpr c27
                have H' := Aside0.mk H
                clear H
                go_wp2
                repeat (go_quiet (fail); try go_wp2)
                go_meet
                case rel => exact ⟨_, (true), (by first | rfl | (simp; done) | (simp [*]; done)), H', ⟨by first | omega | exact Nat.le_refl _⟩, ⟨by (with_reducible repeat (first | apply Kd.R_alloc | apply Kd.R_drewN | apply Kd.R_drew)); exact Kd.R_mono HO395.out (fun _ hk => ⟨hk.1.1.2, hk.1.2⟩)⟩, ⟨by (with_reducible repeat (first | apply Kd.R_alloc | apply Kd.R_drewN | apply Kd.R_drew)); exact Kd.R_mono HO402.out (fun _ hk => ⟨hk.1.1.2, hk.1.2⟩)⟩, ⟨by (with_reducible repeat (first | apply Kd.R_alloc | apply Kd.R_drewN | apply Kd.R_drew)); exact Kd.R_mono HO413.out (fun _ hk => ⟨hk.1.1.2, hk.1.2⟩)⟩, ⟨by repeat (first | (with_reducible first | exact HB.out | apply below_alloc | apply pw_below_drewN | apply below_drew1) | exact HB.out)⟩⟩
            · rw [if_neg c26] at H
              have c26b0 : (t403 == t406) = false := beq_eq_false_iff_ne.mpr c26
              have c26b1 : (t403 != t406) = true := bne_iff_ne.mpr c26
              have H' := Aside0.mk H
              clear H
              go_wp2
              repeat (go_quiet (fail); try go_wp2)
              go_meet
              case rel => exact ⟨_, (true), (by first | rfl | (simp; done) | (simp [*]; done)), H', ⟨by first | omega | exact Nat.le_refl _⟩, ⟨by (with_reducible repeat (first | apply Kd.R_alloc | apply Kd.R_drewN | apply Kd.R_drew)); exact Kd.R_mono HO395.out (fun _ hk => ⟨hk.1.1.2, hk.1.2⟩)⟩, ⟨by (with_reducible repeat (first | apply Kd.R_alloc | apply Kd.R_drewN | apply Kd.R_drew)); exact Kd.R_mono HO402.out (fun _ hk => ⟨hk.1.1.2, hk.1.2⟩)⟩, ⟨by (with_reducible repeat (first | apply Kd.R_alloc | apply Kd.R_drewN | apply Kd.R_drew)); exact Kd.R_mono HO413.out (fun _ hk => ⟨hk.1.1.2, hk.1.2⟩)⟩, ⟨by repeat (first | (with_reducible first | exact HB.out | apply below_alloc | apply pw_below_drewN | apply below_drew1) | exact HB.out)⟩⟩
          · rw [if_neg c25] at H
            have c25b0 : (t405 == t408) = false := beq_eq_false_iff_ne.mpr c25
            have c25b1 : (t405 != t408) = true := bne_iff_ne.mpr c25
            have H' := Aside0.mk H
            clear H
            go_wp2
            repeat (go_quiet (fail); try go_wp2)
            go_meet
            case rel => exact ⟨_, (true), (by first | rfl | (simp; done) | (simp [*]; done)), H', ⟨by first | omega | exact Nat.le_refl _⟩, ⟨by (with_reducible repeat (first | apply Kd.R_alloc | apply Kd.R_drewN | apply Kd.R_drew)); exact Kd.R_mono HO395.out (fun _ hk => ⟨hk.1.1.2, hk.1.2⟩)⟩, ⟨by (with_reducible repeat (first | apply Kd.R_alloc | apply Kd.R_drewN | apply Kd.R_drew)); exact Kd.R_mono HO402.out (fun _ hk => ⟨hk.1.1.2, hk.1.2⟩)⟩, ⟨by (with_reducible repeat (first | apply Kd.R_alloc | apply Kd.R_drewN | apply Kd.R_drew)); exact Kd.R_mono HO413.out (fun _ hk => ⟨hk.1.1.2, hk.1.2⟩)⟩, ⟨by repeat (first | (with_reducible first | exact HB.out | apply below_alloc | apply pw_below_drewN | apply below_drew1) | exact HB.out)⟩⟩
        · rw [if_neg c24] at H
          have c24b0 : (t396 == t398) = false := beq_eq_false_iff_ne.mpr c24
          have c24b1 : (t396 != t398) = true := bne_iff_ne.mpr c24
          have H' := Aside0.mk H
          clear H
          go_wp2
          repeat (go_quiet (fail); try go_wp2)
          go_meet
          case rel => exact ⟨_, (true), (by first | rfl | (simp; done) | (simp [*]; done)), H', ⟨by first | omega | exact Nat.le_refl _⟩, ⟨by (with_reducible repeat (first | apply Kd.R_alloc | apply Kd.R_drewN | apply Kd.R_drew)); exact Kd.R_mono HO395.out (fun _ hk => ⟨hk.1.1.2, hk.1.2⟩)⟩, ⟨by (with_reducible repeat (first | apply Kd.R_alloc | apply Kd.R_drewN | apply Kd.R_drew)); exact Kd.R_mono HO402.out (fun _ hk => ⟨hk.1.1.2, hk.1.2⟩)⟩, ⟨by (with_reducible repeat (first | apply Kd.R_alloc | apply Kd.R_drewN | apply Kd.R_drew)); exact Kd.R_mono HO413.out (fun _ hk => ⟨hk.1.1.2, hk.1.2⟩)⟩, ⟨by repeat (first | (with_reducible first | exact HB.out | apply below_alloc | apply pw_below_drewN | apply below_drew1) | exact HB.out)⟩⟩
      · rw [if_neg c23] at H
        have c23b0 : (t397 == t399) = false := beq_eq_false_iff_ne.mpr c23
        have c23b1 : (t397 != t399) = true := bne_iff_ne.mpr c23
        (first | rw [c23b0] | (simp only [i64_w, i32_w]; rw [c23b0]) | skip)
        have H' := Aside0.mk H
        clear H
        go_wp2
        repeat (go_quiet (fail); try go_wp2)
        go_meet
        case rel => exact ⟨_, (true), (by first | rfl | (simp; done) | (simp [*]; done)), H', ⟨by first | omega | exact Nat.le_refl _⟩, ⟨by (with_reducible repeat (first | apply Kd.R_alloc | apply Kd.R_drewN | apply Kd.R_drew)); exact Kd.R_mono HO395.out (fun _ hk => ⟨hk.1.1.2, hk.1.2⟩)⟩, ⟨by (with_reducible repeat (first | apply Kd.R_alloc | apply Kd.R_drewN | apply Kd.R_drew)); exact Kd.R_mono HO402.out (fun _ hk => ⟨hk.1.1.2, hk.1.2⟩)⟩, ⟨by (with_reducible repeat (first | apply Kd.R_alloc | apply Kd.R_drewN | apply Kd.R_drew)); exact Kd.R_mono HO413.out (fun _ hk => ⟨hk.1.1.2, hk.1.2⟩)⟩, ⟨by repeat (first | (with_reducible first | exact HB.out | apply below_alloc | apply pw_below_drewN | apply below_drew1) | exact HB.out)⟩⟩
    case rest =>
      clear HC13
      try clear c2
      try clear p2
      try clear c3
      try clear c4
      try clear c23
      try clear c23b0
      try clear c23b1
      try clear c24
      try clear c24b0
      try clear c24b1
      try clear c25
      try clear c25b0
      try clear c25b1
      try clear c26
      try clear c26b0
      try clear c26b1
      try clear c27
      try clear c27b0
      try clear c27b1
      try clear c28
      try clear c28b0
      try clear c28b1
      obtain ⟨kq, x111_12, rfl, HA, HJ12, HO_3, HO_10, HO_18, HB⟩ := hcut
      cases kq with
      | zero => exact absurd HA.out (by simp [laws_FnReads.j0])
      | succ kj12 =>
        have H := HA.out
        clear HA
        simp only [laws_FnReads.j0] at H
        by_cases c32 : x111_12 = true
        · subst c32
          have H1 : (some false) = some r := by rw [if_pos rfl] at H; exact H
          clear H
          have H := H1
          clear H1
          obtain rfl := Option.some.inj H
          go_wp2
          repeat (go_quiet (fail); try go_wp2)
          go_ret
          exact ⟨by first | rfl | (simp [errW_none, errW_some] <;> rfl) | (simp [*, errW_none, errW_some] <;> rfl), by repeat (first | (with_reducible first | exact HB.out | apply below_alloc | apply pw_below_drewN | apply below_drew1) | exact HB.out)⟩
        · replace c32 := Bool.eq_false_iff.mpr c32
          subst c32
          have H1 : (laws_FnReads.l0 kj12 t391 t392 t393 t396 t397 t400 t403 t404 t405 t409 t410 0) = some r := by rw [if_neg (show ¬ (false = true) by decide)] at H; exact H
          clear H
          have H := H1
          clear H1
          have H' := Aside0.mk H
          clear H
          go_wp2
          repeat (go_quiet (fail); try go_wp2)
          go_loopg [22] kj12 (fun kq v22 w' => ∃ (x22_2 : Int), v22 = .int .i64 x22_2 ∧ Aside0 (laws_FnReads.l0 kq t391 t392 t393 t396 t397 t400 t403 t404 t405 t409 t410 x22_2 = some r) ∧ Aside0 (kq ≤ kj12) ∧ Aside0 (Kd.R (Kd.int .i64) 2 w' w.heap.size (fun k_ => some k_ ≠ ((.slice Ao18 t400.length co18) : Value).ownBlock ∧ some k_ ≠ (v412 : Value).ownBlock) (.slice Ao15 t391.length co15) t391) ∧ Aside0 (Kd.R (Kd.int .i64) 2 w' w.heap.size (fun k_ => some k_ ≠ ((.slice Ao15 t391.length co15) : Value).ownBlock ∧ some k_ ≠ (v412 : Value).ownBlock) (.slice Ao18 t400.length co18) t400) ∧ Aside0 (Kd.R (Kd.int .i64) 2 w' w.heap.size (fun k_ => some k_ ≠ ((.slice Ao15 t391.length co15) : Value).ownBlock ∧ some k_ ≠ ((.slice Ao18 t400.length co18) : Value).ownBlock) v412 t410) ∧ Aside0 (Below w.heap.size w w'))
          case atStart => exact ⟨(0), (by first | rfl | (simp; done) | (simp [*]; done)), H', ⟨Nat.le_refl _⟩, ⟨by (with_reducible repeat (first | apply Kd.R_alloc | apply Kd.R_drewN | apply Kd.R_drew)); exact HO_3.out⟩, ⟨by (with_reducible repeat (first | apply Kd.R_alloc | apply Kd.R_drewN | apply Kd.R_drew)); exact HO_10.out⟩, ⟨by (with_reducible repeat (first | apply Kd.R_alloc | apply Kd.R_drewN | apply Kd.R_drew)); exact HO_18.out⟩, ⟨by repeat (first | (with_reducible first | exact HB.out | apply below_alloc | apply pw_below_drewN | apply below_drew1) | exact HB.out)⟩⟩
          case round =>
            clear H'
            try clear c2
            try clear p2
            try clear c3
            try clear c4
            try clear c23
            try clear c23b0
            try clear c23b1
            try clear c24
            try clear c24b0
            try clear c24b1
            try clear c25
            try clear c25b0
            try clear c25b1
            try clear c26
            try clear c26b0
            try clear c26b1
            try clear c27
            try clear c27b0
            try clear c27b1
            try clear c28
            try clear c28b0
            try clear c28b1
            try clear c32
            try clear p2
            obtain ⟨x22_2, rfl, HA, HK2, HO_3, HO_10, HO_18, HB⟩ := hrel
            cases gk with
            | zero => exact absurd HA.out (by simp [laws_FnReads.l0])
            | succ k2 =>
              have H := HA.out
              clear HA
              simp only [laws_FnReads.l0] at H
              by_cases c33 : x22_2 < (t410.length : Int)
              · rw [if_pos c33] at H
                have c33b0 : decide (x22_2 < (t410.length : Int)) = true := decide_eq_true c33
                clear c33
                by_cases c34 : 0 ≤ x22_2
                · rw [if_pos c34] at H
                  have c34b0 : decide (0 ≤ x22_2) = true := decide_eq_true c34
                  clear c34
                  have H' := Aside0.mk H
                  clear H
                  obtain ⟨Ao35, co35, eo35⟩ := Kd.R_slice HO_18.out
                  subst eo35
                  have p419 : 0 ≤ (x22_2 : Int) := of_decide_eq_true (by first | (with_reducible assumption) | assumption)
                  have q419 : x22_2 < (t410.length : Int) := of_decide_eq_true (by first | (with_reducible assumption) | assumption)
                  obtain ⟨ad419, e419, hx419_0⟩ := Kd.at_int (Kd.R_reads' HO_18.out).2.2 x22_2 p419 q419
                  cases e419
                  replace p419 := eq_true p419
                  replace q419 := eq_true q419
                  go_wp2
                  repeat (go_quiet (fail); try go_wp2)
                  go_loopg [23, 24, 25, 26] k2 (fun kq v23 v24 v25 v26 w' => ∃ (x23_3 : Int) (x24_3 : Int) (x25_3 : Int) (x26_3 : Int), v23 = .int .i64 x23_3 ∧ v24 = .int .i64 x24_3 ∧ v25 = .int .i64 x25_3 ∧ v26 = .int .i64 x26_3 ∧ Aside0 (laws_FnReads.l1 kq t391 t392 t393 t396 t397 t400 t403 t404 t405 t409 t410 x22_2 x23_3 x24_3 x25_3 x26_3 = some r) ∧ Aside0 (kq ≤ k2) ∧ Aside0 (Kd.R (Kd.int .i64) 2 w' w.heap.size (fun k_ => some k_ ≠ ((.slice Ao18 t400.length co18) : Value).ownBlock ∧ some k_ ≠ ((.slice (some ad419) t410.length co35) : Value).ownBlock) (.slice Ao15 t391.length co15) t391) ∧ Aside0 (Kd.R (Kd.int .i64) 2 w' w.heap.size (fun k_ => some k_ ≠ ((.slice Ao15 t391.length co15) : Value).ownBlock ∧ some k_ ≠ ((.slice (some ad419) t410.length co35) : Value).ownBlock) (.slice Ao18 t400.length co18) t400) ∧ Aside0 (Kd.R (Kd.int .i64) 2 w' w.heap.size (fun k_ => some k_ ≠ ((.slice Ao15 t391.length co15) : Value).ownBlock ∧ some k_ ≠ ((.slice Ao18 t400.length co18) : Value).ownBlock) (.slice (some ad419) t410.length co35) t410) ∧ Aside0 (Below w.heap.size w w'))
                  case atStart => exact ⟨(0), (rd t410 x22_2), (t409), (0), (by first | rfl | (simp; done) | (simp [*]; done)), (by first | rfl | (simp; done) | (simp [*]; done)), (by first | rfl | (simp; done) | (simp [*]; done)), (by first | rfl | (simp; done) | (simp [*]; done)), H', ⟨Nat.le_refl _⟩, ⟨by (with_reducible repeat (first | apply Kd.R_alloc | apply Kd.R_drewN | apply Kd.R_drew)); exact HO_3.out⟩, ⟨by (with_reducible repeat (first | apply Kd.R_alloc | apply Kd.R_drewN | apply Kd.R_drew)); exact HO_10.out⟩, ⟨by (with_reducible repeat (first | apply Kd.R_alloc | apply Kd.R_drewN | apply Kd.R_drew)); exact HO_18.out⟩, ⟨by repeat (first | (with_reducible first | exact HB.out | apply below_alloc | apply pw_below_drewN | apply below_drew1) | exact HB.out)⟩⟩
                  case round =>
                    clear H'
                    try clear c2
                    try clear p2
                    try clear c3
                    try clear c4
                    try clear p4
                    try clear q4
                    try clear hx4
                    try clear c23
                    try clear c23b0
                    try clear c23b1
                    try clear c24
                    try clear c24b0
                    try clear c24b1
                    try clear c25
                    try clear c25b0
                    try clear c25b1
                    try clear c26
                    try clear c26b0
                    try clear c26b1
                    try clear c27
                    try clear c27b0
                    try clear c27b1
                    try clear c28
                    try clear c28b0
                    try clear c28b1
                    try clear c32
                    try clear c33
                    try clear c33b0
                    try clear c34
                    try clear c34b0
                    try clear hx419_0
                    try clear p2
                    try clear p419
                    try clear q419
                    obtain ⟨x23_3, x24_3, x25_3, x26_3, rfl, rfl, rfl, rfl, HA, HK3, HO_3, HO_10, HO_18, HB⟩ := hrel
                    cases gk with
                    | zero => exact absurd HA.out (by simp [laws_FnReads.l1])
                    | succ k3 =>
                      have H := HA.out
                      clear HA
                      simp only [laws_FnReads.l1] at H
                      by_cases c36 : x26_3 < 7
                      · rw [if_pos c36] at H
                        have c36b0 : decide (x26_3 < 7) = true := decide_eq_true c36
                        clear c36
                        by_cases c37 : (Int.tmod x24_3 10) = (Int.tmod x25_3 10)
                        · rw [if_pos c37] at H
                          have c37b0 : ((Int.tmod x24_3 10) == (Int.tmod x25_3 10)) = true := beq_iff_eq.mpr c37
                          have c37b1 : ((Int.tmod x24_3 10) != (Int.tmod x25_3 10)) = false := bne_eq_false_iff_eq.mpr c37
                          clear c37
                          have H' := Aside0.mk H
                          clear H
                          go_wp2
                          repeat (go_quiet (fail); try go_wp2)
                          go_roundg k3
                          case measure => have := HJ12.out; have := HK2.out; have := HK3.out; omega
                          case rel => exact ⟨(x23_3), (wrap64 (Int.tdiv x24_3 10)), (wrap64 (Int.tdiv x25_3 10)), (wrap64 (x26_3 + 1)), (by first | rfl | (simp; done) | (simp [*]; done)), (by first | rfl | (simp; done) | (simp [*]; done)), (by first | rfl | (simp; done) | (simp [*]; done)), (by first | rfl | (simp; done) | (simp [*]; done)), H', ⟨by have := HJ12.out; have := HK2.out; have := HK3.out; omega⟩, ⟨by (with_reducible repeat (first | apply Kd.R_alloc | apply Kd.R_drewN | apply Kd.R_drew)); exact HO_3.out⟩, ⟨by (with_reducible repeat (first | apply Kd.R_alloc | apply Kd.R_drewN | apply Kd.R_drew)); exact HO_10.out⟩, ⟨by (with_reducible repeat (first | apply Kd.R_alloc | apply Kd.R_drewN | apply Kd.R_drew)); exact HO_18.out⟩, ⟨by repeat (first | (with_reducible first | exact HB.out | apply below_alloc | apply pw_below_drewN | apply below_drew1) | exact HB.out)⟩⟩
                        · rw [if_neg c37] at H
                          have c37b0 : ((Int.tmod x24_3 10) == (Int.tmod x25_3 10)) = false := beq_eq_false_iff_ne.mpr c37
                          have c37b1 : ((Int.tmod x24_3 10) != (Int.tmod x25_3 10)) = true := bne_iff_ne.mpr c37
                          have H' := Aside0.mk H
                          clear H
                          go_wp2
                          repeat (go_quiet (fail); try go_wp2)
                          go_roundg k3
                          case measure => have := HJ12.out; have := HK2.out; have := HK3.out; omega
                          case rel => exact ⟨(wrap64 (x23_3 + 1)), (wrap64 (Int.tdiv x24_3 10)), (wrap64 (Int.tdiv x25_3 10)), (wrap64 (x26_3 + 1)), (by first | rfl | (simp; done) | (simp [*]; done)), (by first | rfl | (simp; done) | (simp [*]; done)), (by first | rfl | (simp; done) | (simp [*]; done)), (by first | rfl | (simp; done) | (simp [*]; done)), H', ⟨by have := HJ12.out; have := HK2.out; have := HK3.out; omega⟩, ⟨by (with_reducible repeat (first | apply Kd.R_alloc | apply Kd.R_drewN | apply Kd.R_drew)); exact HO_3.out⟩, ⟨by (with_reducible repeat (first | apply Kd.R_alloc | apply Kd.R_drewN | apply Kd.R_drew)); exact HO_10.out⟩, ⟨by (with_reducible repeat (first | apply Kd.R_alloc | apply Kd.R_drewN | apply Kd.R_drew)); exact HO_18.out⟩, ⟨by repeat (first | (with_reducible first | exact HB.out | apply below_alloc | apply pw_below_drewN | apply below_drew1) | exact HB.out)⟩⟩
                      · rw [if_neg c36] at H
                        have c36b0 : decide (x26_3 < 7) = false := decide_eq_false c36
                        clear c36
                        by_cases c38 : x23_3 = 1
                        · rw [if_pos c38] at H
                          have c38b0 : (x23_3 == 1) = true := beq_iff_eq.mpr c38
                          have c38b1 : (x23_3 != 1) = false := bne_eq_false_iff_eq.mpr c38
                          clear c38
                          by_cases c39 : 0 ≤ x22_2
                          · rw [if_pos c39] at H
                            have c39b0 : decide (0 ≤ x22_2) = true := decide_eq_true c39
                            clear c39
                            by_cases c40 : x22_2 < (t410.length : Int)
                            · rw [if_pos c40] at H
                              have c40b0 : decide (x22_2 < (t410.length : Int)) = true := decide_eq_true c40
                              clear c40
                              replace H := Option.bind_eq_some_iff.mp H
                              obtain ⟨t421, A410, H⟩ := H
                              replace H : (if t421 = true then (laws_FnReads.l0 k3 t391 t392 t393 t396 t397 t400 t403 t404 t405 t409 t410 (wrap64 (x22_2 + 1))) else (some false)) = some r := H
                              have A41 := Aside0.mk A410
                              clear A410
                              by_cases c42 : t421 = true
                              · subst c42
                                have H1 : (laws_FnReads.l0 k3 t391 t392 t393 t396 t397 t400 t403 t404 t405 t409 t410 (wrap64 (x22_2 + 1))) = some r := by rw [if_pos rfl] at H; exact H
                                clear H
                                have H := H1
                                clear H1
                                have H' := Aside0.mk H
                                clear H
                                have p420 : 0 ≤ (x22_2 : Int) := of_decide_eq_true (by first | (with_reducible assumption) | assumption)
                                have q420 : x22_2 < (t410.length : Int) := of_decide_eq_true (by first | (with_reducible assumption) | assumption)
                                obtain ⟨ad420, e420, hx420_0⟩ := Kd.at_int (Kd.R_reads' HO_18.out).2.2 x22_2 p420 q420
                                obtain rfl : ad419 = ad420 := (by injection e420)
                                replace p420 := eq_true p420
                                replace q420 := eq_true q420
                                go_wp2_with (first | (go_at_call 19; (with_reducible refine (impl_IsCode.calls (rd t410 x22_2) true _ A41.out).mono ?_); rintro e w' ⟨rfl, ⟨nd, rfl⟩⟩; (try first | exact ⟨rfl, _, World.drewN_drewN _ _ _⟩ | exact ⟨rfl, _, Eq.trans (World.drewN_drewN _ _ _) (congrArg (World.drewN _) (Nat.add_assoc _ _ _))⟩)))
                                repeat (go_quiet (first | (go_at_call 19; (with_reducible refine (impl_IsCode.calls (rd t410 x22_2) true _ A41.out).mono ?_); rintro e w' ⟨rfl, ⟨nd, rfl⟩⟩; (try first | exact ⟨rfl, _, World.drewN_drewN _ _ _⟩ | exact ⟨rfl, _, Eq.trans (World.drewN_drewN _ _ _) (congrArg (World.drewN _) (Nat.add_assoc _ _ _))⟩))); try go_wp2_with (first | (go_at_call 19; (with_reducible refine (impl_IsCode.calls (rd t410 x22_2) true _ A41.out).mono ?_); rintro e w' ⟨rfl, ⟨nd, rfl⟩⟩; (try first | exact ⟨rfl, _, World.drewN_drewN _ _ _⟩ | exact ⟨rfl, _, Eq.trans (World.drewN_drewN _ _ _) (congrArg (World.drewN _) (Nat.add_assoc _ _ _))⟩))))
                                go_roundg k3
                                case measure => have := HJ12.out; have := HK2.out; have := HK3.out; omega
                                case rel => exact ⟨(wrap64 (x22_2 + 1)), (by first | rfl | (simp; done) | (simp [*]; done)), H', ⟨by have := HJ12.out; have := HK2.out; have := HK3.out; omega⟩, ⟨by (with_reducible repeat (first | apply Kd.R_alloc | apply Kd.R_drewN | apply Kd.R_drew)); exact HO_3.out⟩, ⟨by (with_reducible repeat (first | apply Kd.R_alloc | apply Kd.R_drewN | apply Kd.R_drew)); exact HO_10.out⟩, ⟨by (with_reducible repeat (first | apply Kd.R_alloc | apply Kd.R_drewN | apply Kd.R_drew)); exact HO_18.out⟩, ⟨by repeat (first | (with_reducible first | exact HB.out | apply below_alloc | apply pw_below_drewN | apply below_drew1) | exact HB.out)⟩⟩
                              · replace c42 := Bool.eq_false_iff.mpr c42
                                subst c42
                                have H1 : (some false) = some r := by rw [if_neg (show ¬ (false = true) by decide)] at H; exact H
                                clear H
                                have H := H1
                                clear H1
                                obtain rfl := Option.some.inj H
                                have p420 : 0 ≤ (x22_2 : Int) := of_decide_eq_true (by first | (with_reducible assumption) | assumption)
                                have q420 : x22_2 < (t410.length : Int) := of_decide_eq_true (by first | (with_reducible assumption) | assumption)
                                obtain ⟨ad420, e420, hx420_0⟩ := Kd.at_int (Kd.R_reads' HO_18.out).2.2 x22_2 p420 q420
                                obtain rfl : ad419 = ad420 := (by injection e420)
                                replace p420 := eq_true p420
                                replace q420 := eq_true q420
                                go_wp2_with (first | (go_at_call 19; (with_reducible refine (impl_IsCode.calls (rd t410 x22_2) false _ A41.out).mono ?_); rintro e w' ⟨rfl, ⟨nd, rfl⟩⟩; (try first | exact ⟨rfl, _, World.drewN_drewN _ _ _⟩ | exact ⟨rfl, _, Eq.trans (World.drewN_drewN _ _ _) (congrArg (World.drewN _) (Nat.add_assoc _ _ _))⟩)))
                                repeat (go_quiet (first | (go_at_call 19; (with_reducible refine (impl_IsCode.calls (rd t410 x22_2) false _ A41.out).mono ?_); rintro e w' ⟨rfl, ⟨nd, rfl⟩⟩; (try first | exact ⟨rfl, _, World.drewN_drewN _ _ _⟩ | exact ⟨rfl, _, Eq.trans (World.drewN_drewN _ _ _) (congrArg (World.drewN _) (Nat.add_assoc _ _ _))⟩))); try go_wp2_with (first | (go_at_call 19; (with_reducible refine (impl_IsCode.calls (rd t410 x22_2) false _ A41.out).mono ?_); rintro e w' ⟨rfl, ⟨nd, rfl⟩⟩; (try first | exact ⟨rfl, _, World.drewN_drewN _ _ _⟩ | exact ⟨rfl, _, Eq.trans (World.drewN_drewN _ _ _) (congrArg (World.drewN _) (Nat.add_assoc _ _ _))⟩))))
                                go_ret
                                exact ⟨by first | rfl | (simp [errW_none, errW_some] <;> rfl) | (simp [*, errW_none, errW_some] <;> rfl), by repeat (first | (with_reducible first | exact HB.out | apply below_alloc | apply pw_below_drewN | apply below_drew1) | exact HB.out)⟩
                            · rw [if_neg c40] at H
                              exact absurd H (by simp)
                          · rw [if_neg c39] at H
                            exact absurd H (by simp)
                        · rw [if_neg c38] at H
                          have c38b0 : (x23_3 == 1) = false := beq_eq_false_iff_ne.mpr c38
                          have c38b1 : (x23_3 != 1) = true := bne_iff_ne.mpr c38
                          obtain rfl := Option.some.inj H
                          go_wp2
                          repeat (go_quiet (fail); try go_wp2)
                          go_ret
                          exact ⟨by first | rfl | (simp [errW_none, errW_some] <;> rfl) | (simp [*, errW_none, errW_some] <;> rfl), by repeat (first | (with_reducible first | exact HB.out | apply below_alloc | apply pw_below_drewN | apply below_drew1) | exact HB.out)⟩
                · rw [if_neg c34] at H
                  exact absurd H (by simp)
              · rw [if_neg c33] at H
                have c33b0 : decide (x22_2 < (t410.length : Int)) = false := decide_eq_false c33
                clear c33
                have HC43 := Aside0.mk H
                clear H
                obtain ⟨Ao44, co44, eo44⟩ := Kd.R_slice HO_18.out
                subst eo44
                go_upto_if 149 with (fail)
                repeat (go_quiet (fail); go_upto_if 149 with (fail))
                go_cut [] (fun wc => ∃ (kq : Nat), Aside0 (laws_FnReads.j4 kq t391 t392 t393 t396 t397 = some r) ∧ Aside0 (kq ≤ k2) ∧ Aside0 (Kd.R (Kd.int .i64) 2 wc w.heap.size (fun _ => True) (.slice Ao15 t391.length co15) t391) ∧ Aside0 (Below w.heap.size w wc))
                case first =>
                  have H := HC43.out
                  clear HC43
                  by_cases c45 : t405 = 0
                  · rw [if_pos c45] at H
                    have c45b0 : (t405 == 0) = true := beq_iff_eq.mpr c45
                    have c45b1 : (t405 != 0) = false := bne_eq_false_iff_eq.mpr c45
                    clear c45
                    (first | rw [c45b0] | (simp only [i64_w, i32_w]; rw [c45b0]) | skip)
                    have H' := Aside0.mk H
                    clear H
                    go_wp2
                    repeat (go_quiet (fail); try go_wp2)
                    go_loopg [27, 28] k2 (fun kq v27 v28 w' => ∃ (x27_3 : Int) (x28_3 : Int), v27 = .int .i64 x27_3 ∧ v28 = .int .i64 x28_3 ∧ Aside0 (laws_FnReads.l2 kq t391 t392 t393 t396 t397 t400 t403 t404 x27_3 x28_3 = some r) ∧ Aside0 (kq ≤ k2) ∧ Aside0 (Kd.R (Kd.int .i64) 2 w' w.heap.size (fun k_ => some k_ ≠ ((.slice Ao18 t400.length co18) : Value).ownBlock) (.slice Ao15 t391.length co15) t391) ∧ Aside0 (Kd.R (Kd.int .i64) 2 w' w.heap.size (fun k_ => some k_ ≠ ((.slice Ao15 t391.length co15) : Value).ownBlock) (.slice Ao18 t400.length co18) t400) ∧ Aside0 (Below w.heap.size w w'))
                    case atStart => exact ⟨(0), (0), (by first | rfl | (simp; done) | (simp [*]; done)), (by first | rfl | (simp; done) | (simp [*]; done)), H', ⟨Nat.le_refl _⟩, ⟨by (with_reducible repeat (first | apply Kd.R_alloc | apply Kd.R_drewN | apply Kd.R_drew)); exact Kd.R_mono HO_3.out (fun _ hk => hk.1)⟩, ⟨by (with_reducible repeat (first | apply Kd.R_alloc | apply Kd.R_drewN | apply Kd.R_drew)); exact Kd.R_mono HO_10.out (fun _ hk => hk.1)⟩, ⟨by repeat (first | (with_reducible first | exact HB.out | apply below_alloc | apply pw_below_drewN | apply below_drew1) | exact HB.out)⟩⟩
                    case round =>
                      clear H'
                      try clear c2
                      try clear p2
                      try clear c3
                      try clear c4
                      try clear p4
                      try clear q4
                      try clear hx4
                      try clear p6
                      try clear c23
                      try clear c23b0
                      try clear c23b1
                      try clear c24
                      try clear c24b0
                      try clear c24b1
                      try clear c25
                      try clear c25b0
                      try clear c25b1
                      try clear c26
                      try clear c26b0
                      try clear c26b1
                      try clear c27
                      try clear c27b0
                      try clear c27b1
                      try clear c28
                      try clear c28b0
                      try clear c28b1
                      try clear c32
                      try clear c33
                      try clear c33b0
                      try clear c34
                      try clear c34b0
                      try clear c36
                      try clear c36b0
                      try clear c37
                      try clear c37b0
                      try clear c37b1
                      try clear c38
                      try clear c38b0
                      try clear c38b1
                      try clear c39
                      try clear c39b0
                      try clear c40
                      try clear c40b0
                      try clear p41
                      try clear q41
                      try clear hx41
                      try clear c42
                      try clear p42
                      try clear q42
                      try clear hx42
                      try clear c45
                      try clear c45b0
                      try clear c45b1
                      try clear hx419_0
                      try clear hx420_0
                      try clear p2
                      try clear p4
                      try clear p419
                      try clear p420
                      try clear q4
                      try clear q419
                      try clear q420
                      obtain ⟨x27_3, x28_3, rfl, rfl, HA, HK3, HO_3, HO_10, HB⟩ := hrel
                      cases gk with
                      | zero => exact absurd HA.out (by simp [laws_FnReads.l2])
                      | succ k3 =>
                        have H := HA.out
                        clear HA
                        simp only [laws_FnReads.l2] at H
                        by_cases c46 : x28_3 < (t400.length : Int)
                        · rw [if_pos c46] at H
                          have c46b0 : decide (x28_3 < (t400.length : Int)) = true := decide_eq_true c46
                          clear c46
                          by_cases c47 : 0 ≤ x28_3
                          · rw [if_pos c47] at H
                            have c47b0 : decide (0 ≤ x28_3) = true := decide_eq_true c47
                            clear c47
                            by_cases c48 : (rd t400 x28_3) = t403
                            · rw [if_pos c48] at H
                              have c48b0 : ((rd t400 x28_3) == t403) = true := beq_iff_eq.mpr c48
                              have c48b1 : ((rd t400 x28_3) != t403) = false := bne_eq_false_iff_eq.mpr c48
                              clear c48
                              have H' := Aside0.mk H
                              clear H
                              have p422 : 0 ≤ (x28_3 : Int) := of_decide_eq_true (by first | (with_reducible assumption) | assumption)
                              have q422 : x28_3 < (t400.length : Int) := of_decide_eq_true (by first | (with_reducible assumption) | assumption)
                              obtain ⟨ad422, e422, hx422_0⟩ := Kd.at_int (Kd.R_reads' HO_10.out).2.2 x28_3 p422 q422
                              cases e422
                              replace p422 := eq_true p422
                              replace q422 := eq_true q422
                              go_wp2
                              repeat (go_quiet (fail); try go_wp2)
                              go_roundg k3
                              case measure => have := HJ12.out; have := HK2.out; have := HK3.out; omega
                              case rel => exact ⟨(wrap64 (x27_3 + 1)), (wrap64 (x28_3 + 1)), (by first | rfl | (simp; done) | (simp [*]; done)), (by first | rfl | (simp; done) | (simp [*]; done)), H', ⟨by have := HJ12.out; have := HK2.out; have := HK3.out; omega⟩, ⟨by (with_reducible repeat (first | apply Kd.R_alloc | apply Kd.R_drewN | apply Kd.R_drew)); exact HO_3.out⟩, ⟨by (with_reducible repeat (first | apply Kd.R_alloc | apply Kd.R_drewN | apply Kd.R_drew)); exact HO_10.out⟩, ⟨by repeat (first | (with_reducible first | exact HB.out | apply below_alloc | apply pw_below_drewN | apply below_drew1) | exact HB.out)⟩⟩
                            · rw [if_neg c48] at H
                              have c48b0 : ((rd t400 x28_3) == t403) = false := beq_eq_false_iff_ne.mpr c48
                              have c48b1 : ((rd t400 x28_3) != t403) = true := bne_iff_ne.mpr c48
                              have H' := Aside0.mk H
                              clear H
                              have p422 : 0 ≤ (x28_3 : Int) := of_decide_eq_true (by first | (with_reducible assumption) | assumption)
                              have q422 : x28_3 < (t400.length : Int) := of_decide_eq_true (by first | (with_reducible assumption) | assumption)
                              obtain ⟨ad422, e422, hx422_0⟩ := Kd.at_int (Kd.R_reads' HO_10.out).2.2 x28_3 p422 q422
                              cases e422
                              replace p422 := eq_true p422
                              replace q422 := eq_true q422
                              go_wp2
                              repeat (go_quiet (fail); try go_wp2)
                              go_roundg k3
                              case measure => have := HJ12.out; have := HK2.out; have := HK3.out; omega
                              case rel => exact ⟨(x27_3), (wrap64 (x28_3 + 1)), (by first | rfl | (simp; done) | (simp [*]; done)), (by first | rfl | (simp; done) | (simp [*]; done)), H', ⟨by have := HJ12.out; have := HK2.out; have := HK3.out; omega⟩, ⟨by (with_reducible repeat (first | apply Kd.R_alloc | apply Kd.R_drewN | apply Kd.R_drew)); exact HO_3.out⟩, ⟨by (with_reducible repeat (first | apply Kd.R_alloc | apply Kd.R_drewN | apply Kd.R_drew)); exact HO_10.out⟩, ⟨by repeat (first | (with_reducible first | exact HB.out | apply below_alloc | apply pw_below_drewN | apply below_drew1) | exact HB.out)⟩⟩
                          · rw [if_neg c47] at H
                            exact absurd H (by simp)
                        · rw [if_neg c46] at H
                          have c46b0 : decide (x28_3 < (t400.length : Int)) = false := decide_eq_false c46
                          clear c46
                          by_cases c49 : x27_3 = t404
                          · rw [if_pos c49] at H
                            have c49b0 : (x27_3 == t404) = true := beq_iff_eq.mpr c49
                            have c49b1 : (x27_3 != t404) = false := bne_eq_false_iff_eq.mpr c49
                            clear c49
                            replace H := Option.bind_eq_some_iff.mp H
                            obtain ⟨t423, A500, H⟩ := H
                            replace H : (if t423 = true then (laws_FnReads.j4 k3 t391 t392 t393 t396 t397) else (some false)) = some r := H
                            have A50 := Aside0.mk A500
                            clear A500
                            by_cases c51 : t423 = true
                            · subst c51
                              have H1 : (laws_FnReads.j4 k3 t391 t392 t393 t396 t397) = some r := by rw [if_pos rfl] at H; exact H
                              clear H
                              have H := H1
                              clear H1
                              have H' := Aside0.mk H
                              clear H
                              go_wp2_with (first | (go_at_call 19; (with_reducible refine (impl_IsCode.calls t403 true _ A50.out).mono ?_); rintro e w' ⟨rfl, ⟨nd, rfl⟩⟩; (try first | exact ⟨rfl, _, World.drewN_drewN _ _ _⟩ | exact ⟨rfl, _, Eq.trans (World.drewN_drewN _ _ _) (congrArg (World.drewN _) (Nat.add_assoc _ _ _))⟩)))
                              repeat (go_quiet (first | (go_at_call 19; (with_reducible refine (impl_IsCode.calls t403 true _ A50.out).mono ?_); rintro e w' ⟨rfl, ⟨nd, rfl⟩⟩; (try first | exact ⟨rfl, _, World.drewN_drewN _ _ _⟩ | exact ⟨rfl, _, Eq.trans (World.drewN_drewN _ _ _) (congrArg (World.drewN _) (Nat.add_assoc _ _ _))⟩))); try go_wp2_with (first | (go_at_call 19; (with_reducible refine (impl_IsCode.calls t403 true _ A50.out).mono ?_); rintro e w' ⟨rfl, ⟨nd, rfl⟩⟩; (try first | exact ⟨rfl, _, World.drewN_drewN _ _ _⟩ | exact ⟨rfl, _, Eq.trans (World.drewN_drewN _ _ _) (congrArg (World.drewN _) (Nat.add_assoc _ _ _))⟩))))
                              go_meet
                              case rel => exact ⟨_, H', ⟨by have := HJ12.out; have := HK2.out; have := HK3.out; first | omega | exact Nat.le_refl _⟩, ⟨by (with_reducible repeat (first | apply Kd.R_alloc | apply Kd.R_drewN | apply Kd.R_drew)); exact Kd.R_mono HO_3.out (fun _ hk => trivial)⟩, ⟨by repeat (first | (with_reducible first | exact HB.out | apply below_alloc | apply pw_below_drewN | apply below_drew1) | exact HB.out)⟩⟩
                            · replace c51 := Bool.eq_false_iff.mpr c51
                              subst c51
                              have H1 : (some false) = some r := by rw [if_neg (show ¬ (false = true) by decide)] at H; exact H
                              clear H
                              have H := H1
                              clear H1
                              obtain rfl := Option.some.inj H
                              go_wp2_with (first | (go_at_call 19; (with_reducible refine (impl_IsCode.calls t403 false _ A50.out).mono ?_); rintro e w' ⟨rfl, ⟨nd, rfl⟩⟩; (try first | exact ⟨rfl, _, World.drewN_drewN _ _ _⟩ | exact ⟨rfl, _, Eq.trans (World.drewN_drewN _ _ _) (congrArg (World.drewN _) (Nat.add_assoc _ _ _))⟩)))
                              repeat (go_quiet (first | (go_at_call 19; (with_reducible refine (impl_IsCode.calls t403 false _ A50.out).mono ?_); rintro e w' ⟨rfl, ⟨nd, rfl⟩⟩; (try first | exact ⟨rfl, _, World.drewN_drewN _ _ _⟩ | exact ⟨rfl, _, Eq.trans (World.drewN_drewN _ _ _) (congrArg (World.drewN _) (Nat.add_assoc _ _ _))⟩))); try go_wp2_with (first | (go_at_call 19; (with_reducible refine (impl_IsCode.calls t403 false _ A50.out).mono ?_); rintro e w' ⟨rfl, ⟨nd, rfl⟩⟩; (try first | exact ⟨rfl, _, World.drewN_drewN _ _ _⟩ | exact ⟨rfl, _, Eq.trans (World.drewN_drewN _ _ _) (congrArg (World.drewN _) (Nat.add_assoc _ _ _))⟩))))
                              go_ret
                              exact ⟨by first | rfl | (simp [errW_none, errW_some] <;> rfl) | (simp [*, errW_none, errW_some] <;> rfl), by repeat (first | (with_reducible first | exact HB.out | apply below_alloc | apply pw_below_drewN | apply below_drew1) | exact HB.out)⟩
                          · rw [if_neg c49] at H
                            have c49b0 : (x27_3 == t404) = false := beq_eq_false_iff_ne.mpr c49
                            have c49b1 : (x27_3 != t404) = true := bne_iff_ne.mpr c49
                            obtain rfl := Option.some.inj H
                            go_wp2
                            repeat (go_quiet (fail); try go_wp2)
                            go_ret
                            exact ⟨by first | rfl | (simp [errW_none, errW_some] <;> rfl) | (simp [*, errW_none, errW_some] <;> rfl), by repeat (first | (with_reducible first | exact HB.out | apply below_alloc | apply pw_below_drewN | apply below_drew1) | exact HB.out)⟩
                  · rw [if_neg c45] at H
                    have c45b0 : (t405 == 0) = false := beq_eq_false_iff_ne.mpr c45
                    have c45b1 : (t405 != 0) = true := bne_iff_ne.mpr c45
                    (first | rw [c45b0] | (simp only [i64_w, i32_w]; rw [c45b0]) | skip)
                    have H' := Aside0.mk H
                    clear H
                    go_wp2
                    repeat (go_quiet (fail); try go_wp2)
                    go_meet
                    case rel => exact ⟨_, H', ⟨by have := HJ12.out; have := HK2.out; first | omega | exact Nat.le_refl _⟩, ⟨by (with_reducible repeat (first | apply Kd.R_alloc | apply Kd.R_drewN | apply Kd.R_drew)); exact Kd.R_mono HO_3.out (fun _ hk => trivial)⟩, ⟨by repeat (first | (with_reducible first | exact HB.out | apply below_alloc | apply pw_below_drewN | apply below_drew1) | exact HB.out)⟩⟩
                case rest =>
                  clear HC43
                  try clear c2
                  try clear p2
                  try clear c3
                  try clear c4
                  try clear p4
                  try clear q4
                  try clear hx4
                  try clear c5
                  try clear p6
                  try clear c23
                  try clear c23b0
                  try clear c23b1
                  try clear c24
                  try clear c24b0
                  try clear c24b1
                  try clear c25
                  try clear c25b0
                  try clear c25b1
                  try clear c26
                  try clear c26b0
                  try clear c26b1
                  try clear c27
                  try clear c27b0
                  try clear c27b1
                  try clear c28
                  try clear c28b0
                  try clear c28b1
                  try clear c32
                  try clear c33
                  try clear c33b0
                  try clear c34
                  try clear c34b0
                  try clear c36
                  try clear c36b0
                  try clear c37
                  try clear c37b0
                  try clear c37b1
                  try clear c38
                  try clear c38b0
                  try clear c38b1
                  try clear c39
                  try clear c39b0
                  try clear c40
                  try clear c40b0
                  try clear p41
                  try clear q41
                  try clear hx41
                  try clear c42
                  try clear p42
                  try clear q42
                  try clear hx42
                  try clear c45
                  try clear c45b0
                  try clear c45b1
                  try clear c46
                  try clear c46b0
                  try clear c47
                  try clear c47b0
                  try clear c48
                  try clear c48b0
                  try clear c48b1
                  try clear c49
                  try clear c49b0
                  try clear c49b1
                  try clear c51
                  try clear hx419_0
                  try clear hx420_0
                  try clear hx422_0
                  try clear p2
                  try clear p4
                  try clear p41
                  try clear p419
                  try clear p42
                  try clear p420
                  try clear p422
                  try clear p6
                  try clear q4
                  try clear q41
                  try clear q419
                  try clear q42
                  try clear q420
                  try clear q422
                  obtain ⟨kq, HA, HJ42, HO_3, HB⟩ := hcut
                  cases kq with
                  | zero => exact absurd HA.out (by simp [laws_FnReads.j4])
                  | succ kj42 =>
                    have H := HA.out
                    clear HA
                    simp only [laws_FnReads.j4] at H
                    by_cases c52 : t397 = 0
                    · rw [if_pos c52] at H
                      have c52b0 : (t397 == 0) = true := beq_iff_eq.mpr c52
                      have c52b1 : (t397 != 0) = false := bne_eq_false_iff_eq.mpr c52
                      clear c52
                      have H' := Aside0.mk H
                      clear H
                      go_wp2
                      repeat (go_quiet (fail); try go_wp2)
                      go_loopg [29] kj42 (fun kq v29 w' => ∃ (x29_4 : Int), v29 = .int .i64 x29_4 ∧ Aside0 (laws_FnReads.l3 kq t391 t392 t396 x29_4 = some r) ∧ Aside0 (kq ≤ kj42) ∧ Aside0 (Kd.R (Kd.int .i64) 2 w' w.heap.size (fun _ => True) (.slice Ao15 t391.length co15) t391) ∧ Aside0 (Below w.heap.size w w'))
                      case atStart => exact ⟨(wrap64 ((wrap64 (t396 - t393)) + 1)), (by first | rfl | (simp; done) | (simp [*]; done)), H', ⟨Nat.le_refl _⟩, ⟨by (with_reducible repeat (first | apply Kd.R_alloc | apply Kd.R_drewN | apply Kd.R_drew)); exact HO_3.out⟩, ⟨by repeat (first | (with_reducible first | exact HB.out | apply below_alloc | apply pw_below_drewN | apply below_drew1) | exact HB.out)⟩⟩
                      case round =>
                        clear H'
                        try clear c2
                        try clear p2
                        try clear c3
                        try clear c4
                        try clear p4
                        try clear q4
                        try clear hx4
                        try clear c5
                        try clear p6
                        try clear c23
                        try clear c23b0
                        try clear c23b1
                        try clear c24
                        try clear c24b0
                        try clear c24b1
                        try clear c25
                        try clear c25b0
                        try clear c25b1
                        try clear c26
                        try clear c26b0
                        try clear c26b1
                        try clear c27
                        try clear c27b0
                        try clear c27b1
                        try clear c28
                        try clear c28b0
                        try clear c28b1
                        try clear c32
                        try clear c33
                        try clear c33b0
                        try clear c34
                        try clear c34b0
                        try clear c36
                        try clear c36b0
                        try clear c37
                        try clear c37b0
                        try clear c37b1
                        try clear c38
                        try clear c38b0
                        try clear c38b1
                        try clear c39
                        try clear c39b0
                        try clear c40
                        try clear c40b0
                        try clear p41
                        try clear q41
                        try clear hx41
                        try clear c42
                        try clear p42
                        try clear q42
                        try clear hx42
                        try clear c45
                        try clear c45b0
                        try clear c45b1
                        try clear c46
                        try clear c46b0
                        try clear c47
                        try clear c47b0
                        try clear c48
                        try clear c48b0
                        try clear c48b1
                        try clear c49
                        try clear c49b0
                        try clear c49b1
                        try clear c51
                        try clear c52
                        try clear c52b0
                        try clear c52b1
                        try clear hx419_0
                        try clear hx420_0
                        try clear hx422_0
                        try clear p2
                        try clear p4
                        try clear p41
                        try clear p419
                        try clear p42
                        try clear p420
                        try clear p422
                        try clear p6
                        try clear q4
                        try clear q41
                        try clear q419
                        try clear q42
                        try clear q420
                        try clear q422
                        obtain ⟨x29_4, rfl, HA, HK4, HO_3, HB⟩ := hrel
                        cases gk with
                        | zero => exact absurd HA.out (by simp [laws_FnReads.l3])
                        | succ k4 =>
                          have H := HA.out
                          clear HA
                          simp only [laws_FnReads.l3] at H
                          by_cases c53 : x29_4 ≤ t396
                          · rw [if_pos c53] at H
                            have c53b0 : decide (x29_4 ≤ t396) = true := decide_eq_true c53
                            clear c53
                            by_cases c54 : 0 ≤ x29_4
                            · rw [if_pos c54] at H
                              have c54b0 : decide (0 ≤ x29_4) = true := decide_eq_true c54
                              clear c54
                              by_cases c55 : x29_4 < (t391.length : Int)
                              · rw [if_pos c55] at H
                                have c55b0 : decide (x29_4 < (t391.length : Int)) = true := decide_eq_true c55
                                clear c55
                                by_cases c56 : (rd t391 x29_4) = t392
                                · rw [if_pos c56] at H
                                  have c56b0 : ((rd t391 x29_4) == t392) = true := beq_iff_eq.mpr c56
                                  have c56b1 : ((rd t391 x29_4) != t392) = false := bne_eq_false_iff_eq.mpr c56
                                  clear c56
                                  obtain rfl := Option.some.inj H
                                  have p424 : 0 ≤ (x29_4 : Int) := of_decide_eq_true (by first | (with_reducible assumption) | assumption)
                                  have q424 : x29_4 < (t391.length : Int) := of_decide_eq_true (by first | (with_reducible assumption) | assumption)
                                  obtain ⟨ad424, e424, hx424_0⟩ := Kd.at_int (Kd.R_reads' HO_3.out).2.2 x29_4 p424 q424
                                  cases e424
                                  replace p424 := eq_true p424
                                  replace q424 := eq_true q424
                                  go_wp2
                                  repeat (go_quiet (fail); try go_wp2)
                                  go_ret
                                  exact ⟨by first | rfl | (simp [errW_none, errW_some] <;> rfl) | (simp [*, errW_none, errW_some] <;> rfl), by repeat (first | (with_reducible first | exact HB.out | apply below_alloc | apply pw_below_drewN | apply below_drew1) | exact HB.out)⟩
                                · rw [if_neg c56] at H
                                  have c56b0 : ((rd t391 x29_4) == t392) = false := beq_eq_false_iff_ne.mpr c56
                                  have c56b1 : ((rd t391 x29_4) != t392) = true := bne_iff_ne.mpr c56
                                  have H' := Aside0.mk H
                                  clear H
                                  have p424 : 0 ≤ (x29_4 : Int) := of_decide_eq_true (by first | (with_reducible assumption) | assumption)
                                  have q424 : x29_4 < (t391.length : Int) := of_decide_eq_true (by first | (with_reducible assumption) | assumption)
                                  obtain ⟨ad424, e424, hx424_0⟩ := Kd.at_int (Kd.R_reads' HO_3.out).2.2 x29_4 p424 q424
                                  cases e424
                                  replace p424 := eq_true p424
                                  replace q424 := eq_true q424
                                  go_wp2
                                  repeat (go_quiet (fail); try go_wp2)
                                  go_roundg k4
                                  case measure => have := HJ12.out; have := HK2.out; have := HJ42.out; have := HK4.out; omega
                                  case rel => exact ⟨(wrap64 (x29_4 + 1)), (by first | rfl | (simp; done) | (simp [*]; done)), H', ⟨by have := HJ12.out; have := HK2.out; have := HJ42.out; have := HK4.out; omega⟩, ⟨by (with_reducible repeat (first | apply Kd.R_alloc | apply Kd.R_drewN | apply Kd.R_drew)); exact HO_3.out⟩, ⟨by repeat (first | (with_reducible first | exact HB.out | apply below_alloc | apply pw_below_drewN | apply below_drew1) | exact HB.out)⟩⟩
                              · rw [if_neg c55] at H
                                exact absurd H (by simp)
                            · rw [if_neg c54] at H
                              exact absurd H (by simp)
                          · rw [if_neg c53] at H
                            have c53b0 : decide (x29_4 ≤ t396) = false := decide_eq_false c53
                            clear c53
                            obtain rfl := Option.some.inj H
                            go_wp2
                            repeat (go_quiet (fail); try go_wp2)
                            go_ret
                            exact ⟨by first | rfl | (simp [errW_none, errW_some] <;> rfl) | (simp [*, errW_none, errW_some] <;> rfl), by repeat (first | (with_reducible first | exact HB.out | apply below_alloc | apply pw_below_drewN | apply below_drew1) | exact HB.out)⟩
                    · rw [if_neg c52] at H
                      have c52b0 : (t397 == 0) = false := beq_eq_false_iff_ne.mpr c52
                      have c52b1 : (t397 != 0) = true := bne_iff_ne.mpr c52
                      obtain rfl := Option.some.inj H
                      go_wp2
                      repeat (go_quiet (fail); try go_wp2)
                      go_ret
                      exact ⟨by first | rfl | (simp [errW_none, errW_some] <;> rfl) | (simp [*, errW_none, errW_some] <;> rfl), by repeat (first | (with_reducible first | exact HB.out | apply below_alloc | apply pw_below_drewN | apply below_drew1) | exact HB.out)⟩

/-- THE ONE PURE STATEMENT of laws_FnReads: yours. -/
def laws_FnReads.Pure : Prop := ∀ (l0 : List Int), l0.length ≤ maxLen → l0.length * 1 ≤ 140737488351232 → (∀ x ∈ l0, (Lit.int .u8 x).wf = true) → ∃ k, laws_FnReads.f k l0 = some true
theorem laws_FnReads.walk (P : laws_FnReads.Pure) (a0 : Option Addr) (len0 cap0 : Nat) (z0 : List Int) (w : World) (w0 : (a0 = none ∧ len0 = 0 ∧ cap0 = 0 ∧ z0 = []) ∨ ∃ x, a0 = some x ∧ len0 ≤ cap0 ∧ cap0 ≤ maxLen ∧ z0.length = cap0 ∧ (∀ i, i < z0.length → w.cell? (x.add i) = some (.int .u8 (z0.getD i 0))) ∧ ∀ n ∈ z0, (Lit.int .u8 n).wf = true) (y0 : len0 * 1 ≤ 140737488351232) :
    Calls Try.prog 4 #[.slice a0 len0 cap0] w fun e w' => e = .returned (.bool true) ∧ Below w.heap.size w w' := by
  obtain ⟨l0, rfl, hr0, hm0, hw0, hc0⟩ := ReadsInt.ofRowC w0
  obtain ⟨k, h⟩ := P l0 hm0 y0 hw0
  refine (laws_FnReads.calls k _ _ l0 true w (Kd.C_of_reads (d := (0 : Int)) (h1 := fun _ => rfl) hr0) hc0 h).mono ?_
  rintro e w' ⟨rfl, hd⟩
  exact ⟨rfl, hd⟩

end Go.Proofs.Ytlicooehcladcaa.X
