-- Written by this session's own program (wip/xprint.py) out of the translation; Lean checks it.
import Derived.Test.YtkcbihfhbojckaaX0
import Derived.Test.YtkcbihfhbojckaaX2
import Derived.Test.YtkcbihfhbojckaaX3
import Derived.Test.YtkcbihfhbojckaaX4
import Derived.Test.YtkcbihfhbojckaaX5
import Derived.Test.YtkcbihfhbojckaaX6
import Derived.Test.YtkcbihfhbojckaaX8
import Derived.Test.YtkcbihfhbojckaaX9
import Derived.Test.YtkcbihfhbojckaaX10
import Derived.Test.YtkcbihfhbojckaaX11
namespace Go.Proofs.Ytkcbihfhbojckaa.X
open Go.RowKit Go.Proofs.YtkcbihfhbojckaaW.PrintWords Go.Proofs.YtkcbihfhbojckaaW.PrintLast Go.Proofs.YtkcbihfhbojckaaW.PrintMore
attribute [local go_sem] max2_int min2_int max_two min_two max_three min_three max_four min_four   -- for this text's walks alone
set_option linter.unusedVariables false
set_option linter.unusedSimpArgs false

/-! ### laws_FnThreads: function 4 -/
mutual
def laws_FnThreads.j0 : Nat → Int → Int → List (S69) → Int → List Int → Int → Int → Int → Int → List Int → Int → Int → Int → Int → Bool → Option (Bool)
  | 0, _, _, _, _, _, _, _, _, _, _, _, _, _, _, _ => none
  | k + 1, x3, x4, x5, x6, x12, x13, x15, x16, x17, x20, x21, x22, x23, x24, x136 => if x136 = true then (some false) else (if x17 = 0 then ((impl_PlainLength.f k x12 x13 x15).bind fun bt450 => (if bt450.2 = 0 then (if x16 < (wrap64 ((wrap64 (x13 - 1)) * x15)) then (laws_FnThreads.j1 k x3 x4 x5 x6 x20 x21 x22 x23 x24 true) else (if (x12.length : Int) = 2 then (laws_FnThreads.j1 k x3 x4 x5 x6 x20 x21 x22 x23 x24 (x16 != bt450.1)) else (laws_FnThreads.j1 k x3 x4 x5 x6 x20 x21 x22 x23 x24 false))) else (laws_FnThreads.j1 k x3 x4 x5 x6 x20 x21 x22 x23 x24 true))) else (if x24 = 0 then (if 0 ≤ (wrap64 ((x20.length : Int) - 1)) then (if (wrap64 ((x20.length : Int) - 1)) < (x20.length : Int) then (if 0 < (x20.length : Int) then (if x23 = (wrap64 ((wrap64 (x21 * (wrap64 ((rd x20 (wrap64 ((x20.length : Int) - 1))) - (rd x20 0))))) + (wrap64 ((wrap64 (x21 - 1)) * x22)))) then (if x6 = 0 then ((impl_IsThreadPath.f k x3 x4 x5).bind fun t458 => (if t458 = true then (some ((x5.length : Int) == (wrap64 (x3 * x4)))) else (some false))) else (some true)) else (some false)) else (none)) else (none)) else (none)) else (if x6 = 0 then ((impl_IsThreadPath.f k x3 x4 x5).bind fun t459 => (if t459 = true then (some ((x5.length : Int) == (wrap64 (x3 * x4)))) else (some false))) else (some true))))
def laws_FnThreads.j1 : Nat → Int → Int → List (S69) → Int → List Int → Int → Int → Int → Int → Bool → Option (Bool)
  | 0, _, _, _, _, _, _, _, _, _, _ => none
  | k + 1, x3, x4, x5, x6, x20, x21, x22, x23, x24, x165 => if x165 = true then (some false) else (if x24 = 0 then (if 0 ≤ (wrap64 ((x20.length : Int) - 1)) then (if (wrap64 ((x20.length : Int) - 1)) < (x20.length : Int) then (if 0 < (x20.length : Int) then (if x23 = (wrap64 ((wrap64 (x21 * (wrap64 ((rd x20 (wrap64 ((x20.length : Int) - 1))) - (rd x20 0))))) + (wrap64 ((wrap64 (x21 - 1)) * x22)))) then (if x6 = 0 then ((impl_IsThreadPath.f k x3 x4 x5).bind fun t454 => (if t454 = true then (some ((x5.length : Int) == (wrap64 (x3 * x4)))) else (some false))) else (some true)) else (some false)) else (none)) else (none)) else (none)) else (if x6 = 0 then ((impl_IsThreadPath.f k x3 x4 x5).bind fun t455 => (if t455 = true then (some ((x5.length : Int) == (wrap64 (x3 * x4)))) else (some false))) else (some true)))
end
def laws_FnThreads.f (k : Nat) (l0 : List Int) : Option (Bool) := (laws_big.f l0).bind fun t410 => (if t410 = true then (some true) else ((spec_DrawPlainPath.f k l0).bind fun bt411 => ((impl_PlainPath.f k bt411.1 bt411.2).bind fun bt413 => ((spec_PlainPath.f k bt411.1 bt411.2).bind fun bt417 => ((spec_DrawIsThreadPath.f k l0).bind fun bt421 => ((spec_DrawPathLength.f k l0).bind fun bt426 => ((impl_PathLength.f k bt426.1 bt426.2.1 bt426.2.2.1 bt426.2.2.2).bind fun bt434 => ((spec_PathLength.f k bt426.1 bt426.2.1 bt426.2.2.1 bt426.2.2.2).bind fun bt436 => ((spec_DrawPlainLength.f k l0).bind fun bt438 => ((impl_PlainLength.f k bt438.1 bt438.2.1 bt438.2.2).bind fun bt443 => ((spec_PlainLength.f k bt438.1 bt438.2.1 bt438.2.2).bind fun bt445 => (if bt413.2 = bt417.2 then ((laws_likeStitches9.f k bt413.1 bt417.1).bind fun t447 => (if t447 = true then ((impl_IsThreadPath.f k bt421.1 bt421.2.1 bt421.2.2).bind fun t448 => ((spec_IsThreadPath.f k bt421.1 bt421.2.1 bt421.2.2).bind fun t449 => (if (t448 != t449) = true then (laws_FnThreads.j0 k bt411.1 bt411.2 bt413.1 bt413.2 bt426.1 bt426.2.1 bt426.2.2.2 bt434.1 bt434.2 bt438.1 bt438.2.1 bt438.2.2 bt443.1 bt443.2 true) else (if bt434.2 = bt436.2 then (if bt434.1 = bt436.1 then (if bt443.2 = bt445.2 then (laws_FnThreads.j0 k bt411.1 bt411.2 bt413.1 bt413.2 bt426.1 bt426.2.1 bt426.2.2.2 bt434.1 bt434.2 bt438.1 bt438.2.1 bt438.2.2 bt443.1 bt443.2 (bt443.1 != bt445.1)) else (laws_FnThreads.j0 k bt411.1 bt411.2 bt413.1 bt413.2 bt426.1 bt426.2.1 bt426.2.2.2 bt434.1 bt434.2 bt438.1 bt438.2.1 bt438.2.2 bt443.1 bt443.2 true)) else (laws_FnThreads.j0 k bt411.1 bt411.2 bt413.1 bt413.2 bt426.1 bt426.2.1 bt426.2.2.2 bt434.1 bt434.2 bt438.1 bt438.2.1 bt438.2.2 bt443.1 bt443.2 true)) else (laws_FnThreads.j0 k bt411.1 bt411.2 bt413.1 bt413.2 bt426.1 bt426.2.1 bt426.2.2.2 bt434.1 bt434.2 bt438.1 bt438.2.1 bt438.2.2 bt443.1 bt443.2 true))))) else (laws_FnThreads.j0 k bt411.1 bt411.2 bt413.1 bt413.2 bt426.1 bt426.2.1 bt426.2.2.2 bt434.1 bt434.2 bt438.1 bt438.2.1 bt438.2.2 bt443.1 bt443.2 true))) else (laws_FnThreads.j0 k bt411.1 bt411.2 bt413.1 bt413.2 bt426.1 bt426.2.1 bt426.2.2.2 bt434.1 bt434.2 bt438.1 bt438.2.1 bt438.2.2 bt443.1 bt443.2 true)))))))))))))
theorem laws_FnThreads.mono_l : ∀ k, (∀ y0 y1 y2 y3 y4 y5 y6 y7 y8 y9 y10 y11 y12 y13 y14, LeO (laws_FnThreads.j0 k y0 y1 y2 y3 y4 y5 y6 y7 y8 y9 y10 y11 y12 y13 y14) (laws_FnThreads.j0 (k + 1) y0 y1 y2 y3 y4 y5 y6 y7 y8 y9 y10 y11 y12 y13 y14)) ∧ (∀ y0 y1 y2 y3 y4 y5 y6 y7 y8 y9, LeO (laws_FnThreads.j1 k y0 y1 y2 y3 y4 y5 y6 y7 y8 y9) (laws_FnThreads.j1 (k + 1) y0 y1 y2 y3 y4 y5 y6 y7 y8 y9))
  | 0 => ⟨fun _ _ _ _ _ _ _ _ _ _ _ _ _ _ _ r h => by simp [laws_FnThreads.j0] at h, fun _ _ _ _ _ _ _ _ _ _ r h => by simp [laws_FnThreads.j1] at h⟩
  | k + 1 => by
    obtain ⟨ih0, ih1⟩ := laws_FnThreads.mono_l k
    refine ⟨?_, ?_⟩
    · intro y0 y1 y2 y3 y4 y5 y6 y7 y8 y9 y10 y11 y12 y13 y14
      unfold laws_FnThreads.j0
      repeat' first
      | (with_reducible exact ih0 _ _ _ _ _ _ _ _ _ _ _ _ _ _ _)
      | (with_reducible exact ih1 _ _ _ _ _ _ _ _ _ _)
      | (with_reducible exact impl_IsThreadPath.mono _ _ _ _)
      | (with_reducible exact impl_PathLength.mono _ _ _ _ _)
      | (with_reducible exact impl_PlainLength.mono _ _ _ _)
      | (with_reducible exact impl_PlainPath.mono _ _ _)
      | (with_reducible exact laws_likeStitches9.mono _ _ _)
      | (with_reducible exact spec_DrawIsThreadPath.mono _ _)
      | (with_reducible exact spec_DrawPathLength.mono _ _)
      | (with_reducible exact spec_DrawPlainLength.mono _ _)
      | (with_reducible exact spec_DrawPlainPath.mono _ _)
      | (with_reducible exact spec_IsThreadPath.mono _ _ _ _)
      | (with_reducible exact spec_PathLength.mono _ _ _ _ _)
      | (with_reducible exact spec_PlainLength.mono _ _ _ _)
      | (with_reducible exact spec_PlainPath.mono _ _ _)
      | (with_reducible exact LeO.refl _)
      | (with_reducible exact LeO.none _)
      | (with_reducible refine LeO.ite ?_ ?_)
      | (with_reducible refine LeO.bind ?_ (fun _ => ?_))
      | exact ih0 _ _ _ _ _ _ _ _ _ _ _ _ _ _ _
      | exact ih1 _ _ _ _ _ _ _ _ _ _
      | exact impl_IsThreadPath.mono _ _ _ _
      | exact impl_PathLength.mono _ _ _ _ _
      | exact impl_PlainLength.mono _ _ _ _
      | exact impl_PlainPath.mono _ _ _
      | exact laws_likeStitches9.mono _ _ _
      | exact spec_DrawIsThreadPath.mono _ _
      | exact spec_DrawPathLength.mono _ _
      | exact spec_DrawPlainLength.mono _ _
      | exact spec_DrawPlainPath.mono _ _
      | exact spec_IsThreadPath.mono _ _ _ _
      | exact spec_PathLength.mono _ _ _ _ _
      | exact spec_PlainLength.mono _ _ _ _
      | exact spec_PlainPath.mono _ _ _
      | exact LeO.none _
      | refine LeO.ite ?_ ?_
      | refine LeO.bind ?_ (fun _ => ?_)
    · intro y0 y1 y2 y3 y4 y5 y6 y7 y8 y9
      unfold laws_FnThreads.j1
      repeat' first
      | (with_reducible exact ih0 _ _ _ _ _ _ _ _ _ _ _ _ _ _ _)
      | (with_reducible exact ih1 _ _ _ _ _ _ _ _ _ _)
      | (with_reducible exact impl_IsThreadPath.mono _ _ _ _)
      | (with_reducible exact impl_PathLength.mono _ _ _ _ _)
      | (with_reducible exact impl_PlainLength.mono _ _ _ _)
      | (with_reducible exact impl_PlainPath.mono _ _ _)
      | (with_reducible exact laws_likeStitches9.mono _ _ _)
      | (with_reducible exact spec_DrawIsThreadPath.mono _ _)
      | (with_reducible exact spec_DrawPathLength.mono _ _)
      | (with_reducible exact spec_DrawPlainLength.mono _ _)
      | (with_reducible exact spec_DrawPlainPath.mono _ _)
      | (with_reducible exact spec_IsThreadPath.mono _ _ _ _)
      | (with_reducible exact spec_PathLength.mono _ _ _ _ _)
      | (with_reducible exact spec_PlainLength.mono _ _ _ _)
      | (with_reducible exact spec_PlainPath.mono _ _ _)
      | (with_reducible exact LeO.refl _)
      | (with_reducible exact LeO.none _)
      | (with_reducible refine LeO.ite ?_ ?_)
      | (with_reducible refine LeO.bind ?_ (fun _ => ?_))
      | exact ih0 _ _ _ _ _ _ _ _ _ _ _ _ _ _ _
      | exact ih1 _ _ _ _ _ _ _ _ _ _
      | exact impl_IsThreadPath.mono _ _ _ _
      | exact impl_PathLength.mono _ _ _ _ _
      | exact impl_PlainLength.mono _ _ _ _
      | exact impl_PlainPath.mono _ _ _
      | exact laws_likeStitches9.mono _ _ _
      | exact spec_DrawIsThreadPath.mono _ _
      | exact spec_DrawPathLength.mono _ _
      | exact spec_DrawPlainLength.mono _ _
      | exact spec_DrawPlainPath.mono _ _
      | exact spec_IsThreadPath.mono _ _ _ _
      | exact spec_PathLength.mono _ _ _ _ _
      | exact spec_PlainLength.mono _ _ _ _
      | exact spec_PlainPath.mono _ _ _
      | exact LeO.none _
      | refine LeO.ite ?_ ?_
      | refine LeO.bind ?_ (fun _ => ?_)
theorem laws_FnThreads.mono : ∀ a0 k, LeO (laws_FnThreads.f k a0) (laws_FnThreads.f (k + 1) a0) := by
  intro a0 k
  obtain ⟨ih0, ih1⟩ := laws_FnThreads.mono_l k
  unfold laws_FnThreads.f
  repeat' first
      | (with_reducible exact ih0 _ _ _ _ _ _ _ _ _ _ _ _ _ _ _)
      | (with_reducible exact ih1 _ _ _ _ _ _ _ _ _ _)
      | (with_reducible exact impl_IsThreadPath.mono _ _ _ _)
      | (with_reducible exact impl_PathLength.mono _ _ _ _ _)
      | (with_reducible exact impl_PlainLength.mono _ _ _ _)
      | (with_reducible exact impl_PlainPath.mono _ _ _)
      | (with_reducible exact laws_likeStitches9.mono _ _ _)
      | (with_reducible exact spec_DrawIsThreadPath.mono _ _)
      | (with_reducible exact spec_DrawPathLength.mono _ _)
      | (with_reducible exact spec_DrawPlainLength.mono _ _)
      | (with_reducible exact spec_DrawPlainPath.mono _ _)
      | (with_reducible exact spec_IsThreadPath.mono _ _ _ _)
      | (with_reducible exact spec_PathLength.mono _ _ _ _ _)
      | (with_reducible exact spec_PlainLength.mono _ _ _ _)
      | (with_reducible exact spec_PlainPath.mono _ _ _)
      | (with_reducible exact LeO.refl _)
      | (with_reducible exact LeO.none _)
      | (with_reducible refine LeO.ite ?_ ?_)
      | (with_reducible refine LeO.bind ?_ (fun _ => ?_))
      | exact ih0 _ _ _ _ _ _ _ _ _ _ _ _ _ _ _
      | exact ih1 _ _ _ _ _ _ _ _ _ _
      | exact impl_IsThreadPath.mono _ _ _ _
      | exact impl_PathLength.mono _ _ _ _ _
      | exact impl_PlainLength.mono _ _ _ _
      | exact impl_PlainPath.mono _ _ _
      | exact laws_likeStitches9.mono _ _ _
      | exact spec_DrawIsThreadPath.mono _ _
      | exact spec_DrawPathLength.mono _ _
      | exact spec_DrawPlainLength.mono _ _
      | exact spec_DrawPlainPath.mono _ _
      | exact spec_IsThreadPath.mono _ _ _ _
      | exact spec_PathLength.mono _ _ _ _ _
      | exact spec_PlainLength.mono _ _ _ _
      | exact spec_PlainPath.mono _ _ _
      | exact LeO.none _
      | refine LeO.ite ?_ ?_
      | refine LeO.bind ?_ (fun _ => ?_)
set_option maxHeartbeats 8000000 in
set_option maxRecDepth 100000 in
theorem laws_FnThreads.calls (k : Nat) (A0 : Option Addr) (c0 : Nat) (l0 : List Int) (r : Bool) (w : World) (hr0 : Kd.C (Kd.int .u8) w A0 l0.length l0) (hc0 : l0.length ≤ c0) (h : laws_FnThreads.f k l0 = some r) :
    Calls Try.prog 4 #[.slice A0 l0.length c0] w fun e w' => e = .returned (.bool r) ∧ Below w.heap.size w w' := by
  have HR0 := Aside0.mk hr0
  have HC0 := Aside0.mk hc0
  clear hr0 hc0
  have HB := Aside0.mk (Below.refl w.heap.size w)
  have H : ((laws_big.f l0).bind fun t410 => (if t410 = true then (some true) else ((spec_DrawPlainPath.f k l0).bind fun bt411 => ((impl_PlainPath.f k bt411.1 bt411.2).bind fun bt413 => ((spec_PlainPath.f k bt411.1 bt411.2).bind fun bt417 => ((spec_DrawIsThreadPath.f k l0).bind fun bt421 => ((spec_DrawPathLength.f k l0).bind fun bt426 => ((impl_PathLength.f k bt426.1 bt426.2.1 bt426.2.2.1 bt426.2.2.2).bind fun bt434 => ((spec_PathLength.f k bt426.1 bt426.2.1 bt426.2.2.1 bt426.2.2.2).bind fun bt436 => ((spec_DrawPlainLength.f k l0).bind fun bt438 => ((impl_PlainLength.f k bt438.1 bt438.2.1 bt438.2.2).bind fun bt443 => ((spec_PlainLength.f k bt438.1 bt438.2.1 bt438.2.2).bind fun bt445 => (if bt413.2 = bt417.2 then ((laws_likeStitches9.f k bt413.1 bt417.1).bind fun t447 => (if t447 = true then ((impl_IsThreadPath.f k bt421.1 bt421.2.1 bt421.2.2).bind fun t448 => ((spec_IsThreadPath.f k bt421.1 bt421.2.1 bt421.2.2).bind fun t449 => (if (t448 != t449) = true then (laws_FnThreads.j0 k bt411.1 bt411.2 bt413.1 bt413.2 bt426.1 bt426.2.1 bt426.2.2.2 bt434.1 bt434.2 bt438.1 bt438.2.1 bt438.2.2 bt443.1 bt443.2 true) else (if bt434.2 = bt436.2 then (if bt434.1 = bt436.1 then (if bt443.2 = bt445.2 then (laws_FnThreads.j0 k bt411.1 bt411.2 bt413.1 bt413.2 bt426.1 bt426.2.1 bt426.2.2.2 bt434.1 bt434.2 bt438.1 bt438.2.1 bt438.2.2 bt443.1 bt443.2 (bt443.1 != bt445.1)) else (laws_FnThreads.j0 k bt411.1 bt411.2 bt413.1 bt413.2 bt426.1 bt426.2.1 bt426.2.2.2 bt434.1 bt434.2 bt438.1 bt438.2.1 bt438.2.2 bt443.1 bt443.2 true)) else (laws_FnThreads.j0 k bt411.1 bt411.2 bt413.1 bt413.2 bt426.1 bt426.2.1 bt426.2.2.2 bt434.1 bt434.2 bt438.1 bt438.2.1 bt438.2.2 bt443.1 bt443.2 true)) else (laws_FnThreads.j0 k bt411.1 bt411.2 bt413.1 bt413.2 bt426.1 bt426.2.1 bt426.2.2.2 bt434.1 bt434.2 bt438.1 bt438.2.1 bt438.2.2 bt443.1 bt443.2 true))))) else (laws_FnThreads.j0 k bt411.1 bt411.2 bt413.1 bt413.2 bt426.1 bt426.2.1 bt426.2.2.2 bt434.1 bt434.2 bt438.1 bt438.2.1 bt438.2.2 bt443.1 bt443.2 true))) else (laws_FnThreads.j0 k bt411.1 bt411.2 bt413.1 bt413.2 bt426.1 bt426.2.1 bt426.2.2.2 bt434.1 bt434.2 bt438.1 bt438.2.1 bt438.2.2 bt443.1 bt443.2 true)))))))))))))) = some r := h
  clear h
  replace H := Option.bind_eq_some_iff.mp H
  obtain ⟨t410, A20, H⟩ := H
  replace H : (if t410 = true then (some true) else ((spec_DrawPlainPath.f k l0).bind fun bt411 => ((impl_PlainPath.f k bt411.1 bt411.2).bind fun bt413 => ((spec_PlainPath.f k bt411.1 bt411.2).bind fun bt417 => ((spec_DrawIsThreadPath.f k l0).bind fun bt421 => ((spec_DrawPathLength.f k l0).bind fun bt426 => ((impl_PathLength.f k bt426.1 bt426.2.1 bt426.2.2.1 bt426.2.2.2).bind fun bt434 => ((spec_PathLength.f k bt426.1 bt426.2.1 bt426.2.2.1 bt426.2.2.2).bind fun bt436 => ((spec_DrawPlainLength.f k l0).bind fun bt438 => ((impl_PlainLength.f k bt438.1 bt438.2.1 bt438.2.2).bind fun bt443 => ((spec_PlainLength.f k bt438.1 bt438.2.1 bt438.2.2).bind fun bt445 => (if bt413.2 = bt417.2 then ((laws_likeStitches9.f k bt413.1 bt417.1).bind fun t447 => (if t447 = true then ((impl_IsThreadPath.f k bt421.1 bt421.2.1 bt421.2.2).bind fun t448 => ((spec_IsThreadPath.f k bt421.1 bt421.2.1 bt421.2.2).bind fun t449 => (if (t448 != t449) = true then (laws_FnThreads.j0 k bt411.1 bt411.2 bt413.1 bt413.2 bt426.1 bt426.2.1 bt426.2.2.2 bt434.1 bt434.2 bt438.1 bt438.2.1 bt438.2.2 bt443.1 bt443.2 true) else (if bt434.2 = bt436.2 then (if bt434.1 = bt436.1 then (if bt443.2 = bt445.2 then (laws_FnThreads.j0 k bt411.1 bt411.2 bt413.1 bt413.2 bt426.1 bt426.2.1 bt426.2.2.2 bt434.1 bt434.2 bt438.1 bt438.2.1 bt438.2.2 bt443.1 bt443.2 (bt443.1 != bt445.1)) else (laws_FnThreads.j0 k bt411.1 bt411.2 bt413.1 bt413.2 bt426.1 bt426.2.1 bt426.2.2.2 bt434.1 bt434.2 bt438.1 bt438.2.1 bt438.2.2 bt443.1 bt443.2 true)) else (laws_FnThreads.j0 k bt411.1 bt411.2 bt413.1 bt413.2 bt426.1 bt426.2.1 bt426.2.2.2 bt434.1 bt434.2 bt438.1 bt438.2.1 bt438.2.2 bt443.1 bt443.2 true)) else (laws_FnThreads.j0 k bt411.1 bt411.2 bt413.1 bt413.2 bt426.1 bt426.2.1 bt426.2.2.2 bt434.1 bt434.2 bt438.1 bt438.2.1 bt438.2.2 bt443.1 bt443.2 true))))) else (laws_FnThreads.j0 k bt411.1 bt411.2 bt413.1 bt413.2 bt426.1 bt426.2.1 bt426.2.2.2 bt434.1 bt434.2 bt438.1 bt438.2.1 bt438.2.2 bt443.1 bt443.2 true))) else (laws_FnThreads.j0 k bt411.1 bt411.2 bt413.1 bt413.2 bt426.1 bt426.2.1 bt426.2.2.2 bt434.1 bt434.2 bt438.1 bt438.2.1 bt438.2.2 bt443.1 bt443.2 true))))))))))))) = some r := H
  have A2 := Aside0.mk A20
  clear A20
  by_cases c3 : t410 = true
  · subst c3
    have H1 : (some true) = some r := by rw [if_pos rfl] at H; exact H
    clear H
    have H := H1
    clear H1
    obtain rfl := Option.some.inj H
    go_enter Try.func4, Try.ntmps4
    go_wp2_with (first | (go_at_call 5; (with_reducible refine (laws_big.calls _ _ l0 true _ ?side1 ?side2 A2.out).mono ?_); (case side1 => repeat (first | exact HR0.out | (with_reducible refine Kd.C_alloc ?_ _) | (with_reducible refine Kd.C_drewN ?_ _) | (with_reducible refine Kd.C_drew ?_))); (case side2 => exact HC0.out); rintro e w' ⟨rfl, ⟨nd, rfl⟩⟩; (try first | exact ⟨rfl, _, World.drewN_drewN _ _ _⟩ | exact ⟨rfl, _, Eq.trans (World.drewN_drewN _ _ _) (congrArg (World.drewN _) (Nat.add_assoc _ _ _))⟩)))
    go_ret
    exact ⟨by first | rfl | (simp [errW_none, errW_some] <;> rfl) | (simp [*, errW_none, errW_some] <;> rfl), by repeat (first | (with_reducible first | exact HB.out | apply below_alloc | apply pw_below_drewN | apply below_drew1) | exact HB.out)⟩
  · replace c3 := Bool.eq_false_iff.mpr c3
    subst c3
    have H1 : ((spec_DrawPlainPath.f k l0).bind fun bt411 => ((impl_PlainPath.f k bt411.1 bt411.2).bind fun bt413 => ((spec_PlainPath.f k bt411.1 bt411.2).bind fun bt417 => ((spec_DrawIsThreadPath.f k l0).bind fun bt421 => ((spec_DrawPathLength.f k l0).bind fun bt426 => ((impl_PathLength.f k bt426.1 bt426.2.1 bt426.2.2.1 bt426.2.2.2).bind fun bt434 => ((spec_PathLength.f k bt426.1 bt426.2.1 bt426.2.2.1 bt426.2.2.2).bind fun bt436 => ((spec_DrawPlainLength.f k l0).bind fun bt438 => ((impl_PlainLength.f k bt438.1 bt438.2.1 bt438.2.2).bind fun bt443 => ((spec_PlainLength.f k bt438.1 bt438.2.1 bt438.2.2).bind fun bt445 => (if bt413.2 = bt417.2 then ((laws_likeStitches9.f k bt413.1 bt417.1).bind fun t447 => (if t447 = true then ((impl_IsThreadPath.f k bt421.1 bt421.2.1 bt421.2.2).bind fun t448 => ((spec_IsThreadPath.f k bt421.1 bt421.2.1 bt421.2.2).bind fun t449 => (if (t448 != t449) = true then (laws_FnThreads.j0 k bt411.1 bt411.2 bt413.1 bt413.2 bt426.1 bt426.2.1 bt426.2.2.2 bt434.1 bt434.2 bt438.1 bt438.2.1 bt438.2.2 bt443.1 bt443.2 true) else (if bt434.2 = bt436.2 then (if bt434.1 = bt436.1 then (if bt443.2 = bt445.2 then (laws_FnThreads.j0 k bt411.1 bt411.2 bt413.1 bt413.2 bt426.1 bt426.2.1 bt426.2.2.2 bt434.1 bt434.2 bt438.1 bt438.2.1 bt438.2.2 bt443.1 bt443.2 (bt443.1 != bt445.1)) else (laws_FnThreads.j0 k bt411.1 bt411.2 bt413.1 bt413.2 bt426.1 bt426.2.1 bt426.2.2.2 bt434.1 bt434.2 bt438.1 bt438.2.1 bt438.2.2 bt443.1 bt443.2 true)) else (laws_FnThreads.j0 k bt411.1 bt411.2 bt413.1 bt413.2 bt426.1 bt426.2.1 bt426.2.2.2 bt434.1 bt434.2 bt438.1 bt438.2.1 bt438.2.2 bt443.1 bt443.2 true)) else (laws_FnThreads.j0 k bt411.1 bt411.2 bt413.1 bt413.2 bt426.1 bt426.2.1 bt426.2.2.2 bt434.1 bt434.2 bt438.1 bt438.2.1 bt438.2.2 bt443.1 bt443.2 true))))) else (laws_FnThreads.j0 k bt411.1 bt411.2 bt413.1 bt413.2 bt426.1 bt426.2.1 bt426.2.2.2 bt434.1 bt434.2 bt438.1 bt438.2.1 bt438.2.2 bt443.1 bt443.2 true))) else (laws_FnThreads.j0 k bt411.1 bt411.2 bt413.1 bt413.2 bt426.1 bt426.2.1 bt426.2.2.2 bt434.1 bt434.2 bt438.1 bt438.2.1 bt438.2.2 bt443.1 bt443.2 true)))))))))))) = some r := by rw [if_neg (show ¬ (false = true) by decide)] at H; exact H
    clear H
    have H := H1
    clear H1
    replace H := Option.bind_eq_some_iff.mp H
    obtain ⟨⟨t411, t412⟩, A40, H⟩ := H
    replace H : ((impl_PlainPath.f k t411 t412).bind fun bt413 => ((spec_PlainPath.f k t411 t412).bind fun bt417 => ((spec_DrawIsThreadPath.f k l0).bind fun bt421 => ((spec_DrawPathLength.f k l0).bind fun bt426 => ((impl_PathLength.f k bt426.1 bt426.2.1 bt426.2.2.1 bt426.2.2.2).bind fun bt434 => ((spec_PathLength.f k bt426.1 bt426.2.1 bt426.2.2.1 bt426.2.2.2).bind fun bt436 => ((spec_DrawPlainLength.f k l0).bind fun bt438 => ((impl_PlainLength.f k bt438.1 bt438.2.1 bt438.2.2).bind fun bt443 => ((spec_PlainLength.f k bt438.1 bt438.2.1 bt438.2.2).bind fun bt445 => (if bt413.2 = bt417.2 then ((laws_likeStitches9.f k bt413.1 bt417.1).bind fun t447 => (if t447 = true then ((impl_IsThreadPath.f k bt421.1 bt421.2.1 bt421.2.2).bind fun t448 => ((spec_IsThreadPath.f k bt421.1 bt421.2.1 bt421.2.2).bind fun t449 => (if (t448 != t449) = true then (laws_FnThreads.j0 k t411 t412 bt413.1 bt413.2 bt426.1 bt426.2.1 bt426.2.2.2 bt434.1 bt434.2 bt438.1 bt438.2.1 bt438.2.2 bt443.1 bt443.2 true) else (if bt434.2 = bt436.2 then (if bt434.1 = bt436.1 then (if bt443.2 = bt445.2 then (laws_FnThreads.j0 k t411 t412 bt413.1 bt413.2 bt426.1 bt426.2.1 bt426.2.2.2 bt434.1 bt434.2 bt438.1 bt438.2.1 bt438.2.2 bt443.1 bt443.2 (bt443.1 != bt445.1)) else (laws_FnThreads.j0 k t411 t412 bt413.1 bt413.2 bt426.1 bt426.2.1 bt426.2.2.2 bt434.1 bt434.2 bt438.1 bt438.2.1 bt438.2.2 bt443.1 bt443.2 true)) else (laws_FnThreads.j0 k t411 t412 bt413.1 bt413.2 bt426.1 bt426.2.1 bt426.2.2.2 bt434.1 bt434.2 bt438.1 bt438.2.1 bt438.2.2 bt443.1 bt443.2 true)) else (laws_FnThreads.j0 k t411 t412 bt413.1 bt413.2 bt426.1 bt426.2.1 bt426.2.2.2 bt434.1 bt434.2 bt438.1 bt438.2.1 bt438.2.2 bt443.1 bt443.2 true))))) else (laws_FnThreads.j0 k t411 t412 bt413.1 bt413.2 bt426.1 bt426.2.1 bt426.2.2.2 bt434.1 bt434.2 bt438.1 bt438.2.1 bt438.2.2 bt443.1 bt443.2 true))) else (laws_FnThreads.j0 k t411 t412 bt413.1 bt413.2 bt426.1 bt426.2.1 bt426.2.2.2 bt434.1 bt434.2 bt438.1 bt438.2.1 bt438.2.2 bt443.1 bt443.2 true))))))))))) = some r := H
    have A4 := Aside0.mk A40
    clear A40
    replace H := Option.bind_eq_some_iff.mp H
    obtain ⟨⟨t413, t414⟩, A50, H⟩ := H
    replace H : ((spec_PlainPath.f k t411 t412).bind fun bt417 => ((spec_DrawIsThreadPath.f k l0).bind fun bt421 => ((spec_DrawPathLength.f k l0).bind fun bt426 => ((impl_PathLength.f k bt426.1 bt426.2.1 bt426.2.2.1 bt426.2.2.2).bind fun bt434 => ((spec_PathLength.f k bt426.1 bt426.2.1 bt426.2.2.1 bt426.2.2.2).bind fun bt436 => ((spec_DrawPlainLength.f k l0).bind fun bt438 => ((impl_PlainLength.f k bt438.1 bt438.2.1 bt438.2.2).bind fun bt443 => ((spec_PlainLength.f k bt438.1 bt438.2.1 bt438.2.2).bind fun bt445 => (if t414 = bt417.2 then ((laws_likeStitches9.f k t413 bt417.1).bind fun t447 => (if t447 = true then ((impl_IsThreadPath.f k bt421.1 bt421.2.1 bt421.2.2).bind fun t448 => ((spec_IsThreadPath.f k bt421.1 bt421.2.1 bt421.2.2).bind fun t449 => (if (t448 != t449) = true then (laws_FnThreads.j0 k t411 t412 t413 t414 bt426.1 bt426.2.1 bt426.2.2.2 bt434.1 bt434.2 bt438.1 bt438.2.1 bt438.2.2 bt443.1 bt443.2 true) else (if bt434.2 = bt436.2 then (if bt434.1 = bt436.1 then (if bt443.2 = bt445.2 then (laws_FnThreads.j0 k t411 t412 t413 t414 bt426.1 bt426.2.1 bt426.2.2.2 bt434.1 bt434.2 bt438.1 bt438.2.1 bt438.2.2 bt443.1 bt443.2 (bt443.1 != bt445.1)) else (laws_FnThreads.j0 k t411 t412 t413 t414 bt426.1 bt426.2.1 bt426.2.2.2 bt434.1 bt434.2 bt438.1 bt438.2.1 bt438.2.2 bt443.1 bt443.2 true)) else (laws_FnThreads.j0 k t411 t412 t413 t414 bt426.1 bt426.2.1 bt426.2.2.2 bt434.1 bt434.2 bt438.1 bt438.2.1 bt438.2.2 bt443.1 bt443.2 true)) else (laws_FnThreads.j0 k t411 t412 t413 t414 bt426.1 bt426.2.1 bt426.2.2.2 bt434.1 bt434.2 bt438.1 bt438.2.1 bt438.2.2 bt443.1 bt443.2 true))))) else (laws_FnThreads.j0 k t411 t412 t413 t414 bt426.1 bt426.2.1 bt426.2.2.2 bt434.1 bt434.2 bt438.1 bt438.2.1 bt438.2.2 bt443.1 bt443.2 true))) else (laws_FnThreads.j0 k t411 t412 t413 t414 bt426.1 bt426.2.1 bt426.2.2.2 bt434.1 bt434.2 bt438.1 bt438.2.1 bt438.2.2 bt443.1 bt443.2 true)))))))))) = some r := H
    have A5 := Aside0.mk A50
    clear A50
    replace H := Option.bind_eq_some_iff.mp H
    obtain ⟨⟨t417, t418⟩, A60, H⟩ := H
    replace H : ((spec_DrawIsThreadPath.f k l0).bind fun bt421 => ((spec_DrawPathLength.f k l0).bind fun bt426 => ((impl_PathLength.f k bt426.1 bt426.2.1 bt426.2.2.1 bt426.2.2.2).bind fun bt434 => ((spec_PathLength.f k bt426.1 bt426.2.1 bt426.2.2.1 bt426.2.2.2).bind fun bt436 => ((spec_DrawPlainLength.f k l0).bind fun bt438 => ((impl_PlainLength.f k bt438.1 bt438.2.1 bt438.2.2).bind fun bt443 => ((spec_PlainLength.f k bt438.1 bt438.2.1 bt438.2.2).bind fun bt445 => (if t414 = t418 then ((laws_likeStitches9.f k t413 t417).bind fun t447 => (if t447 = true then ((impl_IsThreadPath.f k bt421.1 bt421.2.1 bt421.2.2).bind fun t448 => ((spec_IsThreadPath.f k bt421.1 bt421.2.1 bt421.2.2).bind fun t449 => (if (t448 != t449) = true then (laws_FnThreads.j0 k t411 t412 t413 t414 bt426.1 bt426.2.1 bt426.2.2.2 bt434.1 bt434.2 bt438.1 bt438.2.1 bt438.2.2 bt443.1 bt443.2 true) else (if bt434.2 = bt436.2 then (if bt434.1 = bt436.1 then (if bt443.2 = bt445.2 then (laws_FnThreads.j0 k t411 t412 t413 t414 bt426.1 bt426.2.1 bt426.2.2.2 bt434.1 bt434.2 bt438.1 bt438.2.1 bt438.2.2 bt443.1 bt443.2 (bt443.1 != bt445.1)) else (laws_FnThreads.j0 k t411 t412 t413 t414 bt426.1 bt426.2.1 bt426.2.2.2 bt434.1 bt434.2 bt438.1 bt438.2.1 bt438.2.2 bt443.1 bt443.2 true)) else (laws_FnThreads.j0 k t411 t412 t413 t414 bt426.1 bt426.2.1 bt426.2.2.2 bt434.1 bt434.2 bt438.1 bt438.2.1 bt438.2.2 bt443.1 bt443.2 true)) else (laws_FnThreads.j0 k t411 t412 t413 t414 bt426.1 bt426.2.1 bt426.2.2.2 bt434.1 bt434.2 bt438.1 bt438.2.1 bt438.2.2 bt443.1 bt443.2 true))))) else (laws_FnThreads.j0 k t411 t412 t413 t414 bt426.1 bt426.2.1 bt426.2.2.2 bt434.1 bt434.2 bt438.1 bt438.2.1 bt438.2.2 bt443.1 bt443.2 true))) else (laws_FnThreads.j0 k t411 t412 t413 t414 bt426.1 bt426.2.1 bt426.2.2.2 bt434.1 bt434.2 bt438.1 bt438.2.1 bt438.2.2 bt443.1 bt443.2 true))))))))) = some r := H
    have A6 := Aside0.mk A60
    clear A60
    replace H := Option.bind_eq_some_iff.mp H
    obtain ⟨⟨t421, t422, t423⟩, A70, H⟩ := H
    replace H : ((spec_DrawPathLength.f k l0).bind fun bt426 => ((impl_PathLength.f k bt426.1 bt426.2.1 bt426.2.2.1 bt426.2.2.2).bind fun bt434 => ((spec_PathLength.f k bt426.1 bt426.2.1 bt426.2.2.1 bt426.2.2.2).bind fun bt436 => ((spec_DrawPlainLength.f k l0).bind fun bt438 => ((impl_PlainLength.f k bt438.1 bt438.2.1 bt438.2.2).bind fun bt443 => ((spec_PlainLength.f k bt438.1 bt438.2.1 bt438.2.2).bind fun bt445 => (if t414 = t418 then ((laws_likeStitches9.f k t413 t417).bind fun t447 => (if t447 = true then ((impl_IsThreadPath.f k t421 t422 t423).bind fun t448 => ((spec_IsThreadPath.f k t421 t422 t423).bind fun t449 => (if (t448 != t449) = true then (laws_FnThreads.j0 k t411 t412 t413 t414 bt426.1 bt426.2.1 bt426.2.2.2 bt434.1 bt434.2 bt438.1 bt438.2.1 bt438.2.2 bt443.1 bt443.2 true) else (if bt434.2 = bt436.2 then (if bt434.1 = bt436.1 then (if bt443.2 = bt445.2 then (laws_FnThreads.j0 k t411 t412 t413 t414 bt426.1 bt426.2.1 bt426.2.2.2 bt434.1 bt434.2 bt438.1 bt438.2.1 bt438.2.2 bt443.1 bt443.2 (bt443.1 != bt445.1)) else (laws_FnThreads.j0 k t411 t412 t413 t414 bt426.1 bt426.2.1 bt426.2.2.2 bt434.1 bt434.2 bt438.1 bt438.2.1 bt438.2.2 bt443.1 bt443.2 true)) else (laws_FnThreads.j0 k t411 t412 t413 t414 bt426.1 bt426.2.1 bt426.2.2.2 bt434.1 bt434.2 bt438.1 bt438.2.1 bt438.2.2 bt443.1 bt443.2 true)) else (laws_FnThreads.j0 k t411 t412 t413 t414 bt426.1 bt426.2.1 bt426.2.2.2 bt434.1 bt434.2 bt438.1 bt438.2.1 bt438.2.2 bt443.1 bt443.2 true))))) else (laws_FnThreads.j0 k t411 t412 t413 t414 bt426.1 bt426.2.1 bt426.2.2.2 bt434.1 bt434.2 bt438.1 bt438.2.1 bt438.2.2 bt443.1 bt443.2 true))) else (laws_FnThreads.j0 k t411 t412 t413 t414 bt426.1 bt426.2.1 bt426.2.2.2 bt434.1 bt434.2 bt438.1 bt438.2.1 bt438.2.2 bt443.1 bt443.2 true)))))))) = some r := H
    have A7 := Aside0.mk A70
    clear A70
    replace H := Option.bind_eq_some_iff.mp H
    obtain ⟨⟨t426, t427, t428, t429⟩, A80, H⟩ := H
    replace H : ((impl_PathLength.f k t426 t427 t428 t429).bind fun bt434 => ((spec_PathLength.f k t426 t427 t428 t429).bind fun bt436 => ((spec_DrawPlainLength.f k l0).bind fun bt438 => ((impl_PlainLength.f k bt438.1 bt438.2.1 bt438.2.2).bind fun bt443 => ((spec_PlainLength.f k bt438.1 bt438.2.1 bt438.2.2).bind fun bt445 => (if t414 = t418 then ((laws_likeStitches9.f k t413 t417).bind fun t447 => (if t447 = true then ((impl_IsThreadPath.f k t421 t422 t423).bind fun t448 => ((spec_IsThreadPath.f k t421 t422 t423).bind fun t449 => (if (t448 != t449) = true then (laws_FnThreads.j0 k t411 t412 t413 t414 t426 t427 t429 bt434.1 bt434.2 bt438.1 bt438.2.1 bt438.2.2 bt443.1 bt443.2 true) else (if bt434.2 = bt436.2 then (if bt434.1 = bt436.1 then (if bt443.2 = bt445.2 then (laws_FnThreads.j0 k t411 t412 t413 t414 t426 t427 t429 bt434.1 bt434.2 bt438.1 bt438.2.1 bt438.2.2 bt443.1 bt443.2 (bt443.1 != bt445.1)) else (laws_FnThreads.j0 k t411 t412 t413 t414 t426 t427 t429 bt434.1 bt434.2 bt438.1 bt438.2.1 bt438.2.2 bt443.1 bt443.2 true)) else (laws_FnThreads.j0 k t411 t412 t413 t414 t426 t427 t429 bt434.1 bt434.2 bt438.1 bt438.2.1 bt438.2.2 bt443.1 bt443.2 true)) else (laws_FnThreads.j0 k t411 t412 t413 t414 t426 t427 t429 bt434.1 bt434.2 bt438.1 bt438.2.1 bt438.2.2 bt443.1 bt443.2 true))))) else (laws_FnThreads.j0 k t411 t412 t413 t414 t426 t427 t429 bt434.1 bt434.2 bt438.1 bt438.2.1 bt438.2.2 bt443.1 bt443.2 true))) else (laws_FnThreads.j0 k t411 t412 t413 t414 t426 t427 t429 bt434.1 bt434.2 bt438.1 bt438.2.1 bt438.2.2 bt443.1 bt443.2 true))))))) = some r := H
    have A8 := Aside0.mk A80
    clear A80
    replace H := Option.bind_eq_some_iff.mp H
    obtain ⟨⟨t434, t435⟩, A90, H⟩ := H
    replace H : ((spec_PathLength.f k t426 t427 t428 t429).bind fun bt436 => ((spec_DrawPlainLength.f k l0).bind fun bt438 => ((impl_PlainLength.f k bt438.1 bt438.2.1 bt438.2.2).bind fun bt443 => ((spec_PlainLength.f k bt438.1 bt438.2.1 bt438.2.2).bind fun bt445 => (if t414 = t418 then ((laws_likeStitches9.f k t413 t417).bind fun t447 => (if t447 = true then ((impl_IsThreadPath.f k t421 t422 t423).bind fun t448 => ((spec_IsThreadPath.f k t421 t422 t423).bind fun t449 => (if (t448 != t449) = true then (laws_FnThreads.j0 k t411 t412 t413 t414 t426 t427 t429 t434 t435 bt438.1 bt438.2.1 bt438.2.2 bt443.1 bt443.2 true) else (if t435 = bt436.2 then (if t434 = bt436.1 then (if bt443.2 = bt445.2 then (laws_FnThreads.j0 k t411 t412 t413 t414 t426 t427 t429 t434 t435 bt438.1 bt438.2.1 bt438.2.2 bt443.1 bt443.2 (bt443.1 != bt445.1)) else (laws_FnThreads.j0 k t411 t412 t413 t414 t426 t427 t429 t434 t435 bt438.1 bt438.2.1 bt438.2.2 bt443.1 bt443.2 true)) else (laws_FnThreads.j0 k t411 t412 t413 t414 t426 t427 t429 t434 t435 bt438.1 bt438.2.1 bt438.2.2 bt443.1 bt443.2 true)) else (laws_FnThreads.j0 k t411 t412 t413 t414 t426 t427 t429 t434 t435 bt438.1 bt438.2.1 bt438.2.2 bt443.1 bt443.2 true))))) else (laws_FnThreads.j0 k t411 t412 t413 t414 t426 t427 t429 t434 t435 bt438.1 bt438.2.1 bt438.2.2 bt443.1 bt443.2 true))) else (laws_FnThreads.j0 k t411 t412 t413 t414 t426 t427 t429 t434 t435 bt438.1 bt438.2.1 bt438.2.2 bt443.1 bt443.2 true)))))) = some r := H
    have A9 := Aside0.mk A90
    clear A90
    replace H := Option.bind_eq_some_iff.mp H
    obtain ⟨⟨t436, t437⟩, A100, H⟩ := H
    replace H : ((spec_DrawPlainLength.f k l0).bind fun bt438 => ((impl_PlainLength.f k bt438.1 bt438.2.1 bt438.2.2).bind fun bt443 => ((spec_PlainLength.f k bt438.1 bt438.2.1 bt438.2.2).bind fun bt445 => (if t414 = t418 then ((laws_likeStitches9.f k t413 t417).bind fun t447 => (if t447 = true then ((impl_IsThreadPath.f k t421 t422 t423).bind fun t448 => ((spec_IsThreadPath.f k t421 t422 t423).bind fun t449 => (if (t448 != t449) = true then (laws_FnThreads.j0 k t411 t412 t413 t414 t426 t427 t429 t434 t435 bt438.1 bt438.2.1 bt438.2.2 bt443.1 bt443.2 true) else (if t435 = t437 then (if t434 = t436 then (if bt443.2 = bt445.2 then (laws_FnThreads.j0 k t411 t412 t413 t414 t426 t427 t429 t434 t435 bt438.1 bt438.2.1 bt438.2.2 bt443.1 bt443.2 (bt443.1 != bt445.1)) else (laws_FnThreads.j0 k t411 t412 t413 t414 t426 t427 t429 t434 t435 bt438.1 bt438.2.1 bt438.2.2 bt443.1 bt443.2 true)) else (laws_FnThreads.j0 k t411 t412 t413 t414 t426 t427 t429 t434 t435 bt438.1 bt438.2.1 bt438.2.2 bt443.1 bt443.2 true)) else (laws_FnThreads.j0 k t411 t412 t413 t414 t426 t427 t429 t434 t435 bt438.1 bt438.2.1 bt438.2.2 bt443.1 bt443.2 true))))) else (laws_FnThreads.j0 k t411 t412 t413 t414 t426 t427 t429 t434 t435 bt438.1 bt438.2.1 bt438.2.2 bt443.1 bt443.2 true))) else (laws_FnThreads.j0 k t411 t412 t413 t414 t426 t427 t429 t434 t435 bt438.1 bt438.2.1 bt438.2.2 bt443.1 bt443.2 true))))) = some r := H
    have A10 := Aside0.mk A100
    clear A100
    replace H := Option.bind_eq_some_iff.mp H
    obtain ⟨⟨t438, t439, t440⟩, A110, H⟩ := H
    replace H : ((impl_PlainLength.f k t438 t439 t440).bind fun bt443 => ((spec_PlainLength.f k t438 t439 t440).bind fun bt445 => (if t414 = t418 then ((laws_likeStitches9.f k t413 t417).bind fun t447 => (if t447 = true then ((impl_IsThreadPath.f k t421 t422 t423).bind fun t448 => ((spec_IsThreadPath.f k t421 t422 t423).bind fun t449 => (if (t448 != t449) = true then (laws_FnThreads.j0 k t411 t412 t413 t414 t426 t427 t429 t434 t435 t438 t439 t440 bt443.1 bt443.2 true) else (if t435 = t437 then (if t434 = t436 then (if bt443.2 = bt445.2 then (laws_FnThreads.j0 k t411 t412 t413 t414 t426 t427 t429 t434 t435 t438 t439 t440 bt443.1 bt443.2 (bt443.1 != bt445.1)) else (laws_FnThreads.j0 k t411 t412 t413 t414 t426 t427 t429 t434 t435 t438 t439 t440 bt443.1 bt443.2 true)) else (laws_FnThreads.j0 k t411 t412 t413 t414 t426 t427 t429 t434 t435 t438 t439 t440 bt443.1 bt443.2 true)) else (laws_FnThreads.j0 k t411 t412 t413 t414 t426 t427 t429 t434 t435 t438 t439 t440 bt443.1 bt443.2 true))))) else (laws_FnThreads.j0 k t411 t412 t413 t414 t426 t427 t429 t434 t435 t438 t439 t440 bt443.1 bt443.2 true))) else (laws_FnThreads.j0 k t411 t412 t413 t414 t426 t427 t429 t434 t435 t438 t439 t440 bt443.1 bt443.2 true)))) = some r := H
    have A11 := Aside0.mk A110
    clear A110
    replace H := Option.bind_eq_some_iff.mp H
    obtain ⟨⟨t443, t444⟩, A120, H⟩ := H
    replace H : ((spec_PlainLength.f k t438 t439 t440).bind fun bt445 => (if t414 = t418 then ((laws_likeStitches9.f k t413 t417).bind fun t447 => (if t447 = true then ((impl_IsThreadPath.f k t421 t422 t423).bind fun t448 => ((spec_IsThreadPath.f k t421 t422 t423).bind fun t449 => (if (t448 != t449) = true then (laws_FnThreads.j0 k t411 t412 t413 t414 t426 t427 t429 t434 t435 t438 t439 t440 t443 t444 true) else (if t435 = t437 then (if t434 = t436 then (if t444 = bt445.2 then (laws_FnThreads.j0 k t411 t412 t413 t414 t426 t427 t429 t434 t435 t438 t439 t440 t443 t444 (t443 != bt445.1)) else (laws_FnThreads.j0 k t411 t412 t413 t414 t426 t427 t429 t434 t435 t438 t439 t440 t443 t444 true)) else (laws_FnThreads.j0 k t411 t412 t413 t414 t426 t427 t429 t434 t435 t438 t439 t440 t443 t444 true)) else (laws_FnThreads.j0 k t411 t412 t413 t414 t426 t427 t429 t434 t435 t438 t439 t440 t443 t444 true))))) else (laws_FnThreads.j0 k t411 t412 t413 t414 t426 t427 t429 t434 t435 t438 t439 t440 t443 t444 true))) else (laws_FnThreads.j0 k t411 t412 t413 t414 t426 t427 t429 t434 t435 t438 t439 t440 t443 t444 true))) = some r := H
    have A12 := Aside0.mk A120
    clear A120
    replace H := Option.bind_eq_some_iff.mp H
    obtain ⟨⟨t445, t446⟩, A130, H⟩ := H
    replace H : (if t414 = t418 then ((laws_likeStitches9.f k t413 t417).bind fun t447 => (if t447 = true then ((impl_IsThreadPath.f k t421 t422 t423).bind fun t448 => ((spec_IsThreadPath.f k t421 t422 t423).bind fun t449 => (if (t448 != t449) = true then (laws_FnThreads.j0 k t411 t412 t413 t414 t426 t427 t429 t434 t435 t438 t439 t440 t443 t444 true) else (if t435 = t437 then (if t434 = t436 then (if t444 = t446 then (laws_FnThreads.j0 k t411 t412 t413 t414 t426 t427 t429 t434 t435 t438 t439 t440 t443 t444 (t443 != t445)) else (laws_FnThreads.j0 k t411 t412 t413 t414 t426 t427 t429 t434 t435 t438 t439 t440 t443 t444 true)) else (laws_FnThreads.j0 k t411 t412 t413 t414 t426 t427 t429 t434 t435 t438 t439 t440 t443 t444 true)) else (laws_FnThreads.j0 k t411 t412 t413 t414 t426 t427 t429 t434 t435 t438 t439 t440 t443 t444 true))))) else (laws_FnThreads.j0 k t411 t412 t413 t414 t426 t427 t429 t434 t435 t438 t439 t440 t443 t444 true))) else (laws_FnThreads.j0 k t411 t412 t413 t414 t426 t427 t429 t434 t435 t438 t439 t440 t443 t444 true)) = some r := H
    have A13 := Aside0.mk A130
    clear A130
    have HC14 := Aside0.mk H
    clear H
    go_enter Try.func4, Try.ntmps4
    go_upto_region 13 with (first | (go_at_call 5; (with_reducible refine (laws_big.calls _ _ l0 false _ ?side1 ?side2 A2.out).mono ?_); (case side1 => repeat (first | exact HR0.out | (with_reducible refine Kd.C_alloc ?_ _) | (with_reducible refine Kd.C_drewN ?_ _) | (with_reducible refine Kd.C_drew ?_))); (case side2 => exact HC0.out); rintro e w' ⟨rfl, ⟨nd, rfl⟩⟩; (try first | exact ⟨rfl, _, World.drewN_drewN _ _ _⟩ | exact ⟨rfl, _, Eq.trans (World.drewN_drewN _ _ _) (congrArg (World.drewN _) (Nat.add_assoc _ _ _))⟩)) | (go_at_call 18; (with_reducible refine (spec_DrawPlainPath.calls k _ _ l0 t411 t412 _ ?side1 ?side2 A4.out).mono ?_); (case side1 => repeat (first | exact HR0.out | (with_reducible refine Kd.C_alloc ?_ _) | (with_reducible refine Kd.C_drewN ?_ _) | (with_reducible refine Kd.C_drew ?_))); (case side2 => exact HC0.out); rintro e w15 ⟨rfl, hb⟩; have n0_ := Aside0.mk (below_step (by repeat (first | (with_reducible first | exact HB.out | apply below_alloc | apply pw_below_drewN | apply below_drew1) | exact HB.out)) hb); clear HB; have HB := n0_; clear n0_; (try clear hb); (try clear hb2); (try clear hk); (try clear hi)) | (go_at_call 19; (with_reducible refine (impl_PlainPath.calls k t411 t412 t413 t414 _ A5.out).mono ?_); rintro e w16 ⟨v415, rfl, ho0, hb⟩; have n0_ := Aside0.mk (Kd.R_lower ho0 (below_size (by repeat (first | (with_reducible first | exact HB.out | apply below_alloc | apply pw_below_drewN | apply below_drew1) | exact HB.out)))); have n1_ := Aside0.mk (below_step (by repeat (first | (with_reducible first | exact HB.out | apply below_alloc | apply pw_below_drewN | apply below_drew1) | exact HB.out)) hb); clear HB; have HO416 := n0_; have HB := n1_; clear n0_ n1_; (try clear hb); (try clear hb2); (try clear hk); (try clear hi); (try clear ho0)) | (go_at_call 20; (with_reducible refine (spec_PlainPath.calls k t411 t412 t417 t418 _ A6.out).mono ?_); rintro e w17 ⟨v419, rfl, ho0, hb⟩; have n0_ := Aside0.mk (Kd.R_elder' (by (with_reducible repeat (first | apply Kd.R_alloc | apply Kd.R_drewN | apply Kd.R_drew)); exact HO416.out) (Kd.R_base ho0) hb); have n1_ := Aside0.mk (Kd.R_lower (Kd.R_new' ho0 (Kd.R_lt (by (with_reducible repeat (first | apply Kd.R_alloc | apply Kd.R_drewN | apply Kd.R_drew)); exact HO416.out))) (below_size (by repeat (first | (with_reducible first | exact HB.out | apply below_alloc | apply pw_below_drewN | apply below_drew1) | exact HB.out)))); have n2_ := Aside0.mk (below_step (by repeat (first | (with_reducible first | exact HB.out | apply below_alloc | apply pw_below_drewN | apply below_drew1) | exact HB.out)) hb); clear HO416; clear HB; have HO416 := n0_; have HO420 := n1_; have HB := n2_; clear n0_ n1_ n2_; (try clear hb); (try clear hb2); (try clear hk); (try clear hi); (try clear ho0)) | (go_at_call 21; (with_reducible refine (spec_DrawIsThreadPath.calls k _ _ l0 t421 t422 t423 _ ?side1 ?side2 A7.out).mono ?_); (case side1 => repeat (first | exact (Kd.C_below HR0.out HB.out) | (with_reducible refine Kd.C_alloc ?_ _) | (with_reducible refine Kd.C_drewN ?_ _) | (with_reducible refine Kd.C_drew ?_))); (case side2 => exact HC0.out); rintro e w18 ⟨v424, rfl, ho0, hb⟩; have n0_ := Aside0.mk (Kd.R_elder' (by (with_reducible repeat (first | apply Kd.R_alloc | apply Kd.R_drewN | apply Kd.R_drew)); exact HO416.out) (Kd.R_base ho0) hb); have n1_ := Aside0.mk (Kd.R_elder' (by (with_reducible repeat (first | apply Kd.R_alloc | apply Kd.R_drewN | apply Kd.R_drew)); exact HO420.out) (Kd.R_base ho0) hb); have n2_ := Aside0.mk (Kd.R_lower (Kd.R_new' (Kd.R_new' ho0 (Kd.R_lt (by (with_reducible repeat (first | apply Kd.R_alloc | apply Kd.R_drewN | apply Kd.R_drew)); exact HO416.out))) (Kd.R_lt (by (with_reducible repeat (first | apply Kd.R_alloc | apply Kd.R_drewN | apply Kd.R_drew)); exact HO420.out))) (below_size (by repeat (first | (with_reducible first | exact HB.out | apply below_alloc | apply pw_below_drewN | apply below_drew1) | exact HB.out)))); have n3_ := Aside0.mk (below_step (by repeat (first | (with_reducible first | exact HB.out | apply below_alloc | apply pw_below_drewN | apply below_drew1) | exact HB.out)) hb); clear HO416; clear HO420; clear HB; have HO416 := n0_; have HO420 := n1_; have HO425 := n2_; have HB := n3_; clear n0_ n1_ n2_ n3_; (try clear hb); (try clear hb2); (try clear hk); (try clear hi); (try clear ho0)) | (go_at_call 22; (with_reducible refine (spec_DrawPathLength.calls k _ _ l0 t426 t427 t428 t429 _ ?side1 ?side2 A8.out).mono ?_); (case side1 => repeat (first | exact (Kd.C_below HR0.out HB.out) | (with_reducible refine Kd.C_alloc ?_ _) | (with_reducible refine Kd.C_drewN ?_ _) | (with_reducible refine Kd.C_drew ?_))); (case side2 => exact HC0.out); rintro e w19 ⟨v430, v432, rfl, ho0, ho1, hb⟩; have n0_ := Aside0.mk (Kd.R_elder' (by (with_reducible repeat (first | apply Kd.R_alloc | apply Kd.R_drewN | apply Kd.R_drew)); exact HO416.out) (Kd.R_base ho1) hb); have n1_ := Aside0.mk (Kd.R_elder' (by (with_reducible repeat (first | apply Kd.R_alloc | apply Kd.R_drewN | apply Kd.R_drew)); exact HO420.out) (Kd.R_base ho1) hb); have n2_ := Aside0.mk (Kd.R_elder' (by (with_reducible repeat (first | apply Kd.R_alloc | apply Kd.R_drewN | apply Kd.R_drew)); exact HO425.out) (Kd.R_base ho1) hb); have n3_ := Aside0.mk (Kd.R_lower ho0 (below_size (by repeat (first | (with_reducible first | exact HB.out | apply below_alloc | apply pw_below_drewN | apply below_drew1) | exact HB.out)))); have n4_ := Aside0.mk (Kd.R_lower (Kd.R_new' (Kd.R_new' (Kd.R_new' ho1 (Kd.R_lt (by (with_reducible repeat (first | apply Kd.R_alloc | apply Kd.R_drewN | apply Kd.R_drew)); exact HO416.out))) (Kd.R_lt (by (with_reducible repeat (first | apply Kd.R_alloc | apply Kd.R_drewN | apply Kd.R_drew)); exact HO420.out))) (Kd.R_lt (by (with_reducible repeat (first | apply Kd.R_alloc | apply Kd.R_drewN | apply Kd.R_drew)); exact HO425.out))) (below_size (by repeat (first | (with_reducible first | exact HB.out | apply below_alloc | apply pw_below_drewN | apply below_drew1) | exact HB.out)))); have n5_ := Aside0.mk (below_step (by repeat (first | (with_reducible first | exact HB.out | apply below_alloc | apply pw_below_drewN | apply below_drew1) | exact HB.out)) hb); clear HO416; clear HO420; clear HO425; clear HB; have HO416 := n0_; have HO420 := n1_; have HO425 := n2_; have HO431 := n3_; have HO433 := n4_; have HB := n5_; clear n0_ n1_ n2_ n3_ n4_ n5_; (try clear hb); (try clear hb2); (try clear hk); (try clear hi); (try clear ho0); (try clear ho1); obtain ⟨Ao20, co20, eo20⟩ := Kd.R_slice HO431.out; subst eo20; obtain ⟨Ao21, co21, eo21⟩ := Kd.R_slice HO433.out; subst eo21) | (go_at_call 23; (with_reducible refine (impl_PathLength.calls k _ _ t426 t427 _ _ t428 t429 t434 t435 _ ?side1 ?side2 ?side3 ?side4 A9.out).mono ?_); (case side1 => repeat (first | exact (Kd.R_reads' HO431.out).2.2 | (with_reducible refine Kd.C_alloc ?_ _) | (with_reducible refine Kd.C_drewN ?_ _) | (with_reducible refine Kd.C_drew ?_))); (case side2 => exact (Kd.R_reads' HO431.out).2.1); (case side3 => repeat (first | exact (Kd.R_reads' HO433.out).2.2 | (with_reducible refine Kd.C_alloc ?_ _) | (with_reducible refine Kd.C_drewN ?_ _) | (with_reducible refine Kd.C_drew ?_))); (case side4 => exact (Kd.R_reads' HO433.out).2.1); rintro e w22 ⟨rfl, hb⟩; have n0_ := Aside0.mk (Kd.R_below (by (with_reducible repeat (first | apply Kd.R_alloc | apply Kd.R_drewN | apply Kd.R_drew)); exact HO416.out) hb); have n1_ := Aside0.mk (Kd.R_below (by (with_reducible repeat (first | apply Kd.R_alloc | apply Kd.R_drewN | apply Kd.R_drew)); exact HO420.out) hb); have n2_ := Aside0.mk (Kd.R_below (by (with_reducible repeat (first | apply Kd.R_alloc | apply Kd.R_drewN | apply Kd.R_drew)); exact HO425.out) hb); have n3_ := Aside0.mk (Kd.R_below (by (with_reducible repeat (first | apply Kd.R_alloc | apply Kd.R_drewN | apply Kd.R_drew)); exact HO431.out) hb); have n4_ := Aside0.mk (Kd.R_below (by (with_reducible repeat (first | apply Kd.R_alloc | apply Kd.R_drewN | apply Kd.R_drew)); exact HO433.out) hb); have n5_ := Aside0.mk (below_step (by repeat (first | (with_reducible first | exact HB.out | apply below_alloc | apply pw_below_drewN | apply below_drew1) | exact HB.out)) hb); clear HO416; clear HO420; clear HO425; clear HO431; clear HO433; clear HB; have HO416 := n0_; have HO420 := n1_; have HO425 := n2_; have HO431 := n3_; have HO433 := n4_; have HB := n5_; clear n0_ n1_ n2_ n3_ n4_ n5_; (try clear hb); (try clear hb2); (try clear hk); (try clear hi)) | (go_at_call 24; (with_reducible refine (spec_PathLength.calls k _ _ t426 t427 _ _ t428 t429 t436 t437 _ ?side1 ?side2 ?side3 ?side4 A10.out).mono ?_); (case side1 => repeat (first | exact (Kd.R_reads' HO431.out).2.2 | (with_reducible refine Kd.C_alloc ?_ _) | (with_reducible refine Kd.C_drewN ?_ _) | (with_reducible refine Kd.C_drew ?_))); (case side2 => exact (Kd.R_reads' HO431.out).2.1); (case side3 => repeat (first | exact (Kd.R_reads' HO433.out).2.2 | (with_reducible refine Kd.C_alloc ?_ _) | (with_reducible refine Kd.C_drewN ?_ _) | (with_reducible refine Kd.C_drew ?_))); (case side4 => exact (Kd.R_reads' HO433.out).2.1); rintro e w23 ⟨rfl, hb⟩; have n0_ := Aside0.mk (Kd.R_below (by (with_reducible repeat (first | apply Kd.R_alloc | apply Kd.R_drewN | apply Kd.R_drew)); exact HO416.out) hb); have n1_ := Aside0.mk (Kd.R_below (by (with_reducible repeat (first | apply Kd.R_alloc | apply Kd.R_drewN | apply Kd.R_drew)); exact HO420.out) hb); have n2_ := Aside0.mk (Kd.R_below (by (with_reducible repeat (first | apply Kd.R_alloc | apply Kd.R_drewN | apply Kd.R_drew)); exact HO425.out) hb); have n3_ := Aside0.mk (Kd.R_below (by (with_reducible repeat (first | apply Kd.R_alloc | apply Kd.R_drewN | apply Kd.R_drew)); exact HO431.out) hb); have n4_ := Aside0.mk (Kd.R_below (by (with_reducible repeat (first | apply Kd.R_alloc | apply Kd.R_drewN | apply Kd.R_drew)); exact HO433.out) hb); have n5_ := Aside0.mk (below_step (by repeat (first | (with_reducible first | exact HB.out | apply below_alloc | apply pw_below_drewN | apply below_drew1) | exact HB.out)) hb); clear HO416; clear HO420; clear HO425; clear HO431; clear HO433; clear HB; have HO416 := n0_; have HO420 := n1_; have HO425 := n2_; have HO431 := n3_; have HO433 := n4_; have HB := n5_; clear n0_ n1_ n2_ n3_ n4_ n5_; (try clear hb); (try clear hb2); (try clear hk); (try clear hi)) | (go_at_call 25; (with_reducible refine (spec_DrawPlainLength.calls k _ _ l0 t438 t439 t440 _ ?side1 ?side2 A11.out).mono ?_); (case side1 => repeat (first | exact (Kd.C_below HR0.out HB.out) | (with_reducible refine Kd.C_alloc ?_ _) | (with_reducible refine Kd.C_drewN ?_ _) | (with_reducible refine Kd.C_drew ?_))); (case side2 => exact HC0.out); rintro e w24 ⟨v441, rfl, ho0, hb⟩; have n0_ := Aside0.mk (Kd.R_below (by (with_reducible repeat (first | apply Kd.R_alloc | apply Kd.R_drewN | apply Kd.R_drew)); exact HO416.out) hb); have n1_ := Aside0.mk (Kd.R_below (by (with_reducible repeat (first | apply Kd.R_alloc | apply Kd.R_drewN | apply Kd.R_drew)); exact HO420.out) hb); have n2_ := Aside0.mk (Kd.R_below (by (with_reducible repeat (first | apply Kd.R_alloc | apply Kd.R_drewN | apply Kd.R_drew)); exact HO425.out) hb); have n3_ := Aside0.mk (Kd.R_elder' (by (with_reducible repeat (first | apply Kd.R_alloc | apply Kd.R_drewN | apply Kd.R_drew)); exact HO431.out) (Kd.R_base ho0) hb); have n4_ := Aside0.mk (Kd.R_below (by (with_reducible repeat (first | apply Kd.R_alloc | apply Kd.R_drewN | apply Kd.R_drew)); exact HO433.out) hb); have n5_ := Aside0.mk (Kd.R_lower (Kd.R_new' ho0 (Kd.R_lt (by (with_reducible repeat (first | apply Kd.R_alloc | apply Kd.R_drewN | apply Kd.R_drew)); exact HO431.out))) (below_size (by repeat (first | (with_reducible first | exact HB.out | apply below_alloc | apply pw_below_drewN | apply below_drew1) | exact HB.out)))); have n6_ := Aside0.mk (below_step (by repeat (first | (with_reducible first | exact HB.out | apply below_alloc | apply pw_below_drewN | apply below_drew1) | exact HB.out)) hb); clear HO416; clear HO420; clear HO425; clear HO431; clear HO433; clear HB; have HO416 := n0_; have HO420 := n1_; have HO425 := n2_; have HO431 := n3_; have HO433 := n4_; have HO442 := n5_; have HB := n6_; clear n0_ n1_ n2_ n3_ n4_ n5_ n6_; (try clear hb); (try clear hb2); (try clear hk); (try clear hi); (try clear ho0); obtain ⟨Ao25, co25, eo25⟩ := Kd.R_slice HO442.out; subst eo25) | (go_at_call 26; (with_reducible refine (impl_PlainLength.calls k _ _ t438 t439 t440 t443 t444 _ ?side1 ?side2 A12.out).mono ?_); (case side1 => repeat (first | exact (Kd.R_reads' HO442.out).2.2 | (with_reducible refine Kd.C_alloc ?_ _) | (with_reducible refine Kd.C_drewN ?_ _) | (with_reducible refine Kd.C_drew ?_))); (case side2 => exact (Kd.R_reads' HO442.out).2.1); rintro e w26 ⟨rfl, hb⟩; have n0_ := Aside0.mk (Kd.R_below (by (with_reducible repeat (first | apply Kd.R_alloc | apply Kd.R_drewN | apply Kd.R_drew)); exact HO416.out) hb); have n1_ := Aside0.mk (Kd.R_below (by (with_reducible repeat (first | apply Kd.R_alloc | apply Kd.R_drewN | apply Kd.R_drew)); exact HO420.out) hb); have n2_ := Aside0.mk (Kd.R_below (by (with_reducible repeat (first | apply Kd.R_alloc | apply Kd.R_drewN | apply Kd.R_drew)); exact HO425.out) hb); have n3_ := Aside0.mk (Kd.R_below (by (with_reducible repeat (first | apply Kd.R_alloc | apply Kd.R_drewN | apply Kd.R_drew)); exact HO431.out) hb); have n4_ := Aside0.mk (Kd.R_below (by (with_reducible repeat (first | apply Kd.R_alloc | apply Kd.R_drewN | apply Kd.R_drew)); exact HO433.out) hb); have n5_ := Aside0.mk (Kd.R_below (by (with_reducible repeat (first | apply Kd.R_alloc | apply Kd.R_drewN | apply Kd.R_drew)); exact HO442.out) hb); have n6_ := Aside0.mk (below_step (by repeat (first | (with_reducible first | exact HB.out | apply below_alloc | apply pw_below_drewN | apply below_drew1) | exact HB.out)) hb); clear HO416; clear HO420; clear HO425; clear HO431; clear HO433; clear HO442; clear HB; have HO416 := n0_; have HO420 := n1_; have HO425 := n2_; have HO431 := n3_; have HO433 := n4_; have HO442 := n5_; have HB := n6_; clear n0_ n1_ n2_ n3_ n4_ n5_ n6_; (try clear hb); (try clear hb2); (try clear hk); (try clear hi)) | (go_at_call 27; (with_reducible refine (spec_PlainLength.calls k _ _ t438 t439 t440 t445 t446 _ ?side1 ?side2 A13.out).mono ?_); (case side1 => repeat (first | exact (Kd.R_reads' HO442.out).2.2 | (with_reducible refine Kd.C_alloc ?_ _) | (with_reducible refine Kd.C_drewN ?_ _) | (with_reducible refine Kd.C_drew ?_))); (case side2 => exact (Kd.R_reads' HO442.out).2.1); rintro e w27 ⟨rfl, hb⟩; have n0_ := Aside0.mk (Kd.R_below (by (with_reducible repeat (first | apply Kd.R_alloc | apply Kd.R_drewN | apply Kd.R_drew)); exact HO416.out) hb); have n1_ := Aside0.mk (Kd.R_below (by (with_reducible repeat (first | apply Kd.R_alloc | apply Kd.R_drewN | apply Kd.R_drew)); exact HO420.out) hb); have n2_ := Aside0.mk (Kd.R_below (by (with_reducible repeat (first | apply Kd.R_alloc | apply Kd.R_drewN | apply Kd.R_drew)); exact HO425.out) hb); have n3_ := Aside0.mk (Kd.R_below (by (with_reducible repeat (first | apply Kd.R_alloc | apply Kd.R_drewN | apply Kd.R_drew)); exact HO431.out) hb); have n4_ := Aside0.mk (Kd.R_below (by (with_reducible repeat (first | apply Kd.R_alloc | apply Kd.R_drewN | apply Kd.R_drew)); exact HO433.out) hb); have n5_ := Aside0.mk (Kd.R_below (by (with_reducible repeat (first | apply Kd.R_alloc | apply Kd.R_drewN | apply Kd.R_drew)); exact HO442.out) hb); have n6_ := Aside0.mk (below_step (by repeat (first | (with_reducible first | exact HB.out | apply below_alloc | apply pw_below_drewN | apply below_drew1) | exact HB.out)) hb); clear HO416; clear HO420; clear HO425; clear HO431; clear HO433; clear HO442; clear HB; have HO416 := n0_; have HO420 := n1_; have HO425 := n2_; have HO431 := n3_; have HO433 := n4_; have HO442 := n5_; have HB := n6_; clear n0_ n1_ n2_ n3_ n4_ n5_ n6_; (try clear hb); (try clear hb2); (try clear hk); (try clear hi)))
    (try simp only [Act.put, List.setIfInBounds_toArray, List.set_cons_zero, List.set_cons_succ])
    go_cut [136] (fun v136 wc => ∃ (kq : Nat) (x136_13 : Bool), v136 = .bool x136_13 ∧ Aside0 (laws_FnThreads.j0 kq t411 t412 t413 t414 t426 t427 t429 t434 t435 t438 t439 t440 t443 t444 x136_13 = some r) ∧ Aside0 (kq ≤ k) ∧ Aside0 (Kd.R k69 69 wc w.heap.size (fun _ => True) v415 t413) ∧ Aside0 (Kd.R (Kd.int .i64) 2 wc w.heap.size (fun k_ => some k_ ≠ ((.slice Ao25 t438.length co25) : Value).ownBlock) (.slice Ao20 t426.length co20) t426) ∧ Aside0 (Kd.R (Kd.int .i64) 2 wc w.heap.size (fun k_ => some k_ ≠ ((.slice Ao20 t426.length co20) : Value).ownBlock) (.slice Ao25 t438.length co25) t438) ∧ Aside0 (Below w.heap.size w wc))
    case first => as_aux_lemma =>
      have H := HC14.out
      clear HC14
      by_cases c28 : t414 = t418
      · rw [if_pos c28] at H
        have c28b0 : (t414 == t418) = true := beq_iff_eq.mpr c28
        have c28b1 : (t414 != t418) = false := bne_eq_false_iff_eq.mpr c28
        clear c28
        (first | rw [c28b0] | (simp only [i64_w, i32_w]; rw [c28b0]) | skip)
        replace H := Option.bind_eq_some_iff.mp H
        obtain ⟨t447, A290, H⟩ := H
        replace H : (if t447 = true then ((impl_IsThreadPath.f k t421 t422 t423).bind fun t448 => ((spec_IsThreadPath.f k t421 t422 t423).bind fun t449 => (if (t448 != t449) = true then (laws_FnThreads.j0 k t411 t412 t413 t414 t426 t427 t429 t434 t435 t438 t439 t440 t443 t444 true) else (if t435 = t437 then (if t434 = t436 then (if t444 = t446 then (laws_FnThreads.j0 k t411 t412 t413 t414 t426 t427 t429 t434 t435 t438 t439 t440 t443 t444 (t443 != t445)) else (laws_FnThreads.j0 k t411 t412 t413 t414 t426 t427 t429 t434 t435 t438 t439 t440 t443 t444 true)) else (laws_FnThreads.j0 k t411 t412 t413 t414 t426 t427 t429 t434 t435 t438 t439 t440 t443 t444 true)) else (laws_FnThreads.j0 k t411 t412 t413 t414 t426 t427 t429 t434 t435 t438 t439 t440 t443 t444 true))))) else (laws_FnThreads.j0 k t411 t412 t413 t414 t426 t427 t429 t434 t435 t438 t439 t440 t443 t444 true)) = some r := H
        have A29 := Aside0.mk A290
        clear A290
        by_cases c30 : t447 = true
        · subst c30
          have H1 : ((impl_IsThreadPath.f k t421 t422 t423).bind fun t448 => ((spec_IsThreadPath.f k t421 t422 t423).bind fun t449 => (if (t448 != t449) = true then (laws_FnThreads.j0 k t411 t412 t413 t414 t426 t427 t429 t434 t435 t438 t439 t440 t443 t444 true) else (if t435 = t437 then (if t434 = t436 then (if t444 = t446 then (laws_FnThreads.j0 k t411 t412 t413 t414 t426 t427 t429 t434 t435 t438 t439 t440 t443 t444 (t443 != t445)) else (laws_FnThreads.j0 k t411 t412 t413 t414 t426 t427 t429 t434 t435 t438 t439 t440 t443 t444 true)) else (laws_FnThreads.j0 k t411 t412 t413 t414 t426 t427 t429 t434 t435 t438 t439 t440 t443 t444 true)) else (laws_FnThreads.j0 k t411 t412 t413 t414 t426 t427 t429 t434 t435 t438 t439 t440 t443 t444 true))))) = some r := by rw [if_pos rfl] at H; exact H
          clear H
          have H := H1
          clear H1
          replace H := Option.bind_eq_some_iff.mp H
          obtain ⟨t448, A310, H⟩ := H
          replace H : ((spec_IsThreadPath.f k t421 t422 t423).bind fun t449 => (if (t448 != t449) = true then (laws_FnThreads.j0 k t411 t412 t413 t414 t426 t427 t429 t434 t435 t438 t439 t440 t443 t444 true) else (if t435 = t437 then (if t434 = t436 then (if t444 = t446 then (laws_FnThreads.j0 k t411 t412 t413 t414 t426 t427 t429 t434 t435 t438 t439 t440 t443 t444 (t443 != t445)) else (laws_FnThreads.j0 k t411 t412 t413 t414 t426 t427 t429 t434 t435 t438 t439 t440 t443 t444 true)) else (laws_FnThreads.j0 k t411 t412 t413 t414 t426 t427 t429 t434 t435 t438 t439 t440 t443 t444 true)) else (laws_FnThreads.j0 k t411 t412 t413 t414 t426 t427 t429 t434 t435 t438 t439 t440 t443 t444 true)))) = some r := H
          have A31 := Aside0.mk A310
          clear A310
          replace H := Option.bind_eq_some_iff.mp H
          obtain ⟨t449, A320, H⟩ := H
          replace H : (if (t448 != t449) = true then (laws_FnThreads.j0 k t411 t412 t413 t414 t426 t427 t429 t434 t435 t438 t439 t440 t443 t444 true) else (if t435 = t437 then (if t434 = t436 then (if t444 = t446 then (laws_FnThreads.j0 k t411 t412 t413 t414 t426 t427 t429 t434 t435 t438 t439 t440 t443 t444 (t443 != t445)) else (laws_FnThreads.j0 k t411 t412 t413 t414 t426 t427 t429 t434 t435 t438 t439 t440 t443 t444 true)) else (laws_FnThreads.j0 k t411 t412 t413 t414 t426 t427 t429 t434 t435 t438 t439 t440 t443 t444 true)) else (laws_FnThreads.j0 k t411 t412 t413 t414 t426 t427 t429 t434 t435 t438 t439 t440 t443 t444 true))) = some r := H
          have A32 := Aside0.mk A320
          clear A320
          by_cases c33 : (t448 != t449) = true
          · rw [if_pos c33] at H
            have c33b0 : (t448 != t449) = true := c33
            (try (have c33b1 : decide (t448 = t449) = false := by simpa using c33))
            (try (have c33b2 : (t448 == t449) = false := by simpa using c33))
            (try (have c33b3 : ¬ (t448 = t449) := by simpa using c33))
            clear c33
            have H' := Aside0.mk H
            clear H
            obtain ⟨Ao34, co34, eo34⟩ := Kd.R_slice HO416.out
            subst eo34
            obtain ⟨Ao35, co35, eo35⟩ := Kd.R_slice HO420.out
            subst eo35
            go_wp2_with (first | (go_at_call 28; (with_reducible refine (laws_likeStitches9.calls k _ _ t413 _ _ t417 true _ ?side1 ?side2 ?side3 ?side4 A29.out).mono ?_); (case side1 => repeat (first | exact (Kd.R_reads' HO416.out).2.2 | (with_reducible refine Kd.C_alloc ?_ _) | (with_reducible refine Kd.C_drewN ?_ _) | (with_reducible refine Kd.C_drew ?_))); (case side2 => exact (Kd.R_reads' HO416.out).2.1); (case side3 => repeat (first | exact (Kd.R_reads' HO420.out).2.2 | (with_reducible refine Kd.C_alloc ?_ _) | (with_reducible refine Kd.C_drewN ?_ _) | (with_reducible refine Kd.C_drew ?_))); (case side4 => exact (Kd.R_reads' HO420.out).2.1); rintro e w' ⟨rfl, ⟨nd, rfl⟩⟩; (try first | exact ⟨rfl, _, World.drewN_drewN _ _ _⟩ | exact ⟨rfl, _, Eq.trans (World.drewN_drewN _ _ _) (congrArg (World.drewN _) (Nat.add_assoc _ _ _))⟩); obtain ⟨Ao36, co36, eo36⟩ := Kd.R_slice HO425.out; subst eo36) | (go_at_call 29; (with_reducible refine (impl_IsThreadPath.calls k t421 t422 _ _ t423 t448 _ ?side1 ?side2 A31.out).mono ?_); (case side1 => repeat (first | exact (Kd.R_reads' HO425.out).2.2 | (with_reducible refine Kd.C_alloc ?_ _) | (with_reducible refine Kd.C_drewN ?_ _) | (with_reducible refine Kd.C_drew ?_))); (case side2 => exact (Kd.R_reads' HO425.out).2.1); rintro e w37 ⟨rfl, hb⟩; have n0_ := Aside0.mk (Kd.R_below (by (with_reducible repeat (first | apply Kd.R_alloc | apply Kd.R_drewN | apply Kd.R_drew)); exact HO416.out) hb); have n1_ := Aside0.mk (Kd.R_below (by (with_reducible repeat (first | apply Kd.R_alloc | apply Kd.R_drewN | apply Kd.R_drew)); exact HO420.out) hb); have n2_ := Aside0.mk (Kd.R_below (by (with_reducible repeat (first | apply Kd.R_alloc | apply Kd.R_drewN | apply Kd.R_drew)); exact HO425.out) hb); have n3_ := Aside0.mk (Kd.R_below (by (with_reducible repeat (first | apply Kd.R_alloc | apply Kd.R_drewN | apply Kd.R_drew)); exact HO431.out) hb); have n4_ := Aside0.mk (Kd.R_below (by (with_reducible repeat (first | apply Kd.R_alloc | apply Kd.R_drewN | apply Kd.R_drew)); exact HO433.out) hb); have n5_ := Aside0.mk (Kd.R_below (by (with_reducible repeat (first | apply Kd.R_alloc | apply Kd.R_drewN | apply Kd.R_drew)); exact HO442.out) hb); have n6_ := Aside0.mk (below_step (by repeat (first | (with_reducible first | exact HB.out | apply below_alloc | apply pw_below_drewN | apply below_drew1) | exact HB.out)) hb); clear HO416; clear HO420; clear HO425; clear HO431; clear HO433; clear HO442; clear HB; have HO416 := n0_; have HO420 := n1_; have HO425 := n2_; have HO431 := n3_; have HO433 := n4_; have HO442 := n5_; have HB := n6_; clear n0_ n1_ n2_ n3_ n4_ n5_ n6_; (try clear hb); (try clear hb2); (try clear hk); (try clear hi)) | (go_at_call 30; (with_reducible refine (spec_IsThreadPath.calls k t421 t422 _ _ t423 t449 _ ?side1 ?side2 A32.out).mono ?_); (case side1 => repeat (first | exact (Kd.R_reads' HO425.out).2.2 | (with_reducible refine Kd.C_alloc ?_ _) | (with_reducible refine Kd.C_drewN ?_ _) | (with_reducible refine Kd.C_drew ?_))); (case side2 => exact (Kd.R_reads' HO425.out).2.1); rintro e w38 ⟨rfl, hb⟩; have n0_ := Aside0.mk (Kd.R_below (by (with_reducible repeat (first | apply Kd.R_alloc | apply Kd.R_drewN | apply Kd.R_drew)); exact HO416.out) hb); have n1_ := Aside0.mk (Kd.R_below (by (with_reducible repeat (first | apply Kd.R_alloc | apply Kd.R_drewN | apply Kd.R_drew)); exact HO420.out) hb); have n2_ := Aside0.mk (Kd.R_below (by (with_reducible repeat (first | apply Kd.R_alloc | apply Kd.R_drewN | apply Kd.R_drew)); exact HO425.out) hb); have n3_ := Aside0.mk (Kd.R_below (by (with_reducible repeat (first | apply Kd.R_alloc | apply Kd.R_drewN | apply Kd.R_drew)); exact HO431.out) hb); have n4_ := Aside0.mk (Kd.R_below (by (with_reducible repeat (first | apply Kd.R_alloc | apply Kd.R_drewN | apply Kd.R_drew)); exact HO433.out) hb); have n5_ := Aside0.mk (Kd.R_below (by (with_reducible repeat (first | apply Kd.R_alloc | apply Kd.R_drewN | apply Kd.R_drew)); exact HO442.out) hb); have n6_ := Aside0.mk (below_step (by repeat (first | (with_reducible first | exact HB.out | apply below_alloc | apply pw_below_drewN | apply below_drew1) | exact HB.out)) hb); clear HO416; clear HO420; clear HO425; clear HO431; clear HO433; clear HO442; clear HB; have HO416 := n0_; have HO420 := n1_; have HO425 := n2_; have HO431 := n3_; have HO433 := n4_; have HO442 := n5_; have HB := n6_; clear n0_ n1_ n2_ n3_ n4_ n5_ n6_; (try clear hb); (try clear hb2); (try clear hk); (try clear hi)))
            go_meet
            case rel => exact ⟨_, (true), (by first | rfl | (simp; done) | (simp [*]; done)), H', ⟨by first | omega | exact Nat.le_refl _⟩, ⟨by (with_reducible repeat (first | apply Kd.R_alloc | apply Kd.R_drewN | apply Kd.R_drew)); exact Kd.R_mono HO416.out (fun _ hk => trivial)⟩, ⟨by (with_reducible repeat (first | apply Kd.R_alloc | apply Kd.R_drewN | apply Kd.R_drew)); exact Kd.R_mono HO431.out (fun _ hk => hk.2)⟩, ⟨by (with_reducible repeat (first | apply Kd.R_alloc | apply Kd.R_drewN | apply Kd.R_drew)); exact Kd.R_mono HO442.out (fun _ hk => hk.2)⟩, ⟨by repeat (first | (with_reducible first | exact HB.out | apply below_alloc | apply pw_below_drewN | apply below_drew1) | exact HB.out)⟩⟩
          · rw [if_neg c33] at H
            have c33b0 : (t448 != t449) = false := by simpa using c33
            (try (have c33b1 : decide (t448 = t449) = true := by simpa using c33))
            (try (have c33b2 : (t448 == t449) = true := by simpa using c33))
            clear c33
            by_cases c39 : t435 = t437
            · rw [if_pos c39] at H
              have c39b0 : (t435 == t437) = true := beq_iff_eq.mpr c39
              have c39b1 : (t435 != t437) = false := bne_eq_false_iff_eq.mpr c39
              clear c39
              by_cases c40 : t434 = t436
              · rw [if_pos c40] at H
                have c40b0 : (t434 == t436) = true := beq_iff_eq.mpr c40
                have c40b1 : (t434 != t436) = false := bne_eq_false_iff_eq.mpr c40
                clear c40
                by_cases c41 : t444 = t446
                · rw [if_pos c41] at H
                  have c41b0 : (t444 == t446) = true := beq_iff_eq.mpr c41
                  have c41b1 : (t444 != t446) = false := bne_eq_false_iff_eq.mpr c41
                  clear c41
                  have H' := Aside0.mk H
                  clear H
                  obtain ⟨Ao42, co42, eo42⟩ := Kd.R_slice HO416.out
                  subst eo42
                  obtain ⟨Ao43, co43, eo43⟩ := Kd.R_slice HO420.out
                  subst eo43
                  go_wp2_with (first | (go_at_call 28; (with_reducible refine (laws_likeStitches9.calls k _ _ t413 _ _ t417 true _ ?side1 ?side2 ?side3 ?side4 A29.out).mono ?_); (case side1 => repeat (first | exact (Kd.R_reads' HO416.out).2.2 | (with_reducible refine Kd.C_alloc ?_ _) | (with_reducible refine Kd.C_drewN ?_ _) | (with_reducible refine Kd.C_drew ?_))); (case side2 => exact (Kd.R_reads' HO416.out).2.1); (case side3 => repeat (first | exact (Kd.R_reads' HO420.out).2.2 | (with_reducible refine Kd.C_alloc ?_ _) | (with_reducible refine Kd.C_drewN ?_ _) | (with_reducible refine Kd.C_drew ?_))); (case side4 => exact (Kd.R_reads' HO420.out).2.1); rintro e w' ⟨rfl, ⟨nd, rfl⟩⟩; (try first | exact ⟨rfl, _, World.drewN_drewN _ _ _⟩ | exact ⟨rfl, _, Eq.trans (World.drewN_drewN _ _ _) (congrArg (World.drewN _) (Nat.add_assoc _ _ _))⟩); obtain ⟨Ao44, co44, eo44⟩ := Kd.R_slice HO425.out; subst eo44) | (go_at_call 29; (with_reducible refine (impl_IsThreadPath.calls k t421 t422 _ _ t423 t448 _ ?side1 ?side2 A31.out).mono ?_); (case side1 => repeat (first | exact (Kd.R_reads' HO425.out).2.2 | (with_reducible refine Kd.C_alloc ?_ _) | (with_reducible refine Kd.C_drewN ?_ _) | (with_reducible refine Kd.C_drew ?_))); (case side2 => exact (Kd.R_reads' HO425.out).2.1); rintro e w45 ⟨rfl, hb⟩; have n0_ := Aside0.mk (Kd.R_below (by (with_reducible repeat (first | apply Kd.R_alloc | apply Kd.R_drewN | apply Kd.R_drew)); exact HO416.out) hb); have n1_ := Aside0.mk (Kd.R_below (by (with_reducible repeat (first | apply Kd.R_alloc | apply Kd.R_drewN | apply Kd.R_drew)); exact HO420.out) hb); have n2_ := Aside0.mk (Kd.R_below (by (with_reducible repeat (first | apply Kd.R_alloc | apply Kd.R_drewN | apply Kd.R_drew)); exact HO425.out) hb); have n3_ := Aside0.mk (Kd.R_below (by (with_reducible repeat (first | apply Kd.R_alloc | apply Kd.R_drewN | apply Kd.R_drew)); exact HO431.out) hb); have n4_ := Aside0.mk (Kd.R_below (by (with_reducible repeat (first | apply Kd.R_alloc | apply Kd.R_drewN | apply Kd.R_drew)); exact HO433.out) hb); have n5_ := Aside0.mk (Kd.R_below (by (with_reducible repeat (first | apply Kd.R_alloc | apply Kd.R_drewN | apply Kd.R_drew)); exact HO442.out) hb); have n6_ := Aside0.mk (below_step (by repeat (first | (with_reducible first | exact HB.out | apply below_alloc | apply pw_below_drewN | apply below_drew1) | exact HB.out)) hb); clear HO416; clear HO420; clear HO425; clear HO431; clear HO433; clear HO442; clear HB; have HO416 := n0_; have HO420 := n1_; have HO425 := n2_; have HO431 := n3_; have HO433 := n4_; have HO442 := n5_; have HB := n6_; clear n0_ n1_ n2_ n3_ n4_ n5_ n6_; (try clear hb); (try clear hb2); (try clear hk); (try clear hi)) | (go_at_call 30; (with_reducible refine (spec_IsThreadPath.calls k t421 t422 _ _ t423 t449 _ ?side1 ?side2 A32.out).mono ?_); (case side1 => repeat (first | exact (Kd.R_reads' HO425.out).2.2 | (with_reducible refine Kd.C_alloc ?_ _) | (with_reducible refine Kd.C_drewN ?_ _) | (with_reducible refine Kd.C_drew ?_))); (case side2 => exact (Kd.R_reads' HO425.out).2.1); rintro e w46 ⟨rfl, hb⟩; have n0_ := Aside0.mk (Kd.R_below (by (with_reducible repeat (first | apply Kd.R_alloc | apply Kd.R_drewN | apply Kd.R_drew)); exact HO416.out) hb); have n1_ := Aside0.mk (Kd.R_below (by (with_reducible repeat (first | apply Kd.R_alloc | apply Kd.R_drewN | apply Kd.R_drew)); exact HO420.out) hb); have n2_ := Aside0.mk (Kd.R_below (by (with_reducible repeat (first | apply Kd.R_alloc | apply Kd.R_drewN | apply Kd.R_drew)); exact HO425.out) hb); have n3_ := Aside0.mk (Kd.R_below (by (with_reducible repeat (first | apply Kd.R_alloc | apply Kd.R_drewN | apply Kd.R_drew)); exact HO431.out) hb); have n4_ := Aside0.mk (Kd.R_below (by (with_reducible repeat (first | apply Kd.R_alloc | apply Kd.R_drewN | apply Kd.R_drew)); exact HO433.out) hb); have n5_ := Aside0.mk (Kd.R_below (by (with_reducible repeat (first | apply Kd.R_alloc | apply Kd.R_drewN | apply Kd.R_drew)); exact HO442.out) hb); have n6_ := Aside0.mk (below_step (by repeat (first | (with_reducible first | exact HB.out | apply below_alloc | apply pw_below_drewN | apply below_drew1) | exact HB.out)) hb); clear HO416; clear HO420; clear HO425; clear HO431; clear HO433; clear HO442; clear HB; have HO416 := n0_; have HO420 := n1_; have HO425 := n2_; have HO431 := n3_; have HO433 := n4_; have HO442 := n5_; have HB := n6_; clear n0_ n1_ n2_ n3_ n4_ n5_ n6_; (try clear hb); (try clear hb2); (try clear hk); (try clear hi)))
                  go_meet
                  case rel => exact ⟨_, ((t443 != t445)), (by first | rfl | (simp; done) | (simp [*]; done)), H', ⟨by first | omega | exact Nat.le_refl _⟩, ⟨by (with_reducible repeat (first | apply Kd.R_alloc | apply Kd.R_drewN | apply Kd.R_drew)); exact Kd.R_mono HO416.out (fun _ hk => trivial)⟩, ⟨by (with_reducible repeat (first | apply Kd.R_alloc | apply Kd.R_drewN | apply Kd.R_drew)); exact Kd.R_mono HO431.out (fun _ hk => hk.2)⟩, ⟨by (with_reducible repeat (first | apply Kd.R_alloc | apply Kd.R_drewN | apply Kd.R_drew)); exact Kd.R_mono HO442.out (fun _ hk => hk.2)⟩, ⟨by repeat (first | (with_reducible first | exact HB.out | apply below_alloc | apply pw_below_drewN | apply below_drew1) | exact HB.out)⟩⟩
                · rw [if_neg c41] at H
                  have c41b0 : (t444 == t446) = false := beq_eq_false_iff_ne.mpr c41
                  have c41b1 : (t444 != t446) = true := bne_iff_ne.mpr c41
                  have H' := Aside0.mk H
                  clear H
                  obtain ⟨Ao47, co47, eo47⟩ := Kd.R_slice HO416.out
                  subst eo47
                  obtain ⟨Ao48, co48, eo48⟩ := Kd.R_slice HO420.out
                  subst eo48
                  go_wp2_with (first | (go_at_call 28; (with_reducible refine (laws_likeStitches9.calls k _ _ t413 _ _ t417 true _ ?side1 ?side2 ?side3 ?side4 A29.out).mono ?_); (case side1 => repeat (first | exact (Kd.R_reads' HO416.out).2.2 | (with_reducible refine Kd.C_alloc ?_ _) | (with_reducible refine Kd.C_drewN ?_ _) | (with_reducible refine Kd.C_drew ?_))); (case side2 => exact (Kd.R_reads' HO416.out).2.1); (case side3 => repeat (first | exact (Kd.R_reads' HO420.out).2.2 | (with_reducible refine Kd.C_alloc ?_ _) | (with_reducible refine Kd.C_drewN ?_ _) | (with_reducible refine Kd.C_drew ?_))); (case side4 => exact (Kd.R_reads' HO420.out).2.1); rintro e w' ⟨rfl, ⟨nd, rfl⟩⟩; (try first | exact ⟨rfl, _, World.drewN_drewN _ _ _⟩ | exact ⟨rfl, _, Eq.trans (World.drewN_drewN _ _ _) (congrArg (World.drewN _) (Nat.add_assoc _ _ _))⟩); obtain ⟨Ao49, co49, eo49⟩ := Kd.R_slice HO425.out; subst eo49) | (go_at_call 29; (with_reducible refine (impl_IsThreadPath.calls k t421 t422 _ _ t423 t448 _ ?side1 ?side2 A31.out).mono ?_); (case side1 => repeat (first | exact (Kd.R_reads' HO425.out).2.2 | (with_reducible refine Kd.C_alloc ?_ _) | (with_reducible refine Kd.C_drewN ?_ _) | (with_reducible refine Kd.C_drew ?_))); (case side2 => exact (Kd.R_reads' HO425.out).2.1); rintro e w50 ⟨rfl, hb⟩; have n0_ := Aside0.mk (Kd.R_below (by (with_reducible repeat (first | apply Kd.R_alloc | apply Kd.R_drewN | apply Kd.R_drew)); exact HO416.out) hb); have n1_ := Aside0.mk (Kd.R_below (by (with_reducible repeat (first | apply Kd.R_alloc | apply Kd.R_drewN | apply Kd.R_drew)); exact HO420.out) hb); have n2_ := Aside0.mk (Kd.R_below (by (with_reducible repeat (first | apply Kd.R_alloc | apply Kd.R_drewN | apply Kd.R_drew)); exact HO425.out) hb); have n3_ := Aside0.mk (Kd.R_below (by (with_reducible repeat (first | apply Kd.R_alloc | apply Kd.R_drewN | apply Kd.R_drew)); exact HO431.out) hb); have n4_ := Aside0.mk (Kd.R_below (by (with_reducible repeat (first | apply Kd.R_alloc | apply Kd.R_drewN | apply Kd.R_drew)); exact HO433.out) hb); have n5_ := Aside0.mk (Kd.R_below (by (with_reducible repeat (first | apply Kd.R_alloc | apply Kd.R_drewN | apply Kd.R_drew)); exact HO442.out) hb); have n6_ := Aside0.mk (below_step (by repeat (first | (with_reducible first | exact HB.out | apply below_alloc | apply pw_below_drewN | apply below_drew1) | exact HB.out)) hb); clear HO416; clear HO420; clear HO425; clear HO431; clear HO433; clear HO442; clear HB; have HO416 := n0_; have HO420 := n1_; have HO425 := n2_; have HO431 := n3_; have HO433 := n4_; have HO442 := n5_; have HB := n6_; clear n0_ n1_ n2_ n3_ n4_ n5_ n6_; (try clear hb); (try clear hb2); (try clear hk); (try clear hi)) | (go_at_call 30; (with_reducible refine (spec_IsThreadPath.calls k t421 t422 _ _ t423 t449 _ ?side1 ?side2 A32.out).mono ?_); (case side1 => repeat (first | exact (Kd.R_reads' HO425.out).2.2 | (with_reducible refine Kd.C_alloc ?_ _) | (with_reducible refine Kd.C_drewN ?_ _) | (with_reducible refine Kd.C_drew ?_))); (case side2 => exact (Kd.R_reads' HO425.out).2.1); rintro e w51 ⟨rfl, hb⟩; have n0_ := Aside0.mk (Kd.R_below (by (with_reducible repeat (first | apply Kd.R_alloc | apply Kd.R_drewN | apply Kd.R_drew)); exact HO416.out) hb); have n1_ := Aside0.mk (Kd.R_below (by (with_reducible repeat (first | apply Kd.R_alloc | apply Kd.R_drewN | apply Kd.R_drew)); exact HO420.out) hb); have n2_ := Aside0.mk (Kd.R_below (by (with_reducible repeat (first | apply Kd.R_alloc | apply Kd.R_drewN | apply Kd.R_drew)); exact HO425.out) hb); have n3_ := Aside0.mk (Kd.R_below (by (with_reducible repeat (first | apply Kd.R_alloc | apply Kd.R_drewN | apply Kd.R_drew)); exact HO431.out) hb); have n4_ := Aside0.mk (Kd.R_below (by (with_reducible repeat (first | apply Kd.R_alloc | apply Kd.R_drewN | apply Kd.R_drew)); exact HO433.out) hb); have n5_ := Aside0.mk (Kd.R_below (by (with_reducible repeat (first | apply Kd.R_alloc | apply Kd.R_drewN | apply Kd.R_drew)); exact HO442.out) hb); have n6_ := Aside0.mk (below_step (by repeat (first | (with_reducible first | exact HB.out | apply below_alloc | apply pw_below_drewN | apply below_drew1) | exact HB.out)) hb); clear HO416; clear HO420; clear HO425; clear HO431; clear HO433; clear HO442; clear HB; have HO416 := n0_; have HO420 := n1_; have HO425 := n2_; have HO431 := n3_; have HO433 := n4_; have HO442 := n5_; have HB := n6_; clear n0_ n1_ n2_ n3_ n4_ n5_ n6_; (try clear hb); (try clear hb2); (try clear hk); (try clear hi)))
                  go_meet
                  case rel => exact ⟨_, (true), (by first | rfl | (simp; done) | (simp [*]; done)), H', ⟨by first | omega | exact Nat.le_refl _⟩, ⟨by (with_reducible repeat (first | apply Kd.R_alloc | apply Kd.R_drewN | apply Kd.R_drew)); exact Kd.R_mono HO416.out (fun _ hk => trivial)⟩, ⟨by (with_reducible repeat (first | apply Kd.R_alloc | apply Kd.R_drewN | apply Kd.R_drew)); exact Kd.R_mono HO431.out (fun _ hk => hk.2)⟩, ⟨by (with_reducible repeat (first | apply Kd.R_alloc | apply Kd.R_drewN | apply Kd.R_drew)); exact Kd.R_mono HO442.out (fun _ hk => hk.2)⟩, ⟨by repeat (first | (with_reducible first | exact HB.out | apply below_alloc | apply pw_below_drewN | apply below_drew1) | exact HB.out)⟩⟩
              · rw [if_neg c40] at H
                have c40b0 : (t434 == t436) = false := beq_eq_false_iff_ne.mpr c40
                have c40b1 : (t434 != t436) = true := bne_iff_ne.mpr c40
                have H' := Aside0.mk H
                clear H
                obtain ⟨Ao52, co52, eo52⟩ := Kd.R_slice HO416.out
                subst eo52
                obtain ⟨Ao53, co53, eo53⟩ := Kd.R_slice HO420.out
                subst eo53
                go_wp2_with (first | (go_at_call 28; (with_reducible refine (laws_likeStitches9.calls k _ _ t413 _ _ t417 true _ ?side1 ?side2 ?side3 ?side4 A29.out).mono ?_); (case side1 => repeat (first | exact (Kd.R_reads' HO416.out).2.2 | (with_reducible refine Kd.C_alloc ?_ _) | (with_reducible refine Kd.C_drewN ?_ _) | (with_reducible refine Kd.C_drew ?_))); (case side2 => exact (Kd.R_reads' HO416.out).2.1); (case side3 => repeat (first | exact (Kd.R_reads' HO420.out).2.2 | (with_reducible refine Kd.C_alloc ?_ _) | (with_reducible refine Kd.C_drewN ?_ _) | (with_reducible refine Kd.C_drew ?_))); (case side4 => exact (Kd.R_reads' HO420.out).2.1); rintro e w' ⟨rfl, ⟨nd, rfl⟩⟩; (try first | exact ⟨rfl, _, World.drewN_drewN _ _ _⟩ | exact ⟨rfl, _, Eq.trans (World.drewN_drewN _ _ _) (congrArg (World.drewN _) (Nat.add_assoc _ _ _))⟩); obtain ⟨Ao54, co54, eo54⟩ := Kd.R_slice HO425.out; subst eo54) | (go_at_call 29; (with_reducible refine (impl_IsThreadPath.calls k t421 t422 _ _ t423 t448 _ ?side1 ?side2 A31.out).mono ?_); (case side1 => repeat (first | exact (Kd.R_reads' HO425.out).2.2 | (with_reducible refine Kd.C_alloc ?_ _) | (with_reducible refine Kd.C_drewN ?_ _) | (with_reducible refine Kd.C_drew ?_))); (case side2 => exact (Kd.R_reads' HO425.out).2.1); rintro e w55 ⟨rfl, hb⟩; have n0_ := Aside0.mk (Kd.R_below (by (with_reducible repeat (first | apply Kd.R_alloc | apply Kd.R_drewN | apply Kd.R_drew)); exact HO416.out) hb); have n1_ := Aside0.mk (Kd.R_below (by (with_reducible repeat (first | apply Kd.R_alloc | apply Kd.R_drewN | apply Kd.R_drew)); exact HO420.out) hb); have n2_ := Aside0.mk (Kd.R_below (by (with_reducible repeat (first | apply Kd.R_alloc | apply Kd.R_drewN | apply Kd.R_drew)); exact HO425.out) hb); have n3_ := Aside0.mk (Kd.R_below (by (with_reducible repeat (first | apply Kd.R_alloc | apply Kd.R_drewN | apply Kd.R_drew)); exact HO431.out) hb); have n4_ := Aside0.mk (Kd.R_below (by (with_reducible repeat (first | apply Kd.R_alloc | apply Kd.R_drewN | apply Kd.R_drew)); exact HO433.out) hb); have n5_ := Aside0.mk (Kd.R_below (by (with_reducible repeat (first | apply Kd.R_alloc | apply Kd.R_drewN | apply Kd.R_drew)); exact HO442.out) hb); have n6_ := Aside0.mk (below_step (by repeat (first | (with_reducible first | exact HB.out | apply below_alloc | apply pw_below_drewN | apply below_drew1) | exact HB.out)) hb); clear HO416; clear HO420; clear HO425; clear HO431; clear HO433; clear HO442; clear HB; have HO416 := n0_; have HO420 := n1_; have HO425 := n2_; have HO431 := n3_; have HO433 := n4_; have HO442 := n5_; have HB := n6_; clear n0_ n1_ n2_ n3_ n4_ n5_ n6_; (try clear hb); (try clear hb2); (try clear hk); (try clear hi)) | (go_at_call 30; (with_reducible refine (spec_IsThreadPath.calls k t421 t422 _ _ t423 t449 _ ?side1 ?side2 A32.out).mono ?_); (case side1 => repeat (first | exact (Kd.R_reads' HO425.out).2.2 | (with_reducible refine Kd.C_alloc ?_ _) | (with_reducible refine Kd.C_drewN ?_ _) | (with_reducible refine Kd.C_drew ?_))); (case side2 => exact (Kd.R_reads' HO425.out).2.1); rintro e w56 ⟨rfl, hb⟩; have n0_ := Aside0.mk (Kd.R_below (by (with_reducible repeat (first | apply Kd.R_alloc | apply Kd.R_drewN | apply Kd.R_drew)); exact HO416.out) hb); have n1_ := Aside0.mk (Kd.R_below (by (with_reducible repeat (first | apply Kd.R_alloc | apply Kd.R_drewN | apply Kd.R_drew)); exact HO420.out) hb); have n2_ := Aside0.mk (Kd.R_below (by (with_reducible repeat (first | apply Kd.R_alloc | apply Kd.R_drewN | apply Kd.R_drew)); exact HO425.out) hb); have n3_ := Aside0.mk (Kd.R_below (by (with_reducible repeat (first | apply Kd.R_alloc | apply Kd.R_drewN | apply Kd.R_drew)); exact HO431.out) hb); have n4_ := Aside0.mk (Kd.R_below (by (with_reducible repeat (first | apply Kd.R_alloc | apply Kd.R_drewN | apply Kd.R_drew)); exact HO433.out) hb); have n5_ := Aside0.mk (Kd.R_below (by (with_reducible repeat (first | apply Kd.R_alloc | apply Kd.R_drewN | apply Kd.R_drew)); exact HO442.out) hb); have n6_ := Aside0.mk (below_step (by repeat (first | (with_reducible first | exact HB.out | apply below_alloc | apply pw_below_drewN | apply below_drew1) | exact HB.out)) hb); clear HO416; clear HO420; clear HO425; clear HO431; clear HO433; clear HO442; clear HB; have HO416 := n0_; have HO420 := n1_; have HO425 := n2_; have HO431 := n3_; have HO433 := n4_; have HO442 := n5_; have HB := n6_; clear n0_ n1_ n2_ n3_ n4_ n5_ n6_; (try clear hb); (try clear hb2); (try clear hk); (try clear hi)))
                go_meet
                case rel => exact ⟨_, (true), (by first | rfl | (simp; done) | (simp [*]; done)), H', ⟨by first | omega | exact Nat.le_refl _⟩, ⟨by (with_reducible repeat (first | apply Kd.R_alloc | apply Kd.R_drewN | apply Kd.R_drew)); exact Kd.R_mono HO416.out (fun _ hk => trivial)⟩, ⟨by (with_reducible repeat (first | apply Kd.R_alloc | apply Kd.R_drewN | apply Kd.R_drew)); exact Kd.R_mono HO431.out (fun _ hk => hk.2)⟩, ⟨by (with_reducible repeat (first | apply Kd.R_alloc | apply Kd.R_drewN | apply Kd.R_drew)); exact Kd.R_mono HO442.out (fun _ hk => hk.2)⟩, ⟨by repeat (first | (with_reducible first | exact HB.out | apply below_alloc | apply pw_below_drewN | apply below_drew1) | exact HB.out)⟩⟩
            · rw [if_neg c39] at H
              have c39b0 : (t435 == t437) = false := beq_eq_false_iff_ne.mpr c39
              have c39b1 : (t435 != t437) = true := bne_iff_ne.mpr c39
              have H' := Aside0.mk H
              clear H
              obtain ⟨Ao57, co57, eo57⟩ := Kd.R_slice HO416.out
              subst eo57
              obtain ⟨Ao58, co58, eo58⟩ := Kd.R_slice HO420.out
              subst eo58
              go_wp2_with (first | (go_at_call 28; (with_reducible refine (laws_likeStitches9.calls k _ _ t413 _ _ t417 true _ ?side1 ?side2 ?side3 ?side4 A29.out).mono ?_); (case side1 => repeat (first | exact (Kd.R_reads' HO416.out).2.2 | (with_reducible refine Kd.C_alloc ?_ _) | (with_reducible refine Kd.C_drewN ?_ _) | (with_reducible refine Kd.C_drew ?_))); (case side2 => exact (Kd.R_reads' HO416.out).2.1); (case side3 => repeat (first | exact (Kd.R_reads' HO420.out).2.2 | (with_reducible refine Kd.C_alloc ?_ _) | (with_reducible refine Kd.C_drewN ?_ _) | (with_reducible refine Kd.C_drew ?_))); (case side4 => exact (Kd.R_reads' HO420.out).2.1); rintro e w' ⟨rfl, ⟨nd, rfl⟩⟩; (try first | exact ⟨rfl, _, World.drewN_drewN _ _ _⟩ | exact ⟨rfl, _, Eq.trans (World.drewN_drewN _ _ _) (congrArg (World.drewN _) (Nat.add_assoc _ _ _))⟩); obtain ⟨Ao59, co59, eo59⟩ := Kd.R_slice HO425.out; subst eo59) | (go_at_call 29; (with_reducible refine (impl_IsThreadPath.calls k t421 t422 _ _ t423 t448 _ ?side1 ?side2 A31.out).mono ?_); (case side1 => repeat (first | exact (Kd.R_reads' HO425.out).2.2 | (with_reducible refine Kd.C_alloc ?_ _) | (with_reducible refine Kd.C_drewN ?_ _) | (with_reducible refine Kd.C_drew ?_))); (case side2 => exact (Kd.R_reads' HO425.out).2.1); rintro e w60 ⟨rfl, hb⟩; have n0_ := Aside0.mk (Kd.R_below (by (with_reducible repeat (first | apply Kd.R_alloc | apply Kd.R_drewN | apply Kd.R_drew)); exact HO416.out) hb); have n1_ := Aside0.mk (Kd.R_below (by (with_reducible repeat (first | apply Kd.R_alloc | apply Kd.R_drewN | apply Kd.R_drew)); exact HO420.out) hb); have n2_ := Aside0.mk (Kd.R_below (by (with_reducible repeat (first | apply Kd.R_alloc | apply Kd.R_drewN | apply Kd.R_drew)); exact HO425.out) hb); have n3_ := Aside0.mk (Kd.R_below (by (with_reducible repeat (first | apply Kd.R_alloc | apply Kd.R_drewN | apply Kd.R_drew)); exact HO431.out) hb); have n4_ := Aside0.mk (Kd.R_below (by (with_reducible repeat (first | apply Kd.R_alloc | apply Kd.R_drewN | apply Kd.R_drew)); exact HO433.out) hb); have n5_ := Aside0.mk (Kd.R_below (by (with_reducible repeat (first | apply Kd.R_alloc | apply Kd.R_drewN | apply Kd.R_drew)); exact HO442.out) hb); have n6_ := Aside0.mk (below_step (by repeat (first | (with_reducible first | exact HB.out | apply below_alloc | apply pw_below_drewN | apply below_drew1) | exact HB.out)) hb); clear HO416; clear HO420; clear HO425; clear HO431; clear HO433; clear HO442; clear HB; have HO416 := n0_; have HO420 := n1_; have HO425 := n2_; have HO431 := n3_; have HO433 := n4_; have HO442 := n5_; have HB := n6_; clear n0_ n1_ n2_ n3_ n4_ n5_ n6_; (try clear hb); (try clear hb2); (try clear hk); (try clear hi)) | (go_at_call 30; (with_reducible refine (spec_IsThreadPath.calls k t421 t422 _ _ t423 t449 _ ?side1 ?side2 A32.out).mono ?_); (case side1 => repeat (first | exact (Kd.R_reads' HO425.out).2.2 | (with_reducible refine Kd.C_alloc ?_ _) | (with_reducible refine Kd.C_drewN ?_ _) | (with_reducible refine Kd.C_drew ?_))); (case side2 => exact (Kd.R_reads' HO425.out).2.1); rintro e w61 ⟨rfl, hb⟩; have n0_ := Aside0.mk (Kd.R_below (by (with_reducible repeat (first | apply Kd.R_alloc | apply Kd.R_drewN | apply Kd.R_drew)); exact HO416.out) hb); have n1_ := Aside0.mk (Kd.R_below (by (with_reducible repeat (first | apply Kd.R_alloc | apply Kd.R_drewN | apply Kd.R_drew)); exact HO420.out) hb); have n2_ := Aside0.mk (Kd.R_below (by (with_reducible repeat (first | apply Kd.R_alloc | apply Kd.R_drewN | apply Kd.R_drew)); exact HO425.out) hb); have n3_ := Aside0.mk (Kd.R_below (by (with_reducible repeat (first | apply Kd.R_alloc | apply Kd.R_drewN | apply Kd.R_drew)); exact HO431.out) hb); have n4_ := Aside0.mk (Kd.R_below (by (with_reducible repeat (first | apply Kd.R_alloc | apply Kd.R_drewN | apply Kd.R_drew)); exact HO433.out) hb); have n5_ := Aside0.mk (Kd.R_below (by (with_reducible repeat (first | apply Kd.R_alloc | apply Kd.R_drewN | apply Kd.R_drew)); exact HO442.out) hb); have n6_ := Aside0.mk (below_step (by repeat (first | (with_reducible first | exact HB.out | apply below_alloc | apply pw_below_drewN | apply below_drew1) | exact HB.out)) hb); clear HO416; clear HO420; clear HO425; clear HO431; clear HO433; clear HO442; clear HB; have HO416 := n0_; have HO420 := n1_; have HO425 := n2_; have HO431 := n3_; have HO433 := n4_; have HO442 := n5_; have HB := n6_; clear n0_ n1_ n2_ n3_ n4_ n5_ n6_; (try clear hb); (try clear hb2); (try clear hk); (try clear hi)))
              go_meet
              case rel => exact ⟨_, (true), (by first | rfl | (simp; done) | (simp [*]; done)), H', ⟨by first | omega | exact Nat.le_refl _⟩, ⟨by (with_reducible repeat (first | apply Kd.R_alloc | apply Kd.R_drewN | apply Kd.R_drew)); exact Kd.R_mono HO416.out (fun _ hk => trivial)⟩, ⟨by (with_reducible repeat (first | apply Kd.R_alloc | apply Kd.R_drewN | apply Kd.R_drew)); exact Kd.R_mono HO431.out (fun _ hk => hk.2)⟩, ⟨by (with_reducible repeat (first | apply Kd.R_alloc | apply Kd.R_drewN | apply Kd.R_drew)); exact Kd.R_mono HO442.out (fun _ hk => hk.2)⟩, ⟨by repeat (first | (with_reducible first | exact HB.out | apply below_alloc | apply pw_below_drewN | apply below_drew1) | exact HB.out)⟩⟩
        · replace c30 := Bool.eq_false_iff.mpr c30
          subst c30
          have H1 : (laws_FnThreads.j0 k t411 t412 t413 t414 t426 t427 t429 t434 t435 t438 t439 t440 t443 t444 true) = some r := by rw [if_neg (show ¬ (false = true) by decide)] at H; exact H
          clear H
          have H := H1
          clear H1
          have H' := Aside0.mk H
          clear H
          obtain ⟨Ao62, co62, eo62⟩ := Kd.R_slice HO416.out
          subst eo62
          obtain ⟨Ao63, co63, eo63⟩ := Kd.R_slice HO420.out
          subst eo63
          go_wp2_with (first | (go_at_call 28; (with_reducible refine (laws_likeStitches9.calls k _ _ t413 _ _ t417 false _ ?side1 ?side2 ?side3 ?side4 A29.out).mono ?_); (case side1 => repeat (first | exact (Kd.R_reads' HO416.out).2.2 | (with_reducible refine Kd.C_alloc ?_ _) | (with_reducible refine Kd.C_drewN ?_ _) | (with_reducible refine Kd.C_drew ?_))); (case side2 => exact (Kd.R_reads' HO416.out).2.1); (case side3 => repeat (first | exact (Kd.R_reads' HO420.out).2.2 | (with_reducible refine Kd.C_alloc ?_ _) | (with_reducible refine Kd.C_drewN ?_ _) | (with_reducible refine Kd.C_drew ?_))); (case side4 => exact (Kd.R_reads' HO420.out).2.1); rintro e w' ⟨rfl, ⟨nd, rfl⟩⟩; (try first | exact ⟨rfl, _, World.drewN_drewN _ _ _⟩ | exact ⟨rfl, _, Eq.trans (World.drewN_drewN _ _ _) (congrArg (World.drewN _) (Nat.add_assoc _ _ _))⟩)))
          go_meet
          case rel => exact ⟨_, (true), (by first | rfl | (simp; done) | (simp [*]; done)), H', ⟨by first | omega | exact Nat.le_refl _⟩, ⟨by (with_reducible repeat (first | apply Kd.R_alloc | apply Kd.R_drewN | apply Kd.R_drew)); exact Kd.R_mono HO416.out (fun _ hk => trivial)⟩, ⟨by (with_reducible repeat (first | apply Kd.R_alloc | apply Kd.R_drewN | apply Kd.R_drew)); exact Kd.R_mono HO431.out (fun _ hk => hk.2)⟩, ⟨by (with_reducible repeat (first | apply Kd.R_alloc | apply Kd.R_drewN | apply Kd.R_drew)); exact Kd.R_mono HO442.out (fun _ hk => hk.2)⟩, ⟨by repeat (first | (with_reducible first | exact HB.out | apply below_alloc | apply pw_below_drewN | apply below_drew1) | exact HB.out)⟩⟩
      · rw [if_neg c28] at H
        have c28b0 : (t414 == t418) = false := beq_eq_false_iff_ne.mpr c28
        have c28b1 : (t414 != t418) = true := bne_iff_ne.mpr c28
        (first | rw [c28b0] | (simp only [i64_w, i32_w]; rw [c28b0]) | skip)
        have H' := Aside0.mk H
        clear H
        go_wp2
        repeat (go_quiet (fail); try go_wp2)
        go_meet
        case rel => exact ⟨_, (true), (by first | rfl | (simp; done) | (simp [*]; done)), H', ⟨by first | omega | exact Nat.le_refl _⟩, ⟨by (with_reducible repeat (first | apply Kd.R_alloc | apply Kd.R_drewN | apply Kd.R_drew)); exact Kd.R_mono HO416.out (fun _ hk => trivial)⟩, ⟨by (with_reducible repeat (first | apply Kd.R_alloc | apply Kd.R_drewN | apply Kd.R_drew)); exact Kd.R_mono HO431.out (fun _ hk => hk.2)⟩, ⟨by (with_reducible repeat (first | apply Kd.R_alloc | apply Kd.R_drewN | apply Kd.R_drew)); exact Kd.R_mono HO442.out (fun _ hk => hk.2)⟩, ⟨by repeat (first | (with_reducible first | exact HB.out | apply below_alloc | apply pw_below_drewN | apply below_drew1) | exact HB.out)⟩⟩
    case rest => as_aux_lemma =>
      clear HC14
      try clear c2
      try clear p2
      try clear c3
      try clear c4
      try clear c28
      try clear c28b0
      try clear c28b1
      try clear c30
      try clear c33
      try clear c33b0
      try clear c33b1
      try clear c33b2
      try clear c39
      try clear c39b0
      try clear c39b1
      try clear c40
      try clear c40b0
      try clear c40b1
      try clear c41
      try clear c41b0
      try clear c41b1
      obtain ⟨kq, x136_13, rfl, HA, HJ13, HO_5, HO_12, HO_20, HB⟩ := hcut
      cases kq with
      | zero => exact absurd HA.out (by simp [laws_FnThreads.j0])
      | succ kj13 =>
        have H := HA.out
        clear HA
        simp only [laws_FnThreads.j0] at H
        by_cases c64 : x136_13 = true
        · subst c64
          have H1 : (some false) = some r := by rw [if_pos rfl] at H; exact H
          clear H
          have H := H1
          clear H1
          obtain rfl := Option.some.inj H
          go_wp2
          repeat (go_quiet (fail); try go_wp2)
          go_ret
          exact ⟨by first | rfl | (simp [errW_none, errW_some] <;> rfl) | (simp [*, errW_none, errW_some] <;> rfl), by repeat (first | (with_reducible first | exact HB.out | apply below_alloc | apply pw_below_drewN | apply below_drew1) | exact HB.out)⟩
        · replace c64 := Bool.eq_false_iff.mpr c64
          subst c64
          have H1 : (if t435 = 0 then ((impl_PlainLength.f kj13 t426 t427 t429).bind fun bt450 => (if bt450.2 = 0 then (if t434 < (wrap64 ((wrap64 (t427 - 1)) * t429)) then (laws_FnThreads.j1 kj13 t411 t412 t413 t414 t438 t439 t440 t443 t444 true) else (if (t426.length : Int) = 2 then (laws_FnThreads.j1 kj13 t411 t412 t413 t414 t438 t439 t440 t443 t444 (t434 != bt450.1)) else (laws_FnThreads.j1 kj13 t411 t412 t413 t414 t438 t439 t440 t443 t444 false))) else (laws_FnThreads.j1 kj13 t411 t412 t413 t414 t438 t439 t440 t443 t444 true))) else (if t444 = 0 then (if 0 ≤ (wrap64 ((t438.length : Int) - 1)) then (if (wrap64 ((t438.length : Int) - 1)) < (t438.length : Int) then (if 0 < (t438.length : Int) then (if t443 = (wrap64 ((wrap64 (t439 * (wrap64 ((rd t438 (wrap64 ((t438.length : Int) - 1))) - (rd t438 0))))) + (wrap64 ((wrap64 (t439 - 1)) * t440)))) then (if t414 = 0 then ((impl_IsThreadPath.f kj13 t411 t412 t413).bind fun t458 => (if t458 = true then (some ((t413.length : Int) == (wrap64 (t411 * t412)))) else (some false))) else (some true)) else (some false)) else (none)) else (none)) else (none)) else (if t414 = 0 then ((impl_IsThreadPath.f kj13 t411 t412 t413).bind fun t459 => (if t459 = true then (some ((t413.length : Int) == (wrap64 (t411 * t412)))) else (some false))) else (some true)))) = some r := by rw [if_neg (show ¬ (false = true) by decide)] at H; exact H
          clear H
          have H := H1
          clear H1
          by_cases c65 : t435 = 0
          · rw [if_pos c65] at H
            have c65b0 : (t435 == 0) = true := beq_iff_eq.mpr c65
            have c65b1 : (t435 != 0) = false := bne_eq_false_iff_eq.mpr c65
            clear c65
            replace H := Option.bind_eq_some_iff.mp H
            obtain ⟨⟨t450, t451⟩, A660, H⟩ := H
            replace H : (if t451 = 0 then (if t434 < (wrap64 ((wrap64 (t427 - 1)) * t429)) then (laws_FnThreads.j1 kj13 t411 t412 t413 t414 t438 t439 t440 t443 t444 true) else (if (t426.length : Int) = 2 then (laws_FnThreads.j1 kj13 t411 t412 t413 t414 t438 t439 t440 t443 t444 (t434 != t450)) else (laws_FnThreads.j1 kj13 t411 t412 t413 t414 t438 t439 t440 t443 t444 false))) else (laws_FnThreads.j1 kj13 t411 t412 t413 t414 t438 t439 t440 t443 t444 true)) = some r := H
            have A66 := Aside0.mk A660
            clear A660
            have HC67 := Aside0.mk H
            clear H
            go_upto_region 17 with (first | (go_at_call 26; (with_reducible refine (impl_PlainLength.calls kj13 _ _ t426 t427 t429 t450 t451 _ ?side1 ?side2 A66.out).mono ?_); (case side1 => repeat (first | exact (Kd.R_reads' HO_12.out).2.2 | (with_reducible refine Kd.C_alloc ?_ _) | (with_reducible refine Kd.C_drewN ?_ _) | (with_reducible refine Kd.C_drew ?_))); (case side2 => exact (Kd.R_reads' HO_12.out).2.1); rintro e w68 ⟨rfl, hb⟩; have n0_ := Aside0.mk (Kd.R_below (by (with_reducible repeat (first | apply Kd.R_alloc | apply Kd.R_drewN | apply Kd.R_drew)); exact HO_5.out) hb); have n1_ := Aside0.mk (Kd.R_below (by (with_reducible repeat (first | apply Kd.R_alloc | apply Kd.R_drewN | apply Kd.R_drew)); exact HO_12.out) hb); have n2_ := Aside0.mk (Kd.R_below (by (with_reducible repeat (first | apply Kd.R_alloc | apply Kd.R_drewN | apply Kd.R_drew)); exact HO_20.out) hb); have n3_ := Aside0.mk (below_step (by repeat (first | (with_reducible first | exact HB.out | apply below_alloc | apply pw_below_drewN | apply below_drew1) | exact HB.out)) hb); clear HO_5; clear HO_12; clear HO_20; clear HB; have HO_5 := n0_; have HO_12 := n1_; have HO_20 := n2_; have HB := n3_; clear n0_ n1_ n2_ n3_; (try clear hb); (try clear hb2); (try clear hk); (try clear hi)))
            (try simp only [Act.put, List.setIfInBounds_toArray, List.set_cons_zero, List.set_cons_succ])
            go_cut [165] (fun v165 wc => ∃ (kq : Nat) (x165_66 : Bool), v165 = .bool x165_66 ∧ Aside0 (laws_FnThreads.j1 kq t411 t412 t413 t414 t438 t439 t440 t443 t444 x165_66 = some r) ∧ Aside0 (kq ≤ kj13) ∧ Aside0 (Kd.R k69 69 wc w.heap.size (fun _ => True) v415 t413) ∧ Aside0 (Kd.R (Kd.int .i64) 2 wc w.heap.size (fun _ => True) (.slice Ao25 t438.length co25) t438) ∧ Aside0 (Below w.heap.size w wc))
            case first => as_aux_lemma =>
              have H := HC67.out
              clear HC67
              by_cases c69 : t451 = 0
              · rw [if_pos c69] at H
                have c69b0 : (t451 == 0) = true := beq_iff_eq.mpr c69
                have c69b1 : (t451 != 0) = false := bne_eq_false_iff_eq.mpr c69
                clear c69
                (first | rw [c69b0] | (simp only [i64_w, i32_w]; rw [c69b0]) | skip)
                by_cases c70 : t434 < (wrap64 ((wrap64 (t427 - 1)) * t429))
                · rw [if_pos c70] at H
                  have c70b0 : decide (t434 < (wrap64 ((wrap64 (t427 - 1)) * t429))) = true := decide_eq_true c70
                  clear c70
                  have H' := Aside0.mk H
                  clear H
                  go_wp2
                  repeat (go_quiet (fail); try go_wp2)
                  go_meet
                  case rel => exact ⟨_, (true), (by first | rfl | (simp; done) | (simp [*]; done)), H', ⟨by have := HJ13.out; first | omega | exact Nat.le_refl _⟩, ⟨by (with_reducible repeat (first | apply Kd.R_alloc | apply Kd.R_drewN | apply Kd.R_drew)); exact HO_5.out⟩, ⟨by (with_reducible repeat (first | apply Kd.R_alloc | apply Kd.R_drewN | apply Kd.R_drew)); exact Kd.R_mono HO_20.out (fun _ hk => trivial)⟩, ⟨by repeat (first | (with_reducible first | exact HB.out | apply below_alloc | apply pw_below_drewN | apply below_drew1) | exact HB.out)⟩⟩
                · rw [if_neg c70] at H
                  have c70b0 : decide (t434 < (wrap64 ((wrap64 (t427 - 1)) * t429))) = false := decide_eq_false c70
                  clear c70
                  by_cases c71 : (t426.length : Int) = 2
                  · rw [if_pos c71] at H
                    have c71b0 : ((t426.length : Int) == 2) = true := beq_iff_eq.mpr c71
                    have c71b1 : ((t426.length : Int) != 2) = false := bne_eq_false_iff_eq.mpr c71
                    clear c71
                    have H' := Aside0.mk H
                    clear H
                    go_wp2
                    repeat (go_quiet (fail); try go_wp2)
                    go_meet
                    case rel => exact ⟨_, ((t434 != t450)), (by first | rfl | (simp; done) | (simp [*]; done)), H', ⟨by have := HJ13.out; first | omega | exact Nat.le_refl _⟩, ⟨by (with_reducible repeat (first | apply Kd.R_alloc | apply Kd.R_drewN | apply Kd.R_drew)); exact HO_5.out⟩, ⟨by (with_reducible repeat (first | apply Kd.R_alloc | apply Kd.R_drewN | apply Kd.R_drew)); exact Kd.R_mono HO_20.out (fun _ hk => trivial)⟩, ⟨by repeat (first | (with_reducible first | exact HB.out | apply below_alloc | apply pw_below_drewN | apply below_drew1) | exact HB.out)⟩⟩
                  · rw [if_neg c71] at H
                    have c71b0 : ((t426.length : Int) == 2) = false := beq_eq_false_iff_ne.mpr c71
                    have c71b1 : ((t426.length : Int) != 2) = true := bne_iff_ne.mpr c71
                    have H' := Aside0.mk H
                    clear H
                    go_wp2
                    repeat (go_quiet (fail); try go_wp2)
                    go_meet
                    case rel => exact ⟨_, (false), (by first | rfl | (simp; done) | (simp [*]; done)), H', ⟨by have := HJ13.out; first | omega | exact Nat.le_refl _⟩, ⟨by (with_reducible repeat (first | apply Kd.R_alloc | apply Kd.R_drewN | apply Kd.R_drew)); exact HO_5.out⟩, ⟨by (with_reducible repeat (first | apply Kd.R_alloc | apply Kd.R_drewN | apply Kd.R_drew)); exact Kd.R_mono HO_20.out (fun _ hk => trivial)⟩, ⟨by repeat (first | (with_reducible first | exact HB.out | apply below_alloc | apply pw_below_drewN | apply below_drew1) | exact HB.out)⟩⟩
              · rw [if_neg c69] at H
                have c69b0 : (t451 == 0) = false := beq_eq_false_iff_ne.mpr c69
                have c69b1 : (t451 != 0) = true := bne_iff_ne.mpr c69
                (first | rw [c69b0] | (simp only [i64_w, i32_w]; rw [c69b0]) | skip)
                have H' := Aside0.mk H
                clear H
                go_wp2
                repeat (go_quiet (fail); try go_wp2)
                go_meet
                case rel => exact ⟨_, (true), (by first | rfl | (simp; done) | (simp [*]; done)), H', ⟨by have := HJ13.out; first | omega | exact Nat.le_refl _⟩, ⟨by (with_reducible repeat (first | apply Kd.R_alloc | apply Kd.R_drewN | apply Kd.R_drew)); exact HO_5.out⟩, ⟨by (with_reducible repeat (first | apply Kd.R_alloc | apply Kd.R_drewN | apply Kd.R_drew)); exact Kd.R_mono HO_20.out (fun _ hk => trivial)⟩, ⟨by repeat (first | (with_reducible first | exact HB.out | apply below_alloc | apply pw_below_drewN | apply below_drew1) | exact HB.out)⟩⟩
            case rest => as_aux_lemma =>
              clear HC67
              try clear c2
              try clear p2
              try clear c3
              try clear c4
              try clear c6
              try clear p6
              try clear c7
              try clear c28
              try clear c28b0
              try clear c28b1
              try clear c30
              try clear c33
              try clear c33b0
              try clear c33b1
              try clear c33b2
              try clear c39
              try clear c39b0
              try clear c39b1
              try clear c40
              try clear c40b0
              try clear c40b1
              try clear c41
              try clear c41b0
              try clear c41b1
              try clear c64
              try clear p64
              try clear c65
              try clear c65b0
              try clear c65b1
              try clear c69
              try clear c69b0
              try clear c69b1
              try clear c70
              try clear c70b0
              try clear c71
              try clear c71b0
              try clear c71b1
              try clear p2
              obtain ⟨kq, x165_66, rfl, HA, HJ66, HO_5, HO_20, HB⟩ := hcut
              cases kq with
              | zero => exact absurd HA.out (by simp [laws_FnThreads.j1])
              | succ kj66 =>
                have H := HA.out
                clear HA
                simp only [laws_FnThreads.j1] at H
                by_cases c72 : x165_66 = true
                · subst c72
                  have H1 : (some false) = some r := by rw [if_pos rfl] at H; exact H
                  clear H
                  have H := H1
                  clear H1
                  obtain rfl := Option.some.inj H
                  go_wp2
                  repeat (go_quiet (fail); try go_wp2)
                  go_ret
                  exact ⟨by first | rfl | (simp [errW_none, errW_some] <;> rfl) | (simp [*, errW_none, errW_some] <;> rfl), by repeat (first | (with_reducible first | exact HB.out | apply below_alloc | apply pw_below_drewN | apply below_drew1) | exact HB.out)⟩
                · replace c72 := Bool.eq_false_iff.mpr c72
                  subst c72
                  have H1 : (if t444 = 0 then (if 0 ≤ (wrap64 ((t438.length : Int) - 1)) then (if (wrap64 ((t438.length : Int) - 1)) < (t438.length : Int) then (if 0 < (t438.length : Int) then (if t443 = (wrap64 ((wrap64 (t439 * (wrap64 ((rd t438 (wrap64 ((t438.length : Int) - 1))) - (rd t438 0))))) + (wrap64 ((wrap64 (t439 - 1)) * t440)))) then (if t414 = 0 then ((impl_IsThreadPath.f kj66 t411 t412 t413).bind fun t454 => (if t454 = true then (some ((t413.length : Int) == (wrap64 (t411 * t412)))) else (some false))) else (some true)) else (some false)) else (none)) else (none)) else (none)) else (if t414 = 0 then ((impl_IsThreadPath.f kj66 t411 t412 t413).bind fun t455 => (if t455 = true then (some ((t413.length : Int) == (wrap64 (t411 * t412)))) else (some false))) else (some true))) = some r := by rw [if_neg (show ¬ (false = true) by decide)] at H; exact H
                  clear H
                  have H := H1
                  clear H1
                  by_cases c73 : t444 = 0
                  · rw [if_pos c73] at H
                    have c73b0 : (t444 == 0) = true := beq_iff_eq.mpr c73
                    have c73b1 : (t444 != 0) = false := bne_eq_false_iff_eq.mpr c73
                    clear c73
                    obtain ⟨ji74, hji74⟩ : ∃ j_ : Int, (wrap64 ((t438.length : Int) - 1)) = j_ := ⟨_, rfl⟩
                    replace H : (if 0 ≤ (ji74) then (if (ji74) < (t438.length : Int) then (if 0 < (t438.length : Int) then (if t443 = (wrap64 ((wrap64 (t439 * (wrap64 ((rd t438 (ji74)) - (rd t438 0))))) + (wrap64 ((wrap64 (t439 - 1)) * t440)))) then (if t414 = 0 then ((impl_IsThreadPath.f kj66 t411 t412 t413).bind fun t454 => (if t454 = true then (some ((t413.length : Int) == (wrap64 (t411 * t412)))) else (some false))) else (some true)) else (some false)) else (none)) else (none)) else (none)) = some r := by first | (rw [hji74] at H; exact H) | (simp only [hji74] at H ⊢; exact H)
                    have hji74w : (IntKind.i64.wrap ((t438.length : Int) - 1)) = ji74 := (i64_w _).trans hji74
                    by_cases c75 : 0 ≤ (ji74)
                    · rw [if_pos c75] at H
                      have c75b0 : decide (0 ≤ (ji74)) = true := decide_eq_true c75
                      clear c75
                      by_cases c76 : (ji74) < (t438.length : Int)
                      · rw [if_pos c76] at H
                        have c76b0 : decide ((ji74) < (t438.length : Int)) = true := decide_eq_true c76
                        clear c76
                        by_cases c77 : 0 < (t438.length : Int)
                        · rw [if_pos c77] at H
                          have c77b0 : decide (0 < (t438.length : Int)) = true := decide_eq_true c77
                          have c77b1 : decide (0 < t438.length) = true := decide_eq_true (by omega)
                          clear c77
                          by_cases c78 : t443 = (wrap64 ((wrap64 (t439 * (wrap64 ((rd t438 (ji74)) - (rd t438 0))))) + (wrap64 ((wrap64 (t439 - 1)) * t440))))
                          · rw [if_pos c78] at H
                            have c78b0 : (t443 == (wrap64 ((wrap64 (t439 * (wrap64 ((rd t438 (ji74)) - (rd t438 0))))) + (wrap64 ((wrap64 (t439 - 1)) * t440))))) = true := beq_iff_eq.mpr c78
                            have c78b1 : (t443 != (wrap64 ((wrap64 (t439 * (wrap64 ((rd t438 (ji74)) - (rd t438 0))))) + (wrap64 ((wrap64 (t439 - 1)) * t440))))) = false := bne_eq_false_iff_eq.mpr c78
                            clear c78
                            by_cases c79 : t414 = 0
                            · rw [if_pos c79] at H
                              have c79b0 : (t414 == 0) = true := beq_iff_eq.mpr c79
                              have c79b1 : (t414 != 0) = false := bne_eq_false_iff_eq.mpr c79
                              clear c79
                              replace H := Option.bind_eq_some_iff.mp H
                              obtain ⟨t454, A800, H⟩ := H
                              replace H : (if t454 = true then (some ((t413.length : Int) == (wrap64 (t411 * t412)))) else (some false)) = some r := H
                              have A80 := Aside0.mk A800
                              clear A800
                              by_cases c81 : t454 = true
                              · subst c81
                                have H1 : (some ((t413.length : Int) == (wrap64 (t411 * t412)))) = some r := by rw [if_pos rfl] at H; exact H
                                clear H
                                have H := H1
                                clear H1
                                obtain rfl := Option.some.inj H
                                have p452 : 0 ≤ ((ji74) : Int) := of_decide_eq_true (by first | (with_reducible assumption) | assumption)
                                have q452 : (ji74) < (t438.length : Int) := of_decide_eq_true (by first | (with_reducible assumption) | assumption)
                                obtain ⟨ad452, e452, hx452_0⟩ := Kd.at_int (Kd.R_reads' HO_20.out).2.2 (ji74) p452 q452
                                cases e452
                                replace p452 := eq_true p452
                                replace q452 := eq_true q452
                                have p453 : 0 ≤ (0 : Int) := (by omega)
                                have q453 : 0 < (t438.length : Int) := of_decide_eq_true (by first | (with_reducible assumption) | assumption)
                                obtain ⟨ad453, e453, hx453_0⟩ := Kd.at_int (Kd.R_reads' HO_20.out).2.2 0 p453 q453
                                obtain rfl : ad452 = ad453 := (by injection e453)
                                have qi453 : (0 < t438.length) = True := eq_true (by omega)
                                (try rw [show ((0 : Int)).toNat = 0 from rfl] at hx453_0)
                                (try rw [Addr.add_zero'] at hx453_0)
                                replace p453 := eq_true p453
                                replace q453 := eq_true q453
                                obtain ⟨Ao82, co82, eo82⟩ := Kd.R_slice HO_5.out
                                subst eo82
                                go_wp2_with (first | (go_at_call 29; (with_reducible refine (impl_IsThreadPath.calls kj66 t411 t412 _ _ t413 true _ ?side1 ?side2 A80.out).mono ?_); (case side1 => repeat (first | exact (Kd.R_reads' HO_5.out).2.2 | (with_reducible refine Kd.C_alloc ?_ _) | (with_reducible refine Kd.C_drewN ?_ _) | (with_reducible refine Kd.C_drew ?_))); (case side2 => exact (Kd.R_reads' HO_5.out).2.1); rintro e w83 ⟨rfl, hb⟩; have n0_ := Aside0.mk (Kd.R_below (by (with_reducible repeat (first | apply Kd.R_alloc | apply Kd.R_drewN | apply Kd.R_drew)); exact HO_5.out) hb); have n1_ := Aside0.mk (Kd.R_below (by (with_reducible repeat (first | apply Kd.R_alloc | apply Kd.R_drewN | apply Kd.R_drew)); exact HO_20.out) hb); have n2_ := Aside0.mk (below_step (by repeat (first | (with_reducible first | exact HB.out | apply below_alloc | apply pw_below_drewN | apply below_drew1) | exact HB.out)) hb); clear HO_5; clear HO_20; clear HB; have HO_5 := n0_; have HO_20 := n1_; have HB := n2_; clear n0_ n1_ n2_; (try clear hb); (try clear hb2); (try clear hk); (try clear hi)))
                                repeat (go_quiet (first | (go_at_call 29; (with_reducible refine (impl_IsThreadPath.calls kj66 t411 t412 _ _ t413 true _ ?side1 ?side2 A80.out).mono ?_); (case side1 => repeat (first | exact (Kd.R_reads' HO_5.out).2.2 | (with_reducible refine Kd.C_alloc ?_ _) | (with_reducible refine Kd.C_drewN ?_ _) | (with_reducible refine Kd.C_drew ?_))); (case side2 => exact (Kd.R_reads' HO_5.out).2.1); rintro e w83 ⟨rfl, hb⟩; have n0_ := Aside0.mk (Kd.R_below (by (with_reducible repeat (first | apply Kd.R_alloc | apply Kd.R_drewN | apply Kd.R_drew)); exact HO_5.out) hb); have n1_ := Aside0.mk (Kd.R_below (by (with_reducible repeat (first | apply Kd.R_alloc | apply Kd.R_drewN | apply Kd.R_drew)); exact HO_20.out) hb); have n2_ := Aside0.mk (below_step (by repeat (first | (with_reducible first | exact HB.out | apply below_alloc | apply pw_below_drewN | apply below_drew1) | exact HB.out)) hb); clear HO_5; clear HO_20; clear HB; have HO_5 := n0_; have HO_20 := n1_; have HB := n2_; clear n0_ n1_ n2_; (try clear hb); (try clear hb2); (try clear hk); (try clear hi))); try go_wp2_with (first | (go_at_call 29; (with_reducible refine (impl_IsThreadPath.calls kj66 t411 t412 _ _ t413 true _ ?side1 ?side2 A80.out).mono ?_); (case side1 => repeat (first | exact (Kd.R_reads' HO_5.out).2.2 | (with_reducible refine Kd.C_alloc ?_ _) | (with_reducible refine Kd.C_drewN ?_ _) | (with_reducible refine Kd.C_drew ?_))); (case side2 => exact (Kd.R_reads' HO_5.out).2.1); rintro e w83 ⟨rfl, hb⟩; have n0_ := Aside0.mk (Kd.R_below (by (with_reducible repeat (first | apply Kd.R_alloc | apply Kd.R_drewN | apply Kd.R_drew)); exact HO_5.out) hb); have n1_ := Aside0.mk (Kd.R_below (by (with_reducible repeat (first | apply Kd.R_alloc | apply Kd.R_drewN | apply Kd.R_drew)); exact HO_20.out) hb); have n2_ := Aside0.mk (below_step (by repeat (first | (with_reducible first | exact HB.out | apply below_alloc | apply pw_below_drewN | apply below_drew1) | exact HB.out)) hb); clear HO_5; clear HO_20; clear HB; have HO_5 := n0_; have HO_20 := n1_; have HB := n2_; clear n0_ n1_ n2_; (try clear hb); (try clear hb2); (try clear hk); (try clear hi))))
                                go_ret
                                exact ⟨by first | rfl | (simp [errW_none, errW_some] <;> rfl) | (simp only [← hji74]; first | rfl | (simp [errW_none, errW_some] <;> rfl)) | (simp [*, errW_none, errW_some] <;> rfl), by repeat (first | (with_reducible first | exact HB.out | apply below_alloc | apply pw_below_drewN | apply below_drew1) | exact HB.out)⟩
                              · replace c81 := Bool.eq_false_iff.mpr c81
                                subst c81
                                have H1 : (some false) = some r := by rw [if_neg (show ¬ (false = true) by decide)] at H; exact H
                                clear H
                                have H := H1
                                clear H1
                                obtain rfl := Option.some.inj H
                                have p452 : 0 ≤ ((ji74) : Int) := of_decide_eq_true (by first | (with_reducible assumption) | assumption)
                                have q452 : (ji74) < (t438.length : Int) := of_decide_eq_true (by first | (with_reducible assumption) | assumption)
                                obtain ⟨ad452, e452, hx452_0⟩ := Kd.at_int (Kd.R_reads' HO_20.out).2.2 (ji74) p452 q452
                                cases e452
                                replace p452 := eq_true p452
                                replace q452 := eq_true q452
                                have p453 : 0 ≤ (0 : Int) := (by omega)
                                have q453 : 0 < (t438.length : Int) := of_decide_eq_true (by first | (with_reducible assumption) | assumption)
                                obtain ⟨ad453, e453, hx453_0⟩ := Kd.at_int (Kd.R_reads' HO_20.out).2.2 0 p453 q453
                                obtain rfl : ad452 = ad453 := (by injection e453)
                                have qi453 : (0 < t438.length) = True := eq_true (by omega)
                                (try rw [show ((0 : Int)).toNat = 0 from rfl] at hx453_0)
                                (try rw [Addr.add_zero'] at hx453_0)
                                replace p453 := eq_true p453
                                replace q453 := eq_true q453
                                obtain ⟨Ao84, co84, eo84⟩ := Kd.R_slice HO_5.out
                                subst eo84
                                go_wp2_with (first | (go_at_call 29; (with_reducible refine (impl_IsThreadPath.calls kj66 t411 t412 _ _ t413 false _ ?side1 ?side2 A80.out).mono ?_); (case side1 => repeat (first | exact (Kd.R_reads' HO_5.out).2.2 | (with_reducible refine Kd.C_alloc ?_ _) | (with_reducible refine Kd.C_drewN ?_ _) | (with_reducible refine Kd.C_drew ?_))); (case side2 => exact (Kd.R_reads' HO_5.out).2.1); rintro e w85 ⟨rfl, hb⟩; have n0_ := Aside0.mk (Kd.R_below (by (with_reducible repeat (first | apply Kd.R_alloc | apply Kd.R_drewN | apply Kd.R_drew)); exact HO_5.out) hb); have n1_ := Aside0.mk (Kd.R_below (by (with_reducible repeat (first | apply Kd.R_alloc | apply Kd.R_drewN | apply Kd.R_drew)); exact HO_20.out) hb); have n2_ := Aside0.mk (below_step (by repeat (first | (with_reducible first | exact HB.out | apply below_alloc | apply pw_below_drewN | apply below_drew1) | exact HB.out)) hb); clear HO_5; clear HO_20; clear HB; have HO_5 := n0_; have HO_20 := n1_; have HB := n2_; clear n0_ n1_ n2_; (try clear hb); (try clear hb2); (try clear hk); (try clear hi)))
                                repeat (go_quiet (first | (go_at_call 29; (with_reducible refine (impl_IsThreadPath.calls kj66 t411 t412 _ _ t413 false _ ?side1 ?side2 A80.out).mono ?_); (case side1 => repeat (first | exact (Kd.R_reads' HO_5.out).2.2 | (with_reducible refine Kd.C_alloc ?_ _) | (with_reducible refine Kd.C_drewN ?_ _) | (with_reducible refine Kd.C_drew ?_))); (case side2 => exact (Kd.R_reads' HO_5.out).2.1); rintro e w85 ⟨rfl, hb⟩; have n0_ := Aside0.mk (Kd.R_below (by (with_reducible repeat (first | apply Kd.R_alloc | apply Kd.R_drewN | apply Kd.R_drew)); exact HO_5.out) hb); have n1_ := Aside0.mk (Kd.R_below (by (with_reducible repeat (first | apply Kd.R_alloc | apply Kd.R_drewN | apply Kd.R_drew)); exact HO_20.out) hb); have n2_ := Aside0.mk (below_step (by repeat (first | (with_reducible first | exact HB.out | apply below_alloc | apply pw_below_drewN | apply below_drew1) | exact HB.out)) hb); clear HO_5; clear HO_20; clear HB; have HO_5 := n0_; have HO_20 := n1_; have HB := n2_; clear n0_ n1_ n2_; (try clear hb); (try clear hb2); (try clear hk); (try clear hi))); try go_wp2_with (first | (go_at_call 29; (with_reducible refine (impl_IsThreadPath.calls kj66 t411 t412 _ _ t413 false _ ?side1 ?side2 A80.out).mono ?_); (case side1 => repeat (first | exact (Kd.R_reads' HO_5.out).2.2 | (with_reducible refine Kd.C_alloc ?_ _) | (with_reducible refine Kd.C_drewN ?_ _) | (with_reducible refine Kd.C_drew ?_))); (case side2 => exact (Kd.R_reads' HO_5.out).2.1); rintro e w85 ⟨rfl, hb⟩; have n0_ := Aside0.mk (Kd.R_below (by (with_reducible repeat (first | apply Kd.R_alloc | apply Kd.R_drewN | apply Kd.R_drew)); exact HO_5.out) hb); have n1_ := Aside0.mk (Kd.R_below (by (with_reducible repeat (first | apply Kd.R_alloc | apply Kd.R_drewN | apply Kd.R_drew)); exact HO_20.out) hb); have n2_ := Aside0.mk (below_step (by repeat (first | (with_reducible first | exact HB.out | apply below_alloc | apply pw_below_drewN | apply below_drew1) | exact HB.out)) hb); clear HO_5; clear HO_20; clear HB; have HO_5 := n0_; have HO_20 := n1_; have HB := n2_; clear n0_ n1_ n2_; (try clear hb); (try clear hb2); (try clear hk); (try clear hi))))
                                go_ret
                                exact ⟨by first | rfl | (simp [errW_none, errW_some] <;> rfl) | (simp only [← hji74]; first | rfl | (simp [errW_none, errW_some] <;> rfl)) | (simp [*, errW_none, errW_some] <;> rfl), by repeat (first | (with_reducible first | exact HB.out | apply below_alloc | apply pw_below_drewN | apply below_drew1) | exact HB.out)⟩
                            · rw [if_neg c79] at H
                              have c79b0 : (t414 == 0) = false := beq_eq_false_iff_ne.mpr c79
                              have c79b1 : (t414 != 0) = true := bne_iff_ne.mpr c79
                              obtain rfl := Option.some.inj H
                              have p452 : 0 ≤ ((ji74) : Int) := of_decide_eq_true (by first | (with_reducible assumption) | assumption)
                              have q452 : (ji74) < (t438.length : Int) := of_decide_eq_true (by first | (with_reducible assumption) | assumption)
                              obtain ⟨ad452, e452, hx452_0⟩ := Kd.at_int (Kd.R_reads' HO_20.out).2.2 (ji74) p452 q452
                              cases e452
                              replace p452 := eq_true p452
                              replace q452 := eq_true q452
                              have p453 : 0 ≤ (0 : Int) := (by omega)
                              have q453 : 0 < (t438.length : Int) := of_decide_eq_true (by first | (with_reducible assumption) | assumption)
                              obtain ⟨ad453, e453, hx453_0⟩ := Kd.at_int (Kd.R_reads' HO_20.out).2.2 0 p453 q453
                              obtain rfl : ad452 = ad453 := (by injection e453)
                              have qi453 : (0 < t438.length) = True := eq_true (by omega)
                              (try rw [show ((0 : Int)).toNat = 0 from rfl] at hx453_0)
                              (try rw [Addr.add_zero'] at hx453_0)
                              replace p453 := eq_true p453
                              replace q453 := eq_true q453
                              go_wp2
                              repeat (go_quiet (fail); try go_wp2)
                              go_ret
                              exact ⟨by first | rfl | (simp [errW_none, errW_some] <;> rfl) | (simp only [← hji74]; first | rfl | (simp [errW_none, errW_some] <;> rfl)) | (simp [*, errW_none, errW_some] <;> rfl), by repeat (first | (with_reducible first | exact HB.out | apply below_alloc | apply pw_below_drewN | apply below_drew1) | exact HB.out)⟩
                          · rw [if_neg c78] at H
                            have c78b0 : (t443 == (wrap64 ((wrap64 (t439 * (wrap64 ((rd t438 (ji74)) - (rd t438 0))))) + (wrap64 ((wrap64 (t439 - 1)) * t440))))) = false := beq_eq_false_iff_ne.mpr c78
                            have c78b1 : (t443 != (wrap64 ((wrap64 (t439 * (wrap64 ((rd t438 (ji74)) - (rd t438 0))))) + (wrap64 ((wrap64 (t439 - 1)) * t440))))) = true := bne_iff_ne.mpr c78
                            obtain rfl := Option.some.inj H
                            have p452 : 0 ≤ ((ji74) : Int) := of_decide_eq_true (by first | (with_reducible assumption) | assumption)
                            have q452 : (ji74) < (t438.length : Int) := of_decide_eq_true (by first | (with_reducible assumption) | assumption)
                            obtain ⟨ad452, e452, hx452_0⟩ := Kd.at_int (Kd.R_reads' HO_20.out).2.2 (ji74) p452 q452
                            cases e452
                            replace p452 := eq_true p452
                            replace q452 := eq_true q452
                            have p453 : 0 ≤ (0 : Int) := (by omega)
                            have q453 : 0 < (t438.length : Int) := of_decide_eq_true (by first | (with_reducible assumption) | assumption)
                            obtain ⟨ad453, e453, hx453_0⟩ := Kd.at_int (Kd.R_reads' HO_20.out).2.2 0 p453 q453
                            obtain rfl : ad452 = ad453 := (by injection e453)
                            have qi453 : (0 < t438.length) = True := eq_true (by omega)
                            (try rw [show ((0 : Int)).toNat = 0 from rfl] at hx453_0)
                            (try rw [Addr.add_zero'] at hx453_0)
                            replace p453 := eq_true p453
                            replace q453 := eq_true q453
                            go_wp2
                            repeat (go_quiet (fail); try go_wp2)
                            go_ret
                            exact ⟨by first | rfl | (simp [errW_none, errW_some] <;> rfl) | (simp only [← hji74]; first | rfl | (simp [errW_none, errW_some] <;> rfl)) | (simp [*, errW_none, errW_some] <;> rfl), by repeat (first | (with_reducible first | exact HB.out | apply below_alloc | apply pw_below_drewN | apply below_drew1) | exact HB.out)⟩
                        · rw [if_neg c77] at H
                          exact absurd H (by simp)
                      · rw [if_neg c76] at H
                        exact absurd H (by simp)
                    · rw [if_neg c75] at H
                      exact absurd H (by simp)
                  · rw [if_neg c73] at H
                    have c73b0 : (t444 == 0) = false := beq_eq_false_iff_ne.mpr c73
                    have c73b1 : (t444 != 0) = true := bne_iff_ne.mpr c73
                    by_cases c86 : t414 = 0
                    · rw [if_pos c86] at H
                      have c86b0 : (t414 == 0) = true := beq_iff_eq.mpr c86
                      have c86b1 : (t414 != 0) = false := bne_eq_false_iff_eq.mpr c86
                      clear c86
                      replace H := Option.bind_eq_some_iff.mp H
                      obtain ⟨t455, A870, H⟩ := H
                      replace H : (if t455 = true then (some ((t413.length : Int) == (wrap64 (t411 * t412)))) else (some false)) = some r := H
                      have A87 := Aside0.mk A870
                      clear A870
                      by_cases c88 : t455 = true
                      · subst c88
                        have H1 : (some ((t413.length : Int) == (wrap64 (t411 * t412)))) = some r := by rw [if_pos rfl] at H; exact H
                        clear H
                        have H := H1
                        clear H1
                        obtain rfl := Option.some.inj H
                        obtain ⟨Ao89, co89, eo89⟩ := Kd.R_slice HO_5.out
                        subst eo89
                        go_wp2_with (first | (go_at_call 29; (with_reducible refine (impl_IsThreadPath.calls kj66 t411 t412 _ _ t413 true _ ?side1 ?side2 A87.out).mono ?_); (case side1 => repeat (first | exact (Kd.R_reads' HO_5.out).2.2 | (with_reducible refine Kd.C_alloc ?_ _) | (with_reducible refine Kd.C_drewN ?_ _) | (with_reducible refine Kd.C_drew ?_))); (case side2 => exact (Kd.R_reads' HO_5.out).2.1); rintro e w90 ⟨rfl, hb⟩; have n0_ := Aside0.mk (Kd.R_below (by (with_reducible repeat (first | apply Kd.R_alloc | apply Kd.R_drewN | apply Kd.R_drew)); exact HO_5.out) hb); have n1_ := Aside0.mk (Kd.R_below (by (with_reducible repeat (first | apply Kd.R_alloc | apply Kd.R_drewN | apply Kd.R_drew)); exact HO_20.out) hb); have n2_ := Aside0.mk (below_step (by repeat (first | (with_reducible first | exact HB.out | apply below_alloc | apply pw_below_drewN | apply below_drew1) | exact HB.out)) hb); clear HO_5; clear HO_20; clear HB; have HO_5 := n0_; have HO_20 := n1_; have HB := n2_; clear n0_ n1_ n2_; (try clear hb); (try clear hb2); (try clear hk); (try clear hi)))
                        repeat (go_quiet (first | (go_at_call 29; (with_reducible refine (impl_IsThreadPath.calls kj66 t411 t412 _ _ t413 true _ ?side1 ?side2 A87.out).mono ?_); (case side1 => repeat (first | exact (Kd.R_reads' HO_5.out).2.2 | (with_reducible refine Kd.C_alloc ?_ _) | (with_reducible refine Kd.C_drewN ?_ _) | (with_reducible refine Kd.C_drew ?_))); (case side2 => exact (Kd.R_reads' HO_5.out).2.1); rintro e w90 ⟨rfl, hb⟩; have n0_ := Aside0.mk (Kd.R_below (by (with_reducible repeat (first | apply Kd.R_alloc | apply Kd.R_drewN | apply Kd.R_drew)); exact HO_5.out) hb); have n1_ := Aside0.mk (Kd.R_below (by (with_reducible repeat (first | apply Kd.R_alloc | apply Kd.R_drewN | apply Kd.R_drew)); exact HO_20.out) hb); have n2_ := Aside0.mk (below_step (by repeat (first | (with_reducible first | exact HB.out | apply below_alloc | apply pw_below_drewN | apply below_drew1) | exact HB.out)) hb); clear HO_5; clear HO_20; clear HB; have HO_5 := n0_; have HO_20 := n1_; have HB := n2_; clear n0_ n1_ n2_; (try clear hb); (try clear hb2); (try clear hk); (try clear hi))); try go_wp2_with (first | (go_at_call 29; (with_reducible refine (impl_IsThreadPath.calls kj66 t411 t412 _ _ t413 true _ ?side1 ?side2 A87.out).mono ?_); (case side1 => repeat (first | exact (Kd.R_reads' HO_5.out).2.2 | (with_reducible refine Kd.C_alloc ?_ _) | (with_reducible refine Kd.C_drewN ?_ _) | (with_reducible refine Kd.C_drew ?_))); (case side2 => exact (Kd.R_reads' HO_5.out).2.1); rintro e w90 ⟨rfl, hb⟩; have n0_ := Aside0.mk (Kd.R_below (by (with_reducible repeat (first | apply Kd.R_alloc | apply Kd.R_drewN | apply Kd.R_drew)); exact HO_5.out) hb); have n1_ := Aside0.mk (Kd.R_below (by (with_reducible repeat (first | apply Kd.R_alloc | apply Kd.R_drewN | apply Kd.R_drew)); exact HO_20.out) hb); have n2_ := Aside0.mk (below_step (by repeat (first | (with_reducible first | exact HB.out | apply below_alloc | apply pw_below_drewN | apply below_drew1) | exact HB.out)) hb); clear HO_5; clear HO_20; clear HB; have HO_5 := n0_; have HO_20 := n1_; have HB := n2_; clear n0_ n1_ n2_; (try clear hb); (try clear hb2); (try clear hk); (try clear hi))))
                        go_ret
                        exact ⟨by first | rfl | (simp [errW_none, errW_some] <;> rfl) | (simp [*, errW_none, errW_some] <;> rfl), by repeat (first | (with_reducible first | exact HB.out | apply below_alloc | apply pw_below_drewN | apply below_drew1) | exact HB.out)⟩
                      · replace c88 := Bool.eq_false_iff.mpr c88
                        subst c88
                        have H1 : (some false) = some r := by rw [if_neg (show ¬ (false = true) by decide)] at H; exact H
                        clear H
                        have H := H1
                        clear H1
                        obtain rfl := Option.some.inj H
                        obtain ⟨Ao91, co91, eo91⟩ := Kd.R_slice HO_5.out
                        subst eo91
                        go_wp2_with (first | (go_at_call 29; (with_reducible refine (impl_IsThreadPath.calls kj66 t411 t412 _ _ t413 false _ ?side1 ?side2 A87.out).mono ?_); (case side1 => repeat (first | exact (Kd.R_reads' HO_5.out).2.2 | (with_reducible refine Kd.C_alloc ?_ _) | (with_reducible refine Kd.C_drewN ?_ _) | (with_reducible refine Kd.C_drew ?_))); (case side2 => exact (Kd.R_reads' HO_5.out).2.1); rintro e w92 ⟨rfl, hb⟩; have n0_ := Aside0.mk (Kd.R_below (by (with_reducible repeat (first | apply Kd.R_alloc | apply Kd.R_drewN | apply Kd.R_drew)); exact HO_5.out) hb); have n1_ := Aside0.mk (Kd.R_below (by (with_reducible repeat (first | apply Kd.R_alloc | apply Kd.R_drewN | apply Kd.R_drew)); exact HO_20.out) hb); have n2_ := Aside0.mk (below_step (by repeat (first | (with_reducible first | exact HB.out | apply below_alloc | apply pw_below_drewN | apply below_drew1) | exact HB.out)) hb); clear HO_5; clear HO_20; clear HB; have HO_5 := n0_; have HO_20 := n1_; have HB := n2_; clear n0_ n1_ n2_; (try clear hb); (try clear hb2); (try clear hk); (try clear hi)))
                        repeat (go_quiet (first | (go_at_call 29; (with_reducible refine (impl_IsThreadPath.calls kj66 t411 t412 _ _ t413 false _ ?side1 ?side2 A87.out).mono ?_); (case side1 => repeat (first | exact (Kd.R_reads' HO_5.out).2.2 | (with_reducible refine Kd.C_alloc ?_ _) | (with_reducible refine Kd.C_drewN ?_ _) | (with_reducible refine Kd.C_drew ?_))); (case side2 => exact (Kd.R_reads' HO_5.out).2.1); rintro e w92 ⟨rfl, hb⟩; have n0_ := Aside0.mk (Kd.R_below (by (with_reducible repeat (first | apply Kd.R_alloc | apply Kd.R_drewN | apply Kd.R_drew)); exact HO_5.out) hb); have n1_ := Aside0.mk (Kd.R_below (by (with_reducible repeat (first | apply Kd.R_alloc | apply Kd.R_drewN | apply Kd.R_drew)); exact HO_20.out) hb); have n2_ := Aside0.mk (below_step (by repeat (first | (with_reducible first | exact HB.out | apply below_alloc | apply pw_below_drewN | apply below_drew1) | exact HB.out)) hb); clear HO_5; clear HO_20; clear HB; have HO_5 := n0_; have HO_20 := n1_; have HB := n2_; clear n0_ n1_ n2_; (try clear hb); (try clear hb2); (try clear hk); (try clear hi))); try go_wp2_with (first | (go_at_call 29; (with_reducible refine (impl_IsThreadPath.calls kj66 t411 t412 _ _ t413 false _ ?side1 ?side2 A87.out).mono ?_); (case side1 => repeat (first | exact (Kd.R_reads' HO_5.out).2.2 | (with_reducible refine Kd.C_alloc ?_ _) | (with_reducible refine Kd.C_drewN ?_ _) | (with_reducible refine Kd.C_drew ?_))); (case side2 => exact (Kd.R_reads' HO_5.out).2.1); rintro e w92 ⟨rfl, hb⟩; have n0_ := Aside0.mk (Kd.R_below (by (with_reducible repeat (first | apply Kd.R_alloc | apply Kd.R_drewN | apply Kd.R_drew)); exact HO_5.out) hb); have n1_ := Aside0.mk (Kd.R_below (by (with_reducible repeat (first | apply Kd.R_alloc | apply Kd.R_drewN | apply Kd.R_drew)); exact HO_20.out) hb); have n2_ := Aside0.mk (below_step (by repeat (first | (with_reducible first | exact HB.out | apply below_alloc | apply pw_below_drewN | apply below_drew1) | exact HB.out)) hb); clear HO_5; clear HO_20; clear HB; have HO_5 := n0_; have HO_20 := n1_; have HB := n2_; clear n0_ n1_ n2_; (try clear hb); (try clear hb2); (try clear hk); (try clear hi))))
                        go_ret
                        exact ⟨by first | rfl | (simp [errW_none, errW_some] <;> rfl) | (simp [*, errW_none, errW_some] <;> rfl), by repeat (first | (with_reducible first | exact HB.out | apply below_alloc | apply pw_below_drewN | apply below_drew1) | exact HB.out)⟩
                    · rw [if_neg c86] at H
                      have c86b0 : (t414 == 0) = false := beq_eq_false_iff_ne.mpr c86
                      have c86b1 : (t414 != 0) = true := bne_iff_ne.mpr c86
                      obtain rfl := Option.some.inj H
                      go_wp2
                      repeat (go_quiet (fail); try go_wp2)
                      go_ret
                      exact ⟨by first | rfl | (simp [errW_none, errW_some] <;> rfl) | (simp [*, errW_none, errW_some] <;> rfl), by repeat (first | (with_reducible first | exact HB.out | apply below_alloc | apply pw_below_drewN | apply below_drew1) | exact HB.out)⟩
          · rw [if_neg c65] at H
            have c65b0 : (t435 == 0) = false := beq_eq_false_iff_ne.mpr c65
            have c65b1 : (t435 != 0) = true := bne_iff_ne.mpr c65
            by_cases c93 : t444 = 0
            · rw [if_pos c93] at H
              have c93b0 : (t444 == 0) = true := beq_iff_eq.mpr c93
              have c93b1 : (t444 != 0) = false := bne_eq_false_iff_eq.mpr c93
              clear c93
              obtain ⟨ji94, hji94⟩ : ∃ j_ : Int, (wrap64 ((t438.length : Int) - 1)) = j_ := ⟨_, rfl⟩
              replace H : (if 0 ≤ (ji94) then (if (ji94) < (t438.length : Int) then (if 0 < (t438.length : Int) then (if t443 = (wrap64 ((wrap64 (t439 * (wrap64 ((rd t438 (ji94)) - (rd t438 0))))) + (wrap64 ((wrap64 (t439 - 1)) * t440)))) then (if t414 = 0 then ((impl_IsThreadPath.f kj13 t411 t412 t413).bind fun t458 => (if t458 = true then (some ((t413.length : Int) == (wrap64 (t411 * t412)))) else (some false))) else (some true)) else (some false)) else (none)) else (none)) else (none)) = some r := by first | (rw [hji94] at H; exact H) | (simp only [hji94] at H ⊢; exact H)
              have hji94w : (IntKind.i64.wrap ((t438.length : Int) - 1)) = ji94 := (i64_w _).trans hji94
              by_cases c95 : 0 ≤ (ji94)
              · rw [if_pos c95] at H
                have c95b0 : decide (0 ≤ (ji94)) = true := decide_eq_true c95
                clear c95
                by_cases c96 : (ji94) < (t438.length : Int)
                · rw [if_pos c96] at H
                  have c96b0 : decide ((ji94) < (t438.length : Int)) = true := decide_eq_true c96
                  clear c96
                  by_cases c97 : 0 < (t438.length : Int)
                  · rw [if_pos c97] at H
                    have c97b0 : decide (0 < (t438.length : Int)) = true := decide_eq_true c97
                    have c97b1 : decide (0 < t438.length) = true := decide_eq_true (by omega)
                    clear c97
                    by_cases c98 : t443 = (wrap64 ((wrap64 (t439 * (wrap64 ((rd t438 (ji94)) - (rd t438 0))))) + (wrap64 ((wrap64 (t439 - 1)) * t440))))
                    · rw [if_pos c98] at H
                      have c98b0 : (t443 == (wrap64 ((wrap64 (t439 * (wrap64 ((rd t438 (ji94)) - (rd t438 0))))) + (wrap64 ((wrap64 (t439 - 1)) * t440))))) = true := beq_iff_eq.mpr c98
                      have c98b1 : (t443 != (wrap64 ((wrap64 (t439 * (wrap64 ((rd t438 (ji94)) - (rd t438 0))))) + (wrap64 ((wrap64 (t439 - 1)) * t440))))) = false := bne_eq_false_iff_eq.mpr c98
                      clear c98
                      by_cases c99 : t414 = 0
                      · rw [if_pos c99] at H
                        have c99b0 : (t414 == 0) = true := beq_iff_eq.mpr c99
                        have c99b1 : (t414 != 0) = false := bne_eq_false_iff_eq.mpr c99
                        clear c99
                        replace H := Option.bind_eq_some_iff.mp H
                        obtain ⟨t458, A1000, H⟩ := H
                        replace H : (if t458 = true then (some ((t413.length : Int) == (wrap64 (t411 * t412)))) else (some false)) = some r := H
                        have A100 := Aside0.mk A1000
                        clear A1000
                        by_cases c101 : t458 = true
                        · subst c101
                          have H1 : (some ((t413.length : Int) == (wrap64 (t411 * t412)))) = some r := by rw [if_pos rfl] at H; exact H
                          clear H
                          have H := H1
                          clear H1
                          obtain rfl := Option.some.inj H
                          have p456 : 0 ≤ ((ji94) : Int) := of_decide_eq_true (by first | (with_reducible assumption) | assumption)
                          have q456 : (ji94) < (t438.length : Int) := of_decide_eq_true (by first | (with_reducible assumption) | assumption)
                          obtain ⟨ad456, e456, hx456_0⟩ := Kd.at_int (Kd.R_reads' HO_20.out).2.2 (ji94) p456 q456
                          cases e456
                          replace p456 := eq_true p456
                          replace q456 := eq_true q456
                          have p457 : 0 ≤ (0 : Int) := (by omega)
                          have q457 : 0 < (t438.length : Int) := of_decide_eq_true (by first | (with_reducible assumption) | assumption)
                          obtain ⟨ad457, e457, hx457_0⟩ := Kd.at_int (Kd.R_reads' HO_20.out).2.2 0 p457 q457
                          obtain rfl : ad456 = ad457 := (by injection e457)
                          have qi457 : (0 < t438.length) = True := eq_true (by omega)
                          (try rw [show ((0 : Int)).toNat = 0 from rfl] at hx457_0)
                          (try rw [Addr.add_zero'] at hx457_0)
                          replace p457 := eq_true p457
                          replace q457 := eq_true q457
                          obtain ⟨Ao102, co102, eo102⟩ := Kd.R_slice HO_5.out
                          subst eo102
                          go_wp2_with (first | (go_at_call 29; (with_reducible refine (impl_IsThreadPath.calls kj13 t411 t412 _ _ t413 true _ ?side1 ?side2 A100.out).mono ?_); (case side1 => repeat (first | exact (Kd.R_reads' HO_5.out).2.2 | (with_reducible refine Kd.C_alloc ?_ _) | (with_reducible refine Kd.C_drewN ?_ _) | (with_reducible refine Kd.C_drew ?_))); (case side2 => exact (Kd.R_reads' HO_5.out).2.1); rintro e w103 ⟨rfl, hb⟩; have n0_ := Aside0.mk (Kd.R_below (by (with_reducible repeat (first | apply Kd.R_alloc | apply Kd.R_drewN | apply Kd.R_drew)); exact HO_5.out) hb); have n1_ := Aside0.mk (Kd.R_below (by (with_reducible repeat (first | apply Kd.R_alloc | apply Kd.R_drewN | apply Kd.R_drew)); exact HO_12.out) hb); have n2_ := Aside0.mk (Kd.R_below (by (with_reducible repeat (first | apply Kd.R_alloc | apply Kd.R_drewN | apply Kd.R_drew)); exact HO_20.out) hb); have n3_ := Aside0.mk (below_step (by repeat (first | (with_reducible first | exact HB.out | apply below_alloc | apply pw_below_drewN | apply below_drew1) | exact HB.out)) hb); clear HO_5; clear HO_12; clear HO_20; clear HB; have HO_5 := n0_; have HO_12 := n1_; have HO_20 := n2_; have HB := n3_; clear n0_ n1_ n2_ n3_; (try clear hb); (try clear hb2); (try clear hk); (try clear hi)))
                          repeat (go_quiet (first | (go_at_call 29; (with_reducible refine (impl_IsThreadPath.calls kj13 t411 t412 _ _ t413 true _ ?side1 ?side2 A100.out).mono ?_); (case side1 => repeat (first | exact (Kd.R_reads' HO_5.out).2.2 | (with_reducible refine Kd.C_alloc ?_ _) | (with_reducible refine Kd.C_drewN ?_ _) | (with_reducible refine Kd.C_drew ?_))); (case side2 => exact (Kd.R_reads' HO_5.out).2.1); rintro e w103 ⟨rfl, hb⟩; have n0_ := Aside0.mk (Kd.R_below (by (with_reducible repeat (first | apply Kd.R_alloc | apply Kd.R_drewN | apply Kd.R_drew)); exact HO_5.out) hb); have n1_ := Aside0.mk (Kd.R_below (by (with_reducible repeat (first | apply Kd.R_alloc | apply Kd.R_drewN | apply Kd.R_drew)); exact HO_12.out) hb); have n2_ := Aside0.mk (Kd.R_below (by (with_reducible repeat (first | apply Kd.R_alloc | apply Kd.R_drewN | apply Kd.R_drew)); exact HO_20.out) hb); have n3_ := Aside0.mk (below_step (by repeat (first | (with_reducible first | exact HB.out | apply below_alloc | apply pw_below_drewN | apply below_drew1) | exact HB.out)) hb); clear HO_5; clear HO_12; clear HO_20; clear HB; have HO_5 := n0_; have HO_12 := n1_; have HO_20 := n2_; have HB := n3_; clear n0_ n1_ n2_ n3_; (try clear hb); (try clear hb2); (try clear hk); (try clear hi))); try go_wp2_with (first | (go_at_call 29; (with_reducible refine (impl_IsThreadPath.calls kj13 t411 t412 _ _ t413 true _ ?side1 ?side2 A100.out).mono ?_); (case side1 => repeat (first | exact (Kd.R_reads' HO_5.out).2.2 | (with_reducible refine Kd.C_alloc ?_ _) | (with_reducible refine Kd.C_drewN ?_ _) | (with_reducible refine Kd.C_drew ?_))); (case side2 => exact (Kd.R_reads' HO_5.out).2.1); rintro e w103 ⟨rfl, hb⟩; have n0_ := Aside0.mk (Kd.R_below (by (with_reducible repeat (first | apply Kd.R_alloc | apply Kd.R_drewN | apply Kd.R_drew)); exact HO_5.out) hb); have n1_ := Aside0.mk (Kd.R_below (by (with_reducible repeat (first | apply Kd.R_alloc | apply Kd.R_drewN | apply Kd.R_drew)); exact HO_12.out) hb); have n2_ := Aside0.mk (Kd.R_below (by (with_reducible repeat (first | apply Kd.R_alloc | apply Kd.R_drewN | apply Kd.R_drew)); exact HO_20.out) hb); have n3_ := Aside0.mk (below_step (by repeat (first | (with_reducible first | exact HB.out | apply below_alloc | apply pw_below_drewN | apply below_drew1) | exact HB.out)) hb); clear HO_5; clear HO_12; clear HO_20; clear HB; have HO_5 := n0_; have HO_12 := n1_; have HO_20 := n2_; have HB := n3_; clear n0_ n1_ n2_ n3_; (try clear hb); (try clear hb2); (try clear hk); (try clear hi))))
                          go_ret
                          exact ⟨by first | rfl | (simp [errW_none, errW_some] <;> rfl) | (simp only [← hji94]; first | rfl | (simp [errW_none, errW_some] <;> rfl)) | (simp [*, errW_none, errW_some] <;> rfl), by repeat (first | (with_reducible first | exact HB.out | apply below_alloc | apply pw_below_drewN | apply below_drew1) | exact HB.out)⟩
                        · replace c101 := Bool.eq_false_iff.mpr c101
                          subst c101
                          have H1 : (some false) = some r := by rw [if_neg (show ¬ (false = true) by decide)] at H; exact H
                          clear H
                          have H := H1
                          clear H1
                          obtain rfl := Option.some.inj H
                          have p456 : 0 ≤ ((ji94) : Int) := of_decide_eq_true (by first | (with_reducible assumption) | assumption)
                          have q456 : (ji94) < (t438.length : Int) := of_decide_eq_true (by first | (with_reducible assumption) | assumption)
                          obtain ⟨ad456, e456, hx456_0⟩ := Kd.at_int (Kd.R_reads' HO_20.out).2.2 (ji94) p456 q456
                          cases e456
                          replace p456 := eq_true p456
                          replace q456 := eq_true q456
                          have p457 : 0 ≤ (0 : Int) := (by omega)
                          have q457 : 0 < (t438.length : Int) := of_decide_eq_true (by first | (with_reducible assumption) | assumption)
                          obtain ⟨ad457, e457, hx457_0⟩ := Kd.at_int (Kd.R_reads' HO_20.out).2.2 0 p457 q457
                          obtain rfl : ad456 = ad457 := (by injection e457)
                          have qi457 : (0 < t438.length) = True := eq_true (by omega)
                          (try rw [show ((0 : Int)).toNat = 0 from rfl] at hx457_0)
                          (try rw [Addr.add_zero'] at hx457_0)
                          replace p457 := eq_true p457
                          replace q457 := eq_true q457
                          obtain ⟨Ao104, co104, eo104⟩ := Kd.R_slice HO_5.out
                          subst eo104
                          go_wp2_with (first | (go_at_call 29; (with_reducible refine (impl_IsThreadPath.calls kj13 t411 t412 _ _ t413 false _ ?side1 ?side2 A100.out).mono ?_); (case side1 => repeat (first | exact (Kd.R_reads' HO_5.out).2.2 | (with_reducible refine Kd.C_alloc ?_ _) | (with_reducible refine Kd.C_drewN ?_ _) | (with_reducible refine Kd.C_drew ?_))); (case side2 => exact (Kd.R_reads' HO_5.out).2.1); rintro e w105 ⟨rfl, hb⟩; have n0_ := Aside0.mk (Kd.R_below (by (with_reducible repeat (first | apply Kd.R_alloc | apply Kd.R_drewN | apply Kd.R_drew)); exact HO_5.out) hb); have n1_ := Aside0.mk (Kd.R_below (by (with_reducible repeat (first | apply Kd.R_alloc | apply Kd.R_drewN | apply Kd.R_drew)); exact HO_12.out) hb); have n2_ := Aside0.mk (Kd.R_below (by (with_reducible repeat (first | apply Kd.R_alloc | apply Kd.R_drewN | apply Kd.R_drew)); exact HO_20.out) hb); have n3_ := Aside0.mk (below_step (by repeat (first | (with_reducible first | exact HB.out | apply below_alloc | apply pw_below_drewN | apply below_drew1) | exact HB.out)) hb); clear HO_5; clear HO_12; clear HO_20; clear HB; have HO_5 := n0_; have HO_12 := n1_; have HO_20 := n2_; have HB := n3_; clear n0_ n1_ n2_ n3_; (try clear hb); (try clear hb2); (try clear hk); (try clear hi)))
                          repeat (go_quiet (first | (go_at_call 29; (with_reducible refine (impl_IsThreadPath.calls kj13 t411 t412 _ _ t413 false _ ?side1 ?side2 A100.out).mono ?_); (case side1 => repeat (first | exact (Kd.R_reads' HO_5.out).2.2 | (with_reducible refine Kd.C_alloc ?_ _) | (with_reducible refine Kd.C_drewN ?_ _) | (with_reducible refine Kd.C_drew ?_))); (case side2 => exact (Kd.R_reads' HO_5.out).2.1); rintro e w105 ⟨rfl, hb⟩; have n0_ := Aside0.mk (Kd.R_below (by (with_reducible repeat (first | apply Kd.R_alloc | apply Kd.R_drewN | apply Kd.R_drew)); exact HO_5.out) hb); have n1_ := Aside0.mk (Kd.R_below (by (with_reducible repeat (first | apply Kd.R_alloc | apply Kd.R_drewN | apply Kd.R_drew)); exact HO_12.out) hb); have n2_ := Aside0.mk (Kd.R_below (by (with_reducible repeat (first | apply Kd.R_alloc | apply Kd.R_drewN | apply Kd.R_drew)); exact HO_20.out) hb); have n3_ := Aside0.mk (below_step (by repeat (first | (with_reducible first | exact HB.out | apply below_alloc | apply pw_below_drewN | apply below_drew1) | exact HB.out)) hb); clear HO_5; clear HO_12; clear HO_20; clear HB; have HO_5 := n0_; have HO_12 := n1_; have HO_20 := n2_; have HB := n3_; clear n0_ n1_ n2_ n3_; (try clear hb); (try clear hb2); (try clear hk); (try clear hi))); try go_wp2_with (first | (go_at_call 29; (with_reducible refine (impl_IsThreadPath.calls kj13 t411 t412 _ _ t413 false _ ?side1 ?side2 A100.out).mono ?_); (case side1 => repeat (first | exact (Kd.R_reads' HO_5.out).2.2 | (with_reducible refine Kd.C_alloc ?_ _) | (with_reducible refine Kd.C_drewN ?_ _) | (with_reducible refine Kd.C_drew ?_))); (case side2 => exact (Kd.R_reads' HO_5.out).2.1); rintro e w105 ⟨rfl, hb⟩; have n0_ := Aside0.mk (Kd.R_below (by (with_reducible repeat (first | apply Kd.R_alloc | apply Kd.R_drewN | apply Kd.R_drew)); exact HO_5.out) hb); have n1_ := Aside0.mk (Kd.R_below (by (with_reducible repeat (first | apply Kd.R_alloc | apply Kd.R_drewN | apply Kd.R_drew)); exact HO_12.out) hb); have n2_ := Aside0.mk (Kd.R_below (by (with_reducible repeat (first | apply Kd.R_alloc | apply Kd.R_drewN | apply Kd.R_drew)); exact HO_20.out) hb); have n3_ := Aside0.mk (below_step (by repeat (first | (with_reducible first | exact HB.out | apply below_alloc | apply pw_below_drewN | apply below_drew1) | exact HB.out)) hb); clear HO_5; clear HO_12; clear HO_20; clear HB; have HO_5 := n0_; have HO_12 := n1_; have HO_20 := n2_; have HB := n3_; clear n0_ n1_ n2_ n3_; (try clear hb); (try clear hb2); (try clear hk); (try clear hi))))
                          go_ret
                          exact ⟨by first | rfl | (simp [errW_none, errW_some] <;> rfl) | (simp only [← hji94]; first | rfl | (simp [errW_none, errW_some] <;> rfl)) | (simp [*, errW_none, errW_some] <;> rfl), by repeat (first | (with_reducible first | exact HB.out | apply below_alloc | apply pw_below_drewN | apply below_drew1) | exact HB.out)⟩
                      · rw [if_neg c99] at H
                        have c99b0 : (t414 == 0) = false := beq_eq_false_iff_ne.mpr c99
                        have c99b1 : (t414 != 0) = true := bne_iff_ne.mpr c99
                        obtain rfl := Option.some.inj H
                        have p456 : 0 ≤ ((ji94) : Int) := of_decide_eq_true (by first | (with_reducible assumption) | assumption)
                        have q456 : (ji94) < (t438.length : Int) := of_decide_eq_true (by first | (with_reducible assumption) | assumption)
                        obtain ⟨ad456, e456, hx456_0⟩ := Kd.at_int (Kd.R_reads' HO_20.out).2.2 (ji94) p456 q456
                        cases e456
                        replace p456 := eq_true p456
                        replace q456 := eq_true q456
                        have p457 : 0 ≤ (0 : Int) := (by omega)
                        have q457 : 0 < (t438.length : Int) := of_decide_eq_true (by first | (with_reducible assumption) | assumption)
                        obtain ⟨ad457, e457, hx457_0⟩ := Kd.at_int (Kd.R_reads' HO_20.out).2.2 0 p457 q457
                        obtain rfl : ad456 = ad457 := (by injection e457)
                        have qi457 : (0 < t438.length) = True := eq_true (by omega)
                        (try rw [show ((0 : Int)).toNat = 0 from rfl] at hx457_0)
                        (try rw [Addr.add_zero'] at hx457_0)
                        replace p457 := eq_true p457
                        replace q457 := eq_true q457
                        go_wp2
                        repeat (go_quiet (fail); try go_wp2)
                        go_ret
                        exact ⟨by first | rfl | (simp [errW_none, errW_some] <;> rfl) | (simp only [← hji94]; first | rfl | (simp [errW_none, errW_some] <;> rfl)) | (simp [*, errW_none, errW_some] <;> rfl), by repeat (first | (with_reducible first | exact HB.out | apply below_alloc | apply pw_below_drewN | apply below_drew1) | exact HB.out)⟩
                    · rw [if_neg c98] at H
                      have c98b0 : (t443 == (wrap64 ((wrap64 (t439 * (wrap64 ((rd t438 (ji94)) - (rd t438 0))))) + (wrap64 ((wrap64 (t439 - 1)) * t440))))) = false := beq_eq_false_iff_ne.mpr c98
                      have c98b1 : (t443 != (wrap64 ((wrap64 (t439 * (wrap64 ((rd t438 (ji94)) - (rd t438 0))))) + (wrap64 ((wrap64 (t439 - 1)) * t440))))) = true := bne_iff_ne.mpr c98
                      obtain rfl := Option.some.inj H
                      have p456 : 0 ≤ ((ji94) : Int) := of_decide_eq_true (by first | (with_reducible assumption) | assumption)
                      have q456 : (ji94) < (t438.length : Int) := of_decide_eq_true (by first | (with_reducible assumption) | assumption)
                      obtain ⟨ad456, e456, hx456_0⟩ := Kd.at_int (Kd.R_reads' HO_20.out).2.2 (ji94) p456 q456
                      cases e456
                      replace p456 := eq_true p456
                      replace q456 := eq_true q456
                      have p457 : 0 ≤ (0 : Int) := (by omega)
                      have q457 : 0 < (t438.length : Int) := of_decide_eq_true (by first | (with_reducible assumption) | assumption)
                      obtain ⟨ad457, e457, hx457_0⟩ := Kd.at_int (Kd.R_reads' HO_20.out).2.2 0 p457 q457
                      obtain rfl : ad456 = ad457 := (by injection e457)
                      have qi457 : (0 < t438.length) = True := eq_true (by omega)
                      (try rw [show ((0 : Int)).toNat = 0 from rfl] at hx457_0)
                      (try rw [Addr.add_zero'] at hx457_0)
                      replace p457 := eq_true p457
                      replace q457 := eq_true q457
                      go_wp2
                      repeat (go_quiet (fail); try go_wp2)
                      go_ret
                      exact ⟨by first | rfl | (simp [errW_none, errW_some] <;> rfl) | (simp only [← hji94]; first | rfl | (simp [errW_none, errW_some] <;> rfl)) | (simp [*, errW_none, errW_some] <;> rfl), by repeat (first | (with_reducible first | exact HB.out | apply below_alloc | apply pw_below_drewN | apply below_drew1) | exact HB.out)⟩
                  · rw [if_neg c97] at H
                    exact absurd H (by simp)
                · rw [if_neg c96] at H
                  exact absurd H (by simp)
              · rw [if_neg c95] at H
                exact absurd H (by simp)
            · rw [if_neg c93] at H
              have c93b0 : (t444 == 0) = false := beq_eq_false_iff_ne.mpr c93
              have c93b1 : (t444 != 0) = true := bne_iff_ne.mpr c93
              by_cases c106 : t414 = 0
              · rw [if_pos c106] at H
                have c106b0 : (t414 == 0) = true := beq_iff_eq.mpr c106
                have c106b1 : (t414 != 0) = false := bne_eq_false_iff_eq.mpr c106
                clear c106
                replace H := Option.bind_eq_some_iff.mp H
                obtain ⟨t459, A1070, H⟩ := H
                replace H : (if t459 = true then (some ((t413.length : Int) == (wrap64 (t411 * t412)))) else (some false)) = some r := H
                have A107 := Aside0.mk A1070
                clear A1070
                by_cases c108 : t459 = true
                · subst c108
                  have H1 : (some ((t413.length : Int) == (wrap64 (t411 * t412)))) = some r := by rw [if_pos rfl] at H; exact H
                  clear H
                  have H := H1
                  clear H1
                  obtain rfl := Option.some.inj H
                  obtain ⟨Ao109, co109, eo109⟩ := Kd.R_slice HO_5.out
                  subst eo109
                  go_wp2_with (first | (go_at_call 29; (with_reducible refine (impl_IsThreadPath.calls kj13 t411 t412 _ _ t413 true _ ?side1 ?side2 A107.out).mono ?_); (case side1 => repeat (first | exact (Kd.R_reads' HO_5.out).2.2 | (with_reducible refine Kd.C_alloc ?_ _) | (with_reducible refine Kd.C_drewN ?_ _) | (with_reducible refine Kd.C_drew ?_))); (case side2 => exact (Kd.R_reads' HO_5.out).2.1); rintro e w110 ⟨rfl, hb⟩; have n0_ := Aside0.mk (Kd.R_below (by (with_reducible repeat (first | apply Kd.R_alloc | apply Kd.R_drewN | apply Kd.R_drew)); exact HO_5.out) hb); have n1_ := Aside0.mk (Kd.R_below (by (with_reducible repeat (first | apply Kd.R_alloc | apply Kd.R_drewN | apply Kd.R_drew)); exact HO_12.out) hb); have n2_ := Aside0.mk (Kd.R_below (by (with_reducible repeat (first | apply Kd.R_alloc | apply Kd.R_drewN | apply Kd.R_drew)); exact HO_20.out) hb); have n3_ := Aside0.mk (below_step (by repeat (first | (with_reducible first | exact HB.out | apply below_alloc | apply pw_below_drewN | apply below_drew1) | exact HB.out)) hb); clear HO_5; clear HO_12; clear HO_20; clear HB; have HO_5 := n0_; have HO_12 := n1_; have HO_20 := n2_; have HB := n3_; clear n0_ n1_ n2_ n3_; (try clear hb); (try clear hb2); (try clear hk); (try clear hi)))
                  repeat (go_quiet (first | (go_at_call 29; (with_reducible refine (impl_IsThreadPath.calls kj13 t411 t412 _ _ t413 true _ ?side1 ?side2 A107.out).mono ?_); (case side1 => repeat (first | exact (Kd.R_reads' HO_5.out).2.2 | (with_reducible refine Kd.C_alloc ?_ _) | (with_reducible refine Kd.C_drewN ?_ _) | (with_reducible refine Kd.C_drew ?_))); (case side2 => exact (Kd.R_reads' HO_5.out).2.1); rintro e w110 ⟨rfl, hb⟩; have n0_ := Aside0.mk (Kd.R_below (by (with_reducible repeat (first | apply Kd.R_alloc | apply Kd.R_drewN | apply Kd.R_drew)); exact HO_5.out) hb); have n1_ := Aside0.mk (Kd.R_below (by (with_reducible repeat (first | apply Kd.R_alloc | apply Kd.R_drewN | apply Kd.R_drew)); exact HO_12.out) hb); have n2_ := Aside0.mk (Kd.R_below (by (with_reducible repeat (first | apply Kd.R_alloc | apply Kd.R_drewN | apply Kd.R_drew)); exact HO_20.out) hb); have n3_ := Aside0.mk (below_step (by repeat (first | (with_reducible first | exact HB.out | apply below_alloc | apply pw_below_drewN | apply below_drew1) | exact HB.out)) hb); clear HO_5; clear HO_12; clear HO_20; clear HB; have HO_5 := n0_; have HO_12 := n1_; have HO_20 := n2_; have HB := n3_; clear n0_ n1_ n2_ n3_; (try clear hb); (try clear hb2); (try clear hk); (try clear hi))); try go_wp2_with (first | (go_at_call 29; (with_reducible refine (impl_IsThreadPath.calls kj13 t411 t412 _ _ t413 true _ ?side1 ?side2 A107.out).mono ?_); (case side1 => repeat (first | exact (Kd.R_reads' HO_5.out).2.2 | (with_reducible refine Kd.C_alloc ?_ _) | (with_reducible refine Kd.C_drewN ?_ _) | (with_reducible refine Kd.C_drew ?_))); (case side2 => exact (Kd.R_reads' HO_5.out).2.1); rintro e w110 ⟨rfl, hb⟩; have n0_ := Aside0.mk (Kd.R_below (by (with_reducible repeat (first | apply Kd.R_alloc | apply Kd.R_drewN | apply Kd.R_drew)); exact HO_5.out) hb); have n1_ := Aside0.mk (Kd.R_below (by (with_reducible repeat (first | apply Kd.R_alloc | apply Kd.R_drewN | apply Kd.R_drew)); exact HO_12.out) hb); have n2_ := Aside0.mk (Kd.R_below (by (with_reducible repeat (first | apply Kd.R_alloc | apply Kd.R_drewN | apply Kd.R_drew)); exact HO_20.out) hb); have n3_ := Aside0.mk (below_step (by repeat (first | (with_reducible first | exact HB.out | apply below_alloc | apply pw_below_drewN | apply below_drew1) | exact HB.out)) hb); clear HO_5; clear HO_12; clear HO_20; clear HB; have HO_5 := n0_; have HO_12 := n1_; have HO_20 := n2_; have HB := n3_; clear n0_ n1_ n2_ n3_; (try clear hb); (try clear hb2); (try clear hk); (try clear hi))))
                  go_ret
                  exact ⟨by first | rfl | (simp [errW_none, errW_some] <;> rfl) | (simp [*, errW_none, errW_some] <;> rfl), by repeat (first | (with_reducible first | exact HB.out | apply below_alloc | apply pw_below_drewN | apply below_drew1) | exact HB.out)⟩
                · replace c108 := Bool.eq_false_iff.mpr c108
                  subst c108
                  have H1 : (some false) = some r := by rw [if_neg (show ¬ (false = true) by decide)] at H; exact H
                  clear H
                  have H := H1
                  clear H1
                  obtain rfl := Option.some.inj H
                  obtain ⟨Ao111, co111, eo111⟩ := Kd.R_slice HO_5.out
                  subst eo111
                  go_wp2_with (first | (go_at_call 29; (with_reducible refine (impl_IsThreadPath.calls kj13 t411 t412 _ _ t413 false _ ?side1 ?side2 A107.out).mono ?_); (case side1 => repeat (first | exact (Kd.R_reads' HO_5.out).2.2 | (with_reducible refine Kd.C_alloc ?_ _) | (with_reducible refine Kd.C_drewN ?_ _) | (with_reducible refine Kd.C_drew ?_))); (case side2 => exact (Kd.R_reads' HO_5.out).2.1); rintro e w112 ⟨rfl, hb⟩; have n0_ := Aside0.mk (Kd.R_below (by (with_reducible repeat (first | apply Kd.R_alloc | apply Kd.R_drewN | apply Kd.R_drew)); exact HO_5.out) hb); have n1_ := Aside0.mk (Kd.R_below (by (with_reducible repeat (first | apply Kd.R_alloc | apply Kd.R_drewN | apply Kd.R_drew)); exact HO_12.out) hb); have n2_ := Aside0.mk (Kd.R_below (by (with_reducible repeat (first | apply Kd.R_alloc | apply Kd.R_drewN | apply Kd.R_drew)); exact HO_20.out) hb); have n3_ := Aside0.mk (below_step (by repeat (first | (with_reducible first | exact HB.out | apply below_alloc | apply pw_below_drewN | apply below_drew1) | exact HB.out)) hb); clear HO_5; clear HO_12; clear HO_20; clear HB; have HO_5 := n0_; have HO_12 := n1_; have HO_20 := n2_; have HB := n3_; clear n0_ n1_ n2_ n3_; (try clear hb); (try clear hb2); (try clear hk); (try clear hi)))
                  repeat (go_quiet (first | (go_at_call 29; (with_reducible refine (impl_IsThreadPath.calls kj13 t411 t412 _ _ t413 false _ ?side1 ?side2 A107.out).mono ?_); (case side1 => repeat (first | exact (Kd.R_reads' HO_5.out).2.2 | (with_reducible refine Kd.C_alloc ?_ _) | (with_reducible refine Kd.C_drewN ?_ _) | (with_reducible refine Kd.C_drew ?_))); (case side2 => exact (Kd.R_reads' HO_5.out).2.1); rintro e w112 ⟨rfl, hb⟩; have n0_ := Aside0.mk (Kd.R_below (by (with_reducible repeat (first | apply Kd.R_alloc | apply Kd.R_drewN | apply Kd.R_drew)); exact HO_5.out) hb); have n1_ := Aside0.mk (Kd.R_below (by (with_reducible repeat (first | apply Kd.R_alloc | apply Kd.R_drewN | apply Kd.R_drew)); exact HO_12.out) hb); have n2_ := Aside0.mk (Kd.R_below (by (with_reducible repeat (first | apply Kd.R_alloc | apply Kd.R_drewN | apply Kd.R_drew)); exact HO_20.out) hb); have n3_ := Aside0.mk (below_step (by repeat (first | (with_reducible first | exact HB.out | apply below_alloc | apply pw_below_drewN | apply below_drew1) | exact HB.out)) hb); clear HO_5; clear HO_12; clear HO_20; clear HB; have HO_5 := n0_; have HO_12 := n1_; have HO_20 := n2_; have HB := n3_; clear n0_ n1_ n2_ n3_; (try clear hb); (try clear hb2); (try clear hk); (try clear hi))); try go_wp2_with (first | (go_at_call 29; (with_reducible refine (impl_IsThreadPath.calls kj13 t411 t412 _ _ t413 false _ ?side1 ?side2 A107.out).mono ?_); (case side1 => repeat (first | exact (Kd.R_reads' HO_5.out).2.2 | (with_reducible refine Kd.C_alloc ?_ _) | (with_reducible refine Kd.C_drewN ?_ _) | (with_reducible refine Kd.C_drew ?_))); (case side2 => exact (Kd.R_reads' HO_5.out).2.1); rintro e w112 ⟨rfl, hb⟩; have n0_ := Aside0.mk (Kd.R_below (by (with_reducible repeat (first | apply Kd.R_alloc | apply Kd.R_drewN | apply Kd.R_drew)); exact HO_5.out) hb); have n1_ := Aside0.mk (Kd.R_below (by (with_reducible repeat (first | apply Kd.R_alloc | apply Kd.R_drewN | apply Kd.R_drew)); exact HO_12.out) hb); have n2_ := Aside0.mk (Kd.R_below (by (with_reducible repeat (first | apply Kd.R_alloc | apply Kd.R_drewN | apply Kd.R_drew)); exact HO_20.out) hb); have n3_ := Aside0.mk (below_step (by repeat (first | (with_reducible first | exact HB.out | apply below_alloc | apply pw_below_drewN | apply below_drew1) | exact HB.out)) hb); clear HO_5; clear HO_12; clear HO_20; clear HB; have HO_5 := n0_; have HO_12 := n1_; have HO_20 := n2_; have HB := n3_; clear n0_ n1_ n2_ n3_; (try clear hb); (try clear hb2); (try clear hk); (try clear hi))))
                  go_ret
                  exact ⟨by first | rfl | (simp [errW_none, errW_some] <;> rfl) | (simp [*, errW_none, errW_some] <;> rfl), by repeat (first | (with_reducible first | exact HB.out | apply below_alloc | apply pw_below_drewN | apply below_drew1) | exact HB.out)⟩
              · rw [if_neg c106] at H
                have c106b0 : (t414 == 0) = false := beq_eq_false_iff_ne.mpr c106
                have c106b1 : (t414 != 0) = true := bne_iff_ne.mpr c106
                obtain rfl := Option.some.inj H
                go_wp2
                repeat (go_quiet (fail); try go_wp2)
                go_ret
                exact ⟨by first | rfl | (simp [errW_none, errW_some] <;> rfl) | (simp [*, errW_none, errW_some] <;> rfl), by repeat (first | (with_reducible first | exact HB.out | apply below_alloc | apply pw_below_drewN | apply below_drew1) | exact HB.out)⟩

/-- THE ONE PURE STATEMENT of laws_FnThreads: yours. -/
def laws_FnThreads.Pure : Prop := ∀ (l0 : List Int), l0.length ≤ maxLen → l0.length * 1 ≤ 140737488351232 → (∀ x ∈ l0, (Lit.int .u8 x).wf = true) → ∃ k, laws_FnThreads.f k l0 = some true
theorem laws_FnThreads.walk (P : laws_FnThreads.Pure) (a0 : Option Addr) (len0 cap0 : Nat) (z0 : List Int) (w : World) (w0 : (a0 = none ∧ len0 = 0 ∧ cap0 = 0 ∧ z0 = []) ∨ ∃ x, a0 = some x ∧ len0 ≤ cap0 ∧ cap0 ≤ maxLen ∧ z0.length = cap0 ∧ (∀ i, i < z0.length → w.cell? (x.add i) = some (.int .u8 (z0.getD i 0))) ∧ ∀ n ∈ z0, (Lit.int .u8 n).wf = true) (y0 : len0 * 1 ≤ 140737488351232) :
    Calls Try.prog 4 #[.slice a0 len0 cap0] w fun e w' => e = .returned (.bool true) ∧ Below w.heap.size w w' := by
  obtain ⟨l0, rfl, hr0, hm0, hw0, hc0⟩ := ReadsInt.ofRowC w0
  obtain ⟨k, h⟩ := P l0 hm0 y0 hw0
  refine (laws_FnThreads.calls k _ _ l0 true w (Kd.C_of_reads (d := (0 : Int)) (h1 := fun _ => rfl) hr0) hc0 h).mono ?_
  rintro e w' ⟨rfl, hd⟩
  exact ⟨rfl, hd⟩

end Go.Proofs.Ytkcbihfhbojckaa.X
