-- Written by this session's own program (wip/xprint.py) out of the translation; Lean checks it.
import Derived.Test.YtlicooehcladcaaDoorX0
import Derived.Test.YtlicooehcladcaaDoorX2
import Derived.Test.YtlicooehcladcaaDoorX3
import Derived.Test.YtlicooehcladcaaDoorX4
import Derived.Test.YtlicooehcladcaaDoorX5
import Derived.Test.YtlicooehcladcaaDoorX6
import Derived.Test.YtlicooehcladcaaDoorECodeText
import Derived.Test.YtlicooehcladcaaDoorEReadCode
namespace Go.Proofs.YtlicooehcladcaaDoor.X
open Go.RowKit Go.Proofs.YtlicooehcladcaaDoorW.PrintWords Go.Proofs.YtlicooehcladcaaDoorW.PrintLast Go.Proofs.YtlicooehcladcaaDoorW.PrintMore
attribute [local go_sem] max2_int min2_int max_two min_two max_three min_three max_four min_four   -- for this text's walks alone
set_option linter.unusedVariables false
set_option linter.unusedSimpArgs false

/-! ### laws_FnCodes: function 5 -/
mutual
def laws_FnCodes.j0 : Nat → Int → Int → Int → Int → Bool → Option (Bool)
  | 0, _, _, _, _, _ => none
  | k + 1, x3, x4, x5, x6, x133 => if x133 = true then (some false) else (if x6 = 0 then ((impl_PartsOfCode.f x5).bind fun bt272 => ((impl_CodeText.f x5).bind fun t275 => ((impl_ReadCode.f t275).bind fun bt276 => (if bt272.2.2 = 0 then (if bt272.1 = x3 then (if bt272.2.1 = x4 then (if bt276.2 = true then (laws_FnCodes.j1 k x5 (bt276.1 != x5)) else (laws_FnCodes.j1 k x5 true)) else (laws_FnCodes.j1 k x5 true)) else (laws_FnCodes.j1 k x5 true)) else (laws_FnCodes.j1 k x5 true))))) else (some true))
def laws_FnCodes.j1 : Nat → Int → Bool → Option (Bool)
  | 0, _, _ => none
  | k + 1, x5, x168 => if x168 = true then (some false) else (laws_FnCodes.l0 k x5 1 0)
def laws_FnCodes.l0 : Nat → Int → Int → Int → Option (Bool)
  | 0, _, _, _ => none
  | k + 1, x5, x27, x28 => if x28 < 7 then (if x27 = 0 then (none) else (laws_FnCodes.l1 k x5 x27 x28 (Int.tmod (wrap64 (Int.tdiv x5 x27)) 10) 0)) else (some true)
def laws_FnCodes.l1 : Nat → Int → Int → Int → Int → Int → Option (Bool)
  | 0, _, _, _, _, _ => none
  | k + 1, x5, x27, x28, x29, x30 => if x30 < 10 then (if x30 = x29 then (laws_FnCodes.l1 k x5 x27 x28 x29 (wrap64 (x30 + 1))) else ((impl_IsCode.f (wrap64 (x5 + (wrap64 ((wrap64 (x30 - x29)) * x27))))).bind fun t278 => (if t278 = true then (some false) else (laws_FnCodes.l1 k x5 x27 x28 x29 (wrap64 (x30 + 1)))))) else (if x27 = 0 then (none) else (if x28 < 6 then (if (Int.tmod (wrap64 (Int.tdiv (wrap64 (Int.tdiv x5 x27)) 10)) 10) = x29 then (laws_FnCodes.l0 k x5 (wrap64 (10 * x27)) (wrap64 (x28 + 1))) else ((impl_IsCode.f (wrap64 ((wrap64 (x5 + (wrap64 ((wrap64 ((Int.tmod (wrap64 (Int.tdiv (wrap64 (Int.tdiv x5 x27)) 10)) 10) - x29)) * x27)))) + (wrap64 ((wrap64 ((wrap64 (x29 - (Int.tmod (wrap64 (Int.tdiv (wrap64 (Int.tdiv x5 x27)) 10)) 10))) * x27)) * 10))))).bind fun t279 => (if t279 = true then (some false) else (laws_FnCodes.l0 k x5 (wrap64 (10 * x27)) (wrap64 (x28 + 1)))))) else (laws_FnCodes.l0 k x5 (wrap64 (10 * x27)) (wrap64 (x28 + 1)))))
end
def laws_FnCodes.f (k : Nat) (l0 : List Int) : Option (Bool) := (laws_big.f l0).bind fun t249 => (if t249 = true then (some true) else ((spec_DrawCodeOf.f k l0).bind fun bt250 => ((impl_CodeOf.f k bt250.1 bt250.2).bind fun bt252 => ((spec_CodeOf.f k bt250.1 bt250.2).bind fun bt254 => ((spec_DrawPartsOfCode.f k l0).bind fun t256 => ((impl_PartsOfCode.f t256).bind fun bt257 => ((spec_PartsOfCode.f t256).bind fun bt260 => ((impl_CodeText.f t256).bind fun t263 => ((spec_DrawReadCode.f k l0).bind fun t264 => ((impl_ReadCode.f t264).bind fun bt265 => ((spec_ReadCode.f k t264).bind fun bt267 => (if bt252.2 = bt254.2 then (if bt252.1 = bt254.1 then (if bt257.2.2 = bt260.2.2 then (if bt257.1 = bt260.1 then (if bt257.2.1 = bt260.2.1 then ((spec_CodeText.f k t256).bind fun t269 => (if t263.toList = t269.toList then (if (bt265.2 != bt267.2) = true then (laws_FnCodes.j0 k bt250.1 bt250.2 bt252.1 bt252.2 true) else (if bt265.1 = bt267.1 then ((impl_IsCode.f t256).bind fun t270 => (if (t270 != (bt260.2.2 == 0)) = true then (laws_FnCodes.j0 k bt250.1 bt250.2 bt252.1 bt252.2 true) else (if bt265.2 = true then ((impl_CodeText.f bt265.1).bind fun t271 => (laws_FnCodes.j0 k bt250.1 bt250.2 bt252.1 bt252.2 (t271.toList != t264.toList))) else (laws_FnCodes.j0 k bt250.1 bt250.2 bt252.1 bt252.2 false)))) else (laws_FnCodes.j0 k bt250.1 bt250.2 bt252.1 bt252.2 true))) else (laws_FnCodes.j0 k bt250.1 bt250.2 bt252.1 bt252.2 true))) else (laws_FnCodes.j0 k bt250.1 bt250.2 bt252.1 bt252.2 true)) else (laws_FnCodes.j0 k bt250.1 bt250.2 bt252.1 bt252.2 true)) else (laws_FnCodes.j0 k bt250.1 bt250.2 bt252.1 bt252.2 true)) else (laws_FnCodes.j0 k bt250.1 bt250.2 bt252.1 bt252.2 true)) else (laws_FnCodes.j0 k bt250.1 bt250.2 bt252.1 bt252.2 true)))))))))))))
theorem laws_FnCodes.mono_l : ∀ k, (∀ y0 y1 y2 y3 y4, LeO (laws_FnCodes.j0 k y0 y1 y2 y3 y4) (laws_FnCodes.j0 (k + 1) y0 y1 y2 y3 y4)) ∧ (∀ y0 y1, LeO (laws_FnCodes.j1 k y0 y1) (laws_FnCodes.j1 (k + 1) y0 y1)) ∧ (∀ y0 y1 y2, LeO (laws_FnCodes.l0 k y0 y1 y2) (laws_FnCodes.l0 (k + 1) y0 y1 y2)) ∧ (∀ y0 y1 y2 y3 y4, LeO (laws_FnCodes.l1 k y0 y1 y2 y3 y4) (laws_FnCodes.l1 (k + 1) y0 y1 y2 y3 y4))
  | 0 => ⟨fun _ _ _ _ _ r h => by simp [laws_FnCodes.j0] at h, fun _ _ r h => by simp [laws_FnCodes.j1] at h, fun _ _ _ r h => by simp [laws_FnCodes.l0] at h, fun _ _ _ _ _ r h => by simp [laws_FnCodes.l1] at h⟩
  | k + 1 => by
    obtain ⟨ih0, ih1, ih2, ih3⟩ := laws_FnCodes.mono_l k
    refine ⟨?_, ?_, ?_, ?_⟩
    · intro y0 y1 y2 y3 y4
      unfold laws_FnCodes.j0
      repeat' first
      | (with_reducible exact ih0 _ _ _ _ _)
      | (with_reducible exact ih1 _ _)
      | (with_reducible exact ih2 _ _ _)
      | (with_reducible exact ih3 _ _ _ _ _)
      | (with_reducible exact impl_CodeOf.mono _ _ _)
      | (with_reducible exact spec_CodeOf.mono _ _ _)
      | (with_reducible exact spec_CodeText.mono _ _)
      | (with_reducible exact spec_DrawCodeOf.mono _ _)
      | (with_reducible exact spec_DrawPartsOfCode.mono _ _)
      | (with_reducible exact spec_DrawReadCode.mono _ _)
      | (with_reducible exact spec_ReadCode.mono _ _)
      | (with_reducible exact LeO.refl _)
      | (with_reducible exact LeO.none _)
      | (with_reducible refine LeO.ite ?_ ?_)
      | (with_reducible refine LeO.bind ?_ (fun _ => ?_))
      | exact ih0 _ _ _ _ _
      | exact ih1 _ _
      | exact ih2 _ _ _
      | exact ih3 _ _ _ _ _
      | exact impl_CodeOf.mono _ _ _
      | exact spec_CodeOf.mono _ _ _
      | exact spec_CodeText.mono _ _
      | exact spec_DrawCodeOf.mono _ _
      | exact spec_DrawPartsOfCode.mono _ _
      | exact spec_DrawReadCode.mono _ _
      | exact spec_ReadCode.mono _ _
      | exact LeO.none _
      | refine LeO.ite ?_ ?_
      | refine LeO.bind ?_ (fun _ => ?_)
    · intro y0 y1
      unfold laws_FnCodes.j1
      repeat' first
      | (with_reducible exact ih0 _ _ _ _ _)
      | (with_reducible exact ih1 _ _)
      | (with_reducible exact ih2 _ _ _)
      | (with_reducible exact ih3 _ _ _ _ _)
      | (with_reducible exact impl_CodeOf.mono _ _ _)
      | (with_reducible exact spec_CodeOf.mono _ _ _)
      | (with_reducible exact spec_CodeText.mono _ _)
      | (with_reducible exact spec_DrawCodeOf.mono _ _)
      | (with_reducible exact spec_DrawPartsOfCode.mono _ _)
      | (with_reducible exact spec_DrawReadCode.mono _ _)
      | (with_reducible exact spec_ReadCode.mono _ _)
      | (with_reducible exact LeO.refl _)
      | (with_reducible exact LeO.none _)
      | (with_reducible refine LeO.ite ?_ ?_)
      | (with_reducible refine LeO.bind ?_ (fun _ => ?_))
      | exact ih0 _ _ _ _ _
      | exact ih1 _ _
      | exact ih2 _ _ _
      | exact ih3 _ _ _ _ _
      | exact impl_CodeOf.mono _ _ _
      | exact spec_CodeOf.mono _ _ _
      | exact spec_CodeText.mono _ _
      | exact spec_DrawCodeOf.mono _ _
      | exact spec_DrawPartsOfCode.mono _ _
      | exact spec_DrawReadCode.mono _ _
      | exact spec_ReadCode.mono _ _
      | exact LeO.none _
      | refine LeO.ite ?_ ?_
      | refine LeO.bind ?_ (fun _ => ?_)
    · intro y0 y1 y2
      unfold laws_FnCodes.l0
      repeat' first
      | (with_reducible exact ih0 _ _ _ _ _)
      | (with_reducible exact ih1 _ _)
      | (with_reducible exact ih2 _ _ _)
      | (with_reducible exact ih3 _ _ _ _ _)
      | (with_reducible exact impl_CodeOf.mono _ _ _)
      | (with_reducible exact spec_CodeOf.mono _ _ _)
      | (with_reducible exact spec_CodeText.mono _ _)
      | (with_reducible exact spec_DrawCodeOf.mono _ _)
      | (with_reducible exact spec_DrawPartsOfCode.mono _ _)
      | (with_reducible exact spec_DrawReadCode.mono _ _)
      | (with_reducible exact spec_ReadCode.mono _ _)
      | (with_reducible exact LeO.refl _)
      | (with_reducible exact LeO.none _)
      | (with_reducible refine LeO.ite ?_ ?_)
      | (with_reducible refine LeO.bind ?_ (fun _ => ?_))
      | exact ih0 _ _ _ _ _
      | exact ih1 _ _
      | exact ih2 _ _ _
      | exact ih3 _ _ _ _ _
      | exact impl_CodeOf.mono _ _ _
      | exact spec_CodeOf.mono _ _ _
      | exact spec_CodeText.mono _ _
      | exact spec_DrawCodeOf.mono _ _
      | exact spec_DrawPartsOfCode.mono _ _
      | exact spec_DrawReadCode.mono _ _
      | exact spec_ReadCode.mono _ _
      | exact LeO.none _
      | refine LeO.ite ?_ ?_
      | refine LeO.bind ?_ (fun _ => ?_)
    · intro y0 y1 y2 y3 y4
      unfold laws_FnCodes.l1
      repeat' first
      | (with_reducible exact ih0 _ _ _ _ _)
      | (with_reducible exact ih1 _ _)
      | (with_reducible exact ih2 _ _ _)
      | (with_reducible exact ih3 _ _ _ _ _)
      | (with_reducible exact impl_CodeOf.mono _ _ _)
      | (with_reducible exact spec_CodeOf.mono _ _ _)
      | (with_reducible exact spec_CodeText.mono _ _)
      | (with_reducible exact spec_DrawCodeOf.mono _ _)
      | (with_reducible exact spec_DrawPartsOfCode.mono _ _)
      | (with_reducible exact spec_DrawReadCode.mono _ _)
      | (with_reducible exact spec_ReadCode.mono _ _)
      | (with_reducible exact LeO.refl _)
      | (with_reducible exact LeO.none _)
      | (with_reducible refine LeO.ite ?_ ?_)
      | (with_reducible refine LeO.bind ?_ (fun _ => ?_))
      | exact ih0 _ _ _ _ _
      | exact ih1 _ _
      | exact ih2 _ _ _
      | exact ih3 _ _ _ _ _
      | exact impl_CodeOf.mono _ _ _
      | exact spec_CodeOf.mono _ _ _
      | exact spec_CodeText.mono _ _
      | exact spec_DrawCodeOf.mono _ _
      | exact spec_DrawPartsOfCode.mono _ _
      | exact spec_DrawReadCode.mono _ _
      | exact spec_ReadCode.mono _ _
      | exact LeO.none _
      | refine LeO.ite ?_ ?_
      | refine LeO.bind ?_ (fun _ => ?_)
theorem laws_FnCodes.mono : ∀ a0 k, LeO (laws_FnCodes.f k a0) (laws_FnCodes.f (k + 1) a0) := by
  intro a0 k
  obtain ⟨ih0, ih1, ih2, ih3⟩ := laws_FnCodes.mono_l k
  unfold laws_FnCodes.f
  repeat' first
      | (with_reducible exact ih0 _ _ _ _ _)
      | (with_reducible exact ih1 _ _)
      | (with_reducible exact ih2 _ _ _)
      | (with_reducible exact ih3 _ _ _ _ _)
      | (with_reducible exact impl_CodeOf.mono _ _ _)
      | (with_reducible exact spec_CodeOf.mono _ _ _)
      | (with_reducible exact spec_CodeText.mono _ _)
      | (with_reducible exact spec_DrawCodeOf.mono _ _)
      | (with_reducible exact spec_DrawPartsOfCode.mono _ _)
      | (with_reducible exact spec_DrawReadCode.mono _ _)
      | (with_reducible exact spec_ReadCode.mono _ _)
      | (with_reducible exact LeO.refl _)
      | (with_reducible exact LeO.none _)
      | (with_reducible refine LeO.ite ?_ ?_)
      | (with_reducible refine LeO.bind ?_ (fun _ => ?_))
      | exact ih0 _ _ _ _ _
      | exact ih1 _ _
      | exact ih2 _ _ _
      | exact ih3 _ _ _ _ _
      | exact impl_CodeOf.mono _ _ _
      | exact spec_CodeOf.mono _ _ _
      | exact spec_CodeText.mono _ _
      | exact spec_DrawCodeOf.mono _ _
      | exact spec_DrawPartsOfCode.mono _ _
      | exact spec_DrawReadCode.mono _ _
      | exact spec_ReadCode.mono _ _
      | exact LeO.none _
      | refine LeO.ite ?_ ?_
      | refine LeO.bind ?_ (fun _ => ?_)
set_option maxHeartbeats 8000000 in
set_option maxRecDepth 100000 in
theorem laws_FnCodes.calls (k : Nat) (A0 : Option Addr) (c0 : Nat) (l0 : List Int) (r : Bool) (w : World) (hr0 : Kd.C (Kd.int .u8) w A0 l0.length l0) (hc0 : l0.length ≤ c0) (h : laws_FnCodes.f k l0 = some r) (ht : Aside0 (LaidT w)) (he : Aside0 (LaidE w)) :
    Calls Tryd.prog 5 #[.slice A0 l0.length c0] w fun e w' => e = .returned (.bool r) ∧ Below w.heap.size w w' := by
  have HR0 := Aside0.mk hr0
  have HC0 := Aside0.mk hc0
  clear hr0 hc0
  have HB := Aside0.mk (Below.refl w.heap.size w)
  have H : ((laws_big.f l0).bind fun t249 => (if t249 = true then (some true) else ((spec_DrawCodeOf.f k l0).bind fun bt250 => ((impl_CodeOf.f k bt250.1 bt250.2).bind fun bt252 => ((spec_CodeOf.f k bt250.1 bt250.2).bind fun bt254 => ((spec_DrawPartsOfCode.f k l0).bind fun t256 => ((impl_PartsOfCode.f t256).bind fun bt257 => ((spec_PartsOfCode.f t256).bind fun bt260 => ((impl_CodeText.f t256).bind fun t263 => ((spec_DrawReadCode.f k l0).bind fun t264 => ((impl_ReadCode.f t264).bind fun bt265 => ((spec_ReadCode.f k t264).bind fun bt267 => (if bt252.2 = bt254.2 then (if bt252.1 = bt254.1 then (if bt257.2.2 = bt260.2.2 then (if bt257.1 = bt260.1 then (if bt257.2.1 = bt260.2.1 then ((spec_CodeText.f k t256).bind fun t269 => (if t263.toList = t269.toList then (if (bt265.2 != bt267.2) = true then (laws_FnCodes.j0 k bt250.1 bt250.2 bt252.1 bt252.2 true) else (if bt265.1 = bt267.1 then ((impl_IsCode.f t256).bind fun t270 => (if (t270 != (bt260.2.2 == 0)) = true then (laws_FnCodes.j0 k bt250.1 bt250.2 bt252.1 bt252.2 true) else (if bt265.2 = true then ((impl_CodeText.f bt265.1).bind fun t271 => (laws_FnCodes.j0 k bt250.1 bt250.2 bt252.1 bt252.2 (t271.toList != t264.toList))) else (laws_FnCodes.j0 k bt250.1 bt250.2 bt252.1 bt252.2 false)))) else (laws_FnCodes.j0 k bt250.1 bt250.2 bt252.1 bt252.2 true))) else (laws_FnCodes.j0 k bt250.1 bt250.2 bt252.1 bt252.2 true))) else (laws_FnCodes.j0 k bt250.1 bt250.2 bt252.1 bt252.2 true)) else (laws_FnCodes.j0 k bt250.1 bt250.2 bt252.1 bt252.2 true)) else (laws_FnCodes.j0 k bt250.1 bt250.2 bt252.1 bt252.2 true)) else (laws_FnCodes.j0 k bt250.1 bt250.2 bt252.1 bt252.2 true)) else (laws_FnCodes.j0 k bt250.1 bt250.2 bt252.1 bt252.2 true)))))))))))))) = some r := h
  clear h
  replace H := Option.bind_eq_some_iff.mp H
  obtain ⟨t249, A20, H⟩ := H
  replace H : (if t249 = true then (some true) else ((spec_DrawCodeOf.f k l0).bind fun bt250 => ((impl_CodeOf.f k bt250.1 bt250.2).bind fun bt252 => ((spec_CodeOf.f k bt250.1 bt250.2).bind fun bt254 => ((spec_DrawPartsOfCode.f k l0).bind fun t256 => ((impl_PartsOfCode.f t256).bind fun bt257 => ((spec_PartsOfCode.f t256).bind fun bt260 => ((impl_CodeText.f t256).bind fun t263 => ((spec_DrawReadCode.f k l0).bind fun t264 => ((impl_ReadCode.f t264).bind fun bt265 => ((spec_ReadCode.f k t264).bind fun bt267 => (if bt252.2 = bt254.2 then (if bt252.1 = bt254.1 then (if bt257.2.2 = bt260.2.2 then (if bt257.1 = bt260.1 then (if bt257.2.1 = bt260.2.1 then ((spec_CodeText.f k t256).bind fun t269 => (if t263.toList = t269.toList then (if (bt265.2 != bt267.2) = true then (laws_FnCodes.j0 k bt250.1 bt250.2 bt252.1 bt252.2 true) else (if bt265.1 = bt267.1 then ((impl_IsCode.f t256).bind fun t270 => (if (t270 != (bt260.2.2 == 0)) = true then (laws_FnCodes.j0 k bt250.1 bt250.2 bt252.1 bt252.2 true) else (if bt265.2 = true then ((impl_CodeText.f bt265.1).bind fun t271 => (laws_FnCodes.j0 k bt250.1 bt250.2 bt252.1 bt252.2 (t271.toList != t264.toList))) else (laws_FnCodes.j0 k bt250.1 bt250.2 bt252.1 bt252.2 false)))) else (laws_FnCodes.j0 k bt250.1 bt250.2 bt252.1 bt252.2 true))) else (laws_FnCodes.j0 k bt250.1 bt250.2 bt252.1 bt252.2 true))) else (laws_FnCodes.j0 k bt250.1 bt250.2 bt252.1 bt252.2 true)) else (laws_FnCodes.j0 k bt250.1 bt250.2 bt252.1 bt252.2 true)) else (laws_FnCodes.j0 k bt250.1 bt250.2 bt252.1 bt252.2 true)) else (laws_FnCodes.j0 k bt250.1 bt250.2 bt252.1 bt252.2 true)) else (laws_FnCodes.j0 k bt250.1 bt250.2 bt252.1 bt252.2 true))))))))))))) = some r := H
  have A2 := Aside0.mk A20
  clear A20
  by_cases c3 : t249 = true
  · subst c3
    have H1 : (some true) = some r := by rw [if_pos rfl] at H; exact H
    clear H
    have H := H1
    clear H1
    obtain rfl := Option.some.inj H
    go_enter Tryd.func5, Tryd.ntmps5
    go_wp2_with (first | ((with_reducible refine gate_callee (f := 10) rfl ?_); refine goesL_ (some 33) rfl rfl Tryd.func10 (by kernel_rfl) rfl #[.slice A0 l0.length c0] rfl (by (try simp only [List.map_toArray, List.map_cons, List.map_nil]); first | done | rfl | (simp only [List.length_drop, List.length_take]; rfl)) ?_; (with_reducible refine (laws_big.calls _ _ l0 true _ ?side1 ?side2 A2.out).mono ?_); (case side1 => repeat (first | exact HR0.out | (with_reducible refine Kd.C_alloc ?_ _) | (with_reducible refine Kd.C_drewN ?_ _) | (with_reducible refine Kd.C_drew ?_))); (case side2 => exact HC0.out); rintro e w' ⟨rfl, ⟨nd, rfl⟩⟩; refine ⟨_, rfl, ?_⟩))
    go_ret
    exact ⟨by first | rfl | (simp [errW_none, errW_some] <;> rfl) | (simp [*, errW_none, errW_some] <;> rfl), by repeat (first | (with_reducible first | exact HB.out | apply below_alloc | apply pw_below_drewN | apply below_drew1) | exact HB.out)⟩
  · replace c3 := Bool.eq_false_iff.mpr c3
    subst c3
    have H1 : ((spec_DrawCodeOf.f k l0).bind fun bt250 => ((impl_CodeOf.f k bt250.1 bt250.2).bind fun bt252 => ((spec_CodeOf.f k bt250.1 bt250.2).bind fun bt254 => ((spec_DrawPartsOfCode.f k l0).bind fun t256 => ((impl_PartsOfCode.f t256).bind fun bt257 => ((spec_PartsOfCode.f t256).bind fun bt260 => ((impl_CodeText.f t256).bind fun t263 => ((spec_DrawReadCode.f k l0).bind fun t264 => ((impl_ReadCode.f t264).bind fun bt265 => ((spec_ReadCode.f k t264).bind fun bt267 => (if bt252.2 = bt254.2 then (if bt252.1 = bt254.1 then (if bt257.2.2 = bt260.2.2 then (if bt257.1 = bt260.1 then (if bt257.2.1 = bt260.2.1 then ((spec_CodeText.f k t256).bind fun t269 => (if t263.toList = t269.toList then (if (bt265.2 != bt267.2) = true then (laws_FnCodes.j0 k bt250.1 bt250.2 bt252.1 bt252.2 true) else (if bt265.1 = bt267.1 then ((impl_IsCode.f t256).bind fun t270 => (if (t270 != (bt260.2.2 == 0)) = true then (laws_FnCodes.j0 k bt250.1 bt250.2 bt252.1 bt252.2 true) else (if bt265.2 = true then ((impl_CodeText.f bt265.1).bind fun t271 => (laws_FnCodes.j0 k bt250.1 bt250.2 bt252.1 bt252.2 (t271.toList != t264.toList))) else (laws_FnCodes.j0 k bt250.1 bt250.2 bt252.1 bt252.2 false)))) else (laws_FnCodes.j0 k bt250.1 bt250.2 bt252.1 bt252.2 true))) else (laws_FnCodes.j0 k bt250.1 bt250.2 bt252.1 bt252.2 true))) else (laws_FnCodes.j0 k bt250.1 bt250.2 bt252.1 bt252.2 true)) else (laws_FnCodes.j0 k bt250.1 bt250.2 bt252.1 bt252.2 true)) else (laws_FnCodes.j0 k bt250.1 bt250.2 bt252.1 bt252.2 true)) else (laws_FnCodes.j0 k bt250.1 bt250.2 bt252.1 bt252.2 true)) else (laws_FnCodes.j0 k bt250.1 bt250.2 bt252.1 bt252.2 true)))))))))))) = some r := by rw [if_neg (show ¬ (false = true) by decide)] at H; exact H
    clear H
    have H := H1
    clear H1
    replace H := Option.bind_eq_some_iff.mp H
    obtain ⟨⟨t250, t251⟩, A40, H⟩ := H
    replace H : ((impl_CodeOf.f k t250 t251).bind fun bt252 => ((spec_CodeOf.f k t250 t251).bind fun bt254 => ((spec_DrawPartsOfCode.f k l0).bind fun t256 => ((impl_PartsOfCode.f t256).bind fun bt257 => ((spec_PartsOfCode.f t256).bind fun bt260 => ((impl_CodeText.f t256).bind fun t263 => ((spec_DrawReadCode.f k l0).bind fun t264 => ((impl_ReadCode.f t264).bind fun bt265 => ((spec_ReadCode.f k t264).bind fun bt267 => (if bt252.2 = bt254.2 then (if bt252.1 = bt254.1 then (if bt257.2.2 = bt260.2.2 then (if bt257.1 = bt260.1 then (if bt257.2.1 = bt260.2.1 then ((spec_CodeText.f k t256).bind fun t269 => (if t263.toList = t269.toList then (if (bt265.2 != bt267.2) = true then (laws_FnCodes.j0 k t250 t251 bt252.1 bt252.2 true) else (if bt265.1 = bt267.1 then ((impl_IsCode.f t256).bind fun t270 => (if (t270 != (bt260.2.2 == 0)) = true then (laws_FnCodes.j0 k t250 t251 bt252.1 bt252.2 true) else (if bt265.2 = true then ((impl_CodeText.f bt265.1).bind fun t271 => (laws_FnCodes.j0 k t250 t251 bt252.1 bt252.2 (t271.toList != t264.toList))) else (laws_FnCodes.j0 k t250 t251 bt252.1 bt252.2 false)))) else (laws_FnCodes.j0 k t250 t251 bt252.1 bt252.2 true))) else (laws_FnCodes.j0 k t250 t251 bt252.1 bt252.2 true))) else (laws_FnCodes.j0 k t250 t251 bt252.1 bt252.2 true)) else (laws_FnCodes.j0 k t250 t251 bt252.1 bt252.2 true)) else (laws_FnCodes.j0 k t250 t251 bt252.1 bt252.2 true)) else (laws_FnCodes.j0 k t250 t251 bt252.1 bt252.2 true)) else (laws_FnCodes.j0 k t250 t251 bt252.1 bt252.2 true))))))))))) = some r := H
    have A4 := Aside0.mk A40
    clear A40
    replace H := Option.bind_eq_some_iff.mp H
    obtain ⟨⟨t252, t253⟩, A50, H⟩ := H
    replace H : ((spec_CodeOf.f k t250 t251).bind fun bt254 => ((spec_DrawPartsOfCode.f k l0).bind fun t256 => ((impl_PartsOfCode.f t256).bind fun bt257 => ((spec_PartsOfCode.f t256).bind fun bt260 => ((impl_CodeText.f t256).bind fun t263 => ((spec_DrawReadCode.f k l0).bind fun t264 => ((impl_ReadCode.f t264).bind fun bt265 => ((spec_ReadCode.f k t264).bind fun bt267 => (if t253 = bt254.2 then (if t252 = bt254.1 then (if bt257.2.2 = bt260.2.2 then (if bt257.1 = bt260.1 then (if bt257.2.1 = bt260.2.1 then ((spec_CodeText.f k t256).bind fun t269 => (if t263.toList = t269.toList then (if (bt265.2 != bt267.2) = true then (laws_FnCodes.j0 k t250 t251 t252 t253 true) else (if bt265.1 = bt267.1 then ((impl_IsCode.f t256).bind fun t270 => (if (t270 != (bt260.2.2 == 0)) = true then (laws_FnCodes.j0 k t250 t251 t252 t253 true) else (if bt265.2 = true then ((impl_CodeText.f bt265.1).bind fun t271 => (laws_FnCodes.j0 k t250 t251 t252 t253 (t271.toList != t264.toList))) else (laws_FnCodes.j0 k t250 t251 t252 t253 false)))) else (laws_FnCodes.j0 k t250 t251 t252 t253 true))) else (laws_FnCodes.j0 k t250 t251 t252 t253 true))) else (laws_FnCodes.j0 k t250 t251 t252 t253 true)) else (laws_FnCodes.j0 k t250 t251 t252 t253 true)) else (laws_FnCodes.j0 k t250 t251 t252 t253 true)) else (laws_FnCodes.j0 k t250 t251 t252 t253 true)) else (laws_FnCodes.j0 k t250 t251 t252 t253 true)))))))))) = some r := H
    have A5 := Aside0.mk A50
    clear A50
    replace H := Option.bind_eq_some_iff.mp H
    obtain ⟨⟨t254, t255⟩, A60, H⟩ := H
    replace H : ((spec_DrawPartsOfCode.f k l0).bind fun t256 => ((impl_PartsOfCode.f t256).bind fun bt257 => ((spec_PartsOfCode.f t256).bind fun bt260 => ((impl_CodeText.f t256).bind fun t263 => ((spec_DrawReadCode.f k l0).bind fun t264 => ((impl_ReadCode.f t264).bind fun bt265 => ((spec_ReadCode.f k t264).bind fun bt267 => (if t253 = t255 then (if t252 = t254 then (if bt257.2.2 = bt260.2.2 then (if bt257.1 = bt260.1 then (if bt257.2.1 = bt260.2.1 then ((spec_CodeText.f k t256).bind fun t269 => (if t263.toList = t269.toList then (if (bt265.2 != bt267.2) = true then (laws_FnCodes.j0 k t250 t251 t252 t253 true) else (if bt265.1 = bt267.1 then ((impl_IsCode.f t256).bind fun t270 => (if (t270 != (bt260.2.2 == 0)) = true then (laws_FnCodes.j0 k t250 t251 t252 t253 true) else (if bt265.2 = true then ((impl_CodeText.f bt265.1).bind fun t271 => (laws_FnCodes.j0 k t250 t251 t252 t253 (t271.toList != t264.toList))) else (laws_FnCodes.j0 k t250 t251 t252 t253 false)))) else (laws_FnCodes.j0 k t250 t251 t252 t253 true))) else (laws_FnCodes.j0 k t250 t251 t252 t253 true))) else (laws_FnCodes.j0 k t250 t251 t252 t253 true)) else (laws_FnCodes.j0 k t250 t251 t252 t253 true)) else (laws_FnCodes.j0 k t250 t251 t252 t253 true)) else (laws_FnCodes.j0 k t250 t251 t252 t253 true)) else (laws_FnCodes.j0 k t250 t251 t252 t253 true))))))))) = some r := H
    have A6 := Aside0.mk A60
    clear A60
    replace H := Option.bind_eq_some_iff.mp H
    obtain ⟨t256, A70, H⟩ := H
    replace H : ((impl_PartsOfCode.f t256).bind fun bt257 => ((spec_PartsOfCode.f t256).bind fun bt260 => ((impl_CodeText.f t256).bind fun t263 => ((spec_DrawReadCode.f k l0).bind fun t264 => ((impl_ReadCode.f t264).bind fun bt265 => ((spec_ReadCode.f k t264).bind fun bt267 => (if t253 = t255 then (if t252 = t254 then (if bt257.2.2 = bt260.2.2 then (if bt257.1 = bt260.1 then (if bt257.2.1 = bt260.2.1 then ((spec_CodeText.f k t256).bind fun t269 => (if t263.toList = t269.toList then (if (bt265.2 != bt267.2) = true then (laws_FnCodes.j0 k t250 t251 t252 t253 true) else (if bt265.1 = bt267.1 then ((impl_IsCode.f t256).bind fun t270 => (if (t270 != (bt260.2.2 == 0)) = true then (laws_FnCodes.j0 k t250 t251 t252 t253 true) else (if bt265.2 = true then ((impl_CodeText.f bt265.1).bind fun t271 => (laws_FnCodes.j0 k t250 t251 t252 t253 (t271.toList != t264.toList))) else (laws_FnCodes.j0 k t250 t251 t252 t253 false)))) else (laws_FnCodes.j0 k t250 t251 t252 t253 true))) else (laws_FnCodes.j0 k t250 t251 t252 t253 true))) else (laws_FnCodes.j0 k t250 t251 t252 t253 true)) else (laws_FnCodes.j0 k t250 t251 t252 t253 true)) else (laws_FnCodes.j0 k t250 t251 t252 t253 true)) else (laws_FnCodes.j0 k t250 t251 t252 t253 true)) else (laws_FnCodes.j0 k t250 t251 t252 t253 true)))))))) = some r := H
    have A7 := Aside0.mk A70
    clear A70
    replace H := Option.bind_eq_some_iff.mp H
    obtain ⟨⟨t257, t258, t259⟩, A80, H⟩ := H
    replace H : ((spec_PartsOfCode.f t256).bind fun bt260 => ((impl_CodeText.f t256).bind fun t263 => ((spec_DrawReadCode.f k l0).bind fun t264 => ((impl_ReadCode.f t264).bind fun bt265 => ((spec_ReadCode.f k t264).bind fun bt267 => (if t253 = t255 then (if t252 = t254 then (if t259 = bt260.2.2 then (if t257 = bt260.1 then (if t258 = bt260.2.1 then ((spec_CodeText.f k t256).bind fun t269 => (if t263.toList = t269.toList then (if (bt265.2 != bt267.2) = true then (laws_FnCodes.j0 k t250 t251 t252 t253 true) else (if bt265.1 = bt267.1 then ((impl_IsCode.f t256).bind fun t270 => (if (t270 != (bt260.2.2 == 0)) = true then (laws_FnCodes.j0 k t250 t251 t252 t253 true) else (if bt265.2 = true then ((impl_CodeText.f bt265.1).bind fun t271 => (laws_FnCodes.j0 k t250 t251 t252 t253 (t271.toList != t264.toList))) else (laws_FnCodes.j0 k t250 t251 t252 t253 false)))) else (laws_FnCodes.j0 k t250 t251 t252 t253 true))) else (laws_FnCodes.j0 k t250 t251 t252 t253 true))) else (laws_FnCodes.j0 k t250 t251 t252 t253 true)) else (laws_FnCodes.j0 k t250 t251 t252 t253 true)) else (laws_FnCodes.j0 k t250 t251 t252 t253 true)) else (laws_FnCodes.j0 k t250 t251 t252 t253 true)) else (laws_FnCodes.j0 k t250 t251 t252 t253 true))))))) = some r := H
    have A8 := Aside0.mk A80
    clear A80
    replace H := Option.bind_eq_some_iff.mp H
    obtain ⟨⟨t260, t261, t262⟩, A90, H⟩ := H
    replace H : ((impl_CodeText.f t256).bind fun t263 => ((spec_DrawReadCode.f k l0).bind fun t264 => ((impl_ReadCode.f t264).bind fun bt265 => ((spec_ReadCode.f k t264).bind fun bt267 => (if t253 = t255 then (if t252 = t254 then (if t259 = t262 then (if t257 = t260 then (if t258 = t261 then ((spec_CodeText.f k t256).bind fun t269 => (if t263.toList = t269.toList then (if (bt265.2 != bt267.2) = true then (laws_FnCodes.j0 k t250 t251 t252 t253 true) else (if bt265.1 = bt267.1 then ((impl_IsCode.f t256).bind fun t270 => (if (t270 != (t262 == 0)) = true then (laws_FnCodes.j0 k t250 t251 t252 t253 true) else (if bt265.2 = true then ((impl_CodeText.f bt265.1).bind fun t271 => (laws_FnCodes.j0 k t250 t251 t252 t253 (t271.toList != t264.toList))) else (laws_FnCodes.j0 k t250 t251 t252 t253 false)))) else (laws_FnCodes.j0 k t250 t251 t252 t253 true))) else (laws_FnCodes.j0 k t250 t251 t252 t253 true))) else (laws_FnCodes.j0 k t250 t251 t252 t253 true)) else (laws_FnCodes.j0 k t250 t251 t252 t253 true)) else (laws_FnCodes.j0 k t250 t251 t252 t253 true)) else (laws_FnCodes.j0 k t250 t251 t252 t253 true)) else (laws_FnCodes.j0 k t250 t251 t252 t253 true)))))) = some r := H
    have A9 := Aside0.mk A90
    clear A90
    replace H := Option.bind_eq_some_iff.mp H
    obtain ⟨t263, A100, H⟩ := H
    replace H : ((spec_DrawReadCode.f k l0).bind fun t264 => ((impl_ReadCode.f t264).bind fun bt265 => ((spec_ReadCode.f k t264).bind fun bt267 => (if t253 = t255 then (if t252 = t254 then (if t259 = t262 then (if t257 = t260 then (if t258 = t261 then ((spec_CodeText.f k t256).bind fun t269 => (if t263.toList = t269.toList then (if (bt265.2 != bt267.2) = true then (laws_FnCodes.j0 k t250 t251 t252 t253 true) else (if bt265.1 = bt267.1 then ((impl_IsCode.f t256).bind fun t270 => (if (t270 != (t262 == 0)) = true then (laws_FnCodes.j0 k t250 t251 t252 t253 true) else (if bt265.2 = true then ((impl_CodeText.f bt265.1).bind fun t271 => (laws_FnCodes.j0 k t250 t251 t252 t253 (t271.toList != t264.toList))) else (laws_FnCodes.j0 k t250 t251 t252 t253 false)))) else (laws_FnCodes.j0 k t250 t251 t252 t253 true))) else (laws_FnCodes.j0 k t250 t251 t252 t253 true))) else (laws_FnCodes.j0 k t250 t251 t252 t253 true)) else (laws_FnCodes.j0 k t250 t251 t252 t253 true)) else (laws_FnCodes.j0 k t250 t251 t252 t253 true)) else (laws_FnCodes.j0 k t250 t251 t252 t253 true)) else (laws_FnCodes.j0 k t250 t251 t252 t253 true))))) = some r := H
    have A10 := Aside0.mk A100
    clear A100
    replace H := Option.bind_eq_some_iff.mp H
    obtain ⟨t264, A110, H⟩ := H
    replace H : ((impl_ReadCode.f t264).bind fun bt265 => ((spec_ReadCode.f k t264).bind fun bt267 => (if t253 = t255 then (if t252 = t254 then (if t259 = t262 then (if t257 = t260 then (if t258 = t261 then ((spec_CodeText.f k t256).bind fun t269 => (if t263.toList = t269.toList then (if (bt265.2 != bt267.2) = true then (laws_FnCodes.j0 k t250 t251 t252 t253 true) else (if bt265.1 = bt267.1 then ((impl_IsCode.f t256).bind fun t270 => (if (t270 != (t262 == 0)) = true then (laws_FnCodes.j0 k t250 t251 t252 t253 true) else (if bt265.2 = true then ((impl_CodeText.f bt265.1).bind fun t271 => (laws_FnCodes.j0 k t250 t251 t252 t253 (t271.toList != t264.toList))) else (laws_FnCodes.j0 k t250 t251 t252 t253 false)))) else (laws_FnCodes.j0 k t250 t251 t252 t253 true))) else (laws_FnCodes.j0 k t250 t251 t252 t253 true))) else (laws_FnCodes.j0 k t250 t251 t252 t253 true)) else (laws_FnCodes.j0 k t250 t251 t252 t253 true)) else (laws_FnCodes.j0 k t250 t251 t252 t253 true)) else (laws_FnCodes.j0 k t250 t251 t252 t253 true)) else (laws_FnCodes.j0 k t250 t251 t252 t253 true)))) = some r := H
    have A11 := Aside0.mk A110
    clear A110
    replace H := Option.bind_eq_some_iff.mp H
    obtain ⟨⟨t265, t266⟩, A120, H⟩ := H
    replace H : ((spec_ReadCode.f k t264).bind fun bt267 => (if t253 = t255 then (if t252 = t254 then (if t259 = t262 then (if t257 = t260 then (if t258 = t261 then ((spec_CodeText.f k t256).bind fun t269 => (if t263.toList = t269.toList then (if (t266 != bt267.2) = true then (laws_FnCodes.j0 k t250 t251 t252 t253 true) else (if t265 = bt267.1 then ((impl_IsCode.f t256).bind fun t270 => (if (t270 != (t262 == 0)) = true then (laws_FnCodes.j0 k t250 t251 t252 t253 true) else (if t266 = true then ((impl_CodeText.f t265).bind fun t271 => (laws_FnCodes.j0 k t250 t251 t252 t253 (t271.toList != t264.toList))) else (laws_FnCodes.j0 k t250 t251 t252 t253 false)))) else (laws_FnCodes.j0 k t250 t251 t252 t253 true))) else (laws_FnCodes.j0 k t250 t251 t252 t253 true))) else (laws_FnCodes.j0 k t250 t251 t252 t253 true)) else (laws_FnCodes.j0 k t250 t251 t252 t253 true)) else (laws_FnCodes.j0 k t250 t251 t252 t253 true)) else (laws_FnCodes.j0 k t250 t251 t252 t253 true)) else (laws_FnCodes.j0 k t250 t251 t252 t253 true))) = some r := H
    have A12 := Aside0.mk A120
    clear A120
    replace H := Option.bind_eq_some_iff.mp H
    obtain ⟨⟨t267, t268⟩, A130, H⟩ := H
    replace H : (if t253 = t255 then (if t252 = t254 then (if t259 = t262 then (if t257 = t260 then (if t258 = t261 then ((spec_CodeText.f k t256).bind fun t269 => (if t263.toList = t269.toList then (if (t266 != t268) = true then (laws_FnCodes.j0 k t250 t251 t252 t253 true) else (if t265 = t267 then ((impl_IsCode.f t256).bind fun t270 => (if (t270 != (t262 == 0)) = true then (laws_FnCodes.j0 k t250 t251 t252 t253 true) else (if t266 = true then ((impl_CodeText.f t265).bind fun t271 => (laws_FnCodes.j0 k t250 t251 t252 t253 (t271.toList != t264.toList))) else (laws_FnCodes.j0 k t250 t251 t252 t253 false)))) else (laws_FnCodes.j0 k t250 t251 t252 t253 true))) else (laws_FnCodes.j0 k t250 t251 t252 t253 true))) else (laws_FnCodes.j0 k t250 t251 t252 t253 true)) else (laws_FnCodes.j0 k t250 t251 t252 t253 true)) else (laws_FnCodes.j0 k t250 t251 t252 t253 true)) else (laws_FnCodes.j0 k t250 t251 t252 t253 true)) else (laws_FnCodes.j0 k t250 t251 t252 t253 true)) = some r := H
    have A13 := Aside0.mk A130
    clear A130
    have HC14 := Aside0.mk H
    clear H
    go_enter Tryd.func5, Tryd.ntmps5
    go_upto_region 13 with (first | ((with_reducible refine gate_callee (f := 10) rfl ?_); refine goesL_ (some 33) rfl rfl Tryd.func10 (by kernel_rfl) rfl #[.slice A0 l0.length c0] rfl (by (try simp only [List.map_toArray, List.map_cons, List.map_nil]); first | done | rfl | (simp only [List.length_drop, List.length_take]; rfl)) ?_; (with_reducible refine (laws_big.calls _ _ l0 false _ ?side1 ?side2 A2.out).mono ?_); (case side1 => repeat (first | exact HR0.out | (with_reducible refine Kd.C_alloc ?_ _) | (with_reducible refine Kd.C_drewN ?_ _) | (with_reducible refine Kd.C_drew ?_))); (case side2 => exact HC0.out); rintro e w' ⟨rfl, ⟨nd, rfl⟩⟩; refine ⟨_, rfl, ?_⟩) | ((with_reducible refine gate_callee (f := 11) rfl ?_); refine goesL_ (some 36) rfl rfl Tryd.func11 (by kernel_rfl) rfl #[.slice A0 l0.length c0] rfl (by (try simp only [List.map_toArray, List.map_cons, List.map_nil]); first | done | rfl | (simp only [List.length_drop, List.length_take]; rfl)) ?_; (with_reducible refine (spec_DrawCodeOf.calls k _ _ l0 t250 t251 _ ?side1 ?side2 A4.out).mono ?_); (case side1 => repeat (first | exact HR0.out | (with_reducible refine Kd.C_alloc ?_ _) | (with_reducible refine Kd.C_drewN ?_ _) | (with_reducible refine Kd.C_drew ?_))); (case side2 => exact HC0.out); rintro e w15 ⟨rfl, hb⟩; refine ⟨_, rfl, ?_⟩; have n0_ := Aside0.mk (below_step (by repeat (first | (with_reducible first | exact HB.out | apply below_alloc | apply pw_below_drewN | apply below_drew1) | exact HB.out)) hb); clear HB; have HB := n0_; clear n0_; (try clear hb); (try clear hb2); (try clear hk); (try clear hi)) | ((with_reducible refine gate_callee (f := 12) rfl ?_); refine goesL_ (some 42) rfl rfl Tryd.func12 (by kernel_rfl) rfl #[.int .i64 t250, .int .i64 t251] rfl (by (try simp only [List.map_toArray, List.map_cons, List.map_nil]); first | done | rfl | (simp only [List.length_drop, List.length_take]; rfl)) ?_; (with_reducible refine (impl_CodeOf.calls k t250 t251 t252 t253 _ A5.out).mono ?_); rintro e w' ⟨rfl, ⟨nd, rfl⟩⟩; refine ⟨_, rfl, ?_⟩) | ((with_reducible refine gate_callee (f := 13) rfl ?_); refine goesL_ (some 48) rfl rfl Tryd.func13 (by kernel_rfl) rfl #[.int .i64 t250, .int .i64 t251] rfl (by (try simp only [List.map_toArray, List.map_cons, List.map_nil]); first | done | rfl | (simp only [List.length_drop, List.length_take]; rfl)) ?_; (with_reducible refine (spec_CodeOf.calls k t250 t251 t254 t255 _ A6.out).mono ?_); rintro e w' ⟨rfl, ⟨nd, rfl⟩⟩; refine ⟨_, rfl, ?_⟩) | ((with_reducible refine gate_callee (f := 14) rfl ?_); refine goesL_ (some 52) rfl rfl Tryd.func14 (by kernel_rfl) rfl #[.slice A0 l0.length c0] rfl (by (try simp only [List.map_toArray, List.map_cons, List.map_nil]); first | done | rfl | (simp only [List.length_drop, List.length_take]; rfl)) ?_; (with_reducible refine (spec_DrawPartsOfCode.calls k _ _ l0 t256 _ ?side1 ?side2 A7.out).mono ?_); (case side1 => repeat (first | exact (Kd.C_below HR0.out (by repeat (first | (with_reducible first | exact HB.out | apply below_alloc | apply pw_below_drewN | apply below_drew1) | exact HB.out))) | (with_reducible refine Kd.C_alloc ?_ _) | (with_reducible refine Kd.C_drewN ?_ _) | (with_reducible refine Kd.C_drew ?_))); (case side2 => exact HC0.out); rintro e w16 ⟨rfl, hb⟩; refine ⟨_, rfl, ?_⟩; have n0_ := Aside0.mk (below_step (by repeat (first | (with_reducible first | exact HB.out | apply below_alloc | apply pw_below_drewN | apply below_drew1) | exact HB.out)) hb); clear HB; have HB := n0_; clear n0_; (try clear hb); (try clear hb2); (try clear hk); (try clear hi)) | ((with_reducible refine gate_callee (f := 15) rfl ?_); refine goesL_ (some 55) rfl rfl Tryd.func15 (by kernel_rfl) rfl #[.int .i64 t256] rfl (by (try simp only [List.map_toArray, List.map_cons, List.map_nil]); first | done | rfl | (simp only [List.length_drop, List.length_take]; rfl)) ?_; (with_reducible refine (impl_PartsOfCode.calls t256 t257 t258 t259 _ A8.out).mono ?_); rintro e w' ⟨rfl, ⟨nd, rfl⟩⟩; refine ⟨_, rfl, ?_⟩) | ((with_reducible refine gate_callee (f := 16) rfl ?_); refine goesL_ (some 61) rfl rfl Tryd.func16 (by kernel_rfl) rfl #[.int .i64 t256] rfl (by (try simp only [List.map_toArray, List.map_cons, List.map_nil]); first | done | rfl | (simp only [List.length_drop, List.length_take]; rfl)) ?_; (with_reducible refine (spec_PartsOfCode.calls t256 t260 t261 t262 _ A9.out).mono ?_); rintro e w' ⟨rfl, ⟨nd, rfl⟩⟩; refine ⟨_, rfl, ?_⟩) | ((with_reducible refine gate_callee (f := 7) rfl ?_); refine goesL_ (some 66) rfl rfl Tryd.func7 (by kernel_rfl) rfl #[.int .i64 t256] rfl (by (try simp only [List.map_toArray, List.map_cons, List.map_nil]); first | done | rfl | (simp only [List.length_drop, List.length_take]; rfl)) ?_; (with_reducible refine (impl_CodeText.calls t256 t263 _ A10.out (laidT_below ht.out ?sidet)).mono ?_); (case sidet => repeat (first | (with_reducible first | exact HB.out | apply below_alloc | apply pw_below_drewN | apply below_drew1) | exact HB.out)); rintro e w17 ⟨rfl, hb⟩; refine ⟨_, rfl, ?_⟩; have n0_ := Aside0.mk (below_step (by repeat (first | (with_reducible first | exact HB.out | apply below_alloc | apply pw_below_drewN | apply below_drew1) | exact HB.out)) hb); clear HB; have HB := n0_; clear n0_; (try clear hb); (try clear hb2); (try clear hk); (try clear hi)) | ((with_reducible refine gate_callee (f := 17) rfl ?_); refine goesL_ (some 68) rfl rfl Tryd.func17 (by kernel_rfl) rfl #[.slice A0 l0.length c0] rfl (by (try simp only [List.map_toArray, List.map_cons, List.map_nil]); first | done | rfl | (simp only [List.length_drop, List.length_take]; rfl)) ?_; (with_reducible refine (spec_DrawReadCode.calls k _ _ l0 t264 _ ?side1 ?side2 A11.out).mono ?_); (case side1 => repeat (first | exact (Kd.C_below HR0.out HB.out) | (with_reducible refine Kd.C_alloc ?_ _) | (with_reducible refine Kd.C_drewN ?_ _) | (with_reducible refine Kd.C_drew ?_))); (case side2 => exact HC0.out); rintro e w18 ⟨rfl, hb⟩; refine ⟨_, rfl, ?_⟩; have n0_ := Aside0.mk (below_step (by repeat (first | (with_reducible first | exact HB.out | apply below_alloc | apply pw_below_drewN | apply below_drew1) | exact HB.out)) hb); clear HB; have HB := n0_; clear n0_; (try clear hb); (try clear hb2); (try clear hk); (try clear hi)) | ((with_reducible refine gate_callee (f := 9) rfl ?_); refine goesL_ (some 71) rfl rfl Tryd.func9 (by kernel_rfl) rfl #[.string t264] rfl (by (try simp only [List.map_toArray, List.map_cons, List.map_nil]); first | done | rfl | (simp only [List.length_drop, List.length_take]; rfl)) ?_; (with_reducible refine (impl_ReadCode.calls t264 t265 t266 _ A12.out (laidT_below ht.out ?sidet) (laidE_below he.out ?sidee)).mono ?_); (case sidet => repeat (first | (with_reducible first | exact HB.out | apply below_alloc | apply pw_below_drewN | apply below_drew1) | exact HB.out)); (case sidee => repeat (first | (with_reducible first | exact HB.out | apply below_alloc | apply pw_below_drewN | apply below_drew1) | exact HB.out)); rintro e w19 ⟨rfl, hb⟩; refine ⟨_, rfl, ?_⟩; have n0_ := Aside0.mk (below_step (by repeat (first | (with_reducible first | exact HB.out | apply below_alloc | apply pw_below_drewN | apply below_drew1) | exact HB.out)) hb); clear HB; have HB := n0_; clear n0_; (try clear hb); (try clear hb2); (try clear hk); (try clear hi)) | ((with_reducible refine gate_callee (f := 8) rfl ?_); refine goesL_ (some 76) rfl rfl Tryd.func8 (by kernel_rfl) rfl #[.string t264] rfl (by (try simp only [List.map_toArray, List.map_cons, List.map_nil]); first | done | rfl | (simp only [List.length_drop, List.length_take]; rfl)) ?_; (with_reducible refine (spec_ReadCode.calls k t264 t267 t268 _ A13.out).mono ?_); rintro e w20 ⟨rfl, hb⟩; refine ⟨_, rfl, ?_⟩; have n0_ := Aside0.mk (below_step (by repeat (first | (with_reducible first | exact HB.out | apply below_alloc | apply pw_below_drewN | apply below_drew1) | exact HB.out)) hb); clear HB; have HB := n0_; clear n0_; (try clear hb); (try clear hb2); (try clear hk); (try clear hi)))
    (try simp only [Act.put, List.setIfInBounds_toArray, List.set_cons_zero, List.set_cons_succ])
    go_cut [133] (fun v133 wc => ∃ (kq : Nat) (x133_13 : Bool), v133 = .bool x133_13 ∧ Aside0 (laws_FnCodes.j0 kq t250 t251 t252 t253 x133_13 = some r) ∧ Aside0 (kq ≤ k) ∧ Aside0 (Below w.heap.size w wc))
    case first => as_aux_lemma =>
      have H := HC14.out
      clear HC14
      by_cases c21 : t253 = t255
      · rw [if_pos c21] at H
        have c21b0 : (t253 == t255) = true := beq_iff_eq.mpr c21
        have c21b1 : (t253 != t255) = false := bne_eq_false_iff_eq.mpr c21
        clear c21
        (first | rw [c21b0] | (simp only [i64_w, i32_w]; rw [c21b0]) | skip)
        by_cases c22 : t252 = t254
        · rw [if_pos c22] at H
          have c22b0 : (t252 == t254) = true := beq_iff_eq.mpr c22
          have c22b1 : (t252 != t254) = false := bne_eq_false_iff_eq.mpr c22
          clear c22
          by_cases c23 : t259 = t262
          · rw [if_pos c23] at H
            have c23b0 : (t259 == t262) = true := beq_iff_eq.mpr c23
            have c23b1 : (t259 != t262) = false := bne_eq_false_iff_eq.mpr c23
            clear c23
            by_cases c24 : t257 = t260
            · rw [if_pos c24] at H
              have c24b0 : (t257 == t260) = true := beq_iff_eq.mpr c24
              have c24b1 : (t257 != t260) = false := bne_eq_false_iff_eq.mpr c24
              clear c24
              by_cases c25 : t258 = t261
              · rw [if_pos c25] at H
                have c25b0 : (t258 == t261) = true := beq_iff_eq.mpr c25
                have c25b1 : (t258 != t261) = false := bne_eq_false_iff_eq.mpr c25
                clear c25
                replace H := Option.bind_eq_some_iff.mp H
                obtain ⟨t269, A260, H⟩ := H
                replace H : (if t263.toList = t269.toList then (if (t266 != t268) = true then (laws_FnCodes.j0 k t250 t251 t252 t253 true) else (if t265 = t267 then ((impl_IsCode.f t256).bind fun t270 => (if (t270 != (t262 == 0)) = true then (laws_FnCodes.j0 k t250 t251 t252 t253 true) else (if t266 = true then ((impl_CodeText.f t265).bind fun t271 => (laws_FnCodes.j0 k t250 t251 t252 t253 (t271.toList != t264.toList))) else (laws_FnCodes.j0 k t250 t251 t252 t253 false)))) else (laws_FnCodes.j0 k t250 t251 t252 t253 true))) else (laws_FnCodes.j0 k t250 t251 t252 t253 true)) = some r := H
                have A26 := Aside0.mk A260
                clear A260
                by_cases c27 : t263.toList = t269.toList
                · rw [if_pos c27] at H
                  have c27b0 : (t263.toList == t269.toList) = true := beq_iff_eq.mpr c27
                  have c27b1 : (t263.toList != t269.toList) = false := bne_eq_false_iff_eq.mpr c27
                  clear c27
                  by_cases c28 : (t266 != t268) = true
                  · rw [if_pos c28] at H
                    have c28b0 : (t266 != t268) = true := c28
                    (try (have c28b1 : decide (t266 = t268) = false := by simpa using c28))
                    (try (have c28b2 : (t266 == t268) = false := by simpa using c28))
                    (try (have c28b3 : ¬ (t266 = t268) := by simpa using c28))
                    clear c28
                    have H' := Aside0.mk H
                    clear H
                    go_wp2_with (first | (go_at_call 6; (with_reducible refine (spec_CodeText.calls k t256 t269 _ A26.out).mono ?_); rintro e w29 ⟨rfl, hb⟩; have n0_ := Aside0.mk (below_step (by repeat (first | (with_reducible first | exact HB.out | apply below_alloc | apply pw_below_drewN | apply below_drew1) | exact HB.out)) hb); clear HB; have HB := n0_; clear n0_; (try clear hb); (try clear hb2); (try clear hk); (try clear hi)))
                    go_meet
                    case rel => exact ⟨_, (true), (by first | rfl | (simp; done) | (simp [*]; done)), H', ⟨by first | omega | exact Nat.le_refl _⟩, ⟨by repeat (first | (with_reducible first | exact HB.out | apply below_alloc | apply pw_below_drewN | apply below_drew1) | exact HB.out)⟩⟩
                  · rw [if_neg c28] at H
                    have c28b0 : (t266 != t268) = false := by simpa using c28
                    (try (have c28b1 : decide (t266 = t268) = true := by simpa using c28))
                    (try (have c28b2 : (t266 == t268) = true := by simpa using c28))
                    clear c28
                    by_cases c30 : t265 = t267
                    · rw [if_pos c30] at H
                      have c30b0 : (t265 == t267) = true := beq_iff_eq.mpr c30
                      have c30b1 : (t265 != t267) = false := bne_eq_false_iff_eq.mpr c30
                      clear c30
                      replace H := Option.bind_eq_some_iff.mp H
                      obtain ⟨t270, A310, H⟩ := H
                      replace H : (if (t270 != (t262 == 0)) = true then (laws_FnCodes.j0 k t250 t251 t252 t253 true) else (if t266 = true then ((impl_CodeText.f t265).bind fun t271 => (laws_FnCodes.j0 k t250 t251 t252 t253 (t271.toList != t264.toList))) else (laws_FnCodes.j0 k t250 t251 t252 t253 false))) = some r := H
                      have A31 := Aside0.mk A310
                      clear A310
                      by_cases c32 : (t270 != (t262 == 0)) = true
                      · rw [if_pos c32] at H
                        have c32b0 : (t270 != (t262 == 0)) = true := c32
                        (try (have c32b1 : decide (t270 = (t262 == 0)) = false := by simpa using c32))
                        (try (have c32b2 : (t270 == (t262 == 0)) = false := by simpa using c32))
                        (try (have c32b3 : ¬ (t270 = (t262 == 0)) := by simpa using c32))
                        clear c32
                        have H' := Aside0.mk H
                        clear H
                        go_wp2_with (first | (go_at_call 6; (with_reducible refine (spec_CodeText.calls k t256 t269 _ A26.out).mono ?_); rintro e w33 ⟨rfl, hb⟩; have n0_ := Aside0.mk (below_step (by repeat (first | (with_reducible first | exact HB.out | apply below_alloc | apply pw_below_drewN | apply below_drew1) | exact HB.out)) hb); clear HB; have HB := n0_; clear n0_; (try clear hb); (try clear hb2); (try clear hk); (try clear hi)) | (go_at_call 18; (with_reducible refine (impl_IsCode.calls t256 t270 _ A31.out).mono ?_); rintro e w' ⟨rfl, ⟨nd, rfl⟩⟩))
                        go_meet
                        case rel => exact ⟨_, (true), (by first | rfl | (simp; done) | (simp [*]; done)), H', ⟨by first | omega | exact Nat.le_refl _⟩, ⟨by repeat (first | (with_reducible first | exact HB.out | apply below_alloc | apply pw_below_drewN | apply below_drew1) | exact HB.out)⟩⟩
                      · rw [if_neg c32] at H
                        have c32b0 : (t270 != (t262 == 0)) = false := by simpa using c32
                        (try (have c32b1 : decide (t270 = (t262 == 0)) = true := by simpa using c32))
                        (try (have c32b2 : (t270 == (t262 == 0)) = true := by simpa using c32))
                        clear c32
                        by_cases c34 : t266 = true
                        · subst c34
                          have H1 : ((impl_CodeText.f t265).bind fun t271 => (laws_FnCodes.j0 k t250 t251 t252 t253 (t271.toList != t264.toList))) = some r := by rw [if_pos rfl] at H; exact H
                          clear H
                          have H := H1
                          clear H1
                          replace H := Option.bind_eq_some_iff.mp H
                          obtain ⟨t271, A350, H⟩ := H
                          replace H : (laws_FnCodes.j0 k t250 t251 t252 t253 (t271.toList != t264.toList)) = some r := H
                          have A35 := Aside0.mk A350
                          clear A350
                          have H' := Aside0.mk H
                          clear H
                          go_wp2_with (first | (go_at_call 6; (with_reducible refine (spec_CodeText.calls k t256 t269 _ A26.out).mono ?_); rintro e w36 ⟨rfl, hb⟩; have n0_ := Aside0.mk (below_step (by repeat (first | (with_reducible first | exact HB.out | apply below_alloc | apply pw_below_drewN | apply below_drew1) | exact HB.out)) hb); clear HB; have HB := n0_; clear n0_; (try clear hb); (try clear hb2); (try clear hk); (try clear hi)) | (go_at_call 18; (with_reducible refine (impl_IsCode.calls t256 t270 _ A31.out).mono ?_); rintro e w' ⟨rfl, ⟨nd, rfl⟩⟩) | (go_at_call 7; (with_reducible refine (impl_CodeText.calls t265 t271 _ A35.out (laidT_below ht.out ?sidet)).mono ?_); (case sidet => repeat (first | (with_reducible first | exact HB.out | apply below_alloc | apply pw_below_drewN | apply below_drew1) | exact HB.out)); rintro e w37 ⟨rfl, hb⟩; have n0_ := Aside0.mk (below_step (by repeat (first | (with_reducible first | exact HB.out | apply below_alloc | apply pw_below_drewN | apply below_drew1) | exact HB.out)) hb); clear HB; have HB := n0_; clear n0_; (try clear hb); (try clear hb2); (try clear hk); (try clear hi)))
                          go_meet
                          case rel => exact ⟨_, ((t271.toList != t264.toList)), (by first | rfl | (simp; done) | (simp [*]; done)), H', ⟨by first | omega | exact Nat.le_refl _⟩, ⟨by repeat (first | (with_reducible first | exact HB.out | apply below_alloc | apply pw_below_drewN | apply below_drew1) | exact HB.out)⟩⟩
                        · replace c34 := Bool.eq_false_iff.mpr c34
                          subst c34
                          have H1 : (laws_FnCodes.j0 k t250 t251 t252 t253 false) = some r := by rw [if_neg (show ¬ (false = true) by decide)] at H; exact H
                          clear H
                          have H := H1
                          clear H1
                          have H' := Aside0.mk H
                          clear H
                          go_wp2_with (first | (go_at_call 6; (with_reducible refine (spec_CodeText.calls k t256 t269 _ A26.out).mono ?_); rintro e w38 ⟨rfl, hb⟩; have n0_ := Aside0.mk (below_step (by repeat (first | (with_reducible first | exact HB.out | apply below_alloc | apply pw_below_drewN | apply below_drew1) | exact HB.out)) hb); clear HB; have HB := n0_; clear n0_; (try clear hb); (try clear hb2); (try clear hk); (try clear hi)) | (go_at_call 18; (with_reducible refine (impl_IsCode.calls t256 t270 _ A31.out).mono ?_); rintro e w' ⟨rfl, ⟨nd, rfl⟩⟩))
                          go_meet
                          case rel => exact ⟨_, (false), (by first | rfl | (simp; done) | (simp [*]; done)), H', ⟨by first | omega | exact Nat.le_refl _⟩, ⟨by repeat (first | (with_reducible first | exact HB.out | apply below_alloc | apply pw_below_drewN | apply below_drew1) | exact HB.out)⟩⟩
                    · rw [if_neg c30] at H
                      have c30b0 : (t265 == t267) = false := beq_eq_false_iff_ne.mpr c30
                      have c30b1 : (t265 != t267) = true := bne_iff_ne.mpr c30
                      have H' := Aside0.mk H
                      clear H
                      go_wp2_with (first | (go_at_call 6; (with_reducible refine (spec_CodeText.calls k t256 t269 _ A26.out).mono ?_); rintro e w39 ⟨rfl, hb⟩; have n0_ := Aside0.mk (below_step (by repeat (first | (with_reducible first | exact HB.out | apply below_alloc | apply pw_below_drewN | apply below_drew1) | exact HB.out)) hb); clear HB; have HB := n0_; clear n0_; (try clear hb); (try clear hb2); (try clear hk); (try clear hi)))
                      go_meet
                      case rel => exact ⟨_, (true), (by first | rfl | (simp; done) | (simp [*]; done)), H', ⟨by first | omega | exact Nat.le_refl _⟩, ⟨by repeat (first | (with_reducible first | exact HB.out | apply below_alloc | apply pw_below_drewN | apply below_drew1) | exact HB.out)⟩⟩
                · rw [if_neg c27] at H
                  have c27b0 : (t263.toList == t269.toList) = false := beq_eq_false_iff_ne.mpr c27
                  have c27b1 : (t263.toList != t269.toList) = true := bne_iff_ne.mpr c27
                  have H' := Aside0.mk H
                  clear H
                  go_wp2_with (first | (go_at_call 6; (with_reducible refine (spec_CodeText.calls k t256 t269 _ A26.out).mono ?_); rintro e w40 ⟨rfl, hb⟩; have n0_ := Aside0.mk (below_step (by repeat (first | (with_reducible first | exact HB.out | apply below_alloc | apply pw_below_drewN | apply below_drew1) | exact HB.out)) hb); clear HB; have HB := n0_; clear n0_; (try clear hb); (try clear hb2); (try clear hk); (try clear hi)))
                  go_meet
                  case rel => exact ⟨_, (true), (by first | rfl | (simp; done) | (simp [*]; done)), H', ⟨by first | omega | exact Nat.le_refl _⟩, ⟨by repeat (first | (with_reducible first | exact HB.out | apply below_alloc | apply pw_below_drewN | apply below_drew1) | exact HB.out)⟩⟩
              · rw [if_neg c25] at H
                have c25b0 : (t258 == t261) = false := beq_eq_false_iff_ne.mpr c25
                have c25b1 : (t258 != t261) = true := bne_iff_ne.mpr c25
                have H' := Aside0.mk H
                clear H
                go_wp2
                go_meet
                case rel => exact ⟨_, (true), (by first | rfl | (simp; done) | (simp [*]; done)), H', ⟨by first | omega | exact Nat.le_refl _⟩, ⟨by repeat (first | (with_reducible first | exact HB.out | apply below_alloc | apply pw_below_drewN | apply below_drew1) | exact HB.out)⟩⟩
            · rw [if_neg c24] at H
              have c24b0 : (t257 == t260) = false := beq_eq_false_iff_ne.mpr c24
              have c24b1 : (t257 != t260) = true := bne_iff_ne.mpr c24
              have H' := Aside0.mk H
              clear H
              go_wp2
              go_meet
              case rel => exact ⟨_, (true), (by first | rfl | (simp; done) | (simp [*]; done)), H', ⟨by first | omega | exact Nat.le_refl _⟩, ⟨by repeat (first | (with_reducible first | exact HB.out | apply below_alloc | apply pw_below_drewN | apply below_drew1) | exact HB.out)⟩⟩
          · rw [if_neg c23] at H
            have c23b0 : (t259 == t262) = false := beq_eq_false_iff_ne.mpr c23
            have c23b1 : (t259 != t262) = true := bne_iff_ne.mpr c23
            have H' := Aside0.mk H
            clear H
            go_wp2
            go_meet
            case rel => exact ⟨_, (true), (by first | rfl | (simp; done) | (simp [*]; done)), H', ⟨by first | omega | exact Nat.le_refl _⟩, ⟨by repeat (first | (with_reducible first | exact HB.out | apply below_alloc | apply pw_below_drewN | apply below_drew1) | exact HB.out)⟩⟩
        · rw [if_neg c22] at H
          have c22b0 : (t252 == t254) = false := beq_eq_false_iff_ne.mpr c22
          have c22b1 : (t252 != t254) = true := bne_iff_ne.mpr c22
          have H' := Aside0.mk H
          clear H
          go_wp2
          go_meet
          case rel => exact ⟨_, (true), (by first | rfl | (simp; done) | (simp [*]; done)), H', ⟨by first | omega | exact Nat.le_refl _⟩, ⟨by repeat (first | (with_reducible first | exact HB.out | apply below_alloc | apply pw_below_drewN | apply below_drew1) | exact HB.out)⟩⟩
      · rw [if_neg c21] at H
        have c21b0 : (t253 == t255) = false := beq_eq_false_iff_ne.mpr c21
        have c21b1 : (t253 != t255) = true := bne_iff_ne.mpr c21
        (first | rw [c21b0] | (simp only [i64_w, i32_w]; rw [c21b0]) | skip)
        have H' := Aside0.mk H
        clear H
        go_wp2
        go_meet
        case rel => exact ⟨_, (true), (by first | rfl | (simp; done) | (simp [*]; done)), H', ⟨by first | omega | exact Nat.le_refl _⟩, ⟨by repeat (first | (with_reducible first | exact HB.out | apply below_alloc | apply pw_below_drewN | apply below_drew1) | exact HB.out)⟩⟩
    case rest => as_aux_lemma =>
      clear HC14
      try clear c1
      try clear c2
      try clear p2
      try clear c3
      try clear c5
      try clear c7
      try clear c8
      try clear c9
      try clear c10
      try clear c11
      try clear c12
      try clear c13
      try clear c14
      try clear c15
      try clear c16
      try clear c17
      try clear c21
      try clear c21b0
      try clear c21b1
      try clear c22
      try clear c22b0
      try clear c22b1
      try clear c23
      try clear c23b0
      try clear c23b1
      try clear c24
      try clear c24b0
      try clear c24b1
      try clear c25
      try clear c25b0
      try clear c25b1
      try clear c27
      try clear c27b0
      try clear c27b1
      try clear c28
      try clear c28b0
      try clear c28b1
      try clear c28b2
      try clear c30
      try clear c30b0
      try clear c30b1
      try clear c32
      try clear c32b0
      try clear c32b1
      try clear c32b2
      try clear c34
      obtain ⟨kq, x133_13, rfl, HA, HJ13, HB⟩ := hcut
      cases kq with
      | zero => exact absurd HA.out (by simp [laws_FnCodes.j0])
      | succ kj13 =>
        have H := HA.out
        clear HA
        simp only [laws_FnCodes.j0] at H
        by_cases c41 : x133_13 = true
        · subst c41
          have H1 : (some false) = some r := by rw [if_pos rfl] at H; exact H
          clear H
          have H := H1
          clear H1
          obtain rfl := Option.some.inj H
          go_wp2
          go_ret
          exact ⟨by first | rfl | (simp [errW_none, errW_some] <;> rfl) | (simp [*, errW_none, errW_some] <;> rfl), by repeat (first | (with_reducible first | exact HB.out | apply below_alloc | apply pw_below_drewN | apply below_drew1) | exact HB.out)⟩
        · replace c41 := Bool.eq_false_iff.mpr c41
          subst c41
          have H1 : (if t253 = 0 then ((impl_PartsOfCode.f t252).bind fun bt272 => ((impl_CodeText.f t252).bind fun t275 => ((impl_ReadCode.f t275).bind fun bt276 => (if bt272.2.2 = 0 then (if bt272.1 = t250 then (if bt272.2.1 = t251 then (if bt276.2 = true then (laws_FnCodes.j1 kj13 t252 (bt276.1 != t252)) else (laws_FnCodes.j1 kj13 t252 true)) else (laws_FnCodes.j1 kj13 t252 true)) else (laws_FnCodes.j1 kj13 t252 true)) else (laws_FnCodes.j1 kj13 t252 true))))) else (some true)) = some r := by rw [if_neg (show ¬ (false = true) by decide)] at H; exact H
          clear H
          have H := H1
          clear H1
          by_cases c42 : t253 = 0
          · rw [if_pos c42] at H
            have c42b0 : (t253 == 0) = true := beq_iff_eq.mpr c42
            have c42b1 : (t253 != 0) = false := bne_eq_false_iff_eq.mpr c42
            clear c42
            replace H := Option.bind_eq_some_iff.mp H
            obtain ⟨⟨t272, t273, t274⟩, A430, H⟩ := H
            replace H : ((impl_CodeText.f t252).bind fun t275 => ((impl_ReadCode.f t275).bind fun bt276 => (if t274 = 0 then (if t272 = t250 then (if t273 = t251 then (if bt276.2 = true then (laws_FnCodes.j1 kj13 t252 (bt276.1 != t252)) else (laws_FnCodes.j1 kj13 t252 true)) else (laws_FnCodes.j1 kj13 t252 true)) else (laws_FnCodes.j1 kj13 t252 true)) else (laws_FnCodes.j1 kj13 t252 true)))) = some r := H
            have A43 := Aside0.mk A430
            clear A430
            replace H := Option.bind_eq_some_iff.mp H
            obtain ⟨t275, A440, H⟩ := H
            replace H : ((impl_ReadCode.f t275).bind fun bt276 => (if t274 = 0 then (if t272 = t250 then (if t273 = t251 then (if bt276.2 = true then (laws_FnCodes.j1 kj13 t252 (bt276.1 != t252)) else (laws_FnCodes.j1 kj13 t252 true)) else (laws_FnCodes.j1 kj13 t252 true)) else (laws_FnCodes.j1 kj13 t252 true)) else (laws_FnCodes.j1 kj13 t252 true))) = some r := H
            have A44 := Aside0.mk A440
            clear A440
            replace H := Option.bind_eq_some_iff.mp H
            obtain ⟨⟨t276, t277⟩, A450, H⟩ := H
            replace H : (if t274 = 0 then (if t272 = t250 then (if t273 = t251 then (if t277 = true then (laws_FnCodes.j1 kj13 t252 (t276 != t252)) else (laws_FnCodes.j1 kj13 t252 true)) else (laws_FnCodes.j1 kj13 t252 true)) else (laws_FnCodes.j1 kj13 t252 true)) else (laws_FnCodes.j1 kj13 t252 true)) = some r := H
            have A45 := Aside0.mk A450
            clear A450
            have HC46 := Aside0.mk H
            clear H
            go_upto_region 19 with (first | ((with_reducible refine gate_callee (f := 15) rfl ?_); refine goesL_ (some 138) rfl rfl Tryd.func15 (by kernel_rfl) rfl #[.int .i64 t252] rfl (by (try simp only [List.map_toArray, List.map_cons, List.map_nil]); first | done | rfl | (simp only [List.length_drop, List.length_take]; rfl)) ?_; (with_reducible refine (impl_PartsOfCode.calls t252 t272 t273 t274 _ A43.out).mono ?_); rintro e w' ⟨rfl, ⟨nd, rfl⟩⟩; refine ⟨_, rfl, ?_⟩) | ((with_reducible refine gate_callee (f := 7) rfl ?_); refine goesL_ (some 144) rfl rfl Tryd.func7 (by kernel_rfl) rfl #[.int .i64 t252] rfl (by (try simp only [List.map_toArray, List.map_cons, List.map_nil]); first | done | rfl | (simp only [List.length_drop, List.length_take]; rfl)) ?_; (with_reducible refine (impl_CodeText.calls t252 t275 _ A44.out (laidT_below ht.out ?sidet)).mono ?_); (case sidet => repeat (first | (with_reducible first | exact HB.out | apply below_alloc | apply pw_below_drewN | apply below_drew1) | exact HB.out)); rintro e w47 ⟨rfl, hb⟩; refine ⟨_, rfl, ?_⟩; have n0_ := Aside0.mk (below_step (by repeat (first | (with_reducible first | exact HB.out | apply below_alloc | apply pw_below_drewN | apply below_drew1) | exact HB.out)) hb); clear HB; have HB := n0_; clear n0_; (try clear hb); (try clear hb2); (try clear hk); (try clear hi)) | ((with_reducible refine gate_callee (f := 9) rfl ?_); refine goesL_ (some 145) rfl rfl Tryd.func9 (by kernel_rfl) rfl #[.string t275] rfl (by (try simp only [List.map_toArray, List.map_cons, List.map_nil]); first | done | rfl | (simp only [List.length_drop, List.length_take]; rfl)) ?_; (with_reducible refine (impl_ReadCode.calls t275 t276 t277 _ A45.out (laidT_below ht.out ?sidet) (laidE_below he.out ?sidee)).mono ?_); (case sidet => repeat (first | (with_reducible first | exact HB.out | apply below_alloc | apply pw_below_drewN | apply below_drew1) | exact HB.out)); (case sidee => repeat (first | (with_reducible first | exact HB.out | apply below_alloc | apply pw_below_drewN | apply below_drew1) | exact HB.out)); rintro e w48 ⟨rfl, hb⟩; refine ⟨_, rfl, ?_⟩; have n0_ := Aside0.mk (below_step (by repeat (first | (with_reducible first | exact HB.out | apply below_alloc | apply pw_below_drewN | apply below_drew1) | exact HB.out)) hb); clear HB; have HB := n0_; clear n0_; (try clear hb); (try clear hb2); (try clear hk); (try clear hi)))
            (try simp only [Act.put, List.setIfInBounds_toArray, List.set_cons_zero, List.set_cons_succ])
            go_cut [168] (fun v168 wc => ∃ (kq : Nat) (x168_45 : Bool), v168 = .bool x168_45 ∧ Aside0 (laws_FnCodes.j1 kq t252 x168_45 = some r) ∧ Aside0 (kq ≤ kj13) ∧ Aside0 (Below w.heap.size w wc))
            case first => as_aux_lemma =>
              have H := HC46.out
              clear HC46
              by_cases c49 : t274 = 0
              · rw [if_pos c49] at H
                have c49b0 : (t274 == 0) = true := beq_iff_eq.mpr c49
                have c49b1 : (t274 != 0) = false := bne_eq_false_iff_eq.mpr c49
                clear c49
                (first | rw [c49b0] | (simp only [i64_w, i32_w]; rw [c49b0]) | skip)
                by_cases c50 : t272 = t250
                · rw [if_pos c50] at H
                  have c50b0 : (t272 == t250) = true := beq_iff_eq.mpr c50
                  have c50b1 : (t272 != t250) = false := bne_eq_false_iff_eq.mpr c50
                  clear c50
                  by_cases c51 : t273 = t251
                  · rw [if_pos c51] at H
                    have c51b0 : (t273 == t251) = true := beq_iff_eq.mpr c51
                    have c51b1 : (t273 != t251) = false := bne_eq_false_iff_eq.mpr c51
                    clear c51
                    by_cases c52 : t277 = true
                    · subst c52
                      have H1 : (laws_FnCodes.j1 kj13 t252 (t276 != t252)) = some r := by rw [if_pos rfl] at H; exact H
                      clear H
                      have H := H1
                      clear H1
                      have H' := Aside0.mk H
                      clear H
                      go_wp2
                      go_meet
                      case rel => exact ⟨_, ((t276 != t252)), (by first | rfl | (simp; done) | (simp [*]; done)), H', ⟨by have := HJ13.out; first | omega | exact Nat.le_refl _⟩, ⟨by repeat (first | (with_reducible first | exact HB.out | apply below_alloc | apply pw_below_drewN | apply below_drew1) | exact HB.out)⟩⟩
                    · replace c52 := Bool.eq_false_iff.mpr c52
                      subst c52
                      have H1 : (laws_FnCodes.j1 kj13 t252 true) = some r := by rw [if_neg (show ¬ (false = true) by decide)] at H; exact H
                      clear H
                      have H := H1
                      clear H1
                      have H' := Aside0.mk H
                      clear H
                      go_wp2
                      go_meet
                      case rel => exact ⟨_, (true), (by first | rfl | (simp; done) | (simp [*]; done)), H', ⟨by have := HJ13.out; first | omega | exact Nat.le_refl _⟩, ⟨by repeat (first | (with_reducible first | exact HB.out | apply below_alloc | apply pw_below_drewN | apply below_drew1) | exact HB.out)⟩⟩
                  · rw [if_neg c51] at H
                    have c51b0 : (t273 == t251) = false := beq_eq_false_iff_ne.mpr c51
                    have c51b1 : (t273 != t251) = true := bne_iff_ne.mpr c51
                    have H' := Aside0.mk H
                    clear H
                    go_wp2
                    go_meet
                    case rel => exact ⟨_, (true), (by first | rfl | (simp; done) | (simp [*]; done)), H', ⟨by have := HJ13.out; first | omega | exact Nat.le_refl _⟩, ⟨by repeat (first | (with_reducible first | exact HB.out | apply below_alloc | apply pw_below_drewN | apply below_drew1) | exact HB.out)⟩⟩
                · rw [if_neg c50] at H
                  have c50b0 : (t272 == t250) = false := beq_eq_false_iff_ne.mpr c50
                  have c50b1 : (t272 != t250) = true := bne_iff_ne.mpr c50
                  have H' := Aside0.mk H
                  clear H
                  go_wp2
                  go_meet
                  case rel => exact ⟨_, (true), (by first | rfl | (simp; done) | (simp [*]; done)), H', ⟨by have := HJ13.out; first | omega | exact Nat.le_refl _⟩, ⟨by repeat (first | (with_reducible first | exact HB.out | apply below_alloc | apply pw_below_drewN | apply below_drew1) | exact HB.out)⟩⟩
              · rw [if_neg c49] at H
                have c49b0 : (t274 == 0) = false := beq_eq_false_iff_ne.mpr c49
                have c49b1 : (t274 != 0) = true := bne_iff_ne.mpr c49
                (first | rw [c49b0] | (simp only [i64_w, i32_w]; rw [c49b0]) | skip)
                have H' := Aside0.mk H
                clear H
                go_wp2
                go_meet
                case rel => exact ⟨_, (true), (by first | rfl | (simp; done) | (simp [*]; done)), H', ⟨by have := HJ13.out; first | omega | exact Nat.le_refl _⟩, ⟨by repeat (first | (with_reducible first | exact HB.out | apply below_alloc | apply pw_below_drewN | apply below_drew1) | exact HB.out)⟩⟩
            case rest => as_aux_lemma =>
              clear HC46
              try clear c1
              try clear c2
              try clear p2
              try clear c3
              try clear c4
              try clear c5
              try clear c7
              try clear c8
              try clear c9
              try clear c10
              try clear c11
              try clear c12
              try clear c13
              try clear c14
              try clear c15
              try clear c16
              try clear c17
              try clear c21
              try clear c21b0
              try clear c21b1
              try clear c22
              try clear c22b0
              try clear c22b1
              try clear c23
              try clear c23b0
              try clear c23b1
              try clear c24
              try clear c24b0
              try clear c24b1
              try clear c25
              try clear c25b0
              try clear c25b1
              try clear c27
              try clear c27b0
              try clear c27b1
              try clear c28
              try clear c28b0
              try clear c28b1
              try clear c28b2
              try clear c30
              try clear c30b0
              try clear c30b1
              try clear c32
              try clear c32b0
              try clear c32b1
              try clear c32b2
              try clear c34
              try clear c41
              try clear c42
              try clear c42b0
              try clear c42b1
              try clear c49
              try clear c49b0
              try clear c49b1
              try clear c50
              try clear c50b0
              try clear c50b1
              try clear c51
              try clear c51b0
              try clear c51b1
              try clear c52
              try clear p2
              obtain ⟨kq, x168_45, rfl, HA, HJ45, HB⟩ := hcut
              cases kq with
              | zero => exact absurd HA.out (by simp [laws_FnCodes.j1])
              | succ kj45 =>
                have H := HA.out
                clear HA
                simp only [laws_FnCodes.j1] at H
                by_cases c53 : x168_45 = true
                · subst c53
                  have H1 : (some false) = some r := by rw [if_pos rfl] at H; exact H
                  clear H
                  have H := H1
                  clear H1
                  obtain rfl := Option.some.inj H
                  go_wp2
                  go_ret
                  exact ⟨by first | rfl | (simp [errW_none, errW_some] <;> rfl) | (simp [*, errW_none, errW_some] <;> rfl), by repeat (first | (with_reducible first | exact HB.out | apply below_alloc | apply pw_below_drewN | apply below_drew1) | exact HB.out)⟩
                · replace c53 := Bool.eq_false_iff.mpr c53
                  subst c53
                  have H1 : (laws_FnCodes.l0 kj45 t252 1 0) = some r := by rw [if_neg (show ¬ (false = true) by decide)] at H; exact H
                  clear H
                  have H := H1
                  clear H1
                  have H' := Aside0.mk H
                  clear H
                  go_wp2
                  go_loopg [27, 28] kj45 (fun kq v27 v28 w' => ∃ (x27_3 : Int) (x28_3 : Int), v27 = .int .i64 x27_3 ∧ v28 = .int .i64 x28_3 ∧ Aside0 (laws_FnCodes.l0 kq t252 x27_3 x28_3 = some r) ∧ Aside0 (kq ≤ kj45) ∧ Aside0 (Below w.heap.size w w'))
                  case atStart => exact ⟨(1), (0), (by first | rfl | (simp; done) | (simp [*]; done)), (by first | rfl | (simp; done) | (simp [*]; done)), H', ⟨Nat.le_refl _⟩, ⟨by repeat (first | (with_reducible first | exact HB.out | apply below_alloc | apply pw_below_drewN | apply below_drew1) | exact HB.out)⟩⟩
                  case round => as_aux_lemma =>
                    clear H'
                    try clear c1
                    try clear c2
                    try clear p2
                    try clear c3
                    try clear c4
                    try clear c5
                    try clear c7
                    try clear c8
                    try clear c9
                    try clear c10
                    try clear c11
                    try clear c12
                    try clear c13
                    try clear c14
                    try clear c15
                    try clear c16
                    try clear c17
                    try clear c21
                    try clear c21b0
                    try clear c21b1
                    try clear c22
                    try clear c22b0
                    try clear c22b1
                    try clear c23
                    try clear c23b0
                    try clear c23b1
                    try clear c24
                    try clear c24b0
                    try clear c24b1
                    try clear c25
                    try clear c25b0
                    try clear c25b1
                    try clear c27
                    try clear c27b0
                    try clear c27b1
                    try clear c28
                    try clear c28b0
                    try clear c28b1
                    try clear c28b2
                    try clear c30
                    try clear c30b0
                    try clear c30b1
                    try clear c32
                    try clear c32b0
                    try clear c32b1
                    try clear c32b2
                    try clear c34
                    try clear c41
                    try clear c42
                    try clear c42b0
                    try clear c42b1
                    try clear c49
                    try clear c49b0
                    try clear c49b1
                    try clear c50
                    try clear c50b0
                    try clear c50b1
                    try clear c51
                    try clear c51b0
                    try clear c51b1
                    try clear c52
                    try clear c53
                    try clear p2
                    obtain ⟨x27_3, x28_3, rfl, rfl, HA, HK3, HB⟩ := hrel
                    cases gk with
                    | zero => exact absurd HA.out (by simp [laws_FnCodes.l0])
                    | succ k3 =>
                      have H := HA.out
                      clear HA
                      simp only [laws_FnCodes.l0] at H
                      by_cases c54 : x28_3 < 7
                      · rw [if_pos c54] at H
                        have c54b0 : decide (x28_3 < 7) = true := decide_eq_true c54
                        clear c54
                        by_cases c55 : x27_3 = 0
                        · rw [if_pos c55] at H
                          exact absurd H (by simp)
                        · rw [if_neg c55] at H
                          have c55b0 : (x27_3 == 0) = false := beq_eq_false_iff_ne.mpr c55
                          have c55b1 : (x27_3 != 0) = true := bne_iff_ne.mpr c55
                          have H' := Aside0.mk H
                          clear H
                          go_wp2
                          go_loopg [30] k3 (fun kq v30 w' => ∃ (x30_4 : Int), v30 = .int .i64 x30_4 ∧ Aside0 (laws_FnCodes.l1 kq t252 x27_3 x28_3 (Int.tmod (wrap64 (Int.tdiv t252 x27_3)) 10) x30_4 = some r) ∧ Aside0 (kq ≤ k3) ∧ Aside0 (Below w.heap.size w w'))
                          case atStart => exact ⟨(0), (by first | rfl | (simp; done) | (simp [*]; done)), H', ⟨Nat.le_refl _⟩, ⟨by repeat (first | (with_reducible first | exact HB.out | apply below_alloc | apply pw_below_drewN | apply below_drew1) | exact HB.out)⟩⟩
                          case round => as_aux_lemma =>
                            clear H'
                            try clear c1
                            try clear c2
                            try clear p2
                            try clear c3
                            try clear c4
                            try clear c5
                            try clear p6
                            try clear c7
                            try clear c8
                            try clear c9
                            try clear c10
                            try clear c11
                            try clear c12
                            try clear c13
                            try clear c14
                            try clear c15
                            try clear c16
                            try clear c17
                            try clear c21
                            try clear c21b0
                            try clear c21b1
                            try clear c22
                            try clear c22b0
                            try clear c22b1
                            try clear c23
                            try clear c23b0
                            try clear c23b1
                            try clear c24
                            try clear c24b0
                            try clear c24b1
                            try clear c25
                            try clear c25b0
                            try clear c25b1
                            try clear c27
                            try clear c27b0
                            try clear c27b1
                            try clear c28
                            try clear c28b0
                            try clear c28b1
                            try clear c28b2
                            try clear c30
                            try clear c30b0
                            try clear c30b1
                            try clear c32
                            try clear c32b0
                            try clear c32b1
                            try clear c32b2
                            try clear c34
                            try clear c41
                            try clear c42
                            try clear c42b0
                            try clear c42b1
                            try clear c49
                            try clear c49b0
                            try clear c49b1
                            try clear c50
                            try clear c50b0
                            try clear c50b1
                            try clear c51
                            try clear c51b0
                            try clear c51b1
                            try clear c52
                            try clear c53
                            try clear c54
                            try clear c54b0
                            try clear c55
                            try clear c55b0
                            try clear c55b1
                            try clear p2
                            obtain ⟨x30_4, rfl, HA, HK4, HB⟩ := hrel
                            cases gk with
                            | zero => exact absurd HA.out (by simp [laws_FnCodes.l1])
                            | succ k4 =>
                              have H := HA.out
                              clear HA
                              simp only [laws_FnCodes.l1] at H
                              by_cases c56 : x30_4 < 10
                              · rw [if_pos c56] at H
                                have c56b0 : decide (x30_4 < 10) = true := decide_eq_true c56
                                clear c56
                                by_cases c57 : x30_4 = (Int.tmod (wrap64 (Int.tdiv t252 x27_3)) 10)
                                · rw [if_pos c57] at H
                                  have c57b0 : (x30_4 == (Int.tmod (wrap64 (Int.tdiv t252 x27_3)) 10)) = true := beq_iff_eq.mpr c57
                                  have c57b1 : (x30_4 != (Int.tmod (wrap64 (Int.tdiv t252 x27_3)) 10)) = false := bne_eq_false_iff_eq.mpr c57
                                  clear c57
                                  have H' := Aside0.mk H
                                  clear H
                                  go_wp2
                                  go_roundg k4
                                  case measure => have := HJ13.out; have := HJ45.out; have := HK3.out; have := HK4.out; omega
                                  case rel => exact ⟨(wrap64 (x30_4 + 1)), (by first | rfl | (simp; done) | (simp [*]; done)), H', ⟨by have := HJ13.out; have := HJ45.out; have := HK3.out; have := HK4.out; omega⟩, ⟨by repeat (first | (with_reducible first | exact HB.out | apply below_alloc | apply pw_below_drewN | apply below_drew1) | exact HB.out)⟩⟩
                                · rw [if_neg c57] at H
                                  have c57b0 : (x30_4 == (Int.tmod (wrap64 (Int.tdiv t252 x27_3)) 10)) = false := beq_eq_false_iff_ne.mpr c57
                                  have c57b1 : (x30_4 != (Int.tmod (wrap64 (Int.tdiv t252 x27_3)) 10)) = true := bne_iff_ne.mpr c57
                                  replace H := Option.bind_eq_some_iff.mp H
                                  obtain ⟨t278, A580, H⟩ := H
                                  replace H : (if t278 = true then (some false) else (laws_FnCodes.l1 k4 t252 x27_3 x28_3 (Int.tmod (wrap64 (Int.tdiv t252 x27_3)) 10) (wrap64 (x30_4 + 1)))) = some r := H
                                  have A58 := Aside0.mk A580
                                  clear A580
                                  by_cases c59 : t278 = true
                                  · subst c59
                                    have H1 : (some false) = some r := by rw [if_pos rfl] at H; exact H
                                    clear H
                                    have H := H1
                                    clear H1
                                    obtain rfl := Option.some.inj H
                                    go_wp2_with (first | (go_at_call 18; (with_reducible refine (impl_IsCode.calls (wrap64 (t252 + (wrap64 ((wrap64 (x30_4 - (Int.tmod (wrap64 (Int.tdiv t252 x27_3)) 10))) * x27_3)))) true _ A58.out).mono ?_); rintro e w' ⟨rfl, ⟨nd, rfl⟩⟩))
                                    go_ret
                                    exact ⟨by first | rfl | (simp [errW_none, errW_some] <;> rfl) | (simp [*, errW_none, errW_some] <;> rfl), by repeat (first | (with_reducible first | exact HB.out | apply below_alloc | apply pw_below_drewN | apply below_drew1) | exact HB.out)⟩
                                  · replace c59 := Bool.eq_false_iff.mpr c59
                                    subst c59
                                    have H1 : (laws_FnCodes.l1 k4 t252 x27_3 x28_3 (Int.tmod (wrap64 (Int.tdiv t252 x27_3)) 10) (wrap64 (x30_4 + 1))) = some r := by rw [if_neg (show ¬ (false = true) by decide)] at H; exact H
                                    clear H
                                    have H := H1
                                    clear H1
                                    have H' := Aside0.mk H
                                    clear H
                                    go_wp2_with (first | (go_at_call 18; (with_reducible refine (impl_IsCode.calls (wrap64 (t252 + (wrap64 ((wrap64 (x30_4 - (Int.tmod (wrap64 (Int.tdiv t252 x27_3)) 10))) * x27_3)))) false _ A58.out).mono ?_); rintro e w' ⟨rfl, ⟨nd, rfl⟩⟩))
                                    go_roundg k4
                                    case measure => have := HJ13.out; have := HJ45.out; have := HK3.out; have := HK4.out; omega
                                    case rel => exact ⟨(wrap64 (x30_4 + 1)), (by first | rfl | (simp; done) | (simp [*]; done)), H', ⟨by have := HJ13.out; have := HJ45.out; have := HK3.out; have := HK4.out; omega⟩, ⟨by repeat (first | (with_reducible first | exact HB.out | apply below_alloc | apply pw_below_drewN | apply below_drew1) | exact HB.out)⟩⟩
                              · rw [if_neg c56] at H
                                have c56b0 : decide (x30_4 < 10) = false := decide_eq_false c56
                                clear c56
                                by_cases c60 : x27_3 = 0
                                · rw [if_pos c60] at H
                                  exact absurd H (by simp)
                                · rw [if_neg c60] at H
                                  have c60b0 : (x27_3 == 0) = false := beq_eq_false_iff_ne.mpr c60
                                  have c60b1 : (x27_3 != 0) = true := bne_iff_ne.mpr c60
                                  by_cases c61 : x28_3 < 6
                                  · rw [if_pos c61] at H
                                    have c61b0 : decide (x28_3 < 6) = true := decide_eq_true c61
                                    clear c61
                                    by_cases c62 : (Int.tmod (wrap64 (Int.tdiv (wrap64 (Int.tdiv t252 x27_3)) 10)) 10) = (Int.tmod (wrap64 (Int.tdiv t252 x27_3)) 10)
                                    · rw [if_pos c62] at H
                                      have c62b0 : ((Int.tmod (wrap64 (Int.tdiv (wrap64 (Int.tdiv t252 x27_3)) 10)) 10) == (Int.tmod (wrap64 (Int.tdiv t252 x27_3)) 10)) = true := beq_iff_eq.mpr c62
                                      have c62b1 : ((Int.tmod (wrap64 (Int.tdiv (wrap64 (Int.tdiv t252 x27_3)) 10)) 10) != (Int.tmod (wrap64 (Int.tdiv t252 x27_3)) 10)) = false := bne_eq_false_iff_eq.mpr c62
                                      clear c62
                                      have H' := Aside0.mk H
                                      clear H
                                      go_wp2
                                      go_roundg k4
                                      case measure => have := HJ13.out; have := HJ45.out; have := HK3.out; have := HK4.out; omega
                                      case rel => exact ⟨(wrap64 (10 * x27_3)), (wrap64 (x28_3 + 1)), (by first | rfl | (simp; done) | (simp [*]; done)), (by first | rfl | (simp; done) | (simp [*]; done)), H', ⟨by have := HJ13.out; have := HJ45.out; have := HK3.out; have := HK4.out; omega⟩, ⟨by repeat (first | (with_reducible first | exact HB.out | apply below_alloc | apply pw_below_drewN | apply below_drew1) | exact HB.out)⟩⟩
                                    · rw [if_neg c62] at H
                                      have c62b0 : ((Int.tmod (wrap64 (Int.tdiv (wrap64 (Int.tdiv t252 x27_3)) 10)) 10) == (Int.tmod (wrap64 (Int.tdiv t252 x27_3)) 10)) = false := beq_eq_false_iff_ne.mpr c62
                                      have c62b1 : ((Int.tmod (wrap64 (Int.tdiv (wrap64 (Int.tdiv t252 x27_3)) 10)) 10) != (Int.tmod (wrap64 (Int.tdiv t252 x27_3)) 10)) = true := bne_iff_ne.mpr c62
                                      replace H := Option.bind_eq_some_iff.mp H
                                      obtain ⟨t279, A630, H⟩ := H
                                      replace H : (if t279 = true then (some false) else (laws_FnCodes.l0 k4 t252 (wrap64 (10 * x27_3)) (wrap64 (x28_3 + 1)))) = some r := H
                                      have A63 := Aside0.mk A630
                                      clear A630
                                      by_cases c64 : t279 = true
                                      · subst c64
                                        have H1 : (some false) = some r := by rw [if_pos rfl] at H; exact H
                                        clear H
                                        have H := H1
                                        clear H1
                                        obtain rfl := Option.some.inj H
                                        go_wp2_with (first | (go_at_call 18; (with_reducible refine (impl_IsCode.calls (wrap64 ((wrap64 (t252 + (wrap64 ((wrap64 ((Int.tmod (wrap64 (Int.tdiv (wrap64 (Int.tdiv t252 x27_3)) 10)) 10) - (Int.tmod (wrap64 (Int.tdiv t252 x27_3)) 10))) * x27_3)))) + (wrap64 ((wrap64 ((wrap64 ((Int.tmod (wrap64 (Int.tdiv t252 x27_3)) 10) - (Int.tmod (wrap64 (Int.tdiv (wrap64 (Int.tdiv t252 x27_3)) 10)) 10))) * x27_3)) * 10)))) true _ A63.out).mono ?_); rintro e w' ⟨rfl, ⟨nd, rfl⟩⟩))
                                        go_ret
                                        exact ⟨by first | rfl | (simp [errW_none, errW_some] <;> rfl) | (simp [*, errW_none, errW_some] <;> rfl), by repeat (first | (with_reducible first | exact HB.out | apply below_alloc | apply pw_below_drewN | apply below_drew1) | exact HB.out)⟩
                                      · replace c64 := Bool.eq_false_iff.mpr c64
                                        subst c64
                                        have H1 : (laws_FnCodes.l0 k4 t252 (wrap64 (10 * x27_3)) (wrap64 (x28_3 + 1))) = some r := by rw [if_neg (show ¬ (false = true) by decide)] at H; exact H
                                        clear H
                                        have H := H1
                                        clear H1
                                        have H' := Aside0.mk H
                                        clear H
                                        go_wp2_with (first | (go_at_call 18; (with_reducible refine (impl_IsCode.calls (wrap64 ((wrap64 (t252 + (wrap64 ((wrap64 ((Int.tmod (wrap64 (Int.tdiv (wrap64 (Int.tdiv t252 x27_3)) 10)) 10) - (Int.tmod (wrap64 (Int.tdiv t252 x27_3)) 10))) * x27_3)))) + (wrap64 ((wrap64 ((wrap64 ((Int.tmod (wrap64 (Int.tdiv t252 x27_3)) 10) - (Int.tmod (wrap64 (Int.tdiv (wrap64 (Int.tdiv t252 x27_3)) 10)) 10))) * x27_3)) * 10)))) false _ A63.out).mono ?_); rintro e w' ⟨rfl, ⟨nd, rfl⟩⟩))
                                        go_roundg k4
                                        case measure => have := HJ13.out; have := HJ45.out; have := HK3.out; have := HK4.out; omega
                                        case rel => exact ⟨(wrap64 (10 * x27_3)), (wrap64 (x28_3 + 1)), (by first | rfl | (simp; done) | (simp [*]; done)), (by first | rfl | (simp; done) | (simp [*]; done)), H', ⟨by have := HJ13.out; have := HJ45.out; have := HK3.out; have := HK4.out; omega⟩, ⟨by repeat (first | (with_reducible first | exact HB.out | apply below_alloc | apply pw_below_drewN | apply below_drew1) | exact HB.out)⟩⟩
                                  · rw [if_neg c61] at H
                                    have c61b0 : decide (x28_3 < 6) = false := decide_eq_false c61
                                    clear c61
                                    have H' := Aside0.mk H
                                    clear H
                                    go_wp2
                                    go_roundg k4
                                    case measure => have := HJ13.out; have := HJ45.out; have := HK3.out; have := HK4.out; omega
                                    case rel => exact ⟨(wrap64 (10 * x27_3)), (wrap64 (x28_3 + 1)), (by first | rfl | (simp; done) | (simp [*]; done)), (by first | rfl | (simp; done) | (simp [*]; done)), H', ⟨by have := HJ13.out; have := HJ45.out; have := HK3.out; have := HK4.out; omega⟩, ⟨by repeat (first | (with_reducible first | exact HB.out | apply below_alloc | apply pw_below_drewN | apply below_drew1) | exact HB.out)⟩⟩
                      · rw [if_neg c54] at H
                        have c54b0 : decide (x28_3 < 7) = false := decide_eq_false c54
                        clear c54
                        obtain rfl := Option.some.inj H
                        go_wp2
                        go_ret
                        exact ⟨by first | rfl | (simp [errW_none, errW_some] <;> rfl) | (simp [*, errW_none, errW_some] <;> rfl), by repeat (first | (with_reducible first | exact HB.out | apply below_alloc | apply pw_below_drewN | apply below_drew1) | exact HB.out)⟩
          · rw [if_neg c42] at H
            have c42b0 : (t253 == 0) = false := beq_eq_false_iff_ne.mpr c42
            have c42b1 : (t253 != 0) = true := bne_iff_ne.mpr c42
            obtain rfl := Option.some.inj H
            go_wp2
            go_ret
            exact ⟨by first | rfl | (simp [errW_none, errW_some] <;> rfl) | (simp [*, errW_none, errW_some] <;> rfl), by repeat (first | (with_reducible first | exact HB.out | apply below_alloc | apply pw_below_drewN | apply below_drew1) | exact HB.out)⟩

/-- THE ONE PURE STATEMENT of laws_FnCodes: yours. -/
def laws_FnCodes.Pure : Prop := ∀ (l0 : List Int), l0.length ≤ maxLen → l0.length * 1 ≤ 140737488351232 → (∀ x ∈ l0, (Lit.int .u8 x).wf = true) → ∃ k, laws_FnCodes.f k l0 = some true
theorem laws_FnCodes.walk (P : laws_FnCodes.Pure) (a0 : Option Addr) (len0 cap0 : Nat) (z0 : List Int) (w : World) (w0 : (a0 = none ∧ len0 = 0 ∧ cap0 = 0 ∧ z0 = []) ∨ ∃ x, a0 = some x ∧ len0 ≤ cap0 ∧ cap0 ≤ maxLen ∧ z0.length = cap0 ∧ (∀ i, i < z0.length → w.cell? (x.add i) = some (.int .u8 (z0.getD i 0))) ∧ ∀ n ∈ z0, (Lit.int .u8 n).wf = true) (y0 : len0 * 1 ≤ 140737488351232) (ht : LaidT w) (he : LaidE w) :
    Calls Tryd.prog 5 #[.slice a0 len0 cap0] w fun e w' => e = .returned (.bool true) ∧ Below w.heap.size w w' := by
  obtain ⟨l0, rfl, hr0, hm0, hw0, hc0⟩ := ReadsInt.ofRowC w0
  obtain ⟨k, h⟩ := P l0 hm0 y0 hw0
  refine (laws_FnCodes.calls k _ _ l0 true w (Kd.C_of_reads (d := (0 : Int)) (h1 := fun _ => rfl) hr0) hc0 h ⟨ht⟩ ⟨he⟩).mono ?_
  rintro e w' ⟨rfl, hd⟩
  exact ⟨rfl, hd⟩

end Go.Proofs.YtlicooehcladcaaDoor.X
