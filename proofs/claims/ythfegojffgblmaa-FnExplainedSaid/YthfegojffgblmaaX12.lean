-- Written by this session's own program (wip/xprint.py) out of the translation; Lean checks it.
import Derived.Test.YthfegojffgblmaaX0
import Derived.Test.YthfegojffgblmaaX4
import Derived.Test.YthfegojffgblmaaX6
import Derived.Test.YthfegojffgblmaaX8
import Derived.Test.YthfegojffgblmaaX9
import Derived.Test.YthfegojffgblmaaX10
import Derived.Test.YthfegojffgblmaaX11
import Derived.Test.YthfegojffgblmaaEExplain
namespace Go.Proofs.Ythfegojffgblmaa.X
open Go.RowKit Go.Proofs.YthfegojffgblmaaW.PrintWords Go.Proofs.YthfegojffgblmaaW.PrintLast Go.Proofs.YthfegojffgblmaaW.PrintMore
attribute [local go_sem] max2_int min2_int max_two min_two max_three min_three max_four min_four   -- for this text's walks alone
set_option linter.unusedVariables false
set_option linter.unusedSimpArgs false

/-! ### laws_FnExplained: function 8 -/
mutual
def laws_FnExplained.j0 : Nat → Int → List Int → List Int → Int → Int → Int → Bool → Option (Bool)
  | 0, _, _, _, _, _, _, _ => none
  | k + 1, x3, x4, x5, x6, x9, x14, x100 => if x100 = true then (some false) else (if x6 = 0 then (laws_FnExplained.l0 k x3 x4 x5 x9 x14 (([] : List (S54))) 0 0 0) else (some true))
def laws_FnExplained.l0 : Nat → Int → List Int → List Int → Int → Int → List (S54) → Int → Int → Int → Option (Bool)
  | 0, _, _, _, _, _, _, _, _, _ => none
  | k + 1, x3, x4, x5, x9, x14, x17, x18, x19, x20 => if x20 < x3 then (if 0 ≤ x20 then (if x20 < (x5.length : Int) then (if (rd x5 x20) = 4 then (if 0 ≤ x18 then (if x18 < (x4.length : Int) then (laws_FnExplained.j2 k x3 x4 x5 x9 x14 x17 x18 x19 x20 0 x20 (rd x5 x20) (wrap64 ((rd x4 x18) - 1))) else (none)) else (none)) else (laws_FnExplained.j2 k x3 x4 x5 x9 x14 x17 x18 x19 x20 0 x20 (rd x5 x20) 0)) else (none)) else (none)) else ((impl_GatherBooks.f x3 1 x17).bind fun bt319 => (if bt319.2 = 0 then (if (bt319.1.length : Int) = 1 then (if 0 < (bt319.1.length : Int) then ((laws_likeInts.f k (rd_L1 bt319.1 0) x4).bind fun t324 => (if t324 = true then (if x19 = x9 then (some ((x9 == 0) == (x14 == 4))) else (some false)) else (some false))) else (none)) else (some false)) else (some false)))
def laws_FnExplained.j2 : Nat → Int → List Int → List Int → Int → Int → List (S54) → Int → Int → Int → Int → Int → Int → Int → Option (Bool)
  | 0, _, _, _, _, _, _, _, _, _, _, _, _, _ => none
  | k + 1, x3, x4, x5, x9, x14, x17, x18, x19, x20, x327000, x327001, x327002, x327003 => if 0 ≤ x20 then (if x20 < (x5.length : Int) then (if (rd x5 x20) = 2 then (if (rd x5 x20) = 0 then (laws_FnExplained.l0 k x3 x4 x5 x9 x14 x17 (wrap64 (x18 + 2)) x19 (wrap64 (x20 + 1))) else (if x17.length < 4398046511104 then (laws_FnExplained.l0 k x3 x4 x5 x9 x14 (x17 ++ [(⟨x327000, x327001, x327002, x327003⟩ : S54)]) (wrap64 (x18 + 2)) (wrap64 (x19 + 1)) (wrap64 (x20 + 1))) else (none))) else (if (rd x5 x20) = 1 then (if (rd x5 x20) = 0 then (laws_FnExplained.l0 k x3 x4 x5 x9 x14 x17 x18 x19 (wrap64 (x20 + 1))) else (if x17.length < 4398046511104 then (laws_FnExplained.l0 k x3 x4 x5 x9 x14 (x17 ++ [(⟨x327000, x327001, x327002, x327003⟩ : S54)]) x18 (wrap64 (x19 + 1)) (wrap64 (x20 + 1))) else (none))) else (if (rd x5 x20) = 0 then (laws_FnExplained.l0 k x3 x4 x5 x9 x14 x17 (wrap64 (x18 + 1)) x19 (wrap64 (x20 + 1))) else (if x17.length < 4398046511104 then (laws_FnExplained.l0 k x3 x4 x5 x9 x14 (x17 ++ [(⟨x327000, x327001, x327002, x327003⟩ : S54)]) (wrap64 (x18 + 1)) (wrap64 (x19 + 1)) (wrap64 (x20 + 1))) else (none))))) else (none)) else (none)
end
def laws_FnExplained.f (k : Nat) (l0 : List Int) : Option (Bool) := (laws_big.f l0).bind fun t294 => (if t294 = true then (some true) else ((spec_DrawExplainBlock.f k l0).bind fun bt295 => ((impl_ExplainBlock.f bt295.1 bt295.2).bind fun bt299 => ((spec_ExplainBlock.f k bt295.1 bt295.2).bind fun bt303 => ((impl_CountFaults.f k bt295.1 bt295.2).bind fun bt307 => ((spec_CountFaults.f k bt295.1 bt295.2).bind fun bt309 => ((impl_FirstDifference.f k bt295.1 bt295.2).bind fun bt311 => ((spec_FirstDifference.f k bt295.1 bt295.2).bind fun bt313 => (if bt299.2 = bt303.2 then ((laws_likeInts.f k bt299.1 bt303.1).bind fun t315 => (if t315 = true then (if bt307.2 = bt309.2 then (if bt307.1 = bt309.1 then (if bt311.2 = bt313.2 then (if bt311.1 = bt313.1 then (laws_FnExplained.j0 k bt295.1 bt295.2 bt299.1 bt299.2 bt307.1 bt311.2 (bt307.2 != bt299.2)) else (laws_FnExplained.j0 k bt295.1 bt295.2 bt299.1 bt299.2 bt307.1 bt311.2 true)) else (laws_FnExplained.j0 k bt295.1 bt295.2 bt299.1 bt299.2 bt307.1 bt311.2 true)) else (laws_FnExplained.j0 k bt295.1 bt295.2 bt299.1 bt299.2 bt307.1 bt311.2 true)) else (laws_FnExplained.j0 k bt295.1 bt295.2 bt299.1 bt299.2 bt307.1 bt311.2 true)) else (laws_FnExplained.j0 k bt295.1 bt295.2 bt299.1 bt299.2 bt307.1 bt311.2 true))) else (laws_FnExplained.j0 k bt295.1 bt295.2 bt299.1 bt299.2 bt307.1 bt311.2 true))))))))))
theorem laws_FnExplained.mono_l : ∀ k, (∀ y0 y1 y2 y3 y4 y5 y6, LeO (laws_FnExplained.j0 k y0 y1 y2 y3 y4 y5 y6) (laws_FnExplained.j0 (k + 1) y0 y1 y2 y3 y4 y5 y6)) ∧ (∀ y0 y1 y2 y3 y4 y5 y6 y7 y8, LeO (laws_FnExplained.l0 k y0 y1 y2 y3 y4 y5 y6 y7 y8) (laws_FnExplained.l0 (k + 1) y0 y1 y2 y3 y4 y5 y6 y7 y8)) ∧ (∀ y0 y1 y2 y3 y4 y5 y6 y7 y8 y9 y10 y11 y12, LeO (laws_FnExplained.j2 k y0 y1 y2 y3 y4 y5 y6 y7 y8 y9 y10 y11 y12) (laws_FnExplained.j2 (k + 1) y0 y1 y2 y3 y4 y5 y6 y7 y8 y9 y10 y11 y12))
  | 0 => ⟨fun _ _ _ _ _ _ _ r h => by simp [laws_FnExplained.j0] at h, fun _ _ _ _ _ _ _ _ _ r h => by simp [laws_FnExplained.l0] at h, fun _ _ _ _ _ _ _ _ _ _ _ _ _ r h => by simp [laws_FnExplained.j2] at h⟩
  | k + 1 => by
    obtain ⟨ih0, ih1, ih2⟩ := laws_FnExplained.mono_l k
    refine ⟨?_, ?_, ?_⟩
    · intro y0 y1 y2 y3 y4 y5 y6
      unfold laws_FnExplained.j0
      repeat' first
      | (with_reducible exact ih0 _ _ _ _ _ _ _)
      | (with_reducible exact ih1 _ _ _ _ _ _ _ _ _)
      | (with_reducible exact ih2 _ _ _ _ _ _ _ _ _ _ _ _ _)
      | (with_reducible exact impl_CountFaults.mono _ _ _)
      | (with_reducible exact impl_FirstDifference.mono _ _ _)
      | (with_reducible exact laws_likeInts.mono _ _ _)
      | (with_reducible exact spec_CountFaults.mono _ _ _)
      | (with_reducible exact spec_DrawExplainBlock.mono _ _)
      | (with_reducible exact spec_ExplainBlock.mono _ _ _)
      | (with_reducible exact spec_FirstDifference.mono _ _ _)
      | (with_reducible exact LeO.refl _)
      | (with_reducible exact LeO.none _)
      | (with_reducible refine LeO.ite ?_ ?_)
      | (with_reducible refine LeO.bind ?_ (fun _ => ?_))
      | exact ih0 _ _ _ _ _ _ _
      | exact ih1 _ _ _ _ _ _ _ _ _
      | exact ih2 _ _ _ _ _ _ _ _ _ _ _ _ _
      | exact impl_CountFaults.mono _ _ _
      | exact impl_FirstDifference.mono _ _ _
      | exact laws_likeInts.mono _ _ _
      | exact spec_CountFaults.mono _ _ _
      | exact spec_DrawExplainBlock.mono _ _
      | exact spec_ExplainBlock.mono _ _ _
      | exact spec_FirstDifference.mono _ _ _
      | exact LeO.none _
      | refine LeO.ite ?_ ?_
      | refine LeO.bind ?_ (fun _ => ?_)
    · intro y0 y1 y2 y3 y4 y5 y6 y7 y8
      unfold laws_FnExplained.l0
      repeat' first
      | (with_reducible exact ih0 _ _ _ _ _ _ _)
      | (with_reducible exact ih1 _ _ _ _ _ _ _ _ _)
      | (with_reducible exact ih2 _ _ _ _ _ _ _ _ _ _ _ _ _)
      | (with_reducible exact impl_CountFaults.mono _ _ _)
      | (with_reducible exact impl_FirstDifference.mono _ _ _)
      | (with_reducible exact laws_likeInts.mono _ _ _)
      | (with_reducible exact spec_CountFaults.mono _ _ _)
      | (with_reducible exact spec_DrawExplainBlock.mono _ _)
      | (with_reducible exact spec_ExplainBlock.mono _ _ _)
      | (with_reducible exact spec_FirstDifference.mono _ _ _)
      | (with_reducible exact LeO.refl _)
      | (with_reducible exact LeO.none _)
      | (with_reducible refine LeO.ite ?_ ?_)
      | (with_reducible refine LeO.bind ?_ (fun _ => ?_))
      | exact ih0 _ _ _ _ _ _ _
      | exact ih1 _ _ _ _ _ _ _ _ _
      | exact ih2 _ _ _ _ _ _ _ _ _ _ _ _ _
      | exact impl_CountFaults.mono _ _ _
      | exact impl_FirstDifference.mono _ _ _
      | exact laws_likeInts.mono _ _ _
      | exact spec_CountFaults.mono _ _ _
      | exact spec_DrawExplainBlock.mono _ _
      | exact spec_ExplainBlock.mono _ _ _
      | exact spec_FirstDifference.mono _ _ _
      | exact LeO.none _
      | refine LeO.ite ?_ ?_
      | refine LeO.bind ?_ (fun _ => ?_)
    · intro y0 y1 y2 y3 y4 y5 y6 y7 y8 y9 y10 y11 y12
      unfold laws_FnExplained.j2
      repeat' first
      | (with_reducible exact ih0 _ _ _ _ _ _ _)
      | (with_reducible exact ih1 _ _ _ _ _ _ _ _ _)
      | (with_reducible exact ih2 _ _ _ _ _ _ _ _ _ _ _ _ _)
      | (with_reducible exact impl_CountFaults.mono _ _ _)
      | (with_reducible exact impl_FirstDifference.mono _ _ _)
      | (with_reducible exact laws_likeInts.mono _ _ _)
      | (with_reducible exact spec_CountFaults.mono _ _ _)
      | (with_reducible exact spec_DrawExplainBlock.mono _ _)
      | (with_reducible exact spec_ExplainBlock.mono _ _ _)
      | (with_reducible exact spec_FirstDifference.mono _ _ _)
      | (with_reducible exact LeO.refl _)
      | (with_reducible exact LeO.none _)
      | (with_reducible refine LeO.ite ?_ ?_)
      | (with_reducible refine LeO.bind ?_ (fun _ => ?_))
      | exact ih0 _ _ _ _ _ _ _
      | exact ih1 _ _ _ _ _ _ _ _ _
      | exact ih2 _ _ _ _ _ _ _ _ _ _ _ _ _
      | exact impl_CountFaults.mono _ _ _
      | exact impl_FirstDifference.mono _ _ _
      | exact laws_likeInts.mono _ _ _
      | exact spec_CountFaults.mono _ _ _
      | exact spec_DrawExplainBlock.mono _ _
      | exact spec_ExplainBlock.mono _ _ _
      | exact spec_FirstDifference.mono _ _ _
      | exact LeO.none _
      | refine LeO.ite ?_ ?_
      | refine LeO.bind ?_ (fun _ => ?_)
theorem laws_FnExplained.mono : ∀ a0 k, LeO (laws_FnExplained.f k a0) (laws_FnExplained.f (k + 1) a0) := by
  intro a0 k
  obtain ⟨ih0, ih1, ih2⟩ := laws_FnExplained.mono_l k
  unfold laws_FnExplained.f
  repeat' first
      | (with_reducible exact ih0 _ _ _ _ _ _ _)
      | (with_reducible exact ih1 _ _ _ _ _ _ _ _ _)
      | (with_reducible exact ih2 _ _ _ _ _ _ _ _ _ _ _ _ _)
      | (with_reducible exact impl_CountFaults.mono _ _ _)
      | (with_reducible exact impl_FirstDifference.mono _ _ _)
      | (with_reducible exact laws_likeInts.mono _ _ _)
      | (with_reducible exact spec_CountFaults.mono _ _ _)
      | (with_reducible exact spec_DrawExplainBlock.mono _ _)
      | (with_reducible exact spec_ExplainBlock.mono _ _ _)
      | (with_reducible exact spec_FirstDifference.mono _ _ _)
      | (with_reducible exact LeO.refl _)
      | (with_reducible exact LeO.none _)
      | (with_reducible refine LeO.ite ?_ ?_)
      | (with_reducible refine LeO.bind ?_ (fun _ => ?_))
      | exact ih0 _ _ _ _ _ _ _
      | exact ih1 _ _ _ _ _ _ _ _ _
      | exact ih2 _ _ _ _ _ _ _ _ _ _ _ _ _
      | exact impl_CountFaults.mono _ _ _
      | exact impl_FirstDifference.mono _ _ _
      | exact laws_likeInts.mono _ _ _
      | exact spec_CountFaults.mono _ _ _
      | exact spec_DrawExplainBlock.mono _ _
      | exact spec_ExplainBlock.mono _ _ _
      | exact spec_FirstDifference.mono _ _ _
      | exact LeO.none _
      | refine LeO.ite ?_ ?_
      | refine LeO.bind ?_ (fun _ => ?_)
set_option maxHeartbeats 8000000 in
set_option maxRecDepth 100000 in
theorem laws_FnExplained.calls (k : Nat) (A0 : Option Addr) (c0 : Nat) (l0 : List Int) (r : Bool) (w : World) (hr0 : Kd.C (Kd.int .u8) w A0 l0.length l0) (hc0 : l0.length ≤ c0) (h : laws_FnExplained.f k l0 = some r) :
    Calls Try.prog 8 #[.slice A0 l0.length c0] w fun e w' => e = .returned (.bool r) ∧ Below w.heap.size w w' := by
  have hu54 := Try.underlying54
  have HR0 := Aside0.mk hr0
  have HC0 := Aside0.mk hc0
  clear hr0 hc0
  have HB := Aside0.mk (Below.refl w.heap.size w)
  have H : ((laws_big.f l0).bind fun t294 => (if t294 = true then (some true) else ((spec_DrawExplainBlock.f k l0).bind fun bt295 => ((impl_ExplainBlock.f bt295.1 bt295.2).bind fun bt299 => ((spec_ExplainBlock.f k bt295.1 bt295.2).bind fun bt303 => ((impl_CountFaults.f k bt295.1 bt295.2).bind fun bt307 => ((spec_CountFaults.f k bt295.1 bt295.2).bind fun bt309 => ((impl_FirstDifference.f k bt295.1 bt295.2).bind fun bt311 => ((spec_FirstDifference.f k bt295.1 bt295.2).bind fun bt313 => (if bt299.2 = bt303.2 then ((laws_likeInts.f k bt299.1 bt303.1).bind fun t315 => (if t315 = true then (if bt307.2 = bt309.2 then (if bt307.1 = bt309.1 then (if bt311.2 = bt313.2 then (if bt311.1 = bt313.1 then (laws_FnExplained.j0 k bt295.1 bt295.2 bt299.1 bt299.2 bt307.1 bt311.2 (bt307.2 != bt299.2)) else (laws_FnExplained.j0 k bt295.1 bt295.2 bt299.1 bt299.2 bt307.1 bt311.2 true)) else (laws_FnExplained.j0 k bt295.1 bt295.2 bt299.1 bt299.2 bt307.1 bt311.2 true)) else (laws_FnExplained.j0 k bt295.1 bt295.2 bt299.1 bt299.2 bt307.1 bt311.2 true)) else (laws_FnExplained.j0 k bt295.1 bt295.2 bt299.1 bt299.2 bt307.1 bt311.2 true)) else (laws_FnExplained.j0 k bt295.1 bt295.2 bt299.1 bt299.2 bt307.1 bt311.2 true))) else (laws_FnExplained.j0 k bt295.1 bt295.2 bt299.1 bt299.2 bt307.1 bt311.2 true))))))))))) = some r := h
  clear h
  replace H := Option.bind_eq_some_iff.mp H
  obtain ⟨t294, A20, H⟩ := H
  replace H : (if t294 = true then (some true) else ((spec_DrawExplainBlock.f k l0).bind fun bt295 => ((impl_ExplainBlock.f bt295.1 bt295.2).bind fun bt299 => ((spec_ExplainBlock.f k bt295.1 bt295.2).bind fun bt303 => ((impl_CountFaults.f k bt295.1 bt295.2).bind fun bt307 => ((spec_CountFaults.f k bt295.1 bt295.2).bind fun bt309 => ((impl_FirstDifference.f k bt295.1 bt295.2).bind fun bt311 => ((spec_FirstDifference.f k bt295.1 bt295.2).bind fun bt313 => (if bt299.2 = bt303.2 then ((laws_likeInts.f k bt299.1 bt303.1).bind fun t315 => (if t315 = true then (if bt307.2 = bt309.2 then (if bt307.1 = bt309.1 then (if bt311.2 = bt313.2 then (if bt311.1 = bt313.1 then (laws_FnExplained.j0 k bt295.1 bt295.2 bt299.1 bt299.2 bt307.1 bt311.2 (bt307.2 != bt299.2)) else (laws_FnExplained.j0 k bt295.1 bt295.2 bt299.1 bt299.2 bt307.1 bt311.2 true)) else (laws_FnExplained.j0 k bt295.1 bt295.2 bt299.1 bt299.2 bt307.1 bt311.2 true)) else (laws_FnExplained.j0 k bt295.1 bt295.2 bt299.1 bt299.2 bt307.1 bt311.2 true)) else (laws_FnExplained.j0 k bt295.1 bt295.2 bt299.1 bt299.2 bt307.1 bt311.2 true)) else (laws_FnExplained.j0 k bt295.1 bt295.2 bt299.1 bt299.2 bt307.1 bt311.2 true))) else (laws_FnExplained.j0 k bt295.1 bt295.2 bt299.1 bt299.2 bt307.1 bt311.2 true)))))))))) = some r := H
  have A2 := Aside0.mk A20
  clear A20
  by_cases c3 : t294 = true
  · subst c3
    have H1 : (some true) = some r := by rw [if_pos rfl] at H; exact H
    clear H
    have H := H1
    clear H1
    obtain rfl := Option.some.inj H
    go_enter Try.func8, Try.ntmps8
    go_wp2_with (first | ((with_reducible refine gate_callee (f := 28) rfl ?_); refine goesL_ (some 25) rfl rfl Try.func28 (by kernel_rfl) rfl #[.slice A0 l0.length c0] rfl (by (try simp only [List.map_toArray, List.map_cons, List.map_nil]); first | done | rfl | (simp only [List.length_drop, List.length_take]; rfl)) ?_; (with_reducible refine (laws_big.calls _ _ l0 true _ ?side1 ?side2 A2.out).mono ?_); (case side1 => repeat (first | exact HR0.out | (with_reducible refine Kd.C_alloc ?_ _) | (with_reducible refine Kd.C_drewN ?_ _) | (with_reducible refine Kd.C_drew ?_))); (case side2 => exact HC0.out); rintro e w' ⟨rfl, ⟨nd, rfl⟩⟩; refine ⟨_, rfl, ?_⟩))
    go_ret
    exact ⟨by first | rfl | (simp [errW_none, errW_some] <;> rfl) | (simp [*, errW_none, errW_some] <;> rfl), by repeat (first | (with_reducible first | exact HB.out | apply below_alloc | apply pw_below_drewN | apply below_drew1) | exact HB.out)⟩
  · replace c3 := Bool.eq_false_iff.mpr c3
    subst c3
    have H1 : ((spec_DrawExplainBlock.f k l0).bind fun bt295 => ((impl_ExplainBlock.f bt295.1 bt295.2).bind fun bt299 => ((spec_ExplainBlock.f k bt295.1 bt295.2).bind fun bt303 => ((impl_CountFaults.f k bt295.1 bt295.2).bind fun bt307 => ((spec_CountFaults.f k bt295.1 bt295.2).bind fun bt309 => ((impl_FirstDifference.f k bt295.1 bt295.2).bind fun bt311 => ((spec_FirstDifference.f k bt295.1 bt295.2).bind fun bt313 => (if bt299.2 = bt303.2 then ((laws_likeInts.f k bt299.1 bt303.1).bind fun t315 => (if t315 = true then (if bt307.2 = bt309.2 then (if bt307.1 = bt309.1 then (if bt311.2 = bt313.2 then (if bt311.1 = bt313.1 then (laws_FnExplained.j0 k bt295.1 bt295.2 bt299.1 bt299.2 bt307.1 bt311.2 (bt307.2 != bt299.2)) else (laws_FnExplained.j0 k bt295.1 bt295.2 bt299.1 bt299.2 bt307.1 bt311.2 true)) else (laws_FnExplained.j0 k bt295.1 bt295.2 bt299.1 bt299.2 bt307.1 bt311.2 true)) else (laws_FnExplained.j0 k bt295.1 bt295.2 bt299.1 bt299.2 bt307.1 bt311.2 true)) else (laws_FnExplained.j0 k bt295.1 bt295.2 bt299.1 bt299.2 bt307.1 bt311.2 true)) else (laws_FnExplained.j0 k bt295.1 bt295.2 bt299.1 bt299.2 bt307.1 bt311.2 true))) else (laws_FnExplained.j0 k bt295.1 bt295.2 bt299.1 bt299.2 bt307.1 bt311.2 true))))))))) = some r := by rw [if_neg (show ¬ (false = true) by decide)] at H; exact H
    clear H
    have H := H1
    clear H1
    replace H := Option.bind_eq_some_iff.mp H
    obtain ⟨⟨t295, t296⟩, A40, H⟩ := H
    replace H : ((impl_ExplainBlock.f t295 t296).bind fun bt299 => ((spec_ExplainBlock.f k t295 t296).bind fun bt303 => ((impl_CountFaults.f k t295 t296).bind fun bt307 => ((spec_CountFaults.f k t295 t296).bind fun bt309 => ((impl_FirstDifference.f k t295 t296).bind fun bt311 => ((spec_FirstDifference.f k t295 t296).bind fun bt313 => (if bt299.2 = bt303.2 then ((laws_likeInts.f k bt299.1 bt303.1).bind fun t315 => (if t315 = true then (if bt307.2 = bt309.2 then (if bt307.1 = bt309.1 then (if bt311.2 = bt313.2 then (if bt311.1 = bt313.1 then (laws_FnExplained.j0 k t295 t296 bt299.1 bt299.2 bt307.1 bt311.2 (bt307.2 != bt299.2)) else (laws_FnExplained.j0 k t295 t296 bt299.1 bt299.2 bt307.1 bt311.2 true)) else (laws_FnExplained.j0 k t295 t296 bt299.1 bt299.2 bt307.1 bt311.2 true)) else (laws_FnExplained.j0 k t295 t296 bt299.1 bt299.2 bt307.1 bt311.2 true)) else (laws_FnExplained.j0 k t295 t296 bt299.1 bt299.2 bt307.1 bt311.2 true)) else (laws_FnExplained.j0 k t295 t296 bt299.1 bt299.2 bt307.1 bt311.2 true))) else (laws_FnExplained.j0 k t295 t296 bt299.1 bt299.2 bt307.1 bt311.2 true)))))))) = some r := H
    have A4 := Aside0.mk A40
    clear A40
    replace H := Option.bind_eq_some_iff.mp H
    obtain ⟨⟨t299, t300⟩, A50, H⟩ := H
    replace H : ((spec_ExplainBlock.f k t295 t296).bind fun bt303 => ((impl_CountFaults.f k t295 t296).bind fun bt307 => ((spec_CountFaults.f k t295 t296).bind fun bt309 => ((impl_FirstDifference.f k t295 t296).bind fun bt311 => ((spec_FirstDifference.f k t295 t296).bind fun bt313 => (if t300 = bt303.2 then ((laws_likeInts.f k t299 bt303.1).bind fun t315 => (if t315 = true then (if bt307.2 = bt309.2 then (if bt307.1 = bt309.1 then (if bt311.2 = bt313.2 then (if bt311.1 = bt313.1 then (laws_FnExplained.j0 k t295 t296 t299 t300 bt307.1 bt311.2 (bt307.2 != t300)) else (laws_FnExplained.j0 k t295 t296 t299 t300 bt307.1 bt311.2 true)) else (laws_FnExplained.j0 k t295 t296 t299 t300 bt307.1 bt311.2 true)) else (laws_FnExplained.j0 k t295 t296 t299 t300 bt307.1 bt311.2 true)) else (laws_FnExplained.j0 k t295 t296 t299 t300 bt307.1 bt311.2 true)) else (laws_FnExplained.j0 k t295 t296 t299 t300 bt307.1 bt311.2 true))) else (laws_FnExplained.j0 k t295 t296 t299 t300 bt307.1 bt311.2 true))))))) = some r := H
    have A5 := Aside0.mk A50
    clear A50
    replace H := Option.bind_eq_some_iff.mp H
    obtain ⟨⟨t303, t304⟩, A60, H⟩ := H
    replace H : ((impl_CountFaults.f k t295 t296).bind fun bt307 => ((spec_CountFaults.f k t295 t296).bind fun bt309 => ((impl_FirstDifference.f k t295 t296).bind fun bt311 => ((spec_FirstDifference.f k t295 t296).bind fun bt313 => (if t300 = t304 then ((laws_likeInts.f k t299 t303).bind fun t315 => (if t315 = true then (if bt307.2 = bt309.2 then (if bt307.1 = bt309.1 then (if bt311.2 = bt313.2 then (if bt311.1 = bt313.1 then (laws_FnExplained.j0 k t295 t296 t299 t300 bt307.1 bt311.2 (bt307.2 != t300)) else (laws_FnExplained.j0 k t295 t296 t299 t300 bt307.1 bt311.2 true)) else (laws_FnExplained.j0 k t295 t296 t299 t300 bt307.1 bt311.2 true)) else (laws_FnExplained.j0 k t295 t296 t299 t300 bt307.1 bt311.2 true)) else (laws_FnExplained.j0 k t295 t296 t299 t300 bt307.1 bt311.2 true)) else (laws_FnExplained.j0 k t295 t296 t299 t300 bt307.1 bt311.2 true))) else (laws_FnExplained.j0 k t295 t296 t299 t300 bt307.1 bt311.2 true)))))) = some r := H
    have A6 := Aside0.mk A60
    clear A60
    replace H := Option.bind_eq_some_iff.mp H
    obtain ⟨⟨t307, t308⟩, A70, H⟩ := H
    replace H : ((spec_CountFaults.f k t295 t296).bind fun bt309 => ((impl_FirstDifference.f k t295 t296).bind fun bt311 => ((spec_FirstDifference.f k t295 t296).bind fun bt313 => (if t300 = t304 then ((laws_likeInts.f k t299 t303).bind fun t315 => (if t315 = true then (if t308 = bt309.2 then (if t307 = bt309.1 then (if bt311.2 = bt313.2 then (if bt311.1 = bt313.1 then (laws_FnExplained.j0 k t295 t296 t299 t300 t307 bt311.2 (t308 != t300)) else (laws_FnExplained.j0 k t295 t296 t299 t300 t307 bt311.2 true)) else (laws_FnExplained.j0 k t295 t296 t299 t300 t307 bt311.2 true)) else (laws_FnExplained.j0 k t295 t296 t299 t300 t307 bt311.2 true)) else (laws_FnExplained.j0 k t295 t296 t299 t300 t307 bt311.2 true)) else (laws_FnExplained.j0 k t295 t296 t299 t300 t307 bt311.2 true))) else (laws_FnExplained.j0 k t295 t296 t299 t300 t307 bt311.2 true))))) = some r := H
    have A7 := Aside0.mk A70
    clear A70
    replace H := Option.bind_eq_some_iff.mp H
    obtain ⟨⟨t309, t310⟩, A80, H⟩ := H
    replace H : ((impl_FirstDifference.f k t295 t296).bind fun bt311 => ((spec_FirstDifference.f k t295 t296).bind fun bt313 => (if t300 = t304 then ((laws_likeInts.f k t299 t303).bind fun t315 => (if t315 = true then (if t308 = t310 then (if t307 = t309 then (if bt311.2 = bt313.2 then (if bt311.1 = bt313.1 then (laws_FnExplained.j0 k t295 t296 t299 t300 t307 bt311.2 (t308 != t300)) else (laws_FnExplained.j0 k t295 t296 t299 t300 t307 bt311.2 true)) else (laws_FnExplained.j0 k t295 t296 t299 t300 t307 bt311.2 true)) else (laws_FnExplained.j0 k t295 t296 t299 t300 t307 bt311.2 true)) else (laws_FnExplained.j0 k t295 t296 t299 t300 t307 bt311.2 true)) else (laws_FnExplained.j0 k t295 t296 t299 t300 t307 bt311.2 true))) else (laws_FnExplained.j0 k t295 t296 t299 t300 t307 bt311.2 true)))) = some r := H
    have A8 := Aside0.mk A80
    clear A80
    replace H := Option.bind_eq_some_iff.mp H
    obtain ⟨⟨t311, t312⟩, A90, H⟩ := H
    replace H : ((spec_FirstDifference.f k t295 t296).bind fun bt313 => (if t300 = t304 then ((laws_likeInts.f k t299 t303).bind fun t315 => (if t315 = true then (if t308 = t310 then (if t307 = t309 then (if t312 = bt313.2 then (if t311 = bt313.1 then (laws_FnExplained.j0 k t295 t296 t299 t300 t307 t312 (t308 != t300)) else (laws_FnExplained.j0 k t295 t296 t299 t300 t307 t312 true)) else (laws_FnExplained.j0 k t295 t296 t299 t300 t307 t312 true)) else (laws_FnExplained.j0 k t295 t296 t299 t300 t307 t312 true)) else (laws_FnExplained.j0 k t295 t296 t299 t300 t307 t312 true)) else (laws_FnExplained.j0 k t295 t296 t299 t300 t307 t312 true))) else (laws_FnExplained.j0 k t295 t296 t299 t300 t307 t312 true))) = some r := H
    have A9 := Aside0.mk A90
    clear A90
    replace H := Option.bind_eq_some_iff.mp H
    obtain ⟨⟨t313, t314⟩, A100, H⟩ := H
    replace H : (if t300 = t304 then ((laws_likeInts.f k t299 t303).bind fun t315 => (if t315 = true then (if t308 = t310 then (if t307 = t309 then (if t312 = t314 then (if t311 = t313 then (laws_FnExplained.j0 k t295 t296 t299 t300 t307 t312 (t308 != t300)) else (laws_FnExplained.j0 k t295 t296 t299 t300 t307 t312 true)) else (laws_FnExplained.j0 k t295 t296 t299 t300 t307 t312 true)) else (laws_FnExplained.j0 k t295 t296 t299 t300 t307 t312 true)) else (laws_FnExplained.j0 k t295 t296 t299 t300 t307 t312 true)) else (laws_FnExplained.j0 k t295 t296 t299 t300 t307 t312 true))) else (laws_FnExplained.j0 k t295 t296 t299 t300 t307 t312 true)) = some r := H
    have A10 := Aside0.mk A100
    clear A100
    have HC11 := Aside0.mk H
    clear H
    go_enter Try.func8, Try.ntmps8
    go_upto_region 10 with (first | ((with_reducible refine gate_callee (f := 28) rfl ?_); refine goesL_ (some 25) rfl rfl Try.func28 (by kernel_rfl) rfl #[.slice A0 l0.length c0] rfl (by (try simp only [List.map_toArray, List.map_cons, List.map_nil]); first | done | rfl | (simp only [List.length_drop, List.length_take]; rfl)) ?_; (with_reducible refine (laws_big.calls _ _ l0 false _ ?side1 ?side2 A2.out).mono ?_); (case side1 => repeat (first | exact HR0.out | (with_reducible refine Kd.C_alloc ?_ _) | (with_reducible refine Kd.C_drewN ?_ _) | (with_reducible refine Kd.C_drew ?_))); (case side2 => exact HC0.out); rintro e w' ⟨rfl, ⟨nd, rfl⟩⟩; refine ⟨_, rfl, ?_⟩) | ((with_reducible refine gate_callee (f := 38) rfl ?_); refine goesL_ (some 28) rfl rfl Try.func38 (by kernel_rfl) rfl #[.slice A0 l0.length c0] rfl (by (try simp only [List.map_toArray, List.map_cons, List.map_nil]); first | done | rfl | (simp only [List.length_drop, List.length_take]; rfl)) ?_; (with_reducible refine (spec_DrawExplainBlock.calls k _ _ l0 t295 t296 _ ?side1 ?side2 A4.out).mono ?_); (case side1 => repeat (first | exact HR0.out | (with_reducible refine Kd.C_alloc ?_ _) | (with_reducible refine Kd.C_drewN ?_ _) | (with_reducible refine Kd.C_drew ?_))); (case side2 => exact HC0.out); rintro e w12 ⟨v297, rfl, ho0, hb⟩; refine ⟨_, rfl, ?_⟩; have n0_ := Aside0.mk (Kd.R_lower ho0 (below_size (by repeat (first | (with_reducible first | exact HB.out | apply below_alloc | apply pw_below_drewN | apply below_drew1) | exact HB.out)))); have n1_ := Aside0.mk (below_step (by repeat (first | (with_reducible first | exact HB.out | apply below_alloc | apply pw_below_drewN | apply below_drew1) | exact HB.out)) hb); clear HB; have HO298 := n0_; have HB := n1_; clear n0_ n1_; (try clear hb); (try clear hb2); (try clear hk); (try clear hi); (try clear ho0); obtain ⟨Ao13, co13, eo13⟩ := Kd.R_slice HO298.out; subst eo13) | ((with_reducible refine gate_callee (f := 14) rfl ?_); refine goesL_ (some 34) rfl rfl Try.func14 (by kernel_rfl) rfl #[.int .i64 t295, .slice Ao13 t296.length co13] rfl (by (try simp only [List.map_toArray, List.map_cons, List.map_nil]); first | done | rfl | (simp only [List.length_drop, List.length_take]; rfl)) ?_; (with_reducible refine (impl_ExplainBlock.calls t295 _ _ t296 t299 t300 _ ?side1 ?side2 A5.out).mono ?_); (case side1 => repeat (first | exact (Kd.R_reads' HO298.out).2.2 | (with_reducible refine Kd.C_alloc ?_ _) | (with_reducible refine Kd.C_drewN ?_ _) | (with_reducible refine Kd.C_drew ?_))); (case side2 => exact (Kd.R_reads' HO298.out).2.1); rintro e w14 ⟨v301, rfl, ho0, hb⟩; refine ⟨_, rfl, ?_⟩; have n0_ := Aside0.mk (Kd.R_elder' (by (with_reducible repeat (first | apply Kd.R_alloc | apply Kd.R_drewN | apply Kd.R_drew)); exact HO298.out) (Kd.R_base ho0) hb); have n1_ := Aside0.mk (Kd.R_lower (Kd.R_new' ho0 (Kd.R_lt (by (with_reducible repeat (first | apply Kd.R_alloc | apply Kd.R_drewN | apply Kd.R_drew)); exact HO298.out))) (below_size (by repeat (first | (with_reducible first | exact HB.out | apply below_alloc | apply pw_below_drewN | apply below_drew1) | exact HB.out)))); have n2_ := Aside0.mk (below_step (by repeat (first | (with_reducible first | exact HB.out | apply below_alloc | apply pw_below_drewN | apply below_drew1) | exact HB.out)) hb); clear HO298; clear HB; have HO298 := n0_; have HO302 := n1_; have HB := n2_; clear n0_ n1_ n2_; (try clear hb); (try clear hb2); (try clear hk); (try clear hi); (try clear ho0)) | ((with_reducible refine gate_callee (f := 13) rfl ?_); refine goesL_ (some 40) rfl rfl Try.func13 (by kernel_rfl) rfl #[.int .i64 t295, .slice Ao13 t296.length co13] rfl (by (try simp only [List.map_toArray, List.map_cons, List.map_nil]); first | done | rfl | (simp only [List.length_drop, List.length_take]; rfl)) ?_; (with_reducible refine (spec_ExplainBlock.calls k t295 _ _ t296 t303 t304 _ ?side1 ?side2 A6.out).mono ?_); (case side1 => repeat (first | exact (Kd.R_reads' HO298.out).2.2 | (with_reducible refine Kd.C_alloc ?_ _) | (with_reducible refine Kd.C_drewN ?_ _) | (with_reducible refine Kd.C_drew ?_))); (case side2 => exact (Kd.R_reads' HO298.out).2.1); rintro e w15 ⟨v305, rfl, ho0, hb⟩; refine ⟨_, rfl, ?_⟩; have n0_ := Aside0.mk (Kd.R_elder' (by (with_reducible repeat (first | apply Kd.R_alloc | apply Kd.R_drewN | apply Kd.R_drew)); exact HO298.out) (Kd.R_base ho0) hb); have n1_ := Aside0.mk (Kd.R_elder' (by (with_reducible repeat (first | apply Kd.R_alloc | apply Kd.R_drewN | apply Kd.R_drew)); exact HO302.out) (Kd.R_base ho0) hb); have n2_ := Aside0.mk (Kd.R_lower (Kd.R_new' (Kd.R_new' ho0 (Kd.R_lt (by (with_reducible repeat (first | apply Kd.R_alloc | apply Kd.R_drewN | apply Kd.R_drew)); exact HO298.out))) (Kd.R_lt (by (with_reducible repeat (first | apply Kd.R_alloc | apply Kd.R_drewN | apply Kd.R_drew)); exact HO302.out))) (below_size (by repeat (first | (with_reducible first | exact HB.out | apply below_alloc | apply pw_below_drewN | apply below_drew1) | exact HB.out)))); have n3_ := Aside0.mk (below_step (by repeat (first | (with_reducible first | exact HB.out | apply below_alloc | apply pw_below_drewN | apply below_drew1) | exact HB.out)) hb); clear HO298; clear HO302; clear HB; have HO298 := n0_; have HO302 := n1_; have HO306 := n2_; have HB := n3_; clear n0_ n1_ n2_ n3_; (try clear hb); (try clear hb2); (try clear hk); (try clear hi); (try clear ho0)) | ((with_reducible refine gate_callee (f := 11) rfl ?_); refine goesL_ (some 46) rfl rfl Try.func11 (by kernel_rfl) rfl #[.int .i64 t295, .slice Ao13 t296.length co13] rfl (by (try simp only [List.map_toArray, List.map_cons, List.map_nil]); first | done | rfl | (simp only [List.length_drop, List.length_take]; rfl)) ?_; (with_reducible refine (impl_CountFaults.calls k t295 _ _ t296 t307 t308 _ ?side1 ?side2 A7.out).mono ?_); (case side1 => repeat (first | exact (Kd.R_reads' HO298.out).2.2 | (with_reducible refine Kd.C_alloc ?_ _) | (with_reducible refine Kd.C_drewN ?_ _) | (with_reducible refine Kd.C_drew ?_))); (case side2 => exact (Kd.R_reads' HO298.out).2.1); rintro e w16 ⟨rfl, hb⟩; refine ⟨_, rfl, ?_⟩; have n0_ := Aside0.mk (Kd.R_below (by (with_reducible repeat (first | apply Kd.R_alloc | apply Kd.R_drewN | apply Kd.R_drew)); exact HO298.out) hb); have n1_ := Aside0.mk (Kd.R_below (by (with_reducible repeat (first | apply Kd.R_alloc | apply Kd.R_drewN | apply Kd.R_drew)); exact HO302.out) hb); have n2_ := Aside0.mk (Kd.R_below (by (with_reducible repeat (first | apply Kd.R_alloc | apply Kd.R_drewN | apply Kd.R_drew)); exact HO306.out) hb); have n3_ := Aside0.mk (below_step (by repeat (first | (with_reducible first | exact HB.out | apply below_alloc | apply pw_below_drewN | apply below_drew1) | exact HB.out)) hb); clear HO298; clear HO302; clear HO306; clear HB; have HO298 := n0_; have HO302 := n1_; have HO306 := n2_; have HB := n3_; clear n0_ n1_ n2_ n3_; (try clear hb); (try clear hb2); (try clear hk); (try clear hi)) | ((with_reducible refine gate_callee (f := 9) rfl ?_); refine goesL_ (some 52) rfl rfl Try.func9 (by kernel_rfl) rfl #[.int .i64 t295, .slice Ao13 t296.length co13] rfl (by (try simp only [List.map_toArray, List.map_cons, List.map_nil]); first | done | rfl | (simp only [List.length_drop, List.length_take]; rfl)) ?_; (with_reducible refine (spec_CountFaults.calls k t295 _ _ t296 t309 t310 _ ?side1 ?side2 A8.out).mono ?_); (case side1 => repeat (first | exact (Kd.R_reads' HO298.out).2.2 | (with_reducible refine Kd.C_alloc ?_ _) | (with_reducible refine Kd.C_drewN ?_ _) | (with_reducible refine Kd.C_drew ?_))); (case side2 => exact (Kd.R_reads' HO298.out).2.1); rintro e w17 ⟨rfl, hb⟩; refine ⟨_, rfl, ?_⟩; have n0_ := Aside0.mk (Kd.R_below (by (with_reducible repeat (first | apply Kd.R_alloc | apply Kd.R_drewN | apply Kd.R_drew)); exact HO298.out) hb); have n1_ := Aside0.mk (Kd.R_below (by (with_reducible repeat (first | apply Kd.R_alloc | apply Kd.R_drewN | apply Kd.R_drew)); exact HO302.out) hb); have n2_ := Aside0.mk (Kd.R_below (by (with_reducible repeat (first | apply Kd.R_alloc | apply Kd.R_drewN | apply Kd.R_drew)); exact HO306.out) hb); have n3_ := Aside0.mk (below_step (by repeat (first | (with_reducible first | exact HB.out | apply below_alloc | apply pw_below_drewN | apply below_drew1) | exact HB.out)) hb); clear HO298; clear HO302; clear HO306; clear HB; have HO298 := n0_; have HO302 := n1_; have HO306 := n2_; have HB := n3_; clear n0_ n1_ n2_ n3_; (try clear hb); (try clear hb2); (try clear hk); (try clear hi)) | ((with_reducible refine gate_callee (f := 39) rfl ?_); refine goesL_ (some 58) rfl rfl Try.func39 (by kernel_rfl) rfl #[.int .i64 t295, .slice Ao13 t296.length co13] rfl (by (try simp only [List.map_toArray, List.map_cons, List.map_nil]); first | done | rfl | (simp only [List.length_drop, List.length_take]; rfl)) ?_; (with_reducible refine (impl_FirstDifference.calls k t295 _ _ t296 t311 t312 _ ?side1 ?side2 A9.out).mono ?_); (case side1 => repeat (first | exact (Kd.R_reads' HO298.out).2.2 | (with_reducible refine Kd.C_alloc ?_ _) | (with_reducible refine Kd.C_drewN ?_ _) | (with_reducible refine Kd.C_drew ?_))); (case side2 => exact (Kd.R_reads' HO298.out).2.1); rintro e w18 ⟨rfl, hb⟩; refine ⟨_, rfl, ?_⟩; have n0_ := Aside0.mk (Kd.R_below (by (with_reducible repeat (first | apply Kd.R_alloc | apply Kd.R_drewN | apply Kd.R_drew)); exact HO298.out) hb); have n1_ := Aside0.mk (Kd.R_below (by (with_reducible repeat (first | apply Kd.R_alloc | apply Kd.R_drewN | apply Kd.R_drew)); exact HO302.out) hb); have n2_ := Aside0.mk (Kd.R_below (by (with_reducible repeat (first | apply Kd.R_alloc | apply Kd.R_drewN | apply Kd.R_drew)); exact HO306.out) hb); have n3_ := Aside0.mk (below_step (by repeat (first | (with_reducible first | exact HB.out | apply below_alloc | apply pw_below_drewN | apply below_drew1) | exact HB.out)) hb); clear HO298; clear HO302; clear HO306; clear HB; have HO298 := n0_; have HO302 := n1_; have HO306 := n2_; have HB := n3_; clear n0_ n1_ n2_ n3_; (try clear hb); (try clear hb2); (try clear hk); (try clear hi)) | ((with_reducible refine gate_callee (f := 40) rfl ?_); refine goesL_ (some 64) rfl rfl Try.func40 (by kernel_rfl) rfl #[.int .i64 t295, .slice Ao13 t296.length co13] rfl (by (try simp only [List.map_toArray, List.map_cons, List.map_nil]); first | done | rfl | (simp only [List.length_drop, List.length_take]; rfl)) ?_; (with_reducible refine (spec_FirstDifference.calls k t295 _ _ t296 t313 t314 _ ?side1 ?side2 A10.out).mono ?_); (case side1 => repeat (first | exact (Kd.R_reads' HO298.out).2.2 | (with_reducible refine Kd.C_alloc ?_ _) | (with_reducible refine Kd.C_drewN ?_ _) | (with_reducible refine Kd.C_drew ?_))); (case side2 => exact (Kd.R_reads' HO298.out).2.1); rintro e w19 ⟨rfl, hb⟩; refine ⟨_, rfl, ?_⟩; have n0_ := Aside0.mk (Kd.R_below (by (with_reducible repeat (first | apply Kd.R_alloc | apply Kd.R_drewN | apply Kd.R_drew)); exact HO298.out) hb); have n1_ := Aside0.mk (Kd.R_below (by (with_reducible repeat (first | apply Kd.R_alloc | apply Kd.R_drewN | apply Kd.R_drew)); exact HO302.out) hb); have n2_ := Aside0.mk (Kd.R_below (by (with_reducible repeat (first | apply Kd.R_alloc | apply Kd.R_drewN | apply Kd.R_drew)); exact HO306.out) hb); have n3_ := Aside0.mk (below_step (by repeat (first | (with_reducible first | exact HB.out | apply below_alloc | apply pw_below_drewN | apply below_drew1) | exact HB.out)) hb); clear HO298; clear HO302; clear HO306; clear HB; have HO298 := n0_; have HO302 := n1_; have HO306 := n2_; have HB := n3_; clear n0_ n1_ n2_ n3_; (try clear hb); (try clear hb2); (try clear hk); (try clear hi)))
    (try simp only [Act.put, List.setIfInBounds_toArray, List.set_cons_zero, List.set_cons_succ])
    go_cut [100] (fun v100 wc => ∃ (kq : Nat) (x100_10 : Bool), v100 = .bool x100_10 ∧ Aside0 (laws_FnExplained.j0 kq t295 t296 t299 t300 t307 t312 x100_10 = some r) ∧ Aside0 (kq ≤ k) ∧ Aside0 (Kd.R (Kd.int .i64) 2 wc w.heap.size (fun k_ => some k_ ≠ (v301 : Value).ownBlock) (.slice Ao13 t296.length co13) t296) ∧ Aside0 (Kd.R (Kd.int .i64) 2 wc w.heap.size (fun k_ => some k_ ≠ ((.slice Ao13 t296.length co13) : Value).ownBlock) v301 t299) ∧ Aside0 (Below w.heap.size w wc))
    case first =>
      have H := HC11.out
      clear HC11
      by_cases c20 : t300 = t304
      · rw [if_pos c20] at H
        have c20b0 : (t300 == t304) = true := beq_iff_eq.mpr c20
        have c20b1 : (t300 != t304) = false := bne_eq_false_iff_eq.mpr c20
        clear c20
        (first | rw [c20b0] | (simp only [i64_w, i32_w]; rw [c20b0]) | skip)
        replace H := Option.bind_eq_some_iff.mp H
        obtain ⟨t315, A210, H⟩ := H
        replace H : (if t315 = true then (if t308 = t310 then (if t307 = t309 then (if t312 = t314 then (if t311 = t313 then (laws_FnExplained.j0 k t295 t296 t299 t300 t307 t312 (t308 != t300)) else (laws_FnExplained.j0 k t295 t296 t299 t300 t307 t312 true)) else (laws_FnExplained.j0 k t295 t296 t299 t300 t307 t312 true)) else (laws_FnExplained.j0 k t295 t296 t299 t300 t307 t312 true)) else (laws_FnExplained.j0 k t295 t296 t299 t300 t307 t312 true)) else (laws_FnExplained.j0 k t295 t296 t299 t300 t307 t312 true)) = some r := H
        have A21 := Aside0.mk A210
        clear A210
        by_cases c22 : t315 = true
        · subst c22
          have H1 : (if t308 = t310 then (if t307 = t309 then (if t312 = t314 then (if t311 = t313 then (laws_FnExplained.j0 k t295 t296 t299 t300 t307 t312 (t308 != t300)) else (laws_FnExplained.j0 k t295 t296 t299 t300 t307 t312 true)) else (laws_FnExplained.j0 k t295 t296 t299 t300 t307 t312 true)) else (laws_FnExplained.j0 k t295 t296 t299 t300 t307 t312 true)) else (laws_FnExplained.j0 k t295 t296 t299 t300 t307 t312 true)) = some r := by rw [if_pos rfl] at H; exact H
          clear H
          have H := H1
          clear H1
          by_cases c23 : t308 = t310
          · rw [if_pos c23] at H
            have c23b0 : (t308 == t310) = true := beq_iff_eq.mpr c23
            have c23b1 : (t308 != t310) = false := bne_eq_false_iff_eq.mpr c23
            clear c23
            by_cases c24 : t307 = t309
            · rw [if_pos c24] at H
              have c24b0 : (t307 == t309) = true := beq_iff_eq.mpr c24
              have c24b1 : (t307 != t309) = false := bne_eq_false_iff_eq.mpr c24
              clear c24
              by_cases c25 : t312 = t314
              · rw [if_pos c25] at H
                have c25b0 : (t312 == t314) = true := beq_iff_eq.mpr c25
                have c25b1 : (t312 != t314) = false := bne_eq_false_iff_eq.mpr c25
                clear c25
                by_cases c26 : t311 = t313
                · rw [if_pos c26] at H
                  have c26b0 : (t311 == t313) = true := beq_iff_eq.mpr c26
                  have c26b1 : (t311 != t313) = false := bne_eq_false_iff_eq.mpr c26
                  clear c26
                  have H' := Aside0.mk H
                  clear H
                  obtain ⟨Ao27, co27, eo27⟩ := Kd.R_slice HO302.out
                  subst eo27
                  obtain ⟨Ao28, co28, eo28⟩ := Kd.R_slice HO306.out
                  subst eo28
                  go_wp2_with (first | (go_at_call 35; (with_reducible refine (laws_likeInts.calls k _ _ t299 _ _ t303 true _ ?side1 ?side2 ?side3 ?side4 A21.out).mono ?_); (case side1 => repeat (first | exact (Kd.R_reads' HO302.out).2.2 | (with_reducible refine Kd.C_alloc ?_ _) | (with_reducible refine Kd.C_drewN ?_ _) | (with_reducible refine Kd.C_drew ?_))); (case side2 => exact (Kd.R_reads' HO302.out).2.1); (case side3 => repeat (first | exact (Kd.R_reads' HO306.out).2.2 | (with_reducible refine Kd.C_alloc ?_ _) | (with_reducible refine Kd.C_drewN ?_ _) | (with_reducible refine Kd.C_drew ?_))); (case side4 => exact (Kd.R_reads' HO306.out).2.1); rintro e w' ⟨rfl, ⟨nd, rfl⟩⟩))
                  go_meet
                  case rel => exact ⟨_, ((t308 != t300)), (by first | rfl | (simp; done) | (simp [*]; done)), H', ⟨by first | omega | exact Nat.le_refl _⟩, ⟨by (with_reducible repeat (first | apply Kd.R_alloc | apply Kd.R_drewN | apply Kd.R_drew)); exact Kd.R_mono HO298.out (fun _ hk => hk.1.2)⟩, ⟨by (with_reducible repeat (first | apply Kd.R_alloc | apply Kd.R_drewN | apply Kd.R_drew)); exact Kd.R_mono HO302.out (fun _ hk => hk.1.2)⟩, ⟨by repeat (first | (with_reducible first | exact HB.out | apply below_alloc | apply pw_below_drewN | apply below_drew1) | exact HB.out)⟩⟩
                · rw [if_neg c26] at H
                  have c26b0 : (t311 == t313) = false := beq_eq_false_iff_ne.mpr c26
                  have c26b1 : (t311 != t313) = true := bne_iff_ne.mpr c26
                  have H' := Aside0.mk H
                  clear H
                  obtain ⟨Ao29, co29, eo29⟩ := Kd.R_slice HO302.out
                  subst eo29
                  obtain ⟨Ao30, co30, eo30⟩ := Kd.R_slice HO306.out
                  subst eo30
                  go_wp2_with (first | (go_at_call 35; (with_reducible refine (laws_likeInts.calls k _ _ t299 _ _ t303 true _ ?side1 ?side2 ?side3 ?side4 A21.out).mono ?_); (case side1 => repeat (first | exact (Kd.R_reads' HO302.out).2.2 | (with_reducible refine Kd.C_alloc ?_ _) | (with_reducible refine Kd.C_drewN ?_ _) | (with_reducible refine Kd.C_drew ?_))); (case side2 => exact (Kd.R_reads' HO302.out).2.1); (case side3 => repeat (first | exact (Kd.R_reads' HO306.out).2.2 | (with_reducible refine Kd.C_alloc ?_ _) | (with_reducible refine Kd.C_drewN ?_ _) | (with_reducible refine Kd.C_drew ?_))); (case side4 => exact (Kd.R_reads' HO306.out).2.1); rintro e w' ⟨rfl, ⟨nd, rfl⟩⟩))
                  go_meet
                  case rel => exact ⟨_, (true), (by first | rfl | (simp; done) | (simp [*]; done)), H', ⟨by first | omega | exact Nat.le_refl _⟩, ⟨by (with_reducible repeat (first | apply Kd.R_alloc | apply Kd.R_drewN | apply Kd.R_drew)); exact Kd.R_mono HO298.out (fun _ hk => hk.1.2)⟩, ⟨by (with_reducible repeat (first | apply Kd.R_alloc | apply Kd.R_drewN | apply Kd.R_drew)); exact Kd.R_mono HO302.out (fun _ hk => hk.1.2)⟩, ⟨by repeat (first | (with_reducible first | exact HB.out | apply below_alloc | apply pw_below_drewN | apply below_drew1) | exact HB.out)⟩⟩
              · rw [if_neg c25] at H
                have c25b0 : (t312 == t314) = false := beq_eq_false_iff_ne.mpr c25
                have c25b1 : (t312 != t314) = true := bne_iff_ne.mpr c25
                have H' := Aside0.mk H
                clear H
                obtain ⟨Ao31, co31, eo31⟩ := Kd.R_slice HO302.out
                subst eo31
                obtain ⟨Ao32, co32, eo32⟩ := Kd.R_slice HO306.out
                subst eo32
                go_wp2_with (first | (go_at_call 35; (with_reducible refine (laws_likeInts.calls k _ _ t299 _ _ t303 true _ ?side1 ?side2 ?side3 ?side4 A21.out).mono ?_); (case side1 => repeat (first | exact (Kd.R_reads' HO302.out).2.2 | (with_reducible refine Kd.C_alloc ?_ _) | (with_reducible refine Kd.C_drewN ?_ _) | (with_reducible refine Kd.C_drew ?_))); (case side2 => exact (Kd.R_reads' HO302.out).2.1); (case side3 => repeat (first | exact (Kd.R_reads' HO306.out).2.2 | (with_reducible refine Kd.C_alloc ?_ _) | (with_reducible refine Kd.C_drewN ?_ _) | (with_reducible refine Kd.C_drew ?_))); (case side4 => exact (Kd.R_reads' HO306.out).2.1); rintro e w' ⟨rfl, ⟨nd, rfl⟩⟩))
                go_meet
                case rel => exact ⟨_, (true), (by first | rfl | (simp; done) | (simp [*]; done)), H', ⟨by first | omega | exact Nat.le_refl _⟩, ⟨by (with_reducible repeat (first | apply Kd.R_alloc | apply Kd.R_drewN | apply Kd.R_drew)); exact Kd.R_mono HO298.out (fun _ hk => hk.1.2)⟩, ⟨by (with_reducible repeat (first | apply Kd.R_alloc | apply Kd.R_drewN | apply Kd.R_drew)); exact Kd.R_mono HO302.out (fun _ hk => hk.1.2)⟩, ⟨by repeat (first | (with_reducible first | exact HB.out | apply below_alloc | apply pw_below_drewN | apply below_drew1) | exact HB.out)⟩⟩
            · rw [if_neg c24] at H
              have c24b0 : (t307 == t309) = false := beq_eq_false_iff_ne.mpr c24
              have c24b1 : (t307 != t309) = true := bne_iff_ne.mpr c24
              have H' := Aside0.mk H
              clear H
              obtain ⟨Ao33, co33, eo33⟩ := Kd.R_slice HO302.out
              subst eo33
              obtain ⟨Ao34, co34, eo34⟩ := Kd.R_slice HO306.out
              subst eo34
              go_wp2_with (first | (go_at_call 35; (with_reducible refine (laws_likeInts.calls k _ _ t299 _ _ t303 true _ ?side1 ?side2 ?side3 ?side4 A21.out).mono ?_); (case side1 => repeat (first | exact (Kd.R_reads' HO302.out).2.2 | (with_reducible refine Kd.C_alloc ?_ _) | (with_reducible refine Kd.C_drewN ?_ _) | (with_reducible refine Kd.C_drew ?_))); (case side2 => exact (Kd.R_reads' HO302.out).2.1); (case side3 => repeat (first | exact (Kd.R_reads' HO306.out).2.2 | (with_reducible refine Kd.C_alloc ?_ _) | (with_reducible refine Kd.C_drewN ?_ _) | (with_reducible refine Kd.C_drew ?_))); (case side4 => exact (Kd.R_reads' HO306.out).2.1); rintro e w' ⟨rfl, ⟨nd, rfl⟩⟩))
              go_meet
              case rel => exact ⟨_, (true), (by first | rfl | (simp; done) | (simp [*]; done)), H', ⟨by first | omega | exact Nat.le_refl _⟩, ⟨by (with_reducible repeat (first | apply Kd.R_alloc | apply Kd.R_drewN | apply Kd.R_drew)); exact Kd.R_mono HO298.out (fun _ hk => hk.1.2)⟩, ⟨by (with_reducible repeat (first | apply Kd.R_alloc | apply Kd.R_drewN | apply Kd.R_drew)); exact Kd.R_mono HO302.out (fun _ hk => hk.1.2)⟩, ⟨by repeat (first | (with_reducible first | exact HB.out | apply below_alloc | apply pw_below_drewN | apply below_drew1) | exact HB.out)⟩⟩
          · rw [if_neg c23] at H
            have c23b0 : (t308 == t310) = false := beq_eq_false_iff_ne.mpr c23
            have c23b1 : (t308 != t310) = true := bne_iff_ne.mpr c23
            have H' := Aside0.mk H
            clear H
            obtain ⟨Ao35, co35, eo35⟩ := Kd.R_slice HO302.out
            subst eo35
            obtain ⟨Ao36, co36, eo36⟩ := Kd.R_slice HO306.out
            subst eo36
            go_wp2_with (first | (go_at_call 35; (with_reducible refine (laws_likeInts.calls k _ _ t299 _ _ t303 true _ ?side1 ?side2 ?side3 ?side4 A21.out).mono ?_); (case side1 => repeat (first | exact (Kd.R_reads' HO302.out).2.2 | (with_reducible refine Kd.C_alloc ?_ _) | (with_reducible refine Kd.C_drewN ?_ _) | (with_reducible refine Kd.C_drew ?_))); (case side2 => exact (Kd.R_reads' HO302.out).2.1); (case side3 => repeat (first | exact (Kd.R_reads' HO306.out).2.2 | (with_reducible refine Kd.C_alloc ?_ _) | (with_reducible refine Kd.C_drewN ?_ _) | (with_reducible refine Kd.C_drew ?_))); (case side4 => exact (Kd.R_reads' HO306.out).2.1); rintro e w' ⟨rfl, ⟨nd, rfl⟩⟩))
            go_meet
            case rel => exact ⟨_, (true), (by first | rfl | (simp; done) | (simp [*]; done)), H', ⟨by first | omega | exact Nat.le_refl _⟩, ⟨by (with_reducible repeat (first | apply Kd.R_alloc | apply Kd.R_drewN | apply Kd.R_drew)); exact Kd.R_mono HO298.out (fun _ hk => hk.1.2)⟩, ⟨by (with_reducible repeat (first | apply Kd.R_alloc | apply Kd.R_drewN | apply Kd.R_drew)); exact Kd.R_mono HO302.out (fun _ hk => hk.1.2)⟩, ⟨by repeat (first | (with_reducible first | exact HB.out | apply below_alloc | apply pw_below_drewN | apply below_drew1) | exact HB.out)⟩⟩
        · replace c22 := Bool.eq_false_iff.mpr c22
          subst c22
          have H1 : (laws_FnExplained.j0 k t295 t296 t299 t300 t307 t312 true) = some r := by rw [if_neg (show ¬ (false = true) by decide)] at H; exact H
          clear H
          have H := H1
          clear H1
          have H' := Aside0.mk H
          clear H
          obtain ⟨Ao37, co37, eo37⟩ := Kd.R_slice HO302.out
          subst eo37
          obtain ⟨Ao38, co38, eo38⟩ := Kd.R_slice HO306.out
          subst eo38
          go_wp2_with (first | (go_at_call 35; (with_reducible refine (laws_likeInts.calls k _ _ t299 _ _ t303 false _ ?side1 ?side2 ?side3 ?side4 A21.out).mono ?_); (case side1 => repeat (first | exact (Kd.R_reads' HO302.out).2.2 | (with_reducible refine Kd.C_alloc ?_ _) | (with_reducible refine Kd.C_drewN ?_ _) | (with_reducible refine Kd.C_drew ?_))); (case side2 => exact (Kd.R_reads' HO302.out).2.1); (case side3 => repeat (first | exact (Kd.R_reads' HO306.out).2.2 | (with_reducible refine Kd.C_alloc ?_ _) | (with_reducible refine Kd.C_drewN ?_ _) | (with_reducible refine Kd.C_drew ?_))); (case side4 => exact (Kd.R_reads' HO306.out).2.1); rintro e w' ⟨rfl, ⟨nd, rfl⟩⟩))
          go_meet
          case rel => exact ⟨_, (true), (by first | rfl | (simp; done) | (simp [*]; done)), H', ⟨by first | omega | exact Nat.le_refl _⟩, ⟨by (with_reducible repeat (first | apply Kd.R_alloc | apply Kd.R_drewN | apply Kd.R_drew)); exact Kd.R_mono HO298.out (fun _ hk => hk.1.2)⟩, ⟨by (with_reducible repeat (first | apply Kd.R_alloc | apply Kd.R_drewN | apply Kd.R_drew)); exact Kd.R_mono HO302.out (fun _ hk => hk.1.2)⟩, ⟨by repeat (first | (with_reducible first | exact HB.out | apply below_alloc | apply pw_below_drewN | apply below_drew1) | exact HB.out)⟩⟩
      · rw [if_neg c20] at H
        have c20b0 : (t300 == t304) = false := beq_eq_false_iff_ne.mpr c20
        have c20b1 : (t300 != t304) = true := bne_iff_ne.mpr c20
        (first | rw [c20b0] | (simp only [i64_w, i32_w]; rw [c20b0]) | skip)
        have H' := Aside0.mk H
        clear H
        go_wp2
        go_meet
        case rel => exact ⟨_, (true), (by first | rfl | (simp; done) | (simp [*]; done)), H', ⟨by first | omega | exact Nat.le_refl _⟩, ⟨by (with_reducible repeat (first | apply Kd.R_alloc | apply Kd.R_drewN | apply Kd.R_drew)); exact Kd.R_mono HO298.out (fun _ hk => hk.1.2)⟩, ⟨by (with_reducible repeat (first | apply Kd.R_alloc | apply Kd.R_drewN | apply Kd.R_drew)); exact Kd.R_mono HO302.out (fun _ hk => hk.1.2)⟩, ⟨by repeat (first | (with_reducible first | exact HB.out | apply below_alloc | apply pw_below_drewN | apply below_drew1) | exact HB.out)⟩⟩
    case rest =>
      clear HC11
      try clear c1
      try clear c2
      try clear p2
      try clear c3
      try clear c4
      try clear c8
      try clear c9
      try clear c11
      try clear c13
      try clear c14
      try clear c20
      try clear c20b0
      try clear c20b1
      try clear c22
      try clear c23
      try clear c23b0
      try clear c23b1
      try clear c24
      try clear c24b0
      try clear c24b1
      try clear c25
      try clear c25b0
      try clear c25b1
      try clear c26
      try clear c26b0
      try clear c26b1
      try clear c28
      try clear c38
      obtain ⟨kq, x100_10, rfl, HA, HJ10, HO_4, HO_5, HB⟩ := hcut
      cases kq with
      | zero => exact absurd HA.out (by simp [laws_FnExplained.j0])
      | succ kj10 =>
        have H := HA.out
        clear HA
        simp only [laws_FnExplained.j0] at H
        by_cases c39 : x100_10 = true
        · subst c39
          have H1 : (some false) = some r := by rw [if_pos rfl] at H; exact H
          clear H
          have H := H1
          clear H1
          obtain rfl := Option.some.inj H
          go_wp2
          go_ret
          exact ⟨by first | rfl | (simp [errW_none, errW_some] <;> rfl) | (simp [*, errW_none, errW_some] <;> rfl), by repeat (first | (with_reducible first | exact HB.out | apply below_alloc | apply pw_below_drewN | apply below_drew1) | exact HB.out)⟩
        · replace c39 := Bool.eq_false_iff.mpr c39
          subst c39
          have H1 : (if t300 = 0 then (laws_FnExplained.l0 kj10 t295 t296 t299 t307 t312 (([] : List (S54))) 0 0 0) else (some true)) = some r := by rw [if_neg (show ¬ (false = true) by decide)] at H; exact H
          clear H
          have H := H1
          clear H1
          by_cases c40 : t300 = 0
          · rw [if_pos c40] at H
            have c40b0 : (t300 == 0) = true := beq_iff_eq.mpr c40
            have c40b1 : (t300 != 0) = false := bne_eq_false_iff_eq.mpr c40
            clear c40
            obtain ⟨y316, hy316⟩ : ∃ y_ : List (S54), y_ = (([] : List (S54))) := ⟨_, rfl⟩
            replace H : (laws_FnExplained.l0 kj10 t295 t296 t299 t307 t312 y316 0 0 0) = some r := by first | (rw [hy316]; with_reducible exact H) | (have H2_ := (Option.bind_some _ _).symm.trans H; rw [hy316]; with_reducible exact H2_) | (have H2_ := (Option.bind_some _ _).symm.trans H; with_reducible exact H2_) | with_reducible exact H | (rw [hy316]; exact H) | exact H
            have Ny316 := Aside0.mk hy316
            clear hy316
            have H' := Aside0.mk H
            clear H
            go_wp2_with (first | ((with_reducible refine gate_dst (N := 103) rfl ?_); (try (refine gate_guard (by rfl) ?_; dsimp only)); refine Kd.R_lit k54 _ 54 ?hg (N := 103) ?hd (xs := ([] : List (S54))) (inner := []) (ok := fun _ => True) (okp := fun _ => True) ?hr ?hp (fun _ hk => hk) trivial (Below.refl _ _) (Nat.le_refl _) (by simp) ?_; (case hd => rfl); (case hg => rfl); (case hr => first | (go_simp; done) | (go_simp; rfl)); (case hp => exact (Reps.none _ _)); intro v317 w41 ho42 hb hg_ hnew_; clear hg_ hnew_; (first | rw [← Ny316.out] at ho42 | (simp only [Int.reduceToNat] at ho42; rw [← Ny316.out] at ho42)); have n0_ := Aside0.mk (Kd.R_below (by (with_reducible repeat (first | apply Kd.R_alloc | apply Kd.R_drewN | apply Kd.R_drew)); exact HO_4.out) hb); have n1_ := Aside0.mk (Kd.R_below (by (with_reducible repeat (first | apply Kd.R_alloc | apply Kd.R_drewN | apply Kd.R_drew)); exact HO_5.out) hb); have n2_ := Aside0.mk (Kd.R_lower ho42 (below_size (by repeat (first | (with_reducible first | exact HB.out | apply below_alloc | apply pw_below_drewN | apply below_drew1) | exact HB.out)))); have n3_ := Aside0.mk (below_step (by repeat (first | (with_reducible first | exact HB.out | apply below_alloc | apply pw_below_drewN | apply below_drew1) | exact HB.out)) hb); clear HO_4; clear HO_5; clear HB; have HO_4 := n0_; have HO_5 := n1_; have HO318 := n2_; have HB := n3_; clear n0_ n1_ n2_ n3_; clear hb ho42))
            go_loopg [17, 18, 19, 20] kj10 (fun kq v17 v18 v19 v20 w' => ∃ (x17_2 : List (S54)) (x18_2 : Int) (x19_2 : Int) (x20_2 : Int), v18 = .int .i64 x18_2 ∧ v19 = .int .i64 x19_2 ∧ v20 = .int .i64 x20_2 ∧ Aside0 (laws_FnExplained.l0 kq t295 t296 t299 t307 t312 x17_2 x18_2 x19_2 x20_2 = some r) ∧ Aside0 (kq ≤ kj10) ∧ Aside0 (Kd.R (Kd.int .i64) 2 w' w.heap.size (fun k_ => some k_ ≠ (v301 : Value).ownBlock) (.slice Ao13 t296.length co13) t296) ∧ Aside0 (Kd.R (Kd.int .i64) 2 w' w.heap.size (fun k_ => some k_ ≠ ((.slice Ao13 t296.length co13) : Value).ownBlock) v301 t299) ∧ Aside0 (Kd.R k54 54 w' w.heap.size (fun _ => True) v17 x17_2) ∧ Aside0 (Below w.heap.size w w'))
            case atStart => exact ⟨(y316), (0), (0), (0), (by first | rfl | (simp; done) | (simp [*]; done)), (by first | rfl | (simp; done) | (simp [*]; done)), (by first | rfl | (simp; done) | (simp [*]; done)), H', ⟨Nat.le_refl _⟩, ⟨by (with_reducible repeat (first | apply Kd.R_alloc | apply Kd.R_drewN | apply Kd.R_drew)); exact HO_4.out⟩, ⟨by (with_reducible repeat (first | apply Kd.R_alloc | apply Kd.R_drewN | apply Kd.R_drew)); exact HO_5.out⟩, ⟨by (with_reducible repeat (first | apply Kd.R_alloc | apply Kd.R_drewN | apply Kd.R_drew)); exact HO318.out⟩, ⟨by repeat (first | (with_reducible first | exact HB.out | apply below_alloc | apply pw_below_drewN | apply below_drew1) | exact HB.out)⟩⟩
            case round =>
              clear H'
              try clear c1
              try clear c2
              try clear p2
              try clear c3
              try clear c4
              try clear c8
              try clear c9
              try clear c11
              try clear c13
              try clear c14
              try clear c20
              try clear c20b0
              try clear c20b1
              try clear c22
              try clear c23
              try clear c23b0
              try clear c23b1
              try clear c24
              try clear c24b0
              try clear c24b1
              try clear c25
              try clear c25b0
              try clear c25b1
              try clear c26
              try clear c26b0
              try clear c26b1
              try clear c28
              try clear c38
              try clear c39
              try clear c40
              try clear c40b0
              try clear c40b1
              try clear p2
              obtain ⟨x17_2, x18_2, x19_2, x20_2, rfl, rfl, rfl, HA, HK2, HO_4, HO_5, HO_17, HB⟩ := hrel
              cases gk with
              | zero => exact absurd HA.out (by simp [laws_FnExplained.l0])
              | succ k2 =>
                have H := HA.out
                clear HA
                simp only [laws_FnExplained.l0] at H
                by_cases c43 : x20_2 < t295
                · rw [if_pos c43] at H
                  have c43b0 : decide (x20_2 < t295) = true := decide_eq_true c43
                  clear c43
                  by_cases c44 : 0 ≤ x20_2
                  · rw [if_pos c44] at H
                    have c44b0 : decide (0 ≤ x20_2) = true := decide_eq_true c44
                    clear c44
                    by_cases c45 : x20_2 < (t299.length : Int)
                    · rw [if_pos c45] at H
                      have c45b0 : decide (x20_2 < (t299.length : Int)) = true := decide_eq_true c45
                      clear c45
                      have HC46 := Aside0.mk H
                      clear H
                      obtain ⟨Ao47, co47, eo47⟩ := Kd.R_slice HO_5.out
                      subst eo47
                      have p325 : 0 ≤ (x20_2 : Int) := of_decide_eq_true (by first | (with_reducible assumption) | assumption)
                      have q325 : x20_2 < (t299.length : Int) := of_decide_eq_true (by first | (with_reducible assumption) | assumption)
                      obtain ⟨ad325, e325, hx325_0⟩ := Kd.at_int (Kd.R_reads' HO_5.out).2.2 x20_2 p325 q325
                      cases e325
                      replace p325 := eq_true p325
                      replace q325 := eq_true q325
                      go_upto_if 119 with (first | ((with_reducible refine gate_dst (N := 21) rfl ?_); (try (refine gate_guard (by rfl) ?_; dsimp only)); refine box_event ?hg (N := 21) ?hd (cs := #[.int .i64 0, .int .i64 0, .int .i64 0, .int .i64 0]) (t := 54) ?hr ?_; (case hd => rfl); (case hg => rfl); (case hr => first | (go_simp; done) | (go_simp; rfl)); intro gb326 hg w48 hbox hb; have n0_ := Aside0.mk (Kd.R_below (by (with_reducible repeat (first | apply Kd.R_alloc | apply Kd.R_drewN | apply Kd.R_drew)); exact HO_4.out) hb); have n1_ := Aside0.mk (Kd.R_below (by (with_reducible repeat (first | apply Kd.R_alloc | apply Kd.R_drewN | apply Kd.R_drew)); exact HO_5.out) hb); have n2_ := Aside0.mk (Kd.R_below (Kd.R_elderB (by (with_reducible repeat (first | apply Kd.R_alloc | apply Kd.R_drewN | apply Kd.R_drew)); exact HO_17.out) gb326 (Nat.le_of_eq hg.symm)) hb); have n3_ := Aside0.mk (below_step (by repeat (first | (with_reducible first | exact HB.out | apply below_alloc | apply pw_below_drewN | apply below_drew1) | exact HB.out)) hb); have n4_ := Aside0.mk (hbox); have n5_ := Aside0.mk ((by rw [hg]; exact (below_size (by repeat (first | (with_reducible first | exact HB.out | apply below_alloc | apply pw_below_drewN | apply below_drew1) | exact HB.out))) : w.heap.size ≤ gb326)); have n6_ := Aside0.mk ((by rw [hg]; exact (below_size (by repeat (first | (with_reducible first | exact HB.out | apply below_alloc | apply pw_below_drewN | apply below_drew1) | exact HB.out))) : w.heap.size ≤ gb326)); clear HO_4; clear HO_5; clear HO_17; clear HB; have HO_4 := n0_; have HO_5 := n1_; have HO_17 := n2_; have HB := n3_; have BK326 := n4_; have GW326 := n5_; have GE326 := n6_; clear n0_ n1_ n2_ n3_ n4_ n5_ n6_; clear hb hbox hg; have hcz49_0 : w48.cell? ⟨gb326, 0, none⟩ = some (.int .i64 0) := (blk_cell BK326.out 0).trans rfl; have hcz49_1 : w48.cell? ⟨gb326, 1, none⟩ = some (.int .i64 0) := (blk_cell BK326.out 1).trans rfl; have hcz49_2 : w48.cell? ⟨gb326, 2, none⟩ = some (.int .i64 0) := (blk_cell BK326.out 2).trans rfl; have hcz49_3 : w48.cell? ⟨gb326, 3, none⟩ = some (.int .i64 0) := (blk_cell BK326.out 3).trans rfl; have hfz49_0 := blk_frozen BK326.out 0; have hfz49_1 := blk_frozen BK326.out 1; have hfz49_2 := blk_frozen BK326.out 2; have hfz49_3 := blk_frozen BK326.out 3; have p327 : 0 ≤ (x20_2 : Int) := of_decide_eq_true (by first | (with_reducible assumption) | assumption); have q327 : x20_2 < (t299.length : Int) := of_decide_eq_true (by first | (with_reducible assumption) | assumption); obtain ⟨ad327, e327, hx327_0⟩ := Kd.at_int (Kd.R_reads' HO_5.out).2.2 x20_2 p327 q327; obtain rfl : ad325 = ad327 := (by injection e327); have hn327_0 : ad325.block ≠ gb326 := Kd.own_blk (Kd.R_ne HO_5.out BK326.out (by decide)); have hn327_1 : ad325.block ≠ gb326 := Kd.own_blk (Kd.R_ne HO_5.out BK326.out (by decide)); have hn327_2 : ad325.block ≠ gb326 := Kd.own_blk (Kd.R_ne HO_5.out BK326.out (by decide)); have hn327_3 : ad325.block ≠ gb326 := Kd.own_blk (Kd.R_ne HO_5.out BK326.out (by decide)); replace hx327_0 := (cell_far (p := ⟨gb326, 0, none⟩) (by first | (rw [add_block]; exact hn327_0) | (show (Addr.add _ _).block ≠ _; rw [add_block]; exact hn327_0) | exact hn327_0) (.int .i64 0)).trans hx327_0; replace hx327_0 := (cell_far (p := ⟨gb326, 1, none⟩) (by first | (rw [add_block]; exact hn327_1) | (show (Addr.add _ _).block ≠ _; rw [add_block]; exact hn327_1) | exact hn327_1) (.int .i64 x20_2)).trans hx327_0; replace hx327_0 := (cell_far (p := ⟨gb326, 2, none⟩) (by first | (rw [add_block]; exact hn327_2) | (show (Addr.add _ _).block ≠ _; rw [add_block]; exact hn327_2) | exact hn327_2) (.int .i64 (rd t299 x20_2))).trans hx327_0; replace hx327_0 := (cell_far (p := ⟨gb326, 3, none⟩) (by first | (rw [add_block]; exact hn327_3) | (show (Addr.add _ _).block ≠ _; rw [add_block]; exact hn327_3) | exact hn327_3) (.int .i64 0)).trans hx327_0; clear hn327_0; clear hn327_1; clear hn327_2; clear hn327_3; replace p327 := eq_true p327; replace q327 := eq_true q327))
                      (try simp only [Act.put, List.setIfInBounds_toArray, List.set_cons_zero, List.set_cons_succ])
                      go_cut [] (fun wc => ∃ (kq : Nat) (x327003_45 : Int), Aside0 (laws_FnExplained.j2 kq t295 t296 t299 t307 t312 x17_2 x18_2 x19_2 x20_2 0 x20_2 (rd t299 x20_2) x327003_45 = some r) ∧ Aside0 (kq ≤ k2) ∧ Aside0 (Kd.R (Kd.int .i64) 2 wc w.heap.size (fun k_ => some k_ ≠ ((.slice (some ad325) t299.length co47) : Value).ownBlock) (.slice Ao13 t296.length co13) t296) ∧ Aside0 (Kd.R (Kd.int .i64) 2 wc w.heap.size (fun k_ => some k_ ≠ ((.slice Ao13 t296.length co13) : Value).ownBlock) (.slice (some ad325) t299.length co47) t299) ∧ Aside0 (Kd.R k54 54 wc w.heap.size (fun k_ => k_ ≠ gb326) u17 x17_2) ∧ Aside0 (wc.heap[gb326]? = some (.cells #[.int .i64 0, .int .i64 x20_2, .int .i64 (rd t299 x20_2), .int .i64 x327003_45] 54 (0, 0))) ∧ Aside0 (Below w.heap.size w wc))
                      case first =>
                        have H := HC46.out
                        clear HC46
                        by_cases c50 : (rd t299 x20_2) = 4
                        · rw [if_pos c50] at H
                          have c50b0 : ((rd t299 x20_2) == 4) = true := beq_iff_eq.mpr c50
                          have c50b1 : ((rd t299 x20_2) != 4) = false := bne_eq_false_iff_eq.mpr c50
                          clear c50
                          (first | rw [c50b0] | (simp only [i64_w, i32_w]; rw [c50b0]) | skip)
                          by_cases c51 : 0 ≤ x18_2
                          · rw [if_pos c51] at H
                            have c51b0 : decide (0 ≤ x18_2) = true := decide_eq_true c51
                            clear c51
                            by_cases c52 : x18_2 < (t296.length : Int)
                            · rw [if_pos c52] at H
                              have c52b0 : decide (x18_2 < (t296.length : Int)) = true := decide_eq_true c52
                              clear c52
                              have H' := Aside0.mk H
                              clear H
                              have p328 : 0 ≤ (x18_2 : Int) := of_decide_eq_true (by first | (with_reducible assumption) | assumption)
                              have q328 : x18_2 < (t296.length : Int) := of_decide_eq_true (by first | (with_reducible assumption) | assumption)
                              obtain ⟨ad328, e328, hx328_0⟩ := Kd.at_int (Kd.R_reads' HO_4.out).2.2 x18_2 p328 q328
                              cases e328
                              have hn328_0 : ad328.block ≠ gb326 := Kd.own_blk (Kd.R_ne HO_4.out BK326.out (by decide))
                              have hn328_1 : ad328.block ≠ gb326 := Kd.own_blk (Kd.R_ne HO_4.out BK326.out (by decide))
                              have hn328_2 : ad328.block ≠ gb326 := Kd.own_blk (Kd.R_ne HO_4.out BK326.out (by decide))
                              have hn328_3 : ad328.block ≠ gb326 := Kd.own_blk (Kd.R_ne HO_4.out BK326.out (by decide))
                              replace hx328_0 := (cell_far (p := ⟨gb326, 0, none⟩) (by first | (rw [add_block]; exact hn328_0) | (show (Addr.add _ _).block ≠ _; rw [add_block]; exact hn328_0) | exact hn328_0) (.int .i64 0)).trans hx328_0
                              replace hx328_0 := (cell_far (p := ⟨gb326, 1, none⟩) (by first | (rw [add_block]; exact hn328_1) | (show (Addr.add _ _).block ≠ _; rw [add_block]; exact hn328_1) | exact hn328_1) (.int .i64 x20_2)).trans hx328_0
                              replace hx328_0 := (cell_far (p := ⟨gb326, 2, none⟩) (by first | (rw [add_block]; exact hn328_2) | (show (Addr.add _ _).block ≠ _; rw [add_block]; exact hn328_2) | exact hn328_2) (.int .i64 (rd t299 x20_2))).trans hx328_0
                              replace hx328_0 := (cell_far (p := ⟨gb326, 3, none⟩) (by first | (rw [add_block]; exact hn328_3) | (show (Addr.add _ _).block ≠ _; rw [add_block]; exact hn328_3) | exact hn328_3) (.int .i64 0)).trans hx328_0
                              clear hn328_0
                              clear hn328_1
                              clear hn328_2
                              clear hn328_3
                              replace p328 := eq_true p328
                              replace q328 := eq_true q328
                              have hcz53_0 : w48.cell? ⟨gb326, 0, none⟩ = some (.int .i64 0) := (blk_cell BK326.out 0).trans rfl
                              have hcz53_1 : w48.cell? ⟨gb326, 1, none⟩ = some (.int .i64 0) := (blk_cell BK326.out 1).trans rfl
                              have hcz53_2 : w48.cell? ⟨gb326, 2, none⟩ = some (.int .i64 0) := (blk_cell BK326.out 2).trans rfl
                              have hcz53_3 : w48.cell? ⟨gb326, 3, none⟩ = some (.int .i64 0) := (blk_cell BK326.out 3).trans rfl
                              have hfz53_0 := blk_frozen BK326.out 0
                              have hfz53_1 := blk_frozen BK326.out 1
                              have hfz53_2 := blk_frozen BK326.out 2
                              have hfz53_3 := blk_frozen BK326.out 3
                              go_wp2
                              go_meet
                              case rel => exact ⟨_, (wrap64 ((rd t296 x18_2) - 1)), H', ⟨by have := HJ10.out; have := HK2.out; first | omega | exact Nat.le_refl _⟩, ⟨by (with_reducible repeat (first | apply Kd.R_alloc | apply Kd.R_drewN | apply Kd.R_drew)); exact Kd.R_mono (Kd.R_far (p := ⟨gb326, 3, none⟩) (Kd.R_far (p := ⟨gb326, 3, none⟩) (Kd.R_far (p := ⟨gb326, 2, none⟩) (Kd.R_far (p := ⟨gb326, 1, none⟩) (Kd.R_far (p := ⟨gb326, 0, none⟩) (Kd.R_types HO_4.out BK326.out (by decide)) (fun _ hk => hk.2) (.int .i64 0)) (fun _ hk => hk.2) (.int .i64 x20_2)) (fun _ hk => hk.2) (.int .i64 (rd t299 x20_2))) (fun _ hk => hk.2) (.int .i64 0)) (fun _ hk => hk.2) (.int .i64 (wrap64 ((rd t296 x18_2) - 1)))) (fun _ hk => hk.1)⟩, ⟨by (with_reducible repeat (first | apply Kd.R_alloc | apply Kd.R_drewN | apply Kd.R_drew)); exact Kd.R_mono (Kd.R_far (p := ⟨gb326, 3, none⟩) (Kd.R_far (p := ⟨gb326, 3, none⟩) (Kd.R_far (p := ⟨gb326, 2, none⟩) (Kd.R_far (p := ⟨gb326, 1, none⟩) (Kd.R_far (p := ⟨gb326, 0, none⟩) (Kd.R_types HO_5.out BK326.out (by decide)) (fun _ hk => hk.2) (.int .i64 0)) (fun _ hk => hk.2) (.int .i64 x20_2)) (fun _ hk => hk.2) (.int .i64 (rd t299 x20_2))) (fun _ hk => hk.2) (.int .i64 0)) (fun _ hk => hk.2) (.int .i64 (wrap64 ((rd t296 x18_2) - 1)))) (fun _ hk => hk.1)⟩, ⟨by (with_reducible repeat (first | apply Kd.R_alloc | apply Kd.R_drewN | apply Kd.R_drew)); exact Kd.R_mono (Kd.R_far (p := ⟨gb326, 3, none⟩) (Kd.R_far (p := ⟨gb326, 3, none⟩) (Kd.R_far (p := ⟨gb326, 2, none⟩) (Kd.R_far (p := ⟨gb326, 1, none⟩) (Kd.R_far (p := ⟨gb326, 0, none⟩) (Kd.R_mono HO_17.out (fun k_ hk => (⟨hk, hk.2⟩ : _ ∧ k_ ≠ gb326))) (fun _ hk => hk.2) (.int .i64 0)) (fun _ hk => hk.2) (.int .i64 x20_2)) (fun _ hk => hk.2) (.int .i64 (rd t299 x20_2))) (fun _ hk => hk.2) (.int .i64 0)) (fun _ hk => hk.2) (.int .i64 (wrap64 ((rd t296 x18_2) - 1)))) (fun _ hk => hk.1.2)⟩, ⟨by (with_reducible repeat (first | refine blk_drewN ?_ _ | refine blk_drew ?_ | refine blk_alloc ?_ _)); refine blk_put (cs := #[.int .i64 0, .int .i64 x20_2, .int .i64 (rd t299 x20_2), .int .i64 0]) ?_ 3 _ rfl; (with_reducible repeat (first | refine blk_drewN ?_ _ | refine blk_drew ?_ | refine blk_alloc ?_ _)); refine blk_put (cs := #[.int .i64 0, .int .i64 x20_2, .int .i64 (rd t299 x20_2), .int .i64 0]) ?_ 3 _ rfl; (with_reducible repeat (first | refine blk_drewN ?_ _ | refine blk_drew ?_ | refine blk_alloc ?_ _)); refine blk_put (cs := #[.int .i64 0, .int .i64 x20_2, .int .i64 0, .int .i64 0]) ?_ 2 _ rfl; (with_reducible repeat (first | refine blk_drewN ?_ _ | refine blk_drew ?_ | refine blk_alloc ?_ _)); refine blk_put (cs := #[.int .i64 0, .int .i64 0, .int .i64 0, .int .i64 0]) ?_ 1 _ rfl; (with_reducible repeat (first | refine blk_drewN ?_ _ | refine blk_drew ?_ | refine blk_alloc ?_ _)); refine blk_put (cs := #[.int .i64 0, .int .i64 0, .int .i64 0, .int .i64 0]) ?_ 0 _ rfl; (with_reducible repeat (first | refine blk_drewN ?_ _ | refine blk_drew ?_ | refine blk_alloc ?_ _)); exact BK326.out⟩, ⟨by repeat (first | (with_reducible first | exact HB.out | apply below_alloc | apply pw_below_drewN | apply below_drew1 | refine below_set ?_ GE326.out) | exact HB.out)⟩⟩
                            · rw [if_neg c52] at H
                              exact absurd H (by simp)
                          · rw [if_neg c51] at H
                            exact absurd H (by simp)
                        · rw [if_neg c50] at H
                          have c50b0 : ((rd t299 x20_2) == 4) = false := beq_eq_false_iff_ne.mpr c50
                          have c50b1 : ((rd t299 x20_2) != 4) = true := bne_iff_ne.mpr c50
                          (first | rw [c50b0] | (simp only [i64_w, i32_w]; rw [c50b0]) | skip)
                          have H' := Aside0.mk H
                          clear H
                          go_wp2
                          go_meet
                          case rel => exact ⟨_, (0), H', ⟨by have := HJ10.out; have := HK2.out; first | omega | exact Nat.le_refl _⟩, ⟨by (with_reducible repeat (first | apply Kd.R_alloc | apply Kd.R_drewN | apply Kd.R_drew)); exact Kd.R_mono (Kd.R_far (p := ⟨gb326, 3, none⟩) (Kd.R_far (p := ⟨gb326, 2, none⟩) (Kd.R_far (p := ⟨gb326, 1, none⟩) (Kd.R_far (p := ⟨gb326, 0, none⟩) (Kd.R_types HO_4.out BK326.out (by decide)) (fun _ hk => hk.2) (.int .i64 0)) (fun _ hk => hk.2) (.int .i64 x20_2)) (fun _ hk => hk.2) (.int .i64 (rd t299 x20_2))) (fun _ hk => hk.2) (.int .i64 0)) (fun _ hk => hk.1)⟩, ⟨by (with_reducible repeat (first | apply Kd.R_alloc | apply Kd.R_drewN | apply Kd.R_drew)); exact Kd.R_mono (Kd.R_far (p := ⟨gb326, 3, none⟩) (Kd.R_far (p := ⟨gb326, 2, none⟩) (Kd.R_far (p := ⟨gb326, 1, none⟩) (Kd.R_far (p := ⟨gb326, 0, none⟩) (Kd.R_types HO_5.out BK326.out (by decide)) (fun _ hk => hk.2) (.int .i64 0)) (fun _ hk => hk.2) (.int .i64 x20_2)) (fun _ hk => hk.2) (.int .i64 (rd t299 x20_2))) (fun _ hk => hk.2) (.int .i64 0)) (fun _ hk => hk.1)⟩, ⟨by (with_reducible repeat (first | apply Kd.R_alloc | apply Kd.R_drewN | apply Kd.R_drew)); exact Kd.R_mono (Kd.R_far (p := ⟨gb326, 3, none⟩) (Kd.R_far (p := ⟨gb326, 2, none⟩) (Kd.R_far (p := ⟨gb326, 1, none⟩) (Kd.R_far (p := ⟨gb326, 0, none⟩) (Kd.R_mono HO_17.out (fun k_ hk => (⟨hk, hk.2⟩ : _ ∧ k_ ≠ gb326))) (fun _ hk => hk.2) (.int .i64 0)) (fun _ hk => hk.2) (.int .i64 x20_2)) (fun _ hk => hk.2) (.int .i64 (rd t299 x20_2))) (fun _ hk => hk.2) (.int .i64 0)) (fun _ hk => hk.1.2)⟩, ⟨by (with_reducible repeat (first | refine blk_drewN ?_ _ | refine blk_drew ?_ | refine blk_alloc ?_ _)); refine blk_put (cs := #[.int .i64 0, .int .i64 x20_2, .int .i64 (rd t299 x20_2), .int .i64 0]) ?_ 3 _ rfl; (with_reducible repeat (first | refine blk_drewN ?_ _ | refine blk_drew ?_ | refine blk_alloc ?_ _)); refine blk_put (cs := #[.int .i64 0, .int .i64 x20_2, .int .i64 0, .int .i64 0]) ?_ 2 _ rfl; (with_reducible repeat (first | refine blk_drewN ?_ _ | refine blk_drew ?_ | refine blk_alloc ?_ _)); refine blk_put (cs := #[.int .i64 0, .int .i64 0, .int .i64 0, .int .i64 0]) ?_ 1 _ rfl; (with_reducible repeat (first | refine blk_drewN ?_ _ | refine blk_drew ?_ | refine blk_alloc ?_ _)); refine blk_put (cs := #[.int .i64 0, .int .i64 0, .int .i64 0, .int .i64 0]) ?_ 0 _ rfl; (with_reducible repeat (first | refine blk_drewN ?_ _ | refine blk_drew ?_ | refine blk_alloc ?_ _)); exact BK326.out⟩, ⟨by repeat (first | (with_reducible first | exact HB.out | apply below_alloc | apply pw_below_drewN | apply below_drew1 | refine below_set ?_ GE326.out) | exact HB.out)⟩⟩
                      case rest =>
                        clear HC46
                        try clear c1
                        try clear c2
                        try clear p2
                        try clear c3
                        try clear p3
                        try clear q3
                        try clear hx3
                        try clear c4
                        try clear c5
                        try clear p6
                        try clear c8
                        try clear c9
                        try clear c11
                        try clear c13
                        try clear c14
                        try clear c20
                        try clear c20b0
                        try clear c20b1
                        try clear c22
                        try clear c23
                        try clear c23b0
                        try clear c23b1
                        try clear c24
                        try clear c24b0
                        try clear c24b1
                        try clear c25
                        try clear c25b0
                        try clear c25b1
                        try clear c26
                        try clear c26b0
                        try clear c26b1
                        try clear c28
                        try clear p32
                        try clear q32
                        try clear hx32
                        try clear c38
                        try clear c39
                        try clear c40
                        try clear c40b0
                        try clear c40b1
                        try clear c43
                        try clear c43b0
                        try clear c44
                        try clear c44b0
                        try clear c45
                        try clear c45b0
                        try clear c50
                        try clear c50b0
                        try clear c50b1
                        try clear c51
                        try clear c51b0
                        try clear c52
                        try clear c52b0
                        try clear hcz49_0
                        try clear hcz49_1
                        try clear hcz49_2
                        try clear hcz49_3
                        try clear hcz53_0
                        try clear hcz53_1
                        try clear hcz53_2
                        try clear hcz53_3
                        try clear hfz49_0
                        try clear hfz49_1
                        try clear hfz49_2
                        try clear hfz49_3
                        try clear hfz53_0
                        try clear hfz53_1
                        try clear hfz53_2
                        try clear hfz53_3
                        try clear hx325_0
                        try clear hx327_0
                        try clear hx328_0
                        try clear p2
                        try clear p325
                        try clear p327
                        try clear p328
                        try clear q325
                        try clear q327
                        try clear q328
                        obtain ⟨kq, x327003_45, HA, HJ45, HO_4, HO_5, HO_17, BK326, HB⟩ := hcut
                        cases kq with
                        | zero => exact absurd HA.out (by simp [laws_FnExplained.j2])
                        | succ kj45 =>
                          have H := HA.out
                          clear HA
                          simp only [laws_FnExplained.j2] at H
                          by_cases c54 : 0 ≤ x20_2
                          · rw [if_pos c54] at H
                            have c54b0 : decide (0 ≤ x20_2) = true := decide_eq_true c54
                            clear c54
                            by_cases c55 : x20_2 < (t299.length : Int)
                            · rw [if_pos c55] at H
                              have c55b0 : decide (x20_2 < (t299.length : Int)) = true := decide_eq_true c55
                              clear c55
                              by_cases c56 : (rd t299 x20_2) = 2
                              · rw [if_pos c56] at H
                                have c56b0 : ((rd t299 x20_2) == 2) = true := beq_iff_eq.mpr c56
                                have c56b1 : ((rd t299 x20_2) != 2) = false := bne_eq_false_iff_eq.mpr c56
                                clear c56
                                by_cases c57 : (rd t299 x20_2) = 0
                                · rw [if_pos c57] at H
                                  have c57b0 : ((rd t299 x20_2) == 0) = true := beq_iff_eq.mpr c57
                                  have c57b1 : ((rd t299 x20_2) != 0) = false := bne_eq_false_iff_eq.mpr c57
                                  clear c57
                                  have H' := Aside0.mk H
                                  clear H
                                  have p329 : 0 ≤ (x20_2 : Int) := of_decide_eq_true (by first | (with_reducible assumption) | assumption)
                                  have q329 : x20_2 < (t299.length : Int) := of_decide_eq_true (by first | (with_reducible assumption) | assumption)
                                  obtain ⟨ad329, e329, hx329_0⟩ := Kd.at_int (Kd.R_reads' HO_5.out).2.2 x20_2 p329 q329
                                  obtain rfl : ad325 = ad329 := (by injection e329)
                                  replace p329 := eq_true p329
                                  replace q329 := eq_true q329
                                  have p330 : 0 ≤ (x20_2 : Int) := of_decide_eq_true (by first | (with_reducible assumption) | assumption)
                                  have q330 : x20_2 < (t299.length : Int) := of_decide_eq_true (by first | (with_reducible assumption) | assumption)
                                  obtain ⟨ad330, e330, hx330_0⟩ := Kd.at_int (Kd.R_reads' HO_5.out).2.2 x20_2 p330 q330
                                  obtain rfl : ad325 = ad330 := (by injection e330)
                                  replace p330 := eq_true p330
                                  replace q330 := eq_true q330
                                  go_wp2
                                  go_roundg kj45
                                  case measure => have := HJ10.out; have := HK2.out; have := HJ45.out; omega
                                  case rel => exact ⟨(x17_2), (wrap64 (x18_2 + 2)), (x19_2), (wrap64 (x20_2 + 1)), (by first | rfl | (simp; done) | (simp [*]; done)), (by first | rfl | (simp; done) | (simp [*]; done)), (by first | rfl | (simp; done) | (simp [*]; done)), H', ⟨by have := HJ10.out; have := HK2.out; have := HJ45.out; omega⟩, ⟨by (with_reducible repeat (first | apply Kd.R_alloc | apply Kd.R_drewN | apply Kd.R_drew)); exact HO_4.out⟩, ⟨by (with_reducible repeat (first | apply Kd.R_alloc | apply Kd.R_drewN | apply Kd.R_drew)); exact HO_5.out⟩, ⟨by (with_reducible repeat (first | apply Kd.R_alloc | apply Kd.R_drewN | apply Kd.R_drew)); exact Kd.R_mono HO_17.out (fun _ hk => trivial)⟩, ⟨by repeat (first | (with_reducible first | exact HB.out | apply below_alloc | apply pw_below_drewN | apply below_drew1 | refine below_set ?_ GE326.out) | exact HB.out)⟩⟩
                                · rw [if_neg c57] at H
                                  have c57b0 : ((rd t299 x20_2) == 0) = false := beq_eq_false_iff_ne.mpr c57
                                  have c57b1 : ((rd t299 x20_2) != 0) = true := bne_iff_ne.mpr c57
                                  by_cases c58 : x17_2.length < 4398046511104
                                  · rw [if_pos c58] at H
                                    have LMc58 := Aside0.mk c58
                                    clear c58
                                    obtain ⟨y331, hy331⟩ : ∃ y_ : List (S54), y_ = (x17_2 ++ [(⟨0, x20_2, (rd t299 x20_2), x327003_45⟩ : S54)]) := ⟨_, rfl⟩
                                    replace H : (laws_FnExplained.l0 kj45 t295 t296 t299 t307 t312 y331 (wrap64 (x18_2 + 2)) (wrap64 (x19_2 + 1)) (wrap64 (x20_2 + 1))) = some r := by first | (rw [hy331]; with_reducible exact H) | (have H2_ := (Option.bind_some _ _).symm.trans H; rw [hy331]; with_reducible exact H2_) | (have H2_ := (Option.bind_some _ _).symm.trans H; with_reducible exact H2_) | with_reducible exact H | (rw [hy331]; exact H) | exact H
                                    have Ny331 := Aside0.mk hy331
                                    clear hy331
                                    have H' := Aside0.mk H
                                    clear H
                                    have p329 : 0 ≤ (x20_2 : Int) := of_decide_eq_true (by first | (with_reducible assumption) | assumption)
                                    have q329 : x20_2 < (t299.length : Int) := of_decide_eq_true (by first | (with_reducible assumption) | assumption)
                                    obtain ⟨ad329, e329, hx329_0⟩ := Kd.at_int (Kd.R_reads' HO_5.out).2.2 x20_2 p329 q329
                                    obtain rfl : ad325 = ad329 := (by injection e329)
                                    replace p329 := eq_true p329
                                    replace q329 := eq_true q329
                                    have p330 : 0 ≤ (x20_2 : Int) := of_decide_eq_true (by first | (with_reducible assumption) | assumption)
                                    have q330 : x20_2 < (t299.length : Int) := of_decide_eq_true (by first | (with_reducible assumption) | assumption)
                                    obtain ⟨ad330, e330, hx330_0⟩ := Kd.at_int (Kd.R_reads' HO_5.out).2.2 x20_2 p330 q330
                                    obtain rfl : ad325 = ad330 := (by injection e330)
                                    replace p330 := eq_true p330
                                    replace q330 := eq_true q330
                                    have hcz59_0 : wc.cell? ⟨gb326, 0, none⟩ = some (.int .i64 0) := (blk_cell BK326.out 0).trans rfl
                                    have hcz59_1 : wc.cell? ⟨gb326, 1, none⟩ = some (.int .i64 x20_2) := (blk_cell BK326.out 1).trans rfl
                                    have hcz59_2 : wc.cell? ⟨gb326, 2, none⟩ = some (.int .i64 (rd t299 x20_2)) := (blk_cell BK326.out 2).trans rfl
                                    have hcz59_3 : wc.cell? ⟨gb326, 3, none⟩ = some (.int .i64 x327003_45) := (blk_cell BK326.out 3).trans rfl
                                    have hfz59_0 := blk_frozen BK326.out 0
                                    have hfz59_1 := blk_frozen BK326.out 1
                                    have hfz59_2 := blk_frozen BK326.out 2
                                    have hfz59_3 := blk_frozen BK326.out 3
                                    go_wp2_with (first | ((with_reducible refine gate_builtin (b := .append) (xs := #[.tmp 145, .tmp 147]) rfl ?_); (try (refine gate_guard (by rfl) ?_; dsimp only)); at_builtin; refine Kd.R_append k54 (w0 := w) w.heap.size rfl (.tmp 145) (.tmp 147) 36 54 (.agg #[(.int .i64 0), (.int .i64 0), (.int .i64 0), (.int .i64 0)]) 32 rfl Try.underlying36 info54 rfl (by decide) (by omega) u17 x17_2 (⟨0, x20_2, (rd t299 x20_2), x327003_45⟩ : S54) [.int .i64 0, .int .i64 x20_2, .int .i64 (rd t299 x20_2), .int .i64 x327003_45] (fun k_ => k_ ≠ gb326) (fun _ => False) rfl rfl ?aP (fun _ hk => hk.elim) ?aF ?aO ?aB ?aS ?aL ?_; (case aP => exact k54_mkM _ _ _ (⟨0, x20_2, (rd t299 x20_2), x327003_45⟩ : S54)); (case aB => exact (by repeat (first | (with_reducible first | exact HB.out | apply below_alloc | apply pw_below_drewN | apply below_drew1 | refine below_set ?_ GE326.out) | exact HB.out))); (case aF => exact (fun k_ hk => Kd.freshB (g := gb326) (o := .cells #[.int .i64 0, .int .i64 x20_2, .int .i64 (rd t299 x20_2), .int .i64 x327003_45] 54 (0, 0)) (by (with_reducible repeat (first | refine blk_drewN ?_ _ | refine blk_drew ?_ | refine blk_alloc ?_ _)); exact BK326.out) k_ hk)); (case aO => exact (by (with_reducible repeat (first | apply Kd.R_alloc | apply Kd.R_drewN | apply Kd.R_drew)); exact HO_17.out)); (case aS => exact (below_size (by repeat (first | (with_reducible first | exact HB.out | apply below_alloc | apply pw_below_drewN | apply below_drew1 | refine below_set ?_ GE326.out) | exact HB.out)))); (case aL => have := LMc58.out; omega); intro v332 w60 ho hb hg hat; rw [← Ny331.out] at ho; have n0_ := Aside0.mk (Kd.R_over' (by (with_reducible repeat (first | apply Kd.R_alloc | apply Kd.R_drewN | apply Kd.R_drew)); exact HO_4.out) (Kd.R_typed (by (with_reducible repeat (first | apply Kd.R_alloc | apply Kd.R_drewN | apply Kd.R_drew)); exact HO_17.out)) (by decide) hg); have n1_ := Aside0.mk (Kd.R_over' (by (with_reducible repeat (first | apply Kd.R_alloc | apply Kd.R_drewN | apply Kd.R_drew)); exact HO_5.out) (Kd.R_typed (by (with_reducible repeat (first | apply Kd.R_alloc | apply Kd.R_drewN | apply Kd.R_drew)); exact HO_17.out)) (by decide) hg); have n2_ := Aside0.mk (blk_grown (g := gb326) (o := .cells #[.int .i64 0, .int .i64 x20_2, .int .i64 (rd t299 x20_2), .int .i64 x327003_45] 54 (0, 0)) (by (with_reducible repeat (first | refine blk_drewN ?_ _ | refine blk_drew ?_ | refine blk_alloc ?_ _)); exact BK326.out) hg (Kd.R_away HO_17.out (fun _ hk => hk))); have n3_ := Aside0.mk (hb); have n4_ := Aside0.mk (ho); clear HO_4; clear HO_5; clear BK326; clear HB; clear HO_17; have HO_4 := n0_; have HO_5 := n1_; have BK326 := n2_; have HB := n3_; have HO333 := n4_; clear n0_ n1_ n2_ n3_ n4_; clear ho hb hg hat))
                                    go_roundg kj45
                                    case measure => have := HJ10.out; have := HK2.out; have := HJ45.out; omega
                                    case rel => exact ⟨(y331), (wrap64 (x18_2 + 2)), (wrap64 (x19_2 + 1)), (wrap64 (x20_2 + 1)), (by first | rfl | (simp; done) | (simp [*]; done)), (by first | rfl | (simp; done) | (simp [*]; done)), (by first | rfl | (simp; done) | (simp [*]; done)), H', ⟨by have := HJ10.out; have := HK2.out; have := HJ45.out; omega⟩, ⟨by (with_reducible repeat (first | apply Kd.R_alloc | apply Kd.R_drewN | apply Kd.R_drew)); exact HO_4.out⟩, ⟨by (with_reducible repeat (first | apply Kd.R_alloc | apply Kd.R_drewN | apply Kd.R_drew)); exact HO_5.out⟩, ⟨by (with_reducible repeat (first | apply Kd.R_alloc | apply Kd.R_drewN | apply Kd.R_drew)); exact Kd.R_mono HO333.out (fun _ hk => trivial)⟩, ⟨by repeat (first | (with_reducible first | exact HB.out | apply below_alloc | apply pw_below_drewN | apply below_drew1 | refine below_set ?_ GE326.out) | exact HB.out)⟩⟩
                                  · rw [if_neg c58] at H
                                    exact absurd H (by simp)
                              · rw [if_neg c56] at H
                                have c56b0 : ((rd t299 x20_2) == 2) = false := beq_eq_false_iff_ne.mpr c56
                                have c56b1 : ((rd t299 x20_2) != 2) = true := bne_iff_ne.mpr c56
                                by_cases c61 : (rd t299 x20_2) = 1
                                · rw [if_pos c61] at H
                                  have c61b0 : ((rd t299 x20_2) == 1) = true := beq_iff_eq.mpr c61
                                  have c61b1 : ((rd t299 x20_2) != 1) = false := bne_eq_false_iff_eq.mpr c61
                                  clear c61
                                  by_cases c62 : (rd t299 x20_2) = 0
                                  · rw [if_pos c62] at H
                                    have c62b0 : ((rd t299 x20_2) == 0) = true := beq_iff_eq.mpr c62
                                    have c62b1 : ((rd t299 x20_2) != 0) = false := bne_eq_false_iff_eq.mpr c62
                                    clear c62
                                    have H' := Aside0.mk H
                                    clear H
                                    have p329 : 0 ≤ (x20_2 : Int) := of_decide_eq_true (by first | (with_reducible assumption) | assumption)
                                    have q329 : x20_2 < (t299.length : Int) := of_decide_eq_true (by first | (with_reducible assumption) | assumption)
                                    obtain ⟨ad329, e329, hx329_0⟩ := Kd.at_int (Kd.R_reads' HO_5.out).2.2 x20_2 p329 q329
                                    obtain rfl : ad325 = ad329 := (by injection e329)
                                    replace p329 := eq_true p329
                                    replace q329 := eq_true q329
                                    have p334 : 0 ≤ (x20_2 : Int) := of_decide_eq_true (by first | (with_reducible assumption) | assumption)
                                    have q334 : x20_2 < (t299.length : Int) := of_decide_eq_true (by first | (with_reducible assumption) | assumption)
                                    obtain ⟨ad334, e334, hx334_0⟩ := Kd.at_int (Kd.R_reads' HO_5.out).2.2 x20_2 p334 q334
                                    obtain rfl : ad325 = ad334 := (by injection e334)
                                    replace p334 := eq_true p334
                                    replace q334 := eq_true q334
                                    have p335 : 0 ≤ (x20_2 : Int) := of_decide_eq_true (by first | (with_reducible assumption) | assumption)
                                    have q335 : x20_2 < (t299.length : Int) := of_decide_eq_true (by first | (with_reducible assumption) | assumption)
                                    obtain ⟨ad335, e335, hx335_0⟩ := Kd.at_int (Kd.R_reads' HO_5.out).2.2 x20_2 p335 q335
                                    obtain rfl : ad325 = ad335 := (by injection e335)
                                    replace p335 := eq_true p335
                                    replace q335 := eq_true q335
                                    go_wp2
                                    go_roundg kj45
                                    case measure => have := HJ10.out; have := HK2.out; have := HJ45.out; omega
                                    case rel => exact ⟨(x17_2), (x18_2), (x19_2), (wrap64 (x20_2 + 1)), (by first | rfl | (simp; done) | (simp [*]; done)), (by first | rfl | (simp; done) | (simp [*]; done)), (by first | rfl | (simp; done) | (simp [*]; done)), H', ⟨by have := HJ10.out; have := HK2.out; have := HJ45.out; omega⟩, ⟨by (with_reducible repeat (first | apply Kd.R_alloc | apply Kd.R_drewN | apply Kd.R_drew)); exact HO_4.out⟩, ⟨by (with_reducible repeat (first | apply Kd.R_alloc | apply Kd.R_drewN | apply Kd.R_drew)); exact HO_5.out⟩, ⟨by (with_reducible repeat (first | apply Kd.R_alloc | apply Kd.R_drewN | apply Kd.R_drew)); exact Kd.R_mono HO_17.out (fun _ hk => trivial)⟩, ⟨by repeat (first | (with_reducible first | exact HB.out | apply below_alloc | apply pw_below_drewN | apply below_drew1 | refine below_set ?_ GE326.out) | exact HB.out)⟩⟩
                                  · rw [if_neg c62] at H
                                    have c62b0 : ((rd t299 x20_2) == 0) = false := beq_eq_false_iff_ne.mpr c62
                                    have c62b1 : ((rd t299 x20_2) != 0) = true := bne_iff_ne.mpr c62
                                    by_cases c63 : x17_2.length < 4398046511104
                                    · rw [if_pos c63] at H
                                      have LMc63 := Aside0.mk c63
                                      clear c63
                                      obtain ⟨y336, hy336⟩ : ∃ y_ : List (S54), y_ = (x17_2 ++ [(⟨0, x20_2, (rd t299 x20_2), x327003_45⟩ : S54)]) := ⟨_, rfl⟩
                                      replace H : (laws_FnExplained.l0 kj45 t295 t296 t299 t307 t312 y336 x18_2 (wrap64 (x19_2 + 1)) (wrap64 (x20_2 + 1))) = some r := by first | (rw [hy336]; with_reducible exact H) | (have H2_ := (Option.bind_some _ _).symm.trans H; rw [hy336]; with_reducible exact H2_) | (have H2_ := (Option.bind_some _ _).symm.trans H; with_reducible exact H2_) | with_reducible exact H | (rw [hy336]; exact H) | exact H
                                      have Ny336 := Aside0.mk hy336
                                      clear hy336
                                      have H' := Aside0.mk H
                                      clear H
                                      have p329 : 0 ≤ (x20_2 : Int) := of_decide_eq_true (by first | (with_reducible assumption) | assumption)
                                      have q329 : x20_2 < (t299.length : Int) := of_decide_eq_true (by first | (with_reducible assumption) | assumption)
                                      obtain ⟨ad329, e329, hx329_0⟩ := Kd.at_int (Kd.R_reads' HO_5.out).2.2 x20_2 p329 q329
                                      obtain rfl : ad325 = ad329 := (by injection e329)
                                      replace p329 := eq_true p329
                                      replace q329 := eq_true q329
                                      have p334 : 0 ≤ (x20_2 : Int) := of_decide_eq_true (by first | (with_reducible assumption) | assumption)
                                      have q334 : x20_2 < (t299.length : Int) := of_decide_eq_true (by first | (with_reducible assumption) | assumption)
                                      obtain ⟨ad334, e334, hx334_0⟩ := Kd.at_int (Kd.R_reads' HO_5.out).2.2 x20_2 p334 q334
                                      obtain rfl : ad325 = ad334 := (by injection e334)
                                      replace p334 := eq_true p334
                                      replace q334 := eq_true q334
                                      have p335 : 0 ≤ (x20_2 : Int) := of_decide_eq_true (by first | (with_reducible assumption) | assumption)
                                      have q335 : x20_2 < (t299.length : Int) := of_decide_eq_true (by first | (with_reducible assumption) | assumption)
                                      obtain ⟨ad335, e335, hx335_0⟩ := Kd.at_int (Kd.R_reads' HO_5.out).2.2 x20_2 p335 q335
                                      obtain rfl : ad325 = ad335 := (by injection e335)
                                      replace p335 := eq_true p335
                                      replace q335 := eq_true q335
                                      have hcz64_0 : wc.cell? ⟨gb326, 0, none⟩ = some (.int .i64 0) := (blk_cell BK326.out 0).trans rfl
                                      have hcz64_1 : wc.cell? ⟨gb326, 1, none⟩ = some (.int .i64 x20_2) := (blk_cell BK326.out 1).trans rfl
                                      have hcz64_2 : wc.cell? ⟨gb326, 2, none⟩ = some (.int .i64 (rd t299 x20_2)) := (blk_cell BK326.out 2).trans rfl
                                      have hcz64_3 : wc.cell? ⟨gb326, 3, none⟩ = some (.int .i64 x327003_45) := (blk_cell BK326.out 3).trans rfl
                                      have hfz64_0 := blk_frozen BK326.out 0
                                      have hfz64_1 := blk_frozen BK326.out 1
                                      have hfz64_2 := blk_frozen BK326.out 2
                                      have hfz64_3 := blk_frozen BK326.out 3
                                      go_wp2_with (first | ((with_reducible refine gate_builtin (b := .append) (xs := #[.tmp 145, .tmp 147]) rfl ?_); (try (refine gate_guard (by rfl) ?_; dsimp only)); at_builtin; refine Kd.R_append k54 (w0 := w) w.heap.size rfl (.tmp 145) (.tmp 147) 36 54 (.agg #[(.int .i64 0), (.int .i64 0), (.int .i64 0), (.int .i64 0)]) 32 rfl Try.underlying36 info54 rfl (by decide) (by omega) u17 x17_2 (⟨0, x20_2, (rd t299 x20_2), x327003_45⟩ : S54) [.int .i64 0, .int .i64 x20_2, .int .i64 (rd t299 x20_2), .int .i64 x327003_45] (fun k_ => k_ ≠ gb326) (fun _ => False) rfl rfl ?aP (fun _ hk => hk.elim) ?aF ?aO ?aB ?aS ?aL ?_; (case aP => exact k54_mkM _ _ _ (⟨0, x20_2, (rd t299 x20_2), x327003_45⟩ : S54)); (case aB => exact (by repeat (first | (with_reducible first | exact HB.out | apply below_alloc | apply pw_below_drewN | apply below_drew1 | refine below_set ?_ GE326.out) | exact HB.out))); (case aF => exact (fun k_ hk => Kd.freshB (g := gb326) (o := .cells #[.int .i64 0, .int .i64 x20_2, .int .i64 (rd t299 x20_2), .int .i64 x327003_45] 54 (0, 0)) (by (with_reducible repeat (first | refine blk_drewN ?_ _ | refine blk_drew ?_ | refine blk_alloc ?_ _)); exact BK326.out) k_ hk)); (case aO => exact (by (with_reducible repeat (first | apply Kd.R_alloc | apply Kd.R_drewN | apply Kd.R_drew)); exact HO_17.out)); (case aS => exact (below_size (by repeat (first | (with_reducible first | exact HB.out | apply below_alloc | apply pw_below_drewN | apply below_drew1 | refine below_set ?_ GE326.out) | exact HB.out)))); (case aL => have := LMc63.out; omega); intro v337 w65 ho hb hg hat; rw [← Ny336.out] at ho; have n0_ := Aside0.mk (Kd.R_over' (by (with_reducible repeat (first | apply Kd.R_alloc | apply Kd.R_drewN | apply Kd.R_drew)); exact HO_4.out) (Kd.R_typed (by (with_reducible repeat (first | apply Kd.R_alloc | apply Kd.R_drewN | apply Kd.R_drew)); exact HO_17.out)) (by decide) hg); have n1_ := Aside0.mk (Kd.R_over' (by (with_reducible repeat (first | apply Kd.R_alloc | apply Kd.R_drewN | apply Kd.R_drew)); exact HO_5.out) (Kd.R_typed (by (with_reducible repeat (first | apply Kd.R_alloc | apply Kd.R_drewN | apply Kd.R_drew)); exact HO_17.out)) (by decide) hg); have n2_ := Aside0.mk (blk_grown (g := gb326) (o := .cells #[.int .i64 0, .int .i64 x20_2, .int .i64 (rd t299 x20_2), .int .i64 x327003_45] 54 (0, 0)) (by (with_reducible repeat (first | refine blk_drewN ?_ _ | refine blk_drew ?_ | refine blk_alloc ?_ _)); exact BK326.out) hg (Kd.R_away HO_17.out (fun _ hk => hk))); have n3_ := Aside0.mk (hb); have n4_ := Aside0.mk (ho); clear HO_4; clear HO_5; clear BK326; clear HB; clear HO_17; have HO_4 := n0_; have HO_5 := n1_; have BK326 := n2_; have HB := n3_; have HO338 := n4_; clear n0_ n1_ n2_ n3_ n4_; clear ho hb hg hat))
                                      go_roundg kj45
                                      case measure => have := HJ10.out; have := HK2.out; have := HJ45.out; omega
                                      case rel => exact ⟨(y336), (x18_2), (wrap64 (x19_2 + 1)), (wrap64 (x20_2 + 1)), (by first | rfl | (simp; done) | (simp [*]; done)), (by first | rfl | (simp; done) | (simp [*]; done)), (by first | rfl | (simp; done) | (simp [*]; done)), H', ⟨by have := HJ10.out; have := HK2.out; have := HJ45.out; omega⟩, ⟨by (with_reducible repeat (first | apply Kd.R_alloc | apply Kd.R_drewN | apply Kd.R_drew)); exact HO_4.out⟩, ⟨by (with_reducible repeat (first | apply Kd.R_alloc | apply Kd.R_drewN | apply Kd.R_drew)); exact HO_5.out⟩, ⟨by (with_reducible repeat (first | apply Kd.R_alloc | apply Kd.R_drewN | apply Kd.R_drew)); exact Kd.R_mono HO338.out (fun _ hk => trivial)⟩, ⟨by repeat (first | (with_reducible first | exact HB.out | apply below_alloc | apply pw_below_drewN | apply below_drew1 | refine below_set ?_ GE326.out) | exact HB.out)⟩⟩
                                    · rw [if_neg c63] at H
                                      exact absurd H (by simp)
                                · rw [if_neg c61] at H
                                  have c61b0 : ((rd t299 x20_2) == 1) = false := beq_eq_false_iff_ne.mpr c61
                                  have c61b1 : ((rd t299 x20_2) != 1) = true := bne_iff_ne.mpr c61
                                  by_cases c66 : (rd t299 x20_2) = 0
                                  · rw [if_pos c66] at H
                                    have c66b0 : ((rd t299 x20_2) == 0) = true := beq_iff_eq.mpr c66
                                    have c66b1 : ((rd t299 x20_2) != 0) = false := bne_eq_false_iff_eq.mpr c66
                                    clear c66
                                    have H' := Aside0.mk H
                                    clear H
                                    have p329 : 0 ≤ (x20_2 : Int) := of_decide_eq_true (by first | (with_reducible assumption) | assumption)
                                    have q329 : x20_2 < (t299.length : Int) := of_decide_eq_true (by first | (with_reducible assumption) | assumption)
                                    obtain ⟨ad329, e329, hx329_0⟩ := Kd.at_int (Kd.R_reads' HO_5.out).2.2 x20_2 p329 q329
                                    obtain rfl : ad325 = ad329 := (by injection e329)
                                    replace p329 := eq_true p329
                                    replace q329 := eq_true q329
                                    have p334 : 0 ≤ (x20_2 : Int) := of_decide_eq_true (by first | (with_reducible assumption) | assumption)
                                    have q334 : x20_2 < (t299.length : Int) := of_decide_eq_true (by first | (with_reducible assumption) | assumption)
                                    obtain ⟨ad334, e334, hx334_0⟩ := Kd.at_int (Kd.R_reads' HO_5.out).2.2 x20_2 p334 q334
                                    obtain rfl : ad325 = ad334 := (by injection e334)
                                    replace p334 := eq_true p334
                                    replace q334 := eq_true q334
                                    have p339 : 0 ≤ (x20_2 : Int) := of_decide_eq_true (by first | (with_reducible assumption) | assumption)
                                    have q339 : x20_2 < (t299.length : Int) := of_decide_eq_true (by first | (with_reducible assumption) | assumption)
                                    obtain ⟨ad339, e339, hx339_0⟩ := Kd.at_int (Kd.R_reads' HO_5.out).2.2 x20_2 p339 q339
                                    obtain rfl : ad325 = ad339 := (by injection e339)
                                    replace p339 := eq_true p339
                                    replace q339 := eq_true q339
                                    go_wp2
                                    go_roundg kj45
                                    case measure => have := HJ10.out; have := HK2.out; have := HJ45.out; omega
                                    case rel => exact ⟨(x17_2), (wrap64 (x18_2 + 1)), (x19_2), (wrap64 (x20_2 + 1)), (by first | rfl | (simp; done) | (simp [*]; done)), (by first | rfl | (simp; done) | (simp [*]; done)), (by first | rfl | (simp; done) | (simp [*]; done)), H', ⟨by have := HJ10.out; have := HK2.out; have := HJ45.out; omega⟩, ⟨by (with_reducible repeat (first | apply Kd.R_alloc | apply Kd.R_drewN | apply Kd.R_drew)); exact HO_4.out⟩, ⟨by (with_reducible repeat (first | apply Kd.R_alloc | apply Kd.R_drewN | apply Kd.R_drew)); exact HO_5.out⟩, ⟨by (with_reducible repeat (first | apply Kd.R_alloc | apply Kd.R_drewN | apply Kd.R_drew)); exact Kd.R_mono HO_17.out (fun _ hk => trivial)⟩, ⟨by repeat (first | (with_reducible first | exact HB.out | apply below_alloc | apply pw_below_drewN | apply below_drew1 | refine below_set ?_ GE326.out) | exact HB.out)⟩⟩
                                  · rw [if_neg c66] at H
                                    have c66b0 : ((rd t299 x20_2) == 0) = false := beq_eq_false_iff_ne.mpr c66
                                    have c66b1 : ((rd t299 x20_2) != 0) = true := bne_iff_ne.mpr c66
                                    by_cases c67 : x17_2.length < 4398046511104
                                    · rw [if_pos c67] at H
                                      have LMc67 := Aside0.mk c67
                                      clear c67
                                      obtain ⟨y340, hy340⟩ : ∃ y_ : List (S54), y_ = (x17_2 ++ [(⟨0, x20_2, (rd t299 x20_2), x327003_45⟩ : S54)]) := ⟨_, rfl⟩
                                      replace H : (laws_FnExplained.l0 kj45 t295 t296 t299 t307 t312 y340 (wrap64 (x18_2 + 1)) (wrap64 (x19_2 + 1)) (wrap64 (x20_2 + 1))) = some r := by first | (rw [hy340]; with_reducible exact H) | (have H2_ := (Option.bind_some _ _).symm.trans H; rw [hy340]; with_reducible exact H2_) | (have H2_ := (Option.bind_some _ _).symm.trans H; with_reducible exact H2_) | with_reducible exact H | (rw [hy340]; exact H) | exact H
                                      have Ny340 := Aside0.mk hy340
                                      clear hy340
                                      have H' := Aside0.mk H
                                      clear H
                                      have p329 : 0 ≤ (x20_2 : Int) := of_decide_eq_true (by first | (with_reducible assumption) | assumption)
                                      have q329 : x20_2 < (t299.length : Int) := of_decide_eq_true (by first | (with_reducible assumption) | assumption)
                                      obtain ⟨ad329, e329, hx329_0⟩ := Kd.at_int (Kd.R_reads' HO_5.out).2.2 x20_2 p329 q329
                                      obtain rfl : ad325 = ad329 := (by injection e329)
                                      replace p329 := eq_true p329
                                      replace q329 := eq_true q329
                                      have p334 : 0 ≤ (x20_2 : Int) := of_decide_eq_true (by first | (with_reducible assumption) | assumption)
                                      have q334 : x20_2 < (t299.length : Int) := of_decide_eq_true (by first | (with_reducible assumption) | assumption)
                                      obtain ⟨ad334, e334, hx334_0⟩ := Kd.at_int (Kd.R_reads' HO_5.out).2.2 x20_2 p334 q334
                                      obtain rfl : ad325 = ad334 := (by injection e334)
                                      replace p334 := eq_true p334
                                      replace q334 := eq_true q334
                                      have p339 : 0 ≤ (x20_2 : Int) := of_decide_eq_true (by first | (with_reducible assumption) | assumption)
                                      have q339 : x20_2 < (t299.length : Int) := of_decide_eq_true (by first | (with_reducible assumption) | assumption)
                                      obtain ⟨ad339, e339, hx339_0⟩ := Kd.at_int (Kd.R_reads' HO_5.out).2.2 x20_2 p339 q339
                                      obtain rfl : ad325 = ad339 := (by injection e339)
                                      replace p339 := eq_true p339
                                      replace q339 := eq_true q339
                                      have hcz68_0 : wc.cell? ⟨gb326, 0, none⟩ = some (.int .i64 0) := (blk_cell BK326.out 0).trans rfl
                                      have hcz68_1 : wc.cell? ⟨gb326, 1, none⟩ = some (.int .i64 x20_2) := (blk_cell BK326.out 1).trans rfl
                                      have hcz68_2 : wc.cell? ⟨gb326, 2, none⟩ = some (.int .i64 (rd t299 x20_2)) := (blk_cell BK326.out 2).trans rfl
                                      have hcz68_3 : wc.cell? ⟨gb326, 3, none⟩ = some (.int .i64 x327003_45) := (blk_cell BK326.out 3).trans rfl
                                      have hfz68_0 := blk_frozen BK326.out 0
                                      have hfz68_1 := blk_frozen BK326.out 1
                                      have hfz68_2 := blk_frozen BK326.out 2
                                      have hfz68_3 := blk_frozen BK326.out 3
                                      go_wp2_with (first | ((with_reducible refine gate_builtin (b := .append) (xs := #[.tmp 145, .tmp 147]) rfl ?_); (try (refine gate_guard (by rfl) ?_; dsimp only)); at_builtin; refine Kd.R_append k54 (w0 := w) w.heap.size rfl (.tmp 145) (.tmp 147) 36 54 (.agg #[(.int .i64 0), (.int .i64 0), (.int .i64 0), (.int .i64 0)]) 32 rfl Try.underlying36 info54 rfl (by decide) (by omega) u17 x17_2 (⟨0, x20_2, (rd t299 x20_2), x327003_45⟩ : S54) [.int .i64 0, .int .i64 x20_2, .int .i64 (rd t299 x20_2), .int .i64 x327003_45] (fun k_ => k_ ≠ gb326) (fun _ => False) rfl rfl ?aP (fun _ hk => hk.elim) ?aF ?aO ?aB ?aS ?aL ?_; (case aP => exact k54_mkM _ _ _ (⟨0, x20_2, (rd t299 x20_2), x327003_45⟩ : S54)); (case aB => exact (by repeat (first | (with_reducible first | exact HB.out | apply below_alloc | apply pw_below_drewN | apply below_drew1 | refine below_set ?_ GE326.out) | exact HB.out))); (case aF => exact (fun k_ hk => Kd.freshB (g := gb326) (o := .cells #[.int .i64 0, .int .i64 x20_2, .int .i64 (rd t299 x20_2), .int .i64 x327003_45] 54 (0, 0)) (by (with_reducible repeat (first | refine blk_drewN ?_ _ | refine blk_drew ?_ | refine blk_alloc ?_ _)); exact BK326.out) k_ hk)); (case aO => exact (by (with_reducible repeat (first | apply Kd.R_alloc | apply Kd.R_drewN | apply Kd.R_drew)); exact HO_17.out)); (case aS => exact (below_size (by repeat (first | (with_reducible first | exact HB.out | apply below_alloc | apply pw_below_drewN | apply below_drew1 | refine below_set ?_ GE326.out) | exact HB.out)))); (case aL => have := LMc67.out; omega); intro v341 w69 ho hb hg hat; rw [← Ny340.out] at ho; have n0_ := Aside0.mk (Kd.R_over' (by (with_reducible repeat (first | apply Kd.R_alloc | apply Kd.R_drewN | apply Kd.R_drew)); exact HO_4.out) (Kd.R_typed (by (with_reducible repeat (first | apply Kd.R_alloc | apply Kd.R_drewN | apply Kd.R_drew)); exact HO_17.out)) (by decide) hg); have n1_ := Aside0.mk (Kd.R_over' (by (with_reducible repeat (first | apply Kd.R_alloc | apply Kd.R_drewN | apply Kd.R_drew)); exact HO_5.out) (Kd.R_typed (by (with_reducible repeat (first | apply Kd.R_alloc | apply Kd.R_drewN | apply Kd.R_drew)); exact HO_17.out)) (by decide) hg); have n2_ := Aside0.mk (blk_grown (g := gb326) (o := .cells #[.int .i64 0, .int .i64 x20_2, .int .i64 (rd t299 x20_2), .int .i64 x327003_45] 54 (0, 0)) (by (with_reducible repeat (first | refine blk_drewN ?_ _ | refine blk_drew ?_ | refine blk_alloc ?_ _)); exact BK326.out) hg (Kd.R_away HO_17.out (fun _ hk => hk))); have n3_ := Aside0.mk (hb); have n4_ := Aside0.mk (ho); clear HO_4; clear HO_5; clear BK326; clear HB; clear HO_17; have HO_4 := n0_; have HO_5 := n1_; have BK326 := n2_; have HB := n3_; have HO342 := n4_; clear n0_ n1_ n2_ n3_ n4_; clear ho hb hg hat))
                                      go_roundg kj45
                                      case measure => have := HJ10.out; have := HK2.out; have := HJ45.out; omega
                                      case rel => exact ⟨(y340), (wrap64 (x18_2 + 1)), (wrap64 (x19_2 + 1)), (wrap64 (x20_2 + 1)), (by first | rfl | (simp; done) | (simp [*]; done)), (by first | rfl | (simp; done) | (simp [*]; done)), (by first | rfl | (simp; done) | (simp [*]; done)), H', ⟨by have := HJ10.out; have := HK2.out; have := HJ45.out; omega⟩, ⟨by (with_reducible repeat (first | apply Kd.R_alloc | apply Kd.R_drewN | apply Kd.R_drew)); exact HO_4.out⟩, ⟨by (with_reducible repeat (first | apply Kd.R_alloc | apply Kd.R_drewN | apply Kd.R_drew)); exact HO_5.out⟩, ⟨by (with_reducible repeat (first | apply Kd.R_alloc | apply Kd.R_drewN | apply Kd.R_drew)); exact Kd.R_mono HO342.out (fun _ hk => trivial)⟩, ⟨by repeat (first | (with_reducible first | exact HB.out | apply below_alloc | apply pw_below_drewN | apply below_drew1 | refine below_set ?_ GE326.out) | exact HB.out)⟩⟩
                                    · rw [if_neg c67] at H
                                      exact absurd H (by simp)
                            · rw [if_neg c55] at H
                              exact absurd H (by simp)
                          · rw [if_neg c54] at H
                            exact absurd H (by simp)
                    · rw [if_neg c45] at H
                      exact absurd H (by simp)
                  · rw [if_neg c44] at H
                    exact absurd H (by simp)
                · rw [if_neg c43] at H
                  have c43b0 : decide (x20_2 < t295) = false := decide_eq_false c43
                  clear c43
                  replace H := Option.bind_eq_some_iff.mp H
                  obtain ⟨⟨t319, t320⟩, A700, H⟩ := H
                  replace H : (if t320 = 0 then (if (t319.length : Int) = 1 then (if 0 < (t319.length : Int) then ((laws_likeInts.f k2 (rd_L1 t319 0) t296).bind fun t324 => (if t324 = true then (if x19_2 = t307 then (some ((t307 == 0) == (t312 == 4))) else (some false)) else (some false))) else (none)) else (some false)) else (some false)) = some r := H
                  have A70 := Aside0.mk A700
                  clear A700
                  by_cases c71 : t320 = 0
                  · rw [if_pos c71] at H
                    have c71b0 : (t320 == 0) = true := beq_iff_eq.mpr c71
                    have c71b1 : (t320 != 0) = false := bne_eq_false_iff_eq.mpr c71
                    clear c71
                    by_cases c72 : (t319.length : Int) = 1
                    · rw [if_pos c72] at H
                      have c72b0 : ((t319.length : Int) == 1) = true := beq_iff_eq.mpr c72
                      have c72b1 : ((t319.length : Int) != 1) = false := bne_eq_false_iff_eq.mpr c72
                      clear c72
                      by_cases c73 : 0 < (t319.length : Int)
                      · rw [if_pos c73] at H
                        have c73b0 : decide (0 < (t319.length : Int)) = true := decide_eq_true c73
                        have c73b1 : decide (0 < t319.length) = true := decide_eq_true (by omega)
                        clear c73
                        replace H := Option.bind_eq_some_iff.mp H
                        obtain ⟨t324, A740, H⟩ := H
                        replace H : (if t324 = true then (if x19_2 = t307 then (some ((t307 == 0) == (t312 == 4))) else (some false)) else (some false)) = some r := H
                        have A74 := Aside0.mk A740
                        clear A740
                        by_cases c75 : t324 = true
                        · subst c75
                          have H1 : (if x19_2 = t307 then (some ((t307 == 0) == (t312 == 4))) else (some false)) = some r := by rw [if_pos rfl] at H; exact H
                          clear H
                          have H := H1
                          clear H1
                          by_cases c76 : x19_2 = t307
                          · rw [if_pos c76] at H
                            have c76b0 : (x19_2 == t307) = true := beq_iff_eq.mpr c76
                            have c76b1 : (x19_2 != t307) = false := bne_eq_false_iff_eq.mpr c76
                            clear c76
                            obtain rfl := Option.some.inj H
                            obtain ⟨Ao77, co77, eo77⟩ := Kd.R_slice HO_17.out
                            subst eo77
                            go_wp2_with (first | ((with_reducible refine gate_callee (f := 20) rfl ?_); refine goesL_ (some 154) rfl rfl Try.func20 (by kernel_rfl) rfl #[.int .i64 t295, .int .i64 1, .slice Ao77 x17_2.length co77] rfl (by (try simp only [List.map_toArray, List.map_cons, List.map_nil]); first | done | rfl | (simp only [List.length_drop, List.length_take]; rfl)) ?_; (with_reducible refine (impl_GatherBooks.calls t295 1 _ _ x17_2 t319 t320 _ ?side1 ?side2 A70.out).mono ?_); (case side1 => repeat (first | exact (Kd.R_reads' HO_17.out).2.2 | (with_reducible refine Kd.C_alloc ?_ _) | (with_reducible refine Kd.C_drewN ?_ _) | (with_reducible refine Kd.C_drew ?_))); (case side2 => exact (Kd.R_reads' HO_17.out).2.1); rintro e w78 ⟨v321, rfl, ho0, hb⟩; refine ⟨_, rfl, ?_⟩; have n0_ := Aside0.mk (Kd.R_below (by (with_reducible repeat (first | apply Kd.R_alloc | apply Kd.R_drewN | apply Kd.R_drew)); exact HO_4.out) hb); have n1_ := Aside0.mk (Kd.R_below (by (with_reducible repeat (first | apply Kd.R_alloc | apply Kd.R_drewN | apply Kd.R_drew)); exact HO_5.out) hb); have n2_ := Aside0.mk (Kd.R_below (by (with_reducible repeat (first | apply Kd.R_alloc | apply Kd.R_drewN | apply Kd.R_drew)); exact HO_17.out) hb); have n3_ := Aside0.mk (Kd.S_lower (Kd.S_new' (Kd.S_new' ho0 (Kd.R_lt (by (with_reducible repeat (first | apply Kd.R_alloc | apply Kd.R_drewN | apply Kd.R_drew)); exact HO_4.out))) (Kd.R_lt (by (with_reducible repeat (first | apply Kd.R_alloc | apply Kd.R_drewN | apply Kd.R_drew)); exact HO_5.out))) (below_size (by repeat (first | (with_reducible first | exact HB.out | apply below_alloc | apply pw_below_drewN | apply below_drew1) | exact HB.out)))); have n4_ := Aside0.mk (below_step (by repeat (first | (with_reducible first | exact HB.out | apply below_alloc | apply pw_below_drewN | apply below_drew1) | exact HB.out)) hb); clear HO_4; clear HO_5; clear HO_17; clear HB; have HO_4 := n0_; have HO_5 := n1_; have HO_17 := n2_; have HO322 := n3_; have HB := n4_; clear n0_ n1_ n2_ n3_ n4_; (try clear hb); (try clear hb2); (try clear hk); (try clear hi); (try clear ho0); obtain ⟨Ao79, co79, eo79⟩ := Kd.S_slice HO322.out; subst eo79; have p323 : 0 ≤ (0 : Int) := (by omega); have q323 : 0 < (t319.length : Int) := of_decide_eq_true (by first | (with_reducible assumption) | assumption); obtain ⟨ad323, A323_0, c323_0, e323, hx323_0, hl323_0, hi323_0⟩ := at_L1 (Kd.S_reads' HO322.out).2.2 0 p323 q323; cases e323; obtain ⟨ce323, hce323, hMe323, hcc323⟩ := Kd.S_get HO322.out [] 0 p323 (by first | exact q323 | exact of_decide_eq_true (by first | (with_reducible assumption) | assumption) | (have e_ := (Kd.S_reads' HO322.out).1; omega)); obtain ⟨ve323_0, rfl, ge323_0⟩ := hMe323; have hv323_0 := hcc323 0 _ rfl; rw [Nat.add_zero, show ((Kd.slice 2 (Kd.int .i64))).sz = 1 from rfl, Nat.mul_one] at hv323_0; replace hv323_0 := Option.some.inj (hv323_0.symm.trans hx323_0); rw [hv323_0] at ge323_0; have HL323_0 := Aside0.mk (show Kd.R (Kd.int .i64) 2 _ _ _ _ (rd_L1 t319 0) from ge323_0); clear hv323_0 ge323_0; clear hcc323 hce323; have qi323 : (0 < t319.length) = True := eq_true (by omega); (try rw [show ((0 : Int)).toNat = 0 from rfl] at hx323_0); (try rw [Addr.add_zero'] at hx323_0); have HR323_0 := Aside0.mk hi323_0; have HC323_0 := Aside0.mk hl323_0; clear hi323_0 hl323_0; replace p323 := eq_true p323; replace q323 := eq_true q323) | (go_at_call 35; (with_reducible refine (laws_likeInts.calls k2 _ _ (rd_L1 t319 0) _ _ t296 true _ ?side1 ?side2 ?side3 ?side4 A74.out).mono ?_); (case side1 => repeat (first | exact (by repeat (first | (with_reducible exact HR323_0.out) | (with_reducible refine Kd.C_alloc ?_ _) | (with_reducible refine Kd.C_drewN ?_ _) | (with_reducible refine Kd.C_drew ?_) | exact HR323_0.out)) | (with_reducible refine Kd.C_alloc ?_ _) | (with_reducible refine Kd.C_drewN ?_ _) | (with_reducible refine Kd.C_drew ?_))); (case side2 => exact HC323_0.out); (case side3 => repeat (first | exact (Kd.R_reads' HO_4.out).2.2 | (with_reducible refine Kd.C_alloc ?_ _) | (with_reducible refine Kd.C_drewN ?_ _) | (with_reducible refine Kd.C_drew ?_))); (case side4 => exact (Kd.R_reads' HO_4.out).2.1); rintro e w' ⟨rfl, ⟨nd, rfl⟩⟩))
                            go_ret
                            exact ⟨by first | rfl | (simp [errW_none, errW_some] <;> rfl) | (simp [*, errW_none, errW_some] <;> rfl), by repeat (first | (with_reducible first | exact HB.out | apply below_alloc | apply pw_below_drewN | apply below_drew1) | exact HB.out)⟩
                          · rw [if_neg c76] at H
                            have c76b0 : (x19_2 == t307) = false := beq_eq_false_iff_ne.mpr c76
                            have c76b1 : (x19_2 != t307) = true := bne_iff_ne.mpr c76
                            obtain rfl := Option.some.inj H
                            obtain ⟨Ao80, co80, eo80⟩ := Kd.R_slice HO_17.out
                            subst eo80
                            go_wp2_with (first | ((with_reducible refine gate_callee (f := 20) rfl ?_); refine goesL_ (some 154) rfl rfl Try.func20 (by kernel_rfl) rfl #[.int .i64 t295, .int .i64 1, .slice Ao80 x17_2.length co80] rfl (by (try simp only [List.map_toArray, List.map_cons, List.map_nil]); first | done | rfl | (simp only [List.length_drop, List.length_take]; rfl)) ?_; (with_reducible refine (impl_GatherBooks.calls t295 1 _ _ x17_2 t319 t320 _ ?side1 ?side2 A70.out).mono ?_); (case side1 => repeat (first | exact (Kd.R_reads' HO_17.out).2.2 | (with_reducible refine Kd.C_alloc ?_ _) | (with_reducible refine Kd.C_drewN ?_ _) | (with_reducible refine Kd.C_drew ?_))); (case side2 => exact (Kd.R_reads' HO_17.out).2.1); rintro e w81 ⟨v321, rfl, ho0, hb⟩; refine ⟨_, rfl, ?_⟩; have n0_ := Aside0.mk (Kd.R_below (by (with_reducible repeat (first | apply Kd.R_alloc | apply Kd.R_drewN | apply Kd.R_drew)); exact HO_4.out) hb); have n1_ := Aside0.mk (Kd.R_below (by (with_reducible repeat (first | apply Kd.R_alloc | apply Kd.R_drewN | apply Kd.R_drew)); exact HO_5.out) hb); have n2_ := Aside0.mk (Kd.R_below (by (with_reducible repeat (first | apply Kd.R_alloc | apply Kd.R_drewN | apply Kd.R_drew)); exact HO_17.out) hb); have n3_ := Aside0.mk (Kd.S_lower (Kd.S_new' (Kd.S_new' ho0 (Kd.R_lt (by (with_reducible repeat (first | apply Kd.R_alloc | apply Kd.R_drewN | apply Kd.R_drew)); exact HO_4.out))) (Kd.R_lt (by (with_reducible repeat (first | apply Kd.R_alloc | apply Kd.R_drewN | apply Kd.R_drew)); exact HO_5.out))) (below_size (by repeat (first | (with_reducible first | exact HB.out | apply below_alloc | apply pw_below_drewN | apply below_drew1) | exact HB.out)))); have n4_ := Aside0.mk (below_step (by repeat (first | (with_reducible first | exact HB.out | apply below_alloc | apply pw_below_drewN | apply below_drew1) | exact HB.out)) hb); clear HO_4; clear HO_5; clear HO_17; clear HB; have HO_4 := n0_; have HO_5 := n1_; have HO_17 := n2_; have HO322 := n3_; have HB := n4_; clear n0_ n1_ n2_ n3_ n4_; (try clear hb); (try clear hb2); (try clear hk); (try clear hi); (try clear ho0); obtain ⟨Ao82, co82, eo82⟩ := Kd.S_slice HO322.out; subst eo82; have p323 : 0 ≤ (0 : Int) := (by omega); have q323 : 0 < (t319.length : Int) := of_decide_eq_true (by first | (with_reducible assumption) | assumption); obtain ⟨ad323, A323_0, c323_0, e323, hx323_0, hl323_0, hi323_0⟩ := at_L1 (Kd.S_reads' HO322.out).2.2 0 p323 q323; cases e323; obtain ⟨ce323, hce323, hMe323, hcc323⟩ := Kd.S_get HO322.out [] 0 p323 (by first | exact q323 | exact of_decide_eq_true (by first | (with_reducible assumption) | assumption) | (have e_ := (Kd.S_reads' HO322.out).1; omega)); obtain ⟨ve323_0, rfl, ge323_0⟩ := hMe323; have hv323_0 := hcc323 0 _ rfl; rw [Nat.add_zero, show ((Kd.slice 2 (Kd.int .i64))).sz = 1 from rfl, Nat.mul_one] at hv323_0; replace hv323_0 := Option.some.inj (hv323_0.symm.trans hx323_0); rw [hv323_0] at ge323_0; have HL323_0 := Aside0.mk (show Kd.R (Kd.int .i64) 2 _ _ _ _ (rd_L1 t319 0) from ge323_0); clear hv323_0 ge323_0; clear hcc323 hce323; have qi323 : (0 < t319.length) = True := eq_true (by omega); (try rw [show ((0 : Int)).toNat = 0 from rfl] at hx323_0); (try rw [Addr.add_zero'] at hx323_0); have HR323_0 := Aside0.mk hi323_0; have HC323_0 := Aside0.mk hl323_0; clear hi323_0 hl323_0; replace p323 := eq_true p323; replace q323 := eq_true q323) | (go_at_call 35; (with_reducible refine (laws_likeInts.calls k2 _ _ (rd_L1 t319 0) _ _ t296 true _ ?side1 ?side2 ?side3 ?side4 A74.out).mono ?_); (case side1 => repeat (first | exact (by repeat (first | (with_reducible exact HR323_0.out) | (with_reducible refine Kd.C_alloc ?_ _) | (with_reducible refine Kd.C_drewN ?_ _) | (with_reducible refine Kd.C_drew ?_) | exact HR323_0.out)) | (with_reducible refine Kd.C_alloc ?_ _) | (with_reducible refine Kd.C_drewN ?_ _) | (with_reducible refine Kd.C_drew ?_))); (case side2 => exact HC323_0.out); (case side3 => repeat (first | exact (Kd.R_reads' HO_4.out).2.2 | (with_reducible refine Kd.C_alloc ?_ _) | (with_reducible refine Kd.C_drewN ?_ _) | (with_reducible refine Kd.C_drew ?_))); (case side4 => exact (Kd.R_reads' HO_4.out).2.1); rintro e w' ⟨rfl, ⟨nd, rfl⟩⟩))
                            go_ret
                            exact ⟨by first | rfl | (simp [errW_none, errW_some] <;> rfl) | (simp [*, errW_none, errW_some] <;> rfl), by repeat (first | (with_reducible first | exact HB.out | apply below_alloc | apply pw_below_drewN | apply below_drew1) | exact HB.out)⟩
                        · replace c75 := Bool.eq_false_iff.mpr c75
                          subst c75
                          have H1 : (some false) = some r := by rw [if_neg (show ¬ (false = true) by decide)] at H; exact H
                          clear H
                          have H := H1
                          clear H1
                          obtain rfl := Option.some.inj H
                          obtain ⟨Ao83, co83, eo83⟩ := Kd.R_slice HO_17.out
                          subst eo83
                          go_wp2_with (first | ((with_reducible refine gate_callee (f := 20) rfl ?_); refine goesL_ (some 154) rfl rfl Try.func20 (by kernel_rfl) rfl #[.int .i64 t295, .int .i64 1, .slice Ao83 x17_2.length co83] rfl (by (try simp only [List.map_toArray, List.map_cons, List.map_nil]); first | done | rfl | (simp only [List.length_drop, List.length_take]; rfl)) ?_; (with_reducible refine (impl_GatherBooks.calls t295 1 _ _ x17_2 t319 t320 _ ?side1 ?side2 A70.out).mono ?_); (case side1 => repeat (first | exact (Kd.R_reads' HO_17.out).2.2 | (with_reducible refine Kd.C_alloc ?_ _) | (with_reducible refine Kd.C_drewN ?_ _) | (with_reducible refine Kd.C_drew ?_))); (case side2 => exact (Kd.R_reads' HO_17.out).2.1); rintro e w84 ⟨v321, rfl, ho0, hb⟩; refine ⟨_, rfl, ?_⟩; have n0_ := Aside0.mk (Kd.R_below (by (with_reducible repeat (first | apply Kd.R_alloc | apply Kd.R_drewN | apply Kd.R_drew)); exact HO_4.out) hb); have n1_ := Aside0.mk (Kd.R_below (by (with_reducible repeat (first | apply Kd.R_alloc | apply Kd.R_drewN | apply Kd.R_drew)); exact HO_5.out) hb); have n2_ := Aside0.mk (Kd.R_below (by (with_reducible repeat (first | apply Kd.R_alloc | apply Kd.R_drewN | apply Kd.R_drew)); exact HO_17.out) hb); have n3_ := Aside0.mk (Kd.S_lower (Kd.S_new' (Kd.S_new' ho0 (Kd.R_lt (by (with_reducible repeat (first | apply Kd.R_alloc | apply Kd.R_drewN | apply Kd.R_drew)); exact HO_4.out))) (Kd.R_lt (by (with_reducible repeat (first | apply Kd.R_alloc | apply Kd.R_drewN | apply Kd.R_drew)); exact HO_5.out))) (below_size (by repeat (first | (with_reducible first | exact HB.out | apply below_alloc | apply pw_below_drewN | apply below_drew1) | exact HB.out)))); have n4_ := Aside0.mk (below_step (by repeat (first | (with_reducible first | exact HB.out | apply below_alloc | apply pw_below_drewN | apply below_drew1) | exact HB.out)) hb); clear HO_4; clear HO_5; clear HO_17; clear HB; have HO_4 := n0_; have HO_5 := n1_; have HO_17 := n2_; have HO322 := n3_; have HB := n4_; clear n0_ n1_ n2_ n3_ n4_; (try clear hb); (try clear hb2); (try clear hk); (try clear hi); (try clear ho0); obtain ⟨Ao85, co85, eo85⟩ := Kd.S_slice HO322.out; subst eo85; have p323 : 0 ≤ (0 : Int) := (by omega); have q323 : 0 < (t319.length : Int) := of_decide_eq_true (by first | (with_reducible assumption) | assumption); obtain ⟨ad323, A323_0, c323_0, e323, hx323_0, hl323_0, hi323_0⟩ := at_L1 (Kd.S_reads' HO322.out).2.2 0 p323 q323; cases e323; obtain ⟨ce323, hce323, hMe323, hcc323⟩ := Kd.S_get HO322.out [] 0 p323 (by first | exact q323 | exact of_decide_eq_true (by first | (with_reducible assumption) | assumption) | (have e_ := (Kd.S_reads' HO322.out).1; omega)); obtain ⟨ve323_0, rfl, ge323_0⟩ := hMe323; have hv323_0 := hcc323 0 _ rfl; rw [Nat.add_zero, show ((Kd.slice 2 (Kd.int .i64))).sz = 1 from rfl, Nat.mul_one] at hv323_0; replace hv323_0 := Option.some.inj (hv323_0.symm.trans hx323_0); rw [hv323_0] at ge323_0; have HL323_0 := Aside0.mk (show Kd.R (Kd.int .i64) 2 _ _ _ _ (rd_L1 t319 0) from ge323_0); clear hv323_0 ge323_0; clear hcc323 hce323; have qi323 : (0 < t319.length) = True := eq_true (by omega); (try rw [show ((0 : Int)).toNat = 0 from rfl] at hx323_0); (try rw [Addr.add_zero'] at hx323_0); have HR323_0 := Aside0.mk hi323_0; have HC323_0 := Aside0.mk hl323_0; clear hi323_0 hl323_0; replace p323 := eq_true p323; replace q323 := eq_true q323) | (go_at_call 35; (with_reducible refine (laws_likeInts.calls k2 _ _ (rd_L1 t319 0) _ _ t296 false _ ?side1 ?side2 ?side3 ?side4 A74.out).mono ?_); (case side1 => repeat (first | exact (by repeat (first | (with_reducible exact HR323_0.out) | (with_reducible refine Kd.C_alloc ?_ _) | (with_reducible refine Kd.C_drewN ?_ _) | (with_reducible refine Kd.C_drew ?_) | exact HR323_0.out)) | (with_reducible refine Kd.C_alloc ?_ _) | (with_reducible refine Kd.C_drewN ?_ _) | (with_reducible refine Kd.C_drew ?_))); (case side2 => exact HC323_0.out); (case side3 => repeat (first | exact (Kd.R_reads' HO_4.out).2.2 | (with_reducible refine Kd.C_alloc ?_ _) | (with_reducible refine Kd.C_drewN ?_ _) | (with_reducible refine Kd.C_drew ?_))); (case side4 => exact (Kd.R_reads' HO_4.out).2.1); rintro e w' ⟨rfl, ⟨nd, rfl⟩⟩))
                          go_ret
                          exact ⟨by first | rfl | (simp [errW_none, errW_some] <;> rfl) | (simp [*, errW_none, errW_some] <;> rfl), by repeat (first | (with_reducible first | exact HB.out | apply below_alloc | apply pw_below_drewN | apply below_drew1) | exact HB.out)⟩
                      · rw [if_neg c73] at H
                        exact absurd H (by simp)
                    · rw [if_neg c72] at H
                      have c72b0 : ((t319.length : Int) == 1) = false := beq_eq_false_iff_ne.mpr c72
                      have c72b1 : ((t319.length : Int) != 1) = true := bne_iff_ne.mpr c72
                      obtain rfl := Option.some.inj H
                      obtain ⟨Ao86, co86, eo86⟩ := Kd.R_slice HO_17.out
                      subst eo86
                      go_wp2_with (first | ((with_reducible refine gate_callee (f := 20) rfl ?_); refine goesL_ (some 154) rfl rfl Try.func20 (by kernel_rfl) rfl #[.int .i64 t295, .int .i64 1, .slice Ao86 x17_2.length co86] rfl (by (try simp only [List.map_toArray, List.map_cons, List.map_nil]); first | done | rfl | (simp only [List.length_drop, List.length_take]; rfl)) ?_; (with_reducible refine (impl_GatherBooks.calls t295 1 _ _ x17_2 t319 t320 _ ?side1 ?side2 A70.out).mono ?_); (case side1 => repeat (first | exact (Kd.R_reads' HO_17.out).2.2 | (with_reducible refine Kd.C_alloc ?_ _) | (with_reducible refine Kd.C_drewN ?_ _) | (with_reducible refine Kd.C_drew ?_))); (case side2 => exact (Kd.R_reads' HO_17.out).2.1); rintro e w87 ⟨v321, rfl, ho0, hb⟩; refine ⟨_, rfl, ?_⟩; have n0_ := Aside0.mk (Kd.R_below (by (with_reducible repeat (first | apply Kd.R_alloc | apply Kd.R_drewN | apply Kd.R_drew)); exact HO_4.out) hb); have n1_ := Aside0.mk (Kd.R_below (by (with_reducible repeat (first | apply Kd.R_alloc | apply Kd.R_drewN | apply Kd.R_drew)); exact HO_5.out) hb); have n2_ := Aside0.mk (Kd.R_below (by (with_reducible repeat (first | apply Kd.R_alloc | apply Kd.R_drewN | apply Kd.R_drew)); exact HO_17.out) hb); have n3_ := Aside0.mk (Kd.S_lower (Kd.S_new' (Kd.S_new' ho0 (Kd.R_lt (by (with_reducible repeat (first | apply Kd.R_alloc | apply Kd.R_drewN | apply Kd.R_drew)); exact HO_4.out))) (Kd.R_lt (by (with_reducible repeat (first | apply Kd.R_alloc | apply Kd.R_drewN | apply Kd.R_drew)); exact HO_5.out))) (below_size (by repeat (first | (with_reducible first | exact HB.out | apply below_alloc | apply pw_below_drewN | apply below_drew1) | exact HB.out)))); have n4_ := Aside0.mk (below_step (by repeat (first | (with_reducible first | exact HB.out | apply below_alloc | apply pw_below_drewN | apply below_drew1) | exact HB.out)) hb); clear HO_4; clear HO_5; clear HO_17; clear HB; have HO_4 := n0_; have HO_5 := n1_; have HO_17 := n2_; have HO322 := n3_; have HB := n4_; clear n0_ n1_ n2_ n3_ n4_; (try clear hb); (try clear hb2); (try clear hk); (try clear hi); (try clear ho0); obtain ⟨Ao88, co88, eo88⟩ := Kd.S_slice HO322.out; subst eo88))
                      go_ret
                      exact ⟨by first | rfl | (simp [errW_none, errW_some] <;> rfl) | (simp [*, errW_none, errW_some] <;> rfl), by repeat (first | (with_reducible first | exact HB.out | apply below_alloc | apply pw_below_drewN | apply below_drew1) | exact HB.out)⟩
                  · rw [if_neg c71] at H
                    have c71b0 : (t320 == 0) = false := beq_eq_false_iff_ne.mpr c71
                    have c71b1 : (t320 != 0) = true := bne_iff_ne.mpr c71
                    obtain rfl := Option.some.inj H
                    obtain ⟨Ao89, co89, eo89⟩ := Kd.R_slice HO_17.out
                    subst eo89
                    go_wp2_with (first | ((with_reducible refine gate_callee (f := 20) rfl ?_); refine goesL_ (some 154) rfl rfl Try.func20 (by kernel_rfl) rfl #[.int .i64 t295, .int .i64 1, .slice Ao89 x17_2.length co89] rfl (by (try simp only [List.map_toArray, List.map_cons, List.map_nil]); first | done | rfl | (simp only [List.length_drop, List.length_take]; rfl)) ?_; (with_reducible refine (impl_GatherBooks.calls t295 1 _ _ x17_2 t319 t320 _ ?side1 ?side2 A70.out).mono ?_); (case side1 => repeat (first | exact (Kd.R_reads' HO_17.out).2.2 | (with_reducible refine Kd.C_alloc ?_ _) | (with_reducible refine Kd.C_drewN ?_ _) | (with_reducible refine Kd.C_drew ?_))); (case side2 => exact (Kd.R_reads' HO_17.out).2.1); rintro e w90 ⟨v321, rfl, ho0, hb⟩; refine ⟨_, rfl, ?_⟩; have n0_ := Aside0.mk (Kd.R_below (by (with_reducible repeat (first | apply Kd.R_alloc | apply Kd.R_drewN | apply Kd.R_drew)); exact HO_4.out) hb); have n1_ := Aside0.mk (Kd.R_below (by (with_reducible repeat (first | apply Kd.R_alloc | apply Kd.R_drewN | apply Kd.R_drew)); exact HO_5.out) hb); have n2_ := Aside0.mk (Kd.R_below (by (with_reducible repeat (first | apply Kd.R_alloc | apply Kd.R_drewN | apply Kd.R_drew)); exact HO_17.out) hb); have n3_ := Aside0.mk (Kd.S_lower (Kd.S_new' (Kd.S_new' ho0 (Kd.R_lt (by (with_reducible repeat (first | apply Kd.R_alloc | apply Kd.R_drewN | apply Kd.R_drew)); exact HO_4.out))) (Kd.R_lt (by (with_reducible repeat (first | apply Kd.R_alloc | apply Kd.R_drewN | apply Kd.R_drew)); exact HO_5.out))) (below_size (by repeat (first | (with_reducible first | exact HB.out | apply below_alloc | apply pw_below_drewN | apply below_drew1) | exact HB.out)))); have n4_ := Aside0.mk (below_step (by repeat (first | (with_reducible first | exact HB.out | apply below_alloc | apply pw_below_drewN | apply below_drew1) | exact HB.out)) hb); clear HO_4; clear HO_5; clear HO_17; clear HB; have HO_4 := n0_; have HO_5 := n1_; have HO_17 := n2_; have HO322 := n3_; have HB := n4_; clear n0_ n1_ n2_ n3_ n4_; (try clear hb); (try clear hb2); (try clear hk); (try clear hi); (try clear ho0)))
                    go_ret
                    exact ⟨by first | rfl | (simp [errW_none, errW_some] <;> rfl) | (simp [*, errW_none, errW_some] <;> rfl), by repeat (first | (with_reducible first | exact HB.out | apply below_alloc | apply pw_below_drewN | apply below_drew1) | exact HB.out)⟩
          · rw [if_neg c40] at H
            have c40b0 : (t300 == 0) = false := beq_eq_false_iff_ne.mpr c40
            have c40b1 : (t300 != 0) = true := bne_iff_ne.mpr c40
            obtain rfl := Option.some.inj H
            go_wp2
            go_ret
            exact ⟨by first | rfl | (simp [errW_none, errW_some] <;> rfl) | (simp [*, errW_none, errW_some] <;> rfl), by repeat (first | (with_reducible first | exact HB.out | apply below_alloc | apply pw_below_drewN | apply below_drew1) | exact HB.out)⟩

/-- THE ONE PURE STATEMENT of laws_FnExplained: yours. -/
def laws_FnExplained.Pure : Prop := ∀ (l0 : List Int), l0.length ≤ maxLen → l0.length * 1 ≤ 140737488351232 → (∀ x ∈ l0, (Lit.int .u8 x).wf = true) → ∃ k, laws_FnExplained.f k l0 = some true
theorem laws_FnExplained.walk (P : laws_FnExplained.Pure) (a0 : Option Addr) (len0 cap0 : Nat) (z0 : List Int) (w : World) (w0 : (a0 = none ∧ len0 = 0 ∧ cap0 = 0 ∧ z0 = []) ∨ ∃ x, a0 = some x ∧ len0 ≤ cap0 ∧ cap0 ≤ maxLen ∧ z0.length = cap0 ∧ (∀ i, i < z0.length → w.cell? (x.add i) = some (.int .u8 (z0.getD i 0))) ∧ ∀ n ∈ z0, (Lit.int .u8 n).wf = true) (y0 : len0 * 1 ≤ 140737488351232) :
    Calls Try.prog 8 #[.slice a0 len0 cap0] w fun e w' => e = .returned (.bool true) ∧ Below w.heap.size w w' := by
  obtain ⟨l0, rfl, hr0, hm0, hw0, hc0⟩ := ReadsInt.ofRowC w0
  obtain ⟨k, h⟩ := P l0 hm0 y0 hw0
  refine (laws_FnExplained.calls k _ _ l0 true w (Kd.C_of_reads (d := (0 : Int)) (h1 := fun _ => rfl) hr0) hc0 h).mono ?_
  rintro e w' ⟨rfl, hd⟩
  exact ⟨rfl, hd⟩

end Go.Proofs.Ythfegojffgblmaa.X
