-- Written by this session's own program (wip/xprint.py) out of the translation; Lean checks it.
import Derived.Test.YthfegojffgblmaaX0
import Derived.Test.YthfegojffgblmaaX3
import Derived.Test.YthfegojffgblmaaX6
import Derived.Test.YthfegojffgblmaaX7
import Derived.Test.YthfegojffgblmaaX9
import Derived.Test.YthfegojffgblmaaX11
import Derived.Test.YthfegojffgblmaaX12
import Derived.Test.YthfegojffgblmaaEAreFaults
import Derived.Test.YthfegojffgblmaaEBusiest
namespace Go.Proofs.Ythfegojffgblmaa.X
open Go.RowKit Go.Proofs.YthfegojffgblmaaW.PrintWords Go.Proofs.YthfegojffgblmaaW.PrintLast Go.Proofs.YthfegojffgblmaaW.PrintMore
attribute [local go_sem] max2_int min2_int max_two min_two max_three min_three max_four min_four   -- for this text's walks alone
set_option linter.unusedVariables false
set_option linter.unusedSimpArgs false

/-! ### laws_FnLinesOfBooks: function 7 -/
mutual
def laws_FnLinesOfBooks.j0 : Nat → Int → Int → List (S54) → List Int → Int → Int → Int → Bool → Option (Bool)
  | 0, _, _, _, _, _, _, _, _ => none
  | k + 1, x3, x4, x5, x6, x7, x10, x11, x123 => if x123 = true then (some false) else (if x7 = 0 then ((impl_GatherBooks.f x3 x4 x5).bind fun bt383 => ((impl_RightBlock.f k x3).bind fun bt387 => (if bt383.2 = 0 then (if bt387.2 = 0 then (laws_FnLinesOfBooks.j1 k x4 x5 x6 x10 x11 bt383.1 bt387.1 ((bt383.1.length : Int) != x4)) else (laws_FnLinesOfBooks.j1 k x4 x5 x6 x10 x11 bt383.1 bt387.1 true)) else (laws_FnLinesOfBooks.j1 k x4 x5 x6 x10 x11 bt383.1 bt387.1 true)))) else (some true))
def laws_FnLinesOfBooks.j1 : Nat → Int → List (S54) → List Int → Int → Int → List (List Int) → List Int → Bool → Option (Bool)
  | 0, _, _, _, _, _, _, _, _ => none
  | k + 1, x4, x5, x6, x10, x11, x21, x23, x149 => if x149 = true then (some false) else (laws_FnLinesOfBooks.l0 k x4 x5 x6 x10 x11 x21 x23 0)
def laws_FnLinesOfBooks.l0 : Nat → Int → List (S54) → List Int → Int → Int → List (List Int) → List Int → Int → Option (Bool)
  | 0, _, _, _, _, _, _, _, _ => none
  | k + 1, x4, x5, x6, x10, x11, x21, x23, x25 => if x25 < x4 then (laws_FnLinesOfBooks.l1 k x4 x5 x6 x10 x11 x21 x23 x25 false 0) else (laws_FnLinesOfBooks.l2 k x5 x10 x11 0 0)
def laws_FnLinesOfBooks.l1 : Nat → Int → List (S54) → List Int → Int → Int → List (List Int) → List Int → Int → Bool → Int → Option (Bool)
  | 0, _, _, _, _, _, _, _, _, _, _ => none
  | k + 1, x4, x5, x6, x10, x11, x21, x23, x25, x26, x27 => if x27 < (x5.length : Int) then (if x26 = true then (laws_FnLinesOfBooks.l1 k x4 x5 x6 x10 x11 x21 x23 x25 true (wrap64 (x27 + 1))) else (if 0 ≤ x27 then (laws_FnLinesOfBooks.l1 k x4 x5 x6 x10 x11 x21 x23 x25 (((rd_T54 x5 x27).f0) == x25) (wrap64 (x27 + 1))) else (none))) else (if 0 ≤ x25 then (if x25 < (x21.length : Int) then ((laws_likeInts.f k (rd_L3 x21 x25) x23).bind fun t393 => ((laws_hasInt.f k x6 x25).bind fun t394 => (if (t393 == t394) = true then (some false) else ((laws_hasInt.f k x6 x25).bind fun t395 => (if t395 = true then (if x26 = true then (laws_FnLinesOfBooks.l0 k x4 x5 x6 x10 x11 x21 x23 (wrap64 (x25 + 1))) else (some false)) else (laws_FnLinesOfBooks.l0 k x4 x5 x6 x10 x11 x21 x23 (wrap64 (x25 + 1)))))))) else (none)) else (none))
def laws_FnLinesOfBooks.l2 : Nat → List (S54) → Int → Int → Int → Int → Option (Bool)
  | 0, _, _, _, _, _ => none
  | k + 1, x5, x10, x11, x28, x29 => if x29 < (x5.length : Int) then (if 0 ≤ x29 then (if ((rd_T54 x5 x29).f1) = x10 then (laws_FnLinesOfBooks.l2 k x5 x10 x11 (wrap64 (x28 + 1)) (wrap64 (x29 + 1))) else (laws_FnLinesOfBooks.l2 k x5 x10 x11 x28 (wrap64 (x29 + 1)))) else (none)) else (some (x28 == x11))
end
def laws_FnLinesOfBooks.f (k : Nat) (l0 : List Int) : Option (Bool) := (laws_big.f l0).bind fun t351 => (if t351 = true then (some true) else ((spec_DrawWrongBooks.f k l0).bind fun bt352 => ((impl_WrongBooks.f k bt352.1 bt352.2.1 bt352.2.2).bind fun bt357 => ((spec_WrongBooks.f k bt352.1 bt352.2.1 bt352.2.2).bind fun bt361 => ((impl_BusiestStation.f bt352.1 bt352.2.1 bt352.2.2).bind fun bt365 => ((spec_BusiestStation.f k bt352.1 bt352.2.1 bt352.2.2).bind fun bt368 => ((spec_DrawRightBlock.f k l0).bind fun t371 => ((impl_RightBlock.f k t371).bind fun bt372 => ((spec_RightBlock.f k t371).bind fun bt376 => (if bt357.2 = bt361.2 then ((laws_likeInts.f k bt357.1 bt361.1).bind fun t380 => (if t380 = true then (if bt365.2.2 = bt368.2.2 then (if bt365.1 = bt368.1 then (if bt365.2.1 = bt368.2.1 then (if bt372.2 = bt376.2 then ((laws_likeInts.f k bt372.1 bt376.1).bind fun t381 => (if t381 = true then ((impl_AreFaults.f bt352.1 bt352.2.1 bt352.2.2).bind fun t382 => (laws_FnLinesOfBooks.j0 k bt352.1 bt352.2.1 bt352.2.2 bt357.1 bt357.2 bt365.1 bt365.2.1 (t382 != (bt361.2 == 0)))) else (laws_FnLinesOfBooks.j0 k bt352.1 bt352.2.1 bt352.2.2 bt357.1 bt357.2 bt365.1 bt365.2.1 true))) else (laws_FnLinesOfBooks.j0 k bt352.1 bt352.2.1 bt352.2.2 bt357.1 bt357.2 bt365.1 bt365.2.1 true)) else (laws_FnLinesOfBooks.j0 k bt352.1 bt352.2.1 bt352.2.2 bt357.1 bt357.2 bt365.1 bt365.2.1 true)) else (laws_FnLinesOfBooks.j0 k bt352.1 bt352.2.1 bt352.2.2 bt357.1 bt357.2 bt365.1 bt365.2.1 true)) else (laws_FnLinesOfBooks.j0 k bt352.1 bt352.2.1 bt352.2.2 bt357.1 bt357.2 bt365.1 bt365.2.1 true)) else (laws_FnLinesOfBooks.j0 k bt352.1 bt352.2.1 bt352.2.2 bt357.1 bt357.2 bt365.1 bt365.2.1 true))) else (laws_FnLinesOfBooks.j0 k bt352.1 bt352.2.1 bt352.2.2 bt357.1 bt357.2 bt365.1 bt365.2.1 true)))))))))))
theorem laws_FnLinesOfBooks.mono_l : ∀ k, (∀ y0 y1 y2 y3 y4 y5 y6 y7, LeO (laws_FnLinesOfBooks.j0 k y0 y1 y2 y3 y4 y5 y6 y7) (laws_FnLinesOfBooks.j0 (k + 1) y0 y1 y2 y3 y4 y5 y6 y7)) ∧ (∀ y0 y1 y2 y3 y4 y5 y6 y7, LeO (laws_FnLinesOfBooks.j1 k y0 y1 y2 y3 y4 y5 y6 y7) (laws_FnLinesOfBooks.j1 (k + 1) y0 y1 y2 y3 y4 y5 y6 y7)) ∧ (∀ y0 y1 y2 y3 y4 y5 y6 y7, LeO (laws_FnLinesOfBooks.l0 k y0 y1 y2 y3 y4 y5 y6 y7) (laws_FnLinesOfBooks.l0 (k + 1) y0 y1 y2 y3 y4 y5 y6 y7)) ∧ (∀ y0 y1 y2 y3 y4 y5 y6 y7 y8 y9, LeO (laws_FnLinesOfBooks.l1 k y0 y1 y2 y3 y4 y5 y6 y7 y8 y9) (laws_FnLinesOfBooks.l1 (k + 1) y0 y1 y2 y3 y4 y5 y6 y7 y8 y9)) ∧ (∀ y0 y1 y2 y3 y4, LeO (laws_FnLinesOfBooks.l2 k y0 y1 y2 y3 y4) (laws_FnLinesOfBooks.l2 (k + 1) y0 y1 y2 y3 y4))
  | 0 => ⟨fun _ _ _ _ _ _ _ _ r h => by simp [laws_FnLinesOfBooks.j0] at h, fun _ _ _ _ _ _ _ _ r h => by simp [laws_FnLinesOfBooks.j1] at h, fun _ _ _ _ _ _ _ _ r h => by simp [laws_FnLinesOfBooks.l0] at h, fun _ _ _ _ _ _ _ _ _ _ r h => by simp [laws_FnLinesOfBooks.l1] at h, fun _ _ _ _ _ r h => by simp [laws_FnLinesOfBooks.l2] at h⟩
  | k + 1 => by
    obtain ⟨ih0, ih1, ih2, ih3, ih4⟩ := laws_FnLinesOfBooks.mono_l k
    refine ⟨?_, ?_, ?_, ?_, ?_⟩
    · intro y0 y1 y2 y3 y4 y5 y6 y7
      unfold laws_FnLinesOfBooks.j0
      repeat' first
      | (with_reducible exact ih0 _ _ _ _ _ _ _ _)
      | (with_reducible exact ih1 _ _ _ _ _ _ _ _)
      | (with_reducible exact ih2 _ _ _ _ _ _ _ _)
      | (with_reducible exact ih3 _ _ _ _ _ _ _ _ _ _)
      | (with_reducible exact ih4 _ _ _ _ _)
      | (with_reducible exact impl_RightBlock.mono _ _)
      | (with_reducible exact impl_WrongBooks.mono _ _ _ _)
      | (with_reducible exact laws_hasInt.mono _ _ _)
      | (with_reducible exact laws_likeInts.mono _ _ _)
      | (with_reducible exact spec_BusiestStation.mono _ _ _ _)
      | (with_reducible exact spec_DrawRightBlock.mono _ _)
      | (with_reducible exact spec_DrawWrongBooks.mono _ _)
      | (with_reducible exact spec_RightBlock.mono _ _)
      | (with_reducible exact spec_WrongBooks.mono _ _ _ _)
      | (with_reducible exact LeO.refl _)
      | (with_reducible exact LeO.none _)
      | (with_reducible refine LeO.ite ?_ ?_)
      | (with_reducible refine LeO.bind ?_ (fun _ => ?_))
      | exact ih0 _ _ _ _ _ _ _ _
      | exact ih1 _ _ _ _ _ _ _ _
      | exact ih2 _ _ _ _ _ _ _ _
      | exact ih3 _ _ _ _ _ _ _ _ _ _
      | exact ih4 _ _ _ _ _
      | exact impl_RightBlock.mono _ _
      | exact impl_WrongBooks.mono _ _ _ _
      | exact laws_hasInt.mono _ _ _
      | exact laws_likeInts.mono _ _ _
      | exact spec_BusiestStation.mono _ _ _ _
      | exact spec_DrawRightBlock.mono _ _
      | exact spec_DrawWrongBooks.mono _ _
      | exact spec_RightBlock.mono _ _
      | exact spec_WrongBooks.mono _ _ _ _
      | exact LeO.none _
      | refine LeO.ite ?_ ?_
      | refine LeO.bind ?_ (fun _ => ?_)
    · intro y0 y1 y2 y3 y4 y5 y6 y7
      unfold laws_FnLinesOfBooks.j1
      repeat' first
      | (with_reducible exact ih0 _ _ _ _ _ _ _ _)
      | (with_reducible exact ih1 _ _ _ _ _ _ _ _)
      | (with_reducible exact ih2 _ _ _ _ _ _ _ _)
      | (with_reducible exact ih3 _ _ _ _ _ _ _ _ _ _)
      | (with_reducible exact ih4 _ _ _ _ _)
      | (with_reducible exact impl_RightBlock.mono _ _)
      | (with_reducible exact impl_WrongBooks.mono _ _ _ _)
      | (with_reducible exact laws_hasInt.mono _ _ _)
      | (with_reducible exact laws_likeInts.mono _ _ _)
      | (with_reducible exact spec_BusiestStation.mono _ _ _ _)
      | (with_reducible exact spec_DrawRightBlock.mono _ _)
      | (with_reducible exact spec_DrawWrongBooks.mono _ _)
      | (with_reducible exact spec_RightBlock.mono _ _)
      | (with_reducible exact spec_WrongBooks.mono _ _ _ _)
      | (with_reducible exact LeO.refl _)
      | (with_reducible exact LeO.none _)
      | (with_reducible refine LeO.ite ?_ ?_)
      | (with_reducible refine LeO.bind ?_ (fun _ => ?_))
      | exact ih0 _ _ _ _ _ _ _ _
      | exact ih1 _ _ _ _ _ _ _ _
      | exact ih2 _ _ _ _ _ _ _ _
      | exact ih3 _ _ _ _ _ _ _ _ _ _
      | exact ih4 _ _ _ _ _
      | exact impl_RightBlock.mono _ _
      | exact impl_WrongBooks.mono _ _ _ _
      | exact laws_hasInt.mono _ _ _
      | exact laws_likeInts.mono _ _ _
      | exact spec_BusiestStation.mono _ _ _ _
      | exact spec_DrawRightBlock.mono _ _
      | exact spec_DrawWrongBooks.mono _ _
      | exact spec_RightBlock.mono _ _
      | exact spec_WrongBooks.mono _ _ _ _
      | exact LeO.none _
      | refine LeO.ite ?_ ?_
      | refine LeO.bind ?_ (fun _ => ?_)
    · intro y0 y1 y2 y3 y4 y5 y6 y7
      unfold laws_FnLinesOfBooks.l0
      repeat' first
      | (with_reducible exact ih0 _ _ _ _ _ _ _ _)
      | (with_reducible exact ih1 _ _ _ _ _ _ _ _)
      | (with_reducible exact ih2 _ _ _ _ _ _ _ _)
      | (with_reducible exact ih3 _ _ _ _ _ _ _ _ _ _)
      | (with_reducible exact ih4 _ _ _ _ _)
      | (with_reducible exact impl_RightBlock.mono _ _)
      | (with_reducible exact impl_WrongBooks.mono _ _ _ _)
      | (with_reducible exact laws_hasInt.mono _ _ _)
      | (with_reducible exact laws_likeInts.mono _ _ _)
      | (with_reducible exact spec_BusiestStation.mono _ _ _ _)
      | (with_reducible exact spec_DrawRightBlock.mono _ _)
      | (with_reducible exact spec_DrawWrongBooks.mono _ _)
      | (with_reducible exact spec_RightBlock.mono _ _)
      | (with_reducible exact spec_WrongBooks.mono _ _ _ _)
      | (with_reducible exact LeO.refl _)
      | (with_reducible exact LeO.none _)
      | (with_reducible refine LeO.ite ?_ ?_)
      | (with_reducible refine LeO.bind ?_ (fun _ => ?_))
      | exact ih0 _ _ _ _ _ _ _ _
      | exact ih1 _ _ _ _ _ _ _ _
      | exact ih2 _ _ _ _ _ _ _ _
      | exact ih3 _ _ _ _ _ _ _ _ _ _
      | exact ih4 _ _ _ _ _
      | exact impl_RightBlock.mono _ _
      | exact impl_WrongBooks.mono _ _ _ _
      | exact laws_hasInt.mono _ _ _
      | exact laws_likeInts.mono _ _ _
      | exact spec_BusiestStation.mono _ _ _ _
      | exact spec_DrawRightBlock.mono _ _
      | exact spec_DrawWrongBooks.mono _ _
      | exact spec_RightBlock.mono _ _
      | exact spec_WrongBooks.mono _ _ _ _
      | exact LeO.none _
      | refine LeO.ite ?_ ?_
      | refine LeO.bind ?_ (fun _ => ?_)
    · intro y0 y1 y2 y3 y4 y5 y6 y7 y8 y9
      unfold laws_FnLinesOfBooks.l1
      repeat' first
      | (with_reducible exact ih0 _ _ _ _ _ _ _ _)
      | (with_reducible exact ih1 _ _ _ _ _ _ _ _)
      | (with_reducible exact ih2 _ _ _ _ _ _ _ _)
      | (with_reducible exact ih3 _ _ _ _ _ _ _ _ _ _)
      | (with_reducible exact ih4 _ _ _ _ _)
      | (with_reducible exact impl_RightBlock.mono _ _)
      | (with_reducible exact impl_WrongBooks.mono _ _ _ _)
      | (with_reducible exact laws_hasInt.mono _ _ _)
      | (with_reducible exact laws_likeInts.mono _ _ _)
      | (with_reducible exact spec_BusiestStation.mono _ _ _ _)
      | (with_reducible exact spec_DrawRightBlock.mono _ _)
      | (with_reducible exact spec_DrawWrongBooks.mono _ _)
      | (with_reducible exact spec_RightBlock.mono _ _)
      | (with_reducible exact spec_WrongBooks.mono _ _ _ _)
      | (with_reducible exact LeO.refl _)
      | (with_reducible exact LeO.none _)
      | (with_reducible refine LeO.ite ?_ ?_)
      | (with_reducible refine LeO.bind ?_ (fun _ => ?_))
      | exact ih0 _ _ _ _ _ _ _ _
      | exact ih1 _ _ _ _ _ _ _ _
      | exact ih2 _ _ _ _ _ _ _ _
      | exact ih3 _ _ _ _ _ _ _ _ _ _
      | exact ih4 _ _ _ _ _
      | exact impl_RightBlock.mono _ _
      | exact impl_WrongBooks.mono _ _ _ _
      | exact laws_hasInt.mono _ _ _
      | exact laws_likeInts.mono _ _ _
      | exact spec_BusiestStation.mono _ _ _ _
      | exact spec_DrawRightBlock.mono _ _
      | exact spec_DrawWrongBooks.mono _ _
      | exact spec_RightBlock.mono _ _
      | exact spec_WrongBooks.mono _ _ _ _
      | exact LeO.none _
      | refine LeO.ite ?_ ?_
      | refine LeO.bind ?_ (fun _ => ?_)
    · intro y0 y1 y2 y3 y4
      unfold laws_FnLinesOfBooks.l2
      repeat' first
      | (with_reducible exact ih0 _ _ _ _ _ _ _ _)
      | (with_reducible exact ih1 _ _ _ _ _ _ _ _)
      | (with_reducible exact ih2 _ _ _ _ _ _ _ _)
      | (with_reducible exact ih3 _ _ _ _ _ _ _ _ _ _)
      | (with_reducible exact ih4 _ _ _ _ _)
      | (with_reducible exact impl_RightBlock.mono _ _)
      | (with_reducible exact impl_WrongBooks.mono _ _ _ _)
      | (with_reducible exact laws_hasInt.mono _ _ _)
      | (with_reducible exact laws_likeInts.mono _ _ _)
      | (with_reducible exact spec_BusiestStation.mono _ _ _ _)
      | (with_reducible exact spec_DrawRightBlock.mono _ _)
      | (with_reducible exact spec_DrawWrongBooks.mono _ _)
      | (with_reducible exact spec_RightBlock.mono _ _)
      | (with_reducible exact spec_WrongBooks.mono _ _ _ _)
      | (with_reducible exact LeO.refl _)
      | (with_reducible exact LeO.none _)
      | (with_reducible refine LeO.ite ?_ ?_)
      | (with_reducible refine LeO.bind ?_ (fun _ => ?_))
      | exact ih0 _ _ _ _ _ _ _ _
      | exact ih1 _ _ _ _ _ _ _ _
      | exact ih2 _ _ _ _ _ _ _ _
      | exact ih3 _ _ _ _ _ _ _ _ _ _
      | exact ih4 _ _ _ _ _
      | exact impl_RightBlock.mono _ _
      | exact impl_WrongBooks.mono _ _ _ _
      | exact laws_hasInt.mono _ _ _
      | exact laws_likeInts.mono _ _ _
      | exact spec_BusiestStation.mono _ _ _ _
      | exact spec_DrawRightBlock.mono _ _
      | exact spec_DrawWrongBooks.mono _ _
      | exact spec_RightBlock.mono _ _
      | exact spec_WrongBooks.mono _ _ _ _
      | exact LeO.none _
      | refine LeO.ite ?_ ?_
      | refine LeO.bind ?_ (fun _ => ?_)
theorem laws_FnLinesOfBooks.mono : ∀ a0 k, LeO (laws_FnLinesOfBooks.f k a0) (laws_FnLinesOfBooks.f (k + 1) a0) := by
  intro a0 k
  obtain ⟨ih0, ih1, ih2, ih3, ih4⟩ := laws_FnLinesOfBooks.mono_l k
  unfold laws_FnLinesOfBooks.f
  repeat' first
      | (with_reducible exact ih0 _ _ _ _ _ _ _ _)
      | (with_reducible exact ih1 _ _ _ _ _ _ _ _)
      | (with_reducible exact ih2 _ _ _ _ _ _ _ _)
      | (with_reducible exact ih3 _ _ _ _ _ _ _ _ _ _)
      | (with_reducible exact ih4 _ _ _ _ _)
      | (with_reducible exact impl_RightBlock.mono _ _)
      | (with_reducible exact impl_WrongBooks.mono _ _ _ _)
      | (with_reducible exact laws_hasInt.mono _ _ _)
      | (with_reducible exact laws_likeInts.mono _ _ _)
      | (with_reducible exact spec_BusiestStation.mono _ _ _ _)
      | (with_reducible exact spec_DrawRightBlock.mono _ _)
      | (with_reducible exact spec_DrawWrongBooks.mono _ _)
      | (with_reducible exact spec_RightBlock.mono _ _)
      | (with_reducible exact spec_WrongBooks.mono _ _ _ _)
      | (with_reducible exact LeO.refl _)
      | (with_reducible exact LeO.none _)
      | (with_reducible refine LeO.ite ?_ ?_)
      | (with_reducible refine LeO.bind ?_ (fun _ => ?_))
      | exact ih0 _ _ _ _ _ _ _ _
      | exact ih1 _ _ _ _ _ _ _ _
      | exact ih2 _ _ _ _ _ _ _ _
      | exact ih3 _ _ _ _ _ _ _ _ _ _
      | exact ih4 _ _ _ _ _
      | exact impl_RightBlock.mono _ _
      | exact impl_WrongBooks.mono _ _ _ _
      | exact laws_hasInt.mono _ _ _
      | exact laws_likeInts.mono _ _ _
      | exact spec_BusiestStation.mono _ _ _ _
      | exact spec_DrawRightBlock.mono _ _
      | exact spec_DrawWrongBooks.mono _ _
      | exact spec_RightBlock.mono _ _
      | exact spec_WrongBooks.mono _ _ _ _
      | exact LeO.none _
      | refine LeO.ite ?_ ?_
      | refine LeO.bind ?_ (fun _ => ?_)
set_option maxHeartbeats 8000000 in
set_option maxRecDepth 100000 in
theorem laws_FnLinesOfBooks.calls (k : Nat) (A0 : Option Addr) (c0 : Nat) (l0 : List Int) (r : Bool) (w : World) (hr0 : Kd.C (Kd.int .u8) w A0 l0.length l0) (hc0 : l0.length ≤ c0) (h : laws_FnLinesOfBooks.f k l0 = some r) :
    Calls Try.prog 7 #[.slice A0 l0.length c0] w fun e w' => e = .returned (.bool r) ∧ Below w.heap.size w w' := by
  have HR0 := Aside0.mk hr0
  have HC0 := Aside0.mk hc0
  clear hr0 hc0
  have HB := Aside0.mk (Below.refl w.heap.size w)
  have H : ((laws_big.f l0).bind fun t351 => (if t351 = true then (some true) else ((spec_DrawWrongBooks.f k l0).bind fun bt352 => ((impl_WrongBooks.f k bt352.1 bt352.2.1 bt352.2.2).bind fun bt357 => ((spec_WrongBooks.f k bt352.1 bt352.2.1 bt352.2.2).bind fun bt361 => ((impl_BusiestStation.f bt352.1 bt352.2.1 bt352.2.2).bind fun bt365 => ((spec_BusiestStation.f k bt352.1 bt352.2.1 bt352.2.2).bind fun bt368 => ((spec_DrawRightBlock.f k l0).bind fun t371 => ((impl_RightBlock.f k t371).bind fun bt372 => ((spec_RightBlock.f k t371).bind fun bt376 => (if bt357.2 = bt361.2 then ((laws_likeInts.f k bt357.1 bt361.1).bind fun t380 => (if t380 = true then (if bt365.2.2 = bt368.2.2 then (if bt365.1 = bt368.1 then (if bt365.2.1 = bt368.2.1 then (if bt372.2 = bt376.2 then ((laws_likeInts.f k bt372.1 bt376.1).bind fun t381 => (if t381 = true then ((impl_AreFaults.f bt352.1 bt352.2.1 bt352.2.2).bind fun t382 => (laws_FnLinesOfBooks.j0 k bt352.1 bt352.2.1 bt352.2.2 bt357.1 bt357.2 bt365.1 bt365.2.1 (t382 != (bt361.2 == 0)))) else (laws_FnLinesOfBooks.j0 k bt352.1 bt352.2.1 bt352.2.2 bt357.1 bt357.2 bt365.1 bt365.2.1 true))) else (laws_FnLinesOfBooks.j0 k bt352.1 bt352.2.1 bt352.2.2 bt357.1 bt357.2 bt365.1 bt365.2.1 true)) else (laws_FnLinesOfBooks.j0 k bt352.1 bt352.2.1 bt352.2.2 bt357.1 bt357.2 bt365.1 bt365.2.1 true)) else (laws_FnLinesOfBooks.j0 k bt352.1 bt352.2.1 bt352.2.2 bt357.1 bt357.2 bt365.1 bt365.2.1 true)) else (laws_FnLinesOfBooks.j0 k bt352.1 bt352.2.1 bt352.2.2 bt357.1 bt357.2 bt365.1 bt365.2.1 true)) else (laws_FnLinesOfBooks.j0 k bt352.1 bt352.2.1 bt352.2.2 bt357.1 bt357.2 bt365.1 bt365.2.1 true))) else (laws_FnLinesOfBooks.j0 k bt352.1 bt352.2.1 bt352.2.2 bt357.1 bt357.2 bt365.1 bt365.2.1 true)))))))))))) = some r := h
  clear h
  replace H := Option.bind_eq_some_iff.mp H
  obtain ⟨t351, A20, H⟩ := H
  replace H : (if t351 = true then (some true) else ((spec_DrawWrongBooks.f k l0).bind fun bt352 => ((impl_WrongBooks.f k bt352.1 bt352.2.1 bt352.2.2).bind fun bt357 => ((spec_WrongBooks.f k bt352.1 bt352.2.1 bt352.2.2).bind fun bt361 => ((impl_BusiestStation.f bt352.1 bt352.2.1 bt352.2.2).bind fun bt365 => ((spec_BusiestStation.f k bt352.1 bt352.2.1 bt352.2.2).bind fun bt368 => ((spec_DrawRightBlock.f k l0).bind fun t371 => ((impl_RightBlock.f k t371).bind fun bt372 => ((spec_RightBlock.f k t371).bind fun bt376 => (if bt357.2 = bt361.2 then ((laws_likeInts.f k bt357.1 bt361.1).bind fun t380 => (if t380 = true then (if bt365.2.2 = bt368.2.2 then (if bt365.1 = bt368.1 then (if bt365.2.1 = bt368.2.1 then (if bt372.2 = bt376.2 then ((laws_likeInts.f k bt372.1 bt376.1).bind fun t381 => (if t381 = true then ((impl_AreFaults.f bt352.1 bt352.2.1 bt352.2.2).bind fun t382 => (laws_FnLinesOfBooks.j0 k bt352.1 bt352.2.1 bt352.2.2 bt357.1 bt357.2 bt365.1 bt365.2.1 (t382 != (bt361.2 == 0)))) else (laws_FnLinesOfBooks.j0 k bt352.1 bt352.2.1 bt352.2.2 bt357.1 bt357.2 bt365.1 bt365.2.1 true))) else (laws_FnLinesOfBooks.j0 k bt352.1 bt352.2.1 bt352.2.2 bt357.1 bt357.2 bt365.1 bt365.2.1 true)) else (laws_FnLinesOfBooks.j0 k bt352.1 bt352.2.1 bt352.2.2 bt357.1 bt357.2 bt365.1 bt365.2.1 true)) else (laws_FnLinesOfBooks.j0 k bt352.1 bt352.2.1 bt352.2.2 bt357.1 bt357.2 bt365.1 bt365.2.1 true)) else (laws_FnLinesOfBooks.j0 k bt352.1 bt352.2.1 bt352.2.2 bt357.1 bt357.2 bt365.1 bt365.2.1 true)) else (laws_FnLinesOfBooks.j0 k bt352.1 bt352.2.1 bt352.2.2 bt357.1 bt357.2 bt365.1 bt365.2.1 true))) else (laws_FnLinesOfBooks.j0 k bt352.1 bt352.2.1 bt352.2.2 bt357.1 bt357.2 bt365.1 bt365.2.1 true))))))))))) = some r := H
  have A2 := Aside0.mk A20
  clear A20
  by_cases c3 : t351 = true
  · subst c3
    have H1 : (some true) = some r := by rw [if_pos rfl] at H; exact H
    clear H
    have H := H1
    clear H1
    obtain rfl := Option.some.inj H
    go_enter Try.func7, Try.ntmps7
    go_wp2_with (first | ((with_reducible refine gate_callee (f := 28) rfl ?_); refine goesL_ (some 31) rfl rfl Try.func28 (by kernel_rfl) rfl #[.slice A0 l0.length c0] rfl (by (try simp only [List.map_toArray, List.map_cons, List.map_nil]); first | done | rfl | (simp only [List.length_drop, List.length_take]; rfl)) ?_; (with_reducible refine (laws_big.calls _ _ l0 true _ ?side1 ?side2 A2.out).mono ?_); (case side1 => repeat (first | exact HR0.out | (with_reducible refine Kd.C_alloc ?_ _) | (with_reducible refine Kd.C_drewN ?_ _) | (with_reducible refine Kd.C_drew ?_))); (case side2 => exact HC0.out); rintro e w' ⟨rfl, ⟨nd, rfl⟩⟩; refine ⟨_, rfl, ?_⟩))
    go_ret
    exact ⟨by first | rfl | (simp [errW_none, errW_some] <;> rfl) | (simp [*, errW_none, errW_some] <;> rfl), by repeat (first | (with_reducible first | exact HB.out | apply below_alloc | apply pw_below_drewN | apply below_drew1) | exact HB.out)⟩
  · replace c3 := Bool.eq_false_iff.mpr c3
    subst c3
    have H1 : ((spec_DrawWrongBooks.f k l0).bind fun bt352 => ((impl_WrongBooks.f k bt352.1 bt352.2.1 bt352.2.2).bind fun bt357 => ((spec_WrongBooks.f k bt352.1 bt352.2.1 bt352.2.2).bind fun bt361 => ((impl_BusiestStation.f bt352.1 bt352.2.1 bt352.2.2).bind fun bt365 => ((spec_BusiestStation.f k bt352.1 bt352.2.1 bt352.2.2).bind fun bt368 => ((spec_DrawRightBlock.f k l0).bind fun t371 => ((impl_RightBlock.f k t371).bind fun bt372 => ((spec_RightBlock.f k t371).bind fun bt376 => (if bt357.2 = bt361.2 then ((laws_likeInts.f k bt357.1 bt361.1).bind fun t380 => (if t380 = true then (if bt365.2.2 = bt368.2.2 then (if bt365.1 = bt368.1 then (if bt365.2.1 = bt368.2.1 then (if bt372.2 = bt376.2 then ((laws_likeInts.f k bt372.1 bt376.1).bind fun t381 => (if t381 = true then ((impl_AreFaults.f bt352.1 bt352.2.1 bt352.2.2).bind fun t382 => (laws_FnLinesOfBooks.j0 k bt352.1 bt352.2.1 bt352.2.2 bt357.1 bt357.2 bt365.1 bt365.2.1 (t382 != (bt361.2 == 0)))) else (laws_FnLinesOfBooks.j0 k bt352.1 bt352.2.1 bt352.2.2 bt357.1 bt357.2 bt365.1 bt365.2.1 true))) else (laws_FnLinesOfBooks.j0 k bt352.1 bt352.2.1 bt352.2.2 bt357.1 bt357.2 bt365.1 bt365.2.1 true)) else (laws_FnLinesOfBooks.j0 k bt352.1 bt352.2.1 bt352.2.2 bt357.1 bt357.2 bt365.1 bt365.2.1 true)) else (laws_FnLinesOfBooks.j0 k bt352.1 bt352.2.1 bt352.2.2 bt357.1 bt357.2 bt365.1 bt365.2.1 true)) else (laws_FnLinesOfBooks.j0 k bt352.1 bt352.2.1 bt352.2.2 bt357.1 bt357.2 bt365.1 bt365.2.1 true)) else (laws_FnLinesOfBooks.j0 k bt352.1 bt352.2.1 bt352.2.2 bt357.1 bt357.2 bt365.1 bt365.2.1 true))) else (laws_FnLinesOfBooks.j0 k bt352.1 bt352.2.1 bt352.2.2 bt357.1 bt357.2 bt365.1 bt365.2.1 true)))))))))) = some r := by rw [if_neg (show ¬ (false = true) by decide)] at H; exact H
    clear H
    have H := H1
    clear H1
    replace H := Option.bind_eq_some_iff.mp H
    obtain ⟨⟨t352, t353, t354⟩, A40, H⟩ := H
    replace H : ((impl_WrongBooks.f k t352 t353 t354).bind fun bt357 => ((spec_WrongBooks.f k t352 t353 t354).bind fun bt361 => ((impl_BusiestStation.f t352 t353 t354).bind fun bt365 => ((spec_BusiestStation.f k t352 t353 t354).bind fun bt368 => ((spec_DrawRightBlock.f k l0).bind fun t371 => ((impl_RightBlock.f k t371).bind fun bt372 => ((spec_RightBlock.f k t371).bind fun bt376 => (if bt357.2 = bt361.2 then ((laws_likeInts.f k bt357.1 bt361.1).bind fun t380 => (if t380 = true then (if bt365.2.2 = bt368.2.2 then (if bt365.1 = bt368.1 then (if bt365.2.1 = bt368.2.1 then (if bt372.2 = bt376.2 then ((laws_likeInts.f k bt372.1 bt376.1).bind fun t381 => (if t381 = true then ((impl_AreFaults.f t352 t353 t354).bind fun t382 => (laws_FnLinesOfBooks.j0 k t352 t353 t354 bt357.1 bt357.2 bt365.1 bt365.2.1 (t382 != (bt361.2 == 0)))) else (laws_FnLinesOfBooks.j0 k t352 t353 t354 bt357.1 bt357.2 bt365.1 bt365.2.1 true))) else (laws_FnLinesOfBooks.j0 k t352 t353 t354 bt357.1 bt357.2 bt365.1 bt365.2.1 true)) else (laws_FnLinesOfBooks.j0 k t352 t353 t354 bt357.1 bt357.2 bt365.1 bt365.2.1 true)) else (laws_FnLinesOfBooks.j0 k t352 t353 t354 bt357.1 bt357.2 bt365.1 bt365.2.1 true)) else (laws_FnLinesOfBooks.j0 k t352 t353 t354 bt357.1 bt357.2 bt365.1 bt365.2.1 true)) else (laws_FnLinesOfBooks.j0 k t352 t353 t354 bt357.1 bt357.2 bt365.1 bt365.2.1 true))) else (laws_FnLinesOfBooks.j0 k t352 t353 t354 bt357.1 bt357.2 bt365.1 bt365.2.1 true))))))))) = some r := H
    have A4 := Aside0.mk A40
    clear A40
    replace H := Option.bind_eq_some_iff.mp H
    obtain ⟨⟨t357, t358⟩, A50, H⟩ := H
    replace H : ((spec_WrongBooks.f k t352 t353 t354).bind fun bt361 => ((impl_BusiestStation.f t352 t353 t354).bind fun bt365 => ((spec_BusiestStation.f k t352 t353 t354).bind fun bt368 => ((spec_DrawRightBlock.f k l0).bind fun t371 => ((impl_RightBlock.f k t371).bind fun bt372 => ((spec_RightBlock.f k t371).bind fun bt376 => (if t358 = bt361.2 then ((laws_likeInts.f k t357 bt361.1).bind fun t380 => (if t380 = true then (if bt365.2.2 = bt368.2.2 then (if bt365.1 = bt368.1 then (if bt365.2.1 = bt368.2.1 then (if bt372.2 = bt376.2 then ((laws_likeInts.f k bt372.1 bt376.1).bind fun t381 => (if t381 = true then ((impl_AreFaults.f t352 t353 t354).bind fun t382 => (laws_FnLinesOfBooks.j0 k t352 t353 t354 t357 t358 bt365.1 bt365.2.1 (t382 != (bt361.2 == 0)))) else (laws_FnLinesOfBooks.j0 k t352 t353 t354 t357 t358 bt365.1 bt365.2.1 true))) else (laws_FnLinesOfBooks.j0 k t352 t353 t354 t357 t358 bt365.1 bt365.2.1 true)) else (laws_FnLinesOfBooks.j0 k t352 t353 t354 t357 t358 bt365.1 bt365.2.1 true)) else (laws_FnLinesOfBooks.j0 k t352 t353 t354 t357 t358 bt365.1 bt365.2.1 true)) else (laws_FnLinesOfBooks.j0 k t352 t353 t354 t357 t358 bt365.1 bt365.2.1 true)) else (laws_FnLinesOfBooks.j0 k t352 t353 t354 t357 t358 bt365.1 bt365.2.1 true))) else (laws_FnLinesOfBooks.j0 k t352 t353 t354 t357 t358 bt365.1 bt365.2.1 true)))))))) = some r := H
    have A5 := Aside0.mk A50
    clear A50
    replace H := Option.bind_eq_some_iff.mp H
    obtain ⟨⟨t361, t362⟩, A60, H⟩ := H
    replace H : ((impl_BusiestStation.f t352 t353 t354).bind fun bt365 => ((spec_BusiestStation.f k t352 t353 t354).bind fun bt368 => ((spec_DrawRightBlock.f k l0).bind fun t371 => ((impl_RightBlock.f k t371).bind fun bt372 => ((spec_RightBlock.f k t371).bind fun bt376 => (if t358 = t362 then ((laws_likeInts.f k t357 t361).bind fun t380 => (if t380 = true then (if bt365.2.2 = bt368.2.2 then (if bt365.1 = bt368.1 then (if bt365.2.1 = bt368.2.1 then (if bt372.2 = bt376.2 then ((laws_likeInts.f k bt372.1 bt376.1).bind fun t381 => (if t381 = true then ((impl_AreFaults.f t352 t353 t354).bind fun t382 => (laws_FnLinesOfBooks.j0 k t352 t353 t354 t357 t358 bt365.1 bt365.2.1 (t382 != (t362 == 0)))) else (laws_FnLinesOfBooks.j0 k t352 t353 t354 t357 t358 bt365.1 bt365.2.1 true))) else (laws_FnLinesOfBooks.j0 k t352 t353 t354 t357 t358 bt365.1 bt365.2.1 true)) else (laws_FnLinesOfBooks.j0 k t352 t353 t354 t357 t358 bt365.1 bt365.2.1 true)) else (laws_FnLinesOfBooks.j0 k t352 t353 t354 t357 t358 bt365.1 bt365.2.1 true)) else (laws_FnLinesOfBooks.j0 k t352 t353 t354 t357 t358 bt365.1 bt365.2.1 true)) else (laws_FnLinesOfBooks.j0 k t352 t353 t354 t357 t358 bt365.1 bt365.2.1 true))) else (laws_FnLinesOfBooks.j0 k t352 t353 t354 t357 t358 bt365.1 bt365.2.1 true))))))) = some r := H
    have A6 := Aside0.mk A60
    clear A60
    replace H := Option.bind_eq_some_iff.mp H
    obtain ⟨⟨t365, t366, t367⟩, A70, H⟩ := H
    replace H : ((spec_BusiestStation.f k t352 t353 t354).bind fun bt368 => ((spec_DrawRightBlock.f k l0).bind fun t371 => ((impl_RightBlock.f k t371).bind fun bt372 => ((spec_RightBlock.f k t371).bind fun bt376 => (if t358 = t362 then ((laws_likeInts.f k t357 t361).bind fun t380 => (if t380 = true then (if t367 = bt368.2.2 then (if t365 = bt368.1 then (if t366 = bt368.2.1 then (if bt372.2 = bt376.2 then ((laws_likeInts.f k bt372.1 bt376.1).bind fun t381 => (if t381 = true then ((impl_AreFaults.f t352 t353 t354).bind fun t382 => (laws_FnLinesOfBooks.j0 k t352 t353 t354 t357 t358 t365 t366 (t382 != (t362 == 0)))) else (laws_FnLinesOfBooks.j0 k t352 t353 t354 t357 t358 t365 t366 true))) else (laws_FnLinesOfBooks.j0 k t352 t353 t354 t357 t358 t365 t366 true)) else (laws_FnLinesOfBooks.j0 k t352 t353 t354 t357 t358 t365 t366 true)) else (laws_FnLinesOfBooks.j0 k t352 t353 t354 t357 t358 t365 t366 true)) else (laws_FnLinesOfBooks.j0 k t352 t353 t354 t357 t358 t365 t366 true)) else (laws_FnLinesOfBooks.j0 k t352 t353 t354 t357 t358 t365 t366 true))) else (laws_FnLinesOfBooks.j0 k t352 t353 t354 t357 t358 t365 t366 true)))))) = some r := H
    have A7 := Aside0.mk A70
    clear A70
    replace H := Option.bind_eq_some_iff.mp H
    obtain ⟨⟨t368, t369, t370⟩, A80, H⟩ := H
    replace H : ((spec_DrawRightBlock.f k l0).bind fun t371 => ((impl_RightBlock.f k t371).bind fun bt372 => ((spec_RightBlock.f k t371).bind fun bt376 => (if t358 = t362 then ((laws_likeInts.f k t357 t361).bind fun t380 => (if t380 = true then (if t367 = t370 then (if t365 = t368 then (if t366 = t369 then (if bt372.2 = bt376.2 then ((laws_likeInts.f k bt372.1 bt376.1).bind fun t381 => (if t381 = true then ((impl_AreFaults.f t352 t353 t354).bind fun t382 => (laws_FnLinesOfBooks.j0 k t352 t353 t354 t357 t358 t365 t366 (t382 != (t362 == 0)))) else (laws_FnLinesOfBooks.j0 k t352 t353 t354 t357 t358 t365 t366 true))) else (laws_FnLinesOfBooks.j0 k t352 t353 t354 t357 t358 t365 t366 true)) else (laws_FnLinesOfBooks.j0 k t352 t353 t354 t357 t358 t365 t366 true)) else (laws_FnLinesOfBooks.j0 k t352 t353 t354 t357 t358 t365 t366 true)) else (laws_FnLinesOfBooks.j0 k t352 t353 t354 t357 t358 t365 t366 true)) else (laws_FnLinesOfBooks.j0 k t352 t353 t354 t357 t358 t365 t366 true))) else (laws_FnLinesOfBooks.j0 k t352 t353 t354 t357 t358 t365 t366 true))))) = some r := H
    have A8 := Aside0.mk A80
    clear A80
    replace H := Option.bind_eq_some_iff.mp H
    obtain ⟨t371, A90, H⟩ := H
    replace H : ((impl_RightBlock.f k t371).bind fun bt372 => ((spec_RightBlock.f k t371).bind fun bt376 => (if t358 = t362 then ((laws_likeInts.f k t357 t361).bind fun t380 => (if t380 = true then (if t367 = t370 then (if t365 = t368 then (if t366 = t369 then (if bt372.2 = bt376.2 then ((laws_likeInts.f k bt372.1 bt376.1).bind fun t381 => (if t381 = true then ((impl_AreFaults.f t352 t353 t354).bind fun t382 => (laws_FnLinesOfBooks.j0 k t352 t353 t354 t357 t358 t365 t366 (t382 != (t362 == 0)))) else (laws_FnLinesOfBooks.j0 k t352 t353 t354 t357 t358 t365 t366 true))) else (laws_FnLinesOfBooks.j0 k t352 t353 t354 t357 t358 t365 t366 true)) else (laws_FnLinesOfBooks.j0 k t352 t353 t354 t357 t358 t365 t366 true)) else (laws_FnLinesOfBooks.j0 k t352 t353 t354 t357 t358 t365 t366 true)) else (laws_FnLinesOfBooks.j0 k t352 t353 t354 t357 t358 t365 t366 true)) else (laws_FnLinesOfBooks.j0 k t352 t353 t354 t357 t358 t365 t366 true))) else (laws_FnLinesOfBooks.j0 k t352 t353 t354 t357 t358 t365 t366 true)))) = some r := H
    have A9 := Aside0.mk A90
    clear A90
    replace H := Option.bind_eq_some_iff.mp H
    obtain ⟨⟨t372, t373⟩, A100, H⟩ := H
    replace H : ((spec_RightBlock.f k t371).bind fun bt376 => (if t358 = t362 then ((laws_likeInts.f k t357 t361).bind fun t380 => (if t380 = true then (if t367 = t370 then (if t365 = t368 then (if t366 = t369 then (if t373 = bt376.2 then ((laws_likeInts.f k t372 bt376.1).bind fun t381 => (if t381 = true then ((impl_AreFaults.f t352 t353 t354).bind fun t382 => (laws_FnLinesOfBooks.j0 k t352 t353 t354 t357 t358 t365 t366 (t382 != (t362 == 0)))) else (laws_FnLinesOfBooks.j0 k t352 t353 t354 t357 t358 t365 t366 true))) else (laws_FnLinesOfBooks.j0 k t352 t353 t354 t357 t358 t365 t366 true)) else (laws_FnLinesOfBooks.j0 k t352 t353 t354 t357 t358 t365 t366 true)) else (laws_FnLinesOfBooks.j0 k t352 t353 t354 t357 t358 t365 t366 true)) else (laws_FnLinesOfBooks.j0 k t352 t353 t354 t357 t358 t365 t366 true)) else (laws_FnLinesOfBooks.j0 k t352 t353 t354 t357 t358 t365 t366 true))) else (laws_FnLinesOfBooks.j0 k t352 t353 t354 t357 t358 t365 t366 true))) = some r := H
    have A10 := Aside0.mk A100
    clear A100
    replace H := Option.bind_eq_some_iff.mp H
    obtain ⟨⟨t376, t377⟩, A110, H⟩ := H
    replace H : (if t358 = t362 then ((laws_likeInts.f k t357 t361).bind fun t380 => (if t380 = true then (if t367 = t370 then (if t365 = t368 then (if t366 = t369 then (if t373 = t377 then ((laws_likeInts.f k t372 t376).bind fun t381 => (if t381 = true then ((impl_AreFaults.f t352 t353 t354).bind fun t382 => (laws_FnLinesOfBooks.j0 k t352 t353 t354 t357 t358 t365 t366 (t382 != (t362 == 0)))) else (laws_FnLinesOfBooks.j0 k t352 t353 t354 t357 t358 t365 t366 true))) else (laws_FnLinesOfBooks.j0 k t352 t353 t354 t357 t358 t365 t366 true)) else (laws_FnLinesOfBooks.j0 k t352 t353 t354 t357 t358 t365 t366 true)) else (laws_FnLinesOfBooks.j0 k t352 t353 t354 t357 t358 t365 t366 true)) else (laws_FnLinesOfBooks.j0 k t352 t353 t354 t357 t358 t365 t366 true)) else (laws_FnLinesOfBooks.j0 k t352 t353 t354 t357 t358 t365 t366 true))) else (laws_FnLinesOfBooks.j0 k t352 t353 t354 t357 t358 t365 t366 true)) = some r := H
    have A11 := Aside0.mk A110
    clear A110
    have HC12 := Aside0.mk H
    clear H
    go_enter Try.func7, Try.ntmps7
    go_upto_region 11 with (first | ((with_reducible refine gate_callee (f := 28) rfl ?_); refine goesL_ (some 31) rfl rfl Try.func28 (by kernel_rfl) rfl #[.slice A0 l0.length c0] rfl (by (try simp only [List.map_toArray, List.map_cons, List.map_nil]); first | done | rfl | (simp only [List.length_drop, List.length_take]; rfl)) ?_; (with_reducible refine (laws_big.calls _ _ l0 false _ ?side1 ?side2 A2.out).mono ?_); (case side1 => repeat (first | exact HR0.out | (with_reducible refine Kd.C_alloc ?_ _) | (with_reducible refine Kd.C_drewN ?_ _) | (with_reducible refine Kd.C_drew ?_))); (case side2 => exact HC0.out); rintro e w' ⟨rfl, ⟨nd, rfl⟩⟩; refine ⟨_, rfl, ?_⟩) | ((with_reducible refine gate_callee (f := 29) rfl ?_); refine goesL_ (some 34) rfl rfl Try.func29 (by kernel_rfl) rfl #[.slice A0 l0.length c0] rfl (by (try simp only [List.map_toArray, List.map_cons, List.map_nil]); first | done | rfl | (simp only [List.length_drop, List.length_take]; rfl)) ?_; (with_reducible refine (spec_DrawWrongBooks.calls k _ _ l0 t352 t353 t354 _ ?side1 ?side2 A4.out).mono ?_); (case side1 => repeat (first | exact HR0.out | (with_reducible refine Kd.C_alloc ?_ _) | (with_reducible refine Kd.C_drewN ?_ _) | (with_reducible refine Kd.C_drew ?_))); (case side2 => exact HC0.out); rintro e w13 ⟨v355, rfl, ho0, hb⟩; refine ⟨_, rfl, ?_⟩; have n0_ := Aside0.mk (Kd.R_lower ho0 (below_size (by repeat (first | (with_reducible first | exact HB.out | apply below_alloc | apply pw_below_drewN | apply below_drew1) | exact HB.out)))); have n1_ := Aside0.mk (below_step (by repeat (first | (with_reducible first | exact HB.out | apply below_alloc | apply pw_below_drewN | apply below_drew1) | exact HB.out)) hb); clear HB; have HO356 := n0_; have HB := n1_; clear n0_ n1_; (try clear hb); (try clear hb2); (try clear hk); (try clear hi); (try clear ho0); obtain ⟨Ao14, co14, eo14⟩ := Kd.R_slice HO356.out; subst eo14) | ((with_reducible refine gate_callee (f := 27) rfl ?_); refine goesL_ (some 42) rfl rfl Try.func27 (by kernel_rfl) rfl #[.int .i64 t352, .int .i64 t353, .slice Ao14 t354.length co14] rfl (by (try simp only [List.map_toArray, List.map_cons, List.map_nil]); first | done | rfl | (simp only [List.length_drop, List.length_take]; rfl)) ?_; (with_reducible refine (impl_WrongBooks.calls k t352 t353 _ _ t354 t357 t358 _ ?side1 ?side2 A5.out).mono ?_); (case side1 => repeat (first | exact (Kd.R_reads' HO356.out).2.2 | (with_reducible refine Kd.C_alloc ?_ _) | (with_reducible refine Kd.C_drewN ?_ _) | (with_reducible refine Kd.C_drew ?_))); (case side2 => exact (Kd.R_reads' HO356.out).2.1); rintro e w15 ⟨v359, rfl, ho0, hb⟩; refine ⟨_, rfl, ?_⟩; have n0_ := Aside0.mk (Kd.R_below (by (with_reducible repeat (first | apply Kd.R_alloc | apply Kd.R_drewN | apply Kd.R_drew)); exact HO356.out) hb); have n1_ := Aside0.mk (Kd.R_lower ho0 (below_size (by repeat (first | (with_reducible first | exact HB.out | apply below_alloc | apply pw_below_drewN | apply below_drew1) | exact HB.out)))); have n2_ := Aside0.mk (below_step (by repeat (first | (with_reducible first | exact HB.out | apply below_alloc | apply pw_below_drewN | apply below_drew1) | exact HB.out)) hb); clear HO356; clear HB; have HO356 := n0_; have HO360 := n1_; have HB := n2_; clear n0_ n1_ n2_; (try clear hb); (try clear hb2); (try clear hk); (try clear hi); (try clear ho0)) | ((with_reducible refine gate_callee (f := 26) rfl ?_); refine goesL_ (some 49) rfl rfl Try.func26 (by kernel_rfl) rfl #[.int .i64 t352, .int .i64 t353, .slice Ao14 t354.length co14] rfl (by (try simp only [List.map_toArray, List.map_cons, List.map_nil]); first | done | rfl | (simp only [List.length_drop, List.length_take]; rfl)) ?_; (with_reducible refine (spec_WrongBooks.calls k t352 t353 _ _ t354 t361 t362 _ ?side1 ?side2 A6.out).mono ?_); (case side1 => repeat (first | exact (Kd.R_reads' HO356.out).2.2 | (with_reducible refine Kd.C_alloc ?_ _) | (with_reducible refine Kd.C_drewN ?_ _) | (with_reducible refine Kd.C_drew ?_))); (case side2 => exact (Kd.R_reads' HO356.out).2.1); rintro e w16 ⟨v363, rfl, ho0, hb⟩; refine ⟨_, rfl, ?_⟩; have n0_ := Aside0.mk (Kd.R_below (by (with_reducible repeat (first | apply Kd.R_alloc | apply Kd.R_drewN | apply Kd.R_drew)); exact HO356.out) hb); have n1_ := Aside0.mk (Kd.R_elder' (by (with_reducible repeat (first | apply Kd.R_alloc | apply Kd.R_drewN | apply Kd.R_drew)); exact HO360.out) (Kd.R_base ho0) hb); have n2_ := Aside0.mk (Kd.R_lower (Kd.R_new' ho0 (Kd.R_lt (by (with_reducible repeat (first | apply Kd.R_alloc | apply Kd.R_drewN | apply Kd.R_drew)); exact HO360.out))) (below_size (by repeat (first | (with_reducible first | exact HB.out | apply below_alloc | apply pw_below_drewN | apply below_drew1) | exact HB.out)))); have n3_ := Aside0.mk (below_step (by repeat (first | (with_reducible first | exact HB.out | apply below_alloc | apply pw_below_drewN | apply below_drew1) | exact HB.out)) hb); clear HO356; clear HO360; clear HB; have HO356 := n0_; have HO360 := n1_; have HO364 := n2_; have HB := n3_; clear n0_ n1_ n2_ n3_; (try clear hb); (try clear hb2); (try clear hk); (try clear hi); (try clear ho0)) | ((with_reducible refine gate_callee (f := 30) rfl ?_); refine goesL_ (some 56) rfl rfl Try.func30 (by kernel_rfl) rfl #[.int .i64 t352, .int .i64 t353, .slice Ao14 t354.length co14] rfl (by (try simp only [List.map_toArray, List.map_cons, List.map_nil]); first | done | rfl | (simp only [List.length_drop, List.length_take]; rfl)) ?_; (with_reducible refine (impl_BusiestStation.calls t352 t353 _ _ t354 t365 t366 t367 _ ?side1 ?side2 A7.out).mono ?_); (case side1 => repeat (first | exact (Kd.R_reads' HO356.out).2.2 | (with_reducible refine Kd.C_alloc ?_ _) | (with_reducible refine Kd.C_drewN ?_ _) | (with_reducible refine Kd.C_drew ?_))); (case side2 => exact (Kd.R_reads' HO356.out).2.1); rintro e w17 ⟨rfl, hb⟩; refine ⟨_, rfl, ?_⟩; have n0_ := Aside0.mk (Kd.R_below (by (with_reducible repeat (first | apply Kd.R_alloc | apply Kd.R_drewN | apply Kd.R_drew)); exact HO356.out) hb); have n1_ := Aside0.mk (Kd.R_below (by (with_reducible repeat (first | apply Kd.R_alloc | apply Kd.R_drewN | apply Kd.R_drew)); exact HO360.out) hb); have n2_ := Aside0.mk (Kd.R_below (by (with_reducible repeat (first | apply Kd.R_alloc | apply Kd.R_drewN | apply Kd.R_drew)); exact HO364.out) hb); have n3_ := Aside0.mk (below_step (by repeat (first | (with_reducible first | exact HB.out | apply below_alloc | apply pw_below_drewN | apply below_drew1) | exact HB.out)) hb); clear HO356; clear HO360; clear HO364; clear HB; have HO356 := n0_; have HO360 := n1_; have HO364 := n2_; have HB := n3_; clear n0_ n1_ n2_ n3_; (try clear hb); (try clear hb2); (try clear hk); (try clear hi)) | ((with_reducible refine gate_callee (f := 31) rfl ?_); refine goesL_ (some 64) rfl rfl Try.func31 (by kernel_rfl) rfl #[.int .i64 t352, .int .i64 t353, .slice Ao14 t354.length co14] rfl (by (try simp only [List.map_toArray, List.map_cons, List.map_nil]); first | done | rfl | (simp only [List.length_drop, List.length_take]; rfl)) ?_; (with_reducible refine (spec_BusiestStation.calls k t352 t353 _ _ t354 t368 t369 t370 _ ?side1 ?side2 A8.out).mono ?_); (case side1 => repeat (first | exact (Kd.R_reads' HO356.out).2.2 | (with_reducible refine Kd.C_alloc ?_ _) | (with_reducible refine Kd.C_drewN ?_ _) | (with_reducible refine Kd.C_drew ?_))); (case side2 => exact (Kd.R_reads' HO356.out).2.1); rintro e w18 ⟨rfl, hb⟩; refine ⟨_, rfl, ?_⟩; have n0_ := Aside0.mk (Kd.R_below (by (with_reducible repeat (first | apply Kd.R_alloc | apply Kd.R_drewN | apply Kd.R_drew)); exact HO356.out) hb); have n1_ := Aside0.mk (Kd.R_below (by (with_reducible repeat (first | apply Kd.R_alloc | apply Kd.R_drewN | apply Kd.R_drew)); exact HO360.out) hb); have n2_ := Aside0.mk (Kd.R_below (by (with_reducible repeat (first | apply Kd.R_alloc | apply Kd.R_drewN | apply Kd.R_drew)); exact HO364.out) hb); have n3_ := Aside0.mk (below_step (by repeat (first | (with_reducible first | exact HB.out | apply below_alloc | apply pw_below_drewN | apply below_drew1) | exact HB.out)) hb); clear HO356; clear HO360; clear HO364; clear HB; have HO356 := n0_; have HO360 := n1_; have HO364 := n2_; have HB := n3_; clear n0_ n1_ n2_ n3_; (try clear hb); (try clear hb2); (try clear hk); (try clear hi)) | ((with_reducible refine gate_callee (f := 32) rfl ?_); refine goesL_ (some 69) rfl rfl Try.func32 (by kernel_rfl) rfl #[.slice A0 l0.length c0] rfl (by (try simp only [List.map_toArray, List.map_cons, List.map_nil]); first | done | rfl | (simp only [List.length_drop, List.length_take]; rfl)) ?_; (with_reducible refine (spec_DrawRightBlock.calls k _ _ l0 t371 _ ?side1 ?side2 A9.out).mono ?_); (case side1 => repeat (first | exact (Kd.C_below HR0.out HB.out) | (with_reducible refine Kd.C_alloc ?_ _) | (with_reducible refine Kd.C_drewN ?_ _) | (with_reducible refine Kd.C_drew ?_))); (case side2 => exact HC0.out); rintro e w19 ⟨rfl, hb⟩; refine ⟨_, rfl, ?_⟩; have n0_ := Aside0.mk (Kd.R_below (by (with_reducible repeat (first | apply Kd.R_alloc | apply Kd.R_drewN | apply Kd.R_drew)); exact HO356.out) hb); have n1_ := Aside0.mk (Kd.R_below (by (with_reducible repeat (first | apply Kd.R_alloc | apply Kd.R_drewN | apply Kd.R_drew)); exact HO360.out) hb); have n2_ := Aside0.mk (Kd.R_below (by (with_reducible repeat (first | apply Kd.R_alloc | apply Kd.R_drewN | apply Kd.R_drew)); exact HO364.out) hb); have n3_ := Aside0.mk (below_step (by repeat (first | (with_reducible first | exact HB.out | apply below_alloc | apply pw_below_drewN | apply below_drew1) | exact HB.out)) hb); clear HO356; clear HO360; clear HO364; clear HB; have HO356 := n0_; have HO360 := n1_; have HO364 := n2_; have HB := n3_; clear n0_ n1_ n2_ n3_; (try clear hb); (try clear hb2); (try clear hk); (try clear hi)) | ((with_reducible refine gate_callee (f := 33) rfl ?_); refine goesL_ (some 72) rfl rfl Try.func33 (by kernel_rfl) rfl #[.int .i64 t371] rfl (by (try simp only [List.map_toArray, List.map_cons, List.map_nil]); first | done | rfl | (simp only [List.length_drop, List.length_take]; rfl)) ?_; (with_reducible refine (impl_RightBlock.calls k t371 t372 t373 _ A10.out).mono ?_); rintro e w20 ⟨v374, rfl, ho0, hb⟩; refine ⟨_, rfl, ?_⟩; have n0_ := Aside0.mk (Kd.R_below (by (with_reducible repeat (first | apply Kd.R_alloc | apply Kd.R_drewN | apply Kd.R_drew)); exact HO356.out) hb); have n1_ := Aside0.mk (Kd.R_elder' (by (with_reducible repeat (first | apply Kd.R_alloc | apply Kd.R_drewN | apply Kd.R_drew)); exact HO360.out) (Kd.R_base ho0) hb); have n2_ := Aside0.mk (Kd.R_elder' (by (with_reducible repeat (first | apply Kd.R_alloc | apply Kd.R_drewN | apply Kd.R_drew)); exact HO364.out) (Kd.R_base ho0) hb); have n3_ := Aside0.mk (Kd.R_lower (Kd.R_new' (Kd.R_new' ho0 (Kd.R_lt (by (with_reducible repeat (first | apply Kd.R_alloc | apply Kd.R_drewN | apply Kd.R_drew)); exact HO360.out))) (Kd.R_lt (by (with_reducible repeat (first | apply Kd.R_alloc | apply Kd.R_drewN | apply Kd.R_drew)); exact HO364.out))) (below_size (by repeat (first | (with_reducible first | exact HB.out | apply below_alloc | apply pw_below_drewN | apply below_drew1) | exact HB.out)))); have n4_ := Aside0.mk (below_step (by repeat (first | (with_reducible first | exact HB.out | apply below_alloc | apply pw_below_drewN | apply below_drew1) | exact HB.out)) hb); clear HO356; clear HO360; clear HO364; clear HB; have HO356 := n0_; have HO360 := n1_; have HO364 := n2_; have HO375 := n3_; have HB := n4_; clear n0_ n1_ n2_ n3_ n4_; (try clear hb); (try clear hb2); (try clear hk); (try clear hi); (try clear ho0)) | ((with_reducible refine gate_callee (f := 34) rfl ?_); refine goesL_ (some 77) rfl rfl Try.func34 (by kernel_rfl) rfl #[.int .i64 t371] rfl (by (try simp only [List.map_toArray, List.map_cons, List.map_nil]); first | done | rfl | (simp only [List.length_drop, List.length_take]; rfl)) ?_; (with_reducible refine (spec_RightBlock.calls k t371 t376 t377 _ A11.out).mono ?_); rintro e w21 ⟨v378, rfl, ho0, hb⟩; refine ⟨_, rfl, ?_⟩; have n0_ := Aside0.mk (Kd.R_below (by (with_reducible repeat (first | apply Kd.R_alloc | apply Kd.R_drewN | apply Kd.R_drew)); exact HO356.out) hb); have n1_ := Aside0.mk (Kd.R_elder' (by (with_reducible repeat (first | apply Kd.R_alloc | apply Kd.R_drewN | apply Kd.R_drew)); exact HO360.out) (Kd.R_base ho0) hb); have n2_ := Aside0.mk (Kd.R_elder' (by (with_reducible repeat (first | apply Kd.R_alloc | apply Kd.R_drewN | apply Kd.R_drew)); exact HO364.out) (Kd.R_base ho0) hb); have n3_ := Aside0.mk (Kd.R_elder' (by (with_reducible repeat (first | apply Kd.R_alloc | apply Kd.R_drewN | apply Kd.R_drew)); exact HO375.out) (Kd.R_base ho0) hb); have n4_ := Aside0.mk (Kd.R_lower (Kd.R_new' (Kd.R_new' (Kd.R_new' ho0 (Kd.R_lt (by (with_reducible repeat (first | apply Kd.R_alloc | apply Kd.R_drewN | apply Kd.R_drew)); exact HO360.out))) (Kd.R_lt (by (with_reducible repeat (first | apply Kd.R_alloc | apply Kd.R_drewN | apply Kd.R_drew)); exact HO364.out))) (Kd.R_lt (by (with_reducible repeat (first | apply Kd.R_alloc | apply Kd.R_drewN | apply Kd.R_drew)); exact HO375.out))) (below_size (by repeat (first | (with_reducible first | exact HB.out | apply below_alloc | apply pw_below_drewN | apply below_drew1) | exact HB.out)))); have n5_ := Aside0.mk (below_step (by repeat (first | (with_reducible first | exact HB.out | apply below_alloc | apply pw_below_drewN | apply below_drew1) | exact HB.out)) hb); clear HO356; clear HO360; clear HO364; clear HO375; clear HB; have HO356 := n0_; have HO360 := n1_; have HO364 := n2_; have HO375 := n3_; have HO379 := n4_; have HB := n5_; clear n0_ n1_ n2_ n3_ n4_ n5_; (try clear hb); (try clear hb2); (try clear hk); (try clear hi); (try clear ho0)))
    (try simp only [Act.put, List.setIfInBounds_toArray, List.set_cons_zero, List.set_cons_succ])
    go_cut [123] (fun v123 wc => ∃ (kq : Nat) (x123_11 : Bool), v123 = .bool x123_11 ∧ Aside0 (laws_FnLinesOfBooks.j0 kq t352 t353 t354 t357 t358 t365 t366 x123_11 = some r) ∧ Aside0 (kq ≤ k) ∧ Aside0 (Kd.R k54 54 wc w.heap.size (fun _ => True) (.slice Ao14 t354.length co14) t354) ∧ Aside0 (Kd.R (Kd.int .i64) 2 wc w.heap.size (fun _ => True) v359 t357) ∧ Aside0 (Below w.heap.size w wc))
    case first =>
      have H := HC12.out
      clear HC12
      by_cases c22 : t358 = t362
      · rw [if_pos c22] at H
        have c22b0 : (t358 == t362) = true := beq_iff_eq.mpr c22
        have c22b1 : (t358 != t362) = false := bne_eq_false_iff_eq.mpr c22
        clear c22
        (first | rw [c22b0] | (simp only [i64_w, i32_w]; rw [c22b0]) | skip)
        replace H := Option.bind_eq_some_iff.mp H
        obtain ⟨t380, A230, H⟩ := H
        replace H : (if t380 = true then (if t367 = t370 then (if t365 = t368 then (if t366 = t369 then (if t373 = t377 then ((laws_likeInts.f k t372 t376).bind fun t381 => (if t381 = true then ((impl_AreFaults.f t352 t353 t354).bind fun t382 => (laws_FnLinesOfBooks.j0 k t352 t353 t354 t357 t358 t365 t366 (t382 != (t362 == 0)))) else (laws_FnLinesOfBooks.j0 k t352 t353 t354 t357 t358 t365 t366 true))) else (laws_FnLinesOfBooks.j0 k t352 t353 t354 t357 t358 t365 t366 true)) else (laws_FnLinesOfBooks.j0 k t352 t353 t354 t357 t358 t365 t366 true)) else (laws_FnLinesOfBooks.j0 k t352 t353 t354 t357 t358 t365 t366 true)) else (laws_FnLinesOfBooks.j0 k t352 t353 t354 t357 t358 t365 t366 true)) else (laws_FnLinesOfBooks.j0 k t352 t353 t354 t357 t358 t365 t366 true)) = some r := H
        have A23 := Aside0.mk A230
        clear A230
        by_cases c24 : t380 = true
        · subst c24
          have H1 : (if t367 = t370 then (if t365 = t368 then (if t366 = t369 then (if t373 = t377 then ((laws_likeInts.f k t372 t376).bind fun t381 => (if t381 = true then ((impl_AreFaults.f t352 t353 t354).bind fun t382 => (laws_FnLinesOfBooks.j0 k t352 t353 t354 t357 t358 t365 t366 (t382 != (t362 == 0)))) else (laws_FnLinesOfBooks.j0 k t352 t353 t354 t357 t358 t365 t366 true))) else (laws_FnLinesOfBooks.j0 k t352 t353 t354 t357 t358 t365 t366 true)) else (laws_FnLinesOfBooks.j0 k t352 t353 t354 t357 t358 t365 t366 true)) else (laws_FnLinesOfBooks.j0 k t352 t353 t354 t357 t358 t365 t366 true)) else (laws_FnLinesOfBooks.j0 k t352 t353 t354 t357 t358 t365 t366 true)) = some r := by rw [if_pos rfl] at H; exact H
          clear H
          have H := H1
          clear H1
          by_cases c25 : t367 = t370
          · rw [if_pos c25] at H
            have c25b0 : (t367 == t370) = true := beq_iff_eq.mpr c25
            have c25b1 : (t367 != t370) = false := bne_eq_false_iff_eq.mpr c25
            clear c25
            by_cases c26 : t365 = t368
            · rw [if_pos c26] at H
              have c26b0 : (t365 == t368) = true := beq_iff_eq.mpr c26
              have c26b1 : (t365 != t368) = false := bne_eq_false_iff_eq.mpr c26
              clear c26
              by_cases c27 : t366 = t369
              · rw [if_pos c27] at H
                have c27b0 : (t366 == t369) = true := beq_iff_eq.mpr c27
                have c27b1 : (t366 != t369) = false := bne_eq_false_iff_eq.mpr c27
                clear c27
                by_cases c28 : t373 = t377
                · rw [if_pos c28] at H
                  have c28b0 : (t373 == t377) = true := beq_iff_eq.mpr c28
                  have c28b1 : (t373 != t377) = false := bne_eq_false_iff_eq.mpr c28
                  clear c28
                  replace H := Option.bind_eq_some_iff.mp H
                  obtain ⟨t381, A290, H⟩ := H
                  replace H : (if t381 = true then ((impl_AreFaults.f t352 t353 t354).bind fun t382 => (laws_FnLinesOfBooks.j0 k t352 t353 t354 t357 t358 t365 t366 (t382 != (t362 == 0)))) else (laws_FnLinesOfBooks.j0 k t352 t353 t354 t357 t358 t365 t366 true)) = some r := H
                  have A29 := Aside0.mk A290
                  clear A290
                  by_cases c30 : t381 = true
                  · subst c30
                    have H1 : ((impl_AreFaults.f t352 t353 t354).bind fun t382 => (laws_FnLinesOfBooks.j0 k t352 t353 t354 t357 t358 t365 t366 (t382 != (t362 == 0)))) = some r := by rw [if_pos rfl] at H; exact H
                    clear H
                    have H := H1
                    clear H1
                    replace H := Option.bind_eq_some_iff.mp H
                    obtain ⟨t382, A310, H⟩ := H
                    replace H : (laws_FnLinesOfBooks.j0 k t352 t353 t354 t357 t358 t365 t366 (t382 != (t362 == 0))) = some r := H
                    have A31 := Aside0.mk A310
                    clear A310
                    have H' := Aside0.mk H
                    clear H
                    obtain ⟨Ao32, co32, eo32⟩ := Kd.R_slice HO360.out
                    subst eo32
                    obtain ⟨Ao33, co33, eo33⟩ := Kd.R_slice HO364.out
                    subst eo33
                    go_wp2_with (first | (go_at_call 35; (with_reducible refine (laws_likeInts.calls k _ _ t357 _ _ t361 true _ ?side1 ?side2 ?side3 ?side4 A23.out).mono ?_); (case side1 => repeat (first | exact (Kd.R_reads' HO360.out).2.2 | (with_reducible refine Kd.C_alloc ?_ _) | (with_reducible refine Kd.C_drewN ?_ _) | (with_reducible refine Kd.C_drew ?_))); (case side2 => exact (Kd.R_reads' HO360.out).2.1); (case side3 => repeat (first | exact (Kd.R_reads' HO364.out).2.2 | (with_reducible refine Kd.C_alloc ?_ _) | (with_reducible refine Kd.C_drewN ?_ _) | (with_reducible refine Kd.C_drew ?_))); (case side4 => exact (Kd.R_reads' HO364.out).2.1); rintro e w' ⟨rfl, ⟨nd, rfl⟩⟩; obtain ⟨Ao34, co34, eo34⟩ := Kd.R_slice HO375.out; subst eo34; obtain ⟨Ao35, co35, eo35⟩ := Kd.R_slice HO379.out; subst eo35) | (go_at_call 35; (with_reducible refine (laws_likeInts.calls k _ _ t372 _ _ t376 true _ ?side1 ?side2 ?side3 ?side4 A29.out).mono ?_); (case side1 => repeat (first | exact (Kd.R_reads' HO375.out).2.2 | (with_reducible refine Kd.C_alloc ?_ _) | (with_reducible refine Kd.C_drewN ?_ _) | (with_reducible refine Kd.C_drew ?_))); (case side2 => exact (Kd.R_reads' HO375.out).2.1); (case side3 => repeat (first | exact (Kd.R_reads' HO379.out).2.2 | (with_reducible refine Kd.C_alloc ?_ _) | (with_reducible refine Kd.C_drewN ?_ _) | (with_reducible refine Kd.C_drew ?_))); (case side4 => exact (Kd.R_reads' HO379.out).2.1); rintro e w' ⟨rfl, ⟨nd, rfl⟩⟩) | (go_at_call 36; (with_reducible refine (impl_AreFaults.calls t352 t353 _ _ t354 t382 _ ?side1 ?side2 A31.out).mono ?_); (case side1 => repeat (first | exact (Kd.R_reads' HO356.out).2.2 | (with_reducible refine Kd.C_alloc ?_ _) | (with_reducible refine Kd.C_drewN ?_ _) | (with_reducible refine Kd.C_drew ?_))); (case side2 => exact (Kd.R_reads' HO356.out).2.1); rintro e w36 ⟨rfl, hb⟩; have n0_ := Aside0.mk (Kd.R_below (by (with_reducible repeat (first | apply Kd.R_alloc | apply Kd.R_drewN | apply Kd.R_drew)); exact HO356.out) hb); have n1_ := Aside0.mk (Kd.R_below (by (with_reducible repeat (first | apply Kd.R_alloc | apply Kd.R_drewN | apply Kd.R_drew)); exact HO360.out) hb); have n2_ := Aside0.mk (Kd.R_below (by (with_reducible repeat (first | apply Kd.R_alloc | apply Kd.R_drewN | apply Kd.R_drew)); exact HO364.out) hb); have n3_ := Aside0.mk (Kd.R_below (by (with_reducible repeat (first | apply Kd.R_alloc | apply Kd.R_drewN | apply Kd.R_drew)); exact HO375.out) hb); have n4_ := Aside0.mk (Kd.R_below (by (with_reducible repeat (first | apply Kd.R_alloc | apply Kd.R_drewN | apply Kd.R_drew)); exact HO379.out) hb); have n5_ := Aside0.mk (below_step (by repeat (first | (with_reducible first | exact HB.out | apply below_alloc | apply pw_below_drewN | apply below_drew1) | exact HB.out)) hb); clear HO356; clear HO360; clear HO364; clear HO375; clear HO379; clear HB; have HO356 := n0_; have HO360 := n1_; have HO364 := n2_; have HO375 := n3_; have HO379 := n4_; have HB := n5_; clear n0_ n1_ n2_ n3_ n4_ n5_; (try clear hb); (try clear hb2); (try clear hk); (try clear hi)))
                    go_meet
                    case rel => exact ⟨_, ((t382 != (t362 == 0))), (by first | rfl | (simp; done) | (simp [*]; done)), H', ⟨by first | omega | exact Nat.le_refl _⟩, ⟨by (with_reducible repeat (first | apply Kd.R_alloc | apply Kd.R_drewN | apply Kd.R_drew)); exact HO356.out⟩, ⟨by (with_reducible repeat (first | apply Kd.R_alloc | apply Kd.R_drewN | apply Kd.R_drew)); exact Kd.R_mono HO360.out (fun _ hk => trivial)⟩, ⟨by repeat (first | (with_reducible first | exact HB.out | apply below_alloc | apply pw_below_drewN | apply below_drew1) | exact HB.out)⟩⟩
                  · replace c30 := Bool.eq_false_iff.mpr c30
                    subst c30
                    have H1 : (laws_FnLinesOfBooks.j0 k t352 t353 t354 t357 t358 t365 t366 true) = some r := by rw [if_neg (show ¬ (false = true) by decide)] at H; exact H
                    clear H
                    have H := H1
                    clear H1
                    have H' := Aside0.mk H
                    clear H
                    obtain ⟨Ao37, co37, eo37⟩ := Kd.R_slice HO360.out
                    subst eo37
                    obtain ⟨Ao38, co38, eo38⟩ := Kd.R_slice HO364.out
                    subst eo38
                    go_wp2_with (first | (go_at_call 35; (with_reducible refine (laws_likeInts.calls k _ _ t357 _ _ t361 true _ ?side1 ?side2 ?side3 ?side4 A23.out).mono ?_); (case side1 => repeat (first | exact (Kd.R_reads' HO360.out).2.2 | (with_reducible refine Kd.C_alloc ?_ _) | (with_reducible refine Kd.C_drewN ?_ _) | (with_reducible refine Kd.C_drew ?_))); (case side2 => exact (Kd.R_reads' HO360.out).2.1); (case side3 => repeat (first | exact (Kd.R_reads' HO364.out).2.2 | (with_reducible refine Kd.C_alloc ?_ _) | (with_reducible refine Kd.C_drewN ?_ _) | (with_reducible refine Kd.C_drew ?_))); (case side4 => exact (Kd.R_reads' HO364.out).2.1); rintro e w' ⟨rfl, ⟨nd, rfl⟩⟩; obtain ⟨Ao39, co39, eo39⟩ := Kd.R_slice HO375.out; subst eo39; obtain ⟨Ao40, co40, eo40⟩ := Kd.R_slice HO379.out; subst eo40) | (go_at_call 35; (with_reducible refine (laws_likeInts.calls k _ _ t372 _ _ t376 false _ ?side1 ?side2 ?side3 ?side4 A29.out).mono ?_); (case side1 => repeat (first | exact (Kd.R_reads' HO375.out).2.2 | (with_reducible refine Kd.C_alloc ?_ _) | (with_reducible refine Kd.C_drewN ?_ _) | (with_reducible refine Kd.C_drew ?_))); (case side2 => exact (Kd.R_reads' HO375.out).2.1); (case side3 => repeat (first | exact (Kd.R_reads' HO379.out).2.2 | (with_reducible refine Kd.C_alloc ?_ _) | (with_reducible refine Kd.C_drewN ?_ _) | (with_reducible refine Kd.C_drew ?_))); (case side4 => exact (Kd.R_reads' HO379.out).2.1); rintro e w' ⟨rfl, ⟨nd, rfl⟩⟩))
                    go_meet
                    case rel => exact ⟨_, (true), (by first | rfl | (simp; done) | (simp [*]; done)), H', ⟨by first | omega | exact Nat.le_refl _⟩, ⟨by (with_reducible repeat (first | apply Kd.R_alloc | apply Kd.R_drewN | apply Kd.R_drew)); exact HO356.out⟩, ⟨by (with_reducible repeat (first | apply Kd.R_alloc | apply Kd.R_drewN | apply Kd.R_drew)); exact Kd.R_mono HO360.out (fun _ hk => trivial)⟩, ⟨by repeat (first | (with_reducible first | exact HB.out | apply below_alloc | apply pw_below_drewN | apply below_drew1) | exact HB.out)⟩⟩
                · rw [if_neg c28] at H
                  have c28b0 : (t373 == t377) = false := beq_eq_false_iff_ne.mpr c28
                  have c28b1 : (t373 != t377) = true := bne_iff_ne.mpr c28
                  have H' := Aside0.mk H
                  clear H
                  obtain ⟨Ao41, co41, eo41⟩ := Kd.R_slice HO360.out
                  subst eo41
                  obtain ⟨Ao42, co42, eo42⟩ := Kd.R_slice HO364.out
                  subst eo42
                  go_wp2_with (first | (go_at_call 35; (with_reducible refine (laws_likeInts.calls k _ _ t357 _ _ t361 true _ ?side1 ?side2 ?side3 ?side4 A23.out).mono ?_); (case side1 => repeat (first | exact (Kd.R_reads' HO360.out).2.2 | (with_reducible refine Kd.C_alloc ?_ _) | (with_reducible refine Kd.C_drewN ?_ _) | (with_reducible refine Kd.C_drew ?_))); (case side2 => exact (Kd.R_reads' HO360.out).2.1); (case side3 => repeat (first | exact (Kd.R_reads' HO364.out).2.2 | (with_reducible refine Kd.C_alloc ?_ _) | (with_reducible refine Kd.C_drewN ?_ _) | (with_reducible refine Kd.C_drew ?_))); (case side4 => exact (Kd.R_reads' HO364.out).2.1); rintro e w' ⟨rfl, ⟨nd, rfl⟩⟩))
                  go_meet
                  case rel => exact ⟨_, (true), (by first | rfl | (simp; done) | (simp [*]; done)), H', ⟨by first | omega | exact Nat.le_refl _⟩, ⟨by (with_reducible repeat (first | apply Kd.R_alloc | apply Kd.R_drewN | apply Kd.R_drew)); exact HO356.out⟩, ⟨by (with_reducible repeat (first | apply Kd.R_alloc | apply Kd.R_drewN | apply Kd.R_drew)); exact Kd.R_mono HO360.out (fun _ hk => trivial)⟩, ⟨by repeat (first | (with_reducible first | exact HB.out | apply below_alloc | apply pw_below_drewN | apply below_drew1) | exact HB.out)⟩⟩
              · rw [if_neg c27] at H
                have c27b0 : (t366 == t369) = false := beq_eq_false_iff_ne.mpr c27
                have c27b1 : (t366 != t369) = true := bne_iff_ne.mpr c27
                have H' := Aside0.mk H
                clear H
                obtain ⟨Ao43, co43, eo43⟩ := Kd.R_slice HO360.out
                subst eo43
                obtain ⟨Ao44, co44, eo44⟩ := Kd.R_slice HO364.out
                subst eo44
                go_wp2_with (first | (go_at_call 35; (with_reducible refine (laws_likeInts.calls k _ _ t357 _ _ t361 true _ ?side1 ?side2 ?side3 ?side4 A23.out).mono ?_); (case side1 => repeat (first | exact (Kd.R_reads' HO360.out).2.2 | (with_reducible refine Kd.C_alloc ?_ _) | (with_reducible refine Kd.C_drewN ?_ _) | (with_reducible refine Kd.C_drew ?_))); (case side2 => exact (Kd.R_reads' HO360.out).2.1); (case side3 => repeat (first | exact (Kd.R_reads' HO364.out).2.2 | (with_reducible refine Kd.C_alloc ?_ _) | (with_reducible refine Kd.C_drewN ?_ _) | (with_reducible refine Kd.C_drew ?_))); (case side4 => exact (Kd.R_reads' HO364.out).2.1); rintro e w' ⟨rfl, ⟨nd, rfl⟩⟩))
                go_meet
                case rel => exact ⟨_, (true), (by first | rfl | (simp; done) | (simp [*]; done)), H', ⟨by first | omega | exact Nat.le_refl _⟩, ⟨by (with_reducible repeat (first | apply Kd.R_alloc | apply Kd.R_drewN | apply Kd.R_drew)); exact HO356.out⟩, ⟨by (with_reducible repeat (first | apply Kd.R_alloc | apply Kd.R_drewN | apply Kd.R_drew)); exact Kd.R_mono HO360.out (fun _ hk => trivial)⟩, ⟨by repeat (first | (with_reducible first | exact HB.out | apply below_alloc | apply pw_below_drewN | apply below_drew1) | exact HB.out)⟩⟩
            · rw [if_neg c26] at H
              have c26b0 : (t365 == t368) = false := beq_eq_false_iff_ne.mpr c26
              have c26b1 : (t365 != t368) = true := bne_iff_ne.mpr c26
              have H' := Aside0.mk H
              clear H
              obtain ⟨Ao45, co45, eo45⟩ := Kd.R_slice HO360.out
              subst eo45
              obtain ⟨Ao46, co46, eo46⟩ := Kd.R_slice HO364.out
              subst eo46
              go_wp2_with (first | (go_at_call 35; (with_reducible refine (laws_likeInts.calls k _ _ t357 _ _ t361 true _ ?side1 ?side2 ?side3 ?side4 A23.out).mono ?_); (case side1 => repeat (first | exact (Kd.R_reads' HO360.out).2.2 | (with_reducible refine Kd.C_alloc ?_ _) | (with_reducible refine Kd.C_drewN ?_ _) | (with_reducible refine Kd.C_drew ?_))); (case side2 => exact (Kd.R_reads' HO360.out).2.1); (case side3 => repeat (first | exact (Kd.R_reads' HO364.out).2.2 | (with_reducible refine Kd.C_alloc ?_ _) | (with_reducible refine Kd.C_drewN ?_ _) | (with_reducible refine Kd.C_drew ?_))); (case side4 => exact (Kd.R_reads' HO364.out).2.1); rintro e w' ⟨rfl, ⟨nd, rfl⟩⟩))
              go_meet
              case rel => exact ⟨_, (true), (by first | rfl | (simp; done) | (simp [*]; done)), H', ⟨by first | omega | exact Nat.le_refl _⟩, ⟨by (with_reducible repeat (first | apply Kd.R_alloc | apply Kd.R_drewN | apply Kd.R_drew)); exact HO356.out⟩, ⟨by (with_reducible repeat (first | apply Kd.R_alloc | apply Kd.R_drewN | apply Kd.R_drew)); exact Kd.R_mono HO360.out (fun _ hk => trivial)⟩, ⟨by repeat (first | (with_reducible first | exact HB.out | apply below_alloc | apply pw_below_drewN | apply below_drew1) | exact HB.out)⟩⟩
          · rw [if_neg c25] at H
            have c25b0 : (t367 == t370) = false := beq_eq_false_iff_ne.mpr c25
            have c25b1 : (t367 != t370) = true := bne_iff_ne.mpr c25
            have H' := Aside0.mk H
            clear H
            obtain ⟨Ao47, co47, eo47⟩ := Kd.R_slice HO360.out
            subst eo47
            obtain ⟨Ao48, co48, eo48⟩ := Kd.R_slice HO364.out
            subst eo48
            go_wp2_with (first | (go_at_call 35; (with_reducible refine (laws_likeInts.calls k _ _ t357 _ _ t361 true _ ?side1 ?side2 ?side3 ?side4 A23.out).mono ?_); (case side1 => repeat (first | exact (Kd.R_reads' HO360.out).2.2 | (with_reducible refine Kd.C_alloc ?_ _) | (with_reducible refine Kd.C_drewN ?_ _) | (with_reducible refine Kd.C_drew ?_))); (case side2 => exact (Kd.R_reads' HO360.out).2.1); (case side3 => repeat (first | exact (Kd.R_reads' HO364.out).2.2 | (with_reducible refine Kd.C_alloc ?_ _) | (with_reducible refine Kd.C_drewN ?_ _) | (with_reducible refine Kd.C_drew ?_))); (case side4 => exact (Kd.R_reads' HO364.out).2.1); rintro e w' ⟨rfl, ⟨nd, rfl⟩⟩))
            go_meet
            case rel => exact ⟨_, (true), (by first | rfl | (simp; done) | (simp [*]; done)), H', ⟨by first | omega | exact Nat.le_refl _⟩, ⟨by (with_reducible repeat (first | apply Kd.R_alloc | apply Kd.R_drewN | apply Kd.R_drew)); exact HO356.out⟩, ⟨by (with_reducible repeat (first | apply Kd.R_alloc | apply Kd.R_drewN | apply Kd.R_drew)); exact Kd.R_mono HO360.out (fun _ hk => trivial)⟩, ⟨by repeat (first | (with_reducible first | exact HB.out | apply below_alloc | apply pw_below_drewN | apply below_drew1) | exact HB.out)⟩⟩
        · replace c24 := Bool.eq_false_iff.mpr c24
          subst c24
          have H1 : (laws_FnLinesOfBooks.j0 k t352 t353 t354 t357 t358 t365 t366 true) = some r := by rw [if_neg (show ¬ (false = true) by decide)] at H; exact H
          clear H
          have H := H1
          clear H1
          have H' := Aside0.mk H
          clear H
          obtain ⟨Ao49, co49, eo49⟩ := Kd.R_slice HO360.out
          subst eo49
          obtain ⟨Ao50, co50, eo50⟩ := Kd.R_slice HO364.out
          subst eo50
          go_wp2_with (first | (go_at_call 35; (with_reducible refine (laws_likeInts.calls k _ _ t357 _ _ t361 false _ ?side1 ?side2 ?side3 ?side4 A23.out).mono ?_); (case side1 => repeat (first | exact (Kd.R_reads' HO360.out).2.2 | (with_reducible refine Kd.C_alloc ?_ _) | (with_reducible refine Kd.C_drewN ?_ _) | (with_reducible refine Kd.C_drew ?_))); (case side2 => exact (Kd.R_reads' HO360.out).2.1); (case side3 => repeat (first | exact (Kd.R_reads' HO364.out).2.2 | (with_reducible refine Kd.C_alloc ?_ _) | (with_reducible refine Kd.C_drewN ?_ _) | (with_reducible refine Kd.C_drew ?_))); (case side4 => exact (Kd.R_reads' HO364.out).2.1); rintro e w' ⟨rfl, ⟨nd, rfl⟩⟩))
          go_meet
          case rel => exact ⟨_, (true), (by first | rfl | (simp; done) | (simp [*]; done)), H', ⟨by first | omega | exact Nat.le_refl _⟩, ⟨by (with_reducible repeat (first | apply Kd.R_alloc | apply Kd.R_drewN | apply Kd.R_drew)); exact HO356.out⟩, ⟨by (with_reducible repeat (first | apply Kd.R_alloc | apply Kd.R_drewN | apply Kd.R_drew)); exact Kd.R_mono HO360.out (fun _ hk => trivial)⟩, ⟨by repeat (first | (with_reducible first | exact HB.out | apply below_alloc | apply pw_below_drewN | apply below_drew1) | exact HB.out)⟩⟩
      · rw [if_neg c22] at H
        have c22b0 : (t358 == t362) = false := beq_eq_false_iff_ne.mpr c22
        have c22b1 : (t358 != t362) = true := bne_iff_ne.mpr c22
        (first | rw [c22b0] | (simp only [i64_w, i32_w]; rw [c22b0]) | skip)
        have H' := Aside0.mk H
        clear H
        go_wp2
        go_meet
        case rel => exact ⟨_, (true), (by first | rfl | (simp; done) | (simp [*]; done)), H', ⟨by first | omega | exact Nat.le_refl _⟩, ⟨by (with_reducible repeat (first | apply Kd.R_alloc | apply Kd.R_drewN | apply Kd.R_drew)); exact HO356.out⟩, ⟨by (with_reducible repeat (first | apply Kd.R_alloc | apply Kd.R_drewN | apply Kd.R_drew)); exact Kd.R_mono HO360.out (fun _ hk => trivial)⟩, ⟨by repeat (first | (with_reducible first | exact HB.out | apply below_alloc | apply pw_below_drewN | apply below_drew1) | exact HB.out)⟩⟩
    case rest =>
      clear HC12
      try clear c2
      try clear p2
      try clear c3
      try clear c7
      try clear c22
      try clear c22b0
      try clear c22b1
      try clear c24
      try clear c25
      try clear c25b0
      try clear c25b1
      try clear c26
      try clear c26b0
      try clear c26b1
      try clear c27
      try clear c27b0
      try clear c27b1
      try clear c28
      try clear c28b0
      try clear c28b1
      try clear c29
      try clear c30
      try clear c31
      try clear c32
      try clear c33
      try clear c34
      obtain ⟨kq, x123_11, rfl, HA, HJ11, HO_5, HO_6, HB⟩ := hcut
      cases kq with
      | zero => exact absurd HA.out (by simp [laws_FnLinesOfBooks.j0])
      | succ kj11 =>
        have H := HA.out
        clear HA
        simp only [laws_FnLinesOfBooks.j0] at H
        by_cases c51 : x123_11 = true
        · subst c51
          have H1 : (some false) = some r := by rw [if_pos rfl] at H; exact H
          clear H
          have H := H1
          clear H1
          obtain rfl := Option.some.inj H
          go_wp2
          go_ret
          exact ⟨by first | rfl | (simp [errW_none, errW_some] <;> rfl) | (simp [*, errW_none, errW_some] <;> rfl), by repeat (first | (with_reducible first | exact HB.out | apply below_alloc | apply pw_below_drewN | apply below_drew1) | exact HB.out)⟩
        · replace c51 := Bool.eq_false_iff.mpr c51
          subst c51
          have H1 : (if t358 = 0 then ((impl_GatherBooks.f t352 t353 t354).bind fun bt383 => ((impl_RightBlock.f kj11 t352).bind fun bt387 => (if bt383.2 = 0 then (if bt387.2 = 0 then (laws_FnLinesOfBooks.j1 kj11 t353 t354 t357 t365 t366 bt383.1 bt387.1 ((bt383.1.length : Int) != t353)) else (laws_FnLinesOfBooks.j1 kj11 t353 t354 t357 t365 t366 bt383.1 bt387.1 true)) else (laws_FnLinesOfBooks.j1 kj11 t353 t354 t357 t365 t366 bt383.1 bt387.1 true)))) else (some true)) = some r := by rw [if_neg (show ¬ (false = true) by decide)] at H; exact H
          clear H
          have H := H1
          clear H1
          by_cases c52 : t358 = 0
          · rw [if_pos c52] at H
            have c52b0 : (t358 == 0) = true := beq_iff_eq.mpr c52
            have c52b1 : (t358 != 0) = false := bne_eq_false_iff_eq.mpr c52
            clear c52
            replace H := Option.bind_eq_some_iff.mp H
            obtain ⟨⟨t383, t384⟩, A530, H⟩ := H
            replace H : ((impl_RightBlock.f kj11 t352).bind fun bt387 => (if t384 = 0 then (if bt387.2 = 0 then (laws_FnLinesOfBooks.j1 kj11 t353 t354 t357 t365 t366 t383 bt387.1 ((t383.length : Int) != t353)) else (laws_FnLinesOfBooks.j1 kj11 t353 t354 t357 t365 t366 t383 bt387.1 true)) else (laws_FnLinesOfBooks.j1 kj11 t353 t354 t357 t365 t366 t383 bt387.1 true))) = some r := H
            have A53 := Aside0.mk A530
            clear A530
            replace H := Option.bind_eq_some_iff.mp H
            obtain ⟨⟨t387, t388⟩, A540, H⟩ := H
            replace H : (if t384 = 0 then (if t388 = 0 then (laws_FnLinesOfBooks.j1 kj11 t353 t354 t357 t365 t366 t383 t387 ((t383.length : Int) != t353)) else (laws_FnLinesOfBooks.j1 kj11 t353 t354 t357 t365 t366 t383 t387 true)) else (laws_FnLinesOfBooks.j1 kj11 t353 t354 t357 t365 t366 t383 t387 true)) = some r := H
            have A54 := Aside0.mk A540
            clear A540
            have HC55 := Aside0.mk H
            clear H
            go_upto_region 17 with (first | ((with_reducible refine gate_callee (f := 20) rfl ?_); refine goesL_ (some 130) rfl rfl Try.func20 (by kernel_rfl) rfl #[.int .i64 t352, .int .i64 t353, .slice Ao14 t354.length co14] rfl (by (try simp only [List.map_toArray, List.map_cons, List.map_nil]); first | done | rfl | (simp only [List.length_drop, List.length_take]; rfl)) ?_; (with_reducible refine (impl_GatherBooks.calls t352 t353 _ _ t354 t383 t384 _ ?side1 ?side2 A53.out).mono ?_); (case side1 => repeat (first | exact (Kd.R_reads' HO_5.out).2.2 | (with_reducible refine Kd.C_alloc ?_ _) | (with_reducible refine Kd.C_drewN ?_ _) | (with_reducible refine Kd.C_drew ?_))); (case side2 => exact (Kd.R_reads' HO_5.out).2.1); rintro e w56 ⟨v385, rfl, ho0, hb⟩; refine ⟨_, rfl, ?_⟩; have n0_ := Aside0.mk (Kd.R_below (by (with_reducible repeat (first | apply Kd.R_alloc | apply Kd.R_drewN | apply Kd.R_drew)); exact HO_5.out) hb); have n1_ := Aside0.mk (Kd.R_below (by (with_reducible repeat (first | apply Kd.R_alloc | apply Kd.R_drewN | apply Kd.R_drew)); exact HO_6.out) hb); have n2_ := Aside0.mk (Kd.S_lower (Kd.S_new' ho0 (Kd.R_lt (by (with_reducible repeat (first | apply Kd.R_alloc | apply Kd.R_drewN | apply Kd.R_drew)); exact HO_6.out))) (below_size (by repeat (first | (with_reducible first | exact HB.out | apply below_alloc | apply pw_below_drewN | apply below_drew1) | exact HB.out)))); have n3_ := Aside0.mk (below_step (by repeat (first | (with_reducible first | exact HB.out | apply below_alloc | apply pw_below_drewN | apply below_drew1) | exact HB.out)) hb); clear HO_5; clear HO_6; clear HB; have HO_5 := n0_; have HO_6 := n1_; have HO386 := n2_; have HB := n3_; clear n0_ n1_ n2_ n3_; (try clear hb); (try clear hb2); (try clear hk); (try clear hi); (try clear ho0)) | ((with_reducible refine gate_callee (f := 33) rfl ?_); refine goesL_ (some 135) rfl rfl Try.func33 (by kernel_rfl) rfl #[.int .i64 t352] rfl (by (try simp only [List.map_toArray, List.map_cons, List.map_nil]); first | done | rfl | (simp only [List.length_drop, List.length_take]; rfl)) ?_; (with_reducible refine (impl_RightBlock.calls kj11 t352 t387 t388 _ A54.out).mono ?_); rintro e w57 ⟨v389, rfl, ho0, hb⟩; refine ⟨_, rfl, ?_⟩; have n0_ := Aside0.mk (Kd.R_below (by (with_reducible repeat (first | apply Kd.R_alloc | apply Kd.R_drewN | apply Kd.R_drew)); exact HO_5.out) hb); have n1_ := Aside0.mk (Kd.R_elder' (by (with_reducible repeat (first | apply Kd.R_alloc | apply Kd.R_drewN | apply Kd.R_drew)); exact HO_6.out) (Kd.R_base ho0) hb); have n2_ := Aside0.mk (Kd.S_elder' (by (with_reducible repeat (first | apply Kd.S_alloc | apply Kd.S_drewN | apply Kd.S_drew)); exact HO386.out) (Kd.R_base ho0) hb); have n3_ := Aside0.mk (Kd.R_lower (Kd.R_new' ho0 (Kd.R_lt (by (with_reducible repeat (first | apply Kd.R_alloc | apply Kd.R_drewN | apply Kd.R_drew)); exact HO_6.out))) (below_size (by repeat (first | (with_reducible first | exact HB.out | apply below_alloc | apply pw_below_drewN | apply below_drew1) | exact HB.out)))); have n4_ := Aside0.mk (below_step (by repeat (first | (with_reducible first | exact HB.out | apply below_alloc | apply pw_below_drewN | apply below_drew1) | exact HB.out)) hb); clear HO_5; clear HO_6; clear HO386; clear HB; have HO_5 := n0_; have HO_6 := n1_; have HO386 := n2_; have HO390 := n3_; have HB := n4_; clear n0_ n1_ n2_ n3_ n4_; (try clear hb); (try clear hb2); (try clear hk); (try clear hi); (try clear ho0)))
            (try simp only [Act.put, List.setIfInBounds_toArray, List.set_cons_zero, List.set_cons_succ])
            go_cut [149] (fun v149 wc => ∃ (kq : Nat) (x149_54 : Bool), v149 = .bool x149_54 ∧ Aside0 (laws_FnLinesOfBooks.j1 kq t353 t354 t357 t365 t366 t383 t387 x149_54 = some r) ∧ Aside0 (kq ≤ kj11) ∧ Aside0 (Kd.R k54 54 wc w.heap.size (fun _ => True) (.slice Ao14 t354.length co14) t354) ∧ Aside0 (Kd.R (Kd.int .i64) 2 wc w.heap.size (fun k_ => some k_ ≠ (v389 : Value).ownBlock) v359 t357) ∧ Aside0 (Kd.S (Kd.slice 2 (Kd.int .i64)) 22 wc w.heap.size (fun k_ => some k_ ≠ (v359 : Value).ownBlock ∧ some k_ ≠ (v389 : Value).ownBlock) v385 t383) ∧ Aside0 (Kd.R (Kd.int .i64) 2 wc w.heap.size (fun k_ => some k_ ≠ (v359 : Value).ownBlock) v389 t387) ∧ Aside0 (Below w.heap.size w wc))
            case first =>
              have H := HC55.out
              clear HC55
              by_cases c58 : t384 = 0
              · rw [if_pos c58] at H
                have c58b0 : (t384 == 0) = true := beq_iff_eq.mpr c58
                have c58b1 : (t384 != 0) = false := bne_eq_false_iff_eq.mpr c58
                clear c58
                (first | rw [c58b0] | (simp only [i64_w, i32_w]; rw [c58b0]) | skip)
                by_cases c59 : t388 = 0
                · rw [if_pos c59] at H
                  have c59b0 : (t388 == 0) = true := beq_iff_eq.mpr c59
                  have c59b1 : (t388 != 0) = false := bne_eq_false_iff_eq.mpr c59
                  clear c59
                  have H' := Aside0.mk H
                  clear H
                  obtain ⟨Ao60, co60, eo60⟩ := Kd.S_slice HO386.out
                  subst eo60
                  go_wp2
                  go_meet
                  case rel => exact ⟨_, (((t383.length : Int) != t353)), (by first | rfl | (simp; done) | (simp [*]; done)), H', ⟨by have := HJ11.out; first | omega | exact Nat.le_refl _⟩, ⟨by (with_reducible repeat (first | apply Kd.R_alloc | apply Kd.R_drewN | apply Kd.R_drew)); exact HO_5.out⟩, ⟨by (with_reducible repeat (first | apply Kd.R_alloc | apply Kd.R_drewN | apply Kd.R_drew)); exact Kd.R_mono HO_6.out (fun _ hk => hk.2)⟩, ⟨by (with_reducible repeat (first | apply Kd.S_alloc | apply Kd.S_drewN | apply Kd.S_drew)); exact Kd.S_mono HO386.out (fun _ hk => ⟨hk.1.2, hk.2⟩)⟩, ⟨by (with_reducible repeat (first | apply Kd.R_alloc | apply Kd.R_drewN | apply Kd.R_drew)); exact Kd.R_mono HO390.out (fun _ hk => hk.2)⟩, ⟨by repeat (first | (with_reducible first | exact HB.out | apply below_alloc | apply pw_below_drewN | apply below_drew1) | exact HB.out)⟩⟩
                · rw [if_neg c59] at H
                  have c59b0 : (t388 == 0) = false := beq_eq_false_iff_ne.mpr c59
                  have c59b1 : (t388 != 0) = true := bne_iff_ne.mpr c59
                  have H' := Aside0.mk H
                  clear H
                  go_wp2
                  go_meet
                  case rel => exact ⟨_, (true), (by first | rfl | (simp; done) | (simp [*]; done)), H', ⟨by have := HJ11.out; first | omega | exact Nat.le_refl _⟩, ⟨by (with_reducible repeat (first | apply Kd.R_alloc | apply Kd.R_drewN | apply Kd.R_drew)); exact HO_5.out⟩, ⟨by (with_reducible repeat (first | apply Kd.R_alloc | apply Kd.R_drewN | apply Kd.R_drew)); exact Kd.R_mono HO_6.out (fun _ hk => hk.2)⟩, ⟨by (with_reducible repeat (first | apply Kd.S_alloc | apply Kd.S_drewN | apply Kd.S_drew)); exact Kd.S_mono HO386.out (fun _ hk => ⟨hk.1.2, hk.2⟩)⟩, ⟨by (with_reducible repeat (first | apply Kd.R_alloc | apply Kd.R_drewN | apply Kd.R_drew)); exact Kd.R_mono HO390.out (fun _ hk => hk.2)⟩, ⟨by repeat (first | (with_reducible first | exact HB.out | apply below_alloc | apply pw_below_drewN | apply below_drew1) | exact HB.out)⟩⟩
              · rw [if_neg c58] at H
                have c58b0 : (t384 == 0) = false := beq_eq_false_iff_ne.mpr c58
                have c58b1 : (t384 != 0) = true := bne_iff_ne.mpr c58
                (first | rw [c58b0] | (simp only [i64_w, i32_w]; rw [c58b0]) | skip)
                have H' := Aside0.mk H
                clear H
                go_wp2
                go_meet
                case rel => exact ⟨_, (true), (by first | rfl | (simp; done) | (simp [*]; done)), H', ⟨by have := HJ11.out; first | omega | exact Nat.le_refl _⟩, ⟨by (with_reducible repeat (first | apply Kd.R_alloc | apply Kd.R_drewN | apply Kd.R_drew)); exact HO_5.out⟩, ⟨by (with_reducible repeat (first | apply Kd.R_alloc | apply Kd.R_drewN | apply Kd.R_drew)); exact Kd.R_mono HO_6.out (fun _ hk => hk.2)⟩, ⟨by (with_reducible repeat (first | apply Kd.S_alloc | apply Kd.S_drewN | apply Kd.S_drew)); exact Kd.S_mono HO386.out (fun _ hk => ⟨hk.1.2, hk.2⟩)⟩, ⟨by (with_reducible repeat (first | apply Kd.R_alloc | apply Kd.R_drewN | apply Kd.R_drew)); exact Kd.R_mono HO390.out (fun _ hk => hk.2)⟩, ⟨by repeat (first | (with_reducible first | exact HB.out | apply below_alloc | apply pw_below_drewN | apply below_drew1) | exact HB.out)⟩⟩
            case rest =>
              clear HC55
              try clear c2
              try clear p2
              try clear c3
              try clear c5
              try clear c7
              try clear c20
              try clear c22
              try clear c22b0
              try clear c22b1
              try clear c24
              try clear c25
              try clear c25b0
              try clear c25b1
              try clear c26
              try clear c26b0
              try clear c26b1
              try clear c27
              try clear c27b0
              try clear c27b1
              try clear c28
              try clear c28b0
              try clear c28b1
              try clear c29
              try clear c30
              try clear c31
              try clear c32
              try clear c33
              try clear c34
              try clear c51
              try clear c52
              try clear c52b0
              try clear c52b1
              try clear c58
              try clear c58b0
              try clear c58b1
              try clear c59
              try clear c59b0
              try clear c59b1
              try clear p2
              obtain ⟨kq, x149_54, rfl, HA, HJ54, HO_5, HO_6, HO_21, HO_23, HB⟩ := hcut
              cases kq with
              | zero => exact absurd HA.out (by simp [laws_FnLinesOfBooks.j1])
              | succ kj54 =>
                have H := HA.out
                clear HA
                simp only [laws_FnLinesOfBooks.j1] at H
                by_cases c61 : x149_54 = true
                · subst c61
                  have H1 : (some false) = some r := by rw [if_pos rfl] at H; exact H
                  clear H
                  have H := H1
                  clear H1
                  obtain rfl := Option.some.inj H
                  go_wp2
                  go_ret
                  exact ⟨by first | rfl | (simp [errW_none, errW_some] <;> rfl) | (simp [*, errW_none, errW_some] <;> rfl), by repeat (first | (with_reducible first | exact HB.out | apply below_alloc | apply pw_below_drewN | apply below_drew1) | exact HB.out)⟩
                · replace c61 := Bool.eq_false_iff.mpr c61
                  subst c61
                  have H1 : (laws_FnLinesOfBooks.l0 kj54 t353 t354 t357 t365 t366 t383 t387 0) = some r := by rw [if_neg (show ¬ (false = true) by decide)] at H; exact H
                  clear H
                  have H := H1
                  clear H1
                  have H' := Aside0.mk H
                  clear H
                  go_wp2
                  go_loopg [25] kj54 (fun kq v25 w' => ∃ (x25_3 : Int), v25 = .int .i64 x25_3 ∧ Aside0 (laws_FnLinesOfBooks.l0 kq t353 t354 t357 t365 t366 t383 t387 x25_3 = some r) ∧ Aside0 (kq ≤ kj54) ∧ Aside0 (Kd.R k54 54 w' w.heap.size (fun _ => True) (.slice Ao14 t354.length co14) t354) ∧ Aside0 (Kd.R (Kd.int .i64) 2 w' w.heap.size (fun k_ => some k_ ≠ (v389 : Value).ownBlock) v359 t357) ∧ Aside0 (Kd.S (Kd.slice 2 (Kd.int .i64)) 22 w' w.heap.size (fun k_ => some k_ ≠ (v359 : Value).ownBlock ∧ some k_ ≠ (v389 : Value).ownBlock) v385 t383) ∧ Aside0 (Kd.R (Kd.int .i64) 2 w' w.heap.size (fun k_ => some k_ ≠ (v359 : Value).ownBlock) v389 t387) ∧ Aside0 (Below w.heap.size w w'))
                  case atStart => exact ⟨(0), (by first | rfl | (simp; done) | (simp [*]; done)), H', ⟨Nat.le_refl _⟩, ⟨by (with_reducible repeat (first | apply Kd.R_alloc | apply Kd.R_drewN | apply Kd.R_drew)); exact HO_5.out⟩, ⟨by (with_reducible repeat (first | apply Kd.R_alloc | apply Kd.R_drewN | apply Kd.R_drew)); exact HO_6.out⟩, ⟨by (with_reducible repeat (first | apply Kd.S_alloc | apply Kd.S_drewN | apply Kd.S_drew)); exact HO_21.out⟩, ⟨by (with_reducible repeat (first | apply Kd.R_alloc | apply Kd.R_drewN | apply Kd.R_drew)); exact HO_23.out⟩, ⟨by repeat (first | (with_reducible first | exact HB.out | apply below_alloc | apply pw_below_drewN | apply below_drew1) | exact HB.out)⟩⟩
                  case round =>
                    clear H'
                    try clear c2
                    try clear p2
                    try clear c3
                    try clear c5
                    try clear c6
                    try clear c7
                    try clear c20
                    try clear c22
                    try clear c22b0
                    try clear c22b1
                    try clear c24
                    try clear c25
                    try clear c25b0
                    try clear c25b1
                    try clear c26
                    try clear c26b0
                    try clear c26b1
                    try clear c27
                    try clear c27b0
                    try clear c27b1
                    try clear c28
                    try clear c28b0
                    try clear c28b1
                    try clear c29
                    try clear c30
                    try clear c31
                    try clear c32
                    try clear c33
                    try clear c34
                    try clear c51
                    try clear c52
                    try clear c52b0
                    try clear c52b1
                    try clear c58
                    try clear c58b0
                    try clear c58b1
                    try clear c59
                    try clear c59b0
                    try clear c59b1
                    try clear c61
                    try clear p2
                    obtain ⟨x25_3, rfl, HA, HK3, HO_5, HO_6, HO_21, HO_23, HB⟩ := hrel
                    cases gk with
                    | zero => exact absurd HA.out (by simp [laws_FnLinesOfBooks.l0])
                    | succ k3 =>
                      have H := HA.out
                      clear HA
                      simp only [laws_FnLinesOfBooks.l0] at H
                      by_cases c62 : x25_3 < t353
                      · rw [if_pos c62] at H
                        have c62b0 : decide (x25_3 < t353) = true := decide_eq_true c62
                        clear c62
                        have H' := Aside0.mk H
                        clear H
                        go_wp2
                        go_loopg [26, 27] k3 (fun kq v26 v27 w' => ∃ (x26_4 : Bool) (x27_4 : Int), v26 = .bool x26_4 ∧ v27 = .int .i64 x27_4 ∧ Aside0 (laws_FnLinesOfBooks.l1 kq t353 t354 t357 t365 t366 t383 t387 x25_3 x26_4 x27_4 = some r) ∧ Aside0 (kq ≤ k3) ∧ Aside0 (Kd.R k54 54 w' w.heap.size (fun _ => True) (.slice Ao14 t354.length co14) t354) ∧ Aside0 (Kd.R (Kd.int .i64) 2 w' w.heap.size (fun k_ => some k_ ≠ (v389 : Value).ownBlock) v359 t357) ∧ Aside0 (Kd.S (Kd.slice 2 (Kd.int .i64)) 22 w' w.heap.size (fun k_ => some k_ ≠ (v359 : Value).ownBlock ∧ some k_ ≠ (v389 : Value).ownBlock) v385 t383) ∧ Aside0 (Kd.R (Kd.int .i64) 2 w' w.heap.size (fun k_ => some k_ ≠ (v359 : Value).ownBlock) v389 t387) ∧ Aside0 (Below w.heap.size w w'))
                        case atStart => exact ⟨(false), (0), (by first | rfl | (simp; done) | (simp [*]; done)), (by first | rfl | (simp; done) | (simp [*]; done)), H', ⟨Nat.le_refl _⟩, ⟨by (with_reducible repeat (first | apply Kd.R_alloc | apply Kd.R_drewN | apply Kd.R_drew)); exact HO_5.out⟩, ⟨by (with_reducible repeat (first | apply Kd.R_alloc | apply Kd.R_drewN | apply Kd.R_drew)); exact HO_6.out⟩, ⟨by (with_reducible repeat (first | apply Kd.S_alloc | apply Kd.S_drewN | apply Kd.S_drew)); exact HO_21.out⟩, ⟨by (with_reducible repeat (first | apply Kd.R_alloc | apply Kd.R_drewN | apply Kd.R_drew)); exact HO_23.out⟩, ⟨by repeat (first | (with_reducible first | exact HB.out | apply below_alloc | apply pw_below_drewN | apply below_drew1) | exact HB.out)⟩⟩
                        case round =>
                          clear H'
                          try clear c2
                          try clear p2
                          try clear c3
                          try clear c5
                          try clear c6
                          try clear c7
                          try clear c20
                          try clear c22
                          try clear c22b0
                          try clear c22b1
                          try clear c24
                          try clear c25
                          try clear c25b0
                          try clear c25b1
                          try clear c26
                          try clear c26b0
                          try clear c26b1
                          try clear c27
                          try clear c27b0
                          try clear c27b1
                          try clear c28
                          try clear c28b0
                          try clear c28b1
                          try clear c29
                          try clear c30
                          try clear c31
                          try clear c32
                          try clear c33
                          try clear c34
                          try clear c51
                          try clear c52
                          try clear c52b0
                          try clear c52b1
                          try clear c58
                          try clear c58b0
                          try clear c58b1
                          try clear c59
                          try clear c59b0
                          try clear c59b1
                          try clear c61
                          try clear c62
                          try clear c62b0
                          try clear p2
                          obtain ⟨x26_4, x27_4, rfl, rfl, HA, HK4, HO_5, HO_6, HO_21, HO_23, HB⟩ := hrel
                          cases gk with
                          | zero => exact absurd HA.out (by simp [laws_FnLinesOfBooks.l1])
                          | succ k4 =>
                            have H := HA.out
                            clear HA
                            simp only [laws_FnLinesOfBooks.l1] at H
                            by_cases c63 : x27_4 < (t354.length : Int)
                            · rw [if_pos c63] at H
                              have c63b0 : decide (x27_4 < (t354.length : Int)) = true := decide_eq_true c63
                              clear c63
                              by_cases c64 : x26_4 = true
                              · subst c64
                                have H1 : (laws_FnLinesOfBooks.l1 k4 t353 t354 t357 t365 t366 t383 t387 x25_3 true (wrap64 (x27_4 + 1))) = some r := by rw [if_pos rfl] at H; exact H
                                clear H
                                have H := H1
                                clear H1
                                have H' := Aside0.mk H
                                clear H
                                go_wp2
                                go_roundg k4
                                case measure => have := HJ11.out; have := HJ54.out; have := HK3.out; have := HK4.out; omega
                                case rel => exact ⟨(true), (wrap64 (x27_4 + 1)), (by first | rfl | (simp; done) | (simp [*]; done)), (by first | rfl | (simp; done) | (simp [*]; done)), H', ⟨by have := HJ11.out; have := HJ54.out; have := HK3.out; have := HK4.out; omega⟩, ⟨by (with_reducible repeat (first | apply Kd.R_alloc | apply Kd.R_drewN | apply Kd.R_drew)); exact HO_5.out⟩, ⟨by (with_reducible repeat (first | apply Kd.R_alloc | apply Kd.R_drewN | apply Kd.R_drew)); exact HO_6.out⟩, ⟨by (with_reducible repeat (first | apply Kd.S_alloc | apply Kd.S_drewN | apply Kd.S_drew)); exact HO_21.out⟩, ⟨by (with_reducible repeat (first | apply Kd.R_alloc | apply Kd.R_drewN | apply Kd.R_drew)); exact HO_23.out⟩, ⟨by repeat (first | (with_reducible first | exact HB.out | apply below_alloc | apply pw_below_drewN | apply below_drew1) | exact HB.out)⟩⟩
                              · replace c64 := Bool.eq_false_iff.mpr c64
                                subst c64
                                have H1 : (if 0 ≤ x27_4 then (laws_FnLinesOfBooks.l1 k4 t353 t354 t357 t365 t366 t383 t387 x25_3 (((rd_T54 t354 x27_4).f0) == x25_3) (wrap64 (x27_4 + 1))) else (none)) = some r := by rw [if_neg (show ¬ (false = true) by decide)] at H; exact H
                                clear H
                                have H := H1
                                clear H1
                                by_cases c65 : 0 ≤ x27_4
                                · rw [if_pos c65] at H
                                  have c65b0 : decide (0 ≤ x27_4) = true := decide_eq_true c65
                                  clear c65
                                  have H' := Aside0.mk H
                                  clear H
                                  have p391 : 0 ≤ (x27_4 : Int) := of_decide_eq_true (by first | (with_reducible assumption) | assumption)
                                  have q391 : x27_4 < (t354.length : Int) := of_decide_eq_true (by first | (with_reducible assumption) | assumption)
                                  obtain ⟨ad391, e391, hx391_0, hx391_1, hx391_2, hx391_3⟩ := at_T54 (Kd.R_reads' HO_5.out).2.2 x27_4 p391 q391
                                  cases e391
                                  replace p391 := eq_true p391
                                  replace q391 := eq_true q391
                                  go_wp2
                                  go_roundg k4
                                  case measure => have := HJ11.out; have := HJ54.out; have := HK3.out; have := HK4.out; omega
                                  case rel => exact ⟨((((rd_T54 t354 x27_4).f0) == x25_3)), (wrap64 (x27_4 + 1)), (by first | rfl | (simp; done) | (simp [*]; done)), (by first | rfl | (simp; done) | (simp [*]; done)), H', ⟨by have := HJ11.out; have := HJ54.out; have := HK3.out; have := HK4.out; omega⟩, ⟨by (with_reducible repeat (first | apply Kd.R_alloc | apply Kd.R_drewN | apply Kd.R_drew)); exact HO_5.out⟩, ⟨by (with_reducible repeat (first | apply Kd.R_alloc | apply Kd.R_drewN | apply Kd.R_drew)); exact HO_6.out⟩, ⟨by (with_reducible repeat (first | apply Kd.S_alloc | apply Kd.S_drewN | apply Kd.S_drew)); exact HO_21.out⟩, ⟨by (with_reducible repeat (first | apply Kd.R_alloc | apply Kd.R_drewN | apply Kd.R_drew)); exact HO_23.out⟩, ⟨by repeat (first | (with_reducible first | exact HB.out | apply below_alloc | apply pw_below_drewN | apply below_drew1) | exact HB.out)⟩⟩
                                · rw [if_neg c65] at H
                                  exact absurd H (by simp)
                            · rw [if_neg c63] at H
                              have c63b0 : decide (x27_4 < (t354.length : Int)) = false := decide_eq_false c63
                              clear c63
                              by_cases c66 : 0 ≤ x25_3
                              · rw [if_pos c66] at H
                                have c66b0 : decide (0 ≤ x25_3) = true := decide_eq_true c66
                                clear c66
                                by_cases c67 : x25_3 < (t383.length : Int)
                                · rw [if_pos c67] at H
                                  have c67b0 : decide (x25_3 < (t383.length : Int)) = true := decide_eq_true c67
                                  clear c67
                                  replace H := Option.bind_eq_some_iff.mp H
                                  obtain ⟨t393, A680, H⟩ := H
                                  replace H : ((laws_hasInt.f k4 t357 x25_3).bind fun t394 => (if (t393 == t394) = true then (some false) else ((laws_hasInt.f k4 t357 x25_3).bind fun t395 => (if t395 = true then (if x26_4 = true then (laws_FnLinesOfBooks.l0 k4 t353 t354 t357 t365 t366 t383 t387 (wrap64 (x25_3 + 1))) else (some false)) else (laws_FnLinesOfBooks.l0 k4 t353 t354 t357 t365 t366 t383 t387 (wrap64 (x25_3 + 1))))))) = some r := H
                                  have A68 := Aside0.mk A680
                                  clear A680
                                  replace H := Option.bind_eq_some_iff.mp H
                                  obtain ⟨t394, A690, H⟩ := H
                                  replace H : (if (t393 == t394) = true then (some false) else ((laws_hasInt.f k4 t357 x25_3).bind fun t395 => (if t395 = true then (if x26_4 = true then (laws_FnLinesOfBooks.l0 k4 t353 t354 t357 t365 t366 t383 t387 (wrap64 (x25_3 + 1))) else (some false)) else (laws_FnLinesOfBooks.l0 k4 t353 t354 t357 t365 t366 t383 t387 (wrap64 (x25_3 + 1)))))) = some r := H
                                  have A69 := Aside0.mk A690
                                  clear A690
                                  by_cases c70 : (t393 == t394) = true
                                  · rw [if_pos c70] at H
                                    have c70b0 : (t393 == t394) = true := c70
                                    (try (have c70b1 : decide (t393 = t394) = true := by simpa using c70))
                                    (try (have c70b2 : (t393 == t394) = true := by simpa using c70))
                                    clear c70
                                    obtain rfl := Option.some.inj H
                                    obtain ⟨Ao71, co71, eo71⟩ := Kd.S_slice HO_21.out
                                    subst eo71
                                    have p392 : 0 ≤ (x25_3 : Int) := of_decide_eq_true (by first | (with_reducible assumption) | assumption)
                                    have q392 : x25_3 < (t383.length : Int) := of_decide_eq_true (by first | (with_reducible assumption) | assumption)
                                    obtain ⟨ad392, A392_0, c392_0, e392, hx392_0, hl392_0, hi392_0⟩ := at_L3 (Kd.S_reads' HO_21.out).2.2 x25_3 p392 q392
                                    cases e392
                                    obtain ⟨ce392, hce392, hMe392, hcc392⟩ := Kd.S_get HO_21.out [] x25_3 p392 (by first | exact q392 | exact of_decide_eq_true (by first | (with_reducible assumption) | assumption) | (have e_ := (Kd.S_reads' HO_21.out).1; omega))
                                    obtain ⟨ve392_0, rfl, ge392_0⟩ := hMe392
                                    have hv392_0 := hcc392 0 _ rfl
                                    rw [Nat.add_zero, show ((Kd.slice 2 (Kd.int .i64))).sz = 1 from rfl, Nat.mul_one] at hv392_0
                                    replace hv392_0 := Option.some.inj (hv392_0.symm.trans hx392_0)
                                    rw [hv392_0] at ge392_0
                                    have HL392_0 := Aside0.mk (show Kd.R (Kd.int .i64) 2 _ _ _ _ (rd_L3 t383 x25_3) from ge392_0)
                                    clear hv392_0 ge392_0
                                    clear hcc392 hce392
                                    have HR392_0 := Aside0.mk hi392_0
                                    have HC392_0 := Aside0.mk hl392_0
                                    clear hi392_0 hl392_0
                                    replace p392 := eq_true p392
                                    replace q392 := eq_true q392
                                    obtain ⟨Ao72, co72, eo72⟩ := Kd.R_slice HO_23.out
                                    subst eo72
                                    go_wp2_with (first | ((with_reducible refine gate_callee (f := 35) rfl ?_); refine goesL_ (some 176) rfl rfl Try.func35 (by kernel_rfl) rfl #[.slice A392_0 (rd_L3 t383 x25_3).length c392_0, .slice Ao72 t387.length co72] rfl (by (try simp only [List.map_toArray, List.map_cons, List.map_nil]); first | done | rfl | (simp only [List.length_drop, List.length_take]; rfl)) ?_; (with_reducible refine (laws_likeInts.calls k4 _ _ (rd_L3 t383 x25_3) _ _ t387 t393 _ ?side1 ?side2 ?side3 ?side4 A68.out).mono ?_); (case side1 => repeat (first | exact (by repeat (first | (with_reducible exact HR392_0.out) | (with_reducible refine Kd.C_alloc ?_ _) | (with_reducible refine Kd.C_drewN ?_ _) | (with_reducible refine Kd.C_drew ?_) | exact HR392_0.out)) | (with_reducible refine Kd.C_alloc ?_ _) | (with_reducible refine Kd.C_drewN ?_ _) | (with_reducible refine Kd.C_drew ?_))); (case side2 => exact HC392_0.out); (case side3 => repeat (first | exact (Kd.R_reads' HO_23.out).2.2 | (with_reducible refine Kd.C_alloc ?_ _) | (with_reducible refine Kd.C_drewN ?_ _) | (with_reducible refine Kd.C_drew ?_))); (case side4 => exact (Kd.R_reads' HO_23.out).2.1); rintro e w' ⟨rfl, ⟨nd, rfl⟩⟩; refine ⟨_, rfl, ?_⟩; obtain ⟨Ao73, co73, eo73⟩ := Kd.R_slice HO_6.out; subst eo73) | ((with_reducible refine gate_callee (f := 37) rfl ?_); refine goesL_ (some 179) rfl rfl Try.func37 (by kernel_rfl) rfl #[.slice Ao73 t357.length co73, .int .i64 x25_3] rfl (by (try simp only [List.map_toArray, List.map_cons, List.map_nil]); first | done | rfl | (simp only [List.length_drop, List.length_take]; rfl)) ?_; (with_reducible refine (laws_hasInt.calls k4 _ _ t357 x25_3 t394 _ ?side1 ?side2 A69.out).mono ?_); (case side1 => repeat (first | exact (Kd.R_reads' HO_6.out).2.2 | (with_reducible refine Kd.C_alloc ?_ _) | (with_reducible refine Kd.C_drewN ?_ _) | (with_reducible refine Kd.C_drew ?_))); (case side2 => exact (Kd.R_reads' HO_6.out).2.1); rintro e w' ⟨rfl, ⟨nd, rfl⟩⟩; refine ⟨_, rfl, ?_⟩))
                                    go_ret
                                    exact ⟨by first | rfl | (simp [errW_none, errW_some] <;> rfl) | (simp [*, errW_none, errW_some] <;> rfl), by repeat (first | (with_reducible first | exact HB.out | apply below_alloc | apply pw_below_drewN | apply below_drew1) | exact HB.out)⟩
                                  · rw [if_neg c70] at H
                                    have c70b0 : (t393 == t394) = false := by simpa using c70
                                    (try (have c70b1 : decide (t393 = t394) = false := by simpa using c70))
                                    (try (have c70b2 : (t393 == t394) = false := by simpa using c70))
                                    (try (have c70b3 : ¬ (t393 = t394) := by simpa using c70))
                                    clear c70
                                    replace H := Option.bind_eq_some_iff.mp H
                                    obtain ⟨t395, A740, H⟩ := H
                                    replace H : (if t395 = true then (if x26_4 = true then (laws_FnLinesOfBooks.l0 k4 t353 t354 t357 t365 t366 t383 t387 (wrap64 (x25_3 + 1))) else (some false)) else (laws_FnLinesOfBooks.l0 k4 t353 t354 t357 t365 t366 t383 t387 (wrap64 (x25_3 + 1)))) = some r := H
                                    have A74 := Aside0.mk A740
                                    clear A740
                                    by_cases c75 : t395 = true
                                    · subst c75
                                      have H1 : (if x26_4 = true then (laws_FnLinesOfBooks.l0 k4 t353 t354 t357 t365 t366 t383 t387 (wrap64 (x25_3 + 1))) else (some false)) = some r := by rw [if_pos rfl] at H; exact H
                                      clear H
                                      have H := H1
                                      clear H1
                                      by_cases c76 : x26_4 = true
                                      · subst c76
                                        have H1 : (laws_FnLinesOfBooks.l0 k4 t353 t354 t357 t365 t366 t383 t387 (wrap64 (x25_3 + 1))) = some r := by rw [if_pos rfl] at H; exact H
                                        clear H
                                        have H := H1
                                        clear H1
                                        have H' := Aside0.mk H
                                        clear H
                                        obtain ⟨Ao77, co77, eo77⟩ := Kd.S_slice HO_21.out
                                        subst eo77
                                        have p392 : 0 ≤ (x25_3 : Int) := of_decide_eq_true (by first | (with_reducible assumption) | assumption)
                                        have q392 : x25_3 < (t383.length : Int) := of_decide_eq_true (by first | (with_reducible assumption) | assumption)
                                        obtain ⟨ad392, A392_0, c392_0, e392, hx392_0, hl392_0, hi392_0⟩ := at_L3 (Kd.S_reads' HO_21.out).2.2 x25_3 p392 q392
                                        cases e392
                                        obtain ⟨ce392, hce392, hMe392, hcc392⟩ := Kd.S_get HO_21.out [] x25_3 p392 (by first | exact q392 | exact of_decide_eq_true (by first | (with_reducible assumption) | assumption) | (have e_ := (Kd.S_reads' HO_21.out).1; omega))
                                        obtain ⟨ve392_0, rfl, ge392_0⟩ := hMe392
                                        have hv392_0 := hcc392 0 _ rfl
                                        rw [Nat.add_zero, show ((Kd.slice 2 (Kd.int .i64))).sz = 1 from rfl, Nat.mul_one] at hv392_0
                                        replace hv392_0 := Option.some.inj (hv392_0.symm.trans hx392_0)
                                        rw [hv392_0] at ge392_0
                                        have HL392_0 := Aside0.mk (show Kd.R (Kd.int .i64) 2 _ _ _ _ (rd_L3 t383 x25_3) from ge392_0)
                                        clear hv392_0 ge392_0
                                        clear hcc392 hce392
                                        have HR392_0 := Aside0.mk hi392_0
                                        have HC392_0 := Aside0.mk hl392_0
                                        clear hi392_0 hl392_0
                                        replace p392 := eq_true p392
                                        replace q392 := eq_true q392
                                        obtain ⟨Ao78, co78, eo78⟩ := Kd.R_slice HO_23.out
                                        subst eo78
                                        go_wp2_with (first | ((with_reducible refine gate_callee (f := 35) rfl ?_); refine goesL_ (some 176) rfl rfl Try.func35 (by kernel_rfl) rfl #[.slice A392_0 (rd_L3 t383 x25_3).length c392_0, .slice Ao78 t387.length co78] rfl (by (try simp only [List.map_toArray, List.map_cons, List.map_nil]); first | done | rfl | (simp only [List.length_drop, List.length_take]; rfl)) ?_; (with_reducible refine (laws_likeInts.calls k4 _ _ (rd_L3 t383 x25_3) _ _ t387 t393 _ ?side1 ?side2 ?side3 ?side4 A68.out).mono ?_); (case side1 => repeat (first | exact (by repeat (first | (with_reducible exact HR392_0.out) | (with_reducible refine Kd.C_alloc ?_ _) | (with_reducible refine Kd.C_drewN ?_ _) | (with_reducible refine Kd.C_drew ?_) | exact HR392_0.out)) | (with_reducible refine Kd.C_alloc ?_ _) | (with_reducible refine Kd.C_drewN ?_ _) | (with_reducible refine Kd.C_drew ?_))); (case side2 => exact HC392_0.out); (case side3 => repeat (first | exact (Kd.R_reads' HO_23.out).2.2 | (with_reducible refine Kd.C_alloc ?_ _) | (with_reducible refine Kd.C_drewN ?_ _) | (with_reducible refine Kd.C_drew ?_))); (case side4 => exact (Kd.R_reads' HO_23.out).2.1); rintro e w' ⟨rfl, ⟨nd, rfl⟩⟩; refine ⟨_, rfl, ?_⟩; obtain ⟨Ao79, co79, eo79⟩ := Kd.R_slice HO_6.out; subst eo79) | ((with_reducible refine gate_callee (f := 37) rfl ?_); refine goesL_ (some 179) rfl rfl Try.func37 (by kernel_rfl) rfl #[.slice Ao79 t357.length co79, .int .i64 x25_3] rfl (by (try simp only [List.map_toArray, List.map_cons, List.map_nil]); first | done | rfl | (simp only [List.length_drop, List.length_take]; rfl)) ?_; (with_reducible refine (laws_hasInt.calls k4 _ _ t357 x25_3 t394 _ ?side1 ?side2 A69.out).mono ?_); (case side1 => repeat (first | exact (Kd.R_reads' HO_6.out).2.2 | (with_reducible refine Kd.C_alloc ?_ _) | (with_reducible refine Kd.C_drewN ?_ _) | (with_reducible refine Kd.C_drew ?_))); (case side2 => exact (Kd.R_reads' HO_6.out).2.1); rintro e w' ⟨rfl, ⟨nd, rfl⟩⟩; refine ⟨_, rfl, ?_⟩) | (go_at_call 37; (with_reducible refine (laws_hasInt.calls k4 _ _ t357 x25_3 true _ ?side1 ?side2 A74.out).mono ?_); (case side1 => repeat (first | exact (Kd.R_reads' HO_6.out).2.2 | (with_reducible refine Kd.C_alloc ?_ _) | (with_reducible refine Kd.C_drewN ?_ _) | (with_reducible refine Kd.C_drew ?_))); (case side2 => exact (Kd.R_reads' HO_6.out).2.1); rintro e w' ⟨rfl, ⟨nd, rfl⟩⟩))
                                        go_roundg k4
                                        case measure => have := HJ11.out; have := HJ54.out; have := HK3.out; have := HK4.out; omega
                                        case rel => exact ⟨(wrap64 (x25_3 + 1)), (by first | rfl | (simp; done) | (simp [*]; done)), H', ⟨by have := HJ11.out; have := HJ54.out; have := HK3.out; have := HK4.out; omega⟩, ⟨by (with_reducible repeat (first | apply Kd.R_alloc | apply Kd.R_drewN | apply Kd.R_drew)); exact HO_5.out⟩, ⟨by (with_reducible repeat (first | apply Kd.R_alloc | apply Kd.R_drewN | apply Kd.R_drew)); exact HO_6.out⟩, ⟨by (with_reducible repeat (first | apply Kd.S_alloc | apply Kd.S_drewN | apply Kd.S_drew)); exact HO_21.out⟩, ⟨by (with_reducible repeat (first | apply Kd.R_alloc | apply Kd.R_drewN | apply Kd.R_drew)); exact HO_23.out⟩, ⟨by repeat (first | (with_reducible first | exact HB.out | apply below_alloc | apply pw_below_drewN | apply below_drew1) | exact HB.out)⟩⟩
                                      · replace c76 := Bool.eq_false_iff.mpr c76
                                        subst c76
                                        have H1 : (some false) = some r := by rw [if_neg (show ¬ (false = true) by decide)] at H; exact H
                                        clear H
                                        have H := H1
                                        clear H1
                                        obtain rfl := Option.some.inj H
                                        obtain ⟨Ao80, co80, eo80⟩ := Kd.S_slice HO_21.out
                                        subst eo80
                                        have p392 : 0 ≤ (x25_3 : Int) := of_decide_eq_true (by first | (with_reducible assumption) | assumption)
                                        have q392 : x25_3 < (t383.length : Int) := of_decide_eq_true (by first | (with_reducible assumption) | assumption)
                                        obtain ⟨ad392, A392_0, c392_0, e392, hx392_0, hl392_0, hi392_0⟩ := at_L3 (Kd.S_reads' HO_21.out).2.2 x25_3 p392 q392
                                        cases e392
                                        obtain ⟨ce392, hce392, hMe392, hcc392⟩ := Kd.S_get HO_21.out [] x25_3 p392 (by first | exact q392 | exact of_decide_eq_true (by first | (with_reducible assumption) | assumption) | (have e_ := (Kd.S_reads' HO_21.out).1; omega))
                                        obtain ⟨ve392_0, rfl, ge392_0⟩ := hMe392
                                        have hv392_0 := hcc392 0 _ rfl
                                        rw [Nat.add_zero, show ((Kd.slice 2 (Kd.int .i64))).sz = 1 from rfl, Nat.mul_one] at hv392_0
                                        replace hv392_0 := Option.some.inj (hv392_0.symm.trans hx392_0)
                                        rw [hv392_0] at ge392_0
                                        have HL392_0 := Aside0.mk (show Kd.R (Kd.int .i64) 2 _ _ _ _ (rd_L3 t383 x25_3) from ge392_0)
                                        clear hv392_0 ge392_0
                                        clear hcc392 hce392
                                        have HR392_0 := Aside0.mk hi392_0
                                        have HC392_0 := Aside0.mk hl392_0
                                        clear hi392_0 hl392_0
                                        replace p392 := eq_true p392
                                        replace q392 := eq_true q392
                                        obtain ⟨Ao81, co81, eo81⟩ := Kd.R_slice HO_23.out
                                        subst eo81
                                        go_wp2_with (first | ((with_reducible refine gate_callee (f := 35) rfl ?_); refine goesL_ (some 176) rfl rfl Try.func35 (by kernel_rfl) rfl #[.slice A392_0 (rd_L3 t383 x25_3).length c392_0, .slice Ao81 t387.length co81] rfl (by (try simp only [List.map_toArray, List.map_cons, List.map_nil]); first | done | rfl | (simp only [List.length_drop, List.length_take]; rfl)) ?_; (with_reducible refine (laws_likeInts.calls k4 _ _ (rd_L3 t383 x25_3) _ _ t387 t393 _ ?side1 ?side2 ?side3 ?side4 A68.out).mono ?_); (case side1 => repeat (first | exact (by repeat (first | (with_reducible exact HR392_0.out) | (with_reducible refine Kd.C_alloc ?_ _) | (with_reducible refine Kd.C_drewN ?_ _) | (with_reducible refine Kd.C_drew ?_) | exact HR392_0.out)) | (with_reducible refine Kd.C_alloc ?_ _) | (with_reducible refine Kd.C_drewN ?_ _) | (with_reducible refine Kd.C_drew ?_))); (case side2 => exact HC392_0.out); (case side3 => repeat (first | exact (Kd.R_reads' HO_23.out).2.2 | (with_reducible refine Kd.C_alloc ?_ _) | (with_reducible refine Kd.C_drewN ?_ _) | (with_reducible refine Kd.C_drew ?_))); (case side4 => exact (Kd.R_reads' HO_23.out).2.1); rintro e w' ⟨rfl, ⟨nd, rfl⟩⟩; refine ⟨_, rfl, ?_⟩; obtain ⟨Ao82, co82, eo82⟩ := Kd.R_slice HO_6.out; subst eo82) | ((with_reducible refine gate_callee (f := 37) rfl ?_); refine goesL_ (some 179) rfl rfl Try.func37 (by kernel_rfl) rfl #[.slice Ao82 t357.length co82, .int .i64 x25_3] rfl (by (try simp only [List.map_toArray, List.map_cons, List.map_nil]); first | done | rfl | (simp only [List.length_drop, List.length_take]; rfl)) ?_; (with_reducible refine (laws_hasInt.calls k4 _ _ t357 x25_3 t394 _ ?side1 ?side2 A69.out).mono ?_); (case side1 => repeat (first | exact (Kd.R_reads' HO_6.out).2.2 | (with_reducible refine Kd.C_alloc ?_ _) | (with_reducible refine Kd.C_drewN ?_ _) | (with_reducible refine Kd.C_drew ?_))); (case side2 => exact (Kd.R_reads' HO_6.out).2.1); rintro e w' ⟨rfl, ⟨nd, rfl⟩⟩; refine ⟨_, rfl, ?_⟩) | (go_at_call 37; (with_reducible refine (laws_hasInt.calls k4 _ _ t357 x25_3 true _ ?side1 ?side2 A74.out).mono ?_); (case side1 => repeat (first | exact (Kd.R_reads' HO_6.out).2.2 | (with_reducible refine Kd.C_alloc ?_ _) | (with_reducible refine Kd.C_drewN ?_ _) | (with_reducible refine Kd.C_drew ?_))); (case side2 => exact (Kd.R_reads' HO_6.out).2.1); rintro e w' ⟨rfl, ⟨nd, rfl⟩⟩))
                                        go_ret
                                        exact ⟨by first | rfl | (simp [errW_none, errW_some] <;> rfl) | (simp [*, errW_none, errW_some] <;> rfl), by repeat (first | (with_reducible first | exact HB.out | apply below_alloc | apply pw_below_drewN | apply below_drew1) | exact HB.out)⟩
                                    · replace c75 := Bool.eq_false_iff.mpr c75
                                      subst c75
                                      have H1 : (laws_FnLinesOfBooks.l0 k4 t353 t354 t357 t365 t366 t383 t387 (wrap64 (x25_3 + 1))) = some r := by rw [if_neg (show ¬ (false = true) by decide)] at H; exact H
                                      clear H
                                      have H := H1
                                      clear H1
                                      have H' := Aside0.mk H
                                      clear H
                                      obtain ⟨Ao83, co83, eo83⟩ := Kd.S_slice HO_21.out
                                      subst eo83
                                      have p392 : 0 ≤ (x25_3 : Int) := of_decide_eq_true (by first | (with_reducible assumption) | assumption)
                                      have q392 : x25_3 < (t383.length : Int) := of_decide_eq_true (by first | (with_reducible assumption) | assumption)
                                      obtain ⟨ad392, A392_0, c392_0, e392, hx392_0, hl392_0, hi392_0⟩ := at_L3 (Kd.S_reads' HO_21.out).2.2 x25_3 p392 q392
                                      cases e392
                                      obtain ⟨ce392, hce392, hMe392, hcc392⟩ := Kd.S_get HO_21.out [] x25_3 p392 (by first | exact q392 | exact of_decide_eq_true (by first | (with_reducible assumption) | assumption) | (have e_ := (Kd.S_reads' HO_21.out).1; omega))
                                      obtain ⟨ve392_0, rfl, ge392_0⟩ := hMe392
                                      have hv392_0 := hcc392 0 _ rfl
                                      rw [Nat.add_zero, show ((Kd.slice 2 (Kd.int .i64))).sz = 1 from rfl, Nat.mul_one] at hv392_0
                                      replace hv392_0 := Option.some.inj (hv392_0.symm.trans hx392_0)
                                      rw [hv392_0] at ge392_0
                                      have HL392_0 := Aside0.mk (show Kd.R (Kd.int .i64) 2 _ _ _ _ (rd_L3 t383 x25_3) from ge392_0)
                                      clear hv392_0 ge392_0
                                      clear hcc392 hce392
                                      have HR392_0 := Aside0.mk hi392_0
                                      have HC392_0 := Aside0.mk hl392_0
                                      clear hi392_0 hl392_0
                                      replace p392 := eq_true p392
                                      replace q392 := eq_true q392
                                      obtain ⟨Ao84, co84, eo84⟩ := Kd.R_slice HO_23.out
                                      subst eo84
                                      go_wp2_with (first | ((with_reducible refine gate_callee (f := 35) rfl ?_); refine goesL_ (some 176) rfl rfl Try.func35 (by kernel_rfl) rfl #[.slice A392_0 (rd_L3 t383 x25_3).length c392_0, .slice Ao84 t387.length co84] rfl (by (try simp only [List.map_toArray, List.map_cons, List.map_nil]); first | done | rfl | (simp only [List.length_drop, List.length_take]; rfl)) ?_; (with_reducible refine (laws_likeInts.calls k4 _ _ (rd_L3 t383 x25_3) _ _ t387 t393 _ ?side1 ?side2 ?side3 ?side4 A68.out).mono ?_); (case side1 => repeat (first | exact (by repeat (first | (with_reducible exact HR392_0.out) | (with_reducible refine Kd.C_alloc ?_ _) | (with_reducible refine Kd.C_drewN ?_ _) | (with_reducible refine Kd.C_drew ?_) | exact HR392_0.out)) | (with_reducible refine Kd.C_alloc ?_ _) | (with_reducible refine Kd.C_drewN ?_ _) | (with_reducible refine Kd.C_drew ?_))); (case side2 => exact HC392_0.out); (case side3 => repeat (first | exact (Kd.R_reads' HO_23.out).2.2 | (with_reducible refine Kd.C_alloc ?_ _) | (with_reducible refine Kd.C_drewN ?_ _) | (with_reducible refine Kd.C_drew ?_))); (case side4 => exact (Kd.R_reads' HO_23.out).2.1); rintro e w' ⟨rfl, ⟨nd, rfl⟩⟩; refine ⟨_, rfl, ?_⟩; obtain ⟨Ao85, co85, eo85⟩ := Kd.R_slice HO_6.out; subst eo85) | ((with_reducible refine gate_callee (f := 37) rfl ?_); refine goesL_ (some 179) rfl rfl Try.func37 (by kernel_rfl) rfl #[.slice Ao85 t357.length co85, .int .i64 x25_3] rfl (by (try simp only [List.map_toArray, List.map_cons, List.map_nil]); first | done | rfl | (simp only [List.length_drop, List.length_take]; rfl)) ?_; (with_reducible refine (laws_hasInt.calls k4 _ _ t357 x25_3 t394 _ ?side1 ?side2 A69.out).mono ?_); (case side1 => repeat (first | exact (Kd.R_reads' HO_6.out).2.2 | (with_reducible refine Kd.C_alloc ?_ _) | (with_reducible refine Kd.C_drewN ?_ _) | (with_reducible refine Kd.C_drew ?_))); (case side2 => exact (Kd.R_reads' HO_6.out).2.1); rintro e w' ⟨rfl, ⟨nd, rfl⟩⟩; refine ⟨_, rfl, ?_⟩) | (go_at_call 37; (with_reducible refine (laws_hasInt.calls k4 _ _ t357 x25_3 false _ ?side1 ?side2 A74.out).mono ?_); (case side1 => repeat (first | exact (Kd.R_reads' HO_6.out).2.2 | (with_reducible refine Kd.C_alloc ?_ _) | (with_reducible refine Kd.C_drewN ?_ _) | (with_reducible refine Kd.C_drew ?_))); (case side2 => exact (Kd.R_reads' HO_6.out).2.1); rintro e w' ⟨rfl, ⟨nd, rfl⟩⟩))
                                      go_roundg k4
                                      case measure => have := HJ11.out; have := HJ54.out; have := HK3.out; have := HK4.out; omega
                                      case rel => exact ⟨(wrap64 (x25_3 + 1)), (by first | rfl | (simp; done) | (simp [*]; done)), H', ⟨by have := HJ11.out; have := HJ54.out; have := HK3.out; have := HK4.out; omega⟩, ⟨by (with_reducible repeat (first | apply Kd.R_alloc | apply Kd.R_drewN | apply Kd.R_drew)); exact HO_5.out⟩, ⟨by (with_reducible repeat (first | apply Kd.R_alloc | apply Kd.R_drewN | apply Kd.R_drew)); exact HO_6.out⟩, ⟨by (with_reducible repeat (first | apply Kd.S_alloc | apply Kd.S_drewN | apply Kd.S_drew)); exact HO_21.out⟩, ⟨by (with_reducible repeat (first | apply Kd.R_alloc | apply Kd.R_drewN | apply Kd.R_drew)); exact HO_23.out⟩, ⟨by repeat (first | (with_reducible first | exact HB.out | apply below_alloc | apply pw_below_drewN | apply below_drew1) | exact HB.out)⟩⟩
                                · rw [if_neg c67] at H
                                  exact absurd H (by simp)
                              · rw [if_neg c66] at H
                                exact absurd H (by simp)
                      · rw [if_neg c62] at H
                        have c62b0 : decide (x25_3 < t353) = false := decide_eq_false c62
                        clear c62
                        have H' := Aside0.mk H
                        clear H
                        go_wp2
                        go_loopg [28, 29] k3 (fun kq v28 v29 w' => ∃ (x28_4 : Int) (x29_4 : Int), v28 = .int .i64 x28_4 ∧ v29 = .int .i64 x29_4 ∧ Aside0 (laws_FnLinesOfBooks.l2 kq t354 t365 t366 x28_4 x29_4 = some r) ∧ Aside0 (kq ≤ k3) ∧ Aside0 (Kd.R k54 54 w' w.heap.size (fun _ => True) (.slice Ao14 t354.length co14) t354) ∧ Aside0 (Below w.heap.size w w'))
                        case atStart => exact ⟨(0), (0), (by first | rfl | (simp; done) | (simp [*]; done)), (by first | rfl | (simp; done) | (simp [*]; done)), H', ⟨Nat.le_refl _⟩, ⟨by (with_reducible repeat (first | apply Kd.R_alloc | apply Kd.R_drewN | apply Kd.R_drew)); exact HO_5.out⟩, ⟨by repeat (first | (with_reducible first | exact HB.out | apply below_alloc | apply pw_below_drewN | apply below_drew1) | exact HB.out)⟩⟩
                        case round =>
                          clear H'
                          try clear c2
                          try clear p2
                          try clear c3
                          try clear p3
                          try clear q3
                          try clear hx3
                          try clear c5
                          try clear c6
                          try clear p6
                          try clear c7
                          try clear c20
                          try clear c22
                          try clear c22b0
                          try clear c22b1
                          try clear c24
                          try clear c25
                          try clear c25b0
                          try clear c25b1
                          try clear c26
                          try clear c26b0
                          try clear c26b1
                          try clear c27
                          try clear c27b0
                          try clear c27b1
                          try clear c28
                          try clear c28b0
                          try clear c28b1
                          try clear c29
                          try clear c30
                          try clear c31
                          try clear c32
                          try clear c33
                          try clear c34
                          try clear c35
                          try clear c37
                          try clear c39
                          try clear p39
                          try clear q39
                          try clear hx39
                          try clear c51
                          try clear c52
                          try clear c52b0
                          try clear c52b1
                          try clear c58
                          try clear c58b0
                          try clear c58b1
                          try clear c59
                          try clear c59b0
                          try clear c59b1
                          try clear c61
                          try clear c62
                          try clear c62b0
                          try clear c63
                          try clear c63b0
                          try clear c64
                          try clear p64
                          try clear c65
                          try clear c65b0
                          try clear c66
                          try clear c66b0
                          try clear c67
                          try clear c67b0
                          try clear c70
                          try clear c70b0
                          try clear c70b1
                          try clear c70b2
                          try clear c75
                          try clear c76
                          try clear hx391_0
                          try clear hx391_1
                          try clear hx391_2
                          try clear hx391_3
                          try clear hx392_0
                          try clear p2
                          try clear p391
                          try clear p392
                          try clear q391
                          try clear q392
                          obtain ⟨x28_4, x29_4, rfl, rfl, HA, HK4, HO_5, HB⟩ := hrel
                          cases gk with
                          | zero => exact absurd HA.out (by simp [laws_FnLinesOfBooks.l2])
                          | succ k4 =>
                            have H := HA.out
                            clear HA
                            simp only [laws_FnLinesOfBooks.l2] at H
                            by_cases c86 : x29_4 < (t354.length : Int)
                            · rw [if_pos c86] at H
                              have c86b0 : decide (x29_4 < (t354.length : Int)) = true := decide_eq_true c86
                              clear c86
                              by_cases c87 : 0 ≤ x29_4
                              · rw [if_pos c87] at H
                                have c87b0 : decide (0 ≤ x29_4) = true := decide_eq_true c87
                                clear c87
                                by_cases c88 : ((rd_T54 t354 x29_4).f1) = t365
                                · rw [if_pos c88] at H
                                  have c88b0 : (((rd_T54 t354 x29_4).f1) == t365) = true := beq_iff_eq.mpr c88
                                  have c88b1 : (((rd_T54 t354 x29_4).f1) != t365) = false := bne_eq_false_iff_eq.mpr c88
                                  clear c88
                                  have H' := Aside0.mk H
                                  clear H
                                  have p396 : 0 ≤ (x29_4 : Int) := of_decide_eq_true (by first | (with_reducible assumption) | assumption)
                                  have q396 : x29_4 < (t354.length : Int) := of_decide_eq_true (by first | (with_reducible assumption) | assumption)
                                  obtain ⟨ad396, e396, hx396_0, hx396_1, hx396_2, hx396_3⟩ := at_T54 (Kd.R_reads' HO_5.out).2.2 x29_4 p396 q396
                                  cases e396
                                  replace p396 := eq_true p396
                                  replace q396 := eq_true q396
                                  go_wp2
                                  go_roundg k4
                                  case measure => have := HJ11.out; have := HJ54.out; have := HK3.out; have := HK4.out; omega
                                  case rel => exact ⟨(wrap64 (x28_4 + 1)), (wrap64 (x29_4 + 1)), (by first | rfl | (simp; done) | (simp [*]; done)), (by first | rfl | (simp; done) | (simp [*]; done)), H', ⟨by have := HJ11.out; have := HJ54.out; have := HK3.out; have := HK4.out; omega⟩, ⟨by (with_reducible repeat (first | apply Kd.R_alloc | apply Kd.R_drewN | apply Kd.R_drew)); exact HO_5.out⟩, ⟨by repeat (first | (with_reducible first | exact HB.out | apply below_alloc | apply pw_below_drewN | apply below_drew1) | exact HB.out)⟩⟩
                                · rw [if_neg c88] at H
                                  have c88b0 : (((rd_T54 t354 x29_4).f1) == t365) = false := beq_eq_false_iff_ne.mpr c88
                                  have c88b1 : (((rd_T54 t354 x29_4).f1) != t365) = true := bne_iff_ne.mpr c88
                                  have H' := Aside0.mk H
                                  clear H
                                  have p396 : 0 ≤ (x29_4 : Int) := of_decide_eq_true (by first | (with_reducible assumption) | assumption)
                                  have q396 : x29_4 < (t354.length : Int) := of_decide_eq_true (by first | (with_reducible assumption) | assumption)
                                  obtain ⟨ad396, e396, hx396_0, hx396_1, hx396_2, hx396_3⟩ := at_T54 (Kd.R_reads' HO_5.out).2.2 x29_4 p396 q396
                                  cases e396
                                  replace p396 := eq_true p396
                                  replace q396 := eq_true q396
                                  go_wp2
                                  go_roundg k4
                                  case measure => have := HJ11.out; have := HJ54.out; have := HK3.out; have := HK4.out; omega
                                  case rel => exact ⟨(x28_4), (wrap64 (x29_4 + 1)), (by first | rfl | (simp; done) | (simp [*]; done)), (by first | rfl | (simp; done) | (simp [*]; done)), H', ⟨by have := HJ11.out; have := HJ54.out; have := HK3.out; have := HK4.out; omega⟩, ⟨by (with_reducible repeat (first | apply Kd.R_alloc | apply Kd.R_drewN | apply Kd.R_drew)); exact HO_5.out⟩, ⟨by repeat (first | (with_reducible first | exact HB.out | apply below_alloc | apply pw_below_drewN | apply below_drew1) | exact HB.out)⟩⟩
                              · rw [if_neg c87] at H
                                exact absurd H (by simp)
                            · rw [if_neg c86] at H
                              have c86b0 : decide (x29_4 < (t354.length : Int)) = false := decide_eq_false c86
                              clear c86
                              obtain rfl := Option.some.inj H
                              go_wp2
                              go_ret
                              exact ⟨by first | rfl | (simp [errW_none, errW_some] <;> rfl) | (simp [*, errW_none, errW_some] <;> rfl), by repeat (first | (with_reducible first | exact HB.out | apply below_alloc | apply pw_below_drewN | apply below_drew1) | exact HB.out)⟩
          · rw [if_neg c52] at H
            have c52b0 : (t358 == 0) = false := beq_eq_false_iff_ne.mpr c52
            have c52b1 : (t358 != 0) = true := bne_iff_ne.mpr c52
            obtain rfl := Option.some.inj H
            go_wp2
            go_ret
            exact ⟨by first | rfl | (simp [errW_none, errW_some] <;> rfl) | (simp [*, errW_none, errW_some] <;> rfl), by repeat (first | (with_reducible first | exact HB.out | apply below_alloc | apply pw_below_drewN | apply below_drew1) | exact HB.out)⟩

/-- THE ONE PURE STATEMENT of laws_FnLinesOfBooks: yours. -/
def laws_FnLinesOfBooks.Pure : Prop := ∀ (l0 : List Int), l0.length ≤ maxLen → l0.length * 1 ≤ 140737488351232 → (∀ x ∈ l0, (Lit.int .u8 x).wf = true) → ∃ k, laws_FnLinesOfBooks.f k l0 = some true
theorem laws_FnLinesOfBooks.walk (P : laws_FnLinesOfBooks.Pure) (a0 : Option Addr) (len0 cap0 : Nat) (z0 : List Int) (w : World) (w0 : (a0 = none ∧ len0 = 0 ∧ cap0 = 0 ∧ z0 = []) ∨ ∃ x, a0 = some x ∧ len0 ≤ cap0 ∧ cap0 ≤ maxLen ∧ z0.length = cap0 ∧ (∀ i, i < z0.length → w.cell? (x.add i) = some (.int .u8 (z0.getD i 0))) ∧ ∀ n ∈ z0, (Lit.int .u8 n).wf = true) (y0 : len0 * 1 ≤ 140737488351232) :
    Calls Try.prog 7 #[.slice a0 len0 cap0] w fun e w' => e = .returned (.bool true) ∧ Below w.heap.size w w' := by
  obtain ⟨l0, rfl, hr0, hm0, hw0, hc0⟩ := ReadsInt.ofRowC w0
  obtain ⟨k, h⟩ := P l0 hm0 y0 hw0
  refine (laws_FnLinesOfBooks.calls k _ _ l0 true w (Kd.C_of_reads (d := (0 : Int)) (h1 := fun _ => rfl) hr0) hc0 h).mono ?_
  rintro e w' ⟨rfl, hd⟩
  exact ⟨rfl, hd⟩

end Go.Proofs.Ythfegojffgblmaa.X
