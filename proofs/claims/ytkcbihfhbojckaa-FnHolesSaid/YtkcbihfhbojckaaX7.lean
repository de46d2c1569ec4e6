-- Written by this session's own program (wip/xprint.py) out of the translation; Lean checks it.
import Derived.Test.YtkcbihfhbojckaaX0
import Derived.Test.YtkcbihfhbojckaaX2
import Derived.Test.YtkcbihfhbojckaaX3
import Derived.Test.YtkcbihfhbojckaaX4
import Derived.Test.YtkcbihfhbojckaaX5
import Derived.Test.YtkcbihfhbojckaaX6
import Derived.Test.YtkcbihfhbojckaaEMirrorHoles
namespace Go.Proofs.Ytkcbihfhbojckaa.X
open Go.RowKit Go.Proofs.YtkcbihfhbojckaaW.PrintWords Go.Proofs.YtkcbihfhbojckaaW.PrintLast Go.Proofs.YtkcbihfhbojckaaW.PrintMore
attribute [local go_sem] max2_int min2_int max_two min_two max_three min_three max_four min_four   -- for this text's walks alone
set_option linter.unusedVariables false
set_option linter.unusedSimpArgs false

/-! ### laws_FnHoles: function 3 -/
mutual
def laws_FnHoles.j0 : Nat → List Int → Int → List Int → Int → Int → Int → List Int → Int → List Int → Int → Int → Bool → Option (Bool)
  | 0, _, _, _, _, _, _, _, _, _, _, _, _ => none
  | k + 1, x3, x4, x5, x6, x9, x11, x12, x13, x16, x17, x18, x110 => if x110 = true then (some false) else (if x13 = 0 then (if 0 < (x12.length : Int) then (if (rd x12 0) = x11 then (if 0 ≤ (wrap64 ((x12.length : Int) - 1)) then (if (wrap64 ((x12.length : Int) - 1)) < (x12.length : Int) then (if (rd x12 (wrap64 ((x12.length : Int) - 1))) = (wrap64 (x9 - x11)) then ((impl_AreHoles.f k x12).bind fun t305 => (laws_FnHoles.j1 k x3 x4 x5 x6 x16 x17 x18 (!t305))) else (laws_FnHoles.j1 k x3 x4 x5 x6 x16 x17 x18 true)) else (none)) else (none)) else (laws_FnHoles.j1 k x3 x4 x5 x6 x16 x17 x18 true)) else (none)) else (laws_FnHoles.j1 k x3 x4 x5 x6 x16 x17 x18 false))
def laws_FnHoles.j1 : Nat → List Int → Int → List Int → Int → List Int → Int → Int → Bool → Option (Bool)
  | 0, _, _, _, _, _, _, _, _ => none
  | k + 1, x3, x4, x5, x6, x16, x17, x18, x136 => if x136 = true then (some false) else (if x18 = 0 then (if x17 ≤ 0 then (laws_FnHoles.j2 k x3 x4 x5 x6 true) else (if 0 ≤ (wrap64 ((x16.length : Int) - 1)) then (if (wrap64 ((x16.length : Int) - 1)) < (x16.length : Int) then (if 0 < (x16.length : Int) then (laws_FnHoles.j2 k x3 x4 x5 x6 (decide (x17 > (wrap64 ((rd x16 (wrap64 ((x16.length : Int) - 1))) - (rd x16 0)))))) else (none)) else (none)) else (none))) else (laws_FnHoles.j2 k x3 x4 x5 x6 false))
def laws_FnHoles.j2 : Nat → List Int → Int → List Int → Int → Bool → Option (Bool)
  | 0, _, _, _, _, _ => none
  | k + 1, x3, x4, x5, x6, x156 => if x156 = true then (some false) else (if x6 = 0 then ((impl_MirrorHoles.f k x5 x4).bind fun bt308 => (if bt308.2 = 0 then ((laws_likeInts.f k bt308.1 x3).bind fun t312 => (some t312)) else (some false))) else (some true))
end
def laws_FnHoles.f (k : Nat) (l0 : List Int) : Option (Bool) := (laws_big.f l0).bind fun t268 => (if t268 = true then (some true) else ((spec_DrawMirrorHoles.f k l0).bind fun bt269 => ((impl_MirrorHoles.f k bt269.1 bt269.2).bind fun bt273 => ((spec_MirrorHoles.f k bt269.1 bt269.2).bind fun bt277 => ((spec_DrawEvenHoles.f k l0).bind fun bt281 => ((impl_EvenHoles.f k bt281.1 bt281.2.1 bt281.2.2).bind fun bt284 => ((spec_EvenHoles.f k bt281.1 bt281.2.1 bt281.2.2).bind fun bt288 => ((spec_DrawInsideLength.f k l0).bind fun t292 => ((impl_InsideLength.f k t292).bind fun bt295 => ((spec_InsideLength.f k t292).bind fun bt297 => (if bt273.2 = bt277.2 then ((laws_likeInts.f k bt273.1 bt277.1).bind fun t299 => (if t299 = true then (if bt284.2 = bt288.2 then ((laws_likeInts.f k bt284.1 bt288.1).bind fun t300 => (if t300 = true then (if bt295.2 = bt297.2 then (if bt295.1 = bt297.1 then ((impl_AreHoles.f k t292).bind fun t301 => ((spec_AreHoles.f k t292).bind fun t302 => (laws_FnHoles.j0 k bt269.1 bt269.2 bt273.1 bt273.2 bt281.1 bt281.2.2 bt284.1 bt284.2 t292 bt295.1 bt295.2 (t301 != t302)))) else (laws_FnHoles.j0 k bt269.1 bt269.2 bt273.1 bt273.2 bt281.1 bt281.2.2 bt284.1 bt284.2 t292 bt295.1 bt295.2 true)) else (laws_FnHoles.j0 k bt269.1 bt269.2 bt273.1 bt273.2 bt281.1 bt281.2.2 bt284.1 bt284.2 t292 bt295.1 bt295.2 true)) else (laws_FnHoles.j0 k bt269.1 bt269.2 bt273.1 bt273.2 bt281.1 bt281.2.2 bt284.1 bt284.2 t292 bt295.1 bt295.2 true))) else (laws_FnHoles.j0 k bt269.1 bt269.2 bt273.1 bt273.2 bt281.1 bt281.2.2 bt284.1 bt284.2 t292 bt295.1 bt295.2 true)) else (laws_FnHoles.j0 k bt269.1 bt269.2 bt273.1 bt273.2 bt281.1 bt281.2.2 bt284.1 bt284.2 t292 bt295.1 bt295.2 true))) else (laws_FnHoles.j0 k bt269.1 bt269.2 bt273.1 bt273.2 bt281.1 bt281.2.2 bt284.1 bt284.2 t292 bt295.1 bt295.2 true))))))))))))
theorem laws_FnHoles.mono_l : ∀ k, (∀ y0 y1 y2 y3 y4 y5 y6 y7 y8 y9 y10 y11, LeO (laws_FnHoles.j0 k y0 y1 y2 y3 y4 y5 y6 y7 y8 y9 y10 y11) (laws_FnHoles.j0 (k + 1) y0 y1 y2 y3 y4 y5 y6 y7 y8 y9 y10 y11)) ∧ (∀ y0 y1 y2 y3 y4 y5 y6 y7, LeO (laws_FnHoles.j1 k y0 y1 y2 y3 y4 y5 y6 y7) (laws_FnHoles.j1 (k + 1) y0 y1 y2 y3 y4 y5 y6 y7)) ∧ (∀ y0 y1 y2 y3 y4, LeO (laws_FnHoles.j2 k y0 y1 y2 y3 y4) (laws_FnHoles.j2 (k + 1) y0 y1 y2 y3 y4))
  | 0 => ⟨fun _ _ _ _ _ _ _ _ _ _ _ _ r h => by simp [laws_FnHoles.j0] at h, fun _ _ _ _ _ _ _ _ r h => by simp [laws_FnHoles.j1] at h, fun _ _ _ _ _ r h => by simp [laws_FnHoles.j2] at h⟩
  | k + 1 => by
    obtain ⟨ih0, ih1, ih2⟩ := laws_FnHoles.mono_l k
    refine ⟨?_, ?_, ?_⟩
    · intro y0 y1 y2 y3 y4 y5 y6 y7 y8 y9 y10 y11
      unfold laws_FnHoles.j0
      repeat' first
      | (with_reducible exact ih0 _ _ _ _ _ _ _ _ _ _ _ _)
      | (with_reducible exact ih1 _ _ _ _ _ _ _ _)
      | (with_reducible exact ih2 _ _ _ _ _)
      | (with_reducible exact impl_AreHoles.mono _ _)
      | (with_reducible exact impl_EvenHoles.mono _ _ _ _)
      | (with_reducible exact impl_InsideLength.mono _ _)
      | (with_reducible exact impl_MirrorHoles.mono _ _ _)
      | (with_reducible exact laws_likeInts.mono _ _ _)
      | (with_reducible exact spec_AreHoles.mono _ _)
      | (with_reducible exact spec_DrawEvenHoles.mono _ _)
      | (with_reducible exact spec_DrawInsideLength.mono _ _)
      | (with_reducible exact spec_DrawMirrorHoles.mono _ _)
      | (with_reducible exact spec_EvenHoles.mono _ _ _ _)
      | (with_reducible exact spec_InsideLength.mono _ _)
      | (with_reducible exact spec_MirrorHoles.mono _ _ _)
      | (with_reducible exact LeO.refl _)
      | (with_reducible exact LeO.none _)
      | (with_reducible refine LeO.ite ?_ ?_)
      | (with_reducible refine LeO.bind ?_ (fun _ => ?_))
      | exact ih0 _ _ _ _ _ _ _ _ _ _ _ _
      | exact ih1 _ _ _ _ _ _ _ _
      | exact ih2 _ _ _ _ _
      | exact impl_AreHoles.mono _ _
      | exact impl_EvenHoles.mono _ _ _ _
      | exact impl_InsideLength.mono _ _
      | exact impl_MirrorHoles.mono _ _ _
      | exact laws_likeInts.mono _ _ _
      | exact spec_AreHoles.mono _ _
      | exact spec_DrawEvenHoles.mono _ _
      | exact spec_DrawInsideLength.mono _ _
      | exact spec_DrawMirrorHoles.mono _ _
      | exact spec_EvenHoles.mono _ _ _ _
      | exact spec_InsideLength.mono _ _
      | exact spec_MirrorHoles.mono _ _ _
      | exact LeO.none _
      | refine LeO.ite ?_ ?_
      | refine LeO.bind ?_ (fun _ => ?_)
    · intro y0 y1 y2 y3 y4 y5 y6 y7
      unfold laws_FnHoles.j1
      repeat' first
      | (with_reducible exact ih0 _ _ _ _ _ _ _ _ _ _ _ _)
      | (with_reducible exact ih1 _ _ _ _ _ _ _ _)
      | (with_reducible exact ih2 _ _ _ _ _)
      | (with_reducible exact impl_AreHoles.mono _ _)
      | (with_reducible exact impl_EvenHoles.mono _ _ _ _)
      | (with_reducible exact impl_InsideLength.mono _ _)
      | (with_reducible exact impl_MirrorHoles.mono _ _ _)
      | (with_reducible exact laws_likeInts.mono _ _ _)
      | (with_reducible exact spec_AreHoles.mono _ _)
      | (with_reducible exact spec_DrawEvenHoles.mono _ _)
      | (with_reducible exact spec_DrawInsideLength.mono _ _)
      | (with_reducible exact spec_DrawMirrorHoles.mono _ _)
      | (with_reducible exact spec_EvenHoles.mono _ _ _ _)
      | (with_reducible exact spec_InsideLength.mono _ _)
      | (with_reducible exact spec_MirrorHoles.mono _ _ _)
      | (with_reducible exact LeO.refl _)
      | (with_reducible exact LeO.none _)
      | (with_reducible refine LeO.ite ?_ ?_)
      | (with_reducible refine LeO.bind ?_ (fun _ => ?_))
      | exact ih0 _ _ _ _ _ _ _ _ _ _ _ _
      | exact ih1 _ _ _ _ _ _ _ _
      | exact ih2 _ _ _ _ _
      | exact impl_AreHoles.mono _ _
      | exact impl_EvenHoles.mono _ _ _ _
      | exact impl_InsideLength.mono _ _
      | exact impl_MirrorHoles.mono _ _ _
      | exact laws_likeInts.mono _ _ _
      | exact spec_AreHoles.mono _ _
      | exact spec_DrawEvenHoles.mono _ _
      | exact spec_DrawInsideLength.mono _ _
      | exact spec_DrawMirrorHoles.mono _ _
      | exact spec_EvenHoles.mono _ _ _ _
      | exact spec_InsideLength.mono _ _
      | exact spec_MirrorHoles.mono _ _ _
      | exact LeO.none _
      | refine LeO.ite ?_ ?_
      | refine LeO.bind ?_ (fun _ => ?_)
    · intro y0 y1 y2 y3 y4
      unfold laws_FnHoles.j2
      repeat' first
      | (with_reducible exact ih0 _ _ _ _ _ _ _ _ _ _ _ _)
      | (with_reducible exact ih1 _ _ _ _ _ _ _ _)
      | (with_reducible exact ih2 _ _ _ _ _)
      | (with_reducible exact impl_AreHoles.mono _ _)
      | (with_reducible exact impl_EvenHoles.mono _ _ _ _)
      | (with_reducible exact impl_InsideLength.mono _ _)
      | (with_reducible exact impl_MirrorHoles.mono _ _ _)
      | (with_reducible exact laws_likeInts.mono _ _ _)
      | (with_reducible exact spec_AreHoles.mono _ _)
      | (with_reducible exact spec_DrawEvenHoles.mono _ _)
      | (with_reducible exact spec_DrawInsideLength.mono _ _)
      | (with_reducible exact spec_DrawMirrorHoles.mono _ _)
      | (with_reducible exact spec_EvenHoles.mono _ _ _ _)
      | (with_reducible exact spec_InsideLength.mono _ _)
      | (with_reducible exact spec_MirrorHoles.mono _ _ _)
      | (with_reducible exact LeO.refl _)
      | (with_reducible exact LeO.none _)
      | (with_reducible refine LeO.ite ?_ ?_)
      | (with_reducible refine LeO.bind ?_ (fun _ => ?_))
      | exact ih0 _ _ _ _ _ _ _ _ _ _ _ _
      | exact ih1 _ _ _ _ _ _ _ _
      | exact ih2 _ _ _ _ _
      | exact impl_AreHoles.mono _ _
      | exact impl_EvenHoles.mono _ _ _ _
      | exact impl_InsideLength.mono _ _
      | exact impl_MirrorHoles.mono _ _ _
      | exact laws_likeInts.mono _ _ _
      | exact spec_AreHoles.mono _ _
      | exact spec_DrawEvenHoles.mono _ _
      | exact spec_DrawInsideLength.mono _ _
      | exact spec_DrawMirrorHoles.mono _ _
      | exact spec_EvenHoles.mono _ _ _ _
      | exact spec_InsideLength.mono _ _
      | exact spec_MirrorHoles.mono _ _ _
      | exact LeO.none _
      | refine LeO.ite ?_ ?_
      | refine LeO.bind ?_ (fun _ => ?_)
theorem laws_FnHoles.mono : ∀ a0 k, LeO (laws_FnHoles.f k a0) (laws_FnHoles.f (k + 1) a0) := by
  intro a0 k
  obtain ⟨ih0, ih1, ih2⟩ := laws_FnHoles.mono_l k
  unfold laws_FnHoles.f
  repeat' first
      | (with_reducible exact ih0 _ _ _ _ _ _ _ _ _ _ _ _)
      | (with_reducible exact ih1 _ _ _ _ _ _ _ _)
      | (with_reducible exact ih2 _ _ _ _ _)
      | (with_reducible exact impl_AreHoles.mono _ _)
      | (with_reducible exact impl_EvenHoles.mono _ _ _ _)
      | (with_reducible exact impl_InsideLength.mono _ _)
      | (with_reducible exact impl_MirrorHoles.mono _ _ _)
      | (with_reducible exact laws_likeInts.mono _ _ _)
      | (with_reducible exact spec_AreHoles.mono _ _)
      | (with_reducible exact spec_DrawEvenHoles.mono _ _)
      | (with_reducible exact spec_DrawInsideLength.mono _ _)
      | (with_reducible exact spec_DrawMirrorHoles.mono _ _)
      | (with_reducible exact spec_EvenHoles.mono _ _ _ _)
      | (with_reducible exact spec_InsideLength.mono _ _)
      | (with_reducible exact spec_MirrorHoles.mono _ _ _)
      | (with_reducible exact LeO.refl _)
      | (with_reducible exact LeO.none _)
      | (with_reducible refine LeO.ite ?_ ?_)
      | (with_reducible refine LeO.bind ?_ (fun _ => ?_))
      | exact ih0 _ _ _ _ _ _ _ _ _ _ _ _
      | exact ih1 _ _ _ _ _ _ _ _
      | exact ih2 _ _ _ _ _
      | exact impl_AreHoles.mono _ _
      | exact impl_EvenHoles.mono _ _ _ _
      | exact impl_InsideLength.mono _ _
      | exact impl_MirrorHoles.mono _ _ _
      | exact laws_likeInts.mono _ _ _
      | exact spec_AreHoles.mono _ _
      | exact spec_DrawEvenHoles.mono _ _
      | exact spec_DrawInsideLength.mono _ _
      | exact spec_DrawMirrorHoles.mono _ _
      | exact spec_EvenHoles.mono _ _ _ _
      | exact spec_InsideLength.mono _ _
      | exact spec_MirrorHoles.mono _ _ _
      | exact LeO.none _
      | refine LeO.ite ?_ ?_
      | refine LeO.bind ?_ (fun _ => ?_)
set_option maxHeartbeats 8000000 in
set_option maxRecDepth 100000 in
theorem laws_FnHoles.calls (k : Nat) (A0 : Option Addr) (c0 : Nat) (l0 : List Int) (r : Bool) (w : World) (hr0 : Kd.C (Kd.int .u8) w A0 l0.length l0) (hc0 : l0.length ≤ c0) (h : laws_FnHoles.f k l0 = some r) :
    Calls Try.prog 3 #[.slice A0 l0.length c0] w fun e w' => e = .returned (.bool r) ∧ Below w.heap.size w w' := by
  have HR0 := Aside0.mk hr0
  have HC0 := Aside0.mk hc0
  clear hr0 hc0
  have HB := Aside0.mk (Below.refl w.heap.size w)
  have H : ((laws_big.f l0).bind fun t268 => (if t268 = true then (some true) else ((spec_DrawMirrorHoles.f k l0).bind fun bt269 => ((impl_MirrorHoles.f k bt269.1 bt269.2).bind fun bt273 => ((spec_MirrorHoles.f k bt269.1 bt269.2).bind fun bt277 => ((spec_DrawEvenHoles.f k l0).bind fun bt281 => ((impl_EvenHoles.f k bt281.1 bt281.2.1 bt281.2.2).bind fun bt284 => ((spec_EvenHoles.f k bt281.1 bt281.2.1 bt281.2.2).bind fun bt288 => ((spec_DrawInsideLength.f k l0).bind fun t292 => ((impl_InsideLength.f k t292).bind fun bt295 => ((spec_InsideLength.f k t292).bind fun bt297 => (if bt273.2 = bt277.2 then ((laws_likeInts.f k bt273.1 bt277.1).bind fun t299 => (if t299 = true then (if bt284.2 = bt288.2 then ((laws_likeInts.f k bt284.1 bt288.1).bind fun t300 => (if t300 = true then (if bt295.2 = bt297.2 then (if bt295.1 = bt297.1 then ((impl_AreHoles.f k t292).bind fun t301 => ((spec_AreHoles.f k t292).bind fun t302 => (laws_FnHoles.j0 k bt269.1 bt269.2 bt273.1 bt273.2 bt281.1 bt281.2.2 bt284.1 bt284.2 t292 bt295.1 bt295.2 (t301 != t302)))) else (laws_FnHoles.j0 k bt269.1 bt269.2 bt273.1 bt273.2 bt281.1 bt281.2.2 bt284.1 bt284.2 t292 bt295.1 bt295.2 true)) else (laws_FnHoles.j0 k bt269.1 bt269.2 bt273.1 bt273.2 bt281.1 bt281.2.2 bt284.1 bt284.2 t292 bt295.1 bt295.2 true)) else (laws_FnHoles.j0 k bt269.1 bt269.2 bt273.1 bt273.2 bt281.1 bt281.2.2 bt284.1 bt284.2 t292 bt295.1 bt295.2 true))) else (laws_FnHoles.j0 k bt269.1 bt269.2 bt273.1 bt273.2 bt281.1 bt281.2.2 bt284.1 bt284.2 t292 bt295.1 bt295.2 true)) else (laws_FnHoles.j0 k bt269.1 bt269.2 bt273.1 bt273.2 bt281.1 bt281.2.2 bt284.1 bt284.2 t292 bt295.1 bt295.2 true))) else (laws_FnHoles.j0 k bt269.1 bt269.2 bt273.1 bt273.2 bt281.1 bt281.2.2 bt284.1 bt284.2 t292 bt295.1 bt295.2 true))))))))))))) = some r := h
  clear h
  replace H := Option.bind_eq_some_iff.mp H
  obtain ⟨t268, A20, H⟩ := H
  replace H : (if t268 = true then (some true) else ((spec_DrawMirrorHoles.f k l0).bind fun bt269 => ((impl_MirrorHoles.f k bt269.1 bt269.2).bind fun bt273 => ((spec_MirrorHoles.f k bt269.1 bt269.2).bind fun bt277 => ((spec_DrawEvenHoles.f k l0).bind fun bt281 => ((impl_EvenHoles.f k bt281.1 bt281.2.1 bt281.2.2).bind fun bt284 => ((spec_EvenHoles.f k bt281.1 bt281.2.1 bt281.2.2).bind fun bt288 => ((spec_DrawInsideLength.f k l0).bind fun t292 => ((impl_InsideLength.f k t292).bind fun bt295 => ((spec_InsideLength.f k t292).bind fun bt297 => (if bt273.2 = bt277.2 then ((laws_likeInts.f k bt273.1 bt277.1).bind fun t299 => (if t299 = true then (if bt284.2 = bt288.2 then ((laws_likeInts.f k bt284.1 bt288.1).bind fun t300 => (if t300 = true then (if bt295.2 = bt297.2 then (if bt295.1 = bt297.1 then ((impl_AreHoles.f k t292).bind fun t301 => ((spec_AreHoles.f k t292).bind fun t302 => (laws_FnHoles.j0 k bt269.1 bt269.2 bt273.1 bt273.2 bt281.1 bt281.2.2 bt284.1 bt284.2 t292 bt295.1 bt295.2 (t301 != t302)))) else (laws_FnHoles.j0 k bt269.1 bt269.2 bt273.1 bt273.2 bt281.1 bt281.2.2 bt284.1 bt284.2 t292 bt295.1 bt295.2 true)) else (laws_FnHoles.j0 k bt269.1 bt269.2 bt273.1 bt273.2 bt281.1 bt281.2.2 bt284.1 bt284.2 t292 bt295.1 bt295.2 true)) else (laws_FnHoles.j0 k bt269.1 bt269.2 bt273.1 bt273.2 bt281.1 bt281.2.2 bt284.1 bt284.2 t292 bt295.1 bt295.2 true))) else (laws_FnHoles.j0 k bt269.1 bt269.2 bt273.1 bt273.2 bt281.1 bt281.2.2 bt284.1 bt284.2 t292 bt295.1 bt295.2 true)) else (laws_FnHoles.j0 k bt269.1 bt269.2 bt273.1 bt273.2 bt281.1 bt281.2.2 bt284.1 bt284.2 t292 bt295.1 bt295.2 true))) else (laws_FnHoles.j0 k bt269.1 bt269.2 bt273.1 bt273.2 bt281.1 bt281.2.2 bt284.1 bt284.2 t292 bt295.1 bt295.2 true)))))))))))) = some r := H
  have A2 := Aside0.mk A20
  clear A20
  by_cases c3 : t268 = true
  · subst c3
    have H1 : (some true) = some r := by rw [if_pos rfl] at H; exact H
    clear H
    have H := H1
    clear H1
    obtain rfl := Option.some.inj H
    go_enter Try.func3, Try.ntmps3
    go_wp2_with (first | (go_at_call 5; (with_reducible refine (laws_big.calls _ _ l0 true _ ?side1 ?side2 A2.out).mono ?_); (case side1 => repeat (first | exact HR0.out | (with_reducible refine Kd.C_alloc ?_ _) | (with_reducible refine Kd.C_drewN ?_ _) | (with_reducible refine Kd.C_drew ?_))); (case side2 => exact HC0.out); rintro e w' ⟨rfl, ⟨nd, rfl⟩⟩; (try first | exact ⟨rfl, _, World.drewN_drewN _ _ _⟩ | exact ⟨rfl, _, Eq.trans (World.drewN_drewN _ _ _) (congrArg (World.drewN _) (Nat.add_assoc _ _ _))⟩)))
    repeat (go_quiet (first | (go_at_call 5; (with_reducible refine (laws_big.calls _ _ l0 true _ ?side1 ?side2 A2.out).mono ?_); (case side1 => repeat (first | exact HR0.out | (with_reducible refine Kd.C_alloc ?_ _) | (with_reducible refine Kd.C_drewN ?_ _) | (with_reducible refine Kd.C_drew ?_))); (case side2 => exact HC0.out); rintro e w' ⟨rfl, ⟨nd, rfl⟩⟩; (try first | exact ⟨rfl, _, World.drewN_drewN _ _ _⟩ | exact ⟨rfl, _, Eq.trans (World.drewN_drewN _ _ _) (congrArg (World.drewN _) (Nat.add_assoc _ _ _))⟩))); try go_wp2_with (first | (go_at_call 5; (with_reducible refine (laws_big.calls _ _ l0 true _ ?side1 ?side2 A2.out).mono ?_); (case side1 => repeat (first | exact HR0.out | (with_reducible refine Kd.C_alloc ?_ _) | (with_reducible refine Kd.C_drewN ?_ _) | (with_reducible refine Kd.C_drew ?_))); (case side2 => exact HC0.out); rintro e w' ⟨rfl, ⟨nd, rfl⟩⟩; (try first | exact ⟨rfl, _, World.drewN_drewN _ _ _⟩ | exact ⟨rfl, _, Eq.trans (World.drewN_drewN _ _ _) (congrArg (World.drewN _) (Nat.add_assoc _ _ _))⟩))))
    go_ret
    exact ⟨by first | rfl | (simp [errW_none, errW_some] <;> rfl) | (simp [*, errW_none, errW_some] <;> rfl), by repeat (first | (with_reducible first | exact HB.out | apply below_alloc | apply pw_below_drewN | apply below_drew1) | exact HB.out)⟩
  · replace c3 := Bool.eq_false_iff.mpr c3
    subst c3
    have H1 : ((spec_DrawMirrorHoles.f k l0).bind fun bt269 => ((impl_MirrorHoles.f k bt269.1 bt269.2).bind fun bt273 => ((spec_MirrorHoles.f k bt269.1 bt269.2).bind fun bt277 => ((spec_DrawEvenHoles.f k l0).bind fun bt281 => ((impl_EvenHoles.f k bt281.1 bt281.2.1 bt281.2.2).bind fun bt284 => ((spec_EvenHoles.f k bt281.1 bt281.2.1 bt281.2.2).bind fun bt288 => ((spec_DrawInsideLength.f k l0).bind fun t292 => ((impl_InsideLength.f k t292).bind fun bt295 => ((spec_InsideLength.f k t292).bind fun bt297 => (if bt273.2 = bt277.2 then ((laws_likeInts.f k bt273.1 bt277.1).bind fun t299 => (if t299 = true then (if bt284.2 = bt288.2 then ((laws_likeInts.f k bt284.1 bt288.1).bind fun t300 => (if t300 = true then (if bt295.2 = bt297.2 then (if bt295.1 = bt297.1 then ((impl_AreHoles.f k t292).bind fun t301 => ((spec_AreHoles.f k t292).bind fun t302 => (laws_FnHoles.j0 k bt269.1 bt269.2 bt273.1 bt273.2 bt281.1 bt281.2.2 bt284.1 bt284.2 t292 bt295.1 bt295.2 (t301 != t302)))) else (laws_FnHoles.j0 k bt269.1 bt269.2 bt273.1 bt273.2 bt281.1 bt281.2.2 bt284.1 bt284.2 t292 bt295.1 bt295.2 true)) else (laws_FnHoles.j0 k bt269.1 bt269.2 bt273.1 bt273.2 bt281.1 bt281.2.2 bt284.1 bt284.2 t292 bt295.1 bt295.2 true)) else (laws_FnHoles.j0 k bt269.1 bt269.2 bt273.1 bt273.2 bt281.1 bt281.2.2 bt284.1 bt284.2 t292 bt295.1 bt295.2 true))) else (laws_FnHoles.j0 k bt269.1 bt269.2 bt273.1 bt273.2 bt281.1 bt281.2.2 bt284.1 bt284.2 t292 bt295.1 bt295.2 true)) else (laws_FnHoles.j0 k bt269.1 bt269.2 bt273.1 bt273.2 bt281.1 bt281.2.2 bt284.1 bt284.2 t292 bt295.1 bt295.2 true))) else (laws_FnHoles.j0 k bt269.1 bt269.2 bt273.1 bt273.2 bt281.1 bt281.2.2 bt284.1 bt284.2 t292 bt295.1 bt295.2 true))))))))))) = some r := by rw [if_neg (show ¬ (false = true) by decide)] at H; exact H
    clear H
    have H := H1
    clear H1
    replace H := Option.bind_eq_some_iff.mp H
    obtain ⟨⟨t269, t270⟩, A40, H⟩ := H
    replace H : ((impl_MirrorHoles.f k t269 t270).bind fun bt273 => ((spec_MirrorHoles.f k t269 t270).bind fun bt277 => ((spec_DrawEvenHoles.f k l0).bind fun bt281 => ((impl_EvenHoles.f k bt281.1 bt281.2.1 bt281.2.2).bind fun bt284 => ((spec_EvenHoles.f k bt281.1 bt281.2.1 bt281.2.2).bind fun bt288 => ((spec_DrawInsideLength.f k l0).bind fun t292 => ((impl_InsideLength.f k t292).bind fun bt295 => ((spec_InsideLength.f k t292).bind fun bt297 => (if bt273.2 = bt277.2 then ((laws_likeInts.f k bt273.1 bt277.1).bind fun t299 => (if t299 = true then (if bt284.2 = bt288.2 then ((laws_likeInts.f k bt284.1 bt288.1).bind fun t300 => (if t300 = true then (if bt295.2 = bt297.2 then (if bt295.1 = bt297.1 then ((impl_AreHoles.f k t292).bind fun t301 => ((spec_AreHoles.f k t292).bind fun t302 => (laws_FnHoles.j0 k t269 t270 bt273.1 bt273.2 bt281.1 bt281.2.2 bt284.1 bt284.2 t292 bt295.1 bt295.2 (t301 != t302)))) else (laws_FnHoles.j0 k t269 t270 bt273.1 bt273.2 bt281.1 bt281.2.2 bt284.1 bt284.2 t292 bt295.1 bt295.2 true)) else (laws_FnHoles.j0 k t269 t270 bt273.1 bt273.2 bt281.1 bt281.2.2 bt284.1 bt284.2 t292 bt295.1 bt295.2 true)) else (laws_FnHoles.j0 k t269 t270 bt273.1 bt273.2 bt281.1 bt281.2.2 bt284.1 bt284.2 t292 bt295.1 bt295.2 true))) else (laws_FnHoles.j0 k t269 t270 bt273.1 bt273.2 bt281.1 bt281.2.2 bt284.1 bt284.2 t292 bt295.1 bt295.2 true)) else (laws_FnHoles.j0 k t269 t270 bt273.1 bt273.2 bt281.1 bt281.2.2 bt284.1 bt284.2 t292 bt295.1 bt295.2 true))) else (laws_FnHoles.j0 k t269 t270 bt273.1 bt273.2 bt281.1 bt281.2.2 bt284.1 bt284.2 t292 bt295.1 bt295.2 true)))))))))) = some r := H
    have A4 := Aside0.mk A40
    clear A40
    replace H := Option.bind_eq_some_iff.mp H
    obtain ⟨⟨t273, t274⟩, A50, H⟩ := H
    replace H : ((spec_MirrorHoles.f k t269 t270).bind fun bt277 => ((spec_DrawEvenHoles.f k l0).bind fun bt281 => ((impl_EvenHoles.f k bt281.1 bt281.2.1 bt281.2.2).bind fun bt284 => ((spec_EvenHoles.f k bt281.1 bt281.2.1 bt281.2.2).bind fun bt288 => ((spec_DrawInsideLength.f k l0).bind fun t292 => ((impl_InsideLength.f k t292).bind fun bt295 => ((spec_InsideLength.f k t292).bind fun bt297 => (if t274 = bt277.2 then ((laws_likeInts.f k t273 bt277.1).bind fun t299 => (if t299 = true then (if bt284.2 = bt288.2 then ((laws_likeInts.f k bt284.1 bt288.1).bind fun t300 => (if t300 = true then (if bt295.2 = bt297.2 then (if bt295.1 = bt297.1 then ((impl_AreHoles.f k t292).bind fun t301 => ((spec_AreHoles.f k t292).bind fun t302 => (laws_FnHoles.j0 k t269 t270 t273 t274 bt281.1 bt281.2.2 bt284.1 bt284.2 t292 bt295.1 bt295.2 (t301 != t302)))) else (laws_FnHoles.j0 k t269 t270 t273 t274 bt281.1 bt281.2.2 bt284.1 bt284.2 t292 bt295.1 bt295.2 true)) else (laws_FnHoles.j0 k t269 t270 t273 t274 bt281.1 bt281.2.2 bt284.1 bt284.2 t292 bt295.1 bt295.2 true)) else (laws_FnHoles.j0 k t269 t270 t273 t274 bt281.1 bt281.2.2 bt284.1 bt284.2 t292 bt295.1 bt295.2 true))) else (laws_FnHoles.j0 k t269 t270 t273 t274 bt281.1 bt281.2.2 bt284.1 bt284.2 t292 bt295.1 bt295.2 true)) else (laws_FnHoles.j0 k t269 t270 t273 t274 bt281.1 bt281.2.2 bt284.1 bt284.2 t292 bt295.1 bt295.2 true))) else (laws_FnHoles.j0 k t269 t270 t273 t274 bt281.1 bt281.2.2 bt284.1 bt284.2 t292 bt295.1 bt295.2 true))))))))) = some r := H
    have A5 := Aside0.mk A50
    clear A50
    replace H := Option.bind_eq_some_iff.mp H
    obtain ⟨⟨t277, t278⟩, A60, H⟩ := H
    replace H : ((spec_DrawEvenHoles.f k l0).bind fun bt281 => ((impl_EvenHoles.f k bt281.1 bt281.2.1 bt281.2.2).bind fun bt284 => ((spec_EvenHoles.f k bt281.1 bt281.2.1 bt281.2.2).bind fun bt288 => ((spec_DrawInsideLength.f k l0).bind fun t292 => ((impl_InsideLength.f k t292).bind fun bt295 => ((spec_InsideLength.f k t292).bind fun bt297 => (if t274 = t278 then ((laws_likeInts.f k t273 t277).bind fun t299 => (if t299 = true then (if bt284.2 = bt288.2 then ((laws_likeInts.f k bt284.1 bt288.1).bind fun t300 => (if t300 = true then (if bt295.2 = bt297.2 then (if bt295.1 = bt297.1 then ((impl_AreHoles.f k t292).bind fun t301 => ((spec_AreHoles.f k t292).bind fun t302 => (laws_FnHoles.j0 k t269 t270 t273 t274 bt281.1 bt281.2.2 bt284.1 bt284.2 t292 bt295.1 bt295.2 (t301 != t302)))) else (laws_FnHoles.j0 k t269 t270 t273 t274 bt281.1 bt281.2.2 bt284.1 bt284.2 t292 bt295.1 bt295.2 true)) else (laws_FnHoles.j0 k t269 t270 t273 t274 bt281.1 bt281.2.2 bt284.1 bt284.2 t292 bt295.1 bt295.2 true)) else (laws_FnHoles.j0 k t269 t270 t273 t274 bt281.1 bt281.2.2 bt284.1 bt284.2 t292 bt295.1 bt295.2 true))) else (laws_FnHoles.j0 k t269 t270 t273 t274 bt281.1 bt281.2.2 bt284.1 bt284.2 t292 bt295.1 bt295.2 true)) else (laws_FnHoles.j0 k t269 t270 t273 t274 bt281.1 bt281.2.2 bt284.1 bt284.2 t292 bt295.1 bt295.2 true))) else (laws_FnHoles.j0 k t269 t270 t273 t274 bt281.1 bt281.2.2 bt284.1 bt284.2 t292 bt295.1 bt295.2 true)))))))) = some r := H
    have A6 := Aside0.mk A60
    clear A60
    replace H := Option.bind_eq_some_iff.mp H
    obtain ⟨⟨t281, t282, t283⟩, A70, H⟩ := H
    replace H : ((impl_EvenHoles.f k t281 t282 t283).bind fun bt284 => ((spec_EvenHoles.f k t281 t282 t283).bind fun bt288 => ((spec_DrawInsideLength.f k l0).bind fun t292 => ((impl_InsideLength.f k t292).bind fun bt295 => ((spec_InsideLength.f k t292).bind fun bt297 => (if t274 = t278 then ((laws_likeInts.f k t273 t277).bind fun t299 => (if t299 = true then (if bt284.2 = bt288.2 then ((laws_likeInts.f k bt284.1 bt288.1).bind fun t300 => (if t300 = true then (if bt295.2 = bt297.2 then (if bt295.1 = bt297.1 then ((impl_AreHoles.f k t292).bind fun t301 => ((spec_AreHoles.f k t292).bind fun t302 => (laws_FnHoles.j0 k t269 t270 t273 t274 t281 t283 bt284.1 bt284.2 t292 bt295.1 bt295.2 (t301 != t302)))) else (laws_FnHoles.j0 k t269 t270 t273 t274 t281 t283 bt284.1 bt284.2 t292 bt295.1 bt295.2 true)) else (laws_FnHoles.j0 k t269 t270 t273 t274 t281 t283 bt284.1 bt284.2 t292 bt295.1 bt295.2 true)) else (laws_FnHoles.j0 k t269 t270 t273 t274 t281 t283 bt284.1 bt284.2 t292 bt295.1 bt295.2 true))) else (laws_FnHoles.j0 k t269 t270 t273 t274 t281 t283 bt284.1 bt284.2 t292 bt295.1 bt295.2 true)) else (laws_FnHoles.j0 k t269 t270 t273 t274 t281 t283 bt284.1 bt284.2 t292 bt295.1 bt295.2 true))) else (laws_FnHoles.j0 k t269 t270 t273 t274 t281 t283 bt284.1 bt284.2 t292 bt295.1 bt295.2 true))))))) = some r := H
    have A7 := Aside0.mk A70
    clear A70
    replace H := Option.bind_eq_some_iff.mp H
    obtain ⟨⟨t284, t285⟩, A80, H⟩ := H
    replace H : ((spec_EvenHoles.f k t281 t282 t283).bind fun bt288 => ((spec_DrawInsideLength.f k l0).bind fun t292 => ((impl_InsideLength.f k t292).bind fun bt295 => ((spec_InsideLength.f k t292).bind fun bt297 => (if t274 = t278 then ((laws_likeInts.f k t273 t277).bind fun t299 => (if t299 = true then (if t285 = bt288.2 then ((laws_likeInts.f k t284 bt288.1).bind fun t300 => (if t300 = true then (if bt295.2 = bt297.2 then (if bt295.1 = bt297.1 then ((impl_AreHoles.f k t292).bind fun t301 => ((spec_AreHoles.f k t292).bind fun t302 => (laws_FnHoles.j0 k t269 t270 t273 t274 t281 t283 t284 t285 t292 bt295.1 bt295.2 (t301 != t302)))) else (laws_FnHoles.j0 k t269 t270 t273 t274 t281 t283 t284 t285 t292 bt295.1 bt295.2 true)) else (laws_FnHoles.j0 k t269 t270 t273 t274 t281 t283 t284 t285 t292 bt295.1 bt295.2 true)) else (laws_FnHoles.j0 k t269 t270 t273 t274 t281 t283 t284 t285 t292 bt295.1 bt295.2 true))) else (laws_FnHoles.j0 k t269 t270 t273 t274 t281 t283 t284 t285 t292 bt295.1 bt295.2 true)) else (laws_FnHoles.j0 k t269 t270 t273 t274 t281 t283 t284 t285 t292 bt295.1 bt295.2 true))) else (laws_FnHoles.j0 k t269 t270 t273 t274 t281 t283 t284 t285 t292 bt295.1 bt295.2 true)))))) = some r := H
    have A8 := Aside0.mk A80
    clear A80
    replace H := Option.bind_eq_some_iff.mp H
    obtain ⟨⟨t288, t289⟩, A90, H⟩ := H
    replace H : ((spec_DrawInsideLength.f k l0).bind fun t292 => ((impl_InsideLength.f k t292).bind fun bt295 => ((spec_InsideLength.f k t292).bind fun bt297 => (if t274 = t278 then ((laws_likeInts.f k t273 t277).bind fun t299 => (if t299 = true then (if t285 = t289 then ((laws_likeInts.f k t284 t288).bind fun t300 => (if t300 = true then (if bt295.2 = bt297.2 then (if bt295.1 = bt297.1 then ((impl_AreHoles.f k t292).bind fun t301 => ((spec_AreHoles.f k t292).bind fun t302 => (laws_FnHoles.j0 k t269 t270 t273 t274 t281 t283 t284 t285 t292 bt295.1 bt295.2 (t301 != t302)))) else (laws_FnHoles.j0 k t269 t270 t273 t274 t281 t283 t284 t285 t292 bt295.1 bt295.2 true)) else (laws_FnHoles.j0 k t269 t270 t273 t274 t281 t283 t284 t285 t292 bt295.1 bt295.2 true)) else (laws_FnHoles.j0 k t269 t270 t273 t274 t281 t283 t284 t285 t292 bt295.1 bt295.2 true))) else (laws_FnHoles.j0 k t269 t270 t273 t274 t281 t283 t284 t285 t292 bt295.1 bt295.2 true)) else (laws_FnHoles.j0 k t269 t270 t273 t274 t281 t283 t284 t285 t292 bt295.1 bt295.2 true))) else (laws_FnHoles.j0 k t269 t270 t273 t274 t281 t283 t284 t285 t292 bt295.1 bt295.2 true))))) = some r := H
    have A9 := Aside0.mk A90
    clear A90
    replace H := Option.bind_eq_some_iff.mp H
    obtain ⟨t292, A100, H⟩ := H
    replace H : ((impl_InsideLength.f k t292).bind fun bt295 => ((spec_InsideLength.f k t292).bind fun bt297 => (if t274 = t278 then ((laws_likeInts.f k t273 t277).bind fun t299 => (if t299 = true then (if t285 = t289 then ((laws_likeInts.f k t284 t288).bind fun t300 => (if t300 = true then (if bt295.2 = bt297.2 then (if bt295.1 = bt297.1 then ((impl_AreHoles.f k t292).bind fun t301 => ((spec_AreHoles.f k t292).bind fun t302 => (laws_FnHoles.j0 k t269 t270 t273 t274 t281 t283 t284 t285 t292 bt295.1 bt295.2 (t301 != t302)))) else (laws_FnHoles.j0 k t269 t270 t273 t274 t281 t283 t284 t285 t292 bt295.1 bt295.2 true)) else (laws_FnHoles.j0 k t269 t270 t273 t274 t281 t283 t284 t285 t292 bt295.1 bt295.2 true)) else (laws_FnHoles.j0 k t269 t270 t273 t274 t281 t283 t284 t285 t292 bt295.1 bt295.2 true))) else (laws_FnHoles.j0 k t269 t270 t273 t274 t281 t283 t284 t285 t292 bt295.1 bt295.2 true)) else (laws_FnHoles.j0 k t269 t270 t273 t274 t281 t283 t284 t285 t292 bt295.1 bt295.2 true))) else (laws_FnHoles.j0 k t269 t270 t273 t274 t281 t283 t284 t285 t292 bt295.1 bt295.2 true)))) = some r := H
    have A10 := Aside0.mk A100
    clear A100
    replace H := Option.bind_eq_some_iff.mp H
    obtain ⟨⟨t295, t296⟩, A110, H⟩ := H
    replace H : ((spec_InsideLength.f k t292).bind fun bt297 => (if t274 = t278 then ((laws_likeInts.f k t273 t277).bind fun t299 => (if t299 = true then (if t285 = t289 then ((laws_likeInts.f k t284 t288).bind fun t300 => (if t300 = true then (if t296 = bt297.2 then (if t295 = bt297.1 then ((impl_AreHoles.f k t292).bind fun t301 => ((spec_AreHoles.f k t292).bind fun t302 => (laws_FnHoles.j0 k t269 t270 t273 t274 t281 t283 t284 t285 t292 t295 t296 (t301 != t302)))) else (laws_FnHoles.j0 k t269 t270 t273 t274 t281 t283 t284 t285 t292 t295 t296 true)) else (laws_FnHoles.j0 k t269 t270 t273 t274 t281 t283 t284 t285 t292 t295 t296 true)) else (laws_FnHoles.j0 k t269 t270 t273 t274 t281 t283 t284 t285 t292 t295 t296 true))) else (laws_FnHoles.j0 k t269 t270 t273 t274 t281 t283 t284 t285 t292 t295 t296 true)) else (laws_FnHoles.j0 k t269 t270 t273 t274 t281 t283 t284 t285 t292 t295 t296 true))) else (laws_FnHoles.j0 k t269 t270 t273 t274 t281 t283 t284 t285 t292 t295 t296 true))) = some r := H
    have A11 := Aside0.mk A110
    clear A110
    replace H := Option.bind_eq_some_iff.mp H
    obtain ⟨⟨t297, t298⟩, A120, H⟩ := H
    replace H : (if t274 = t278 then ((laws_likeInts.f k t273 t277).bind fun t299 => (if t299 = true then (if t285 = t289 then ((laws_likeInts.f k t284 t288).bind fun t300 => (if t300 = true then (if t296 = t298 then (if t295 = t297 then ((impl_AreHoles.f k t292).bind fun t301 => ((spec_AreHoles.f k t292).bind fun t302 => (laws_FnHoles.j0 k t269 t270 t273 t274 t281 t283 t284 t285 t292 t295 t296 (t301 != t302)))) else (laws_FnHoles.j0 k t269 t270 t273 t274 t281 t283 t284 t285 t292 t295 t296 true)) else (laws_FnHoles.j0 k t269 t270 t273 t274 t281 t283 t284 t285 t292 t295 t296 true)) else (laws_FnHoles.j0 k t269 t270 t273 t274 t281 t283 t284 t285 t292 t295 t296 true))) else (laws_FnHoles.j0 k t269 t270 t273 t274 t281 t283 t284 t285 t292 t295 t296 true)) else (laws_FnHoles.j0 k t269 t270 t273 t274 t281 t283 t284 t285 t292 t295 t296 true))) else (laws_FnHoles.j0 k t269 t270 t273 t274 t281 t283 t284 t285 t292 t295 t296 true)) = some r := H
    have A12 := Aside0.mk A120
    clear A120
    have HC13 := Aside0.mk H
    clear H
    go_enter Try.func3, Try.ntmps3
    go_upto_region 12 with (first | (go_at_call 5; (with_reducible refine (laws_big.calls _ _ l0 false _ ?side1 ?side2 A2.out).mono ?_); (case side1 => repeat (first | exact HR0.out | (with_reducible refine Kd.C_alloc ?_ _) | (with_reducible refine Kd.C_drewN ?_ _) | (with_reducible refine Kd.C_drew ?_))); (case side2 => exact HC0.out); rintro e w' ⟨rfl, ⟨nd, rfl⟩⟩; (try first | exact ⟨rfl, _, World.drewN_drewN _ _ _⟩ | exact ⟨rfl, _, Eq.trans (World.drewN_drewN _ _ _) (congrArg (World.drewN _) (Nat.add_assoc _ _ _))⟩)) | (go_at_call 6; (with_reducible refine (spec_DrawMirrorHoles.calls k _ _ l0 t269 t270 _ ?side1 ?side2 A4.out).mono ?_); (case side1 => repeat (first | exact HR0.out | (with_reducible refine Kd.C_alloc ?_ _) | (with_reducible refine Kd.C_drewN ?_ _) | (with_reducible refine Kd.C_drew ?_))); (case side2 => exact HC0.out); rintro e w14 ⟨v271, rfl, ho0, hb⟩; have n0_ := Aside0.mk (Kd.R_lower ho0 (below_size (by repeat (first | (with_reducible first | exact HB.out | apply below_alloc | apply pw_below_drewN | apply below_drew1) | exact HB.out)))); have n1_ := Aside0.mk (below_step (by repeat (first | (with_reducible first | exact HB.out | apply below_alloc | apply pw_below_drewN | apply below_drew1) | exact HB.out)) hb); clear HB; have HO272 := n0_; have HB := n1_; clear n0_ n1_; (try clear hb); (try clear hb2); (try clear hk); (try clear hi); (try clear ho0); obtain ⟨Ao15, co15, eo15⟩ := Kd.R_slice HO272.out; subst eo15) | (go_at_call 7; (with_reducible refine (impl_MirrorHoles.calls k _ _ t269 t270 t273 t274 _ ?side1 ?side2 A5.out).mono ?_); (case side1 => repeat (first | exact (Kd.R_reads' HO272.out).2.2 | (with_reducible refine Kd.C_alloc ?_ _) | (with_reducible refine Kd.C_drewN ?_ _) | (with_reducible refine Kd.C_drew ?_))); (case side2 => exact (Kd.R_reads' HO272.out).2.1); rintro e w16 ⟨v275, rfl, ho0, hb⟩; have n0_ := Aside0.mk (Kd.R_elder' (by (with_reducible repeat (first | apply Kd.R_alloc | apply Kd.R_drewN | apply Kd.R_drew)); exact HO272.out) (Kd.R_base ho0) hb); have n1_ := Aside0.mk (Kd.R_lower (Kd.R_new' ho0 (Kd.R_lt (by (with_reducible repeat (first | apply Kd.R_alloc | apply Kd.R_drewN | apply Kd.R_drew)); exact HO272.out))) (below_size (by repeat (first | (with_reducible first | exact HB.out | apply below_alloc | apply pw_below_drewN | apply below_drew1) | exact HB.out)))); have n2_ := Aside0.mk (below_step (by repeat (first | (with_reducible first | exact HB.out | apply below_alloc | apply pw_below_drewN | apply below_drew1) | exact HB.out)) hb); clear HO272; clear HB; have HO272 := n0_; have HO276 := n1_; have HB := n2_; clear n0_ n1_ n2_; (try clear hb); (try clear hb2); (try clear hk); (try clear hi); (try clear ho0)) | (go_at_call 8; (with_reducible refine (spec_MirrorHoles.calls k _ _ t269 t270 t277 t278 _ ?side1 ?side2 A6.out).mono ?_); (case side1 => repeat (first | exact (Kd.R_reads' HO272.out).2.2 | (with_reducible refine Kd.C_alloc ?_ _) | (with_reducible refine Kd.C_drewN ?_ _) | (with_reducible refine Kd.C_drew ?_))); (case side2 => exact (Kd.R_reads' HO272.out).2.1); rintro e w17 ⟨v279, rfl, ho0, hb⟩; have n0_ := Aside0.mk (Kd.R_elder' (by (with_reducible repeat (first | apply Kd.R_alloc | apply Kd.R_drewN | apply Kd.R_drew)); exact HO272.out) (Kd.R_base ho0) hb); have n1_ := Aside0.mk (Kd.R_elder' (by (with_reducible repeat (first | apply Kd.R_alloc | apply Kd.R_drewN | apply Kd.R_drew)); exact HO276.out) (Kd.R_base ho0) hb); have n2_ := Aside0.mk (Kd.R_lower (Kd.R_new' (Kd.R_new' ho0 (Kd.R_lt (by (with_reducible repeat (first | apply Kd.R_alloc | apply Kd.R_drewN | apply Kd.R_drew)); exact HO272.out))) (Kd.R_lt (by (with_reducible repeat (first | apply Kd.R_alloc | apply Kd.R_drewN | apply Kd.R_drew)); exact HO276.out))) (below_size (by repeat (first | (with_reducible first | exact HB.out | apply below_alloc | apply pw_below_drewN | apply below_drew1) | exact HB.out)))); have n3_ := Aside0.mk (below_step (by repeat (first | (with_reducible first | exact HB.out | apply below_alloc | apply pw_below_drewN | apply below_drew1) | exact HB.out)) hb); clear HO272; clear HO276; clear HB; have HO272 := n0_; have HO276 := n1_; have HO280 := n2_; have HB := n3_; clear n0_ n1_ n2_ n3_; (try clear hb); (try clear hb2); (try clear hk); (try clear hi); (try clear ho0)) | (go_at_call 9; (with_reducible refine (spec_DrawEvenHoles.calls k _ _ l0 t281 t282 t283 _ ?side1 ?side2 A7.out).mono ?_); (case side1 => repeat (first | exact (Kd.C_below HR0.out HB.out) | (with_reducible refine Kd.C_alloc ?_ _) | (with_reducible refine Kd.C_drewN ?_ _) | (with_reducible refine Kd.C_drew ?_))); (case side2 => exact HC0.out); rintro e w18 ⟨rfl, hb⟩; have n0_ := Aside0.mk (Kd.R_below (by (with_reducible repeat (first | apply Kd.R_alloc | apply Kd.R_drewN | apply Kd.R_drew)); exact HO272.out) hb); have n1_ := Aside0.mk (Kd.R_below (by (with_reducible repeat (first | apply Kd.R_alloc | apply Kd.R_drewN | apply Kd.R_drew)); exact HO276.out) hb); have n2_ := Aside0.mk (Kd.R_below (by (with_reducible repeat (first | apply Kd.R_alloc | apply Kd.R_drewN | apply Kd.R_drew)); exact HO280.out) hb); have n3_ := Aside0.mk (below_step (by repeat (first | (with_reducible first | exact HB.out | apply below_alloc | apply pw_below_drewN | apply below_drew1) | exact HB.out)) hb); clear HO272; clear HO276; clear HO280; clear HB; have HO272 := n0_; have HO276 := n1_; have HO280 := n2_; have HB := n3_; clear n0_ n1_ n2_ n3_; (try clear hb); (try clear hb2); (try clear hk); (try clear hi)) | (go_at_call 10; (with_reducible refine (impl_EvenHoles.calls k t281 t282 t283 t284 t285 _ A8.out).mono ?_); rintro e w19 ⟨v286, rfl, ho0, hb⟩; have n0_ := Aside0.mk (Kd.R_elder' (by (with_reducible repeat (first | apply Kd.R_alloc | apply Kd.R_drewN | apply Kd.R_drew)); exact HO272.out) (Kd.R_base ho0) hb); have n1_ := Aside0.mk (Kd.R_elder' (by (with_reducible repeat (first | apply Kd.R_alloc | apply Kd.R_drewN | apply Kd.R_drew)); exact HO276.out) (Kd.R_base ho0) hb); have n2_ := Aside0.mk (Kd.R_elder' (by (with_reducible repeat (first | apply Kd.R_alloc | apply Kd.R_drewN | apply Kd.R_drew)); exact HO280.out) (Kd.R_base ho0) hb); have n3_ := Aside0.mk (Kd.R_lower (Kd.R_new' (Kd.R_new' (Kd.R_new' ho0 (Kd.R_lt (by (with_reducible repeat (first | apply Kd.R_alloc | apply Kd.R_drewN | apply Kd.R_drew)); exact HO272.out))) (Kd.R_lt (by (with_reducible repeat (first | apply Kd.R_alloc | apply Kd.R_drewN | apply Kd.R_drew)); exact HO276.out))) (Kd.R_lt (by (with_reducible repeat (first | apply Kd.R_alloc | apply Kd.R_drewN | apply Kd.R_drew)); exact HO280.out))) (below_size (by repeat (first | (with_reducible first | exact HB.out | apply below_alloc | apply pw_below_drewN | apply below_drew1) | exact HB.out)))); have n4_ := Aside0.mk (below_step (by repeat (first | (with_reducible first | exact HB.out | apply below_alloc | apply pw_below_drewN | apply below_drew1) | exact HB.out)) hb); clear HO272; clear HO276; clear HO280; clear HB; have HO272 := n0_; have HO276 := n1_; have HO280 := n2_; have HO287 := n3_; have HB := n4_; clear n0_ n1_ n2_ n3_ n4_; (try clear hb); (try clear hb2); (try clear hk); (try clear hi); (try clear ho0)) | (go_at_call 11; (with_reducible refine (spec_EvenHoles.calls k t281 t282 t283 t288 t289 _ A9.out).mono ?_); rintro e w20 ⟨v290, rfl, ho0, hb⟩; have n0_ := Aside0.mk (Kd.R_elder' (by (with_reducible repeat (first | apply Kd.R_alloc | apply Kd.R_drewN | apply Kd.R_drew)); exact HO272.out) (Kd.R_base ho0) hb); have n1_ := Aside0.mk (Kd.R_elder' (by (with_reducible repeat (first | apply Kd.R_alloc | apply Kd.R_drewN | apply Kd.R_drew)); exact HO276.out) (Kd.R_base ho0) hb); have n2_ := Aside0.mk (Kd.R_elder' (by (with_reducible repeat (first | apply Kd.R_alloc | apply Kd.R_drewN | apply Kd.R_drew)); exact HO280.out) (Kd.R_base ho0) hb); have n3_ := Aside0.mk (Kd.R_elder' (by (with_reducible repeat (first | apply Kd.R_alloc | apply Kd.R_drewN | apply Kd.R_drew)); exact HO287.out) (Kd.R_base ho0) hb); have n4_ := Aside0.mk (Kd.R_lower (Kd.R_new' (Kd.R_new' (Kd.R_new' (Kd.R_new' ho0 (Kd.R_lt (by (with_reducible repeat (first | apply Kd.R_alloc | apply Kd.R_drewN | apply Kd.R_drew)); exact HO272.out))) (Kd.R_lt (by (with_reducible repeat (first | apply Kd.R_alloc | apply Kd.R_drewN | apply Kd.R_drew)); exact HO276.out))) (Kd.R_lt (by (with_reducible repeat (first | apply Kd.R_alloc | apply Kd.R_drewN | apply Kd.R_drew)); exact HO280.out))) (Kd.R_lt (by (with_reducible repeat (first | apply Kd.R_alloc | apply Kd.R_drewN | apply Kd.R_drew)); exact HO287.out))) (below_size (by repeat (first | (with_reducible first | exact HB.out | apply below_alloc | apply pw_below_drewN | apply below_drew1) | exact HB.out)))); have n5_ := Aside0.mk (below_step (by repeat (first | (with_reducible first | exact HB.out | apply below_alloc | apply pw_below_drewN | apply below_drew1) | exact HB.out)) hb); clear HO272; clear HO276; clear HO280; clear HO287; clear HB; have HO272 := n0_; have HO276 := n1_; have HO280 := n2_; have HO287 := n3_; have HO291 := n4_; have HB := n5_; clear n0_ n1_ n2_ n3_ n4_ n5_; (try clear hb); (try clear hb2); (try clear hk); (try clear hi); (try clear ho0)) | (go_at_call 12; (with_reducible refine (spec_DrawInsideLength.calls k _ _ l0 t292 _ ?side1 ?side2 A10.out).mono ?_); (case side1 => repeat (first | exact (Kd.C_below HR0.out HB.out) | (with_reducible refine Kd.C_alloc ?_ _) | (with_reducible refine Kd.C_drewN ?_ _) | (with_reducible refine Kd.C_drew ?_))); (case side2 => exact HC0.out); rintro e w21 ⟨v293, rfl, ho0, hb⟩; have n0_ := Aside0.mk (Kd.R_elder' (by (with_reducible repeat (first | apply Kd.R_alloc | apply Kd.R_drewN | apply Kd.R_drew)); exact HO272.out) (Kd.R_base ho0) hb); have n1_ := Aside0.mk (Kd.R_elder' (by (with_reducible repeat (first | apply Kd.R_alloc | apply Kd.R_drewN | apply Kd.R_drew)); exact HO276.out) (Kd.R_base ho0) hb); have n2_ := Aside0.mk (Kd.R_elder' (by (with_reducible repeat (first | apply Kd.R_alloc | apply Kd.R_drewN | apply Kd.R_drew)); exact HO280.out) (Kd.R_base ho0) hb); have n3_ := Aside0.mk (Kd.R_elder' (by (with_reducible repeat (first | apply Kd.R_alloc | apply Kd.R_drewN | apply Kd.R_drew)); exact HO287.out) (Kd.R_base ho0) hb); have n4_ := Aside0.mk (Kd.R_elder' (by (with_reducible repeat (first | apply Kd.R_alloc | apply Kd.R_drewN | apply Kd.R_drew)); exact HO291.out) (Kd.R_base ho0) hb); have n5_ := Aside0.mk (Kd.R_lower (Kd.R_new' (Kd.R_new' (Kd.R_new' (Kd.R_new' (Kd.R_new' ho0 (Kd.R_lt (by (with_reducible repeat (first | apply Kd.R_alloc | apply Kd.R_drewN | apply Kd.R_drew)); exact HO272.out))) (Kd.R_lt (by (with_reducible repeat (first | apply Kd.R_alloc | apply Kd.R_drewN | apply Kd.R_drew)); exact HO276.out))) (Kd.R_lt (by (with_reducible repeat (first | apply Kd.R_alloc | apply Kd.R_drewN | apply Kd.R_drew)); exact HO280.out))) (Kd.R_lt (by (with_reducible repeat (first | apply Kd.R_alloc | apply Kd.R_drewN | apply Kd.R_drew)); exact HO287.out))) (Kd.R_lt (by (with_reducible repeat (first | apply Kd.R_alloc | apply Kd.R_drewN | apply Kd.R_drew)); exact HO291.out))) (below_size (by repeat (first | (with_reducible first | exact HB.out | apply below_alloc | apply pw_below_drewN | apply below_drew1) | exact HB.out)))); have n6_ := Aside0.mk (below_step (by repeat (first | (with_reducible first | exact HB.out | apply below_alloc | apply pw_below_drewN | apply below_drew1) | exact HB.out)) hb); clear HO272; clear HO276; clear HO280; clear HO287; clear HO291; clear HB; have HO272 := n0_; have HO276 := n1_; have HO280 := n2_; have HO287 := n3_; have HO291 := n4_; have HO294 := n5_; have HB := n6_; clear n0_ n1_ n2_ n3_ n4_ n5_ n6_; (try clear hb); (try clear hb2); (try clear hk); (try clear hi); (try clear ho0); obtain ⟨Ao22, co22, eo22⟩ := Kd.R_slice HO294.out; subst eo22) | (go_at_call 13; (with_reducible refine (impl_InsideLength.calls k _ _ t292 t295 t296 _ ?side1 ?side2 A11.out).mono ?_); (case side1 => repeat (first | exact (Kd.R_reads' HO294.out).2.2 | (with_reducible refine Kd.C_alloc ?_ _) | (with_reducible refine Kd.C_drewN ?_ _) | (with_reducible refine Kd.C_drew ?_))); (case side2 => exact (Kd.R_reads' HO294.out).2.1); rintro e w23 ⟨rfl, hb⟩; have n0_ := Aside0.mk (Kd.R_below (by (with_reducible repeat (first | apply Kd.R_alloc | apply Kd.R_drewN | apply Kd.R_drew)); exact HO272.out) hb); have n1_ := Aside0.mk (Kd.R_below (by (with_reducible repeat (first | apply Kd.R_alloc | apply Kd.R_drewN | apply Kd.R_drew)); exact HO276.out) hb); have n2_ := Aside0.mk (Kd.R_below (by (with_reducible repeat (first | apply Kd.R_alloc | apply Kd.R_drewN | apply Kd.R_drew)); exact HO280.out) hb); have n3_ := Aside0.mk (Kd.R_below (by (with_reducible repeat (first | apply Kd.R_alloc | apply Kd.R_drewN | apply Kd.R_drew)); exact HO287.out) hb); have n4_ := Aside0.mk (Kd.R_below (by (with_reducible repeat (first | apply Kd.R_alloc | apply Kd.R_drewN | apply Kd.R_drew)); exact HO291.out) hb); have n5_ := Aside0.mk (Kd.R_below (by (with_reducible repeat (first | apply Kd.R_alloc | apply Kd.R_drewN | apply Kd.R_drew)); exact HO294.out) hb); have n6_ := Aside0.mk (below_step (by repeat (first | (with_reducible first | exact HB.out | apply below_alloc | apply pw_below_drewN | apply below_drew1) | exact HB.out)) hb); clear HO272; clear HO276; clear HO280; clear HO287; clear HO291; clear HO294; clear HB; have HO272 := n0_; have HO276 := n1_; have HO280 := n2_; have HO287 := n3_; have HO291 := n4_; have HO294 := n5_; have HB := n6_; clear n0_ n1_ n2_ n3_ n4_ n5_ n6_; (try clear hb); (try clear hb2); (try clear hk); (try clear hi)) | (go_at_call 14; (with_reducible refine (spec_InsideLength.calls k _ _ t292 t297 t298 _ ?side1 ?side2 A12.out).mono ?_); (case side1 => repeat (first | exact (Kd.R_reads' HO294.out).2.2 | (with_reducible refine Kd.C_alloc ?_ _) | (with_reducible refine Kd.C_drewN ?_ _) | (with_reducible refine Kd.C_drew ?_))); (case side2 => exact (Kd.R_reads' HO294.out).2.1); rintro e w' ⟨rfl, ⟨nd, rfl⟩⟩; (try first | exact ⟨rfl, _, World.drewN_drewN _ _ _⟩ | exact ⟨rfl, _, Eq.trans (World.drewN_drewN _ _ _) (congrArg (World.drewN _) (Nat.add_assoc _ _ _))⟩)))
    repeat (go_quiet (first | (go_at_call 5; (with_reducible refine (laws_big.calls _ _ l0 false _ ?side1 ?side2 A2.out).mono ?_); (case side1 => repeat (first | exact HR0.out | (with_reducible refine Kd.C_alloc ?_ _) | (with_reducible refine Kd.C_drewN ?_ _) | (with_reducible refine Kd.C_drew ?_))); (case side2 => exact HC0.out); rintro e w' ⟨rfl, ⟨nd, rfl⟩⟩; (try first | exact ⟨rfl, _, World.drewN_drewN _ _ _⟩ | exact ⟨rfl, _, Eq.trans (World.drewN_drewN _ _ _) (congrArg (World.drewN _) (Nat.add_assoc _ _ _))⟩)) | (go_at_call 6; (with_reducible refine (spec_DrawMirrorHoles.calls k _ _ l0 t269 t270 _ ?side1 ?side2 A4.out).mono ?_); (case side1 => repeat (first | exact HR0.out | (with_reducible refine Kd.C_alloc ?_ _) | (with_reducible refine Kd.C_drewN ?_ _) | (with_reducible refine Kd.C_drew ?_))); (case side2 => exact HC0.out); rintro e w14 ⟨v271, rfl, ho0, hb⟩; have n0_ := Aside0.mk (Kd.R_lower ho0 (below_size (by repeat (first | (with_reducible first | exact HB.out | apply below_alloc | apply pw_below_drewN | apply below_drew1) | exact HB.out)))); have n1_ := Aside0.mk (below_step (by repeat (first | (with_reducible first | exact HB.out | apply below_alloc | apply pw_below_drewN | apply below_drew1) | exact HB.out)) hb); clear HB; have HO272 := n0_; have HB := n1_; clear n0_ n1_; (try clear hb); (try clear hb2); (try clear hk); (try clear hi); (try clear ho0); obtain ⟨Ao15, co15, eo15⟩ := Kd.R_slice HO272.out; subst eo15) | (go_at_call 7; (with_reducible refine (impl_MirrorHoles.calls k _ _ t269 t270 t273 t274 _ ?side1 ?side2 A5.out).mono ?_); (case side1 => repeat (first | exact (Kd.R_reads' HO272.out).2.2 | (with_reducible refine Kd.C_alloc ?_ _) | (with_reducible refine Kd.C_drewN ?_ _) | (with_reducible refine Kd.C_drew ?_))); (case side2 => exact (Kd.R_reads' HO272.out).2.1); rintro e w16 ⟨v275, rfl, ho0, hb⟩; have n0_ := Aside0.mk (Kd.R_elder' (by (with_reducible repeat (first | apply Kd.R_alloc | apply Kd.R_drewN | apply Kd.R_drew)); exact HO272.out) (Kd.R_base ho0) hb); have n1_ := Aside0.mk (Kd.R_lower (Kd.R_new' ho0 (Kd.R_lt (by (with_reducible repeat (first | apply Kd.R_alloc | apply Kd.R_drewN | apply Kd.R_drew)); exact HO272.out))) (below_size (by repeat (first | (with_reducible first | exact HB.out | apply below_alloc | apply pw_below_drewN | apply below_drew1) | exact HB.out)))); have n2_ := Aside0.mk (below_step (by repeat (first | (with_reducible first | exact HB.out | apply below_alloc | apply pw_below_drewN | apply below_drew1) | exact HB.out)) hb); clear HO272; clear HB; have HO272 := n0_; have HO276 := n1_; have HB := n2_; clear n0_ n1_ n2_; (try clear hb); (try clear hb2); (try clear hk); (try clear hi); (try clear ho0)) | (go_at_call 8; (with_reducible refine (spec_MirrorHoles.calls k _ _ t269 t270 t277 t278 _ ?side1 ?side2 A6.out).mono ?_); (case side1 => repeat (first | exact (Kd.R_reads' HO272.out).2.2 | (with_reducible refine Kd.C_alloc ?_ _) | (with_reducible refine Kd.C_drewN ?_ _) | (with_reducible refine Kd.C_drew ?_))); (case side2 => exact (Kd.R_reads' HO272.out).2.1); rintro e w17 ⟨v279, rfl, ho0, hb⟩; have n0_ := Aside0.mk (Kd.R_elder' (by (with_reducible repeat (first | apply Kd.R_alloc | apply Kd.R_drewN | apply Kd.R_drew)); exact HO272.out) (Kd.R_base ho0) hb); have n1_ := Aside0.mk (Kd.R_elder' (by (with_reducible repeat (first | apply Kd.R_alloc | apply Kd.R_drewN | apply Kd.R_drew)); exact HO276.out) (Kd.R_base ho0) hb); have n2_ := Aside0.mk (Kd.R_lower (Kd.R_new' (Kd.R_new' ho0 (Kd.R_lt (by (with_reducible repeat (first | apply Kd.R_alloc | apply Kd.R_drewN | apply Kd.R_drew)); exact HO272.out))) (Kd.R_lt (by (with_reducible repeat (first | apply Kd.R_alloc | apply Kd.R_drewN | apply Kd.R_drew)); exact HO276.out))) (below_size (by repeat (first | (with_reducible first | exact HB.out | apply below_alloc | apply pw_below_drewN | apply below_drew1) | exact HB.out)))); have n3_ := Aside0.mk (below_step (by repeat (first | (with_reducible first | exact HB.out | apply below_alloc | apply pw_below_drewN | apply below_drew1) | exact HB.out)) hb); clear HO272; clear HO276; clear HB; have HO272 := n0_; have HO276 := n1_; have HO280 := n2_; have HB := n3_; clear n0_ n1_ n2_ n3_; (try clear hb); (try clear hb2); (try clear hk); (try clear hi); (try clear ho0)) | (go_at_call 9; (with_reducible refine (spec_DrawEvenHoles.calls k _ _ l0 t281 t282 t283 _ ?side1 ?side2 A7.out).mono ?_); (case side1 => repeat (first | exact (Kd.C_below HR0.out HB.out) | (with_reducible refine Kd.C_alloc ?_ _) | (with_reducible refine Kd.C_drewN ?_ _) | (with_reducible refine Kd.C_drew ?_))); (case side2 => exact HC0.out); rintro e w18 ⟨rfl, hb⟩; have n0_ := Aside0.mk (Kd.R_below (by (with_reducible repeat (first | apply Kd.R_alloc | apply Kd.R_drewN | apply Kd.R_drew)); exact HO272.out) hb); have n1_ := Aside0.mk (Kd.R_below (by (with_reducible repeat (first | apply Kd.R_alloc | apply Kd.R_drewN | apply Kd.R_drew)); exact HO276.out) hb); have n2_ := Aside0.mk (Kd.R_below (by (with_reducible repeat (first | apply Kd.R_alloc | apply Kd.R_drewN | apply Kd.R_drew)); exact HO280.out) hb); have n3_ := Aside0.mk (below_step (by repeat (first | (with_reducible first | exact HB.out | apply below_alloc | apply pw_below_drewN | apply below_drew1) | exact HB.out)) hb); clear HO272; clear HO276; clear HO280; clear HB; have HO272 := n0_; have HO276 := n1_; have HO280 := n2_; have HB := n3_; clear n0_ n1_ n2_ n3_; (try clear hb); (try clear hb2); (try clear hk); (try clear hi)) | (go_at_call 10; (with_reducible refine (impl_EvenHoles.calls k t281 t282 t283 t284 t285 _ A8.out).mono ?_); rintro e w19 ⟨v286, rfl, ho0, hb⟩; have n0_ := Aside0.mk (Kd.R_elder' (by (with_reducible repeat (first | apply Kd.R_alloc | apply Kd.R_drewN | apply Kd.R_drew)); exact HO272.out) (Kd.R_base ho0) hb); have n1_ := Aside0.mk (Kd.R_elder' (by (with_reducible repeat (first | apply Kd.R_alloc | apply Kd.R_drewN | apply Kd.R_drew)); exact HO276.out) (Kd.R_base ho0) hb); have n2_ := Aside0.mk (Kd.R_elder' (by (with_reducible repeat (first | apply Kd.R_alloc | apply Kd.R_drewN | apply Kd.R_drew)); exact HO280.out) (Kd.R_base ho0) hb); have n3_ := Aside0.mk (Kd.R_lower (Kd.R_new' (Kd.R_new' (Kd.R_new' ho0 (Kd.R_lt (by (with_reducible repeat (first | apply Kd.R_alloc | apply Kd.R_drewN | apply Kd.R_drew)); exact HO272.out))) (Kd.R_lt (by (with_reducible repeat (first | apply Kd.R_alloc | apply Kd.R_drewN | apply Kd.R_drew)); exact HO276.out))) (Kd.R_lt (by (with_reducible repeat (first | apply Kd.R_alloc | apply Kd.R_drewN | apply Kd.R_drew)); exact HO280.out))) (below_size (by repeat (first | (with_reducible first | exact HB.out | apply below_alloc | apply pw_below_drewN | apply below_drew1) | exact HB.out)))); have n4_ := Aside0.mk (below_step (by repeat (first | (with_reducible first | exact HB.out | apply below_alloc | apply pw_below_drewN | apply below_drew1) | exact HB.out)) hb); clear HO272; clear HO276; clear HO280; clear HB; have HO272 := n0_; have HO276 := n1_; have HO280 := n2_; have HO287 := n3_; have HB := n4_; clear n0_ n1_ n2_ n3_ n4_; (try clear hb); (try clear hb2); (try clear hk); (try clear hi); (try clear ho0)) | (go_at_call 11; (with_reducible refine (spec_EvenHoles.calls k t281 t282 t283 t288 t289 _ A9.out).mono ?_); rintro e w20 ⟨v290, rfl, ho0, hb⟩; have n0_ := Aside0.mk (Kd.R_elder' (by (with_reducible repeat (first | apply Kd.R_alloc | apply Kd.R_drewN | apply Kd.R_drew)); exact HO272.out) (Kd.R_base ho0) hb); have n1_ := Aside0.mk (Kd.R_elder' (by (with_reducible repeat (first | apply Kd.R_alloc | apply Kd.R_drewN | apply Kd.R_drew)); exact HO276.out) (Kd.R_base ho0) hb); have n2_ := Aside0.mk (Kd.R_elder' (by (with_reducible repeat (first | apply Kd.R_alloc | apply Kd.R_drewN | apply Kd.R_drew)); exact HO280.out) (Kd.R_base ho0) hb); have n3_ := Aside0.mk (Kd.R_elder' (by (with_reducible repeat (first | apply Kd.R_alloc | apply Kd.R_drewN | apply Kd.R_drew)); exact HO287.out) (Kd.R_base ho0) hb); have n4_ := Aside0.mk (Kd.R_lower (Kd.R_new' (Kd.R_new' (Kd.R_new' (Kd.R_new' ho0 (Kd.R_lt (by (with_reducible repeat (first | apply Kd.R_alloc | apply Kd.R_drewN | apply Kd.R_drew)); exact HO272.out))) (Kd.R_lt (by (with_reducible repeat (first | apply Kd.R_alloc | apply Kd.R_drewN | apply Kd.R_drew)); exact HO276.out))) (Kd.R_lt (by (with_reducible repeat (first | apply Kd.R_alloc | apply Kd.R_drewN | apply Kd.R_drew)); exact HO280.out))) (Kd.R_lt (by (with_reducible repeat (first | apply Kd.R_alloc | apply Kd.R_drewN | apply Kd.R_drew)); exact HO287.out))) (below_size (by repeat (first | (with_reducible first | exact HB.out | apply below_alloc | apply pw_below_drewN | apply below_drew1) | exact HB.out)))); have n5_ := Aside0.mk (below_step (by repeat (first | (with_reducible first | exact HB.out | apply below_alloc | apply pw_below_drewN | apply below_drew1) | exact HB.out)) hb); clear HO272; clear HO276; clear HO280; clear HO287; clear HB; have HO272 := n0_; have HO276 := n1_; have HO280 := n2_; have HO287 := n3_; have HO291 := n4_; have HB := n5_; clear n0_ n1_ n2_ n3_ n4_ n5_; (try clear hb); (try clear hb2); (try clear hk); (try clear hi); (try clear ho0)) | (go_at_call 12; (with_reducible refine (spec_DrawInsideLength.calls k _ _ l0 t292 _ ?side1 ?side2 A10.out).mono ?_); (case side1 => repeat (first | exact (Kd.C_below HR0.out HB.out) | (with_reducible refine Kd.C_alloc ?_ _) | (with_reducible refine Kd.C_drewN ?_ _) | (with_reducible refine Kd.C_drew ?_))); (case side2 => exact HC0.out); rintro e w21 ⟨v293, rfl, ho0, hb⟩; have n0_ := Aside0.mk (Kd.R_elder' (by (with_reducible repeat (first | apply Kd.R_alloc | apply Kd.R_drewN | apply Kd.R_drew)); exact HO272.out) (Kd.R_base ho0) hb); have n1_ := Aside0.mk (Kd.R_elder' (by (with_reducible repeat (first | apply Kd.R_alloc | apply Kd.R_drewN | apply Kd.R_drew)); exact HO276.out) (Kd.R_base ho0) hb); have n2_ := Aside0.mk (Kd.R_elder' (by (with_reducible repeat (first | apply Kd.R_alloc | apply Kd.R_drewN | apply Kd.R_drew)); exact HO280.out) (Kd.R_base ho0) hb); have n3_ := Aside0.mk (Kd.R_elder' (by (with_reducible repeat (first | apply Kd.R_alloc | apply Kd.R_drewN | apply Kd.R_drew)); exact HO287.out) (Kd.R_base ho0) hb); have n4_ := Aside0.mk (Kd.R_elder' (by (with_reducible repeat (first | apply Kd.R_alloc | apply Kd.R_drewN | apply Kd.R_drew)); exact HO291.out) (Kd.R_base ho0) hb); have n5_ := Aside0.mk (Kd.R_lower (Kd.R_new' (Kd.R_new' (Kd.R_new' (Kd.R_new' (Kd.R_new' ho0 (Kd.R_lt (by (with_reducible repeat (first | apply Kd.R_alloc | apply Kd.R_drewN | apply Kd.R_drew)); exact HO272.out))) (Kd.R_lt (by (with_reducible repeat (first | apply Kd.R_alloc | apply Kd.R_drewN | apply Kd.R_drew)); exact HO276.out))) (Kd.R_lt (by (with_reducible repeat (first | apply Kd.R_alloc | apply Kd.R_drewN | apply Kd.R_drew)); exact HO280.out))) (Kd.R_lt (by (with_reducible repeat (first | apply Kd.R_alloc | apply Kd.R_drewN | apply Kd.R_drew)); exact HO287.out))) (Kd.R_lt (by (with_reducible repeat (first | apply Kd.R_alloc | apply Kd.R_drewN | apply Kd.R_drew)); exact HO291.out))) (below_size (by repeat (first | (with_reducible first | exact HB.out | apply below_alloc | apply pw_below_drewN | apply below_drew1) | exact HB.out)))); have n6_ := Aside0.mk (below_step (by repeat (first | (with_reducible first | exact HB.out | apply below_alloc | apply pw_below_drewN | apply below_drew1) | exact HB.out)) hb); clear HO272; clear HO276; clear HO280; clear HO287; clear HO291; clear HB; have HO272 := n0_; have HO276 := n1_; have HO280 := n2_; have HO287 := n3_; have HO291 := n4_; have HO294 := n5_; have HB := n6_; clear n0_ n1_ n2_ n3_ n4_ n5_ n6_; (try clear hb); (try clear hb2); (try clear hk); (try clear hi); (try clear ho0); obtain ⟨Ao22, co22, eo22⟩ := Kd.R_slice HO294.out; subst eo22) | (go_at_call 13; (with_reducible refine (impl_InsideLength.calls k _ _ t292 t295 t296 _ ?side1 ?side2 A11.out).mono ?_); (case side1 => repeat (first | exact (Kd.R_reads' HO294.out).2.2 | (with_reducible refine Kd.C_alloc ?_ _) | (with_reducible refine Kd.C_drewN ?_ _) | (with_reducible refine Kd.C_drew ?_))); (case side2 => exact (Kd.R_reads' HO294.out).2.1); rintro e w23 ⟨rfl, hb⟩; have n0_ := Aside0.mk (Kd.R_below (by (with_reducible repeat (first | apply Kd.R_alloc | apply Kd.R_drewN | apply Kd.R_drew)); exact HO272.out) hb); have n1_ := Aside0.mk (Kd.R_below (by (with_reducible repeat (first | apply Kd.R_alloc | apply Kd.R_drewN | apply Kd.R_drew)); exact HO276.out) hb); have n2_ := Aside0.mk (Kd.R_below (by (with_reducible repeat (first | apply Kd.R_alloc | apply Kd.R_drewN | apply Kd.R_drew)); exact HO280.out) hb); have n3_ := Aside0.mk (Kd.R_below (by (with_reducible repeat (first | apply Kd.R_alloc | apply Kd.R_drewN | apply Kd.R_drew)); exact HO287.out) hb); have n4_ := Aside0.mk (Kd.R_below (by (with_reducible repeat (first | apply Kd.R_alloc | apply Kd.R_drewN | apply Kd.R_drew)); exact HO291.out) hb); have n5_ := Aside0.mk (Kd.R_below (by (with_reducible repeat (first | apply Kd.R_alloc | apply Kd.R_drewN | apply Kd.R_drew)); exact HO294.out) hb); have n6_ := Aside0.mk (below_step (by repeat (first | (with_reducible first | exact HB.out | apply below_alloc | apply pw_below_drewN | apply below_drew1) | exact HB.out)) hb); clear HO272; clear HO276; clear HO280; clear HO287; clear HO291; clear HO294; clear HB; have HO272 := n0_; have HO276 := n1_; have HO280 := n2_; have HO287 := n3_; have HO291 := n4_; have HO294 := n5_; have HB := n6_; clear n0_ n1_ n2_ n3_ n4_ n5_ n6_; (try clear hb); (try clear hb2); (try clear hk); (try clear hi)) | (go_at_call 14; (with_reducible refine (spec_InsideLength.calls k _ _ t292 t297 t298 _ ?side1 ?side2 A12.out).mono ?_); (case side1 => repeat (first | exact (Kd.R_reads' HO294.out).2.2 | (with_reducible refine Kd.C_alloc ?_ _) | (with_reducible refine Kd.C_drewN ?_ _) | (with_reducible refine Kd.C_drew ?_))); (case side2 => exact (Kd.R_reads' HO294.out).2.1); rintro e w' ⟨rfl, ⟨nd, rfl⟩⟩; (try first | exact ⟨rfl, _, World.drewN_drewN _ _ _⟩ | exact ⟨rfl, _, Eq.trans (World.drewN_drewN _ _ _) (congrArg (World.drewN _) (Nat.add_assoc _ _ _))⟩))); go_upto_region 12 with (first | (go_at_call 5; (with_reducible refine (laws_big.calls _ _ l0 false _ ?side1 ?side2 A2.out).mono ?_); (case side1 => repeat (first | exact HR0.out | (with_reducible refine Kd.C_alloc ?_ _) | (with_reducible refine Kd.C_drewN ?_ _) | (with_reducible refine Kd.C_drew ?_))); (case side2 => exact HC0.out); rintro e w' ⟨rfl, ⟨nd, rfl⟩⟩; (try first | exact ⟨rfl, _, World.drewN_drewN _ _ _⟩ | exact ⟨rfl, _, Eq.trans (World.drewN_drewN _ _ _) (congrArg (World.drewN _) (Nat.add_assoc _ _ _))⟩)) | (go_at_call 6; (with_reducible refine (spec_DrawMirrorHoles.calls k _ _ l0 t269 t270 _ ?side1 ?side2 A4.out).mono ?_); (case side1 => repeat (first | exact HR0.out | (with_reducible refine Kd.C_alloc ?_ _) | (with_reducible refine Kd.C_drewN ?_ _) | (with_reducible refine Kd.C_drew ?_))); (case side2 => exact HC0.out); rintro e w14 ⟨v271, rfl, ho0, hb⟩; have n0_ := Aside0.mk (Kd.R_lower ho0 (below_size (by repeat (first | (with_reducible first | exact HB.out | apply below_alloc | apply pw_below_drewN | apply below_drew1) | exact HB.out)))); have n1_ := Aside0.mk (below_step (by repeat (first | (with_reducible first | exact HB.out | apply below_alloc | apply pw_below_drewN | apply below_drew1) | exact HB.out)) hb); clear HB; have HO272 := n0_; have HB := n1_; clear n0_ n1_; (try clear hb); (try clear hb2); (try clear hk); (try clear hi); (try clear ho0); obtain ⟨Ao15, co15, eo15⟩ := Kd.R_slice HO272.out; subst eo15) | (go_at_call 7; (with_reducible refine (impl_MirrorHoles.calls k _ _ t269 t270 t273 t274 _ ?side1 ?side2 A5.out).mono ?_); (case side1 => repeat (first | exact (Kd.R_reads' HO272.out).2.2 | (with_reducible refine Kd.C_alloc ?_ _) | (with_reducible refine Kd.C_drewN ?_ _) | (with_reducible refine Kd.C_drew ?_))); (case side2 => exact (Kd.R_reads' HO272.out).2.1); rintro e w16 ⟨v275, rfl, ho0, hb⟩; have n0_ := Aside0.mk (Kd.R_elder' (by (with_reducible repeat (first | apply Kd.R_alloc | apply Kd.R_drewN | apply Kd.R_drew)); exact HO272.out) (Kd.R_base ho0) hb); have n1_ := Aside0.mk (Kd.R_lower (Kd.R_new' ho0 (Kd.R_lt (by (with_reducible repeat (first | apply Kd.R_alloc | apply Kd.R_drewN | apply Kd.R_drew)); exact HO272.out))) (below_size (by repeat (first | (with_reducible first | exact HB.out | apply below_alloc | apply pw_below_drewN | apply below_drew1) | exact HB.out)))); have n2_ := Aside0.mk (below_step (by repeat (first | (with_reducible first | exact HB.out | apply below_alloc | apply pw_below_drewN | apply below_drew1) | exact HB.out)) hb); clear HO272; clear HB; have HO272 := n0_; have HO276 := n1_; have HB := n2_; clear n0_ n1_ n2_; (try clear hb); (try clear hb2); (try clear hk); (try clear hi); (try clear ho0)) | (go_at_call 8; (with_reducible refine (spec_MirrorHoles.calls k _ _ t269 t270 t277 t278 _ ?side1 ?side2 A6.out).mono ?_); (case side1 => repeat (first | exact (Kd.R_reads' HO272.out).2.2 | (with_reducible refine Kd.C_alloc ?_ _) | (with_reducible refine Kd.C_drewN ?_ _) | (with_reducible refine Kd.C_drew ?_))); (case side2 => exact (Kd.R_reads' HO272.out).2.1); rintro e w17 ⟨v279, rfl, ho0, hb⟩; have n0_ := Aside0.mk (Kd.R_elder' (by (with_reducible repeat (first | apply Kd.R_alloc | apply Kd.R_drewN | apply Kd.R_drew)); exact HO272.out) (Kd.R_base ho0) hb); have n1_ := Aside0.mk (Kd.R_elder' (by (with_reducible repeat (first | apply Kd.R_alloc | apply Kd.R_drewN | apply Kd.R_drew)); exact HO276.out) (Kd.R_base ho0) hb); have n2_ := Aside0.mk (Kd.R_lower (Kd.R_new' (Kd.R_new' ho0 (Kd.R_lt (by (with_reducible repeat (first | apply Kd.R_alloc | apply Kd.R_drewN | apply Kd.R_drew)); exact HO272.out))) (Kd.R_lt (by (with_reducible repeat (first | apply Kd.R_alloc | apply Kd.R_drewN | apply Kd.R_drew)); exact HO276.out))) (below_size (by repeat (first | (with_reducible first | exact HB.out | apply below_alloc | apply pw_below_drewN | apply below_drew1) | exact HB.out)))); have n3_ := Aside0.mk (below_step (by repeat (first | (with_reducible first | exact HB.out | apply below_alloc | apply pw_below_drewN | apply below_drew1) | exact HB.out)) hb); clear HO272; clear HO276; clear HB; have HO272 := n0_; have HO276 := n1_; have HO280 := n2_; have HB := n3_; clear n0_ n1_ n2_ n3_; (try clear hb); (try clear hb2); (try clear hk); (try clear hi); (try clear ho0)) | (go_at_call 9; (with_reducible refine (spec_DrawEvenHoles.calls k _ _ l0 t281 t282 t283 _ ?side1 ?side2 A7.out).mono ?_); (case side1 => repeat (first | exact (Kd.C_below HR0.out HB.out) | (with_reducible refine Kd.C_alloc ?_ _) | (with_reducible refine Kd.C_drewN ?_ _) | (with_reducible refine Kd.C_drew ?_))); (case side2 => exact HC0.out); rintro e w18 ⟨rfl, hb⟩; have n0_ := Aside0.mk (Kd.R_below (by (with_reducible repeat (first | apply Kd.R_alloc | apply Kd.R_drewN | apply Kd.R_drew)); exact HO272.out) hb); have n1_ := Aside0.mk (Kd.R_below (by (with_reducible repeat (first | apply Kd.R_alloc | apply Kd.R_drewN | apply Kd.R_drew)); exact HO276.out) hb); have n2_ := Aside0.mk (Kd.R_below (by (with_reducible repeat (first | apply Kd.R_alloc | apply Kd.R_drewN | apply Kd.R_drew)); exact HO280.out) hb); have n3_ := Aside0.mk (below_step (by repeat (first | (with_reducible first | exact HB.out | apply below_alloc | apply pw_below_drewN | apply below_drew1) | exact HB.out)) hb); clear HO272; clear HO276; clear HO280; clear HB; have HO272 := n0_; have HO276 := n1_; have HO280 := n2_; have HB := n3_; clear n0_ n1_ n2_ n3_; (try clear hb); (try clear hb2); (try clear hk); (try clear hi)) | (go_at_call 10; (with_reducible refine (impl_EvenHoles.calls k t281 t282 t283 t284 t285 _ A8.out).mono ?_); rintro e w19 ⟨v286, rfl, ho0, hb⟩; have n0_ := Aside0.mk (Kd.R_elder' (by (with_reducible repeat (first | apply Kd.R_alloc | apply Kd.R_drewN | apply Kd.R_drew)); exact HO272.out) (Kd.R_base ho0) hb); have n1_ := Aside0.mk (Kd.R_elder' (by (with_reducible repeat (first | apply Kd.R_alloc | apply Kd.R_drewN | apply Kd.R_drew)); exact HO276.out) (Kd.R_base ho0) hb); have n2_ := Aside0.mk (Kd.R_elder' (by (with_reducible repeat (first | apply Kd.R_alloc | apply Kd.R_drewN | apply Kd.R_drew)); exact HO280.out) (Kd.R_base ho0) hb); have n3_ := Aside0.mk (Kd.R_lower (Kd.R_new' (Kd.R_new' (Kd.R_new' ho0 (Kd.R_lt (by (with_reducible repeat (first | apply Kd.R_alloc | apply Kd.R_drewN | apply Kd.R_drew)); exact HO272.out))) (Kd.R_lt (by (with_reducible repeat (first | apply Kd.R_alloc | apply Kd.R_drewN | apply Kd.R_drew)); exact HO276.out))) (Kd.R_lt (by (with_reducible repeat (first | apply Kd.R_alloc | apply Kd.R_drewN | apply Kd.R_drew)); exact HO280.out))) (below_size (by repeat (first | (with_reducible first | exact HB.out | apply below_alloc | apply pw_below_drewN | apply below_drew1) | exact HB.out)))); have n4_ := Aside0.mk (below_step (by repeat (first | (with_reducible first | exact HB.out | apply below_alloc | apply pw_below_drewN | apply below_drew1) | exact HB.out)) hb); clear HO272; clear HO276; clear HO280; clear HB; have HO272 := n0_; have HO276 := n1_; have HO280 := n2_; have HO287 := n3_; have HB := n4_; clear n0_ n1_ n2_ n3_ n4_; (try clear hb); (try clear hb2); (try clear hk); (try clear hi); (try clear ho0)) | (go_at_call 11; (with_reducible refine (spec_EvenHoles.calls k t281 t282 t283 t288 t289 _ A9.out).mono ?_); rintro e w20 ⟨v290, rfl, ho0, hb⟩; have n0_ := Aside0.mk (Kd.R_elder' (by (with_reducible repeat (first | apply Kd.R_alloc | apply Kd.R_drewN | apply Kd.R_drew)); exact HO272.out) (Kd.R_base ho0) hb); have n1_ := Aside0.mk (Kd.R_elder' (by (with_reducible repeat (first | apply Kd.R_alloc | apply Kd.R_drewN | apply Kd.R_drew)); exact HO276.out) (Kd.R_base ho0) hb); have n2_ := Aside0.mk (Kd.R_elder' (by (with_reducible repeat (first | apply Kd.R_alloc | apply Kd.R_drewN | apply Kd.R_drew)); exact HO280.out) (Kd.R_base ho0) hb); have n3_ := Aside0.mk (Kd.R_elder' (by (with_reducible repeat (first | apply Kd.R_alloc | apply Kd.R_drewN | apply Kd.R_drew)); exact HO287.out) (Kd.R_base ho0) hb); have n4_ := Aside0.mk (Kd.R_lower (Kd.R_new' (Kd.R_new' (Kd.R_new' (Kd.R_new' ho0 (Kd.R_lt (by (with_reducible repeat (first | apply Kd.R_alloc | apply Kd.R_drewN | apply Kd.R_drew)); exact HO272.out))) (Kd.R_lt (by (with_reducible repeat (first | apply Kd.R_alloc | apply Kd.R_drewN | apply Kd.R_drew)); exact HO276.out))) (Kd.R_lt (by (with_reducible repeat (first | apply Kd.R_alloc | apply Kd.R_drewN | apply Kd.R_drew)); exact HO280.out))) (Kd.R_lt (by (with_reducible repeat (first | apply Kd.R_alloc | apply Kd.R_drewN | apply Kd.R_drew)); exact HO287.out))) (below_size (by repeat (first | (with_reducible first | exact HB.out | apply below_alloc | apply pw_below_drewN | apply below_drew1) | exact HB.out)))); have n5_ := Aside0.mk (below_step (by repeat (first | (with_reducible first | exact HB.out | apply below_alloc | apply pw_below_drewN | apply below_drew1) | exact HB.out)) hb); clear HO272; clear HO276; clear HO280; clear HO287; clear HB; have HO272 := n0_; have HO276 := n1_; have HO280 := n2_; have HO287 := n3_; have HO291 := n4_; have HB := n5_; clear n0_ n1_ n2_ n3_ n4_ n5_; (try clear hb); (try clear hb2); (try clear hk); (try clear hi); (try clear ho0)) | (go_at_call 12; (with_reducible refine (spec_DrawInsideLength.calls k _ _ l0 t292 _ ?side1 ?side2 A10.out).mono ?_); (case side1 => repeat (first | exact (Kd.C_below HR0.out HB.out) | (with_reducible refine Kd.C_alloc ?_ _) | (with_reducible refine Kd.C_drewN ?_ _) | (with_reducible refine Kd.C_drew ?_))); (case side2 => exact HC0.out); rintro e w21 ⟨v293, rfl, ho0, hb⟩; have n0_ := Aside0.mk (Kd.R_elder' (by (with_reducible repeat (first | apply Kd.R_alloc | apply Kd.R_drewN | apply Kd.R_drew)); exact HO272.out) (Kd.R_base ho0) hb); have n1_ := Aside0.mk (Kd.R_elder' (by (with_reducible repeat (first | apply Kd.R_alloc | apply Kd.R_drewN | apply Kd.R_drew)); exact HO276.out) (Kd.R_base ho0) hb); have n2_ := Aside0.mk (Kd.R_elder' (by (with_reducible repeat (first | apply Kd.R_alloc | apply Kd.R_drewN | apply Kd.R_drew)); exact HO280.out) (Kd.R_base ho0) hb); have n3_ := Aside0.mk (Kd.R_elder' (by (with_reducible repeat (first | apply Kd.R_alloc | apply Kd.R_drewN | apply Kd.R_drew)); exact HO287.out) (Kd.R_base ho0) hb); have n4_ := Aside0.mk (Kd.R_elder' (by (with_reducible repeat (first | apply Kd.R_alloc | apply Kd.R_drewN | apply Kd.R_drew)); exact HO291.out) (Kd.R_base ho0) hb); have n5_ := Aside0.mk (Kd.R_lower (Kd.R_new' (Kd.R_new' (Kd.R_new' (Kd.R_new' (Kd.R_new' ho0 (Kd.R_lt (by (with_reducible repeat (first | apply Kd.R_alloc | apply Kd.R_drewN | apply Kd.R_drew)); exact HO272.out))) (Kd.R_lt (by (with_reducible repeat (first | apply Kd.R_alloc | apply Kd.R_drewN | apply Kd.R_drew)); exact HO276.out))) (Kd.R_lt (by (with_reducible repeat (first | apply Kd.R_alloc | apply Kd.R_drewN | apply Kd.R_drew)); exact HO280.out))) (Kd.R_lt (by (with_reducible repeat (first | apply Kd.R_alloc | apply Kd.R_drewN | apply Kd.R_drew)); exact HO287.out))) (Kd.R_lt (by (with_reducible repeat (first | apply Kd.R_alloc | apply Kd.R_drewN | apply Kd.R_drew)); exact HO291.out))) (below_size (by repeat (first | (with_reducible first | exact HB.out | apply below_alloc | apply pw_below_drewN | apply below_drew1) | exact HB.out)))); have n6_ := Aside0.mk (below_step (by repeat (first | (with_reducible first | exact HB.out | apply below_alloc | apply pw_below_drewN | apply below_drew1) | exact HB.out)) hb); clear HO272; clear HO276; clear HO280; clear HO287; clear HO291; clear HB; have HO272 := n0_; have HO276 := n1_; have HO280 := n2_; have HO287 := n3_; have HO291 := n4_; have HO294 := n5_; have HB := n6_; clear n0_ n1_ n2_ n3_ n4_ n5_ n6_; (try clear hb); (try clear hb2); (try clear hk); (try clear hi); (try clear ho0); obtain ⟨Ao22, co22, eo22⟩ := Kd.R_slice HO294.out; subst eo22) | (go_at_call 13; (with_reducible refine (impl_InsideLength.calls k _ _ t292 t295 t296 _ ?side1 ?side2 A11.out).mono ?_); (case side1 => repeat (first | exact (Kd.R_reads' HO294.out).2.2 | (with_reducible refine Kd.C_alloc ?_ _) | (with_reducible refine Kd.C_drewN ?_ _) | (with_reducible refine Kd.C_drew ?_))); (case side2 => exact (Kd.R_reads' HO294.out).2.1); rintro e w23 ⟨rfl, hb⟩; have n0_ := Aside0.mk (Kd.R_below (by (with_reducible repeat (first | apply Kd.R_alloc | apply Kd.R_drewN | apply Kd.R_drew)); exact HO272.out) hb); have n1_ := Aside0.mk (Kd.R_below (by (with_reducible repeat (first | apply Kd.R_alloc | apply Kd.R_drewN | apply Kd.R_drew)); exact HO276.out) hb); have n2_ := Aside0.mk (Kd.R_below (by (with_reducible repeat (first | apply Kd.R_alloc | apply Kd.R_drewN | apply Kd.R_drew)); exact HO280.out) hb); have n3_ := Aside0.mk (Kd.R_below (by (with_reducible repeat (first | apply Kd.R_alloc | apply Kd.R_drewN | apply Kd.R_drew)); exact HO287.out) hb); have n4_ := Aside0.mk (Kd.R_below (by (with_reducible repeat (first | apply Kd.R_alloc | apply Kd.R_drewN | apply Kd.R_drew)); exact HO291.out) hb); have n5_ := Aside0.mk (Kd.R_below (by (with_reducible repeat (first | apply Kd.R_alloc | apply Kd.R_drewN | apply Kd.R_drew)); exact HO294.out) hb); have n6_ := Aside0.mk (below_step (by repeat (first | (with_reducible first | exact HB.out | apply below_alloc | apply pw_below_drewN | apply below_drew1) | exact HB.out)) hb); clear HO272; clear HO276; clear HO280; clear HO287; clear HO291; clear HO294; clear HB; have HO272 := n0_; have HO276 := n1_; have HO280 := n2_; have HO287 := n3_; have HO291 := n4_; have HO294 := n5_; have HB := n6_; clear n0_ n1_ n2_ n3_ n4_ n5_ n6_; (try clear hb); (try clear hb2); (try clear hk); (try clear hi)) | (go_at_call 14; (with_reducible refine (spec_InsideLength.calls k _ _ t292 t297 t298 _ ?side1 ?side2 A12.out).mono ?_); (case side1 => repeat (first | exact (Kd.R_reads' HO294.out).2.2 | (with_reducible refine Kd.C_alloc ?_ _) | (with_reducible refine Kd.C_drewN ?_ _) | (with_reducible refine Kd.C_drew ?_))); (case side2 => exact (Kd.R_reads' HO294.out).2.1); rintro e w' ⟨rfl, ⟨nd, rfl⟩⟩; (try first | exact ⟨rfl, _, World.drewN_drewN _ _ _⟩ | exact ⟨rfl, _, Eq.trans (World.drewN_drewN _ _ _) (congrArg (World.drewN _) (Nat.add_assoc _ _ _))⟩))))
    (try simp only [Act.put, List.setIfInBounds_toArray, List.set_cons_zero, List.set_cons_succ])
    go_cut [110] (fun v110 wc => ∃ (kq : Nat) (x110_12 : Bool), v110 = .bool x110_12 ∧ Aside0 (laws_FnHoles.j0 kq t269 t270 t273 t274 t281 t283 t284 t285 t292 t295 t296 x110_12 = some r) ∧ Aside0 (kq ≤ k) ∧ Aside0 (Kd.R (Kd.int .i64) 2 wc w.heap.size (fun k_ => some k_ ≠ (v275 : Value).ownBlock ∧ some k_ ≠ (v286 : Value).ownBlock ∧ some k_ ≠ ((.slice Ao22 t292.length co22) : Value).ownBlock) (.slice Ao15 t269.length co15) t269) ∧ Aside0 (Kd.R (Kd.int .i64) 2 wc w.heap.size (fun k_ => some k_ ≠ ((.slice Ao15 t269.length co15) : Value).ownBlock ∧ some k_ ≠ (v286 : Value).ownBlock ∧ some k_ ≠ ((.slice Ao22 t292.length co22) : Value).ownBlock) v275 t273) ∧ Aside0 (Kd.R (Kd.int .i64) 2 wc w.heap.size (fun k_ => some k_ ≠ ((.slice Ao15 t269.length co15) : Value).ownBlock ∧ some k_ ≠ (v275 : Value).ownBlock ∧ some k_ ≠ ((.slice Ao22 t292.length co22) : Value).ownBlock) v286 t284) ∧ Aside0 (Kd.R (Kd.int .i64) 2 wc w.heap.size (fun k_ => some k_ ≠ ((.slice Ao15 t269.length co15) : Value).ownBlock ∧ some k_ ≠ (v275 : Value).ownBlock ∧ some k_ ≠ (v286 : Value).ownBlock) (.slice Ao22 t292.length co22) t292) ∧ Aside0 (Below w.heap.size w wc))
    case first =>
      have H := HC13.out
      clear HC13
      by_cases c24 : t274 = t278
      · rw [if_pos c24] at H
        have c24b0 : (t274 == t278) = true := beq_iff_eq.mpr c24
        have c24b1 : (t274 != t278) = false := bne_eq_false_iff_eq.mpr c24
        clear c24
        (first | rw [c24b0] | (simp only [i64_w, i32_w]; rw [c24b0]) | skip)
        replace H := Option.bind_eq_some_iff.mp H
        obtain ⟨t299, A250, H⟩ := H
        replace H : (if t299 = true then (if t285 = t289 then ((laws_likeInts.f k t284 t288).bind fun t300 => (if t300 = true then (if t296 = t298 then (if t295 = t297 then ((impl_AreHoles.f k t292).bind fun t301 => ((spec_AreHoles.f k t292).bind fun t302 => (laws_FnHoles.j0 k t269 t270 t273 t274 t281 t283 t284 t285 t292 t295 t296 (t301 != t302)))) else (laws_FnHoles.j0 k t269 t270 t273 t274 t281 t283 t284 t285 t292 t295 t296 true)) else (laws_FnHoles.j0 k t269 t270 t273 t274 t281 t283 t284 t285 t292 t295 t296 true)) else (laws_FnHoles.j0 k t269 t270 t273 t274 t281 t283 t284 t285 t292 t295 t296 true))) else (laws_FnHoles.j0 k t269 t270 t273 t274 t281 t283 t284 t285 t292 t295 t296 true)) else (laws_FnHoles.j0 k t269 t270 t273 t274 t281 t283 t284 t285 t292 t295 t296 true)) = some r := H
        have A25 := Aside0.mk A250
        clear A250
        by_cases c26 : t299 = true
        · subst c26
          have H1 : (if t285 = t289 then ((laws_likeInts.f k t284 t288).bind fun t300 => (if t300 = true then (if t296 = t298 then (if t295 = t297 then ((impl_AreHoles.f k t292).bind fun t301 => ((spec_AreHoles.f k t292).bind fun t302 => (laws_FnHoles.j0 k t269 t270 t273 t274 t281 t283 t284 t285 t292 t295 t296 (t301 != t302)))) else (laws_FnHoles.j0 k t269 t270 t273 t274 t281 t283 t284 t285 t292 t295 t296 true)) else (laws_FnHoles.j0 k t269 t270 t273 t274 t281 t283 t284 t285 t292 t295 t296 true)) else (laws_FnHoles.j0 k t269 t270 t273 t274 t281 t283 t284 t285 t292 t295 t296 true))) else (laws_FnHoles.j0 k t269 t270 t273 t274 t281 t283 t284 t285 t292 t295 t296 true)) = some r := by rw [if_pos rfl] at H; exact H
          clear H
          have H := H1
          clear H1
          by_cases c27 : t285 = t289
          · rw [if_pos c27] at H
            have c27b0 : (t285 == t289) = true := beq_iff_eq.mpr c27
            have c27b1 : (t285 != t289) = false := bne_eq_false_iff_eq.mpr c27
            clear c27
            replace H := Option.bind_eq_some_iff.mp H
            obtain ⟨t300, A280, H⟩ := H
            replace H : (if t300 = true then (if t296 = t298 then (if t295 = t297 then ((impl_AreHoles.f k t292).bind fun t301 => ((spec_AreHoles.f k t292).bind fun t302 => (laws_FnHoles.j0 k t269 t270 t273 t274 t281 t283 t284 t285 t292 t295 t296 (t301 != t302)))) else (laws_FnHoles.j0 k t269 t270 t273 t274 t281 t283 t284 t285 t292 t295 t296 true)) else (laws_FnHoles.j0 k t269 t270 t273 t274 t281 t283 t284 t285 t292 t295 t296 true)) else (laws_FnHoles.j0 k t269 t270 t273 t274 t281 t283 t284 t285 t292 t295 t296 true)) = some r := H
            have A28 := Aside0.mk A280
            clear A280
            by_cases c29 : t300 = true
            · subst c29
              have H1 : (if t296 = t298 then (if t295 = t297 then ((impl_AreHoles.f k t292).bind fun t301 => ((spec_AreHoles.f k t292).bind fun t302 => (laws_FnHoles.j0 k t269 t270 t273 t274 t281 t283 t284 t285 t292 t295 t296 (t301 != t302)))) else (laws_FnHoles.j0 k t269 t270 t273 t274 t281 t283 t284 t285 t292 t295 t296 true)) else (laws_FnHoles.j0 k t269 t270 t273 t274 t281 t283 t284 t285 t292 t295 t296 true)) = some r := by rw [if_pos rfl] at H; exact H
              clear H
              have H := H1
              clear H1
              by_cases c30 : t296 = t298
              · rw [if_pos c30] at H
                have c30b0 : (t296 == t298) = true := beq_iff_eq.mpr c30
                have c30b1 : (t296 != t298) = false := bne_eq_false_iff_eq.mpr c30
                clear c30
                by_cases c31 : t295 = t297
                · rw [if_pos c31] at H
                  have c31b0 : (t295 == t297) = true := beq_iff_eq.mpr c31
                  have c31b1 : (t295 != t297) = false := bne_eq_false_iff_eq.mpr c31
                  clear c31
                  replace H := Option.bind_eq_some_iff.mp H
                  obtain ⟨t301, A320, H⟩ := H
                  replace H : ((spec_AreHoles.f k t292).bind fun t302 => (laws_FnHoles.j0 k t269 t270 t273 t274 t281 t283 t284 t285 t292 t295 t296 (t301 != t302))) = some r := H
                  have A32 := Aside0.mk A320
                  clear A320
                  replace H := Option.bind_eq_some_iff.mp H
                  obtain ⟨t302, A330, H⟩ := H
                  replace H : (laws_FnHoles.j0 k t269 t270 t273 t274 t281 t283 t284 t285 t292 t295 t296 (t301 != t302)) = some r := H
                  have A33 := Aside0.mk A330
                  clear A330
                  have H' := Aside0.mk H
                  clear H
                  obtain ⟨Ao34, co34, eo34⟩ := Kd.R_slice HO276.out
                  subst eo34
                  obtain ⟨Ao35, co35, eo35⟩ := Kd.R_slice HO280.out
                  subst eo35
                  go_wp2_with (first | (go_at_call 15; (with_reducible refine (laws_likeInts.calls k _ _ t273 _ _ t277 true _ ?side1 ?side2 ?side3 ?side4 A25.out).mono ?_); (case side1 => repeat (first | exact (Kd.R_reads' HO276.out).2.2 | (with_reducible refine Kd.C_alloc ?_ _) | (with_reducible refine Kd.C_drewN ?_ _) | (with_reducible refine Kd.C_drew ?_))); (case side2 => exact (Kd.R_reads' HO276.out).2.1); (case side3 => repeat (first | exact (Kd.R_reads' HO280.out).2.2 | (with_reducible refine Kd.C_alloc ?_ _) | (with_reducible refine Kd.C_drewN ?_ _) | (with_reducible refine Kd.C_drew ?_))); (case side4 => exact (Kd.R_reads' HO280.out).2.1); rintro e w' ⟨rfl, ⟨nd, rfl⟩⟩; (try first | exact ⟨rfl, _, World.drewN_drewN _ _ _⟩ | exact ⟨rfl, _, Eq.trans (World.drewN_drewN _ _ _) (congrArg (World.drewN _) (Nat.add_assoc _ _ _))⟩); obtain ⟨Ao36, co36, eo36⟩ := Kd.R_slice HO287.out; subst eo36; obtain ⟨Ao37, co37, eo37⟩ := Kd.R_slice HO291.out; subst eo37) | (go_at_call 15; (with_reducible refine (laws_likeInts.calls k _ _ t284 _ _ t288 true _ ?side1 ?side2 ?side3 ?side4 A28.out).mono ?_); (case side1 => repeat (first | exact (Kd.R_reads' HO287.out).2.2 | (with_reducible refine Kd.C_alloc ?_ _) | (with_reducible refine Kd.C_drewN ?_ _) | (with_reducible refine Kd.C_drew ?_))); (case side2 => exact (Kd.R_reads' HO287.out).2.1); (case side3 => repeat (first | exact (Kd.R_reads' HO291.out).2.2 | (with_reducible refine Kd.C_alloc ?_ _) | (with_reducible refine Kd.C_drewN ?_ _) | (with_reducible refine Kd.C_drew ?_))); (case side4 => exact (Kd.R_reads' HO291.out).2.1); rintro e w' ⟨rfl, ⟨nd, rfl⟩⟩; (try first | exact ⟨rfl, _, World.drewN_drewN _ _ _⟩ | exact ⟨rfl, _, Eq.trans (World.drewN_drewN _ _ _) (congrArg (World.drewN _) (Nat.add_assoc _ _ _))⟩)) | (go_at_call 16; (with_reducible refine (impl_AreHoles.calls k _ _ t292 t301 _ ?side1 ?side2 A32.out).mono ?_); (case side1 => repeat (first | exact (Kd.R_reads' HO294.out).2.2 | (with_reducible refine Kd.C_alloc ?_ _) | (with_reducible refine Kd.C_drewN ?_ _) | (with_reducible refine Kd.C_drew ?_))); (case side2 => exact (Kd.R_reads' HO294.out).2.1); rintro e w38 ⟨rfl, hb⟩; have n0_ := Aside0.mk (Kd.R_below (by (with_reducible repeat (first | apply Kd.R_alloc | apply Kd.R_drewN | apply Kd.R_drew)); exact HO272.out) hb); have n1_ := Aside0.mk (Kd.R_below (by (with_reducible repeat (first | apply Kd.R_alloc | apply Kd.R_drewN | apply Kd.R_drew)); exact HO276.out) hb); have n2_ := Aside0.mk (Kd.R_below (by (with_reducible repeat (first | apply Kd.R_alloc | apply Kd.R_drewN | apply Kd.R_drew)); exact HO280.out) hb); have n3_ := Aside0.mk (Kd.R_below (by (with_reducible repeat (first | apply Kd.R_alloc | apply Kd.R_drewN | apply Kd.R_drew)); exact HO287.out) hb); have n4_ := Aside0.mk (Kd.R_below (by (with_reducible repeat (first | apply Kd.R_alloc | apply Kd.R_drewN | apply Kd.R_drew)); exact HO291.out) hb); have n5_ := Aside0.mk (Kd.R_below (by (with_reducible repeat (first | apply Kd.R_alloc | apply Kd.R_drewN | apply Kd.R_drew)); exact HO294.out) hb); have n6_ := Aside0.mk (below_step (by repeat (first | (with_reducible first | exact HB.out | apply below_alloc | apply pw_below_drewN | apply below_drew1) | exact HB.out)) hb); clear HO272; clear HO276; clear HO280; clear HO287; clear HO291; clear HO294; clear HB; have HO272 := n0_; have HO276 := n1_; have HO280 := n2_; have HO287 := n3_; have HO291 := n4_; have HO294 := n5_; have HB := n6_; clear n0_ n1_ n2_ n3_ n4_ n5_ n6_; (try clear hb); (try clear hb2); (try clear hk); (try clear hi)) | (go_at_call 17; (with_reducible refine (spec_AreHoles.calls k _ _ t292 t302 _ ?side1 ?side2 A33.out).mono ?_); (case side1 => repeat (first | exact (Kd.R_reads' HO294.out).2.2 | (with_reducible refine Kd.C_alloc ?_ _) | (with_reducible refine Kd.C_drewN ?_ _) | (with_reducible refine Kd.C_drew ?_))); (case side2 => exact (Kd.R_reads' HO294.out).2.1); rintro e w' ⟨rfl, ⟨nd, rfl⟩⟩; (try first | exact ⟨rfl, _, World.drewN_drewN _ _ _⟩ | exact ⟨rfl, _, Eq.trans (World.drewN_drewN _ _ _) (congrArg (World.drewN _) (Nat.add_assoc _ _ _))⟩)))
                  repeat (go_quiet (first | (go_at_call 15; (with_reducible refine (laws_likeInts.calls k _ _ t273 _ _ t277 true _ ?side1 ?side2 ?side3 ?side4 A25.out).mono ?_); (case side1 => repeat (first | exact (Kd.R_reads' HO276.out).2.2 | (with_reducible refine Kd.C_alloc ?_ _) | (with_reducible refine Kd.C_drewN ?_ _) | (with_reducible refine Kd.C_drew ?_))); (case side2 => exact (Kd.R_reads' HO276.out).2.1); (case side3 => repeat (first | exact (Kd.R_reads' HO280.out).2.2 | (with_reducible refine Kd.C_alloc ?_ _) | (with_reducible refine Kd.C_drewN ?_ _) | (with_reducible refine Kd.C_drew ?_))); (case side4 => exact (Kd.R_reads' HO280.out).2.1); rintro e w' ⟨rfl, ⟨nd, rfl⟩⟩; (try first | exact ⟨rfl, _, World.drewN_drewN _ _ _⟩ | exact ⟨rfl, _, Eq.trans (World.drewN_drewN _ _ _) (congrArg (World.drewN _) (Nat.add_assoc _ _ _))⟩); obtain ⟨Ao36, co36, eo36⟩ := Kd.R_slice HO287.out; subst eo36; obtain ⟨Ao37, co37, eo37⟩ := Kd.R_slice HO291.out; subst eo37) | (go_at_call 15; (with_reducible refine (laws_likeInts.calls k _ _ t284 _ _ t288 true _ ?side1 ?side2 ?side3 ?side4 A28.out).mono ?_); (case side1 => repeat (first | exact (Kd.R_reads' HO287.out).2.2 | (with_reducible refine Kd.C_alloc ?_ _) | (with_reducible refine Kd.C_drewN ?_ _) | (with_reducible refine Kd.C_drew ?_))); (case side2 => exact (Kd.R_reads' HO287.out).2.1); (case side3 => repeat (first | exact (Kd.R_reads' HO291.out).2.2 | (with_reducible refine Kd.C_alloc ?_ _) | (with_reducible refine Kd.C_drewN ?_ _) | (with_reducible refine Kd.C_drew ?_))); (case side4 => exact (Kd.R_reads' HO291.out).2.1); rintro e w' ⟨rfl, ⟨nd, rfl⟩⟩; (try first | exact ⟨rfl, _, World.drewN_drewN _ _ _⟩ | exact ⟨rfl, _, Eq.trans (World.drewN_drewN _ _ _) (congrArg (World.drewN _) (Nat.add_assoc _ _ _))⟩)) | (go_at_call 16; (with_reducible refine (impl_AreHoles.calls k _ _ t292 t301 _ ?side1 ?side2 A32.out).mono ?_); (case side1 => repeat (first | exact (Kd.R_reads' HO294.out).2.2 | (with_reducible refine Kd.C_alloc ?_ _) | (with_reducible refine Kd.C_drewN ?_ _) | (with_reducible refine Kd.C_drew ?_))); (case side2 => exact (Kd.R_reads' HO294.out).2.1); rintro e w38 ⟨rfl, hb⟩; have n0_ := Aside0.mk (Kd.R_below (by (with_reducible repeat (first | apply Kd.R_alloc | apply Kd.R_drewN | apply Kd.R_drew)); exact HO272.out) hb); have n1_ := Aside0.mk (Kd.R_below (by (with_reducible repeat (first | apply Kd.R_alloc | apply Kd.R_drewN | apply Kd.R_drew)); exact HO276.out) hb); have n2_ := Aside0.mk (Kd.R_below (by (with_reducible repeat (first | apply Kd.R_alloc | apply Kd.R_drewN | apply Kd.R_drew)); exact HO280.out) hb); have n3_ := Aside0.mk (Kd.R_below (by (with_reducible repeat (first | apply Kd.R_alloc | apply Kd.R_drewN | apply Kd.R_drew)); exact HO287.out) hb); have n4_ := Aside0.mk (Kd.R_below (by (with_reducible repeat (first | apply Kd.R_alloc | apply Kd.R_drewN | apply Kd.R_drew)); exact HO291.out) hb); have n5_ := Aside0.mk (Kd.R_below (by (with_reducible repeat (first | apply Kd.R_alloc | apply Kd.R_drewN | apply Kd.R_drew)); exact HO294.out) hb); have n6_ := Aside0.mk (below_step (by repeat (first | (with_reducible first | exact HB.out | apply below_alloc | apply pw_below_drewN | apply below_drew1) | exact HB.out)) hb); clear HO272; clear HO276; clear HO280; clear HO287; clear HO291; clear HO294; clear HB; have HO272 := n0_; have HO276 := n1_; have HO280 := n2_; have HO287 := n3_; have HO291 := n4_; have HO294 := n5_; have HB := n6_; clear n0_ n1_ n2_ n3_ n4_ n5_ n6_; (try clear hb); (try clear hb2); (try clear hk); (try clear hi)) | (go_at_call 17; (with_reducible refine (spec_AreHoles.calls k _ _ t292 t302 _ ?side1 ?side2 A33.out).mono ?_); (case side1 => repeat (first | exact (Kd.R_reads' HO294.out).2.2 | (with_reducible refine Kd.C_alloc ?_ _) | (with_reducible refine Kd.C_drewN ?_ _) | (with_reducible refine Kd.C_drew ?_))); (case side2 => exact (Kd.R_reads' HO294.out).2.1); rintro e w' ⟨rfl, ⟨nd, rfl⟩⟩; (try first | exact ⟨rfl, _, World.drewN_drewN _ _ _⟩ | exact ⟨rfl, _, Eq.trans (World.drewN_drewN _ _ _) (congrArg (World.drewN _) (Nat.add_assoc _ _ _))⟩))); try go_wp2_with (first | (go_at_call 15; (with_reducible refine (laws_likeInts.calls k _ _ t273 _ _ t277 true _ ?side1 ?side2 ?side3 ?side4 A25.out).mono ?_); (case side1 => repeat (first | exact (Kd.R_reads' HO276.out).2.2 | (with_reducible refine Kd.C_alloc ?_ _) | (with_reducible refine Kd.C_drewN ?_ _) | (with_reducible refine Kd.C_drew ?_))); (case side2 => exact (Kd.R_reads' HO276.out).2.1); (case side3 => repeat (first | exact (Kd.R_reads' HO280.out).2.2 | (with_reducible refine Kd.C_alloc ?_ _) | (with_reducible refine Kd.C_drewN ?_ _) | (with_reducible refine Kd.C_drew ?_))); (case side4 => exact (Kd.R_reads' HO280.out).2.1); rintro e w' ⟨rfl, ⟨nd, rfl⟩⟩; (try first | exact ⟨rfl, _, World.drewN_drewN _ _ _⟩ | exact ⟨rfl, _, Eq.trans (World.drewN_drewN _ _ _) (congrArg (World.drewN _) (Nat.add_assoc _ _ _))⟩); obtain ⟨Ao36, co36, eo36⟩ := Kd.R_slice HO287.out; subst eo36; obtain ⟨Ao37, co37, eo37⟩ := Kd.R_slice HO291.out; subst eo37) | (go_at_call 15; (with_reducible refine (laws_likeInts.calls k _ _ t284 _ _ t288 true _ ?side1 ?side2 ?side3 ?side4 A28.out).mono ?_); (case side1 => repeat (first | exact (Kd.R_reads' HO287.out).2.2 | (with_reducible refine Kd.C_alloc ?_ _) | (with_reducible refine Kd.C_drewN ?_ _) | (with_reducible refine Kd.C_drew ?_))); (case side2 => exact (Kd.R_reads' HO287.out).2.1); (case side3 => repeat (first | exact (Kd.R_reads' HO291.out).2.2 | (with_reducible refine Kd.C_alloc ?_ _) | (with_reducible refine Kd.C_drewN ?_ _) | (with_reducible refine Kd.C_drew ?_))); (case side4 => exact (Kd.R_reads' HO291.out).2.1); rintro e w' ⟨rfl, ⟨nd, rfl⟩⟩; (try first | exact ⟨rfl, _, World.drewN_drewN _ _ _⟩ | exact ⟨rfl, _, Eq.trans (World.drewN_drewN _ _ _) (congrArg (World.drewN _) (Nat.add_assoc _ _ _))⟩)) | (go_at_call 16; (with_reducible refine (impl_AreHoles.calls k _ _ t292 t301 _ ?side1 ?side2 A32.out).mono ?_); (case side1 => repeat (first | exact (Kd.R_reads' HO294.out).2.2 | (with_reducible refine Kd.C_alloc ?_ _) | (with_reducible refine Kd.C_drewN ?_ _) | (with_reducible refine Kd.C_drew ?_))); (case side2 => exact (Kd.R_reads' HO294.out).2.1); rintro e w38 ⟨rfl, hb⟩; have n0_ := Aside0.mk (Kd.R_below (by (with_reducible repeat (first | apply Kd.R_alloc | apply Kd.R_drewN | apply Kd.R_drew)); exact HO272.out) hb); have n1_ := Aside0.mk (Kd.R_below (by (with_reducible repeat (first | apply Kd.R_alloc | apply Kd.R_drewN | apply Kd.R_drew)); exact HO276.out) hb); have n2_ := Aside0.mk (Kd.R_below (by (with_reducible repeat (first | apply Kd.R_alloc | apply Kd.R_drewN | apply Kd.R_drew)); exact HO280.out) hb); have n3_ := Aside0.mk (Kd.R_below (by (with_reducible repeat (first | apply Kd.R_alloc | apply Kd.R_drewN | apply Kd.R_drew)); exact HO287.out) hb); have n4_ := Aside0.mk (Kd.R_below (by (with_reducible repeat (first | apply Kd.R_alloc | apply Kd.R_drewN | apply Kd.R_drew)); exact HO291.out) hb); have n5_ := Aside0.mk (Kd.R_below (by (with_reducible repeat (first | apply Kd.R_alloc | apply Kd.R_drewN | apply Kd.R_drew)); exact HO294.out) hb); have n6_ := Aside0.mk (below_step (by repeat (first | (with_reducible first | exact HB.out | apply below_alloc | apply pw_below_drewN | apply below_drew1) | exact HB.out)) hb); clear HO272; clear HO276; clear HO280; clear HO287; clear HO291; clear HO294; clear HB; have HO272 := n0_; have HO276 := n1_; have HO280 := n2_; have HO287 := n3_; have HO291 := n4_; have HO294 := n5_; have HB := n6_; clear n0_ n1_ n2_ n3_ n4_ n5_ n6_; (try clear hb); (try clear hb2); (try clear hk); (try clear hi)) | (go_at_call 17; (with_reducible refine (spec_AreHoles.calls k _ _ t292 t302 _ ?side1 ?side2 A33.out).mono ?_); (case side1 => repeat (first | exact (Kd.R_reads' HO294.out).2.2 | (with_reducible refine Kd.C_alloc ?_ _) | (with_reducible refine Kd.C_drewN ?_ _) | (with_reducible refine Kd.C_drew ?_))); (case side2 => exact (Kd.R_reads' HO294.out).2.1); rintro e w' ⟨rfl, ⟨nd, rfl⟩⟩; (try first | exact ⟨rfl, _, World.drewN_drewN _ _ _⟩ | exact ⟨rfl, _, Eq.trans (World.drewN_drewN _ _ _) (congrArg (World.drewN _) (Nat.add_assoc _ _ _))⟩))))
                  go_meet
                  case rel => exact ⟨_, ((t301 != t302)), (by first | rfl | (simp; done) | (simp [*]; done)), H', ⟨by first | omega | exact Nat.le_refl _⟩, ⟨by (with_reducible repeat (first | apply Kd.R_alloc | apply Kd.R_drewN | apply Kd.R_drew)); exact Kd.R_mono HO272.out (fun _ hk => ⟨hk.1.1.1.1.2, ⟨hk.1.1.2, hk.2⟩⟩)⟩, ⟨by (with_reducible repeat (first | apply Kd.R_alloc | apply Kd.R_drewN | apply Kd.R_drew)); exact Kd.R_mono HO276.out (fun _ hk => ⟨hk.1.1.1.1.2, ⟨hk.1.1.2, hk.2⟩⟩)⟩, ⟨by (with_reducible repeat (first | apply Kd.R_alloc | apply Kd.R_drewN | apply Kd.R_drew)); exact Kd.R_mono HO287.out (fun _ hk => ⟨hk.1.1.1.1.2, ⟨hk.1.1.1.2, hk.2⟩⟩)⟩, ⟨by (with_reducible repeat (first | apply Kd.R_alloc | apply Kd.R_drewN | apply Kd.R_drew)); exact Kd.R_mono HO294.out (fun _ hk => ⟨hk.1.1.1.1.2, ⟨hk.1.1.1.2, hk.1.2⟩⟩)⟩, ⟨by repeat (first | (with_reducible first | exact HB.out | apply below_alloc | apply pw_below_drewN | apply below_drew1) | exact HB.out)⟩⟩
                · rw [if_neg c31] at H
                  have c31b0 : (t295 == t297) = false := beq_eq_false_iff_ne.mpr c31
                  have c31b1 : (t295 != t297) = true := bne_iff_ne.mpr c31
                  have H' := Aside0.mk H
                  clear H
                  obtain ⟨Ao39, co39, eo39⟩ := Kd.R_slice HO276.out
                  subst eo39
                  obtain ⟨Ao40, co40, eo40⟩ := Kd.R_slice HO280.out
                  subst eo40
                  go_wp2_with (first | (go_at_call 15; (with_reducible refine (laws_likeInts.calls k _ _ t273 _ _ t277 true _ ?side1 ?side2 ?side3 ?side4 A25.out).mono ?_); (case side1 => repeat (first | exact (Kd.R_reads' HO276.out).2.2 | (with_reducible refine Kd.C_alloc ?_ _) | (with_reducible refine Kd.C_drewN ?_ _) | (with_reducible refine Kd.C_drew ?_))); (case side2 => exact (Kd.R_reads' HO276.out).2.1); (case side3 => repeat (first | exact (Kd.R_reads' HO280.out).2.2 | (with_reducible refine Kd.C_alloc ?_ _) | (with_reducible refine Kd.C_drewN ?_ _) | (with_reducible refine Kd.C_drew ?_))); (case side4 => exact (Kd.R_reads' HO280.out).2.1); rintro e w' ⟨rfl, ⟨nd, rfl⟩⟩; (try first | exact ⟨rfl, _, World.drewN_drewN _ _ _⟩ | exact ⟨rfl, _, Eq.trans (World.drewN_drewN _ _ _) (congrArg (World.drewN _) (Nat.add_assoc _ _ _))⟩); obtain ⟨Ao41, co41, eo41⟩ := Kd.R_slice HO287.out; subst eo41; obtain ⟨Ao42, co42, eo42⟩ := Kd.R_slice HO291.out; subst eo42) | (go_at_call 15; (with_reducible refine (laws_likeInts.calls k _ _ t284 _ _ t288 true _ ?side1 ?side2 ?side3 ?side4 A28.out).mono ?_); (case side1 => repeat (first | exact (Kd.R_reads' HO287.out).2.2 | (with_reducible refine Kd.C_alloc ?_ _) | (with_reducible refine Kd.C_drewN ?_ _) | (with_reducible refine Kd.C_drew ?_))); (case side2 => exact (Kd.R_reads' HO287.out).2.1); (case side3 => repeat (first | exact (Kd.R_reads' HO291.out).2.2 | (with_reducible refine Kd.C_alloc ?_ _) | (with_reducible refine Kd.C_drewN ?_ _) | (with_reducible refine Kd.C_drew ?_))); (case side4 => exact (Kd.R_reads' HO291.out).2.1); rintro e w' ⟨rfl, ⟨nd, rfl⟩⟩; (try first | exact ⟨rfl, _, World.drewN_drewN _ _ _⟩ | exact ⟨rfl, _, Eq.trans (World.drewN_drewN _ _ _) (congrArg (World.drewN _) (Nat.add_assoc _ _ _))⟩)))
                  repeat (go_quiet (first | (go_at_call 15; (with_reducible refine (laws_likeInts.calls k _ _ t273 _ _ t277 true _ ?side1 ?side2 ?side3 ?side4 A25.out).mono ?_); (case side1 => repeat (first | exact (Kd.R_reads' HO276.out).2.2 | (with_reducible refine Kd.C_alloc ?_ _) | (with_reducible refine Kd.C_drewN ?_ _) | (with_reducible refine Kd.C_drew ?_))); (case side2 => exact (Kd.R_reads' HO276.out).2.1); (case side3 => repeat (first | exact (Kd.R_reads' HO280.out).2.2 | (with_reducible refine Kd.C_alloc ?_ _) | (with_reducible refine Kd.C_drewN ?_ _) | (with_reducible refine Kd.C_drew ?_))); (case side4 => exact (Kd.R_reads' HO280.out).2.1); rintro e w' ⟨rfl, ⟨nd, rfl⟩⟩; (try first | exact ⟨rfl, _, World.drewN_drewN _ _ _⟩ | exact ⟨rfl, _, Eq.trans (World.drewN_drewN _ _ _) (congrArg (World.drewN _) (Nat.add_assoc _ _ _))⟩); obtain ⟨Ao41, co41, eo41⟩ := Kd.R_slice HO287.out; subst eo41; obtain ⟨Ao42, co42, eo42⟩ := Kd.R_slice HO291.out; subst eo42) | (go_at_call 15; (with_reducible refine (laws_likeInts.calls k _ _ t284 _ _ t288 true _ ?side1 ?side2 ?side3 ?side4 A28.out).mono ?_); (case side1 => repeat (first | exact (Kd.R_reads' HO287.out).2.2 | (with_reducible refine Kd.C_alloc ?_ _) | (with_reducible refine Kd.C_drewN ?_ _) | (with_reducible refine Kd.C_drew ?_))); (case side2 => exact (Kd.R_reads' HO287.out).2.1); (case side3 => repeat (first | exact (Kd.R_reads' HO291.out).2.2 | (with_reducible refine Kd.C_alloc ?_ _) | (with_reducible refine Kd.C_drewN ?_ _) | (with_reducible refine Kd.C_drew ?_))); (case side4 => exact (Kd.R_reads' HO291.out).2.1); rintro e w' ⟨rfl, ⟨nd, rfl⟩⟩; (try first | exact ⟨rfl, _, World.drewN_drewN _ _ _⟩ | exact ⟨rfl, _, Eq.trans (World.drewN_drewN _ _ _) (congrArg (World.drewN _) (Nat.add_assoc _ _ _))⟩))); try go_wp2_with (first | (go_at_call 15; (with_reducible refine (laws_likeInts.calls k _ _ t273 _ _ t277 true _ ?side1 ?side2 ?side3 ?side4 A25.out).mono ?_); (case side1 => repeat (first | exact (Kd.R_reads' HO276.out).2.2 | (with_reducible refine Kd.C_alloc ?_ _) | (with_reducible refine Kd.C_drewN ?_ _) | (with_reducible refine Kd.C_drew ?_))); (case side2 => exact (Kd.R_reads' HO276.out).2.1); (case side3 => repeat (first | exact (Kd.R_reads' HO280.out).2.2 | (with_reducible refine Kd.C_alloc ?_ _) | (with_reducible refine Kd.C_drewN ?_ _) | (with_reducible refine Kd.C_drew ?_))); (case side4 => exact (Kd.R_reads' HO280.out).2.1); rintro e w' ⟨rfl, ⟨nd, rfl⟩⟩; (try first | exact ⟨rfl, _, World.drewN_drewN _ _ _⟩ | exact ⟨rfl, _, Eq.trans (World.drewN_drewN _ _ _) (congrArg (World.drewN _) (Nat.add_assoc _ _ _))⟩); obtain ⟨Ao41, co41, eo41⟩ := Kd.R_slice HO287.out; subst eo41; obtain ⟨Ao42, co42, eo42⟩ := Kd.R_slice HO291.out; subst eo42) | (go_at_call 15; (with_reducible refine (laws_likeInts.calls k _ _ t284 _ _ t288 true _ ?side1 ?side2 ?side3 ?side4 A28.out).mono ?_); (case side1 => repeat (first | exact (Kd.R_reads' HO287.out).2.2 | (with_reducible refine Kd.C_alloc ?_ _) | (with_reducible refine Kd.C_drewN ?_ _) | (with_reducible refine Kd.C_drew ?_))); (case side2 => exact (Kd.R_reads' HO287.out).2.1); (case side3 => repeat (first | exact (Kd.R_reads' HO291.out).2.2 | (with_reducible refine Kd.C_alloc ?_ _) | (with_reducible refine Kd.C_drewN ?_ _) | (with_reducible refine Kd.C_drew ?_))); (case side4 => exact (Kd.R_reads' HO291.out).2.1); rintro e w' ⟨rfl, ⟨nd, rfl⟩⟩; (try first | exact ⟨rfl, _, World.drewN_drewN _ _ _⟩ | exact ⟨rfl, _, Eq.trans (World.drewN_drewN _ _ _) (congrArg (World.drewN _) (Nat.add_assoc _ _ _))⟩))))
                  go_meet
                  case rel => exact ⟨_, (true), (by first | rfl | (simp; done) | (simp [*]; done)), H', ⟨by first | omega | exact Nat.le_refl _⟩, ⟨by (with_reducible repeat (first | apply Kd.R_alloc | apply Kd.R_drewN | apply Kd.R_drew)); exact Kd.R_mono HO272.out (fun _ hk => ⟨hk.1.1.1.1.2, ⟨hk.1.1.2, hk.2⟩⟩)⟩, ⟨by (with_reducible repeat (first | apply Kd.R_alloc | apply Kd.R_drewN | apply Kd.R_drew)); exact Kd.R_mono HO276.out (fun _ hk => ⟨hk.1.1.1.1.2, ⟨hk.1.1.2, hk.2⟩⟩)⟩, ⟨by (with_reducible repeat (first | apply Kd.R_alloc | apply Kd.R_drewN | apply Kd.R_drew)); exact Kd.R_mono HO287.out (fun _ hk => ⟨hk.1.1.1.1.2, ⟨hk.1.1.1.2, hk.2⟩⟩)⟩, ⟨by (with_reducible repeat (first | apply Kd.R_alloc | apply Kd.R_drewN | apply Kd.R_drew)); exact Kd.R_mono HO294.out (fun _ hk => ⟨hk.1.1.1.1.2, ⟨hk.1.1.1.2, hk.1.2⟩⟩)⟩, ⟨by repeat (first | (with_reducible first | exact HB.out | apply below_alloc | apply pw_below_drewN | apply below_drew1) | exact HB.out)⟩⟩
              · rw [if_neg c30] at H
                have c30b0 : (t296 == t298) = false := beq_eq_false_iff_ne.mpr c30
                have c30b1 : (t296 != t298) = true := bne_iff_ne.mpr c30
                have H' := Aside0.mk H
                clear H
                obtain ⟨Ao43, co43, eo43⟩ := Kd.R_slice HO276.out
                subst eo43
                obtain ⟨Ao44, co44, eo44⟩ := Kd.R_slice HO280.out
                subst eo44
                go_wp2_with (first | (go_at_call 15; (with_reducible refine (laws_likeInts.calls k _ _ t273 _ _ t277 true _ ?side1 ?side2 ?side3 ?side4 A25.out).mono ?_); (case side1 => repeat (first | exact (Kd.R_reads' HO276.out).2.2 | (with_reducible refine Kd.C_alloc ?_ _) | (with_reducible refine Kd.C_drewN ?_ _) | (with_reducible refine Kd.C_drew ?_))); (case side2 => exact (Kd.R_reads' HO276.out).2.1); (case side3 => repeat (first | exact (Kd.R_reads' HO280.out).2.2 | (with_reducible refine Kd.C_alloc ?_ _) | (with_reducible refine Kd.C_drewN ?_ _) | (with_reducible refine Kd.C_drew ?_))); (case side4 => exact (Kd.R_reads' HO280.out).2.1); rintro e w' ⟨rfl, ⟨nd, rfl⟩⟩; (try first | exact ⟨rfl, _, World.drewN_drewN _ _ _⟩ | exact ⟨rfl, _, Eq.trans (World.drewN_drewN _ _ _) (congrArg (World.drewN _) (Nat.add_assoc _ _ _))⟩); obtain ⟨Ao45, co45, eo45⟩ := Kd.R_slice HO287.out; subst eo45; obtain ⟨Ao46, co46, eo46⟩ := Kd.R_slice HO291.out; subst eo46) | (go_at_call 15; (with_reducible refine (laws_likeInts.calls k _ _ t284 _ _ t288 true _ ?side1 ?side2 ?side3 ?side4 A28.out).mono ?_); (case side1 => repeat (first | exact (Kd.R_reads' HO287.out).2.2 | (with_reducible refine Kd.C_alloc ?_ _) | (with_reducible refine Kd.C_drewN ?_ _) | (with_reducible refine Kd.C_drew ?_))); (case side2 => exact (Kd.R_reads' HO287.out).2.1); (case side3 => repeat (first | exact (Kd.R_reads' HO291.out).2.2 | (with_reducible refine Kd.C_alloc ?_ _) | (with_reducible refine Kd.C_drewN ?_ _) | (with_reducible refine Kd.C_drew ?_))); (case side4 => exact (Kd.R_reads' HO291.out).2.1); rintro e w' ⟨rfl, ⟨nd, rfl⟩⟩; (try first | exact ⟨rfl, _, World.drewN_drewN _ _ _⟩ | exact ⟨rfl, _, Eq.trans (World.drewN_drewN _ _ _) (congrArg (World.drewN _) (Nat.add_assoc _ _ _))⟩)))
                repeat (go_quiet (first | (go_at_call 15; (with_reducible refine (laws_likeInts.calls k _ _ t273 _ _ t277 true _ ?side1 ?side2 ?side3 ?side4 A25.out).mono ?_); (case side1 => repeat (first | exact (Kd.R_reads' HO276.out).2.2 | (with_reducible refine Kd.C_alloc ?_ _) | (with_reducible refine Kd.C_drewN ?_ _) | (with_reducible refine Kd.C_drew ?_))); (case side2 => exact (Kd.R_reads' HO276.out).2.1); (case side3 => repeat (first | exact (Kd.R_reads' HO280.out).2.2 | (with_reducible refine Kd.C_alloc ?_ _) | (with_reducible refine Kd.C_drewN ?_ _) | (with_reducible refine Kd.C_drew ?_))); (case side4 => exact (Kd.R_reads' HO280.out).2.1); rintro e w' ⟨rfl, ⟨nd, rfl⟩⟩; (try first | exact ⟨rfl, _, World.drewN_drewN _ _ _⟩ | exact ⟨rfl, _, Eq.trans (World.drewN_drewN _ _ _) (congrArg (World.drewN _) (Nat.add_assoc _ _ _))⟩); obtain ⟨Ao45, co45, eo45⟩ := Kd.R_slice HO287.out; subst eo45; obtain ⟨Ao46, co46, eo46⟩ := Kd.R_slice HO291.out; subst eo46) | (go_at_call 15; (with_reducible refine (laws_likeInts.calls k _ _ t284 _ _ t288 true _ ?side1 ?side2 ?side3 ?side4 A28.out).mono ?_); (case side1 => repeat (first | exact (Kd.R_reads' HO287.out).2.2 | (with_reducible refine Kd.C_alloc ?_ _) | (with_reducible refine Kd.C_drewN ?_ _) | (with_reducible refine Kd.C_drew ?_))); (case side2 => exact (Kd.R_reads' HO287.out).2.1); (case side3 => repeat (first | exact (Kd.R_reads' HO291.out).2.2 | (with_reducible refine Kd.C_alloc ?_ _) | (with_reducible refine Kd.C_drewN ?_ _) | (with_reducible refine Kd.C_drew ?_))); (case side4 => exact (Kd.R_reads' HO291.out).2.1); rintro e w' ⟨rfl, ⟨nd, rfl⟩⟩; (try first | exact ⟨rfl, _, World.drewN_drewN _ _ _⟩ | exact ⟨rfl, _, Eq.trans (World.drewN_drewN _ _ _) (congrArg (World.drewN _) (Nat.add_assoc _ _ _))⟩))); try go_wp2_with (first | (go_at_call 15; (with_reducible refine (laws_likeInts.calls k _ _ t273 _ _ t277 true _ ?side1 ?side2 ?side3 ?side4 A25.out).mono ?_); (case side1 => repeat (first | exact (Kd.R_reads' HO276.out).2.2 | (with_reducible refine Kd.C_alloc ?_ _) | (with_reducible refine Kd.C_drewN ?_ _) | (with_reducible refine Kd.C_drew ?_))); (case side2 => exact (Kd.R_reads' HO276.out).2.1); (case side3 => repeat (first | exact (Kd.R_reads' HO280.out).2.2 | (with_reducible refine Kd.C_alloc ?_ _) | (with_reducible refine Kd.C_drewN ?_ _) | (with_reducible refine Kd.C_drew ?_))); (case side4 => exact (Kd.R_reads' HO280.out).2.1); rintro e w' ⟨rfl, ⟨nd, rfl⟩⟩; (try first | exact ⟨rfl, _, World.drewN_drewN _ _ _⟩ | exact ⟨rfl, _, Eq.trans (World.drewN_drewN _ _ _) (congrArg (World.drewN _) (Nat.add_assoc _ _ _))⟩); obtain ⟨Ao45, co45, eo45⟩ := Kd.R_slice HO287.out; subst eo45; obtain ⟨Ao46, co46, eo46⟩ := Kd.R_slice HO291.out; subst eo46) | (go_at_call 15; (with_reducible refine (laws_likeInts.calls k _ _ t284 _ _ t288 true _ ?side1 ?side2 ?side3 ?side4 A28.out).mono ?_); (case side1 => repeat (first | exact (Kd.R_reads' HO287.out).2.2 | (with_reducible refine Kd.C_alloc ?_ _) | (with_reducible refine Kd.C_drewN ?_ _) | (with_reducible refine Kd.C_drew ?_))); (case side2 => exact (Kd.R_reads' HO287.out).2.1); (case side3 => repeat (first | exact (Kd.R_reads' HO291.out).2.2 | (with_reducible refine Kd.C_alloc ?_ _) | (with_reducible refine Kd.C_drewN ?_ _) | (with_reducible refine Kd.C_drew ?_))); (case side4 => exact (Kd.R_reads' HO291.out).2.1); rintro e w' ⟨rfl, ⟨nd, rfl⟩⟩; (try first | exact ⟨rfl, _, World.drewN_drewN _ _ _⟩ | exact ⟨rfl, _, Eq.trans (World.drewN_drewN _ _ _) (congrArg (World.drewN _) (Nat.add_assoc _ _ _))⟩))))
                go_meet
                case rel => exact ⟨_, (true), (by first | rfl | (simp; done) | (simp [*]; done)), H', ⟨by first | omega | exact Nat.le_refl _⟩, ⟨by (with_reducible repeat (first | apply Kd.R_alloc | apply Kd.R_drewN | apply Kd.R_drew)); exact Kd.R_mono HO272.out (fun _ hk => ⟨hk.1.1.1.1.2, ⟨hk.1.1.2, hk.2⟩⟩)⟩, ⟨by (with_reducible repeat (first | apply Kd.R_alloc | apply Kd.R_drewN | apply Kd.R_drew)); exact Kd.R_mono HO276.out (fun _ hk => ⟨hk.1.1.1.1.2, ⟨hk.1.1.2, hk.2⟩⟩)⟩, ⟨by (with_reducible repeat (first | apply Kd.R_alloc | apply Kd.R_drewN | apply Kd.R_drew)); exact Kd.R_mono HO287.out (fun _ hk => ⟨hk.1.1.1.1.2, ⟨hk.1.1.1.2, hk.2⟩⟩)⟩, ⟨by (with_reducible repeat (first | apply Kd.R_alloc | apply Kd.R_drewN | apply Kd.R_drew)); exact Kd.R_mono HO294.out (fun _ hk => ⟨hk.1.1.1.1.2, ⟨hk.1.1.1.2, hk.1.2⟩⟩)⟩, ⟨by repeat (first | (with_reducible first | exact HB.out | apply below_alloc | apply pw_below_drewN | apply below_drew1) | exact HB.out)⟩⟩
            · replace c29 := Bool.eq_false_iff.mpr c29
              subst c29
              have H1 : (laws_FnHoles.j0 k t269 t270 t273 t274 t281 t283 t284 t285 t292 t295 t296 true) = some r := by rw [if_neg (show ¬ (false = true) by decide)] at H; exact H
              clear H
              have H := H1
              clear H1
              have H' := Aside0.mk H
              clear H
              obtain ⟨Ao47, co47, eo47⟩ := Kd.R_slice HO276.out
              subst eo47
              obtain ⟨Ao48, co48, eo48⟩ := Kd.R_slice HO280.out
              subst eo48
              go_wp2_with (first | (go_at_call 15; (with_reducible refine (laws_likeInts.calls k _ _ t273 _ _ t277 true _ ?side1 ?side2 ?side3 ?side4 A25.out).mono ?_); (case side1 => repeat (first | exact (Kd.R_reads' HO276.out).2.2 | (with_reducible refine Kd.C_alloc ?_ _) | (with_reducible refine Kd.C_drewN ?_ _) | (with_reducible refine Kd.C_drew ?_))); (case side2 => exact (Kd.R_reads' HO276.out).2.1); (case side3 => repeat (first | exact (Kd.R_reads' HO280.out).2.2 | (with_reducible refine Kd.C_alloc ?_ _) | (with_reducible refine Kd.C_drewN ?_ _) | (with_reducible refine Kd.C_drew ?_))); (case side4 => exact (Kd.R_reads' HO280.out).2.1); rintro e w' ⟨rfl, ⟨nd, rfl⟩⟩; (try first | exact ⟨rfl, _, World.drewN_drewN _ _ _⟩ | exact ⟨rfl, _, Eq.trans (World.drewN_drewN _ _ _) (congrArg (World.drewN _) (Nat.add_assoc _ _ _))⟩); obtain ⟨Ao49, co49, eo49⟩ := Kd.R_slice HO287.out; subst eo49; obtain ⟨Ao50, co50, eo50⟩ := Kd.R_slice HO291.out; subst eo50) | (go_at_call 15; (with_reducible refine (laws_likeInts.calls k _ _ t284 _ _ t288 false _ ?side1 ?side2 ?side3 ?side4 A28.out).mono ?_); (case side1 => repeat (first | exact (Kd.R_reads' HO287.out).2.2 | (with_reducible refine Kd.C_alloc ?_ _) | (with_reducible refine Kd.C_drewN ?_ _) | (with_reducible refine Kd.C_drew ?_))); (case side2 => exact (Kd.R_reads' HO287.out).2.1); (case side3 => repeat (first | exact (Kd.R_reads' HO291.out).2.2 | (with_reducible refine Kd.C_alloc ?_ _) | (with_reducible refine Kd.C_drewN ?_ _) | (with_reducible refine Kd.C_drew ?_))); (case side4 => exact (Kd.R_reads' HO291.out).2.1); rintro e w' ⟨rfl, ⟨nd, rfl⟩⟩; (try first | exact ⟨rfl, _, World.drewN_drewN _ _ _⟩ | exact ⟨rfl, _, Eq.trans (World.drewN_drewN _ _ _) (congrArg (World.drewN _) (Nat.add_assoc _ _ _))⟩)))
              repeat (go_quiet (first | (go_at_call 15; (with_reducible refine (laws_likeInts.calls k _ _ t273 _ _ t277 true _ ?side1 ?side2 ?side3 ?side4 A25.out).mono ?_); (case side1 => repeat (first | exact (Kd.R_reads' HO276.out).2.2 | (with_reducible refine Kd.C_alloc ?_ _) | (with_reducible refine Kd.C_drewN ?_ _) | (with_reducible refine Kd.C_drew ?_))); (case side2 => exact (Kd.R_reads' HO276.out).2.1); (case side3 => repeat (first | exact (Kd.R_reads' HO280.out).2.2 | (with_reducible refine Kd.C_alloc ?_ _) | (with_reducible refine Kd.C_drewN ?_ _) | (with_reducible refine Kd.C_drew ?_))); (case side4 => exact (Kd.R_reads' HO280.out).2.1); rintro e w' ⟨rfl, ⟨nd, rfl⟩⟩; (try first | exact ⟨rfl, _, World.drewN_drewN _ _ _⟩ | exact ⟨rfl, _, Eq.trans (World.drewN_drewN _ _ _) (congrArg (World.drewN _) (Nat.add_assoc _ _ _))⟩); obtain ⟨Ao49, co49, eo49⟩ := Kd.R_slice HO287.out; subst eo49; obtain ⟨Ao50, co50, eo50⟩ := Kd.R_slice HO291.out; subst eo50) | (go_at_call 15; (with_reducible refine (laws_likeInts.calls k _ _ t284 _ _ t288 false _ ?side1 ?side2 ?side3 ?side4 A28.out).mono ?_); (case side1 => repeat (first | exact (Kd.R_reads' HO287.out).2.2 | (with_reducible refine Kd.C_alloc ?_ _) | (with_reducible refine Kd.C_drewN ?_ _) | (with_reducible refine Kd.C_drew ?_))); (case side2 => exact (Kd.R_reads' HO287.out).2.1); (case side3 => repeat (first | exact (Kd.R_reads' HO291.out).2.2 | (with_reducible refine Kd.C_alloc ?_ _) | (with_reducible refine Kd.C_drewN ?_ _) | (with_reducible refine Kd.C_drew ?_))); (case side4 => exact (Kd.R_reads' HO291.out).2.1); rintro e w' ⟨rfl, ⟨nd, rfl⟩⟩; (try first | exact ⟨rfl, _, World.drewN_drewN _ _ _⟩ | exact ⟨rfl, _, Eq.trans (World.drewN_drewN _ _ _) (congrArg (World.drewN _) (Nat.add_assoc _ _ _))⟩))); try go_wp2_with (first | (go_at_call 15; (with_reducible refine (laws_likeInts.calls k _ _ t273 _ _ t277 true _ ?side1 ?side2 ?side3 ?side4 A25.out).mono ?_); (case side1 => repeat (first | exact (Kd.R_reads' HO276.out).2.2 | (with_reducible refine Kd.C_alloc ?_ _) | (with_reducible refine Kd.C_drewN ?_ _) | (with_reducible refine Kd.C_drew ?_))); (case side2 => exact (Kd.R_reads' HO276.out).2.1); (case side3 => repeat (first | exact (Kd.R_reads' HO280.out).2.2 | (with_reducible refine Kd.C_alloc ?_ _) | (with_reducible refine Kd.C_drewN ?_ _) | (with_reducible refine Kd.C_drew ?_))); (case side4 => exact (Kd.R_reads' HO280.out).2.1); rintro e w' ⟨rfl, ⟨nd, rfl⟩⟩; (try first | exact ⟨rfl, _, World.drewN_drewN _ _ _⟩ | exact ⟨rfl, _, Eq.trans (World.drewN_drewN _ _ _) (congrArg (World.drewN _) (Nat.add_assoc _ _ _))⟩); obtain ⟨Ao49, co49, eo49⟩ := Kd.R_slice HO287.out; subst eo49; obtain ⟨Ao50, co50, eo50⟩ := Kd.R_slice HO291.out; subst eo50) | (go_at_call 15; (with_reducible refine (laws_likeInts.calls k _ _ t284 _ _ t288 false _ ?side1 ?side2 ?side3 ?side4 A28.out).mono ?_); (case side1 => repeat (first | exact (Kd.R_reads' HO287.out).2.2 | (with_reducible refine Kd.C_alloc ?_ _) | (with_reducible refine Kd.C_drewN ?_ _) | (with_reducible refine Kd.C_drew ?_))); (case side2 => exact (Kd.R_reads' HO287.out).2.1); (case side3 => repeat (first | exact (Kd.R_reads' HO291.out).2.2 | (with_reducible refine Kd.C_alloc ?_ _) | (with_reducible refine Kd.C_drewN ?_ _) | (with_reducible refine Kd.C_drew ?_))); (case side4 => exact (Kd.R_reads' HO291.out).2.1); rintro e w' ⟨rfl, ⟨nd, rfl⟩⟩; (try first | exact ⟨rfl, _, World.drewN_drewN _ _ _⟩ | exact ⟨rfl, _, Eq.trans (World.drewN_drewN _ _ _) (congrArg (World.drewN _) (Nat.add_assoc _ _ _))⟩))))
              go_meet
              case rel => exact ⟨_, (true), (by first | rfl | (simp; done) | (simp [*]; done)), H', ⟨by first | omega | exact Nat.le_refl _⟩, ⟨by (with_reducible repeat (first | apply Kd.R_alloc | apply Kd.R_drewN | apply Kd.R_drew)); exact Kd.R_mono HO272.out (fun _ hk => ⟨hk.1.1.1.1.2, ⟨hk.1.1.2, hk.2⟩⟩)⟩, ⟨by (with_reducible repeat (first | apply Kd.R_alloc | apply Kd.R_drewN | apply Kd.R_drew)); exact Kd.R_mono HO276.out (fun _ hk => ⟨hk.1.1.1.1.2, ⟨hk.1.1.2, hk.2⟩⟩)⟩, ⟨by (with_reducible repeat (first | apply Kd.R_alloc | apply Kd.R_drewN | apply Kd.R_drew)); exact Kd.R_mono HO287.out (fun _ hk => ⟨hk.1.1.1.1.2, ⟨hk.1.1.1.2, hk.2⟩⟩)⟩, ⟨by (with_reducible repeat (first | apply Kd.R_alloc | apply Kd.R_drewN | apply Kd.R_drew)); exact Kd.R_mono HO294.out (fun _ hk => ⟨hk.1.1.1.1.2, ⟨hk.1.1.1.2, hk.1.2⟩⟩)⟩, ⟨by repeat (first | (with_reducible first | exact HB.out | apply below_alloc | apply pw_below_drewN | apply below_drew1) | exact HB.out)⟩⟩
          · rw [if_neg c27] at H
            have c27b0 : (t285 == t289) = false := beq_eq_false_iff_ne.mpr c27
            have c27b1 : (t285 != t289) = true := bne_iff_ne.mpr c27
            have H' := Aside0.mk H
            clear H
            obtain ⟨Ao51, co51, eo51⟩ := Kd.R_slice HO276.out
            subst eo51
            obtain ⟨Ao52, co52, eo52⟩ := Kd.R_slice HO280.out
            subst eo52
            go_wp2_with (first | (go_at_call 15; (with_reducible refine (laws_likeInts.calls k _ _ t273 _ _ t277 true _ ?side1 ?side2 ?side3 ?side4 A25.out).mono ?_); (case side1 => repeat (first | exact (Kd.R_reads' HO276.out).2.2 | (with_reducible refine Kd.C_alloc ?_ _) | (with_reducible refine Kd.C_drewN ?_ _) | (with_reducible refine Kd.C_drew ?_))); (case side2 => exact (Kd.R_reads' HO276.out).2.1); (case side3 => repeat (first | exact (Kd.R_reads' HO280.out).2.2 | (with_reducible refine Kd.C_alloc ?_ _) | (with_reducible refine Kd.C_drewN ?_ _) | (with_reducible refine Kd.C_drew ?_))); (case side4 => exact (Kd.R_reads' HO280.out).2.1); rintro e w' ⟨rfl, ⟨nd, rfl⟩⟩; (try first | exact ⟨rfl, _, World.drewN_drewN _ _ _⟩ | exact ⟨rfl, _, Eq.trans (World.drewN_drewN _ _ _) (congrArg (World.drewN _) (Nat.add_assoc _ _ _))⟩)))
            repeat (go_quiet (first | (go_at_call 15; (with_reducible refine (laws_likeInts.calls k _ _ t273 _ _ t277 true _ ?side1 ?side2 ?side3 ?side4 A25.out).mono ?_); (case side1 => repeat (first | exact (Kd.R_reads' HO276.out).2.2 | (with_reducible refine Kd.C_alloc ?_ _) | (with_reducible refine Kd.C_drewN ?_ _) | (with_reducible refine Kd.C_drew ?_))); (case side2 => exact (Kd.R_reads' HO276.out).2.1); (case side3 => repeat (first | exact (Kd.R_reads' HO280.out).2.2 | (with_reducible refine Kd.C_alloc ?_ _) | (with_reducible refine Kd.C_drewN ?_ _) | (with_reducible refine Kd.C_drew ?_))); (case side4 => exact (Kd.R_reads' HO280.out).2.1); rintro e w' ⟨rfl, ⟨nd, rfl⟩⟩; (try first | exact ⟨rfl, _, World.drewN_drewN _ _ _⟩ | exact ⟨rfl, _, Eq.trans (World.drewN_drewN _ _ _) (congrArg (World.drewN _) (Nat.add_assoc _ _ _))⟩))); try go_wp2_with (first | (go_at_call 15; (with_reducible refine (laws_likeInts.calls k _ _ t273 _ _ t277 true _ ?side1 ?side2 ?side3 ?side4 A25.out).mono ?_); (case side1 => repeat (first | exact (Kd.R_reads' HO276.out).2.2 | (with_reducible refine Kd.C_alloc ?_ _) | (with_reducible refine Kd.C_drewN ?_ _) | (with_reducible refine Kd.C_drew ?_))); (case side2 => exact (Kd.R_reads' HO276.out).2.1); (case side3 => repeat (first | exact (Kd.R_reads' HO280.out).2.2 | (with_reducible refine Kd.C_alloc ?_ _) | (with_reducible refine Kd.C_drewN ?_ _) | (with_reducible refine Kd.C_drew ?_))); (case side4 => exact (Kd.R_reads' HO280.out).2.1); rintro e w' ⟨rfl, ⟨nd, rfl⟩⟩; (try first | exact ⟨rfl, _, World.drewN_drewN _ _ _⟩ | exact ⟨rfl, _, Eq.trans (World.drewN_drewN _ _ _) (congrArg (World.drewN _) (Nat.add_assoc _ _ _))⟩))))
            go_meet
            case rel => exact ⟨_, (true), (by first | rfl | (simp; done) | (simp [*]; done)), H', ⟨by first | omega | exact Nat.le_refl _⟩, ⟨by (with_reducible repeat (first | apply Kd.R_alloc | apply Kd.R_drewN | apply Kd.R_drew)); exact Kd.R_mono HO272.out (fun _ hk => ⟨hk.1.1.1.1.2, ⟨hk.1.1.2, hk.2⟩⟩)⟩, ⟨by (with_reducible repeat (first | apply Kd.R_alloc | apply Kd.R_drewN | apply Kd.R_drew)); exact Kd.R_mono HO276.out (fun _ hk => ⟨hk.1.1.1.1.2, ⟨hk.1.1.2, hk.2⟩⟩)⟩, ⟨by (with_reducible repeat (first | apply Kd.R_alloc | apply Kd.R_drewN | apply Kd.R_drew)); exact Kd.R_mono HO287.out (fun _ hk => ⟨hk.1.1.1.1.2, ⟨hk.1.1.1.2, hk.2⟩⟩)⟩, ⟨by (with_reducible repeat (first | apply Kd.R_alloc | apply Kd.R_drewN | apply Kd.R_drew)); exact Kd.R_mono HO294.out (fun _ hk => ⟨hk.1.1.1.1.2, ⟨hk.1.1.1.2, hk.1.2⟩⟩)⟩, ⟨by repeat (first | (with_reducible first | exact HB.out | apply below_alloc | apply pw_below_drewN | apply below_drew1) | exact HB.out)⟩⟩
        · replace c26 := Bool.eq_false_iff.mpr c26
          subst c26
          have H1 : (laws_FnHoles.j0 k t269 t270 t273 t274 t281 t283 t284 t285 t292 t295 t296 true) = some r := by rw [if_neg (show ¬ (false = true) by decide)] at H; exact H
          clear H
          have H := H1
          clear H1
          have H' := Aside0.mk H
          clear H
          obtain ⟨Ao53, co53, eo53⟩ := Kd.R_slice HO276.out
          subst eo53
          obtain ⟨Ao54, co54, eo54⟩ := Kd.R_slice HO280.out
          subst eo54
          go_wp2_with (first | (go_at_call 15; (with_reducible refine (laws_likeInts.calls k _ _ t273 _ _ t277 false _ ?side1 ?side2 ?side3 ?side4 A25.out).mono ?_); (case side1 => repeat (first | exact (Kd.R_reads' HO276.out).2.2 | (with_reducible refine Kd.C_alloc ?_ _) | (with_reducible refine Kd.C_drewN ?_ _) | (with_reducible refine Kd.C_drew ?_))); (case side2 => exact (Kd.R_reads' HO276.out).2.1); (case side3 => repeat (first | exact (Kd.R_reads' HO280.out).2.2 | (with_reducible refine Kd.C_alloc ?_ _) | (with_reducible refine Kd.C_drewN ?_ _) | (with_reducible refine Kd.C_drew ?_))); (case side4 => exact (Kd.R_reads' HO280.out).2.1); rintro e w' ⟨rfl, ⟨nd, rfl⟩⟩; (try first | exact ⟨rfl, _, World.drewN_drewN _ _ _⟩ | exact ⟨rfl, _, Eq.trans (World.drewN_drewN _ _ _) (congrArg (World.drewN _) (Nat.add_assoc _ _ _))⟩)))
          repeat (go_quiet (first | (go_at_call 15; (with_reducible refine (laws_likeInts.calls k _ _ t273 _ _ t277 false _ ?side1 ?side2 ?side3 ?side4 A25.out).mono ?_); (case side1 => repeat (first | exact (Kd.R_reads' HO276.out).2.2 | (with_reducible refine Kd.C_alloc ?_ _) | (with_reducible refine Kd.C_drewN ?_ _) | (with_reducible refine Kd.C_drew ?_))); (case side2 => exact (Kd.R_reads' HO276.out).2.1); (case side3 => repeat (first | exact (Kd.R_reads' HO280.out).2.2 | (with_reducible refine Kd.C_alloc ?_ _) | (with_reducible refine Kd.C_drewN ?_ _) | (with_reducible refine Kd.C_drew ?_))); (case side4 => exact (Kd.R_reads' HO280.out).2.1); rintro e w' ⟨rfl, ⟨nd, rfl⟩⟩; (try first | exact ⟨rfl, _, World.drewN_drewN _ _ _⟩ | exact ⟨rfl, _, Eq.trans (World.drewN_drewN _ _ _) (congrArg (World.drewN _) (Nat.add_assoc _ _ _))⟩))); try go_wp2_with (first | (go_at_call 15; (with_reducible refine (laws_likeInts.calls k _ _ t273 _ _ t277 false _ ?side1 ?side2 ?side3 ?side4 A25.out).mono ?_); (case side1 => repeat (first | exact (Kd.R_reads' HO276.out).2.2 | (with_reducible refine Kd.C_alloc ?_ _) | (with_reducible refine Kd.C_drewN ?_ _) | (with_reducible refine Kd.C_drew ?_))); (case side2 => exact (Kd.R_reads' HO276.out).2.1); (case side3 => repeat (first | exact (Kd.R_reads' HO280.out).2.2 | (with_reducible refine Kd.C_alloc ?_ _) | (with_reducible refine Kd.C_drewN ?_ _) | (with_reducible refine Kd.C_drew ?_))); (case side4 => exact (Kd.R_reads' HO280.out).2.1); rintro e w' ⟨rfl, ⟨nd, rfl⟩⟩; (try first | exact ⟨rfl, _, World.drewN_drewN _ _ _⟩ | exact ⟨rfl, _, Eq.trans (World.drewN_drewN _ _ _) (congrArg (World.drewN _) (Nat.add_assoc _ _ _))⟩))))
          go_meet
          case rel => exact ⟨_, (true), (by first | rfl | (simp; done) | (simp [*]; done)), H', ⟨by first | omega | exact Nat.le_refl _⟩, ⟨by (with_reducible repeat (first | apply Kd.R_alloc | apply Kd.R_drewN | apply Kd.R_drew)); exact Kd.R_mono HO272.out (fun _ hk => ⟨hk.1.1.1.1.2, ⟨hk.1.1.2, hk.2⟩⟩)⟩, ⟨by (with_reducible repeat (first | apply Kd.R_alloc | apply Kd.R_drewN | apply Kd.R_drew)); exact Kd.R_mono HO276.out (fun _ hk => ⟨hk.1.1.1.1.2, ⟨hk.1.1.2, hk.2⟩⟩)⟩, ⟨by (with_reducible repeat (first | apply Kd.R_alloc | apply Kd.R_drewN | apply Kd.R_drew)); exact Kd.R_mono HO287.out (fun _ hk => ⟨hk.1.1.1.1.2, ⟨hk.1.1.1.2, hk.2⟩⟩)⟩, ⟨by (with_reducible repeat (first | apply Kd.R_alloc | apply Kd.R_drewN | apply Kd.R_drew)); exact Kd.R_mono HO294.out (fun _ hk => ⟨hk.1.1.1.1.2, ⟨hk.1.1.1.2, hk.1.2⟩⟩)⟩, ⟨by repeat (first | (with_reducible first | exact HB.out | apply below_alloc | apply pw_below_drewN | apply below_drew1) | exact HB.out)⟩⟩
      · rw [if_neg c24] at H
        have c24b0 : (t274 == t278) = false := beq_eq_false_iff_ne.mpr c24
        have c24b1 : (t274 != t278) = true := bne_iff_ne.mpr c24
        (first | rw [c24b0] | (simp only [i64_w, i32_w]; rw [c24b0]) | skip)
        have H' := Aside0.mk H
        clear H
        go_wp2
        repeat (go_quiet (fail); try go_wp2)
        go_meet
        case rel => exact ⟨_, (true), (by first | rfl | (simp; done) | (simp [*]; done)), H', ⟨by first | omega | exact Nat.le_refl _⟩, ⟨by (with_reducible repeat (first | apply Kd.R_alloc | apply Kd.R_drewN | apply Kd.R_drew)); exact Kd.R_mono HO272.out (fun _ hk => ⟨hk.1.1.1.1.2, ⟨hk.1.1.2, hk.2⟩⟩)⟩, ⟨by (with_reducible repeat (first | apply Kd.R_alloc | apply Kd.R_drewN | apply Kd.R_drew)); exact Kd.R_mono HO276.out (fun _ hk => ⟨hk.1.1.1.1.2, ⟨hk.1.1.2, hk.2⟩⟩)⟩, ⟨by (with_reducible repeat (first | apply Kd.R_alloc | apply Kd.R_drewN | apply Kd.R_drew)); exact Kd.R_mono HO287.out (fun _ hk => ⟨hk.1.1.1.1.2, ⟨hk.1.1.1.2, hk.2⟩⟩)⟩, ⟨by (with_reducible repeat (first | apply Kd.R_alloc | apply Kd.R_drewN | apply Kd.R_drew)); exact Kd.R_mono HO294.out (fun _ hk => ⟨hk.1.1.1.1.2, ⟨hk.1.1.1.2, hk.1.2⟩⟩)⟩, ⟨by repeat (first | (with_reducible first | exact HB.out | apply below_alloc | apply pw_below_drewN | apply below_drew1) | exact HB.out)⟩⟩
    case rest =>
      clear HC13
      try clear c2
      try clear p2
      try clear c3
      try clear c24
      try clear c24b0
      try clear c24b1
      try clear c26
      try clear c27
      try clear c27b0
      try clear c27b1
      try clear c29
      try clear c30
      try clear c30b0
      try clear c30b1
      try clear c31
      try clear c31b0
      try clear c31b1
      obtain ⟨kq, x110_12, rfl, HA, HJ12, HO_3, HO_5, HO_12, HO_16, HB⟩ := hcut
      cases kq with
      | zero => exact absurd HA.out (by simp [laws_FnHoles.j0])
      | succ kj12 =>
        have H := HA.out
        clear HA
        simp only [laws_FnHoles.j0] at H
        by_cases c55 : x110_12 = true
        · subst c55
          have H1 : (some false) = some r := by rw [if_pos rfl] at H; exact H
          clear H
          have H := H1
          clear H1
          obtain rfl := Option.some.inj H
          go_wp2
          repeat (go_quiet (fail); try go_wp2)
          go_ret
          exact ⟨by first | rfl | (simp [errW_none, errW_some] <;> rfl) | (simp [*, errW_none, errW_some] <;> rfl), by repeat (first | (with_reducible first | exact HB.out | apply below_alloc | apply pw_below_drewN | apply below_drew1) | exact HB.out)⟩
        · replace c55 := Bool.eq_false_iff.mpr c55
          subst c55
          have H1 : (if t285 = 0 then (if 0 < (t284.length : Int) then (if (rd t284 0) = t283 then (if 0 ≤ (wrap64 ((t284.length : Int) - 1)) then (if (wrap64 ((t284.length : Int) - 1)) < (t284.length : Int) then (if (rd t284 (wrap64 ((t284.length : Int) - 1))) = (wrap64 (t281 - t283)) then ((impl_AreHoles.f kj12 t284).bind fun t305 => (laws_FnHoles.j1 kj12 t269 t270 t273 t274 t292 t295 t296 (!t305))) else (laws_FnHoles.j1 kj12 t269 t270 t273 t274 t292 t295 t296 true)) else (none)) else (none)) else (laws_FnHoles.j1 kj12 t269 t270 t273 t274 t292 t295 t296 true)) else (none)) else (laws_FnHoles.j1 kj12 t269 t270 t273 t274 t292 t295 t296 false)) = some r := by rw [if_neg (show ¬ (false = true) by decide)] at H; exact H
          clear H
          have H := H1
          clear H1
          have HC56 := Aside0.mk H
          clear H
          go_upto_region 14 with (fail)
          repeat (go_quiet (fail); go_upto_region 14 with (fail))
          go_cut [136] (fun v136 wc => ∃ (kq : Nat) (x136_55 : Bool), v136 = .bool x136_55 ∧ Aside0 (laws_FnHoles.j1 kq t269 t270 t273 t274 t292 t295 t296 x136_55 = some r) ∧ Aside0 (kq ≤ kj12) ∧ Aside0 (Kd.R (Kd.int .i64) 2 wc w.heap.size (fun k_ => some k_ ≠ (v275 : Value).ownBlock ∧ some k_ ≠ ((.slice Ao22 t292.length co22) : Value).ownBlock) (.slice Ao15 t269.length co15) t269) ∧ Aside0 (Kd.R (Kd.int .i64) 2 wc w.heap.size (fun k_ => some k_ ≠ ((.slice Ao15 t269.length co15) : Value).ownBlock ∧ some k_ ≠ ((.slice Ao22 t292.length co22) : Value).ownBlock) v275 t273) ∧ Aside0 (Kd.R (Kd.int .i64) 2 wc w.heap.size (fun k_ => some k_ ≠ ((.slice Ao15 t269.length co15) : Value).ownBlock ∧ some k_ ≠ (v275 : Value).ownBlock) (.slice Ao22 t292.length co22) t292) ∧ Aside0 (Below w.heap.size w wc))
          case first =>
            have H := HC56.out
            clear HC56
            by_cases c57 : t285 = 0
            · rw [if_pos c57] at H
              have c57b0 : (t285 == 0) = true := beq_iff_eq.mpr c57
              have c57b1 : (t285 != 0) = false := bne_eq_false_iff_eq.mpr c57
              clear c57
              (first | rw [c57b0] | (simp only [i64_w, i32_w]; rw [c57b0]) | skip)
              by_cases c58 : 0 < (t284.length : Int)
              · rw [if_pos c58] at H
                have c58b0 : decide (0 < (t284.length : Int)) = true := decide_eq_true c58
                have c58b1 : decide (0 < t284.length) = true := decide_eq_true (by omega)
                clear c58
                by_cases c59 : (rd t284 0) = t283
                · rw [if_pos c59] at H
                  have c59b0 : ((rd t284 0) == t283) = true := beq_iff_eq.mpr c59
                  have c59b1 : ((rd t284 0) != t283) = false := bne_eq_false_iff_eq.mpr c59
                  clear c59
                  obtain ⟨ji60, hji60⟩ : ∃ j_ : Int, (wrap64 ((t284.length : Int) - 1)) = j_ := ⟨_, rfl⟩
                  replace H : (if 0 ≤ (ji60) then (if (ji60) < (t284.length : Int) then (if (rd t284 (ji60)) = (wrap64 (t281 - t283)) then ((impl_AreHoles.f kj12 t284).bind fun t305 => (laws_FnHoles.j1 kj12 t269 t270 t273 t274 t292 t295 t296 (!t305))) else (laws_FnHoles.j1 kj12 t269 t270 t273 t274 t292 t295 t296 true)) else (none)) else (none)) = some r := by first | (rw [hji60] at H; exact H) | (simp only [hji60] at H ⊢; exact H)
                  have hji60w : (IntKind.i64.wrap ((t284.length : Int) - 1)) = ji60 := (i64_w _).trans hji60
                  by_cases c61 : 0 ≤ (ji60)
                  · rw [if_pos c61] at H
                    have c61b0 : decide (0 ≤ (ji60)) = true := decide_eq_true c61
                    clear c61
                    by_cases c62 : (ji60) < (t284.length : Int)
                    · rw [if_pos c62] at H
                      have c62b0 : decide ((ji60) < (t284.length : Int)) = true := decide_eq_true c62
                      clear c62
                      by_cases c63 : (rd t284 (ji60)) = (wrap64 (t281 - t283))
                      · rw [if_pos c63] at H
                        have c63b0 : ((rd t284 (ji60)) == (wrap64 (t281 - t283))) = true := beq_iff_eq.mpr c63
                        have c63b1 : ((rd t284 (ji60)) != (wrap64 (t281 - t283))) = false := bne_eq_false_iff_eq.mpr c63
                        clear c63
                        replace H := Option.bind_eq_some_iff.mp H
                        obtain ⟨t305, A640, H⟩ := H
                        replace H : (laws_FnHoles.j1 kj12 t269 t270 t273 t274 t292 t295 t296 (!t305)) = some r := H
                        have A64 := Aside0.mk A640
                        clear A640
                        have H' := Aside0.mk H
                        clear H
                        obtain ⟨Ao65, co65, eo65⟩ := Kd.R_slice HO_12.out
                        subst eo65
                        have p303 : 0 ≤ (0 : Int) := (by omega)
                        have q303 : 0 < (t284.length : Int) := of_decide_eq_true (by first | (with_reducible assumption) | assumption)
                        obtain ⟨ad303, e303, hx303_0⟩ := Kd.at_int (Kd.R_reads' HO_12.out).2.2 0 p303 q303
                        cases e303
                        have qi303 : (0 < t284.length) = True := eq_true (by omega)
                        (try rw [show ((0 : Int)).toNat = 0 from rfl] at hx303_0)
                        (try rw [Addr.add_zero'] at hx303_0)
                        replace p303 := eq_true p303
                        replace q303 := eq_true q303
                        have p304 : 0 ≤ ((ji60) : Int) := of_decide_eq_true (by first | (with_reducible assumption) | assumption)
                        have q304 : (ji60) < (t284.length : Int) := of_decide_eq_true (by first | (with_reducible assumption) | assumption)
                        obtain ⟨ad304, e304, hx304_0⟩ := Kd.at_int (Kd.R_reads' HO_12.out).2.2 (ji60) p304 q304
                        obtain rfl : ad303 = ad304 := (by injection e304)
                        replace p304 := eq_true p304
                        replace q304 := eq_true q304
                        go_wp2_with (first | (go_at_call 16; (with_reducible refine (impl_AreHoles.calls kj12 _ _ t284 t305 _ ?side1 ?side2 A64.out).mono ?_); (case side1 => repeat (first | exact (Kd.R_reads' HO_12.out).2.2 | (with_reducible refine Kd.C_alloc ?_ _) | (with_reducible refine Kd.C_drewN ?_ _) | (with_reducible refine Kd.C_drew ?_))); (case side2 => exact (Kd.R_reads' HO_12.out).2.1); rintro e w66 ⟨rfl, hb⟩; have n0_ := Aside0.mk (Kd.R_below (by (with_reducible repeat (first | apply Kd.R_alloc | apply Kd.R_drewN | apply Kd.R_drew)); exact HO_3.out) hb); have n1_ := Aside0.mk (Kd.R_below (by (with_reducible repeat (first | apply Kd.R_alloc | apply Kd.R_drewN | apply Kd.R_drew)); exact HO_5.out) hb); have n2_ := Aside0.mk (Kd.R_below (by (with_reducible repeat (first | apply Kd.R_alloc | apply Kd.R_drewN | apply Kd.R_drew)); exact HO_12.out) hb); have n3_ := Aside0.mk (Kd.R_below (by (with_reducible repeat (first | apply Kd.R_alloc | apply Kd.R_drewN | apply Kd.R_drew)); exact HO_16.out) hb); have n4_ := Aside0.mk (below_step (by repeat (first | (with_reducible first | exact HB.out | apply below_alloc | apply pw_below_drewN | apply below_drew1) | exact HB.out)) hb); clear HO_3; clear HO_5; clear HO_12; clear HO_16; clear HB; have HO_3 := n0_; have HO_5 := n1_; have HO_12 := n2_; have HO_16 := n3_; have HB := n4_; clear n0_ n1_ n2_ n3_ n4_; (try clear hb); (try clear hb2); (try clear hk); (try clear hi)))
                        repeat (go_quiet (first | (go_at_call 16; (with_reducible refine (impl_AreHoles.calls kj12 _ _ t284 t305 _ ?side1 ?side2 A64.out).mono ?_); (case side1 => repeat (first | exact (Kd.R_reads' HO_12.out).2.2 | (with_reducible refine Kd.C_alloc ?_ _) | (with_reducible refine Kd.C_drewN ?_ _) | (with_reducible refine Kd.C_drew ?_))); (case side2 => exact (Kd.R_reads' HO_12.out).2.1); rintro e w66 ⟨rfl, hb⟩; have n0_ := Aside0.mk (Kd.R_below (by (with_reducible repeat (first | apply Kd.R_alloc | apply Kd.R_drewN | apply Kd.R_drew)); exact HO_3.out) hb); have n1_ := Aside0.mk (Kd.R_below (by (with_reducible repeat (first | apply Kd.R_alloc | apply Kd.R_drewN | apply Kd.R_drew)); exact HO_5.out) hb); have n2_ := Aside0.mk (Kd.R_below (by (with_reducible repeat (first | apply Kd.R_alloc | apply Kd.R_drewN | apply Kd.R_drew)); exact HO_12.out) hb); have n3_ := Aside0.mk (Kd.R_below (by (with_reducible repeat (first | apply Kd.R_alloc | apply Kd.R_drewN | apply Kd.R_drew)); exact HO_16.out) hb); have n4_ := Aside0.mk (below_step (by repeat (first | (with_reducible first | exact HB.out | apply below_alloc | apply pw_below_drewN | apply below_drew1) | exact HB.out)) hb); clear HO_3; clear HO_5; clear HO_12; clear HO_16; clear HB; have HO_3 := n0_; have HO_5 := n1_; have HO_12 := n2_; have HO_16 := n3_; have HB := n4_; clear n0_ n1_ n2_ n3_ n4_; (try clear hb); (try clear hb2); (try clear hk); (try clear hi))); try go_wp2_with (first | (go_at_call 16; (with_reducible refine (impl_AreHoles.calls kj12 _ _ t284 t305 _ ?side1 ?side2 A64.out).mono ?_); (case side1 => repeat (first | exact (Kd.R_reads' HO_12.out).2.2 | (with_reducible refine Kd.C_alloc ?_ _) | (with_reducible refine Kd.C_drewN ?_ _) | (with_reducible refine Kd.C_drew ?_))); (case side2 => exact (Kd.R_reads' HO_12.out).2.1); rintro e w66 ⟨rfl, hb⟩; have n0_ := Aside0.mk (Kd.R_below (by (with_reducible repeat (first | apply Kd.R_alloc | apply Kd.R_drewN | apply Kd.R_drew)); exact HO_3.out) hb); have n1_ := Aside0.mk (Kd.R_below (by (with_reducible repeat (first | apply Kd.R_alloc | apply Kd.R_drewN | apply Kd.R_drew)); exact HO_5.out) hb); have n2_ := Aside0.mk (Kd.R_below (by (with_reducible repeat (first | apply Kd.R_alloc | apply Kd.R_drewN | apply Kd.R_drew)); exact HO_12.out) hb); have n3_ := Aside0.mk (Kd.R_below (by (with_reducible repeat (first | apply Kd.R_alloc | apply Kd.R_drewN | apply Kd.R_drew)); exact HO_16.out) hb); have n4_ := Aside0.mk (below_step (by repeat (first | (with_reducible first | exact HB.out | apply below_alloc | apply pw_below_drewN | apply below_drew1) | exact HB.out)) hb); clear HO_3; clear HO_5; clear HO_12; clear HO_16; clear HB; have HO_3 := n0_; have HO_5 := n1_; have HO_12 := n2_; have HO_16 := n3_; have HB := n4_; clear n0_ n1_ n2_ n3_ n4_; (try clear hb); (try clear hb2); (try clear hk); (try clear hi))))
                        go_meet
                        case rel => exact ⟨_, (!t305), (by first | rfl | (simp; done) | (simp [*]; done)), H', ⟨by have := HJ12.out; first | omega | exact Nat.le_refl _⟩, ⟨by (with_reducible repeat (first | apply Kd.R_alloc | apply Kd.R_drewN | apply Kd.R_drew)); exact Kd.R_mono HO_3.out (fun _ hk => ⟨hk.1, hk.2.2⟩)⟩, ⟨by (with_reducible repeat (first | apply Kd.R_alloc | apply Kd.R_drewN | apply Kd.R_drew)); exact Kd.R_mono HO_5.out (fun _ hk => ⟨hk.1, hk.2.2⟩)⟩, ⟨by (with_reducible repeat (first | apply Kd.R_alloc | apply Kd.R_drewN | apply Kd.R_drew)); exact Kd.R_mono HO_16.out (fun _ hk => ⟨hk.1, hk.2.1⟩)⟩, ⟨by repeat (first | (with_reducible first | exact HB.out | apply below_alloc | apply pw_below_drewN | apply below_drew1) | exact HB.out)⟩⟩
                      · rw [if_neg c63] at H
                        have c63b0 : ((rd t284 (ji60)) == (wrap64 (t281 - t283))) = false := beq_eq_false_iff_ne.mpr c63
                        have c63b1 : ((rd t284 (ji60)) != (wrap64 (t281 - t283))) = true := bne_iff_ne.mpr c63
                        have H' := Aside0.mk H
                        clear H
                        obtain ⟨Ao67, co67, eo67⟩ := Kd.R_slice HO_12.out
                        subst eo67
                        have p303 : 0 ≤ (0 : Int) := (by omega)
                        have q303 : 0 < (t284.length : Int) := of_decide_eq_true (by first | (with_reducible assumption) | assumption)
                        obtain ⟨ad303, e303, hx303_0⟩ := Kd.at_int (Kd.R_reads' HO_12.out).2.2 0 p303 q303
                        cases e303
                        have qi303 : (0 < t284.length) = True := eq_true (by omega)
                        (try rw [show ((0 : Int)).toNat = 0 from rfl] at hx303_0)
                        (try rw [Addr.add_zero'] at hx303_0)
                        replace p303 := eq_true p303
                        replace q303 := eq_true q303
                        have p304 : 0 ≤ ((ji60) : Int) := of_decide_eq_true (by first | (with_reducible assumption) | assumption)
                        have q304 : (ji60) < (t284.length : Int) := of_decide_eq_true (by first | (with_reducible assumption) | assumption)
                        obtain ⟨ad304, e304, hx304_0⟩ := Kd.at_int (Kd.R_reads' HO_12.out).2.2 (ji60) p304 q304
                        obtain rfl : ad303 = ad304 := (by injection e304)
                        replace p304 := eq_true p304
                        replace q304 := eq_true q304
                        go_wp2
                        repeat (go_quiet (fail); try go_wp2)
                        go_meet
                        case rel => exact ⟨_, (true), (by first | rfl | (simp; done) | (simp [*]; done)), H', ⟨by have := HJ12.out; first | omega | exact Nat.le_refl _⟩, ⟨by (with_reducible repeat (first | apply Kd.R_alloc | apply Kd.R_drewN | apply Kd.R_drew)); exact Kd.R_mono HO_3.out (fun _ hk => ⟨hk.1, hk.2.2⟩)⟩, ⟨by (with_reducible repeat (first | apply Kd.R_alloc | apply Kd.R_drewN | apply Kd.R_drew)); exact Kd.R_mono HO_5.out (fun _ hk => ⟨hk.1, hk.2.2⟩)⟩, ⟨by (with_reducible repeat (first | apply Kd.R_alloc | apply Kd.R_drewN | apply Kd.R_drew)); exact Kd.R_mono HO_16.out (fun _ hk => ⟨hk.1, hk.2.1⟩)⟩, ⟨by repeat (first | (with_reducible first | exact HB.out | apply below_alloc | apply pw_below_drewN | apply below_drew1) | exact HB.out)⟩⟩
                    · rw [if_neg c62] at H
                      exact absurd H (by simp)
                  · rw [if_neg c61] at H
                    exact absurd H (by simp)
                · rw [if_neg c59] at H
                  have c59b0 : ((rd t284 0) == t283) = false := beq_eq_false_iff_ne.mpr c59
                  have c59b1 : ((rd t284 0) != t283) = true := bne_iff_ne.mpr c59
                  have H' := Aside0.mk H
                  clear H
                  obtain ⟨Ao68, co68, eo68⟩ := Kd.R_slice HO_12.out
                  subst eo68
                  have p303 : 0 ≤ (0 : Int) := (by omega)
                  have q303 : 0 < (t284.length : Int) := of_decide_eq_true (by first | (with_reducible assumption) | assumption)
                  obtain ⟨ad303, e303, hx303_0⟩ := Kd.at_int (Kd.R_reads' HO_12.out).2.2 0 p303 q303
                  cases e303
                  have qi303 : (0 < t284.length) = True := eq_true (by omega)
                  (try rw [show ((0 : Int)).toNat = 0 from rfl] at hx303_0)
                  (try rw [Addr.add_zero'] at hx303_0)
                  replace p303 := eq_true p303
                  replace q303 := eq_true q303
                  go_wp2
                  repeat (go_quiet (fail); try go_wp2)
                  go_meet
                  case rel => exact ⟨_, (true), (by first | rfl | (simp; done) | (simp [*]; done)), H', ⟨by have := HJ12.out; first | omega | exact Nat.le_refl _⟩, ⟨by (with_reducible repeat (first | apply Kd.R_alloc | apply Kd.R_drewN | apply Kd.R_drew)); exact Kd.R_mono HO_3.out (fun _ hk => ⟨hk.1, hk.2.2⟩)⟩, ⟨by (with_reducible repeat (first | apply Kd.R_alloc | apply Kd.R_drewN | apply Kd.R_drew)); exact Kd.R_mono HO_5.out (fun _ hk => ⟨hk.1, hk.2.2⟩)⟩, ⟨by (with_reducible repeat (first | apply Kd.R_alloc | apply Kd.R_drewN | apply Kd.R_drew)); exact Kd.R_mono HO_16.out (fun _ hk => ⟨hk.1, hk.2.1⟩)⟩, ⟨by repeat (first | (with_reducible first | exact HB.out | apply below_alloc | apply pw_below_drewN | apply below_drew1) | exact HB.out)⟩⟩
              · rw [if_neg c58] at H
                exact absurd H (by simp)
            · rw [if_neg c57] at H
              have c57b0 : (t285 == 0) = false := beq_eq_false_iff_ne.mpr c57
              have c57b1 : (t285 != 0) = true := bne_iff_ne.mpr c57
              (first | rw [c57b0] | (simp only [i64_w, i32_w]; rw [c57b0]) | skip)
              have H' := Aside0.mk H
              clear H
              go_wp2
              repeat (go_quiet (fail); try go_wp2)
              go_meet
              case rel => exact ⟨_, (false), (by first | rfl | (simp; done) | (simp [*]; done)), H', ⟨by have := HJ12.out; first | omega | exact Nat.le_refl _⟩, ⟨by (with_reducible repeat (first | apply Kd.R_alloc | apply Kd.R_drewN | apply Kd.R_drew)); exact Kd.R_mono HO_3.out (fun _ hk => ⟨hk.1, hk.2.2⟩)⟩, ⟨by (with_reducible repeat (first | apply Kd.R_alloc | apply Kd.R_drewN | apply Kd.R_drew)); exact Kd.R_mono HO_5.out (fun _ hk => ⟨hk.1, hk.2.2⟩)⟩, ⟨by (with_reducible repeat (first | apply Kd.R_alloc | apply Kd.R_drewN | apply Kd.R_drew)); exact Kd.R_mono HO_16.out (fun _ hk => ⟨hk.1, hk.2.1⟩)⟩, ⟨by repeat (first | (with_reducible first | exact HB.out | apply below_alloc | apply pw_below_drewN | apply below_drew1) | exact HB.out)⟩⟩
          case rest =>
            clear HC56
            try clear c2
            try clear p2
            try clear c3
            try clear p3
            try clear q3
            try clear hx3
            try clear qi3
            try clear c5
            try clear c6
            try clear p6
            try clear c24
            try clear c24b0
            try clear c24b1
            try clear c26
            try clear c27
            try clear c27b0
            try clear c27b1
            try clear c29
            try clear c30
            try clear c30b0
            try clear c30b1
            try clear p30
            try clear q30
            try clear hx30
            try clear qi30
            try clear c31
            try clear c31b0
            try clear c31b1
            try clear c55
            try clear c57
            try clear c57b0
            try clear c57b1
            try clear c58
            try clear c58b0
            try clear c58b1
            try clear c59
            try clear c59b0
            try clear c59b1
            try clear c61
            try clear c61b0
            try clear c62
            try clear c62b0
            try clear c63
            try clear c63b0
            try clear c63b1
            try clear p64
            try clear hx303_0
            try clear hx304_0
            try clear p2
            try clear p303
            try clear p304
            try clear q303
            try clear q304
            obtain ⟨kq, x136_55, rfl, HA, HJ55, HO_3, HO_5, HO_16, HB⟩ := hcut
            cases kq with
            | zero => exact absurd HA.out (by simp [laws_FnHoles.j1])
            | succ kj55 =>
              have H := HA.out
              clear HA
              simp only [laws_FnHoles.j1] at H
              by_cases c69 : x136_55 = true
              · subst c69
                have H1 : (some false) = some r := by rw [if_pos rfl] at H; exact H
                clear H
                have H := H1
                clear H1
                obtain rfl := Option.some.inj H
                go_wp2
                repeat (go_quiet (fail); try go_wp2)
                go_ret
                exact ⟨by first | rfl | (simp [errW_none, errW_some] <;> rfl) | (simp [*, errW_none, errW_some] <;> rfl), by repeat (first | (with_reducible first | exact HB.out | apply below_alloc | apply pw_below_drewN | apply below_drew1) | exact HB.out)⟩
              · replace c69 := Bool.eq_false_iff.mpr c69
                subst c69
                have H1 : (if t296 = 0 then (if t295 ≤ 0 then (laws_FnHoles.j2 kj55 t269 t270 t273 t274 true) else (if 0 ≤ (wrap64 ((t292.length : Int) - 1)) then (if (wrap64 ((t292.length : Int) - 1)) < (t292.length : Int) then (if 0 < (t292.length : Int) then (laws_FnHoles.j2 kj55 t269 t270 t273 t274 (decide (t295 > (wrap64 ((rd t292 (wrap64 ((t292.length : Int) - 1))) - (rd t292 0)))))) else (none)) else (none)) else (none))) else (laws_FnHoles.j2 kj55 t269 t270 t273 t274 false)) = some r := by rw [if_neg (show ¬ (false = true) by decide)] at H; exact H
                clear H
                have H := H1
                clear H1
                have HC70 := Aside0.mk H
                clear H
                go_upto_region 16 with (fail)
                repeat (go_quiet (fail); go_upto_region 16 with (fail))
                go_cut [156] (fun v156 wc => ∃ (kq : Nat) (x156_69 : Bool), v156 = .bool x156_69 ∧ Aside0 (laws_FnHoles.j2 kq t269 t270 t273 t274 x156_69 = some r) ∧ Aside0 (kq ≤ kj55) ∧ Aside0 (Kd.R (Kd.int .i64) 2 wc w.heap.size (fun k_ => some k_ ≠ (v275 : Value).ownBlock) (.slice Ao15 t269.length co15) t269) ∧ Aside0 (Kd.R (Kd.int .i64) 2 wc w.heap.size (fun k_ => some k_ ≠ ((.slice Ao15 t269.length co15) : Value).ownBlock) v275 t273) ∧ Aside0 (Below w.heap.size w wc))
                case first =>
                  have H := HC70.out
                  clear HC70
                  by_cases c71 : t296 = 0
                  · rw [if_pos c71] at H
                    have c71b0 : (t296 == 0) = true := beq_iff_eq.mpr c71
                    have c71b1 : (t296 != 0) = false := bne_eq_false_iff_eq.mpr c71
                    clear c71
                    (first | rw [c71b0] | (simp only [i64_w, i32_w]; rw [c71b0]) | skip)
                    by_cases c72 : t295 ≤ 0
                    · rw [if_pos c72] at H
                      have c72b0 : decide (t295 ≤ 0) = true := decide_eq_true c72
                      clear c72
                      have H' := Aside0.mk H
                      clear H
                      go_wp2
                      repeat (go_quiet (fail); try go_wp2)
                      go_meet
                      case rel => exact ⟨_, (true), (by first | rfl | (simp; done) | (simp [*]; done)), H', ⟨by have := HJ12.out; have := HJ55.out; first | omega | exact Nat.le_refl _⟩, ⟨by (with_reducible repeat (first | apply Kd.R_alloc | apply Kd.R_drewN | apply Kd.R_drew)); exact Kd.R_mono HO_3.out (fun _ hk => hk.1)⟩, ⟨by (with_reducible repeat (first | apply Kd.R_alloc | apply Kd.R_drewN | apply Kd.R_drew)); exact Kd.R_mono HO_5.out (fun _ hk => hk.1)⟩, ⟨by repeat (first | (with_reducible first | exact HB.out | apply below_alloc | apply pw_below_drewN | apply below_drew1) | exact HB.out)⟩⟩
                    · rw [if_neg c72] at H
                      have c72b0 : decide (t295 ≤ 0) = false := decide_eq_false c72
                      clear c72
                      obtain ⟨ji73, hji73⟩ : ∃ j_ : Int, (wrap64 ((t292.length : Int) - 1)) = j_ := ⟨_, rfl⟩
                      replace H : (if 0 ≤ (ji73) then (if (ji73) < (t292.length : Int) then (if 0 < (t292.length : Int) then (laws_FnHoles.j2 kj55 t269 t270 t273 t274 (decide (t295 > (wrap64 ((rd t292 (ji73)) - (rd t292 0)))))) else (none)) else (none)) else (none)) = some r := by first | (rw [hji73] at H; exact H) | (simp only [hji73] at H ⊢; exact H)
                      have hji73w : (IntKind.i64.wrap ((t292.length : Int) - 1)) = ji73 := (i64_w _).trans hji73
                      by_cases c74 : 0 ≤ (ji73)
                      · rw [if_pos c74] at H
                        have c74b0 : decide (0 ≤ (ji73)) = true := decide_eq_true c74
                        clear c74
                        by_cases c75 : (ji73) < (t292.length : Int)
                        · rw [if_pos c75] at H
                          have c75b0 : decide ((ji73) < (t292.length : Int)) = true := decide_eq_true c75
                          clear c75
                          by_cases c76 : 0 < (t292.length : Int)
                          · rw [if_pos c76] at H
                            have c76b0 : decide (0 < (t292.length : Int)) = true := decide_eq_true c76
                            have c76b1 : decide (0 < t292.length) = true := decide_eq_true (by omega)
                            clear c76
                            have H' := Aside0.mk H
                            clear H
                            have p306 : 0 ≤ ((ji73) : Int) := of_decide_eq_true (by first | (with_reducible assumption) | assumption)
                            have q306 : (ji73) < (t292.length : Int) := of_decide_eq_true (by first | (with_reducible assumption) | assumption)
                            obtain ⟨ad306, e306, hx306_0⟩ := Kd.at_int (Kd.R_reads' HO_16.out).2.2 (ji73) p306 q306
                            cases e306
                            replace p306 := eq_true p306
                            replace q306 := eq_true q306
                            have p307 : 0 ≤ (0 : Int) := (by omega)
                            have q307 : 0 < (t292.length : Int) := of_decide_eq_true (by first | (with_reducible assumption) | assumption)
                            obtain ⟨ad307, e307, hx307_0⟩ := Kd.at_int (Kd.R_reads' HO_16.out).2.2 0 p307 q307
                            obtain rfl : ad306 = ad307 := (by injection e307)
                            have qi307 : (0 < t292.length) = True := eq_true (by omega)
                            (try rw [show ((0 : Int)).toNat = 0 from rfl] at hx307_0)
                            (try rw [Addr.add_zero'] at hx307_0)
                            replace p307 := eq_true p307
                            replace q307 := eq_true q307
                            go_wp2
                            repeat (go_quiet (fail); try go_wp2)
                            go_meet
                            case rel => exact ⟨_, (decide (t295 > (wrap64 ((rd t292 (ji73)) - (rd t292 0))))), (by first | rfl | (simp; done) | (simp only [← hji73] <;> (first | rfl | simp)) | (simp [*]; done)), H', ⟨by have := HJ12.out; have := HJ55.out; first | omega | exact Nat.le_refl _⟩, ⟨by (with_reducible repeat (first | apply Kd.R_alloc | apply Kd.R_drewN | apply Kd.R_drew)); exact Kd.R_mono HO_3.out (fun _ hk => hk.1)⟩, ⟨by (with_reducible repeat (first | apply Kd.R_alloc | apply Kd.R_drewN | apply Kd.R_drew)); exact Kd.R_mono HO_5.out (fun _ hk => hk.1)⟩, ⟨by repeat (first | (with_reducible first | exact HB.out | apply below_alloc | apply pw_below_drewN | apply below_drew1) | exact HB.out)⟩⟩
                          · rw [if_neg c76] at H
                            exact absurd H (by simp)
                        · rw [if_neg c75] at H
                          exact absurd H (by simp)
                      · rw [if_neg c74] at H
                        exact absurd H (by simp)
                  · rw [if_neg c71] at H
                    have c71b0 : (t296 == 0) = false := beq_eq_false_iff_ne.mpr c71
                    have c71b1 : (t296 != 0) = true := bne_iff_ne.mpr c71
                    (first | rw [c71b0] | (simp only [i64_w, i32_w]; rw [c71b0]) | skip)
                    have H' := Aside0.mk H
                    clear H
                    go_wp2
                    repeat (go_quiet (fail); try go_wp2)
                    go_meet
                    case rel => exact ⟨_, (false), (by first | rfl | (simp; done) | (simp [*]; done)), H', ⟨by have := HJ12.out; have := HJ55.out; first | omega | exact Nat.le_refl _⟩, ⟨by (with_reducible repeat (first | apply Kd.R_alloc | apply Kd.R_drewN | apply Kd.R_drew)); exact Kd.R_mono HO_3.out (fun _ hk => hk.1)⟩, ⟨by (with_reducible repeat (first | apply Kd.R_alloc | apply Kd.R_drewN | apply Kd.R_drew)); exact Kd.R_mono HO_5.out (fun _ hk => hk.1)⟩, ⟨by repeat (first | (with_reducible first | exact HB.out | apply below_alloc | apply pw_below_drewN | apply below_drew1) | exact HB.out)⟩⟩
                case rest =>
                  clear HC70
                  try clear c2
                  try clear p2
                  try clear c3
                  try clear p3
                  try clear q3
                  try clear hx3
                  try clear qi3
                  try clear c5
                  try clear c6
                  try clear p6
                  try clear c7
                  try clear c24
                  try clear c24b0
                  try clear c24b1
                  try clear c26
                  try clear c27
                  try clear c27b0
                  try clear c27b1
                  try clear c29
                  try clear c30
                  try clear c30b0
                  try clear c30b1
                  try clear p30
                  try clear q30
                  try clear hx30
                  try clear qi30
                  try clear c31
                  try clear c31b0
                  try clear c31b1
                  try clear c55
                  try clear c57
                  try clear c57b0
                  try clear c57b1
                  try clear c58
                  try clear c58b0
                  try clear c58b1
                  try clear c59
                  try clear c59b0
                  try clear c59b1
                  try clear c61
                  try clear c61b0
                  try clear c62
                  try clear c62b0
                  try clear c63
                  try clear c63b0
                  try clear c63b1
                  try clear p64
                  try clear c69
                  try clear c71
                  try clear c71b0
                  try clear c71b1
                  try clear c72
                  try clear c72b0
                  try clear c74
                  try clear c74b0
                  try clear c75
                  try clear c75b0
                  try clear c76
                  try clear c76b0
                  try clear c76b1
                  try clear hx303_0
                  try clear hx304_0
                  try clear hx306_0
                  try clear hx307_0
                  try clear p2
                  try clear p3
                  try clear p30
                  try clear p303
                  try clear p304
                  try clear p306
                  try clear p307
                  try clear p6
                  try clear p64
                  try clear q3
                  try clear q30
                  try clear q303
                  try clear q304
                  try clear q306
                  try clear q307
                  obtain ⟨kq, x156_69, rfl, HA, HJ69, HO_3, HO_5, HB⟩ := hcut
                  cases kq with
                  | zero => exact absurd HA.out (by simp [laws_FnHoles.j2])
                  | succ kj69 =>
                    have H := HA.out
                    clear HA
                    simp only [laws_FnHoles.j2] at H
                    by_cases c77 : x156_69 = true
                    · subst c77
                      have H1 : (some false) = some r := by rw [if_pos rfl] at H; exact H
                      clear H
                      have H := H1
                      clear H1
                      obtain rfl := Option.some.inj H
                      go_wp2
                      repeat (go_quiet (fail); try go_wp2)
                      go_ret
                      exact ⟨by first | rfl | (simp [errW_none, errW_some] <;> rfl) | (simp [*, errW_none, errW_some] <;> rfl), by repeat (first | (with_reducible first | exact HB.out | apply below_alloc | apply pw_below_drewN | apply below_drew1) | exact HB.out)⟩
                    · replace c77 := Bool.eq_false_iff.mpr c77
                      subst c77
                      have H1 : (if t274 = 0 then ((impl_MirrorHoles.f kj69 t273 t270).bind fun bt308 => (if bt308.2 = 0 then ((laws_likeInts.f kj69 bt308.1 t269).bind fun t312 => (some t312)) else (some false))) else (some true)) = some r := by rw [if_neg (show ¬ (false = true) by decide)] at H; exact H
                      clear H
                      have H := H1
                      clear H1
                      by_cases c78 : t274 = 0
                      · rw [if_pos c78] at H
                        have c78b0 : (t274 == 0) = true := beq_iff_eq.mpr c78
                        have c78b1 : (t274 != 0) = false := bne_eq_false_iff_eq.mpr c78
                        clear c78
                        replace H := Option.bind_eq_some_iff.mp H
                        obtain ⟨⟨t308, t309⟩, A790, H⟩ := H
                        replace H : (if t309 = 0 then ((laws_likeInts.f kj69 t308 t269).bind fun t312 => (some t312)) else (some false)) = some r := H
                        have A79 := Aside0.mk A790
                        clear A790
                        by_cases c80 : t309 = 0
                        · rw [if_pos c80] at H
                          have c80b0 : (t309 == 0) = true := beq_iff_eq.mpr c80
                          have c80b1 : (t309 != 0) = false := bne_eq_false_iff_eq.mpr c80
                          clear c80
                          replace H := Option.bind_eq_some_iff.mp H
                          obtain ⟨t312, A810, H⟩ := H
                          replace H : (some t312) = some r := H
                          have A81 := Aside0.mk A810
                          clear A810
                          obtain rfl := Option.some.inj H
                          obtain ⟨Ao82, co82, eo82⟩ := Kd.R_slice HO_5.out
                          subst eo82
                          go_wp2_with (first | (go_at_call 7; (with_reducible refine (impl_MirrorHoles.calls kj69 _ _ t273 t270 t308 t309 _ ?side1 ?side2 A79.out).mono ?_); (case side1 => repeat (first | exact (Kd.R_reads' HO_5.out).2.2 | (with_reducible refine Kd.C_alloc ?_ _) | (with_reducible refine Kd.C_drewN ?_ _) | (with_reducible refine Kd.C_drew ?_))); (case side2 => exact (Kd.R_reads' HO_5.out).2.1); rintro e w83 ⟨v310, rfl, ho0, hb⟩; have n0_ := Aside0.mk (Kd.R_elder' (by (with_reducible repeat (first | apply Kd.R_alloc | apply Kd.R_drewN | apply Kd.R_drew)); exact HO_3.out) (Kd.R_base ho0) hb); have n1_ := Aside0.mk (Kd.R_elder' (by (with_reducible repeat (first | apply Kd.R_alloc | apply Kd.R_drewN | apply Kd.R_drew)); exact HO_5.out) (Kd.R_base ho0) hb); have n2_ := Aside0.mk (Kd.R_lower (Kd.R_new' (Kd.R_new' ho0 (Kd.R_lt (by (with_reducible repeat (first | apply Kd.R_alloc | apply Kd.R_drewN | apply Kd.R_drew)); exact HO_3.out))) (Kd.R_lt (by (with_reducible repeat (first | apply Kd.R_alloc | apply Kd.R_drewN | apply Kd.R_drew)); exact HO_5.out))) (below_size (by repeat (first | (with_reducible first | exact HB.out | apply below_alloc | apply pw_below_drewN | apply below_drew1) | exact HB.out)))); have n3_ := Aside0.mk (below_step (by repeat (first | (with_reducible first | exact HB.out | apply below_alloc | apply pw_below_drewN | apply below_drew1) | exact HB.out)) hb); clear HO_3; clear HO_5; clear HB; have HO_3 := n0_; have HO_5 := n1_; have HO311 := n2_; have HB := n3_; clear n0_ n1_ n2_ n3_; (try clear hb); (try clear hb2); (try clear hk); (try clear hi); (try clear ho0); obtain ⟨Ao84, co84, eo84⟩ := Kd.R_slice HO311.out; subst eo84) | (go_at_call 15; (with_reducible refine (laws_likeInts.calls kj69 _ _ t308 _ _ t269 t312 _ ?side1 ?side2 ?side3 ?side4 A81.out).mono ?_); (case side1 => repeat (first | exact (Kd.R_reads' HO311.out).2.2 | (with_reducible refine Kd.C_alloc ?_ _) | (with_reducible refine Kd.C_drewN ?_ _) | (with_reducible refine Kd.C_drew ?_))); (case side2 => exact (Kd.R_reads' HO311.out).2.1); (case side3 => repeat (first | exact (Kd.R_reads' HO_3.out).2.2 | (with_reducible refine Kd.C_alloc ?_ _) | (with_reducible refine Kd.C_drewN ?_ _) | (with_reducible refine Kd.C_drew ?_))); (case side4 => exact (Kd.R_reads' HO_3.out).2.1); rintro e w' ⟨rfl, ⟨nd, rfl⟩⟩; (try first | exact ⟨rfl, _, World.drewN_drewN _ _ _⟩ | exact ⟨rfl, _, Eq.trans (World.drewN_drewN _ _ _) (congrArg (World.drewN _) (Nat.add_assoc _ _ _))⟩)))
                          repeat (go_quiet (first | (go_at_call 7; (with_reducible refine (impl_MirrorHoles.calls kj69 _ _ t273 t270 t308 t309 _ ?side1 ?side2 A79.out).mono ?_); (case side1 => repeat (first | exact (Kd.R_reads' HO_5.out).2.2 | (with_reducible refine Kd.C_alloc ?_ _) | (with_reducible refine Kd.C_drewN ?_ _) | (with_reducible refine Kd.C_drew ?_))); (case side2 => exact (Kd.R_reads' HO_5.out).2.1); rintro e w83 ⟨v310, rfl, ho0, hb⟩; have n0_ := Aside0.mk (Kd.R_elder' (by (with_reducible repeat (first | apply Kd.R_alloc | apply Kd.R_drewN | apply Kd.R_drew)); exact HO_3.out) (Kd.R_base ho0) hb); have n1_ := Aside0.mk (Kd.R_elder' (by (with_reducible repeat (first | apply Kd.R_alloc | apply Kd.R_drewN | apply Kd.R_drew)); exact HO_5.out) (Kd.R_base ho0) hb); have n2_ := Aside0.mk (Kd.R_lower (Kd.R_new' (Kd.R_new' ho0 (Kd.R_lt (by (with_reducible repeat (first | apply Kd.R_alloc | apply Kd.R_drewN | apply Kd.R_drew)); exact HO_3.out))) (Kd.R_lt (by (with_reducible repeat (first | apply Kd.R_alloc | apply Kd.R_drewN | apply Kd.R_drew)); exact HO_5.out))) (below_size (by repeat (first | (with_reducible first | exact HB.out | apply below_alloc | apply pw_below_drewN | apply below_drew1) | exact HB.out)))); have n3_ := Aside0.mk (below_step (by repeat (first | (with_reducible first | exact HB.out | apply below_alloc | apply pw_below_drewN | apply below_drew1) | exact HB.out)) hb); clear HO_3; clear HO_5; clear HB; have HO_3 := n0_; have HO_5 := n1_; have HO311 := n2_; have HB := n3_; clear n0_ n1_ n2_ n3_; (try clear hb); (try clear hb2); (try clear hk); (try clear hi); (try clear ho0); obtain ⟨Ao84, co84, eo84⟩ := Kd.R_slice HO311.out; subst eo84) | (go_at_call 15; (with_reducible refine (laws_likeInts.calls kj69 _ _ t308 _ _ t269 t312 _ ?side1 ?side2 ?side3 ?side4 A81.out).mono ?_); (case side1 => repeat (first | exact (Kd.R_reads' HO311.out).2.2 | (with_reducible refine Kd.C_alloc ?_ _) | (with_reducible refine Kd.C_drewN ?_ _) | (with_reducible refine Kd.C_drew ?_))); (case side2 => exact (Kd.R_reads' HO311.out).2.1); (case side3 => repeat (first | exact (Kd.R_reads' HO_3.out).2.2 | (with_reducible refine Kd.C_alloc ?_ _) | (with_reducible refine Kd.C_drewN ?_ _) | (with_reducible refine Kd.C_drew ?_))); (case side4 => exact (Kd.R_reads' HO_3.out).2.1); rintro e w' ⟨rfl, ⟨nd, rfl⟩⟩; (try first | exact ⟨rfl, _, World.drewN_drewN _ _ _⟩ | exact ⟨rfl, _, Eq.trans (World.drewN_drewN _ _ _) (congrArg (World.drewN _) (Nat.add_assoc _ _ _))⟩))); try go_wp2_with (first | (go_at_call 7; (with_reducible refine (impl_MirrorHoles.calls kj69 _ _ t273 t270 t308 t309 _ ?side1 ?side2 A79.out).mono ?_); (case side1 => repeat (first | exact (Kd.R_reads' HO_5.out).2.2 | (with_reducible refine Kd.C_alloc ?_ _) | (with_reducible refine Kd.C_drewN ?_ _) | (with_reducible refine Kd.C_drew ?_))); (case side2 => exact (Kd.R_reads' HO_5.out).2.1); rintro e w83 ⟨v310, rfl, ho0, hb⟩; have n0_ := Aside0.mk (Kd.R_elder' (by (with_reducible repeat (first | apply Kd.R_alloc | apply Kd.R_drewN | apply Kd.R_drew)); exact HO_3.out) (Kd.R_base ho0) hb); have n1_ := Aside0.mk (Kd.R_elder' (by (with_reducible repeat (first | apply Kd.R_alloc | apply Kd.R_drewN | apply Kd.R_drew)); exact HO_5.out) (Kd.R_base ho0) hb); have n2_ := Aside0.mk (Kd.R_lower (Kd.R_new' (Kd.R_new' ho0 (Kd.R_lt (by (with_reducible repeat (first | apply Kd.R_alloc | apply Kd.R_drewN | apply Kd.R_drew)); exact HO_3.out))) (Kd.R_lt (by (with_reducible repeat (first | apply Kd.R_alloc | apply Kd.R_drewN | apply Kd.R_drew)); exact HO_5.out))) (below_size (by repeat (first | (with_reducible first | exact HB.out | apply below_alloc | apply pw_below_drewN | apply below_drew1) | exact HB.out)))); have n3_ := Aside0.mk (below_step (by repeat (first | (with_reducible first | exact HB.out | apply below_alloc | apply pw_below_drewN | apply below_drew1) | exact HB.out)) hb); clear HO_3; clear HO_5; clear HB; have HO_3 := n0_; have HO_5 := n1_; have HO311 := n2_; have HB := n3_; clear n0_ n1_ n2_ n3_; (try clear hb); (try clear hb2); (try clear hk); (try clear hi); (try clear ho0); obtain ⟨Ao84, co84, eo84⟩ := Kd.R_slice HO311.out; subst eo84) | (go_at_call 15; (with_reducible refine (laws_likeInts.calls kj69 _ _ t308 _ _ t269 t312 _ ?side1 ?side2 ?side3 ?side4 A81.out).mono ?_); (case side1 => repeat (first | exact (Kd.R_reads' HO311.out).2.2 | (with_reducible refine Kd.C_alloc ?_ _) | (with_reducible refine Kd.C_drewN ?_ _) | (with_reducible refine Kd.C_drew ?_))); (case side2 => exact (Kd.R_reads' HO311.out).2.1); (case side3 => repeat (first | exact (Kd.R_reads' HO_3.out).2.2 | (with_reducible refine Kd.C_alloc ?_ _) | (with_reducible refine Kd.C_drewN ?_ _) | (with_reducible refine Kd.C_drew ?_))); (case side4 => exact (Kd.R_reads' HO_3.out).2.1); rintro e w' ⟨rfl, ⟨nd, rfl⟩⟩; (try first | exact ⟨rfl, _, World.drewN_drewN _ _ _⟩ | exact ⟨rfl, _, Eq.trans (World.drewN_drewN _ _ _) (congrArg (World.drewN _) (Nat.add_assoc _ _ _))⟩))))
                          go_ret
                          exact ⟨by first | rfl | (simp [errW_none, errW_some] <;> rfl) | (simp [*, errW_none, errW_some] <;> rfl), by repeat (first | (with_reducible first | exact HB.out | apply below_alloc | apply pw_below_drewN | apply below_drew1) | exact HB.out)⟩
                        · rw [if_neg c80] at H
                          have c80b0 : (t309 == 0) = false := beq_eq_false_iff_ne.mpr c80
                          have c80b1 : (t309 != 0) = true := bne_iff_ne.mpr c80
                          obtain rfl := Option.some.inj H
                          obtain ⟨Ao85, co85, eo85⟩ := Kd.R_slice HO_5.out
                          subst eo85
                          go_wp2_with (first | (go_at_call 7; (with_reducible refine (impl_MirrorHoles.calls kj69 _ _ t273 t270 t308 t309 _ ?side1 ?side2 A79.out).mono ?_); (case side1 => repeat (first | exact (Kd.R_reads' HO_5.out).2.2 | (with_reducible refine Kd.C_alloc ?_ _) | (with_reducible refine Kd.C_drewN ?_ _) | (with_reducible refine Kd.C_drew ?_))); (case side2 => exact (Kd.R_reads' HO_5.out).2.1); rintro e w86 ⟨v310, rfl, ho0, hb⟩; have n0_ := Aside0.mk (Kd.R_elder' (by (with_reducible repeat (first | apply Kd.R_alloc | apply Kd.R_drewN | apply Kd.R_drew)); exact HO_3.out) (Kd.R_base ho0) hb); have n1_ := Aside0.mk (Kd.R_elder' (by (with_reducible repeat (first | apply Kd.R_alloc | apply Kd.R_drewN | apply Kd.R_drew)); exact HO_5.out) (Kd.R_base ho0) hb); have n2_ := Aside0.mk (Kd.R_lower (Kd.R_new' (Kd.R_new' ho0 (Kd.R_lt (by (with_reducible repeat (first | apply Kd.R_alloc | apply Kd.R_drewN | apply Kd.R_drew)); exact HO_3.out))) (Kd.R_lt (by (with_reducible repeat (first | apply Kd.R_alloc | apply Kd.R_drewN | apply Kd.R_drew)); exact HO_5.out))) (below_size (by repeat (first | (with_reducible first | exact HB.out | apply below_alloc | apply pw_below_drewN | apply below_drew1) | exact HB.out)))); have n3_ := Aside0.mk (below_step (by repeat (first | (with_reducible first | exact HB.out | apply below_alloc | apply pw_below_drewN | apply below_drew1) | exact HB.out)) hb); clear HO_3; clear HO_5; clear HB; have HO_3 := n0_; have HO_5 := n1_; have HO311 := n2_; have HB := n3_; clear n0_ n1_ n2_ n3_; (try clear hb); (try clear hb2); (try clear hk); (try clear hi); (try clear ho0)))
                          repeat (go_quiet (first | (go_at_call 7; (with_reducible refine (impl_MirrorHoles.calls kj69 _ _ t273 t270 t308 t309 _ ?side1 ?side2 A79.out).mono ?_); (case side1 => repeat (first | exact (Kd.R_reads' HO_5.out).2.2 | (with_reducible refine Kd.C_alloc ?_ _) | (with_reducible refine Kd.C_drewN ?_ _) | (with_reducible refine Kd.C_drew ?_))); (case side2 => exact (Kd.R_reads' HO_5.out).2.1); rintro e w86 ⟨v310, rfl, ho0, hb⟩; have n0_ := Aside0.mk (Kd.R_elder' (by (with_reducible repeat (first | apply Kd.R_alloc | apply Kd.R_drewN | apply Kd.R_drew)); exact HO_3.out) (Kd.R_base ho0) hb); have n1_ := Aside0.mk (Kd.R_elder' (by (with_reducible repeat (first | apply Kd.R_alloc | apply Kd.R_drewN | apply Kd.R_drew)); exact HO_5.out) (Kd.R_base ho0) hb); have n2_ := Aside0.mk (Kd.R_lower (Kd.R_new' (Kd.R_new' ho0 (Kd.R_lt (by (with_reducible repeat (first | apply Kd.R_alloc | apply Kd.R_drewN | apply Kd.R_drew)); exact HO_3.out))) (Kd.R_lt (by (with_reducible repeat (first | apply Kd.R_alloc | apply Kd.R_drewN | apply Kd.R_drew)); exact HO_5.out))) (below_size (by repeat (first | (with_reducible first | exact HB.out | apply below_alloc | apply pw_below_drewN | apply below_drew1) | exact HB.out)))); have n3_ := Aside0.mk (below_step (by repeat (first | (with_reducible first | exact HB.out | apply below_alloc | apply pw_below_drewN | apply below_drew1) | exact HB.out)) hb); clear HO_3; clear HO_5; clear HB; have HO_3 := n0_; have HO_5 := n1_; have HO311 := n2_; have HB := n3_; clear n0_ n1_ n2_ n3_; (try clear hb); (try clear hb2); (try clear hk); (try clear hi); (try clear ho0))); try go_wp2_with (first | (go_at_call 7; (with_reducible refine (impl_MirrorHoles.calls kj69 _ _ t273 t270 t308 t309 _ ?side1 ?side2 A79.out).mono ?_); (case side1 => repeat (first | exact (Kd.R_reads' HO_5.out).2.2 | (with_reducible refine Kd.C_alloc ?_ _) | (with_reducible refine Kd.C_drewN ?_ _) | (with_reducible refine Kd.C_drew ?_))); (case side2 => exact (Kd.R_reads' HO_5.out).2.1); rintro e w86 ⟨v310, rfl, ho0, hb⟩; have n0_ := Aside0.mk (Kd.R_elder' (by (with_reducible repeat (first | apply Kd.R_alloc | apply Kd.R_drewN | apply Kd.R_drew)); exact HO_3.out) (Kd.R_base ho0) hb); have n1_ := Aside0.mk (Kd.R_elder' (by (with_reducible repeat (first | apply Kd.R_alloc | apply Kd.R_drewN | apply Kd.R_drew)); exact HO_5.out) (Kd.R_base ho0) hb); have n2_ := Aside0.mk (Kd.R_lower (Kd.R_new' (Kd.R_new' ho0 (Kd.R_lt (by (with_reducible repeat (first | apply Kd.R_alloc | apply Kd.R_drewN | apply Kd.R_drew)); exact HO_3.out))) (Kd.R_lt (by (with_reducible repeat (first | apply Kd.R_alloc | apply Kd.R_drewN | apply Kd.R_drew)); exact HO_5.out))) (below_size (by repeat (first | (with_reducible first | exact HB.out | apply below_alloc | apply pw_below_drewN | apply below_drew1) | exact HB.out)))); have n3_ := Aside0.mk (below_step (by repeat (first | (with_reducible first | exact HB.out | apply below_alloc | apply pw_below_drewN | apply below_drew1) | exact HB.out)) hb); clear HO_3; clear HO_5; clear HB; have HO_3 := n0_; have HO_5 := n1_; have HO311 := n2_; have HB := n3_; clear n0_ n1_ n2_ n3_; (try clear hb); (try clear hb2); (try clear hk); (try clear hi); (try clear ho0))))
                          go_ret
                          exact ⟨by first | rfl | (simp [errW_none, errW_some] <;> rfl) | (simp [*, errW_none, errW_some] <;> rfl), by repeat (first | (with_reducible first | exact HB.out | apply below_alloc | apply pw_below_drewN | apply below_drew1) | exact HB.out)⟩
                      · rw [if_neg c78] at H
                        have c78b0 : (t274 == 0) = false := beq_eq_false_iff_ne.mpr c78
                        have c78b1 : (t274 != 0) = true := bne_iff_ne.mpr c78
                        obtain rfl := Option.some.inj H
                        go_wp2
                        repeat (go_quiet (fail); try go_wp2)
                        go_ret
                        exact ⟨by first | rfl | (simp [errW_none, errW_some] <;> rfl) | (simp [*, errW_none, errW_some] <;> rfl), by repeat (first | (with_reducible first | exact HB.out | apply below_alloc | apply pw_below_drewN | apply below_drew1) | exact HB.out)⟩

/-- THE ONE PURE STATEMENT of laws_FnHoles: yours. -/
def laws_FnHoles.Pure : Prop := ∀ (l0 : List Int), l0.length ≤ maxLen → l0.length * 1 ≤ 140737488351232 → (∀ x ∈ l0, (Lit.int .u8 x).wf = true) → ∃ k, laws_FnHoles.f k l0 = some true
theorem laws_FnHoles.walk (P : laws_FnHoles.Pure) (a0 : Option Addr) (len0 cap0 : Nat) (z0 : List Int) (w : World) (w0 : (a0 = none ∧ len0 = 0 ∧ cap0 = 0 ∧ z0 = []) ∨ ∃ x, a0 = some x ∧ len0 ≤ cap0 ∧ cap0 ≤ maxLen ∧ z0.length = cap0 ∧ (∀ i, i < z0.length → w.cell? (x.add i) = some (.int .u8 (z0.getD i 0))) ∧ ∀ n ∈ z0, (Lit.int .u8 n).wf = true) (y0 : len0 * 1 ≤ 140737488351232) :
    Calls Try.prog 3 #[.slice a0 len0 cap0] w fun e w' => e = .returned (.bool true) ∧ Below w.heap.size w w' := by
  obtain ⟨l0, rfl, hr0, hm0, hw0, hc0⟩ := ReadsInt.ofRowC w0
  obtain ⟨k, h⟩ := P l0 hm0 y0 hw0
  refine (laws_FnHoles.calls k _ _ l0 true w (Kd.C_of_reads (d := (0 : Int)) (h1 := fun _ => rfl) hr0) hc0 h).mono ?_
  rintro e w' ⟨rfl, hd⟩
  exact ⟨rfl, hd⟩

end Go.Proofs.Ytkcbihfhbojckaa.X
