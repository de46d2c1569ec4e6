-- Written by this session's own program (wip/xprint.py) out of the translation; Lean checks it.
import Derived.Test.YthfegojffgblmaaX0
import Derived.Test.YthfegojffgblmaaX1
namespace Go.Proofs.Ythfegojffgblmaa.X
open Go.RowKit Go.Proofs.YthfegojffgblmaaW.PrintWords Go.Proofs.YthfegojffgblmaaW.PrintLast Go.Proofs.YthfegojffgblmaaW.PrintMore
attribute [local go_sem] max2_int min2_int max_two min_two max_three min_three max_four min_four   -- for this text's walks alone
set_option linter.unusedVariables false
set_option linter.unusedSimpArgs false

/-! ### spec_AreFaults: function 75 -/
mutual
def spec_AreFaults.j0 : Nat → Int → Int → List (S54) → Bool → Option (Bool)
  | 0, _, _, _, _ => none
  | k + 1, x0, x1, x2, x18 => if x18 = true then (some false) else (spec_AreFaults.l0 k x0 x1 x2 0)
def spec_AreFaults.l0 : Nat → Int → Int → List (S54) → Int → Option (Bool)
  | 0, _, _, _, _ => none
  | k + 1, x0, x1, x2, x7 => if x7 < (x2.length : Int) then (if 0 ≤ x7 then ((spec_l01In.f ((rd_T54 x2 x7).f0) 0 (wrap64 (x1 - 1))).bind fun t106 => (if t106 = true then ((spec_l01In.f ((rd_T54 x2 x7).f1) 0 (wrap64 (x0 - 1))).bind fun t107 => (if t107 = true then ((spec_l01In.f ((rd_T54 x2 x7).f2) 1 4).bind fun t108 => (if t108 = true then ((spec_l01In.f ((rd_T54 x2 x7).f3) 0 (wrap64 (x0 - 1))).bind fun t109 => (spec_AreFaults.j2 k x0 x1 x2 x7 (!t109) ((rd_T54 x2 x7).f0) ((rd_T54 x2 x7).f1) ((rd_T54 x2 x7).f2) ((rd_T54 x2 x7).f3))) else (spec_AreFaults.j2 k x0 x1 x2 x7 true ((rd_T54 x2 x7).f0) ((rd_T54 x2 x7).f1) ((rd_T54 x2 x7).f2) ((rd_T54 x2 x7).f3)))) else (spec_AreFaults.j2 k x0 x1 x2 x7 true ((rd_T54 x2 x7).f0) ((rd_T54 x2 x7).f1) ((rd_T54 x2 x7).f2) ((rd_T54 x2 x7).f3)))) else (spec_AreFaults.j2 k x0 x1 x2 x7 true ((rd_T54 x2 x7).f0) ((rd_T54 x2 x7).f1) ((rd_T54 x2 x7).f2) ((rd_T54 x2 x7).f3)))) else (none)) else (some true)
def spec_AreFaults.j2 : Nat → Int → Int → List (S54) → Int → Bool → Int → Int → Int → Int → Option (Bool)
  | 0, _, _, _, _, _, _, _, _, _ => none
  | k + 1, x0, x1, x2, x7, x56, x106000, x106001, x106002, x106003 => if x56 = true then (some false) else (if x106002 = 4 then (spec_AreFaults.j3 k x0 x1 x2 x7 (x106003 == x106001) x106000 x106001 x106002 x106003) else (if x106003 = 0 then (spec_AreFaults.j3 k x0 x1 x2 x7 false x106000 x106001 x106002 x106003) else (spec_AreFaults.j3 k x0 x1 x2 x7 true x106000 x106001 x106002 x106003)))
def spec_AreFaults.j3 : Nat → Int → Int → List (S54) → Int → Bool → Int → Int → Int → Int → Option (Bool)
  | 0, _, _, _, _, _, _, _, _, _ => none
  | k + 1, x0, x1, x2, x7, x76, x106000, x106001, x106002, x106003 => if x76 = true then (some false) else (spec_AreFaults.l1 k x0 x1 x2 x7 0 x106000 x106001 x106002 x106003)
def spec_AreFaults.l1 : Nat → Int → Int → List (S54) → Int → Int → Int → Int → Int → Int → Option (Bool)
  | 0, _, _, _, _, _, _, _, _, _ => none
  | k + 1, x0, x1, x2, x7, x9, x106000, x106001, x106002, x106003 => if x9 < x7 then (if 0 ≤ x9 then (if x9 < (x2.length : Int) then (if ((rd_T54 x2 x9).f0) = x106000 then (if ((rd_T54 x2 x9).f1) = x106001 then (some false) else (spec_AreFaults.l1 k x0 x1 x2 x7 (wrap64 (x9 + 1)) x106000 x106001 x106002 x106003)) else (spec_AreFaults.l1 k x0 x1 x2 x7 (wrap64 (x9 + 1)) x106000 x106001 x106002 x106003)) else (none)) else (none)) else (spec_AreFaults.l0 k x0 x1 x2 (wrap64 (x7 + 1)))
end
def spec_AreFaults.f (k : Nat) (a0 : Int) (a1 : Int) (l2 : List (S54)) : Option (Bool) := (spec_l14Line.f a0 a1).bind fun t103 => (if t103 = true then (spec_AreFaults.j0 k a0 a1 l2 (decide ((l2.length : Int) > 20))) else (spec_AreFaults.j0 k a0 a1 l2 true))
theorem spec_AreFaults.mono_l : ∀ k, (∀ y0 y1 y2 y3, LeO (spec_AreFaults.j0 k y0 y1 y2 y3) (spec_AreFaults.j0 (k + 1) y0 y1 y2 y3)) ∧ (∀ y0 y1 y2 y3, LeO (spec_AreFaults.l0 k y0 y1 y2 y3) (spec_AreFaults.l0 (k + 1) y0 y1 y2 y3)) ∧ (∀ y0 y1 y2 y3 y4 y5 y6 y7 y8, LeO (spec_AreFaults.j2 k y0 y1 y2 y3 y4 y5 y6 y7 y8) (spec_AreFaults.j2 (k + 1) y0 y1 y2 y3 y4 y5 y6 y7 y8)) ∧ (∀ y0 y1 y2 y3 y4 y5 y6 y7 y8, LeO (spec_AreFaults.j3 k y0 y1 y2 y3 y4 y5 y6 y7 y8) (spec_AreFaults.j3 (k + 1) y0 y1 y2 y3 y4 y5 y6 y7 y8)) ∧ (∀ y0 y1 y2 y3 y4 y5 y6 y7 y8, LeO (spec_AreFaults.l1 k y0 y1 y2 y3 y4 y5 y6 y7 y8) (spec_AreFaults.l1 (k + 1) y0 y1 y2 y3 y4 y5 y6 y7 y8))
  | 0 => ⟨fun _ _ _ _ r h => by simp [spec_AreFaults.j0] at h, fun _ _ _ _ r h => by simp [spec_AreFaults.l0] at h, fun _ _ _ _ _ _ _ _ _ r h => by simp [spec_AreFaults.j2] at h, fun _ _ _ _ _ _ _ _ _ r h => by simp [spec_AreFaults.j3] at h, fun _ _ _ _ _ _ _ _ _ r h => by simp [spec_AreFaults.l1] at h⟩
  | k + 1 => by
    obtain ⟨ih0, ih1, ih2, ih3, ih4⟩ := spec_AreFaults.mono_l k
    refine ⟨?_, ?_, ?_, ?_, ?_⟩
    · intro y0 y1 y2 y3
      unfold spec_AreFaults.j0
      repeat' first
      | (with_reducible exact ih0 _ _ _ _)
      | (with_reducible exact ih1 _ _ _ _)
      | (with_reducible exact ih2 _ _ _ _ _ _ _ _ _)
      | (with_reducible exact ih3 _ _ _ _ _ _ _ _ _)
      | (with_reducible exact ih4 _ _ _ _ _ _ _ _ _)
      | (with_reducible exact LeO.refl _)
      | (with_reducible exact LeO.none _)
      | (with_reducible refine LeO.ite ?_ ?_)
      | (with_reducible refine LeO.bind ?_ (fun _ => ?_))
      | exact ih0 _ _ _ _
      | exact ih1 _ _ _ _
      | exact ih2 _ _ _ _ _ _ _ _ _
      | exact ih3 _ _ _ _ _ _ _ _ _
      | exact ih4 _ _ _ _ _ _ _ _ _
      | exact LeO.none _
      | refine LeO.ite ?_ ?_
      | refine LeO.bind ?_ (fun _ => ?_)
    · intro y0 y1 y2 y3
      unfold spec_AreFaults.l0
      repeat' first
      | (with_reducible exact ih0 _ _ _ _)
      | (with_reducible exact ih1 _ _ _ _)
      | (with_reducible exact ih2 _ _ _ _ _ _ _ _ _)
      | (with_reducible exact ih3 _ _ _ _ _ _ _ _ _)
      | (with_reducible exact ih4 _ _ _ _ _ _ _ _ _)
      | (with_reducible exact LeO.refl _)
      | (with_reducible exact LeO.none _)
      | (with_reducible refine LeO.ite ?_ ?_)
      | (with_reducible refine LeO.bind ?_ (fun _ => ?_))
      | exact ih0 _ _ _ _
      | exact ih1 _ _ _ _
      | exact ih2 _ _ _ _ _ _ _ _ _
      | exact ih3 _ _ _ _ _ _ _ _ _
      | exact ih4 _ _ _ _ _ _ _ _ _
      | exact LeO.none _
      | refine LeO.ite ?_ ?_
      | refine LeO.bind ?_ (fun _ => ?_)
    · intro y0 y1 y2 y3 y4 y5 y6 y7 y8
      unfold spec_AreFaults.j2
      repeat' first
      | (with_reducible exact ih0 _ _ _ _)
      | (with_reducible exact ih1 _ _ _ _)
      | (with_reducible exact ih2 _ _ _ _ _ _ _ _ _)
      | (with_reducible exact ih3 _ _ _ _ _ _ _ _ _)
      | (with_reducible exact ih4 _ _ _ _ _ _ _ _ _)
      | (with_reducible exact LeO.refl _)
      | (with_reducible exact LeO.none _)
      | (with_reducible refine LeO.ite ?_ ?_)
      | (with_reducible refine LeO.bind ?_ (fun _ => ?_))
      | exact ih0 _ _ _ _
      | exact ih1 _ _ _ _
      | exact ih2 _ _ _ _ _ _ _ _ _
      | exact ih3 _ _ _ _ _ _ _ _ _
      | exact ih4 _ _ _ _ _ _ _ _ _
      | exact LeO.none _
      | refine LeO.ite ?_ ?_
      | refine LeO.bind ?_ (fun _ => ?_)
    · intro y0 y1 y2 y3 y4 y5 y6 y7 y8
      unfold spec_AreFaults.j3
      repeat' first
      | (with_reducible exact ih0 _ _ _ _)
      | (with_reducible exact ih1 _ _ _ _)
      | (with_reducible exact ih2 _ _ _ _ _ _ _ _ _)
      | (with_reducible exact ih3 _ _ _ _ _ _ _ _ _)
      | (with_reducible exact ih4 _ _ _ _ _ _ _ _ _)
      | (with_reducible exact LeO.refl _)
      | (with_reducible exact LeO.none _)
      | (with_reducible refine LeO.ite ?_ ?_)
      | (with_reducible refine LeO.bind ?_ (fun _ => ?_))
      | exact ih0 _ _ _ _
      | exact ih1 _ _ _ _
      | exact ih2 _ _ _ _ _ _ _ _ _
      | exact ih3 _ _ _ _ _ _ _ _ _
      | exact ih4 _ _ _ _ _ _ _ _ _
      | exact LeO.none _
      | refine LeO.ite ?_ ?_
      | refine LeO.bind ?_ (fun _ => ?_)
    · intro y0 y1 y2 y3 y4 y5 y6 y7 y8
      unfold spec_AreFaults.l1
      repeat' first
      | (with_reducible exact ih0 _ _ _ _)
      | (with_reducible exact ih1 _ _ _ _)
      | (with_reducible exact ih2 _ _ _ _ _ _ _ _ _)
      | (with_reducible exact ih3 _ _ _ _ _ _ _ _ _)
      | (with_reducible exact ih4 _ _ _ _ _ _ _ _ _)
      | (with_reducible exact LeO.refl _)
      | (with_reducible exact LeO.none _)
      | (with_reducible refine LeO.ite ?_ ?_)
      | (with_reducible refine LeO.bind ?_ (fun _ => ?_))
      | exact ih0 _ _ _ _
      | exact ih1 _ _ _ _
      | exact ih2 _ _ _ _ _ _ _ _ _
      | exact ih3 _ _ _ _ _ _ _ _ _
      | exact ih4 _ _ _ _ _ _ _ _ _
      | exact LeO.none _
      | refine LeO.ite ?_ ?_
      | refine LeO.bind ?_ (fun _ => ?_)
theorem spec_AreFaults.mono : ∀ a0 a1 a2 k, LeO (spec_AreFaults.f k a0 a1 a2) (spec_AreFaults.f (k + 1) a0 a1 a2) := by
  intro a0 a1 a2 k
  obtain ⟨ih0, ih1, ih2, ih3, ih4⟩ := spec_AreFaults.mono_l k
  unfold spec_AreFaults.f
  repeat' first
      | (with_reducible exact ih0 _ _ _ _)
      | (with_reducible exact ih1 _ _ _ _)
      | (with_reducible exact ih2 _ _ _ _ _ _ _ _ _)
      | (with_reducible exact ih3 _ _ _ _ _ _ _ _ _)
      | (with_reducible exact ih4 _ _ _ _ _ _ _ _ _)
      | (with_reducible exact LeO.refl _)
      | (with_reducible exact LeO.none _)
      | (with_reducible refine LeO.ite ?_ ?_)
      | (with_reducible refine LeO.bind ?_ (fun _ => ?_))
      | exact ih0 _ _ _ _
      | exact ih1 _ _ _ _
      | exact ih2 _ _ _ _ _ _ _ _ _
      | exact ih3 _ _ _ _ _ _ _ _ _
      | exact ih4 _ _ _ _ _ _ _ _ _
      | exact LeO.none _
      | refine LeO.ite ?_ ?_
      | refine LeO.bind ?_ (fun _ => ?_)
set_option maxHeartbeats 8000000 in
set_option maxRecDepth 100000 in
theorem spec_AreFaults.calls (k : Nat) (a0 : Int) (a1 : Int) (A2 : Option Addr) (c2 : Nat) (l2 : List (S54)) (r : Bool) (w : World) (hr2 : Kd.C k54 w A2 l2.length l2) (hc2 : l2.length ≤ c2) (h : spec_AreFaults.f k a0 a1 l2 = some r) :
    Calls Try.prog 75 #[.int .i64 a0, .int .i64 a1, .slice A2 l2.length c2] w fun e w' => e = .returned (.bool r) ∧ Below w.heap.size w w' := by
  have hu54 := Try.underlying54
  have HR2 := Aside0.mk hr2
  have HC2 := Aside0.mk hc2
  clear hr2 hc2
  have HB := Aside0.mk (Below.refl w.heap.size w)
  have H : ((spec_l14Line.f a0 a1).bind fun t103 => (if t103 = true then (spec_AreFaults.j0 k a0 a1 l2 (decide ((l2.length : Int) > 20))) else (spec_AreFaults.j0 k a0 a1 l2 true))) = some r := h
  clear h
  have HC4 := Aside0.mk H
  clear H
  go_enter Try.func75, Try.ntmps75
  go_upto_region 1 with (fail)
  repeat (go_quiet (fail); go_upto_region 1 with (fail))
  go_cut [18] (fun v18 wc => ∃ (kq : Nat) (x18_3 : Bool), v18 = .bool x18_3 ∧ Aside0 (spec_AreFaults.j0 kq a0 a1 l2 x18_3 = some r) ∧ Aside0 (kq ≤ k) ∧ Aside0 (Below w.heap.size w wc))
  case first =>
    have H := HC4.out
    clear HC4
    replace H := Option.bind_eq_some_iff.mp H
    obtain ⟨t103, A50, H⟩ := H
    replace H : (if t103 = true then (spec_AreFaults.j0 k a0 a1 l2 (decide ((l2.length : Int) > 20))) else (spec_AreFaults.j0 k a0 a1 l2 true)) = some r := H
    have A5 := Aside0.mk A50
    clear A50
    by_cases c6 : t103 = true
    · subst c6
      have H1 : (spec_AreFaults.j0 k a0 a1 l2 (decide ((l2.length : Int) > 20))) = some r := by rw [if_pos rfl] at H; exact H
      clear H
      have H := H1
      clear H1
      have H' := Aside0.mk H
      clear H
      go_wp2_with (first | (go_at_call 63; (with_reducible refine (spec_l14Line.calls a0 a1 true _ A5.out).mono ?_); rintro e w' ⟨rfl, ⟨nd, rfl⟩⟩; (try first | exact ⟨rfl, _, World.drewN_drewN _ _ _⟩ | exact ⟨rfl, _, Eq.trans (World.drewN_drewN _ _ _) (congrArg (World.drewN _) (Nat.add_assoc _ _ _))⟩)))
      repeat (go_quiet (first | (go_at_call 63; (with_reducible refine (spec_l14Line.calls a0 a1 true _ A5.out).mono ?_); rintro e w' ⟨rfl, ⟨nd, rfl⟩⟩; (try first | exact ⟨rfl, _, World.drewN_drewN _ _ _⟩ | exact ⟨rfl, _, Eq.trans (World.drewN_drewN _ _ _) (congrArg (World.drewN _) (Nat.add_assoc _ _ _))⟩))); try go_wp2_with (first | (go_at_call 63; (with_reducible refine (spec_l14Line.calls a0 a1 true _ A5.out).mono ?_); rintro e w' ⟨rfl, ⟨nd, rfl⟩⟩; (try first | exact ⟨rfl, _, World.drewN_drewN _ _ _⟩ | exact ⟨rfl, _, Eq.trans (World.drewN_drewN _ _ _) (congrArg (World.drewN _) (Nat.add_assoc _ _ _))⟩))))
      go_meet
      case rel => exact ⟨_, (decide ((l2.length : Int) > 20)), (by first | rfl | (simp; done) | (simp [*]; done)), H', ⟨by first | omega | exact Nat.le_refl _⟩, ⟨by repeat (first | (with_reducible first | exact HB.out | apply below_alloc | apply pw_below_drewN | apply below_drew1) | exact HB.out)⟩⟩
    · replace c6 := Bool.eq_false_iff.mpr c6
      subst c6
      have H1 : (spec_AreFaults.j0 k a0 a1 l2 true) = some r := by rw [if_neg (show ¬ (false = true) by decide)] at H; exact H
      clear H
      have H := H1
      clear H1
      have H' := Aside0.mk H
      clear H
      go_wp2_with (first | (go_at_call 63; (with_reducible refine (spec_l14Line.calls a0 a1 false _ A5.out).mono ?_); rintro e w' ⟨rfl, ⟨nd, rfl⟩⟩; (try first | exact ⟨rfl, _, World.drewN_drewN _ _ _⟩ | exact ⟨rfl, _, Eq.trans (World.drewN_drewN _ _ _) (congrArg (World.drewN _) (Nat.add_assoc _ _ _))⟩)))
      repeat (go_quiet (first | (go_at_call 63; (with_reducible refine (spec_l14Line.calls a0 a1 false _ A5.out).mono ?_); rintro e w' ⟨rfl, ⟨nd, rfl⟩⟩; (try first | exact ⟨rfl, _, World.drewN_drewN _ _ _⟩ | exact ⟨rfl, _, Eq.trans (World.drewN_drewN _ _ _) (congrArg (World.drewN _) (Nat.add_assoc _ _ _))⟩))); try go_wp2_with (first | (go_at_call 63; (with_reducible refine (spec_l14Line.calls a0 a1 false _ A5.out).mono ?_); rintro e w' ⟨rfl, ⟨nd, rfl⟩⟩; (try first | exact ⟨rfl, _, World.drewN_drewN _ _ _⟩ | exact ⟨rfl, _, Eq.trans (World.drewN_drewN _ _ _) (congrArg (World.drewN _) (Nat.add_assoc _ _ _))⟩))))
      go_meet
      case rel => exact ⟨_, (true), (by first | rfl | (simp; done) | (simp [*]; done)), H', ⟨by first | omega | exact Nat.le_refl _⟩, ⟨by repeat (first | (with_reducible first | exact HB.out | apply below_alloc | apply pw_below_drewN | apply below_drew1) | exact HB.out)⟩⟩
  case rest =>
    clear HC4
    try clear c2
    try clear p2
    try clear c6
    obtain ⟨kq, x18_3, rfl, HA, HJ3, HB⟩ := hcut
    cases kq with
    | zero => exact absurd HA.out (by simp [spec_AreFaults.j0])
    | succ kj3 =>
      have H := HA.out
      clear HA
      simp only [spec_AreFaults.j0] at H
      by_cases c7 : x18_3 = true
      · subst c7
        have H1 : (some false) = some r := by rw [if_pos rfl] at H; exact H
        clear H
        have H := H1
        clear H1
        obtain rfl := Option.some.inj H
        go_wp2
        repeat (go_quiet (fail); try go_wp2)
        go_ret
        exact ⟨by first | rfl | (simp [errW_none, errW_some] <;> rfl) | (simp [*, errW_none, errW_some] <;> rfl), by repeat (first | (with_reducible first | exact HB.out | apply below_alloc | apply pw_below_drewN | apply below_drew1) | exact HB.out)⟩
      · replace c7 := Bool.eq_false_iff.mpr c7
        subst c7
        have H1 : (spec_AreFaults.l0 kj3 a0 a1 l2 0) = some r := by rw [if_neg (show ¬ (false = true) by decide)] at H; exact H
        clear H
        have H := H1
        clear H1
        have H' := Aside0.mk H
        clear H
        go_wp2
        repeat (go_quiet (fail); try go_wp2)
        go_loopg [7] kj3 (fun kq v7 w' => ∃ (x7_2 : Int), v7 = .int .i64 x7_2 ∧ Aside0 (spec_AreFaults.l0 kq a0 a1 l2 x7_2 = some r) ∧ Aside0 (kq ≤ kj3) ∧ Aside0 (Below w.heap.size w w'))
        case atStart => exact ⟨(0), (by first | rfl | (simp; done) | (simp [*]; done)), H', ⟨Nat.le_refl _⟩, ⟨by repeat (first | (with_reducible first | exact HB.out | apply below_alloc | apply pw_below_drewN | apply below_drew1) | exact HB.out)⟩⟩
        case round =>
          clear H'
          try clear c2
          try clear p2
          try clear c6
          try clear c7
          try clear p2
          obtain ⟨x7_2, rfl, HA, HK2, HB⟩ := hrel
          cases gk with
          | zero => exact absurd HA.out (by simp [spec_AreFaults.l0])
          | succ k2 =>
            have H := HA.out
            clear HA
            simp only [spec_AreFaults.l0] at H
            by_cases c8 : x7_2 < (l2.length : Int)
            · rw [if_pos c8] at H
              have c8b0 : decide (x7_2 < (l2.length : Int)) = true := decide_eq_true c8
              clear c8
              by_cases c9 : 0 ≤ x7_2
              · rw [if_pos c9] at H
                have c9b0 : decide (0 ≤ x7_2) = true := decide_eq_true c9
                clear c9
                have HC10 := Aside0.mk H
                clear H
                have p104 : 0 ≤ (x7_2 : Int) := of_decide_eq_true (by first | (with_reducible assumption) | assumption)
                have q104 : x7_2 < (l2.length : Int) := of_decide_eq_true (by first | (with_reducible assumption) | assumption)
                obtain ⟨ad104, e104, hx104_0, hx104_1, hx104_2, hx104_3⟩ := at_T54 HR2.out x7_2 p104 q104
                cases e104
                replace hx104_0 := (HB.out.cell (World.block_lt_of_cell? w _ hx104_0)).trans hx104_0
                replace hx104_1 := (HB.out.cell (World.block_lt_of_cell? w _ hx104_1)).trans hx104_1
                replace hx104_2 := (HB.out.cell (World.block_lt_of_cell? w _ hx104_2)).trans hx104_2
                replace hx104_3 := (HB.out.cell (World.block_lt_of_cell? w _ hx104_3)).trans hx104_3
                replace p104 := eq_true p104
                replace q104 := eq_true q104
                go_upto_region 7 with (first | ((with_reducible refine gate_dst (N := 8) rfl ?_); (try (refine gate_guard (by rfl) ?_; dsimp only)); refine box_event ?hg (N := 8) ?hd (cs := #[.int .i64 0, .int .i64 0, .int .i64 0, .int .i64 0]) (t := 54) ?hr ?_; (case hd => rfl); (case hg => rfl); (case hr => first | (go_simp; done) | (go_simp; rfl)); intro gb105 hg w11 hbox hb; have n0_ := Aside0.mk (below_step (by repeat (first | (with_reducible first | exact HB.out | apply below_alloc | apply pw_below_drewN | apply below_drew1) | exact HB.out)) hb); have n1_ := Aside0.mk (hbox); have n2_ := Aside0.mk ((by rw [hg]; exact (below_size (by repeat (first | (with_reducible first | exact HB.out | apply below_alloc | apply pw_below_drewN | apply below_drew1) | exact HB.out))) : w.heap.size ≤ gb105)); have n3_ := Aside0.mk ((by rw [hg]; exact (below_size (by repeat (first | (with_reducible first | exact HB.out | apply below_alloc | apply pw_below_drewN | apply below_drew1) | exact HB.out))) : w.heap.size ≤ gb105)); clear HB; have HB := n0_; have BK105 := n1_; have GW105 := n2_; have GE105 := n3_; clear n0_ n1_ n2_ n3_; clear hb hbox hg; have hcz12_0 : w11.cell? ⟨gb105, 0, none⟩ = some (.int .i64 0) := (blk_cell BK105.out 0).trans rfl; have hcz12_1 : w11.cell? ⟨gb105, 1, none⟩ = some (.int .i64 0) := (blk_cell BK105.out 1).trans rfl; have hcz12_2 : w11.cell? ⟨gb105, 2, none⟩ = some (.int .i64 0) := (blk_cell BK105.out 2).trans rfl; have hcz12_3 : w11.cell? ⟨gb105, 3, none⟩ = some (.int .i64 0) := (blk_cell BK105.out 3).trans rfl; have hfz12_0 := blk_frozen BK105.out 0; have hfz12_1 := blk_frozen BK105.out 1; have hfz12_2 := blk_frozen BK105.out 2; have hfz12_3 := blk_frozen BK105.out 3))
                repeat (go_quiet (first | ((with_reducible refine gate_dst (N := 8) rfl ?_); (try (refine gate_guard (by rfl) ?_; dsimp only)); refine box_event ?hg (N := 8) ?hd (cs := #[.int .i64 0, .int .i64 0, .int .i64 0, .int .i64 0]) (t := 54) ?hr ?_; (case hd => rfl); (case hg => rfl); (case hr => first | (go_simp; done) | (go_simp; rfl)); intro gb105 hg w11 hbox hb; have n0_ := Aside0.mk (below_step (by repeat (first | (with_reducible first | exact HB.out | apply below_alloc | apply pw_below_drewN | apply below_drew1) | exact HB.out)) hb); have n1_ := Aside0.mk (hbox); have n2_ := Aside0.mk ((by rw [hg]; exact (below_size (by repeat (first | (with_reducible first | exact HB.out | apply below_alloc | apply pw_below_drewN | apply below_drew1) | exact HB.out))) : w.heap.size ≤ gb105)); have n3_ := Aside0.mk ((by rw [hg]; exact (below_size (by repeat (first | (with_reducible first | exact HB.out | apply below_alloc | apply pw_below_drewN | apply below_drew1) | exact HB.out))) : w.heap.size ≤ gb105)); clear HB; have HB := n0_; have BK105 := n1_; have GW105 := n2_; have GE105 := n3_; clear n0_ n1_ n2_ n3_; clear hb hbox hg; have hcz12_0 : w11.cell? ⟨gb105, 0, none⟩ = some (.int .i64 0) := (blk_cell BK105.out 0).trans rfl; have hcz12_1 : w11.cell? ⟨gb105, 1, none⟩ = some (.int .i64 0) := (blk_cell BK105.out 1).trans rfl; have hcz12_2 : w11.cell? ⟨gb105, 2, none⟩ = some (.int .i64 0) := (blk_cell BK105.out 2).trans rfl; have hcz12_3 : w11.cell? ⟨gb105, 3, none⟩ = some (.int .i64 0) := (blk_cell BK105.out 3).trans rfl; have hfz12_0 := blk_frozen BK105.out 0; have hfz12_1 := blk_frozen BK105.out 1; have hfz12_2 := blk_frozen BK105.out 2; have hfz12_3 := blk_frozen BK105.out 3)); go_upto_region 7 with (first | ((with_reducible refine gate_dst (N := 8) rfl ?_); (try (refine gate_guard (by rfl) ?_; dsimp only)); refine box_event ?hg (N := 8) ?hd (cs := #[.int .i64 0, .int .i64 0, .int .i64 0, .int .i64 0]) (t := 54) ?hr ?_; (case hd => rfl); (case hg => rfl); (case hr => first | (go_simp; done) | (go_simp; rfl)); intro gb105 hg w11 hbox hb; have n0_ := Aside0.mk (below_step (by repeat (first | (with_reducible first | exact HB.out | apply below_alloc | apply pw_below_drewN | apply below_drew1) | exact HB.out)) hb); have n1_ := Aside0.mk (hbox); have n2_ := Aside0.mk ((by rw [hg]; exact (below_size (by repeat (first | (with_reducible first | exact HB.out | apply below_alloc | apply pw_below_drewN | apply below_drew1) | exact HB.out))) : w.heap.size ≤ gb105)); have n3_ := Aside0.mk ((by rw [hg]; exact (below_size (by repeat (first | (with_reducible first | exact HB.out | apply below_alloc | apply pw_below_drewN | apply below_drew1) | exact HB.out))) : w.heap.size ≤ gb105)); clear HB; have HB := n0_; have BK105 := n1_; have GW105 := n2_; have GE105 := n3_; clear n0_ n1_ n2_ n3_; clear hb hbox hg; have hcz12_0 : w11.cell? ⟨gb105, 0, none⟩ = some (.int .i64 0) := (blk_cell BK105.out 0).trans rfl; have hcz12_1 : w11.cell? ⟨gb105, 1, none⟩ = some (.int .i64 0) := (blk_cell BK105.out 1).trans rfl; have hcz12_2 : w11.cell? ⟨gb105, 2, none⟩ = some (.int .i64 0) := (blk_cell BK105.out 2).trans rfl; have hcz12_3 : w11.cell? ⟨gb105, 3, none⟩ = some (.int .i64 0) := (blk_cell BK105.out 3).trans rfl; have hfz12_0 := blk_frozen BK105.out 0; have hfz12_1 := blk_frozen BK105.out 1; have hfz12_2 := blk_frozen BK105.out 2; have hfz12_3 := blk_frozen BK105.out 3)))
                (try simp only [Act.put, List.setIfInBounds_toArray, List.set_cons_zero, List.set_cons_succ])
                go_cut [56] (fun v56 wc => ∃ (kq : Nat) (x56_9 : Bool), v56 = .bool x56_9 ∧ Aside0 (spec_AreFaults.j2 kq a0 a1 l2 x7_2 x56_9 ((rd_T54 l2 x7_2).f0) ((rd_T54 l2 x7_2).f1) ((rd_T54 l2 x7_2).f2) ((rd_T54 l2 x7_2).f3) = some r) ∧ Aside0 (kq ≤ k2) ∧ Aside0 (wc.heap[gb105]? = some (.cells #[.int .i64 ((rd_T54 l2 x7_2).f0), .int .i64 ((rd_T54 l2 x7_2).f1), .int .i64 ((rd_T54 l2 x7_2).f2), .int .i64 ((rd_T54 l2 x7_2).f3)] 54 (0, 0))) ∧ Aside0 (Below w.heap.size w wc))
                case first =>
                  have H := HC10.out
                  clear HC10
                  replace H := Option.bind_eq_some_iff.mp H
                  obtain ⟨t106, A130, H⟩ := H
                  replace H : (if t106 = true then ((spec_l01In.f ((rd_T54 l2 x7_2).f1) 0 (wrap64 (a0 - 1))).bind fun t107 => (if t107 = true then ((spec_l01In.f ((rd_T54 l2 x7_2).f2) 1 4).bind fun t108 => (if t108 = true then ((spec_l01In.f ((rd_T54 l2 x7_2).f3) 0 (wrap64 (a0 - 1))).bind fun t109 => (spec_AreFaults.j2 k2 a0 a1 l2 x7_2 (!t109) ((rd_T54 l2 x7_2).f0) ((rd_T54 l2 x7_2).f1) ((rd_T54 l2 x7_2).f2) ((rd_T54 l2 x7_2).f3))) else (spec_AreFaults.j2 k2 a0 a1 l2 x7_2 true ((rd_T54 l2 x7_2).f0) ((rd_T54 l2 x7_2).f1) ((rd_T54 l2 x7_2).f2) ((rd_T54 l2 x7_2).f3)))) else (spec_AreFaults.j2 k2 a0 a1 l2 x7_2 true ((rd_T54 l2 x7_2).f0) ((rd_T54 l2 x7_2).f1) ((rd_T54 l2 x7_2).f2) ((rd_T54 l2 x7_2).f3)))) else (spec_AreFaults.j2 k2 a0 a1 l2 x7_2 true ((rd_T54 l2 x7_2).f0) ((rd_T54 l2 x7_2).f1) ((rd_T54 l2 x7_2).f2) ((rd_T54 l2 x7_2).f3))) = some r := H
                  have A13 := Aside0.mk A130
                  clear A130
                  by_cases c14 : t106 = true
                  · subst c14
                    have H1 : ((spec_l01In.f ((rd_T54 l2 x7_2).f1) 0 (wrap64 (a0 - 1))).bind fun t107 => (if t107 = true then ((spec_l01In.f ((rd_T54 l2 x7_2).f2) 1 4).bind fun t108 => (if t108 = true then ((spec_l01In.f ((rd_T54 l2 x7_2).f3) 0 (wrap64 (a0 - 1))).bind fun t109 => (spec_AreFaults.j2 k2 a0 a1 l2 x7_2 (!t109) ((rd_T54 l2 x7_2).f0) ((rd_T54 l2 x7_2).f1) ((rd_T54 l2 x7_2).f2) ((rd_T54 l2 x7_2).f3))) else (spec_AreFaults.j2 k2 a0 a1 l2 x7_2 true ((rd_T54 l2 x7_2).f0) ((rd_T54 l2 x7_2).f1) ((rd_T54 l2 x7_2).f2) ((rd_T54 l2 x7_2).f3)))) else (spec_AreFaults.j2 k2 a0 a1 l2 x7_2 true ((rd_T54 l2 x7_2).f0) ((rd_T54 l2 x7_2).f1) ((rd_T54 l2 x7_2).f2) ((rd_T54 l2 x7_2).f3)))) = some r := by rw [if_pos rfl] at H; exact H
                    clear H
                    have H := H1
                    clear H1
                    replace H := Option.bind_eq_some_iff.mp H
                    obtain ⟨t107, A150, H⟩ := H
                    replace H : (if t107 = true then ((spec_l01In.f ((rd_T54 l2 x7_2).f2) 1 4).bind fun t108 => (if t108 = true then ((spec_l01In.f ((rd_T54 l2 x7_2).f3) 0 (wrap64 (a0 - 1))).bind fun t109 => (spec_AreFaults.j2 k2 a0 a1 l2 x7_2 (!t109) ((rd_T54 l2 x7_2).f0) ((rd_T54 l2 x7_2).f1) ((rd_T54 l2 x7_2).f2) ((rd_T54 l2 x7_2).f3))) else (spec_AreFaults.j2 k2 a0 a1 l2 x7_2 true ((rd_T54 l2 x7_2).f0) ((rd_T54 l2 x7_2).f1) ((rd_T54 l2 x7_2).f2) ((rd_T54 l2 x7_2).f3)))) else (spec_AreFaults.j2 k2 a0 a1 l2 x7_2 true ((rd_T54 l2 x7_2).f0) ((rd_T54 l2 x7_2).f1) ((rd_T54 l2 x7_2).f2) ((rd_T54 l2 x7_2).f3))) = some r := H
                    have A15 := Aside0.mk A150
                    clear A150
                    by_cases c16 : t107 = true
                    · subst c16
                      have H1 : ((spec_l01In.f ((rd_T54 l2 x7_2).f2) 1 4).bind fun t108 => (if t108 = true then ((spec_l01In.f ((rd_T54 l2 x7_2).f3) 0 (wrap64 (a0 - 1))).bind fun t109 => (spec_AreFaults.j2 k2 a0 a1 l2 x7_2 (!t109) ((rd_T54 l2 x7_2).f0) ((rd_T54 l2 x7_2).f1) ((rd_T54 l2 x7_2).f2) ((rd_T54 l2 x7_2).f3))) else (spec_AreFaults.j2 k2 a0 a1 l2 x7_2 true ((rd_T54 l2 x7_2).f0) ((rd_T54 l2 x7_2).f1) ((rd_T54 l2 x7_2).f2) ((rd_T54 l2 x7_2).f3)))) = some r := by rw [if_pos rfl] at H; exact H
                      clear H
                      have H := H1
                      clear H1
                      replace H := Option.bind_eq_some_iff.mp H
                      obtain ⟨t108, A170, H⟩ := H
                      replace H : (if t108 = true then ((spec_l01In.f ((rd_T54 l2 x7_2).f3) 0 (wrap64 (a0 - 1))).bind fun t109 => (spec_AreFaults.j2 k2 a0 a1 l2 x7_2 (!t109) ((rd_T54 l2 x7_2).f0) ((rd_T54 l2 x7_2).f1) ((rd_T54 l2 x7_2).f2) ((rd_T54 l2 x7_2).f3))) else (spec_AreFaults.j2 k2 a0 a1 l2 x7_2 true ((rd_T54 l2 x7_2).f0) ((rd_T54 l2 x7_2).f1) ((rd_T54 l2 x7_2).f2) ((rd_T54 l2 x7_2).f3))) = some r := H
                      have A17 := Aside0.mk A170
                      clear A170
                      by_cases c18 : t108 = true
                      · subst c18
                        have H1 : ((spec_l01In.f ((rd_T54 l2 x7_2).f3) 0 (wrap64 (a0 - 1))).bind fun t109 => (spec_AreFaults.j2 k2 a0 a1 l2 x7_2 (!t109) ((rd_T54 l2 x7_2).f0) ((rd_T54 l2 x7_2).f1) ((rd_T54 l2 x7_2).f2) ((rd_T54 l2 x7_2).f3))) = some r := by rw [if_pos rfl] at H; exact H
                        clear H
                        have H := H1
                        clear H1
                        replace H := Option.bind_eq_some_iff.mp H
                        obtain ⟨t109, A190, H⟩ := H
                        replace H : (spec_AreFaults.j2 k2 a0 a1 l2 x7_2 (!t109) ((rd_T54 l2 x7_2).f0) ((rd_T54 l2 x7_2).f1) ((rd_T54 l2 x7_2).f2) ((rd_T54 l2 x7_2).f3)) = some r := H
                        have A19 := Aside0.mk A190
                        clear A190
                        have H' := Aside0.mk H
                        clear H
                        have hcz20_0 : w11.cell? ⟨gb105, 0, none⟩ = some (.int .i64 0) := (blk_cell BK105.out 0).trans rfl
                        have hcz20_1 : w11.cell? ⟨gb105, 1, none⟩ = some (.int .i64 0) := (blk_cell BK105.out 1).trans rfl
                        have hcz20_2 : w11.cell? ⟨gb105, 2, none⟩ = some (.int .i64 0) := (blk_cell BK105.out 2).trans rfl
                        have hcz20_3 : w11.cell? ⟨gb105, 3, none⟩ = some (.int .i64 0) := (blk_cell BK105.out 3).trans rfl
                        have hfz20_0 := blk_frozen BK105.out 0
                        have hfz20_1 := blk_frozen BK105.out 1
                        have hfz20_2 := blk_frozen BK105.out 2
                        have hfz20_3 := blk_frozen BK105.out 3
                        go_wp2_with (first | (go_at_call 79; (with_reducible refine (spec_l01In.calls ((rd_T54 l2 x7_2).f0) 0 (wrap64 (a1 - 1)) true _ A13.out).mono ?_); rintro e w' ⟨rfl, ⟨nd, rfl⟩⟩; (try first | exact ⟨rfl, _, World.drewN_drewN _ _ _⟩ | exact ⟨rfl, _, Eq.trans (World.drewN_drewN _ _ _) (congrArg (World.drewN _) (Nat.add_assoc _ _ _))⟩)) | (go_at_call 79; (with_reducible refine (spec_l01In.calls ((rd_T54 l2 x7_2).f1) 0 (wrap64 (a0 - 1)) true _ A15.out).mono ?_); rintro e w' ⟨rfl, ⟨nd, rfl⟩⟩; (try first | exact ⟨rfl, _, World.drewN_drewN _ _ _⟩ | exact ⟨rfl, _, Eq.trans (World.drewN_drewN _ _ _) (congrArg (World.drewN _) (Nat.add_assoc _ _ _))⟩)) | (go_at_call 79; (with_reducible refine (spec_l01In.calls ((rd_T54 l2 x7_2).f2) 1 4 true _ A17.out).mono ?_); rintro e w' ⟨rfl, ⟨nd, rfl⟩⟩; (try first | exact ⟨rfl, _, World.drewN_drewN _ _ _⟩ | exact ⟨rfl, _, Eq.trans (World.drewN_drewN _ _ _) (congrArg (World.drewN _) (Nat.add_assoc _ _ _))⟩)) | (go_at_call 79; (with_reducible refine (spec_l01In.calls ((rd_T54 l2 x7_2).f3) 0 (wrap64 (a0 - 1)) t109 _ A19.out).mono ?_); rintro e w' ⟨rfl, ⟨nd, rfl⟩⟩; (try first | exact ⟨rfl, _, World.drewN_drewN _ _ _⟩ | exact ⟨rfl, _, Eq.trans (World.drewN_drewN _ _ _) (congrArg (World.drewN _) (Nat.add_assoc _ _ _))⟩)))
                        repeat (go_quiet (first | (go_at_call 79; (with_reducible refine (spec_l01In.calls ((rd_T54 l2 x7_2).f0) 0 (wrap64 (a1 - 1)) true _ A13.out).mono ?_); rintro e w' ⟨rfl, ⟨nd, rfl⟩⟩; (try first | exact ⟨rfl, _, World.drewN_drewN _ _ _⟩ | exact ⟨rfl, _, Eq.trans (World.drewN_drewN _ _ _) (congrArg (World.drewN _) (Nat.add_assoc _ _ _))⟩)) | (go_at_call 79; (with_reducible refine (spec_l01In.calls ((rd_T54 l2 x7_2).f1) 0 (wrap64 (a0 - 1)) true _ A15.out).mono ?_); rintro e w' ⟨rfl, ⟨nd, rfl⟩⟩; (try first | exact ⟨rfl, _, World.drewN_drewN _ _ _⟩ | exact ⟨rfl, _, Eq.trans (World.drewN_drewN _ _ _) (congrArg (World.drewN _) (Nat.add_assoc _ _ _))⟩)) | (go_at_call 79; (with_reducible refine (spec_l01In.calls ((rd_T54 l2 x7_2).f2) 1 4 true _ A17.out).mono ?_); rintro e w' ⟨rfl, ⟨nd, rfl⟩⟩; (try first | exact ⟨rfl, _, World.drewN_drewN _ _ _⟩ | exact ⟨rfl, _, Eq.trans (World.drewN_drewN _ _ _) (congrArg (World.drewN _) (Nat.add_assoc _ _ _))⟩)) | (go_at_call 79; (with_reducible refine (spec_l01In.calls ((rd_T54 l2 x7_2).f3) 0 (wrap64 (a0 - 1)) t109 _ A19.out).mono ?_); rintro e w' ⟨rfl, ⟨nd, rfl⟩⟩; (try first | exact ⟨rfl, _, World.drewN_drewN _ _ _⟩ | exact ⟨rfl, _, Eq.trans (World.drewN_drewN _ _ _) (congrArg (World.drewN _) (Nat.add_assoc _ _ _))⟩))); try go_wp2_with (first | (go_at_call 79; (with_reducible refine (spec_l01In.calls ((rd_T54 l2 x7_2).f0) 0 (wrap64 (a1 - 1)) true _ A13.out).mono ?_); rintro e w' ⟨rfl, ⟨nd, rfl⟩⟩; (try first | exact ⟨rfl, _, World.drewN_drewN _ _ _⟩ | exact ⟨rfl, _, Eq.trans (World.drewN_drewN _ _ _) (congrArg (World.drewN _) (Nat.add_assoc _ _ _))⟩)) | (go_at_call 79; (with_reducible refine (spec_l01In.calls ((rd_T54 l2 x7_2).f1) 0 (wrap64 (a0 - 1)) true _ A15.out).mono ?_); rintro e w' ⟨rfl, ⟨nd, rfl⟩⟩; (try first | exact ⟨rfl, _, World.drewN_drewN _ _ _⟩ | exact ⟨rfl, _, Eq.trans (World.drewN_drewN _ _ _) (congrArg (World.drewN _) (Nat.add_assoc _ _ _))⟩)) | (go_at_call 79; (with_reducible refine (spec_l01In.calls ((rd_T54 l2 x7_2).f2) 1 4 true _ A17.out).mono ?_); rintro e w' ⟨rfl, ⟨nd, rfl⟩⟩; (try first | exact ⟨rfl, _, World.drewN_drewN _ _ _⟩ | exact ⟨rfl, _, Eq.trans (World.drewN_drewN _ _ _) (congrArg (World.drewN _) (Nat.add_assoc _ _ _))⟩)) | (go_at_call 79; (with_reducible refine (spec_l01In.calls ((rd_T54 l2 x7_2).f3) 0 (wrap64 (a0 - 1)) t109 _ A19.out).mono ?_); rintro e w' ⟨rfl, ⟨nd, rfl⟩⟩; (try first | exact ⟨rfl, _, World.drewN_drewN _ _ _⟩ | exact ⟨rfl, _, Eq.trans (World.drewN_drewN _ _ _) (congrArg (World.drewN _) (Nat.add_assoc _ _ _))⟩))))
                        go_meet
                        case rel => exact ⟨_, (!t109), (by first | rfl | (simp; done) | (simp [*]; done)), H', ⟨by have := HJ3.out; have := HK2.out; first | omega | exact Nat.le_refl _⟩, ⟨by (with_reducible repeat (first | refine blk_drewN ?_ _ | refine blk_drew ?_ | refine blk_alloc ?_ _)); refine blk_put (cs := #[.int .i64 ((rd_T54 l2 x7_2).f0), .int .i64 ((rd_T54 l2 x7_2).f1), .int .i64 ((rd_T54 l2 x7_2).f2), .int .i64 0]) ?_ 3 _ rfl; (with_reducible repeat (first | refine blk_drewN ?_ _ | refine blk_drew ?_ | refine blk_alloc ?_ _)); refine blk_put (cs := #[.int .i64 ((rd_T54 l2 x7_2).f0), .int .i64 ((rd_T54 l2 x7_2).f1), .int .i64 0, .int .i64 0]) ?_ 2 _ rfl; (with_reducible repeat (first | refine blk_drewN ?_ _ | refine blk_drew ?_ | refine blk_alloc ?_ _)); refine blk_put (cs := #[.int .i64 ((rd_T54 l2 x7_2).f0), .int .i64 0, .int .i64 0, .int .i64 0]) ?_ 1 _ rfl; (with_reducible repeat (first | refine blk_drewN ?_ _ | refine blk_drew ?_ | refine blk_alloc ?_ _)); refine blk_put (cs := #[.int .i64 0, .int .i64 0, .int .i64 0, .int .i64 0]) ?_ 0 _ rfl; (with_reducible repeat (first | refine blk_drewN ?_ _ | refine blk_drew ?_ | refine blk_alloc ?_ _)); exact BK105.out⟩, ⟨by repeat (first | (with_reducible first | exact HB.out | apply below_alloc | apply pw_below_drewN | apply below_drew1 | refine below_set ?_ GE105.out) | exact HB.out)⟩⟩
                      · replace c18 := Bool.eq_false_iff.mpr c18
                        subst c18
                        have H1 : (spec_AreFaults.j2 k2 a0 a1 l2 x7_2 true ((rd_T54 l2 x7_2).f0) ((rd_T54 l2 x7_2).f1) ((rd_T54 l2 x7_2).f2) ((rd_T54 l2 x7_2).f3)) = some r := by rw [if_neg (show ¬ (false = true) by decide)] at H; exact H
                        clear H
                        have H := H1
                        clear H1
                        have H' := Aside0.mk H
                        clear H
                        have hcz21_0 : w11.cell? ⟨gb105, 0, none⟩ = some (.int .i64 0) := (blk_cell BK105.out 0).trans rfl
                        have hcz21_1 : w11.cell? ⟨gb105, 1, none⟩ = some (.int .i64 0) := (blk_cell BK105.out 1).trans rfl
                        have hcz21_2 : w11.cell? ⟨gb105, 2, none⟩ = some (.int .i64 0) := (blk_cell BK105.out 2).trans rfl
                        have hcz21_3 : w11.cell? ⟨gb105, 3, none⟩ = some (.int .i64 0) := (blk_cell BK105.out 3).trans rfl
                        have hfz21_0 := blk_frozen BK105.out 0
                        have hfz21_1 := blk_frozen BK105.out 1
                        have hfz21_2 := blk_frozen BK105.out 2
                        have hfz21_3 := blk_frozen BK105.out 3
                        go_wp2_with (first | (go_at_call 79; (with_reducible refine (spec_l01In.calls ((rd_T54 l2 x7_2).f0) 0 (wrap64 (a1 - 1)) true _ A13.out).mono ?_); rintro e w' ⟨rfl, ⟨nd, rfl⟩⟩; (try first | exact ⟨rfl, _, World.drewN_drewN _ _ _⟩ | exact ⟨rfl, _, Eq.trans (World.drewN_drewN _ _ _) (congrArg (World.drewN _) (Nat.add_assoc _ _ _))⟩)) | (go_at_call 79; (with_reducible refine (spec_l01In.calls ((rd_T54 l2 x7_2).f1) 0 (wrap64 (a0 - 1)) true _ A15.out).mono ?_); rintro e w' ⟨rfl, ⟨nd, rfl⟩⟩; (try first | exact ⟨rfl, _, World.drewN_drewN _ _ _⟩ | exact ⟨rfl, _, Eq.trans (World.drewN_drewN _ _ _) (congrArg (World.drewN _) (Nat.add_assoc _ _ _))⟩)) | (go_at_call 79; (with_reducible refine (spec_l01In.calls ((rd_T54 l2 x7_2).f2) 1 4 false _ A17.out).mono ?_); rintro e w' ⟨rfl, ⟨nd, rfl⟩⟩; (try first | exact ⟨rfl, _, World.drewN_drewN _ _ _⟩ | exact ⟨rfl, _, Eq.trans (World.drewN_drewN _ _ _) (congrArg (World.drewN _) (Nat.add_assoc _ _ _))⟩)))
                        repeat (go_quiet (first | (go_at_call 79; (with_reducible refine (spec_l01In.calls ((rd_T54 l2 x7_2).f0) 0 (wrap64 (a1 - 1)) true _ A13.out).mono ?_); rintro e w' ⟨rfl, ⟨nd, rfl⟩⟩; (try first | exact ⟨rfl, _, World.drewN_drewN _ _ _⟩ | exact ⟨rfl, _, Eq.trans (World.drewN_drewN _ _ _) (congrArg (World.drewN _) (Nat.add_assoc _ _ _))⟩)) | (go_at_call 79; (with_reducible refine (spec_l01In.calls ((rd_T54 l2 x7_2).f1) 0 (wrap64 (a0 - 1)) true _ A15.out).mono ?_); rintro e w' ⟨rfl, ⟨nd, rfl⟩⟩; (try first | exact ⟨rfl, _, World.drewN_drewN _ _ _⟩ | exact ⟨rfl, _, Eq.trans (World.drewN_drewN _ _ _) (congrArg (World.drewN _) (Nat.add_assoc _ _ _))⟩)) | (go_at_call 79; (with_reducible refine (spec_l01In.calls ((rd_T54 l2 x7_2).f2) 1 4 false _ A17.out).mono ?_); rintro e w' ⟨rfl, ⟨nd, rfl⟩⟩; (try first | exact ⟨rfl, _, World.drewN_drewN _ _ _⟩ | exact ⟨rfl, _, Eq.trans (World.drewN_drewN _ _ _) (congrArg (World.drewN _) (Nat.add_assoc _ _ _))⟩))); try go_wp2_with (first | (go_at_call 79; (with_reducible refine (spec_l01In.calls ((rd_T54 l2 x7_2).f0) 0 (wrap64 (a1 - 1)) true _ A13.out).mono ?_); rintro e w' ⟨rfl, ⟨nd, rfl⟩⟩; (try first | exact ⟨rfl, _, World.drewN_drewN _ _ _⟩ | exact ⟨rfl, _, Eq.trans (World.drewN_drewN _ _ _) (congrArg (World.drewN _) (Nat.add_assoc _ _ _))⟩)) | (go_at_call 79; (with_reducible refine (spec_l01In.calls ((rd_T54 l2 x7_2).f1) 0 (wrap64 (a0 - 1)) true _ A15.out).mono ?_); rintro e w' ⟨rfl, ⟨nd, rfl⟩⟩; (try first | exact ⟨rfl, _, World.drewN_drewN _ _ _⟩ | exact ⟨rfl, _, Eq.trans (World.drewN_drewN _ _ _) (congrArg (World.drewN _) (Nat.add_assoc _ _ _))⟩)) | (go_at_call 79; (with_reducible refine (spec_l01In.calls ((rd_T54 l2 x7_2).f2) 1 4 false _ A17.out).mono ?_); rintro e w' ⟨rfl, ⟨nd, rfl⟩⟩; (try first | exact ⟨rfl, _, World.drewN_drewN _ _ _⟩ | exact ⟨rfl, _, Eq.trans (World.drewN_drewN _ _ _) (congrArg (World.drewN _) (Nat.add_assoc _ _ _))⟩))))
                        go_meet
                        case rel => exact ⟨_, (true), (by first | rfl | (simp; done) | (simp [*]; done)), H', ⟨by have := HJ3.out; have := HK2.out; first | omega | exact Nat.le_refl _⟩, ⟨by (with_reducible repeat (first | refine blk_drewN ?_ _ | refine blk_drew ?_ | refine blk_alloc ?_ _)); refine blk_put (cs := #[.int .i64 ((rd_T54 l2 x7_2).f0), .int .i64 ((rd_T54 l2 x7_2).f1), .int .i64 ((rd_T54 l2 x7_2).f2), .int .i64 0]) ?_ 3 _ rfl; (with_reducible repeat (first | refine blk_drewN ?_ _ | refine blk_drew ?_ | refine blk_alloc ?_ _)); refine blk_put (cs := #[.int .i64 ((rd_T54 l2 x7_2).f0), .int .i64 ((rd_T54 l2 x7_2).f1), .int .i64 0, .int .i64 0]) ?_ 2 _ rfl; (with_reducible repeat (first | refine blk_drewN ?_ _ | refine blk_drew ?_ | refine blk_alloc ?_ _)); refine blk_put (cs := #[.int .i64 ((rd_T54 l2 x7_2).f0), .int .i64 0, .int .i64 0, .int .i64 0]) ?_ 1 _ rfl; (with_reducible repeat (first | refine blk_drewN ?_ _ | refine blk_drew ?_ | refine blk_alloc ?_ _)); refine blk_put (cs := #[.int .i64 0, .int .i64 0, .int .i64 0, .int .i64 0]) ?_ 0 _ rfl; (with_reducible repeat (first | refine blk_drewN ?_ _ | refine blk_drew ?_ | refine blk_alloc ?_ _)); exact BK105.out⟩, ⟨by repeat (first | (with_reducible first | exact HB.out | apply below_alloc | apply pw_below_drewN | apply below_drew1 | refine below_set ?_ GE105.out) | exact HB.out)⟩⟩
                    · replace c16 := Bool.eq_false_iff.mpr c16
                      subst c16
                      have H1 : (spec_AreFaults.j2 k2 a0 a1 l2 x7_2 true ((rd_T54 l2 x7_2).f0) ((rd_T54 l2 x7_2).f1) ((rd_T54 l2 x7_2).f2) ((rd_T54 l2 x7_2).f3)) = some r := by rw [if_neg (show ¬ (false = true) by decide)] at H; exact H
                      clear H
                      have H := H1
                      clear H1
                      have H' := Aside0.mk H
                      clear H
                      have hcz22_0 : w11.cell? ⟨gb105, 0, none⟩ = some (.int .i64 0) := (blk_cell BK105.out 0).trans rfl
                      have hcz22_1 : w11.cell? ⟨gb105, 1, none⟩ = some (.int .i64 0) := (blk_cell BK105.out 1).trans rfl
                      have hcz22_2 : w11.cell? ⟨gb105, 2, none⟩ = some (.int .i64 0) := (blk_cell BK105.out 2).trans rfl
                      have hcz22_3 : w11.cell? ⟨gb105, 3, none⟩ = some (.int .i64 0) := (blk_cell BK105.out 3).trans rfl
                      have hfz22_0 := blk_frozen BK105.out 0
                      have hfz22_1 := blk_frozen BK105.out 1
                      have hfz22_2 := blk_frozen BK105.out 2
                      have hfz22_3 := blk_frozen BK105.out 3
                      go_wp2_with (first | (go_at_call 79; (with_reducible refine (spec_l01In.calls ((rd_T54 l2 x7_2).f0) 0 (wrap64 (a1 - 1)) true _ A13.out).mono ?_); rintro e w' ⟨rfl, ⟨nd, rfl⟩⟩; (try first | exact ⟨rfl, _, World.drewN_drewN _ _ _⟩ | exact ⟨rfl, _, Eq.trans (World.drewN_drewN _ _ _) (congrArg (World.drewN _) (Nat.add_assoc _ _ _))⟩)) | (go_at_call 79; (with_reducible refine (spec_l01In.calls ((rd_T54 l2 x7_2).f1) 0 (wrap64 (a0 - 1)) false _ A15.out).mono ?_); rintro e w' ⟨rfl, ⟨nd, rfl⟩⟩; (try first | exact ⟨rfl, _, World.drewN_drewN _ _ _⟩ | exact ⟨rfl, _, Eq.trans (World.drewN_drewN _ _ _) (congrArg (World.drewN _) (Nat.add_assoc _ _ _))⟩)))
                      repeat (go_quiet (first | (go_at_call 79; (with_reducible refine (spec_l01In.calls ((rd_T54 l2 x7_2).f0) 0 (wrap64 (a1 - 1)) true _ A13.out).mono ?_); rintro e w' ⟨rfl, ⟨nd, rfl⟩⟩; (try first | exact ⟨rfl, _, World.drewN_drewN _ _ _⟩ | exact ⟨rfl, _, Eq.trans (World.drewN_drewN _ _ _) (congrArg (World.drewN _) (Nat.add_assoc _ _ _))⟩)) | (go_at_call 79; (with_reducible refine (spec_l01In.calls ((rd_T54 l2 x7_2).f1) 0 (wrap64 (a0 - 1)) false _ A15.out).mono ?_); rintro e w' ⟨rfl, ⟨nd, rfl⟩⟩; (try first | exact ⟨rfl, _, World.drewN_drewN _ _ _⟩ | exact ⟨rfl, _, Eq.trans (World.drewN_drewN _ _ _) (congrArg (World.drewN _) (Nat.add_assoc _ _ _))⟩))); try go_wp2_with (first | (go_at_call 79; (with_reducible refine (spec_l01In.calls ((rd_T54 l2 x7_2).f0) 0 (wrap64 (a1 - 1)) true _ A13.out).mono ?_); rintro e w' ⟨rfl, ⟨nd, rfl⟩⟩; (try first | exact ⟨rfl, _, World.drewN_drewN _ _ _⟩ | exact ⟨rfl, _, Eq.trans (World.drewN_drewN _ _ _) (congrArg (World.drewN _) (Nat.add_assoc _ _ _))⟩)) | (go_at_call 79; (with_reducible refine (spec_l01In.calls ((rd_T54 l2 x7_2).f1) 0 (wrap64 (a0 - 1)) false _ A15.out).mono ?_); rintro e w' ⟨rfl, ⟨nd, rfl⟩⟩; (try first | exact ⟨rfl, _, World.drewN_drewN _ _ _⟩ | exact ⟨rfl, _, Eq.trans (World.drewN_drewN _ _ _) (congrArg (World.drewN _) (Nat.add_assoc _ _ _))⟩))))
                      go_meet
                      case rel => exact ⟨_, (true), (by first | rfl | (simp; done) | (simp [*]; done)), H', ⟨by have := HJ3.out; have := HK2.out; first | omega | exact Nat.le_refl _⟩, ⟨by (with_reducible repeat (first | refine blk_drewN ?_ _ | refine blk_drew ?_ | refine blk_alloc ?_ _)); refine blk_put (cs := #[.int .i64 ((rd_T54 l2 x7_2).f0), .int .i64 ((rd_T54 l2 x7_2).f1), .int .i64 ((rd_T54 l2 x7_2).f2), .int .i64 0]) ?_ 3 _ rfl; (with_reducible repeat (first | refine blk_drewN ?_ _ | refine blk_drew ?_ | refine blk_alloc ?_ _)); refine blk_put (cs := #[.int .i64 ((rd_T54 l2 x7_2).f0), .int .i64 ((rd_T54 l2 x7_2).f1), .int .i64 0, .int .i64 0]) ?_ 2 _ rfl; (with_reducible repeat (first | refine blk_drewN ?_ _ | refine blk_drew ?_ | refine blk_alloc ?_ _)); refine blk_put (cs := #[.int .i64 ((rd_T54 l2 x7_2).f0), .int .i64 0, .int .i64 0, .int .i64 0]) ?_ 1 _ rfl; (with_reducible repeat (first | refine blk_drewN ?_ _ | refine blk_drew ?_ | refine blk_alloc ?_ _)); refine blk_put (cs := #[.int .i64 0, .int .i64 0, .int .i64 0, .int .i64 0]) ?_ 0 _ rfl; (with_reducible repeat (first | refine blk_drewN ?_ _ | refine blk_drew ?_ | refine blk_alloc ?_ _)); exact BK105.out⟩, ⟨by repeat (first | (with_reducible first | exact HB.out | apply below_alloc | apply pw_below_drewN | apply below_drew1 | refine below_set ?_ GE105.out) | exact HB.out)⟩⟩
                  · replace c14 := Bool.eq_false_iff.mpr c14
                    subst c14
                    have H1 : (spec_AreFaults.j2 k2 a0 a1 l2 x7_2 true ((rd_T54 l2 x7_2).f0) ((rd_T54 l2 x7_2).f1) ((rd_T54 l2 x7_2).f2) ((rd_T54 l2 x7_2).f3)) = some r := by rw [if_neg (show ¬ (false = true) by decide)] at H; exact H
                    clear H
                    have H := H1
                    clear H1
                    have H' := Aside0.mk H
                    clear H
                    have hcz23_0 : w11.cell? ⟨gb105, 0, none⟩ = some (.int .i64 0) := (blk_cell BK105.out 0).trans rfl
                    have hcz23_1 : w11.cell? ⟨gb105, 1, none⟩ = some (.int .i64 0) := (blk_cell BK105.out 1).trans rfl
                    have hcz23_2 : w11.cell? ⟨gb105, 2, none⟩ = some (.int .i64 0) := (blk_cell BK105.out 2).trans rfl
                    have hcz23_3 : w11.cell? ⟨gb105, 3, none⟩ = some (.int .i64 0) := (blk_cell BK105.out 3).trans rfl
                    have hfz23_0 := blk_frozen BK105.out 0
                    have hfz23_1 := blk_frozen BK105.out 1
                    have hfz23_2 := blk_frozen BK105.out 2
                    have hfz23_3 := blk_frozen BK105.out 3
                    go_wp2_with (first | (go_at_call 79; (with_reducible refine (spec_l01In.calls ((rd_T54 l2 x7_2).f0) 0 (wrap64 (a1 - 1)) false _ A13.out).mono ?_); rintro e w' ⟨rfl, ⟨nd, rfl⟩⟩; (try first | exact ⟨rfl, _, World.drewN_drewN _ _ _⟩ | exact ⟨rfl, _, Eq.trans (World.drewN_drewN _ _ _) (congrArg (World.drewN _) (Nat.add_assoc _ _ _))⟩)))
                    repeat (go_quiet (first | (go_at_call 79; (with_reducible refine (spec_l01In.calls ((rd_T54 l2 x7_2).f0) 0 (wrap64 (a1 - 1)) false _ A13.out).mono ?_); rintro e w' ⟨rfl, ⟨nd, rfl⟩⟩; (try first | exact ⟨rfl, _, World.drewN_drewN _ _ _⟩ | exact ⟨rfl, _, Eq.trans (World.drewN_drewN _ _ _) (congrArg (World.drewN _) (Nat.add_assoc _ _ _))⟩))); try go_wp2_with (first | (go_at_call 79; (with_reducible refine (spec_l01In.calls ((rd_T54 l2 x7_2).f0) 0 (wrap64 (a1 - 1)) false _ A13.out).mono ?_); rintro e w' ⟨rfl, ⟨nd, rfl⟩⟩; (try first | exact ⟨rfl, _, World.drewN_drewN _ _ _⟩ | exact ⟨rfl, _, Eq.trans (World.drewN_drewN _ _ _) (congrArg (World.drewN _) (Nat.add_assoc _ _ _))⟩))))
                    go_meet
                    case rel => exact ⟨_, (true), (by first | rfl | (simp; done) | (simp [*]; done)), H', ⟨by have := HJ3.out; have := HK2.out; first | omega | exact Nat.le_refl _⟩, ⟨by (with_reducible repeat (first | refine blk_drewN ?_ _ | refine blk_drew ?_ | refine blk_alloc ?_ _)); refine blk_put (cs := #[.int .i64 ((rd_T54 l2 x7_2).f0), .int .i64 ((rd_T54 l2 x7_2).f1), .int .i64 ((rd_T54 l2 x7_2).f2), .int .i64 0]) ?_ 3 _ rfl; (with_reducible repeat (first | refine blk_drewN ?_ _ | refine blk_drew ?_ | refine blk_alloc ?_ _)); refine blk_put (cs := #[.int .i64 ((rd_T54 l2 x7_2).f0), .int .i64 ((rd_T54 l2 x7_2).f1), .int .i64 0, .int .i64 0]) ?_ 2 _ rfl; (with_reducible repeat (first | refine blk_drewN ?_ _ | refine blk_drew ?_ | refine blk_alloc ?_ _)); refine blk_put (cs := #[.int .i64 ((rd_T54 l2 x7_2).f0), .int .i64 0, .int .i64 0, .int .i64 0]) ?_ 1 _ rfl; (with_reducible repeat (first | refine blk_drewN ?_ _ | refine blk_drew ?_ | refine blk_alloc ?_ _)); refine blk_put (cs := #[.int .i64 0, .int .i64 0, .int .i64 0, .int .i64 0]) ?_ 0 _ rfl; (with_reducible repeat (first | refine blk_drewN ?_ _ | refine blk_drew ?_ | refine blk_alloc ?_ _)); exact BK105.out⟩, ⟨by repeat (first | (with_reducible first | exact HB.out | apply below_alloc | apply pw_below_drewN | apply below_drew1 | refine below_set ?_ GE105.out) | exact HB.out)⟩⟩
                case rest =>
                  clear HC10
                  try clear c1
                  try clear p1
                  try clear q1
                  try clear hx1
                  try clear c2
                  try clear p2
                  try clear c6
                  try clear p6
                  try clear c7
                  try clear c8
                  try clear c8b0
                  try clear c9
                  try clear c9b0
                  try clear p10
                  try clear q10
                  try clear hx10
                  try clear c14
                  try clear c16
                  try clear c18
                  try clear hcz12_0
                  try clear hcz12_1
                  try clear hcz12_2
                  try clear hcz12_3
                  try clear hcz20_0
                  try clear hcz20_1
                  try clear hcz20_2
                  try clear hcz20_3
                  try clear hcz21_0
                  try clear hcz21_1
                  try clear hcz21_2
                  try clear hcz21_3
                  try clear hcz22_0
                  try clear hcz22_1
                  try clear hcz22_2
                  try clear hcz22_3
                  try clear hcz23_0
                  try clear hcz23_1
                  try clear hcz23_2
                  try clear hcz23_3
                  try clear hfz12_0
                  try clear hfz12_1
                  try clear hfz12_2
                  try clear hfz12_3
                  try clear hfz20_0
                  try clear hfz20_1
                  try clear hfz20_2
                  try clear hfz20_3
                  try clear hfz21_0
                  try clear hfz21_1
                  try clear hfz21_2
                  try clear hfz21_3
                  try clear hfz22_0
                  try clear hfz22_1
                  try clear hfz22_2
                  try clear hfz22_3
                  try clear hfz23_0
                  try clear hfz23_1
                  try clear hfz23_2
                  try clear hfz23_3
                  try clear hx104_0
                  try clear hx104_1
                  try clear hx104_2
                  try clear hx104_3
                  try clear p104
                  try clear p2
                  try clear q104
                  obtain ⟨kq, x56_9, rfl, HA, HJ9, BK105, HB⟩ := hcut
                  cases kq with
                  | zero => exact absurd HA.out (by simp [spec_AreFaults.j2])
                  | succ kj9 =>
                    have H := HA.out
                    clear HA
                    simp only [spec_AreFaults.j2] at H
                    by_cases c24 : x56_9 = true
                    · subst c24
                      have H1 : (some false) = some r := by rw [if_pos rfl] at H; exact H
                      clear H
                      have H := H1
                      clear H1
                      obtain rfl := Option.some.inj H
                      go_wp2
                      repeat (go_quiet (fail); try go_wp2)
                      go_ret
                      exact ⟨by first | rfl | (simp [errW_none, errW_some] <;> rfl) | (simp [*, errW_none, errW_some] <;> rfl), by repeat (first | (with_reducible first | exact HB.out | apply below_alloc | apply pw_below_drewN | apply below_drew1 | refine below_set ?_ GE105.out) | exact HB.out)⟩
                    · replace c24 := Bool.eq_false_iff.mpr c24
                      subst c24
                      have H1 : (if ((rd_T54 l2 x7_2).f2) = 4 then (spec_AreFaults.j3 kj9 a0 a1 l2 x7_2 (((rd_T54 l2 x7_2).f3) == ((rd_T54 l2 x7_2).f1)) ((rd_T54 l2 x7_2).f0) ((rd_T54 l2 x7_2).f1) ((rd_T54 l2 x7_2).f2) ((rd_T54 l2 x7_2).f3)) else (if ((rd_T54 l2 x7_2).f3) = 0 then (spec_AreFaults.j3 kj9 a0 a1 l2 x7_2 false ((rd_T54 l2 x7_2).f0) ((rd_T54 l2 x7_2).f1) ((rd_T54 l2 x7_2).f2) ((rd_T54 l2 x7_2).f3)) else (spec_AreFaults.j3 kj9 a0 a1 l2 x7_2 true ((rd_T54 l2 x7_2).f0) ((rd_T54 l2 x7_2).f1) ((rd_T54 l2 x7_2).f2) ((rd_T54 l2 x7_2).f3)))) = some r := by rw [if_neg (show ¬ (false = true) by decide)] at H; exact H
                      clear H
                      have H := H1
                      clear H1
                      have HC25 := Aside0.mk H
                      clear H
                      go_upto_region 9 with (fail)
                      repeat (go_quiet (fail); go_upto_region 9 with (fail))
                      go_cut [76] (fun v76 wc => ∃ (kq : Nat) (x76_24 : Bool), v76 = .bool x76_24 ∧ Aside0 (spec_AreFaults.j3 kq a0 a1 l2 x7_2 x76_24 ((rd_T54 l2 x7_2).f0) ((rd_T54 l2 x7_2).f1) ((rd_T54 l2 x7_2).f2) ((rd_T54 l2 x7_2).f3) = some r) ∧ Aside0 (kq ≤ kj9) ∧ Aside0 (wc.heap[gb105]? = some (.cells #[.int .i64 ((rd_T54 l2 x7_2).f0), .int .i64 ((rd_T54 l2 x7_2).f1), .int .i64 ((rd_T54 l2 x7_2).f2), .int .i64 ((rd_T54 l2 x7_2).f3)] 54 (0, 0))) ∧ Aside0 (Below w.heap.size w wc))
                      case first =>
                        have H := HC25.out
                        clear HC25
                        by_cases c26 : ((rd_T54 l2 x7_2).f2) = 4
                        · rw [if_pos c26] at H
                          have c26b0 : (((rd_T54 l2 x7_2).f2) == 4) = true := beq_iff_eq.mpr c26
                          have c26b1 : (((rd_T54 l2 x7_2).f2) != 4) = false := bne_eq_false_iff_eq.mpr c26
                          clear c26
                          (first | rw [c26b0] | (simp only [i64_w, i32_w]; rw [c26b0]) | skip)
                          have H' := Aside0.mk H
                          clear H
                          have hcz27_0 : wc.cell? ⟨gb105, 0, none⟩ = some (.int .i64 ((rd_T54 l2 x7_2).f0)) := (blk_cell BK105.out 0).trans rfl
                          have hcz27_1 : wc.cell? ⟨gb105, 1, none⟩ = some (.int .i64 ((rd_T54 l2 x7_2).f1)) := (blk_cell BK105.out 1).trans rfl
                          have hcz27_2 : wc.cell? ⟨gb105, 2, none⟩ = some (.int .i64 ((rd_T54 l2 x7_2).f2)) := (blk_cell BK105.out 2).trans rfl
                          have hcz27_3 : wc.cell? ⟨gb105, 3, none⟩ = some (.int .i64 ((rd_T54 l2 x7_2).f3)) := (blk_cell BK105.out 3).trans rfl
                          have hfz27_0 := blk_frozen BK105.out 0
                          have hfz27_1 := blk_frozen BK105.out 1
                          have hfz27_2 := blk_frozen BK105.out 2
                          have hfz27_3 := blk_frozen BK105.out 3
                          go_wp2
                          repeat (go_quiet (fail); try go_wp2)
                          go_meet
                          case rel => exact ⟨_, ((((rd_T54 l2 x7_2).f3) == ((rd_T54 l2 x7_2).f1))), (by first | rfl | (simp; done) | (simp [*]; done)), H', ⟨by have := HJ3.out; have := HK2.out; have := HJ9.out; first | omega | exact Nat.le_refl _⟩, ⟨by (with_reducible repeat (first | refine blk_drewN ?_ _ | refine blk_drew ?_ | refine blk_alloc ?_ _)); exact BK105.out⟩, ⟨by repeat (first | (with_reducible first | exact HB.out | apply below_alloc | apply pw_below_drewN | apply below_drew1 | refine below_set ?_ GE105.out) | exact HB.out)⟩⟩
                        · rw [if_neg c26] at H
                          have c26b0 : (((rd_T54 l2 x7_2).f2) == 4) = false := beq_eq_false_iff_ne.mpr c26
                          have c26b1 : (((rd_T54 l2 x7_2).f2) != 4) = true := bne_iff_ne.mpr c26
                          (first | rw [c26b0] | (simp only [i64_w, i32_w]; rw [c26b0]) | skip)
                          by_cases c28 : ((rd_T54 l2 x7_2).f3) = 0
                          · rw [if_pos c28] at H
                            have c28b0 : (((rd_T54 l2 x7_2).f3) == 0) = true := beq_iff_eq.mpr c28
                            have c28b1 : (((rd_T54 l2 x7_2).f3) != 0) = false := bne_eq_false_iff_eq.mpr c28
                            clear c28
                            have H' := Aside0.mk H
                            clear H
                            have hcz29_0 : wc.cell? ⟨gb105, 0, none⟩ = some (.int .i64 ((rd_T54 l2 x7_2).f0)) := (blk_cell BK105.out 0).trans rfl
                            have hcz29_1 : wc.cell? ⟨gb105, 1, none⟩ = some (.int .i64 ((rd_T54 l2 x7_2).f1)) := (blk_cell BK105.out 1).trans rfl
                            have hcz29_2 : wc.cell? ⟨gb105, 2, none⟩ = some (.int .i64 ((rd_T54 l2 x7_2).f2)) := (blk_cell BK105.out 2).trans rfl
                            have hcz29_3 : wc.cell? ⟨gb105, 3, none⟩ = some (.int .i64 ((rd_T54 l2 x7_2).f3)) := (blk_cell BK105.out 3).trans rfl
                            have hfz29_0 := blk_frozen BK105.out 0
                            have hfz29_1 := blk_frozen BK105.out 1
                            have hfz29_2 := blk_frozen BK105.out 2
                            have hfz29_3 := blk_frozen BK105.out 3
                            go_wp2
                            repeat (go_quiet (fail); try go_wp2)
                            go_meet
                            case rel => exact ⟨_, (false), (by first | rfl | (simp; done) | (simp [*]; done)), H', ⟨by have := HJ3.out; have := HK2.out; have := HJ9.out; first | omega | exact Nat.le_refl _⟩, ⟨by (with_reducible repeat (first | refine blk_drewN ?_ _ | refine blk_drew ?_ | refine blk_alloc ?_ _)); exact BK105.out⟩, ⟨by repeat (first | (with_reducible first | exact HB.out | apply below_alloc | apply pw_below_drewN | apply below_drew1 | refine below_set ?_ GE105.out) | exact HB.out)⟩⟩
                          · rw [if_neg c28] at H
                            have c28b0 : (((rd_T54 l2 x7_2).f3) == 0) = false := beq_eq_false_iff_ne.mpr c28
                            have c28b1 : (((rd_T54 l2 x7_2).f3) != 0) = true := bne_iff_ne.mpr c28
                            have H' := Aside0.mk H
                            clear H
                            have hcz30_0 : wc.cell? ⟨gb105, 0, none⟩ = some (.int .i64 ((rd_T54 l2 x7_2).f0)) := (blk_cell BK105.out 0).trans rfl
                            have hcz30_1 : wc.cell? ⟨gb105, 1, none⟩ = some (.int .i64 ((rd_T54 l2 x7_2).f1)) := (blk_cell BK105.out 1).trans rfl
                            have hcz30_2 : wc.cell? ⟨gb105, 2, none⟩ = some (.int .i64 ((rd_T54 l2 x7_2).f2)) := (blk_cell BK105.out 2).trans rfl
                            have hcz30_3 : wc.cell? ⟨gb105, 3, none⟩ = some (.int .i64 ((rd_T54 l2 x7_2).f3)) := (blk_cell BK105.out 3).trans rfl
                            have hfz30_0 := blk_frozen BK105.out 0
                            have hfz30_1 := blk_frozen BK105.out 1
                            have hfz30_2 := blk_frozen BK105.out 2
                            have hfz30_3 := blk_frozen BK105.out 3
                            go_wp2
                            repeat (go_quiet (fail); try go_wp2)
                            go_meet
                            case rel => exact ⟨_, (true), (by first | rfl | (simp; done) | (simp [*]; done)), H', ⟨by have := HJ3.out; have := HK2.out; have := HJ9.out; first | omega | exact Nat.le_refl _⟩, ⟨by (with_reducible repeat (first | refine blk_drewN ?_ _ | refine blk_drew ?_ | refine blk_alloc ?_ _)); exact BK105.out⟩, ⟨by repeat (first | (with_reducible first | exact HB.out | apply below_alloc | apply pw_below_drewN | apply below_drew1 | refine below_set ?_ GE105.out) | exact HB.out)⟩⟩
                      case rest =>
                        clear HC25
                        try clear c1
                        try clear p1
                        try clear q1
                        try clear hx1
                        try clear c2
                        try clear p2
                        try clear c6
                        try clear p6
                        try clear c7
                        try clear c8
                        try clear c8b0
                        try clear c9
                        try clear c9b0
                        try clear p10
                        try clear q10
                        try clear hx10
                        try clear c14
                        try clear c16
                        try clear c18
                        try clear c24
                        try clear c26
                        try clear c26b0
                        try clear c26b1
                        try clear c28
                        try clear c28b0
                        try clear c28b1
                        try clear hcz12_0
                        try clear hcz12_1
                        try clear hcz12_2
                        try clear hcz12_3
                        try clear hcz20_0
                        try clear hcz20_1
                        try clear hcz20_2
                        try clear hcz20_3
                        try clear hcz21_0
                        try clear hcz21_1
                        try clear hcz21_2
                        try clear hcz21_3
                        try clear hcz22_0
                        try clear hcz22_1
                        try clear hcz22_2
                        try clear hcz22_3
                        try clear hcz23_0
                        try clear hcz23_1
                        try clear hcz23_2
                        try clear hcz23_3
                        try clear hcz27_0
                        try clear hcz27_1
                        try clear hcz27_2
                        try clear hcz27_3
                        try clear hcz29_0
                        try clear hcz29_1
                        try clear hcz29_2
                        try clear hcz29_3
                        try clear hcz30_0
                        try clear hcz30_1
                        try clear hcz30_2
                        try clear hcz30_3
                        try clear hfz12_0
                        try clear hfz12_1
                        try clear hfz12_2
                        try clear hfz12_3
                        try clear hfz20_0
                        try clear hfz20_1
                        try clear hfz20_2
                        try clear hfz20_3
                        try clear hfz21_0
                        try clear hfz21_1
                        try clear hfz21_2
                        try clear hfz21_3
                        try clear hfz22_0
                        try clear hfz22_1
                        try clear hfz22_2
                        try clear hfz22_3
                        try clear hfz23_0
                        try clear hfz23_1
                        try clear hfz23_2
                        try clear hfz23_3
                        try clear hfz27_0
                        try clear hfz27_1
                        try clear hfz27_2
                        try clear hfz27_3
                        try clear hfz29_0
                        try clear hfz29_1
                        try clear hfz29_2
                        try clear hfz29_3
                        try clear hfz30_0
                        try clear hfz30_1
                        try clear hfz30_2
                        try clear hfz30_3
                        try clear hx104_0
                        try clear hx104_1
                        try clear hx104_2
                        try clear hx104_3
                        try clear p1
                        try clear p10
                        try clear p104
                        try clear p2
                        try clear p6
                        try clear q1
                        try clear q10
                        try clear q104
                        obtain ⟨kq, x76_24, rfl, HA, HJ24, BK105, HB⟩ := hcut
                        cases kq with
                        | zero => exact absurd HA.out (by simp [spec_AreFaults.j3])
                        | succ kj24 =>
                          have H := HA.out
                          clear HA
                          simp only [spec_AreFaults.j3] at H
                          by_cases c31 : x76_24 = true
                          · subst c31
                            have H1 : (some false) = some r := by rw [if_pos rfl] at H; exact H
                            clear H
                            have H := H1
                            clear H1
                            obtain rfl := Option.some.inj H
                            go_wp2
                            repeat (go_quiet (fail); try go_wp2)
                            go_ret
                            exact ⟨by first | rfl | (simp [errW_none, errW_some] <;> rfl) | (simp [*, errW_none, errW_some] <;> rfl), by repeat (first | (with_reducible first | exact HB.out | apply below_alloc | apply pw_below_drewN | apply below_drew1 | refine below_set ?_ GE105.out) | exact HB.out)⟩
                          · replace c31 := Bool.eq_false_iff.mpr c31
                            subst c31
                            have H1 : (spec_AreFaults.l1 kj24 a0 a1 l2 x7_2 0 ((rd_T54 l2 x7_2).f0) ((rd_T54 l2 x7_2).f1) ((rd_T54 l2 x7_2).f2) ((rd_T54 l2 x7_2).f3)) = some r := by rw [if_neg (show ¬ (false = true) by decide)] at H; exact H
                            clear H
                            have H := H1
                            clear H1
                            have H' := Aside0.mk H
                            clear H
                            go_wp2
                            repeat (go_quiet (fail); try go_wp2)
                            go_loopg [9] kj24 (fun kq v9 w' => ∃ (x9_5 : Int), v9 = .int .i64 x9_5 ∧ Aside0 (spec_AreFaults.l1 kq a0 a1 l2 x7_2 x9_5 ((rd_T54 l2 x7_2).f0) ((rd_T54 l2 x7_2).f1) ((rd_T54 l2 x7_2).f2) ((rd_T54 l2 x7_2).f3) = some r) ∧ Aside0 (kq ≤ kj24) ∧ Aside0 (w'.heap[gb105]? = some (.cells #[.int .i64 ((rd_T54 l2 x7_2).f0), .int .i64 ((rd_T54 l2 x7_2).f1), .int .i64 ((rd_T54 l2 x7_2).f2), .int .i64 ((rd_T54 l2 x7_2).f3)] 54 (0, 0))) ∧ Aside0 (Below w.heap.size w w'))
                            case atStart => exact ⟨(0), (by first | rfl | (simp; done) | (simp [*]; done)), H', ⟨Nat.le_refl _⟩, ⟨by (with_reducible repeat (first | refine blk_drewN ?_ _ | refine blk_drew ?_ | refine blk_alloc ?_ _)); exact BK105.out⟩, ⟨by repeat (first | (with_reducible first | exact HB.out | apply below_alloc | apply pw_below_drewN | apply below_drew1 | refine below_set ?_ GE105.out) | exact HB.out)⟩⟩
                            case round =>
                              clear H'
                              try clear c1
                              try clear p1
                              try clear q1
                              try clear hx1
                              try clear c2
                              try clear p2
                              try clear c3
                              try clear c6
                              try clear p6
                              try clear c7
                              try clear c8
                              try clear c8b0
                              try clear c9
                              try clear c9b0
                              try clear p10
                              try clear q10
                              try clear hx10
                              try clear c14
                              try clear c16
                              try clear c18
                              try clear c24
                              try clear c26
                              try clear c26b0
                              try clear c26b1
                              try clear c28
                              try clear c28b0
                              try clear c28b1
                              try clear c31
                              try clear hcz12_0
                              try clear hcz12_1
                              try clear hcz12_2
                              try clear hcz12_3
                              try clear hcz20_0
                              try clear hcz20_1
                              try clear hcz20_2
                              try clear hcz20_3
                              try clear hcz21_0
                              try clear hcz21_1
                              try clear hcz21_2
                              try clear hcz21_3
                              try clear hcz22_0
                              try clear hcz22_1
                              try clear hcz22_2
                              try clear hcz22_3
                              try clear hcz23_0
                              try clear hcz23_1
                              try clear hcz23_2
                              try clear hcz23_3
                              try clear hcz27_0
                              try clear hcz27_1
                              try clear hcz27_2
                              try clear hcz27_3
                              try clear hcz29_0
                              try clear hcz29_1
                              try clear hcz29_2
                              try clear hcz29_3
                              try clear hcz30_0
                              try clear hcz30_1
                              try clear hcz30_2
                              try clear hcz30_3
                              try clear hfz12_0
                              try clear hfz12_1
                              try clear hfz12_2
                              try clear hfz12_3
                              try clear hfz20_0
                              try clear hfz20_1
                              try clear hfz20_2
                              try clear hfz20_3
                              try clear hfz21_0
                              try clear hfz21_1
                              try clear hfz21_2
                              try clear hfz21_3
                              try clear hfz22_0
                              try clear hfz22_1
                              try clear hfz22_2
                              try clear hfz22_3
                              try clear hfz23_0
                              try clear hfz23_1
                              try clear hfz23_2
                              try clear hfz23_3
                              try clear hfz27_0
                              try clear hfz27_1
                              try clear hfz27_2
                              try clear hfz27_3
                              try clear hfz29_0
                              try clear hfz29_1
                              try clear hfz29_2
                              try clear hfz29_3
                              try clear hfz30_0
                              try clear hfz30_1
                              try clear hfz30_2
                              try clear hfz30_3
                              try clear hx104_0
                              try clear hx104_1
                              try clear hx104_2
                              try clear hx104_3
                              try clear p1
                              try clear p10
                              try clear p104
                              try clear p2
                              try clear p6
                              try clear q1
                              try clear q10
                              try clear q104
                              obtain ⟨x9_5, rfl, HA, HK5, BK105, HB⟩ := hrel
                              cases gk with
                              | zero => exact absurd HA.out (by simp [spec_AreFaults.l1])
                              | succ k5 =>
                                have H := HA.out
                                clear HA
                                simp only [spec_AreFaults.l1] at H
                                by_cases c32 : x9_5 < x7_2
                                · rw [if_pos c32] at H
                                  have c32b0 : decide (x9_5 < x7_2) = true := decide_eq_true c32
                                  clear c32
                                  by_cases c33 : 0 ≤ x9_5
                                  · rw [if_pos c33] at H
                                    have c33b0 : decide (0 ≤ x9_5) = true := decide_eq_true c33
                                    clear c33
                                    by_cases c34 : x9_5 < (l2.length : Int)
                                    · rw [if_pos c34] at H
                                      have c34b0 : decide (x9_5 < (l2.length : Int)) = true := decide_eq_true c34
                                      clear c34
                                      by_cases c35 : ((rd_T54 l2 x9_5).f0) = ((rd_T54 l2 x7_2).f0)
                                      · rw [if_pos c35] at H
                                        have c35b0 : (((rd_T54 l2 x9_5).f0) == ((rd_T54 l2 x7_2).f0)) = true := beq_iff_eq.mpr c35
                                        have c35b1 : (((rd_T54 l2 x9_5).f0) != ((rd_T54 l2 x7_2).f0)) = false := bne_eq_false_iff_eq.mpr c35
                                        clear c35
                                        by_cases c36 : ((rd_T54 l2 x9_5).f1) = ((rd_T54 l2 x7_2).f1)
                                        · rw [if_pos c36] at H
                                          have c36b0 : (((rd_T54 l2 x9_5).f1) == ((rd_T54 l2 x7_2).f1)) = true := beq_iff_eq.mpr c36
                                          have c36b1 : (((rd_T54 l2 x9_5).f1) != ((rd_T54 l2 x7_2).f1)) = false := bne_eq_false_iff_eq.mpr c36
                                          clear c36
                                          obtain rfl := Option.some.inj H
                                          have p110 : 0 ≤ (x9_5 : Int) := of_decide_eq_true (by first | (with_reducible assumption) | assumption)
                                          have q110 : x9_5 < (l2.length : Int) := of_decide_eq_true (by first | (with_reducible assumption) | assumption)
                                          obtain ⟨ad110, e110, hx110_0, hx110_1, hx110_2, hx110_3⟩ := at_T54 HR2.out x9_5 p110 q110
                                          obtain rfl : ad104 = ad110 := (by injection e110)
                                          replace hx110_0 := (HB.out.cell (World.block_lt_of_cell? w _ hx110_0)).trans hx110_0
                                          replace hx110_1 := (HB.out.cell (World.block_lt_of_cell? w _ hx110_1)).trans hx110_1
                                          replace hx110_2 := (HB.out.cell (World.block_lt_of_cell? w _ hx110_2)).trans hx110_2
                                          replace hx110_3 := (HB.out.cell (World.block_lt_of_cell? w _ hx110_3)).trans hx110_3
                                          replace p110 := eq_true p110
                                          replace q110 := eq_true q110
                                          have hcz37_0 : wr.cell? ⟨gb105, 0, none⟩ = some (.int .i64 ((rd_T54 l2 x7_2).f0)) := (blk_cell BK105.out 0).trans rfl
                                          have hcz37_1 : wr.cell? ⟨gb105, 1, none⟩ = some (.int .i64 ((rd_T54 l2 x7_2).f1)) := (blk_cell BK105.out 1).trans rfl
                                          have hcz37_2 : wr.cell? ⟨gb105, 2, none⟩ = some (.int .i64 ((rd_T54 l2 x7_2).f2)) := (blk_cell BK105.out 2).trans rfl
                                          have hcz37_3 : wr.cell? ⟨gb105, 3, none⟩ = some (.int .i64 ((rd_T54 l2 x7_2).f3)) := (blk_cell BK105.out 3).trans rfl
                                          have hfz37_0 := blk_frozen BK105.out 0
                                          have hfz37_1 := blk_frozen BK105.out 1
                                          have hfz37_2 := blk_frozen BK105.out 2
                                          have hfz37_3 := blk_frozen BK105.out 3
                                          have p111 : 0 ≤ (x9_5 : Int) := of_decide_eq_true (by first | (with_reducible assumption) | assumption)
                                          have q111 : x9_5 < (l2.length : Int) := of_decide_eq_true (by first | (with_reducible assumption) | assumption)
                                          obtain ⟨ad111, e111, hx111_0, hx111_1, hx111_2, hx111_3⟩ := at_T54 HR2.out x9_5 p111 q111
                                          obtain rfl : ad104 = ad111 := (by injection e111)
                                          replace hx111_0 := (HB.out.cell (World.block_lt_of_cell? w _ hx111_0)).trans hx111_0
                                          replace hx111_1 := (HB.out.cell (World.block_lt_of_cell? w _ hx111_1)).trans hx111_1
                                          replace hx111_2 := (HB.out.cell (World.block_lt_of_cell? w _ hx111_2)).trans hx111_2
                                          replace hx111_3 := (HB.out.cell (World.block_lt_of_cell? w _ hx111_3)).trans hx111_3
                                          replace p111 := eq_true p111
                                          replace q111 := eq_true q111
                                          go_wp2
                                          repeat (go_quiet (fail); try go_wp2)
                                          go_ret
                                          exact ⟨by first | rfl | (simp [errW_none, errW_some] <;> rfl) | (simp [*, errW_none, errW_some] <;> rfl), by repeat (first | (with_reducible first | exact HB.out | apply below_alloc | apply pw_below_drewN | apply below_drew1 | refine below_set ?_ GE105.out) | exact HB.out)⟩
                                        · rw [if_neg c36] at H
                                          have c36b0 : (((rd_T54 l2 x9_5).f1) == ((rd_T54 l2 x7_2).f1)) = false := beq_eq_false_iff_ne.mpr c36
                                          have c36b1 : (((rd_T54 l2 x9_5).f1) != ((rd_T54 l2 x7_2).f1)) = true := bne_iff_ne.mpr c36
                                          have H' := Aside0.mk H
                                          clear H
                                          have p110 : 0 ≤ (x9_5 : Int) := of_decide_eq_true (by first | (with_reducible assumption) | assumption)
                                          have q110 : x9_5 < (l2.length : Int) := of_decide_eq_true (by first | (with_reducible assumption) | assumption)
                                          obtain ⟨ad110, e110, hx110_0, hx110_1, hx110_2, hx110_3⟩ := at_T54 HR2.out x9_5 p110 q110
                                          obtain rfl : ad104 = ad110 := (by injection e110)
                                          replace hx110_0 := (HB.out.cell (World.block_lt_of_cell? w _ hx110_0)).trans hx110_0
                                          replace hx110_1 := (HB.out.cell (World.block_lt_of_cell? w _ hx110_1)).trans hx110_1
                                          replace hx110_2 := (HB.out.cell (World.block_lt_of_cell? w _ hx110_2)).trans hx110_2
                                          replace hx110_3 := (HB.out.cell (World.block_lt_of_cell? w _ hx110_3)).trans hx110_3
                                          replace p110 := eq_true p110
                                          replace q110 := eq_true q110
                                          have hcz38_0 : wr.cell? ⟨gb105, 0, none⟩ = some (.int .i64 ((rd_T54 l2 x7_2).f0)) := (blk_cell BK105.out 0).trans rfl
                                          have hcz38_1 : wr.cell? ⟨gb105, 1, none⟩ = some (.int .i64 ((rd_T54 l2 x7_2).f1)) := (blk_cell BK105.out 1).trans rfl
                                          have hcz38_2 : wr.cell? ⟨gb105, 2, none⟩ = some (.int .i64 ((rd_T54 l2 x7_2).f2)) := (blk_cell BK105.out 2).trans rfl
                                          have hcz38_3 : wr.cell? ⟨gb105, 3, none⟩ = some (.int .i64 ((rd_T54 l2 x7_2).f3)) := (blk_cell BK105.out 3).trans rfl
                                          have hfz38_0 := blk_frozen BK105.out 0
                                          have hfz38_1 := blk_frozen BK105.out 1
                                          have hfz38_2 := blk_frozen BK105.out 2
                                          have hfz38_3 := blk_frozen BK105.out 3
                                          have p111 : 0 ≤ (x9_5 : Int) := of_decide_eq_true (by first | (with_reducible assumption) | assumption)
                                          have q111 : x9_5 < (l2.length : Int) := of_decide_eq_true (by first | (with_reducible assumption) | assumption)
                                          obtain ⟨ad111, e111, hx111_0, hx111_1, hx111_2, hx111_3⟩ := at_T54 HR2.out x9_5 p111 q111
                                          obtain rfl : ad104 = ad111 := (by injection e111)
                                          replace hx111_0 := (HB.out.cell (World.block_lt_of_cell? w _ hx111_0)).trans hx111_0
                                          replace hx111_1 := (HB.out.cell (World.block_lt_of_cell? w _ hx111_1)).trans hx111_1
                                          replace hx111_2 := (HB.out.cell (World.block_lt_of_cell? w _ hx111_2)).trans hx111_2
                                          replace hx111_3 := (HB.out.cell (World.block_lt_of_cell? w _ hx111_3)).trans hx111_3
                                          replace p111 := eq_true p111
                                          replace q111 := eq_true q111
                                          go_wp2
                                          repeat (go_quiet (fail); try go_wp2)
                                          go_roundg k5
                                          case measure => have := HJ3.out; have := HK2.out; have := HJ9.out; have := HJ24.out; have := HK5.out; omega
                                          case rel => exact ⟨(wrap64 (x9_5 + 1)), (by first | rfl | (simp; done) | (simp [*]; done)), H', ⟨by have := HJ3.out; have := HK2.out; have := HJ9.out; have := HJ24.out; have := HK5.out; omega⟩, ⟨by (with_reducible repeat (first | refine blk_drewN ?_ _ | refine blk_drew ?_ | refine blk_alloc ?_ _)); exact BK105.out⟩, ⟨by repeat (first | (with_reducible first | exact HB.out | apply below_alloc | apply pw_below_drewN | apply below_drew1 | refine below_set ?_ GE105.out) | exact HB.out)⟩⟩
                                      · rw [if_neg c35] at H
                                        have c35b0 : (((rd_T54 l2 x9_5).f0) == ((rd_T54 l2 x7_2).f0)) = false := beq_eq_false_iff_ne.mpr c35
                                        have c35b1 : (((rd_T54 l2 x9_5).f0) != ((rd_T54 l2 x7_2).f0)) = true := bne_iff_ne.mpr c35
                                        have H' := Aside0.mk H
                                        clear H
                                        have p110 : 0 ≤ (x9_5 : Int) := of_decide_eq_true (by first | (with_reducible assumption) | assumption)
                                        have q110 : x9_5 < (l2.length : Int) := of_decide_eq_true (by first | (with_reducible assumption) | assumption)
                                        obtain ⟨ad110, e110, hx110_0, hx110_1, hx110_2, hx110_3⟩ := at_T54 HR2.out x9_5 p110 q110
                                        obtain rfl : ad104 = ad110 := (by injection e110)
                                        replace hx110_0 := (HB.out.cell (World.block_lt_of_cell? w _ hx110_0)).trans hx110_0
                                        replace hx110_1 := (HB.out.cell (World.block_lt_of_cell? w _ hx110_1)).trans hx110_1
                                        replace hx110_2 := (HB.out.cell (World.block_lt_of_cell? w _ hx110_2)).trans hx110_2
                                        replace hx110_3 := (HB.out.cell (World.block_lt_of_cell? w _ hx110_3)).trans hx110_3
                                        replace p110 := eq_true p110
                                        replace q110 := eq_true q110
                                        have hcz39_0 : wr.cell? ⟨gb105, 0, none⟩ = some (.int .i64 ((rd_T54 l2 x7_2).f0)) := (blk_cell BK105.out 0).trans rfl
                                        have hcz39_1 : wr.cell? ⟨gb105, 1, none⟩ = some (.int .i64 ((rd_T54 l2 x7_2).f1)) := (blk_cell BK105.out 1).trans rfl
                                        have hcz39_2 : wr.cell? ⟨gb105, 2, none⟩ = some (.int .i64 ((rd_T54 l2 x7_2).f2)) := (blk_cell BK105.out 2).trans rfl
                                        have hcz39_3 : wr.cell? ⟨gb105, 3, none⟩ = some (.int .i64 ((rd_T54 l2 x7_2).f3)) := (blk_cell BK105.out 3).trans rfl
                                        have hfz39_0 := blk_frozen BK105.out 0
                                        have hfz39_1 := blk_frozen BK105.out 1
                                        have hfz39_2 := blk_frozen BK105.out 2
                                        have hfz39_3 := blk_frozen BK105.out 3
                                        go_wp2
                                        repeat (go_quiet (fail); try go_wp2)
                                        go_roundg k5
                                        case measure => have := HJ3.out; have := HK2.out; have := HJ9.out; have := HJ24.out; have := HK5.out; omega
                                        case rel => exact ⟨(wrap64 (x9_5 + 1)), (by first | rfl | (simp; done) | (simp [*]; done)), H', ⟨by have := HJ3.out; have := HK2.out; have := HJ9.out; have := HJ24.out; have := HK5.out; omega⟩, ⟨by (with_reducible repeat (first | refine blk_drewN ?_ _ | refine blk_drew ?_ | refine blk_alloc ?_ _)); exact BK105.out⟩, ⟨by repeat (first | (with_reducible first | exact HB.out | apply below_alloc | apply pw_below_drewN | apply below_drew1 | refine below_set ?_ GE105.out) | exact HB.out)⟩⟩
                                    · rw [if_neg c34] at H
                                      exact absurd H (by simp)
                                  · rw [if_neg c33] at H
                                    exact absurd H (by simp)
                                · rw [if_neg c32] at H
                                  have c32b0 : decide (x9_5 < x7_2) = false := decide_eq_false c32
                                  clear c32
                                  have H' := Aside0.mk H
                                  clear H
                                  go_wp2
                                  repeat (go_quiet (fail); try go_wp2)
                                  go_roundg k5
                                  case measure => have := HJ3.out; have := HK2.out; have := HJ9.out; have := HJ24.out; have := HK5.out; omega
                                  case rel => exact ⟨(wrap64 (x7_2 + 1)), (by first | rfl | (simp; done) | (simp [*]; done)), H', ⟨by have := HJ3.out; have := HK2.out; have := HJ9.out; have := HJ24.out; have := HK5.out; omega⟩, ⟨by repeat (first | (with_reducible first | exact HB.out | apply below_alloc | apply pw_below_drewN | apply below_drew1 | refine below_set ?_ GE105.out) | exact HB.out)⟩⟩
              · rw [if_neg c9] at H
                exact absurd H (by simp)
            · rw [if_neg c8] at H
              have c8b0 : decide (x7_2 < (l2.length : Int)) = false := decide_eq_false c8
              clear c8
              obtain rfl := Option.some.inj H
              go_wp2
              repeat (go_quiet (fail); try go_wp2)
              go_ret
              exact ⟨by first | rfl | (simp [errW_none, errW_some] <;> rfl) | (simp [*, errW_none, errW_some] <;> rfl), by repeat (first | (with_reducible first | exact HB.out | apply below_alloc | apply pw_below_drewN | apply below_drew1) | exact HB.out)⟩

end Go.Proofs.Ythfegojffgblmaa.X
