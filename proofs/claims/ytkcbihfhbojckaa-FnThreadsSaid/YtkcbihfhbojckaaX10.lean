-- Written by this session's own program (wip/xprint.py) out of the translation; Lean checks it.
import Derived.Test.YtkcbihfhbojckaaX0
import Derived.Test.YtkcbihfhbojckaaX2
import Derived.Test.YtkcbihfhbojckaaX3
import Derived.Test.YtkcbihfhbojckaaX5
import Derived.Test.YtkcbihfhbojckaaX7
import Derived.Test.YtkcbihfhbojckaaX8
import Derived.Test.YtkcbihfhbojckaaX9
namespace Go.Proofs.Ytkcbihfhbojckaa.X
open Go.RowKit Go.Proofs.YtkcbihfhbojckaaW.PrintWords Go.Proofs.YtkcbihfhbojckaaW.PrintLast Go.Proofs.YtkcbihfhbojckaaW.PrintMore
attribute [local go_sem] max2_int min2_int max_two min_two max_three min_three max_four min_four   -- for this text's walks alone
set_option linter.unusedVariables false
set_option linter.unusedSimpArgs false

/-! ### spec_l16Length: function 50 -/
def spec_l16Length.l0 : Nat → List Int → List (S69) → Int → Int → Int → Option (Int)
  | 0, _, _, _, _, _ => none
  | k + 1, x0, x1, x2, x7, x8 => if x8 < (x1.length : Int) then (if 0 ≤ x8 then (if 0 ≤ ((rd_T69 x1 x8).f1) then (if ((rd_T69 x1 x8).f1) < (x0.length : Int) then (if 0 ≤ (wrap64 (x8 - 1)) then (if (wrap64 (x8 - 1)) < (x1.length : Int) then (if 0 ≤ ((rd_T69 x1 (wrap64 (x8 - 1))).f1) then (if ((rd_T69 x1 (wrap64 (x8 - 1))).f1) < (x0.length : Int) then (if ((rd_T69 x1 x8).f0) = ((rd_T69 x1 (wrap64 (x8 - 1))).f0) then (spec_l16Length.l0 k x0 x1 x2 (wrap64 (x7 + (mx (wrap64 ((rd x0 ((rd_T69 x1 x8).f1)) - (rd x0 ((rd_T69 x1 (wrap64 (x8 - 1))).f1)))) (wrap64 (-(wrap64 ((rd x0 ((rd_T69 x1 x8).f1)) - (rd x0 ((rd_T69 x1 (wrap64 (x8 - 1))).f1))))))))) (wrap64 (x8 + 1))) else (spec_l16Length.l0 k x0 x1 x2 (wrap64 (x7 + x2)) (wrap64 (x8 + 1)))) else (none)) else (none)) else (none)) else (none)) else (none)) else (none)) else (none)) else (some x7)
def spec_l16Length.f (k : Nat) (l0 : List Int) (l1 : List (S69)) (a2 : Int) : Option (Int) := spec_l16Length.l0 k l0 l1 a2 0 1
theorem spec_l16Length.mono_l : ∀ k, (∀ y0 y1 y2 y3 y4, LeO (spec_l16Length.l0 k y0 y1 y2 y3 y4) (spec_l16Length.l0 (k + 1) y0 y1 y2 y3 y4))
  | 0 => fun _ _ _ _ _ r h => by simp [spec_l16Length.l0] at h
  | k + 1 => by
    have ih0 := spec_l16Length.mono_l k
    · intro y0 y1 y2 y3 y4
      unfold spec_l16Length.l0
      repeat' first
      | (with_reducible exact ih0 _ _ _ _ _)
      | (with_reducible exact LeO.refl _)
      | (with_reducible exact LeO.none _)
      | (with_reducible refine LeO.ite ?_ ?_)
      | (with_reducible refine LeO.bind ?_ (fun _ => ?_))
      | exact ih0 _ _ _ _ _
      | exact LeO.none _
      | refine LeO.ite ?_ ?_
      | refine LeO.bind ?_ (fun _ => ?_)
theorem spec_l16Length.mono : ∀ a0 a1 a2 k, LeO (spec_l16Length.f k a0 a1 a2) (spec_l16Length.f (k + 1) a0 a1 a2) := by
  intro a0 a1 a2 k
  have ih0 := spec_l16Length.mono_l k
  unfold spec_l16Length.f
  repeat' first
      | (with_reducible exact ih0 _ _ _ _ _)
      | (with_reducible exact LeO.refl _)
      | (with_reducible exact LeO.none _)
      | (with_reducible refine LeO.ite ?_ ?_)
      | (with_reducible refine LeO.bind ?_ (fun _ => ?_))
      | exact ih0 _ _ _ _ _
      | exact LeO.none _
      | refine LeO.ite ?_ ?_
      | refine LeO.bind ?_ (fun _ => ?_)
set_option maxHeartbeats 8000000 in
set_option maxRecDepth 100000 in
theorem spec_l16Length.calls (k : Nat) (A0 : Option Addr) (c0 : Nat) (l0 : List Int) (A1 : Option Addr) (c1 : Nat) (l1 : List (S69)) (a2 : Int) (r : Int) (w : World) (hr0 : Kd.C (Kd.int .i64) w A0 l0.length l0) (hc0 : l0.length ≤ c0) (hr1 : Kd.C k69 w A1 l1.length l1) (hc1 : l1.length ≤ c1) (h : spec_l16Length.f k l0 l1 a2 = some r) :
    Calls Try.prog 50 #[.slice A0 l0.length c0, .slice A1 l1.length c1, .int .i64 a2] w fun e w' => e = .returned (.int .i64 r) ∧ Below w.heap.size w w' := by
  have HR0 := Aside0.mk hr0
  have HC0 := Aside0.mk hc0
  clear hr0 hc0
  have HR1 := Aside0.mk hr1
  have HC1 := Aside0.mk hc1
  clear hr1 hc1
  have HB := Aside0.mk (Below.refl w.heap.size w)
  have H : (spec_l16Length.l0 k l0 l1 a2 0 1) = some r := h
  clear h
  have H' := Aside0.mk H
  clear H
  go_enter Try.func50, Try.ntmps50
  go_wp2
  repeat (go_quiet (fail); try go_wp2)
  go_loopg [7, 8] k (fun kq v7 v8 w' => ∃ (x7_1 : Int) (x8_1 : Int), v7 = .int .i64 x7_1 ∧ v8 = .int .i64 x8_1 ∧ Aside0 (spec_l16Length.l0 kq l0 l1 a2 x7_1 x8_1 = some r) ∧ Aside0 (kq ≤ k) ∧ Aside0 (Below w.heap.size w w'))
  case atStart => exact ⟨(0), (1), (by first | rfl | (simp; done) | (simp [*]; done)), (by first | rfl | (simp; done) | (simp [*]; done)), H', ⟨Nat.le_refl _⟩, ⟨by repeat (first | (with_reducible first | exact HB.out | apply below_alloc | apply pw_below_drewN | apply below_drew1) | exact HB.out)⟩⟩
  case round =>
    clear H'
    try clear c1
    try clear p2
    obtain ⟨x7_1, x8_1, rfl, rfl, HA, HK1, HB⟩ := hrel
    cases gk with
    | zero => exact absurd HA.out (by simp [spec_l16Length.l0])
    | succ k1 =>
      have H := HA.out
      clear HA
      simp only [spec_l16Length.l0] at H
      by_cases c4 : x8_1 < (l1.length : Int)
      · rw [if_pos c4] at H
        have c4b0 : decide (x8_1 < (l1.length : Int)) = true := decide_eq_true c4
        clear c4
        by_cases c5 : 0 ≤ x8_1
        · rw [if_pos c5] at H
          have c5b0 : decide (0 ≤ x8_1) = true := decide_eq_true c5
          clear c5
          by_cases c6 : 0 ≤ ((rd_T69 l1 x8_1).f1)
          · rw [if_pos c6] at H
            have c6b0 : decide (0 ≤ ((rd_T69 l1 x8_1).f1)) = true := decide_eq_true c6
            clear c6
            by_cases c7 : ((rd_T69 l1 x8_1).f1) < (l0.length : Int)
            · rw [if_pos c7] at H
              have c7b0 : decide (((rd_T69 l1 x8_1).f1) < (l0.length : Int)) = true := decide_eq_true c7
              clear c7
              obtain ⟨ji8, hji8⟩ : ∃ j_ : Int, (wrap64 (x8_1 - 1)) = j_ := ⟨_, rfl⟩
              replace H : (if 0 ≤ (ji8) then (if (ji8) < (l1.length : Int) then (if 0 ≤ ((rd_T69 l1 (ji8)).f1) then (if ((rd_T69 l1 (ji8)).f1) < (l0.length : Int) then (if ((rd_T69 l1 x8_1).f0) = ((rd_T69 l1 (ji8)).f0) then (spec_l16Length.l0 k1 l0 l1 a2 (wrap64 (x7_1 + (mx (wrap64 ((rd l0 ((rd_T69 l1 x8_1).f1)) - (rd l0 ((rd_T69 l1 (ji8)).f1)))) (wrap64 (-(wrap64 ((rd l0 ((rd_T69 l1 x8_1).f1)) - (rd l0 ((rd_T69 l1 (ji8)).f1))))))))) (wrap64 (x8_1 + 1))) else (spec_l16Length.l0 k1 l0 l1 a2 (wrap64 (x7_1 + a2)) (wrap64 (x8_1 + 1)))) else (none)) else (none)) else (none)) else (none)) = some r := by first | (rw [hji8] at H; exact H) | (simp only [hji8] at H ⊢; exact H)
              have hji8w : (IntKind.i64.wrap (x8_1 - 1)) = ji8 := (i64_w _).trans hji8
              by_cases c9 : 0 ≤ (ji8)
              · rw [if_pos c9] at H
                have c9b0 : decide (0 ≤ (ji8)) = true := decide_eq_true c9
                clear c9
                by_cases c10 : (ji8) < (l1.length : Int)
                · rw [if_pos c10] at H
                  have c10b0 : decide ((ji8) < (l1.length : Int)) = true := decide_eq_true c10
                  clear c10
                  by_cases c11 : 0 ≤ ((rd_T69 l1 (ji8)).f1)
                  · rw [if_pos c11] at H
                    have c11b0 : decide (0 ≤ ((rd_T69 l1 (ji8)).f1)) = true := decide_eq_true c11
                    clear c11
                    by_cases c12 : ((rd_T69 l1 (ji8)).f1) < (l0.length : Int)
                    · rw [if_pos c12] at H
                      have c12b0 : decide (((rd_T69 l1 (ji8)).f1) < (l0.length : Int)) = true := decide_eq_true c12
                      clear c12
                      by_cases c13 : ((rd_T69 l1 x8_1).f0) = ((rd_T69 l1 (ji8)).f0)
                      · rw [if_pos c13] at H
                        have c13b0 : (((rd_T69 l1 x8_1).f0) == ((rd_T69 l1 (ji8)).f0)) = true := beq_iff_eq.mpr c13
                        have c13b1 : (((rd_T69 l1 x8_1).f0) != ((rd_T69 l1 (ji8)).f0)) = false := bne_eq_false_iff_eq.mpr c13
                        clear c13
                        obtain ⟨ji14, hji14⟩ : ∃ j_ : Int, (mx (wrap64 ((rd l0 ((rd_T69 l1 x8_1).f1)) - (rd l0 ((rd_T69 l1 (ji8)).f1)))) (wrap64 (-(wrap64 ((rd l0 ((rd_T69 l1 x8_1).f1)) - (rd l0 ((rd_T69 l1 (ji8)).f1))))))) = j_ := ⟨_, rfl⟩
                        replace H : (spec_l16Length.l0 k1 l0 l1 a2 (wrap64 (x7_1 + (ji14))) (wrap64 (x8_1 + 1))) = some r := by first | (rw [hji14] at H; exact H) | (simp only [hji14] at H ⊢; exact H)
                        have hji14_ : (if (wrap64 ((rd l0 ((rd_T69 l1 x8_1).f1)) - (rd l0 ((rd_T69 l1 (ji8)).f1)))) < (wrap64 (-(wrap64 ((rd l0 ((rd_T69 l1 x8_1).f1)) - (rd l0 ((rd_T69 l1 (ji8)).f1)))))) then (wrap64 (-(wrap64 ((rd l0 ((rd_T69 l1 x8_1).f1)) - (rd l0 ((rd_T69 l1 (ji8)).f1)))))) else (wrap64 ((rd l0 ((rd_T69 l1 x8_1).f1)) - (rd l0 ((rd_T69 l1 (ji8)).f1))))) = ji14 := hji14
                        have H' := Aside0.mk H
                        clear H
                        have p367 : 0 ≤ (x8_1 : Int) := of_decide_eq_true (by first | (with_reducible assumption) | assumption)
                        have q367 : x8_1 < (l1.length : Int) := of_decide_eq_true (by first | (with_reducible assumption) | assumption)
                        obtain ⟨ad367, e367, hx367_0, hx367_1, hx367_2⟩ := at_T69 HR1.out x8_1 p367 q367
                        cases e367
                        replace hx367_0 := (HB.out.cell (World.block_lt_of_cell? w _ hx367_0)).trans hx367_0
                        replace hx367_1 := (HB.out.cell (World.block_lt_of_cell? w _ hx367_1)).trans hx367_1
                        replace hx367_2 := (HB.out.cell (World.block_lt_of_cell? w _ hx367_2)).trans hx367_2
                        replace p367 := eq_true p367
                        replace q367 := eq_true q367
                        have p368 : 0 ≤ (((rd_T69 l1 x8_1).f1) : Int) := of_decide_eq_true (by first | (with_reducible assumption) | assumption)
                        have q368 : ((rd_T69 l1 x8_1).f1) < (l0.length : Int) := of_decide_eq_true (by first | (with_reducible assumption) | assumption)
                        obtain ⟨ad368, e368, hx368_0⟩ := Kd.at_int HR0.out ((rd_T69 l1 x8_1).f1) p368 q368
                        cases e368
                        replace hx368_0 := (HB.out.cell (World.block_lt_of_cell? w _ hx368_0)).trans hx368_0
                        replace p368 := eq_true p368
                        replace q368 := eq_true q368
                        have p369 : 0 ≤ ((ji8) : Int) := of_decide_eq_true (by first | (with_reducible assumption) | assumption)
                        have q369 : (ji8) < (l1.length : Int) := of_decide_eq_true (by first | (with_reducible assumption) | assumption)
                        obtain ⟨ad369, e369, hx369_0, hx369_1, hx369_2⟩ := at_T69 HR1.out (ji8) p369 q369
                        obtain rfl : ad367 = ad369 := (by injection e369)
                        replace hx369_0 := (HB.out.cell (World.block_lt_of_cell? w _ hx369_0)).trans hx369_0
                        replace hx369_1 := (HB.out.cell (World.block_lt_of_cell? w _ hx369_1)).trans hx369_1
                        replace hx369_2 := (HB.out.cell (World.block_lt_of_cell? w _ hx369_2)).trans hx369_2
                        replace p369 := eq_true p369
                        replace q369 := eq_true q369
                        have p370 : 0 ≤ (((rd_T69 l1 (ji8)).f1) : Int) := of_decide_eq_true (by first | (with_reducible assumption) | assumption)
                        have q370 : ((rd_T69 l1 (ji8)).f1) < (l0.length : Int) := of_decide_eq_true (by first | (with_reducible assumption) | assumption)
                        obtain ⟨ad370, e370, hx370_0⟩ := Kd.at_int HR0.out ((rd_T69 l1 (ji8)).f1) p370 q370
                        obtain rfl : ad368 = ad370 := (by injection e370)
                        replace hx370_0 := (HB.out.cell (World.block_lt_of_cell? w _ hx370_0)).trans hx370_0
                        replace p370 := eq_true p370
                        replace q370 := eq_true q370
                        have p371 : 0 ≤ (x8_1 : Int) := of_decide_eq_true (by first | (with_reducible assumption) | assumption)
                        have q371 : x8_1 < (l1.length : Int) := of_decide_eq_true (by first | (with_reducible assumption) | assumption)
                        obtain ⟨ad371, e371, hx371_0, hx371_1, hx371_2⟩ := at_T69 HR1.out x8_1 p371 q371
                        obtain rfl : ad367 = ad371 := (by injection e371)
                        replace hx371_0 := (HB.out.cell (World.block_lt_of_cell? w _ hx371_0)).trans hx371_0
                        replace hx371_1 := (HB.out.cell (World.block_lt_of_cell? w _ hx371_1)).trans hx371_1
                        replace hx371_2 := (HB.out.cell (World.block_lt_of_cell? w _ hx371_2)).trans hx371_2
                        replace p371 := eq_true p371
                        replace q371 := eq_true q371
                        have p372 : 0 ≤ ((ji8) : Int) := of_decide_eq_true (by first | (with_reducible assumption) | assumption)
                        have q372 : (ji8) < (l1.length : Int) := of_decide_eq_true (by first | (with_reducible assumption) | assumption)
                        obtain ⟨ad372, e372, hx372_0, hx372_1, hx372_2⟩ := at_T69 HR1.out (ji8) p372 q372
                        obtain rfl : ad367 = ad372 := (by injection e372)
                        replace hx372_0 := (HB.out.cell (World.block_lt_of_cell? w _ hx372_0)).trans hx372_0
                        replace hx372_1 := (HB.out.cell (World.block_lt_of_cell? w _ hx372_1)).trans hx372_1
                        replace hx372_2 := (HB.out.cell (World.block_lt_of_cell? w _ hx372_2)).trans hx372_2
                        replace p372 := eq_true p372
                        replace q372 := eq_true q372
                        go_wp2
                        repeat (go_quiet (fail); try go_wp2)
                        go_roundg k1
                        case measure => have := HK1.out; omega
                        case rel => exact ⟨(wrap64 (x7_1 + (ji14))), (wrap64 (x8_1 + 1)), (by first | rfl | (simp; done) | (simp only [← hji14] <;> (first | rfl | simp)) | (simp [*]; done)), (by first | rfl | (simp; done) | (simp [*]; done)), H', ⟨by have := HK1.out; omega⟩, ⟨by repeat (first | (with_reducible first | exact HB.out | apply below_alloc | apply pw_below_drewN | apply below_drew1) | exact HB.out)⟩⟩
                      · rw [if_neg c13] at H
                        have c13b0 : (((rd_T69 l1 x8_1).f0) == ((rd_T69 l1 (ji8)).f0)) = false := beq_eq_false_iff_ne.mpr c13
                        have c13b1 : (((rd_T69 l1 x8_1).f0) != ((rd_T69 l1 (ji8)).f0)) = true := bne_iff_ne.mpr c13
                        have H' := Aside0.mk H
                        clear H
                        have p367 : 0 ≤ (x8_1 : Int) := of_decide_eq_true (by first | (with_reducible assumption) | assumption)
                        have q367 : x8_1 < (l1.length : Int) := of_decide_eq_true (by first | (with_reducible assumption) | assumption)
                        obtain ⟨ad367, e367, hx367_0, hx367_1, hx367_2⟩ := at_T69 HR1.out x8_1 p367 q367
                        cases e367
                        replace hx367_0 := (HB.out.cell (World.block_lt_of_cell? w _ hx367_0)).trans hx367_0
                        replace hx367_1 := (HB.out.cell (World.block_lt_of_cell? w _ hx367_1)).trans hx367_1
                        replace hx367_2 := (HB.out.cell (World.block_lt_of_cell? w _ hx367_2)).trans hx367_2
                        replace p367 := eq_true p367
                        replace q367 := eq_true q367
                        have p368 : 0 ≤ (((rd_T69 l1 x8_1).f1) : Int) := of_decide_eq_true (by first | (with_reducible assumption) | assumption)
                        have q368 : ((rd_T69 l1 x8_1).f1) < (l0.length : Int) := of_decide_eq_true (by first | (with_reducible assumption) | assumption)
                        obtain ⟨ad368, e368, hx368_0⟩ := Kd.at_int HR0.out ((rd_T69 l1 x8_1).f1) p368 q368
                        cases e368
                        replace hx368_0 := (HB.out.cell (World.block_lt_of_cell? w _ hx368_0)).trans hx368_0
                        replace p368 := eq_true p368
                        replace q368 := eq_true q368
                        have p369 : 0 ≤ ((ji8) : Int) := of_decide_eq_true (by first | (with_reducible assumption) | assumption)
                        have q369 : (ji8) < (l1.length : Int) := of_decide_eq_true (by first | (with_reducible assumption) | assumption)
                        obtain ⟨ad369, e369, hx369_0, hx369_1, hx369_2⟩ := at_T69 HR1.out (ji8) p369 q369
                        obtain rfl : ad367 = ad369 := (by injection e369)
                        replace hx369_0 := (HB.out.cell (World.block_lt_of_cell? w _ hx369_0)).trans hx369_0
                        replace hx369_1 := (HB.out.cell (World.block_lt_of_cell? w _ hx369_1)).trans hx369_1
                        replace hx369_2 := (HB.out.cell (World.block_lt_of_cell? w _ hx369_2)).trans hx369_2
                        replace p369 := eq_true p369
                        replace q369 := eq_true q369
                        have p370 : 0 ≤ (((rd_T69 l1 (ji8)).f1) : Int) := of_decide_eq_true (by first | (with_reducible assumption) | assumption)
                        have q370 : ((rd_T69 l1 (ji8)).f1) < (l0.length : Int) := of_decide_eq_true (by first | (with_reducible assumption) | assumption)
                        obtain ⟨ad370, e370, hx370_0⟩ := Kd.at_int HR0.out ((rd_T69 l1 (ji8)).f1) p370 q370
                        obtain rfl : ad368 = ad370 := (by injection e370)
                        replace hx370_0 := (HB.out.cell (World.block_lt_of_cell? w _ hx370_0)).trans hx370_0
                        replace p370 := eq_true p370
                        replace q370 := eq_true q370
                        have p371 : 0 ≤ (x8_1 : Int) := of_decide_eq_true (by first | (with_reducible assumption) | assumption)
                        have q371 : x8_1 < (l1.length : Int) := of_decide_eq_true (by first | (with_reducible assumption) | assumption)
                        obtain ⟨ad371, e371, hx371_0, hx371_1, hx371_2⟩ := at_T69 HR1.out x8_1 p371 q371
                        obtain rfl : ad367 = ad371 := (by injection e371)
                        replace hx371_0 := (HB.out.cell (World.block_lt_of_cell? w _ hx371_0)).trans hx371_0
                        replace hx371_1 := (HB.out.cell (World.block_lt_of_cell? w _ hx371_1)).trans hx371_1
                        replace hx371_2 := (HB.out.cell (World.block_lt_of_cell? w _ hx371_2)).trans hx371_2
                        replace p371 := eq_true p371
                        replace q371 := eq_true q371
                        have p372 : 0 ≤ ((ji8) : Int) := of_decide_eq_true (by first | (with_reducible assumption) | assumption)
                        have q372 : (ji8) < (l1.length : Int) := of_decide_eq_true (by first | (with_reducible assumption) | assumption)
                        obtain ⟨ad372, e372, hx372_0, hx372_1, hx372_2⟩ := at_T69 HR1.out (ji8) p372 q372
                        obtain rfl : ad367 = ad372 := (by injection e372)
                        replace hx372_0 := (HB.out.cell (World.block_lt_of_cell? w _ hx372_0)).trans hx372_0
                        replace hx372_1 := (HB.out.cell (World.block_lt_of_cell? w _ hx372_1)).trans hx372_1
                        replace hx372_2 := (HB.out.cell (World.block_lt_of_cell? w _ hx372_2)).trans hx372_2
                        replace p372 := eq_true p372
                        replace q372 := eq_true q372
                        go_wp2
                        repeat (go_quiet (fail); try go_wp2)
                        go_roundg k1
                        case measure => have := HK1.out; omega
                        case rel => exact ⟨(wrap64 (x7_1 + a2)), (wrap64 (x8_1 + 1)), (by first | rfl | (simp; done) | (simp [*]; done)), (by first | rfl | (simp; done) | (simp [*]; done)), H', ⟨by have := HK1.out; omega⟩, ⟨by repeat (first | (with_reducible first | exact HB.out | apply below_alloc | apply pw_below_drewN | apply below_drew1) | exact HB.out)⟩⟩
                    · rw [if_neg c12] at H
                      exact absurd H (by simp)
                  · rw [if_neg c11] at H
                    exact absurd H (by simp)
                · rw [if_neg c10] at H
                  exact absurd H (by simp)
              · rw [if_neg c9] at H
                exact absurd H (by simp)
            · rw [if_neg c7] at H
              exact absurd H (by simp)
          · rw [if_neg c6] at H
            exact absurd H (by simp)
        · rw [if_neg c5] at H
          exact absurd H (by simp)
      · rw [if_neg c4] at H
        have c4b0 : decide (x8_1 < (l1.length : Int)) = false := decide_eq_false c4
        clear c4
        obtain rfl := Option.some.inj H
        go_wp2
        repeat (go_quiet (fail); try go_wp2)
        go_ret
        exact ⟨by first | rfl | (simp [errW_none, errW_some] <;> rfl) | (simp [*, errW_none, errW_some] <;> rfl), by repeat (first | (with_reducible first | exact HB.out | apply below_alloc | apply pw_below_drewN | apply below_drew1) | exact HB.out)⟩

/-! ### spec_PathLength: function 24 -/
def spec_PathLength.j0 : Nat → List Int → Int → List (S69) → Int → Int → Bool → Option (Int × Int)
  | 0, _, _, _, _, _, _ => none
  | k + 1, x0, x1, x2, x3, x10, x13 => if x13 = true then (some (0, 2)) else (if (Int.tmod x10 2) = 1 then (some (0, 5)) else ((spec_IsThreadPath.f k x10 x1 x2).bind fun t376 => (if t376 = true then ((spec_l16Length.f k x0 x2 x3).bind fun t377 => (some (t377, 0))) else (some (0, 2)))))
def spec_PathLength.f (k : Nat) (l0 : List Int) (a1 : Int) (l2 : List (S69)) (a3 : Int) : Option (Int × Int) := (spec_AreHoles.f k l0).bind fun t373 => (if t373 = true then ((spec_l16Fits.f (l0.length : Int) a1).bind fun t374 => (if t374 = true then ((spec_l01In.f a3 0 1000000000).bind fun t375 => (spec_PathLength.j0 k l0 a1 l2 a3 (l0.length : Int) (!t375))) else (spec_PathLength.j0 k l0 a1 l2 a3 (l0.length : Int) true))) else (spec_PathLength.j0 k l0 a1 l2 a3 (l0.length : Int) true))
theorem spec_PathLength.mono_l : ∀ k, (∀ y0 y1 y2 y3 y4 y5, LeO (spec_PathLength.j0 k y0 y1 y2 y3 y4 y5) (spec_PathLength.j0 (k + 1) y0 y1 y2 y3 y4 y5))
  | 0 => fun _ _ _ _ _ _ r h => by simp [spec_PathLength.j0] at h
  | k + 1 => by
    have ih0 := spec_PathLength.mono_l k
    · intro y0 y1 y2 y3 y4 y5
      unfold spec_PathLength.j0
      repeat' first
      | (with_reducible exact ih0 _ _ _ _ _ _)
      | (with_reducible exact spec_AreHoles.mono _ _)
      | (with_reducible exact spec_IsThreadPath.mono _ _ _ _)
      | (with_reducible exact spec_l16Length.mono _ _ _ _)
      | (with_reducible exact LeO.refl _)
      | (with_reducible exact LeO.none _)
      | (with_reducible refine LeO.ite ?_ ?_)
      | (with_reducible refine LeO.bind ?_ (fun _ => ?_))
      | exact ih0 _ _ _ _ _ _
      | exact spec_AreHoles.mono _ _
      | exact spec_IsThreadPath.mono _ _ _ _
      | exact spec_l16Length.mono _ _ _ _
      | exact LeO.none _
      | refine LeO.ite ?_ ?_
      | refine LeO.bind ?_ (fun _ => ?_)
theorem spec_PathLength.mono : ∀ a0 a1 a2 a3 k, LeO (spec_PathLength.f k a0 a1 a2 a3) (spec_PathLength.f (k + 1) a0 a1 a2 a3) := by
  intro a0 a1 a2 a3 k
  have ih0 := spec_PathLength.mono_l k
  unfold spec_PathLength.f
  repeat' first
      | (with_reducible exact ih0 _ _ _ _ _ _)
      | (with_reducible exact spec_AreHoles.mono _ _)
      | (with_reducible exact spec_IsThreadPath.mono _ _ _ _)
      | (with_reducible exact spec_l16Length.mono _ _ _ _)
      | (with_reducible exact LeO.refl _)
      | (with_reducible exact LeO.none _)
      | (with_reducible refine LeO.ite ?_ ?_)
      | (with_reducible refine LeO.bind ?_ (fun _ => ?_))
      | exact ih0 _ _ _ _ _ _
      | exact spec_AreHoles.mono _ _
      | exact spec_IsThreadPath.mono _ _ _ _
      | exact spec_l16Length.mono _ _ _ _
      | exact LeO.none _
      | refine LeO.ite ?_ ?_
      | refine LeO.bind ?_ (fun _ => ?_)
set_option maxHeartbeats 8000000 in
set_option maxRecDepth 100000 in
theorem spec_PathLength.calls (k : Nat) (A0 : Option Addr) (c0 : Nat) (l0 : List Int) (a1 : Int) (A2 : Option Addr) (c2 : Nat) (l2 : List (S69)) (a3 : Int) (r1 : Int) (r2 : Int) (w : World) (hr0 : Kd.C (Kd.int .i64) w A0 l0.length l0) (hc0 : l0.length ≤ c0) (hr2 : Kd.C k69 w A2 l2.length l2) (hc2 : l2.length ≤ c2) (h : spec_PathLength.f k l0 a1 l2 a3 = some (r1, r2)) :
    Calls Try.prog 24 #[.slice A0 l0.length c0, .int .i64 a1, .slice A2 l2.length c2, .int .i64 a3] w fun e w' => e = .returned (.tuple #[.int .i64 r1, .int .i64 r2]) ∧ Below w.heap.size w w' := by
  have HR0 := Aside0.mk hr0
  have HC0 := Aside0.mk hc0
  clear hr0 hc0
  have HR2 := Aside0.mk hr2
  have HC2 := Aside0.mk hc2
  clear hr2 hc2
  have HB := Aside0.mk (Below.refl w.heap.size w)
  have H : ((spec_AreHoles.f k l0).bind fun t373 => (if t373 = true then ((spec_l16Fits.f (l0.length : Int) a1).bind fun t374 => (if t374 = true then ((spec_l01In.f a3 0 1000000000).bind fun t375 => (spec_PathLength.j0 k l0 a1 l2 a3 (l0.length : Int) (!t375))) else (spec_PathLength.j0 k l0 a1 l2 a3 (l0.length : Int) true))) else (spec_PathLength.j0 k l0 a1 l2 a3 (l0.length : Int) true))) = some (r1, r2) := h
  clear h
  have HC5 := Aside0.mk H
  clear H
  go_enter Try.func24, Try.ntmps24
  go_upto_region 2 with (fail)
  go_cut [13] (fun v13 wc => ∃ (kq : Nat) (x13_4 : Bool), v13 = .bool x13_4 ∧ Aside0 (spec_PathLength.j0 kq l0 a1 l2 a3 (l0.length : Int) x13_4 = some (r1, r2)) ∧ Aside0 (kq ≤ k) ∧ Aside0 (Below w.heap.size w wc))
  case first =>
    have H := HC5.out
    clear HC5
    replace H := Option.bind_eq_some_iff.mp H
    obtain ⟨t373, A60, H⟩ := H
    replace H : (if t373 = true then ((spec_l16Fits.f (l0.length : Int) a1).bind fun t374 => (if t374 = true then ((spec_l01In.f a3 0 1000000000).bind fun t375 => (spec_PathLength.j0 k l0 a1 l2 a3 (l0.length : Int) (!t375))) else (spec_PathLength.j0 k l0 a1 l2 a3 (l0.length : Int) true))) else (spec_PathLength.j0 k l0 a1 l2 a3 (l0.length : Int) true)) = some (r1, r2) := H
    have A6 := Aside0.mk A60
    clear A60
    by_cases c7 : t373 = true
    · subst c7
      have H1 : ((spec_l16Fits.f (l0.length : Int) a1).bind fun t374 => (if t374 = true then ((spec_l01In.f a3 0 1000000000).bind fun t375 => (spec_PathLength.j0 k l0 a1 l2 a3 (l0.length : Int) (!t375))) else (spec_PathLength.j0 k l0 a1 l2 a3 (l0.length : Int) true))) = some (r1, r2) := by rw [if_pos rfl] at H; exact H
      clear H
      have H := H1
      clear H1
      replace H := Option.bind_eq_some_iff.mp H
      obtain ⟨t374, A80, H⟩ := H
      replace H : (if t374 = true then ((spec_l01In.f a3 0 1000000000).bind fun t375 => (spec_PathLength.j0 k l0 a1 l2 a3 (l0.length : Int) (!t375))) else (spec_PathLength.j0 k l0 a1 l2 a3 (l0.length : Int) true)) = some (r1, r2) := H
      have A8 := Aside0.mk A80
      clear A80
      by_cases c9 : t374 = true
      · subst c9
        have H1 : ((spec_l01In.f a3 0 1000000000).bind fun t375 => (spec_PathLength.j0 k l0 a1 l2 a3 (l0.length : Int) (!t375))) = some (r1, r2) := by rw [if_pos rfl] at H; exact H
        clear H
        have H := H1
        clear H1
        replace H := Option.bind_eq_some_iff.mp H
        obtain ⟨t375, A100, H⟩ := H
        replace H : (spec_PathLength.j0 k l0 a1 l2 a3 (l0.length : Int) (!t375)) = some (r1, r2) := H
        have A10 := Aside0.mk A100
        clear A100
        have H' := Aside0.mk H
        clear H
        go_wp2_with (first | ((with_reducible refine gate_callee (f := 17) rfl ?_); refine goesL_ (some 15) rfl rfl Try.func17 (by kernel_rfl) rfl #[.slice A0 l0.length c0] rfl (by (try simp only [List.map_toArray, List.map_cons, List.map_nil]); first | done | rfl | (simp only [List.length_drop, List.length_take]; rfl)) ?_; (with_reducible refine (spec_AreHoles.calls k _ _ l0 true _ ?side1 ?side2 A6.out).mono ?_); (case side1 => repeat (first | exact (Kd.C_below HR0.out HB.out) | (with_reducible refine Kd.C_alloc ?_ _) | (with_reducible refine Kd.C_drewN ?_ _) | (with_reducible refine Kd.C_drew ?_))); (case side2 => exact HC0.out); rintro e w' ⟨rfl, ⟨nd, rfl⟩⟩; refine ⟨_, rfl, ?_⟩) | (go_at_call 45; (with_reducible refine (spec_l16Fits.calls (l0.length : Int) a1 true _ A8.out).mono ?_); rintro e w' ⟨rfl, ⟨nd, rfl⟩⟩) | (go_at_call 37; (with_reducible refine (spec_l01In.calls a3 0 1000000000 t375 _ A10.out).mono ?_); rintro e w' ⟨rfl, ⟨nd, rfl⟩⟩))
        go_meet
        case rel => exact ⟨_, (!t375), (by first | rfl | (simp; done) | (simp [*]; done)), H', ⟨by first | omega | exact Nat.le_refl _⟩, ⟨by repeat (first | (with_reducible first | exact HB.out | apply below_alloc | apply pw_below_drewN | apply below_drew1) | exact HB.out)⟩⟩
      · replace c9 := Bool.eq_false_iff.mpr c9
        subst c9
        have H1 : (spec_PathLength.j0 k l0 a1 l2 a3 (l0.length : Int) true) = some (r1, r2) := by rw [if_neg (show ¬ (false = true) by decide)] at H; exact H
        clear H
        have H := H1
        clear H1
        have H' := Aside0.mk H
        clear H
        go_wp2_with (first | ((with_reducible refine gate_callee (f := 17) rfl ?_); refine goesL_ (some 15) rfl rfl Try.func17 (by kernel_rfl) rfl #[.slice A0 l0.length c0] rfl (by (try simp only [List.map_toArray, List.map_cons, List.map_nil]); first | done | rfl | (simp only [List.length_drop, List.length_take]; rfl)) ?_; (with_reducible refine (spec_AreHoles.calls k _ _ l0 true _ ?side1 ?side2 A6.out).mono ?_); (case side1 => repeat (first | exact (Kd.C_below HR0.out HB.out) | (with_reducible refine Kd.C_alloc ?_ _) | (with_reducible refine Kd.C_drewN ?_ _) | (with_reducible refine Kd.C_drew ?_))); (case side2 => exact HC0.out); rintro e w' ⟨rfl, ⟨nd, rfl⟩⟩; refine ⟨_, rfl, ?_⟩) | (go_at_call 45; (with_reducible refine (spec_l16Fits.calls (l0.length : Int) a1 false _ A8.out).mono ?_); rintro e w' ⟨rfl, ⟨nd, rfl⟩⟩))
        go_meet
        case rel => exact ⟨_, (true), (by first | rfl | (simp; done) | (simp [*]; done)), H', ⟨by first | omega | exact Nat.le_refl _⟩, ⟨by repeat (first | (with_reducible first | exact HB.out | apply below_alloc | apply pw_below_drewN | apply below_drew1) | exact HB.out)⟩⟩
    · replace c7 := Bool.eq_false_iff.mpr c7
      subst c7
      have H1 : (spec_PathLength.j0 k l0 a1 l2 a3 (l0.length : Int) true) = some (r1, r2) := by rw [if_neg (show ¬ (false = true) by decide)] at H; exact H
      clear H
      have H := H1
      clear H1
      have H' := Aside0.mk H
      clear H
      go_wp2_with (first | ((with_reducible refine gate_callee (f := 17) rfl ?_); refine goesL_ (some 15) rfl rfl Try.func17 (by kernel_rfl) rfl #[.slice A0 l0.length c0] rfl (by (try simp only [List.map_toArray, List.map_cons, List.map_nil]); first | done | rfl | (simp only [List.length_drop, List.length_take]; rfl)) ?_; (with_reducible refine (spec_AreHoles.calls k _ _ l0 false _ ?side1 ?side2 A6.out).mono ?_); (case side1 => repeat (first | exact (Kd.C_below HR0.out HB.out) | (with_reducible refine Kd.C_alloc ?_ _) | (with_reducible refine Kd.C_drewN ?_ _) | (with_reducible refine Kd.C_drew ?_))); (case side2 => exact HC0.out); rintro e w' ⟨rfl, ⟨nd, rfl⟩⟩; refine ⟨_, rfl, ?_⟩))
      go_meet
      case rel => exact ⟨_, (true), (by first | rfl | (simp; done) | (simp [*]; done)), H', ⟨by first | omega | exact Nat.le_refl _⟩, ⟨by repeat (first | (with_reducible first | exact HB.out | apply below_alloc | apply pw_below_drewN | apply below_drew1) | exact HB.out)⟩⟩
  case rest =>
    clear HC5
    try clear c1
    try clear c2
    try clear p2
    try clear c7
    try clear c9
    obtain ⟨kq, x13_4, rfl, HA, HJ4, HB⟩ := hcut
    cases kq with
    | zero => exact absurd HA.out (by simp [spec_PathLength.j0])
    | succ kj4 =>
      have H := HA.out
      clear HA
      simp only [spec_PathLength.j0] at H
      by_cases c11 : x13_4 = true
      · subst c11
        have H1 : (some (0, 2)) = some (r1, r2) := by rw [if_pos rfl] at H; exact H
        clear H
        have H := H1
        clear H1
        simp only [Option.some.injEq, Prod.mk.injEq] at H
        obtain ⟨rfl, rfl⟩ := H
        go_wp2
        go_ret2
        exact ⟨by first | rfl | (simp [errW_none, errW_some] <;> rfl) | (simp [*, errW_none, errW_some] <;> rfl), by repeat (first | (with_reducible first | exact HB.out | apply below_alloc | apply pw_below_drewN | apply below_drew1) | exact HB.out)⟩
      · replace c11 := Bool.eq_false_iff.mpr c11
        subst c11
        have H1 : (if (Int.tmod (l0.length : Int) 2) = 1 then (some (0, 5)) else ((spec_IsThreadPath.f kj4 (l0.length : Int) a1 l2).bind fun t376 => (if t376 = true then ((spec_l16Length.f kj4 l0 l2 a3).bind fun t377 => (some (t377, 0))) else (some (0, 2))))) = some (r1, r2) := by rw [if_neg (show ¬ (false = true) by decide)] at H; exact H
        clear H
        have H := H1
        clear H1
        by_cases c12 : (Int.tmod (l0.length : Int) 2) = 1
        · rw [if_pos c12] at H
          have c12b0 : ((Int.tmod (l0.length : Int) 2) == 1) = true := beq_iff_eq.mpr c12
          have c12eb0 : (((l0.length : Int) % 2) == 1) = true := (by have h_ := c12b0; rwa [Int.tmod_eq_emod_of_nonneg (by omega)] at h_)
          have c12b1 : ((Int.tmod (l0.length : Int) 2) != 1) = false := bne_eq_false_iff_eq.mpr c12
          have c12eb1 : (((l0.length : Int) % 2) != 1) = false := (by have h_ := c12b1; rwa [Int.tmod_eq_emod_of_nonneg (by omega)] at h_)
          clear c12
          simp only [Option.some.injEq, Prod.mk.injEq] at H
          obtain ⟨rfl, rfl⟩ := H
          go_wp2
          go_ret2
          exact ⟨by first | rfl | (simp [errW_none, errW_some] <;> rfl) | (simp [*, errW_none, errW_some] <;> rfl), by repeat (first | (with_reducible first | exact HB.out | apply below_alloc | apply pw_below_drewN | apply below_drew1) | exact HB.out)⟩
        · rw [if_neg c12] at H
          have c12b0 : ((Int.tmod (l0.length : Int) 2) == 1) = false := beq_eq_false_iff_ne.mpr c12
          have c12eb0 : (((l0.length : Int) % 2) == 1) = false := (by have h_ := c12b0; rwa [Int.tmod_eq_emod_of_nonneg (by omega)] at h_)
          have c12b1 : ((Int.tmod (l0.length : Int) 2) != 1) = true := bne_iff_ne.mpr c12
          have c12eb1 : (((l0.length : Int) % 2) != 1) = true := (by have h_ := c12b1; rwa [Int.tmod_eq_emod_of_nonneg (by omega)] at h_)
          replace H := Option.bind_eq_some_iff.mp H
          obtain ⟨t376, A130, H⟩ := H
          replace H : (if t376 = true then ((spec_l16Length.f kj4 l0 l2 a3).bind fun t377 => (some (t377, 0))) else (some (0, 2))) = some (r1, r2) := H
          have A13 := Aside0.mk A130
          clear A130
          by_cases c14 : t376 = true
          · subst c14
            have H1 : ((spec_l16Length.f kj4 l0 l2 a3).bind fun t377 => (some (t377, 0))) = some (r1, r2) := by rw [if_pos rfl] at H; exact H
            clear H
            have H := H1
            clear H1
            replace H := Option.bind_eq_some_iff.mp H
            obtain ⟨t377, A150, H⟩ := H
            replace H : (some (t377, 0)) = some (r1, r2) := H
            have A15 := Aside0.mk A150
            clear A150
            simp only [Option.some.injEq, Prod.mk.injEq] at H
            obtain ⟨rfl, rfl⟩ := H
            go_wp2_with (first | ((with_reducible refine gate_callee (f := 30) rfl ?_); refine goesL_ (some 36) rfl rfl Try.func30 (by kernel_rfl) rfl #[.int .i64 (l0.length : Int), .int .i64 a1, .slice A2 l2.length c2] rfl (by (try simp only [List.map_toArray, List.map_cons, List.map_nil]); first | done | rfl | (simp only [List.length_drop, List.length_take]; rfl)) ?_; (with_reducible refine (spec_IsThreadPath.calls kj4 (l0.length : Int) a1 _ _ l2 true _ ?side1 ?side2 A13.out).mono ?_); (case side1 => repeat (first | exact (Kd.C_below HR2.out HB.out) | (with_reducible refine Kd.C_alloc ?_ _) | (with_reducible refine Kd.C_drewN ?_ _) | (with_reducible refine Kd.C_drew ?_))); (case side2 => exact HC2.out); rintro e w16 ⟨rfl, hb⟩; refine ⟨_, rfl, ?_⟩; have n0_ := Aside0.mk (below_step (by repeat (first | (with_reducible first | exact HB.out | apply below_alloc | apply pw_below_drewN | apply below_drew1) | exact HB.out)) hb); clear HB; have HB := n0_; clear n0_; (try clear hb); (try clear hb2); (try clear hk); (try clear hi)) | ((with_reducible refine gate_callee (f := 50) rfl ?_); refine goesL_ (some 41) rfl rfl Try.func50 (by kernel_rfl) rfl #[.slice A0 l0.length c0, .slice A2 l2.length c2, .int .i64 a3] rfl (by (try simp only [List.map_toArray, List.map_cons, List.map_nil]); first | done | rfl | (simp only [List.length_drop, List.length_take]; rfl)) ?_; (with_reducible refine (spec_l16Length.calls kj4 _ _ l0 _ _ l2 a3 t377 _ ?side1 ?side2 ?side3 ?side4 A15.out).mono ?_); (case side1 => repeat (first | exact (Kd.C_below HR0.out HB.out) | (with_reducible refine Kd.C_alloc ?_ _) | (with_reducible refine Kd.C_drewN ?_ _) | (with_reducible refine Kd.C_drew ?_))); (case side2 => exact HC0.out); (case side3 => repeat (first | exact (Kd.C_below HR2.out HB.out) | (with_reducible refine Kd.C_alloc ?_ _) | (with_reducible refine Kd.C_drewN ?_ _) | (with_reducible refine Kd.C_drew ?_))); (case side4 => exact HC2.out); rintro e w17 ⟨rfl, hb⟩; refine ⟨_, rfl, ?_⟩; have n0_ := Aside0.mk (below_step (by repeat (first | (with_reducible first | exact HB.out | apply below_alloc | apply pw_below_drewN | apply below_drew1) | exact HB.out)) hb); clear HB; have HB := n0_; clear n0_; (try clear hb); (try clear hb2); (try clear hk); (try clear hi)))
            go_ret2
            exact ⟨by first | rfl | (simp [errW_none, errW_some] <;> rfl) | (simp [*, errW_none, errW_some] <;> rfl), by repeat (first | (with_reducible first | exact HB.out | apply below_alloc | apply pw_below_drewN | apply below_drew1) | exact HB.out)⟩
          · replace c14 := Bool.eq_false_iff.mpr c14
            subst c14
            have H1 : (some (0, 2)) = some (r1, r2) := by rw [if_neg (show ¬ (false = true) by decide)] at H; exact H
            clear H
            have H := H1
            clear H1
            simp only [Option.some.injEq, Prod.mk.injEq] at H
            obtain ⟨rfl, rfl⟩ := H
            go_wp2_with (first | ((with_reducible refine gate_callee (f := 30) rfl ?_); refine goesL_ (some 36) rfl rfl Try.func30 (by kernel_rfl) rfl #[.int .i64 (l0.length : Int), .int .i64 a1, .slice A2 l2.length c2] rfl (by (try simp only [List.map_toArray, List.map_cons, List.map_nil]); first | done | rfl | (simp only [List.length_drop, List.length_take]; rfl)) ?_; (with_reducible refine (spec_IsThreadPath.calls kj4 (l0.length : Int) a1 _ _ l2 false _ ?side1 ?side2 A13.out).mono ?_); (case side1 => repeat (first | exact (Kd.C_below HR2.out HB.out) | (with_reducible refine Kd.C_alloc ?_ _) | (with_reducible refine Kd.C_drewN ?_ _) | (with_reducible refine Kd.C_drew ?_))); (case side2 => exact HC2.out); rintro e w18 ⟨rfl, hb⟩; refine ⟨_, rfl, ?_⟩; have n0_ := Aside0.mk (below_step (by repeat (first | (with_reducible first | exact HB.out | apply below_alloc | apply pw_below_drewN | apply below_drew1) | exact HB.out)) hb); clear HB; have HB := n0_; clear n0_; (try clear hb); (try clear hb2); (try clear hk); (try clear hi)))
            go_ret2
            exact ⟨by first | rfl | (simp [errW_none, errW_some] <;> rfl) | (simp [*, errW_none, errW_some] <;> rfl), by repeat (first | (with_reducible first | exact HB.out | apply below_alloc | apply pw_below_drewN | apply below_drew1) | exact HB.out)⟩

/-! ### spec_DrawPlainLength: function 25 -/
def spec_DrawPlainLength.f (k : Nat) (l0 : List Int) : Option (List Int × Int × Int) := (spec_l01From.f k l0).bind fun bt378 => ((spec_l16DrawSize.f bt378.1 bt378.2.1 bt378.2.2).bind fun bt382 => ((spec_l16DrawHoles.f k bt378.1 bt382.2.2.1 bt382.2.2.2).bind fun bt386 => ((spec_l16DrawLink.f bt378.1 bt386.2.1 bt386.2.2).bind fun bt391 => (some (bt386.1, bt382.2.1, bt391.1)))))
theorem spec_DrawPlainLength.mono : ∀ a0 k, LeO (spec_DrawPlainLength.f k a0) (spec_DrawPlainLength.f (k + 1) a0) := by
  intro a0 k
  unfold spec_DrawPlainLength.f
  repeat' first
      | (with_reducible exact spec_l01From.mono _ _)
      | (with_reducible exact spec_l16DrawHoles.mono _ _ _ _)
      | (with_reducible exact LeO.refl _)
      | (with_reducible exact LeO.none _)
      | (with_reducible refine LeO.ite ?_ ?_)
      | (with_reducible refine LeO.bind ?_ (fun _ => ?_))
      | exact spec_l01From.mono _ _
      | exact spec_l16DrawHoles.mono _ _ _ _
      | exact LeO.none _
      | refine LeO.ite ?_ ?_
      | refine LeO.bind ?_ (fun _ => ?_)
set_option maxHeartbeats 8000000 in
set_option maxRecDepth 100000 in
theorem spec_DrawPlainLength.calls (k : Nat) (A0 : Option Addr) (c0 : Nat) (l0 : List Int) (r1 : List Int) (r2 : Int) (r3 : Int) (w : World) (hr0 : Kd.C (Kd.int .u8) w A0 l0.length l0) (hc0 : l0.length ≤ c0) (h : spec_DrawPlainLength.f k l0 = some (r1, r2, r3)) :
    Calls Try.prog 25 #[.slice A0 l0.length c0] w fun e w' => ∃ v0_ : Value, e = .returned (.tuple #[v0_, .int .i64 r2, .int .i64 r3]) ∧ Kd.R (Kd.int .i64) 2 w' w.heap.size (fun _ => True) v0_ r1 ∧ Below w.heap.size w w' := by
  have HR0 := Aside0.mk hr0
  have HC0 := Aside0.mk hc0
  clear hr0 hc0
  have HB := Aside0.mk (Below.refl w.heap.size w)
  have H : ((spec_l01From.f k l0).bind fun bt378 => ((spec_l16DrawSize.f bt378.1 bt378.2.1 bt378.2.2).bind fun bt382 => ((spec_l16DrawHoles.f k bt378.1 bt382.2.2.1 bt382.2.2.2).bind fun bt386 => ((spec_l16DrawLink.f bt378.1 bt386.2.1 bt386.2.2).bind fun bt391 => (some (bt386.1, bt382.2.1, bt391.1)))))) = some (r1, r2, r3) := h
  clear h
  replace H := Option.bind_eq_some_iff.mp H
  obtain ⟨⟨t378, t379, t380⟩, A20, H⟩ := H
  replace H : ((spec_l16DrawSize.f t378 t379 t380).bind fun bt382 => ((spec_l16DrawHoles.f k t378 bt382.2.2.1 bt382.2.2.2).bind fun bt386 => ((spec_l16DrawLink.f t378 bt386.2.1 bt386.2.2).bind fun bt391 => (some (bt386.1, bt382.2.1, bt391.1))))) = some (r1, r2, r3) := H
  have A2 := Aside0.mk A20
  clear A20
  replace H := Option.bind_eq_some_iff.mp H
  obtain ⟨⟨t382, t383, t384, t385⟩, A30, H⟩ := H
  replace H : ((spec_l16DrawHoles.f k t378 t384 t385).bind fun bt386 => ((spec_l16DrawLink.f t378 bt386.2.1 bt386.2.2).bind fun bt391 => (some (bt386.1, t383, bt391.1)))) = some (r1, r2, r3) := H
  have A3 := Aside0.mk A30
  clear A30
  replace H := Option.bind_eq_some_iff.mp H
  obtain ⟨⟨t386, t389, t390⟩, A40, H⟩ := H
  replace H : ((spec_l16DrawLink.f t378 t389 t390).bind fun bt391 => (some (t386, t383, bt391.1))) = some (r1, r2, r3) := H
  have A4 := Aside0.mk A40
  clear A40
  replace H := Option.bind_eq_some_iff.mp H
  obtain ⟨⟨t391, t392, t393⟩, A50, H⟩ := H
  replace H : (some (t386, t383, t391)) = some (r1, r2, r3) := H
  have A5 := Aside0.mk A50
  clear A50
  simp only [Option.some.injEq, Prod.mk.injEq] at H
  obtain ⟨rfl, rfl, rfl⟩ := H
  go_enter Try.func25, Try.ntmps25
  go_wp2_with (first | ((with_reducible refine gate_callee (f := 31) rfl ?_); refine goesL_ (some 9) rfl rfl Try.func31 (by kernel_rfl) rfl #[.slice A0 l0.length c0] rfl (by (try simp only [List.map_toArray, List.map_cons, List.map_nil]); first | done | rfl | (simp only [List.length_drop, List.length_take]; rfl)) ?_; (with_reducible refine (spec_l01From.calls k _ _ l0 t378 t379 t380 w _ ?side1 ?side2 ?side3 A2.out).mono ?_); (case side1 => repeat (first | (with_reducible first | exact HB.out | apply below_alloc | apply pw_below_drewN | apply below_drew1) | exact HB.out)); (case side2 => exact HR0.out); (case side3 => exact HC0.out); rintro e w6 ⟨g381, rfl, hi, hb, hb2⟩; refine ⟨_, rfl, ?_⟩; have n0_ := Aside0.mk (hb); have n1_ := Aside0.mk (hi); clear HB; have HB := n0_; have HI381 := n1_; clear n0_ n1_; (try clear hb); (try clear hb2); (try clear hk); (try clear hi)) | ((with_reducible refine gate_callee (f := 42) rfl ?_); refine goesL_ (some 12) rfl rfl Try.func42 (by kernel_rfl) rfl #[.pointer (some ⟨g381, 0, none⟩)] rfl (by (try simp only [List.map_toArray, List.map_cons, List.map_nil]); first | done | rfl | (simp only [List.length_drop, List.length_take]; rfl)) ?_; (with_reducible refine (spec_l16DrawSize.calls g381 t378 t379 t380 t382 t383 t384 t385 w _ ?side1 ?side2 A3.out).mono ?_); (case side1 => repeat (first | (with_reducible first | exact HI381.out | apply IsS74.alloc | apply IsS74.drewN | apply IsS74.drew | apply IsS74.set_1 | apply IsS74.set_2) | exact HI381.out)); (case side2 => repeat (first | (with_reducible first | exact HB.out | apply below_alloc | apply pw_below_drewN | apply below_drew1 | refine below_set ?_ (IsS74.ge HI381.out)) | exact HB.out)); rintro e w7 ⟨rfl, hi, hb, hk⟩; refine ⟨_, rfl, ?_⟩; have n0_ := Aside0.mk (hb); have n1_ := Aside0.mk (hi); clear HB; clear HI381; have HB := n0_; have HI381 := n1_; clear n0_ n1_; (try clear hb); (try clear hb2); (try clear hk); (try clear hi)) | ((with_reducible refine gate_callee (f := 32) rfl ?_); refine goesL_ (some 16) rfl rfl Try.func32 (by kernel_rfl) rfl #[.pointer (some ⟨g381, 0, none⟩)] rfl (by (try simp only [List.map_toArray, List.map_cons, List.map_nil]); first | done | rfl | (simp only [List.length_drop, List.length_take]; rfl)) ?_; (with_reducible refine (spec_l16DrawHoles.calls k g381 t378 t384 t385 t386 t389 t390 w _ ?side1 ?side2 A4.out).mono ?_); (case side1 => repeat (first | (with_reducible first | exact HI381.out | apply IsS74.alloc | apply IsS74.drewN | apply IsS74.drew | apply IsS74.set_1 | apply IsS74.set_2) | exact HI381.out)); (case side2 => repeat (first | (with_reducible first | exact HB.out | apply below_alloc | apply pw_below_drewN | apply below_drew1 | refine below_set ?_ (IsS74.ge HI381.out)) | exact HB.out)); rintro e w8 ⟨v387, rfl, ho0, hi, hb, hk⟩; refine ⟨_, rfl, ?_⟩; have n0_ := Aside0.mk (Kd.R_lower ho0 (below_size (by repeat (first | (with_reducible first | exact HB.out | apply below_alloc | apply pw_below_drewN | apply below_drew1 | refine below_set ?_ (IsS74.ge HI381.out)) | exact HB.out)))); have n1_ := Aside0.mk (hb); have n2_ := Aside0.mk (hi); clear HB; clear HI381; have HO388 := n0_; have HB := n1_; have HI381 := n2_; clear n0_ n1_ n2_; (try clear hb); (try clear hb2); (try clear hk); (try clear hi); (try clear ho0)) | ((with_reducible refine gate_callee (f := 48) rfl ?_); refine goesL_ (some 19) rfl rfl Try.func48 (by kernel_rfl) rfl #[.pointer (some ⟨g381, 0, none⟩)] rfl (by (try simp only [List.map_toArray, List.map_cons, List.map_nil]); first | done | rfl | (simp only [List.length_drop, List.length_take]; rfl)) ?_; (with_reducible refine (spec_l16DrawLink.calls g381 t378 t389 t390 t391 t392 t393 w _ ?side1 ?side2 A5.out).mono ?_); (case side1 => repeat (first | (with_reducible first | exact HI381.out | apply IsS74.alloc | apply IsS74.drewN | apply IsS74.drew | apply IsS74.set_1 | apply IsS74.set_2) | exact HI381.out)); (case side2 => repeat (first | (with_reducible first | exact HB.out | apply below_alloc | apply pw_below_drewN | apply below_drew1 | refine below_set ?_ (IsS74.ge HI381.out)) | exact HB.out)); rintro e w9 ⟨rfl, hi, hb, hk⟩; refine ⟨_, rfl, ?_⟩; have n0_ := Aside0.mk (Kd.R_mono (Kd.R_keep (IsS74.apart (show IsS74 w _ g381 t378 t389 t390 from by repeat (first | (with_reducible first | exact HI381.out | apply IsS74.alloc | apply IsS74.drewN | apply IsS74.drew | apply IsS74.set_1 | apply IsS74.set_2) | exact HI381.out)) (by (with_reducible repeat (first | apply Kd.R_alloc | apply Kd.R_drewN | apply Kd.R_drew)); exact HO388.out) (by decide)) hk (fun _ h => h.2)) (fun _ h => h.1)); have n1_ := Aside0.mk (hb); have n2_ := Aside0.mk (hi); clear HO388; clear HB; clear HI381; have HO388 := n0_; have HB := n1_; have HI381 := n2_; clear n0_ n1_ n2_; (try clear hb); (try clear hb2); (try clear hk); (try clear hi)))
  go_ret3
  exact ⟨_, by first | rfl | (simp [errW_none, errW_some] <;> rfl) | (simp [*, errW_none, errW_some] <;> rfl), by (with_reducible repeat (first | apply Kd.R_alloc | apply Kd.R_drewN | apply Kd.R_drew)); exact HO388.out, by repeat (first | (with_reducible first | exact HB.out | apply below_alloc | apply pw_below_drewN | apply below_drew1 | refine below_set ?_ (IsS74.ge HI381.out)) | exact HB.out)⟩

/-! ### impl_PlainLength: function 26 -/
def impl_PlainLength.f (k : Nat) (l0 : List Int) (a1 : Int) (a2 : Int) : Option (Int × Int) := (impl_checkThread.f k l0 a1 a2).bind fun t394 => (if t394 = 0 then ((impl_length_int64.f l0).bind fun t395 => ((impl_plainPath.f k t395 a1).bind fun t396 => ((impl_PathLength.f k l0 a1 t396 a2).bind fun bt399 => (some (bt399.1, bt399.2))))) else (some (0, t394)))
theorem impl_PlainLength.mono : ∀ a0 a1 a2 k, LeO (impl_PlainLength.f k a0 a1 a2) (impl_PlainLength.f (k + 1) a0 a1 a2) := by
  intro a0 a1 a2 k
  unfold impl_PlainLength.f
  repeat' first
      | (with_reducible exact impl_PathLength.mono _ _ _ _ _)
      | (with_reducible exact impl_checkThread.mono _ _ _ _)
      | (with_reducible exact impl_plainPath.mono _ _ _)
      | (with_reducible exact LeO.refl _)
      | (with_reducible exact LeO.none _)
      | (with_reducible refine LeO.ite ?_ ?_)
      | (with_reducible refine LeO.bind ?_ (fun _ => ?_))
      | exact impl_PathLength.mono _ _ _ _ _
      | exact impl_checkThread.mono _ _ _ _
      | exact impl_plainPath.mono _ _ _
      | exact LeO.none _
      | refine LeO.ite ?_ ?_
      | refine LeO.bind ?_ (fun _ => ?_)
set_option maxHeartbeats 8000000 in
set_option maxRecDepth 100000 in
theorem impl_PlainLength.calls (k : Nat) (A0 : Option Addr) (c0 : Nat) (l0 : List Int) (a1 : Int) (a2 : Int) (r1 : Int) (r2 : Int) (w : World) (hr0 : Kd.C (Kd.int .i64) w A0 l0.length l0) (hc0 : l0.length ≤ c0) (h : impl_PlainLength.f k l0 a1 a2 = some (r1, r2)) :
    Calls Try.prog 26 #[.slice A0 l0.length c0, .int .i64 a1, .int .i64 a2] w fun e w' => e = .returned (.tuple #[.int .i64 r1, .int .i64 r2]) ∧ Below w.heap.size w w' := by
  have HR0 := Aside0.mk hr0
  have HC0 := Aside0.mk hc0
  clear hr0 hc0
  have HB := Aside0.mk (Below.refl w.heap.size w)
  have H : ((impl_checkThread.f k l0 a1 a2).bind fun t394 => (if t394 = 0 then ((impl_length_int64.f l0).bind fun t395 => ((impl_plainPath.f k t395 a1).bind fun t396 => ((impl_PathLength.f k l0 a1 t396 a2).bind fun bt399 => (some (bt399.1, bt399.2))))) else (some (0, t394)))) = some (r1, r2) := h
  clear h
  replace H := Option.bind_eq_some_iff.mp H
  obtain ⟨t394, A40, H⟩ := H
  replace H : (if t394 = 0 then ((impl_length_int64.f l0).bind fun t395 => ((impl_plainPath.f k t395 a1).bind fun t396 => ((impl_PathLength.f k l0 a1 t396 a2).bind fun bt399 => (some (bt399.1, bt399.2))))) else (some (0, t394))) = some (r1, r2) := H
  have A4 := Aside0.mk A40
  clear A40
  by_cases c5 : t394 = 0
  · rw [if_pos c5] at H
    have c5b0 : (t394 == 0) = true := beq_iff_eq.mpr c5
    have c5b1 : (t394 != 0) = false := bne_eq_false_iff_eq.mpr c5
    clear c5
    replace H := Option.bind_eq_some_iff.mp H
    obtain ⟨t395, A60, H⟩ := H
    replace H : ((impl_plainPath.f k t395 a1).bind fun t396 => ((impl_PathLength.f k l0 a1 t396 a2).bind fun bt399 => (some (bt399.1, bt399.2)))) = some (r1, r2) := H
    have A6 := Aside0.mk A60
    clear A60
    replace H := Option.bind_eq_some_iff.mp H
    obtain ⟨t396, A70, H⟩ := H
    replace H : ((impl_PathLength.f k l0 a1 t396 a2).bind fun bt399 => (some (bt399.1, bt399.2))) = some (r1, r2) := H
    have A7 := Aside0.mk A70
    clear A70
    replace H := Option.bind_eq_some_iff.mp H
    obtain ⟨⟨t399, t400⟩, A80, H⟩ := H
    replace H : (some (t399, t400)) = some (r1, r2) := H
    have A8 := Aside0.mk A80
    clear A80
    simp only [Option.some.injEq, Prod.mk.injEq] at H
    obtain ⟨rfl, rfl⟩ := H
    go_enter Try.func26, Try.ntmps26
    go_wp2_with (first | ((with_reducible refine gate_callee (f := 49) rfl ?_); refine goesL_ (some 12) rfl rfl Try.func49 (by kernel_rfl) rfl #[.slice A0 l0.length c0, .int .i64 a1, .int .i64 a2] rfl (by (try simp only [List.map_toArray, List.map_cons, List.map_nil]); first | done | rfl | (simp only [List.length_drop, List.length_take]; rfl)) ?_; (with_reducible refine (impl_checkThread.calls k _ _ l0 a1 a2 t394 _ ?side1 ?side2 A4.out).mono ?_); (case side1 => repeat (first | exact HR0.out | (with_reducible refine Kd.C_alloc ?_ _) | (with_reducible refine Kd.C_drewN ?_ _) | (with_reducible refine Kd.C_drew ?_))); (case side2 => exact HC0.out); rintro e w9 ⟨rfl, hb⟩; refine ⟨_, rfl, ?_⟩; have n0_ := Aside0.mk (below_step (by repeat (first | (with_reducible first | exact HB.out | apply below_alloc | apply pw_below_drewN | apply below_drew1) | exact HB.out)) hb); clear HB; have HB := n0_; clear n0_; (try clear hb); (try clear hb2); (try clear hk); (try clear hi)) | ((with_reducible refine gate_callee (f := 38) rfl ?_); refine goesL_ (some 19) rfl rfl Try.func38 (by kernel_rfl) rfl #[.slice A0 l0.length c0] rfl (by (try simp only [List.map_toArray, List.map_cons, List.map_nil]); first | done | rfl | (simp only [List.length_drop, List.length_take]; rfl)) ?_; (with_reducible refine (impl_length_int64.calls _ _ l0 t395 _ ?side1 ?side2 A6.out).mono ?_); (case side1 => repeat (first | exact (Kd.C_below HR0.out HB.out) | (with_reducible refine Kd.C_alloc ?_ _) | (with_reducible refine Kd.C_drewN ?_ _) | (with_reducible refine Kd.C_drew ?_))); (case side2 => exact HC0.out); rintro e w' ⟨rfl, ⟨nd, rfl⟩⟩; refine ⟨_, rfl, ?_⟩) | ((with_reducible refine gate_callee (f := 44) rfl ?_); refine goesL_ (some 21) rfl rfl Try.func44 (by kernel_rfl) rfl #[.int .i64 t395, .int .i64 a1] rfl (by (try simp only [List.map_toArray, List.map_cons, List.map_nil]); first | done | rfl | (simp only [List.length_drop, List.length_take]; rfl)) ?_; (with_reducible refine (impl_plainPath.calls k t395 a1 t396 _ A7.out).mono ?_); rintro e w10 ⟨v397, rfl, ho0, hb⟩; refine ⟨_, rfl, ?_⟩; have n0_ := Aside0.mk (Kd.R_lower ho0 (below_size (by repeat (first | (with_reducible first | exact HB.out | apply below_alloc | apply pw_below_drewN | apply below_drew1) | exact HB.out)))); have n1_ := Aside0.mk (below_step (by repeat (first | (with_reducible first | exact HB.out | apply below_alloc | apply pw_below_drewN | apply below_drew1) | exact HB.out)) hb); clear HB; have HO398 := n0_; have HB := n1_; clear n0_ n1_; (try clear hb); (try clear hb2); (try clear hk); (try clear hi); (try clear ho0); obtain ⟨Ao11, co11, eo11⟩ := Kd.R_slice HO398.out; subst eo11) | ((with_reducible refine gate_callee (f := 23) rfl ?_); refine goesL_ (some 23) rfl rfl Try.func23 (by kernel_rfl) rfl #[.slice A0 l0.length c0, .int .i64 a1, .slice Ao11 t396.length co11, .int .i64 a2] rfl (by (try simp only [List.map_toArray, List.map_cons, List.map_nil]); first | done | rfl | (simp only [List.length_drop, List.length_take]; rfl)) ?_; (with_reducible refine (impl_PathLength.calls k _ _ l0 a1 _ _ t396 a2 t399 t400 _ ?side1 ?side2 ?side3 ?side4 A8.out).mono ?_); (case side1 => repeat (first | exact (Kd.C_below HR0.out HB.out) | (with_reducible refine Kd.C_alloc ?_ _) | (with_reducible refine Kd.C_drewN ?_ _) | (with_reducible refine Kd.C_drew ?_))); (case side2 => exact HC0.out); (case side3 => repeat (first | exact (Kd.R_reads' HO398.out).2.2 | (with_reducible refine Kd.C_alloc ?_ _) | (with_reducible refine Kd.C_drewN ?_ _) | (with_reducible refine Kd.C_drew ?_))); (case side4 => exact (Kd.R_reads' HO398.out).2.1); rintro e w12 ⟨rfl, hb⟩; refine ⟨_, rfl, ?_⟩; have n0_ := Aside0.mk (Kd.R_below (by (with_reducible repeat (first | apply Kd.R_alloc | apply Kd.R_drewN | apply Kd.R_drew)); exact HO398.out) hb); have n1_ := Aside0.mk (below_step (by repeat (first | (with_reducible first | exact HB.out | apply below_alloc | apply pw_below_drewN | apply below_drew1) | exact HB.out)) hb); clear HO398; clear HB; have HO398 := n0_; have HB := n1_; clear n0_ n1_; (try clear hb); (try clear hb2); (try clear hk); (try clear hi)))
    go_ret2
    exact ⟨by first | rfl | (simp [errW_none, errW_some] <;> rfl) | (simp [*, errW_none, errW_some] <;> rfl), by repeat (first | (with_reducible first | exact HB.out | apply below_alloc | apply pw_below_drewN | apply below_drew1) | exact HB.out)⟩
  · rw [if_neg c5] at H
    have c5b0 : (t394 == 0) = false := beq_eq_false_iff_ne.mpr c5
    have c5b1 : (t394 != 0) = true := bne_iff_ne.mpr c5
    simp only [Option.some.injEq, Prod.mk.injEq] at H
    obtain ⟨rfl, rfl⟩ := H
    go_enter Try.func26, Try.ntmps26
    go_wp2_with (first | ((with_reducible refine gate_callee (f := 49) rfl ?_); refine goesL_ (some 12) rfl rfl Try.func49 (by kernel_rfl) rfl #[.slice A0 l0.length c0, .int .i64 a1, .int .i64 a2] rfl (by (try simp only [List.map_toArray, List.map_cons, List.map_nil]); first | done | rfl | (simp only [List.length_drop, List.length_take]; rfl)) ?_; (with_reducible refine (impl_checkThread.calls k _ _ l0 a1 a2 t394 _ ?side1 ?side2 A4.out).mono ?_); (case side1 => repeat (first | exact HR0.out | (with_reducible refine Kd.C_alloc ?_ _) | (with_reducible refine Kd.C_drewN ?_ _) | (with_reducible refine Kd.C_drew ?_))); (case side2 => exact HC0.out); rintro e w13 ⟨rfl, hb⟩; refine ⟨_, rfl, ?_⟩; have n0_ := Aside0.mk (below_step (by repeat (first | (with_reducible first | exact HB.out | apply below_alloc | apply pw_below_drewN | apply below_drew1) | exact HB.out)) hb); clear HB; have HB := n0_; clear n0_; (try clear hb); (try clear hb2); (try clear hk); (try clear hi)))
    go_ret2
    exact ⟨by first | rfl | (simp [errW_none, errW_some] <;> rfl) | (simp [*, errW_none, errW_some] <;> rfl), by repeat (first | (with_reducible first | exact HB.out | apply below_alloc | apply pw_below_drewN | apply below_drew1) | exact HB.out)⟩

end Go.Proofs.Ytkcbihfhbojckaa.X
