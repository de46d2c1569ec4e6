-- Written by this session's own program (wip/xprint.py) out of the translation; Lean checks it.
import Derived.Test.YtlicooehcladcaaDoorX0
import Derived.Test.YtlicooehcladcaaDoorX1
import Derived.Test.YtlicooehcladcaaDoorX2
import Derived.Test.YtlicooehcladcaaDoorX4
import Derived.Test.YtlicooehcladcaaDoorX5
namespace Go.Proofs.YtlicooehcladcaaDoor.X
open Go.RowKit Go.Proofs.YtlicooehcladcaaDoorW.PrintWords Go.Proofs.YtlicooehcladcaaDoorW.PrintLast Go.Proofs.YtlicooehcladcaaDoorW.PrintMore
attribute [local go_sem] max2_int min2_int max_two min_two max_three min_three max_four min_four   -- for this text's walks alone
set_option linter.unusedVariables false
set_option linter.unusedSimpArgs false

/-! ### spec_l01Damage: function 32 -/
def spec_l01Damage.f (s0_0 : List Int) (s0_1 : Int) (s0_2 : Int) (a1 : ByteArray) : Option (ByteArray × Int × Int) := (spec_l01Next.f s0_0 s0_1 s0_2 (wrap64 ((a1.size : Int) + 1))).bind fun bt215 => ((spec_l01Next.f s0_0 bt215.2.1 bt215.2.2 8).bind fun bt218 => (if bt218.1 = 0 then (if 0 ≤ bt215.1 then (if bt215.1 ≤ (a1.size : Int) then (some (a1.extract 0 (bt215.1 : Int).toNat, bt218.2.1, bt218.2.2)) else (none)) else (none)) else (if bt218.1 = 1 then (if 0 ≤ bt215.1 then (if bt215.1 ≤ (a1.size : Int) then ((some (([(⟨#[48]⟩ : ByteArray), (⟨#[49]⟩ : ByteArray), (⟨#[32]⟩ : ByteArray), (⟨#[45]⟩ : ByteArray), (⟨#[46]⟩ : ByteArray), (⟨#[44]⟩ : ByteArray), (⟨#[10]⟩ : ByteArray), (⟨#[120]⟩ : ByteArray)] : List ByteArray) : List ByteArray)).bind fun y221 => ((spec_l01Next.f s0_0 bt218.2.1 bt218.2.2 8).bind fun bt224 => (if 0 ≤ bt224.1 then (if bt224.1 < (y221.length : Int) then (if (a1.extract 0 (bt215.1 : Int).toNat).size + (rdOf ByteArray.empty y221 bt224.1).size ≤ 9223372036854775807 then (if ((a1.extract 0 (bt215.1 : Int).toNat) ++ (rdOf ByteArray.empty y221 bt224.1)).size + (a1.extract (bt215.1 : Int).toNat a1.size).size ≤ 9223372036854775807 then (some (((a1.extract 0 (bt215.1 : Int).toNat) ++ (rdOf ByteArray.empty y221 bt224.1)) ++ (a1.extract (bt215.1 : Int).toNat a1.size), bt224.2.1, bt224.2.2)) else (none)) else (none)) else (none)) else (none)))) else (none)) else (none)) else (if bt218.1 = 2 then (if bt215.1 < (a1.size : Int) then (if 0 ≤ bt215.1 then (if bt215.1 ≤ (a1.size : Int) then (if 0 ≤ (wrap64 (bt215.1 + 1)) then (if (wrap64 (bt215.1 + 1)) ≤ (a1.size : Int) then (if (a1.extract 0 (bt215.1 : Int).toNat).size + (a1.extract ((wrap64 (bt215.1 + 1)) : Int).toNat a1.size).size ≤ 9223372036854775807 then (some ((a1.extract 0 (bt215.1 : Int).toNat) ++ (a1.extract ((wrap64 (bt215.1 + 1)) : Int).toNat a1.size), bt218.2.1, bt218.2.2)) else (none)) else (none)) else (none)) else (none)) else (none)) else (some (a1, bt218.2.1, bt218.2.2))) else (some (a1, bt218.2.1, bt218.2.2))))))
def spec_l01Damage.T6 : Bool × List (List Nat × List Nat) := (true, [([], []), ([], []), ([0, 1], [0, 1]), ([], []), ([], []), ([4], [4]), ([3, 5], [3, 5]), ([6], [6]), ([2, 7], [2, 7]), ([], []), ([], []), ([9, 10], [9, 10]), ([8, 11], [8, 11]), ([12, 5, 0, 1, 2, 3, 4, 5, 6, 7, 8, 9, 10, 11, 12], [12])])
def spec_l01Damage.B6 : List Nat := [0, 0, 3, 0, 0, 16, 56, 120, 255, 0, 0, 1536, 4095, 8191]
theorem spec_l01Damage.tab6 : rtab .any (opsOf Tryd.f32 6) = spec_l01Damage.T6 := by kernel_rfl
theorem spec_l01Damage.bits6 : waitsOk spec_l01Damage.T6.2 spec_l01Damage.B6 = true := by kernel_rfl
def spec_l01Damage.T9 : Bool × List (List Nat × List Nat) := (true, [([], []), ([], []), ([0, 1], [0, 1]), ([], []), ([], []), ([4], [4]), ([3, 5], [3, 5]), ([2, 6], [2, 6]), ([7, 0, 1, 2, 3, 4, 5, 6, 7], [7])])
def spec_l01Damage.B9 : List Nat := [0, 0, 3, 0, 0, 16, 56, 127, 255]
theorem spec_l01Damage.tab9 : rtab .any (opsOf Tryd.f32 9) = spec_l01Damage.T9 := by kernel_rfl
theorem spec_l01Damage.bits9 : waitsOk spec_l01Damage.T9.2 spec_l01Damage.B9 = true := by kernel_rfl
set_option maxHeartbeats 8000000 in
set_option maxRecDepth 100000 in
theorem spec_l01Damage.calls (g : Nat) (s0_0 : List Int) (s0_1 : Int) (s0_2 : Int) (a1 : ByteArray) (r1 : ByteArray) (r2 : Int) (r3 : Int) (w0 w : World) (hI : IsS56 w0 w g s0_0 s0_1 s0_2) (hB : Below w0.heap.size w0 w) (h : spec_l01Damage.f s0_0 s0_1 s0_2 a1 = some (r1, r2, r3)) :
    Calls Tryd.prog 32 #[.pointer (some ⟨g, 0, none⟩), .string a1] w fun e w' => e = .returned (.string r1) ∧ IsS56 w0 w' g s0_0 r2 r3 ∧ Below w0.heap.size w0 w' ∧ KeepBut w w' g none := by
  have HI0 := Aside0.mk hI
  have HK := Aside0.mk (KeepBut.refl w g none)
  have HL := Aside0.mk hB.size
  clear hI
  have HW0 := Aside0.mk hB.size
  have HB := Aside0.mk hB
  clear hB
  have H : ((spec_l01Next.f s0_0 s0_1 s0_2 (wrap64 ((a1.size : Int) + 1))).bind fun bt215 => ((spec_l01Next.f s0_0 bt215.2.1 bt215.2.2 8).bind fun bt218 => (if bt218.1 = 0 then (if 0 ≤ bt215.1 then (if bt215.1 ≤ (a1.size : Int) then (some (a1.extract 0 (bt215.1 : Int).toNat, bt218.2.1, bt218.2.2)) else (none)) else (none)) else (if bt218.1 = 1 then (if 0 ≤ bt215.1 then (if bt215.1 ≤ (a1.size : Int) then ((some (([(⟨#[48]⟩ : ByteArray), (⟨#[49]⟩ : ByteArray), (⟨#[32]⟩ : ByteArray), (⟨#[45]⟩ : ByteArray), (⟨#[46]⟩ : ByteArray), (⟨#[44]⟩ : ByteArray), (⟨#[10]⟩ : ByteArray), (⟨#[120]⟩ : ByteArray)] : List ByteArray) : List ByteArray)).bind fun y221 => ((spec_l01Next.f s0_0 bt218.2.1 bt218.2.2 8).bind fun bt224 => (if 0 ≤ bt224.1 then (if bt224.1 < (y221.length : Int) then (if (a1.extract 0 (bt215.1 : Int).toNat).size + (rdOf ByteArray.empty y221 bt224.1).size ≤ 9223372036854775807 then (if ((a1.extract 0 (bt215.1 : Int).toNat) ++ (rdOf ByteArray.empty y221 bt224.1)).size + (a1.extract (bt215.1 : Int).toNat a1.size).size ≤ 9223372036854775807 then (some (((a1.extract 0 (bt215.1 : Int).toNat) ++ (rdOf ByteArray.empty y221 bt224.1)) ++ (a1.extract (bt215.1 : Int).toNat a1.size), bt224.2.1, bt224.2.2)) else (none)) else (none)) else (none)) else (none)))) else (none)) else (none)) else (if bt218.1 = 2 then (if bt215.1 < (a1.size : Int) then (if 0 ≤ bt215.1 then (if bt215.1 ≤ (a1.size : Int) then (if 0 ≤ (wrap64 (bt215.1 + 1)) then (if (wrap64 (bt215.1 + 1)) ≤ (a1.size : Int) then (if (a1.extract 0 (bt215.1 : Int).toNat).size + (a1.extract ((wrap64 (bt215.1 + 1)) : Int).toNat a1.size).size ≤ 9223372036854775807 then (some ((a1.extract 0 (bt215.1 : Int).toNat) ++ (a1.extract ((wrap64 (bt215.1 + 1)) : Int).toNat a1.size), bt218.2.1, bt218.2.2)) else (none)) else (none)) else (none)) else (none)) else (none)) else (some (a1, bt218.2.1, bt218.2.2))) else (some (a1, bt218.2.1, bt218.2.2))))))) = some (r1, r2, r3) := h
  clear h
  replace H := Option.bind_eq_some_iff.mp H
  obtain ⟨⟨t215, t216, t217⟩, A30, H⟩ := H
  replace H : ((spec_l01Next.f s0_0 t216 t217 8).bind fun bt218 => (if bt218.1 = 0 then (if 0 ≤ t215 then (if t215 ≤ (a1.size : Int) then (some (a1.extract 0 (t215 : Int).toNat, bt218.2.1, bt218.2.2)) else (none)) else (none)) else (if bt218.1 = 1 then (if 0 ≤ t215 then (if t215 ≤ (a1.size : Int) then ((some (([(⟨#[48]⟩ : ByteArray), (⟨#[49]⟩ : ByteArray), (⟨#[32]⟩ : ByteArray), (⟨#[45]⟩ : ByteArray), (⟨#[46]⟩ : ByteArray), (⟨#[44]⟩ : ByteArray), (⟨#[10]⟩ : ByteArray), (⟨#[120]⟩ : ByteArray)] : List ByteArray) : List ByteArray)).bind fun y221 => ((spec_l01Next.f s0_0 bt218.2.1 bt218.2.2 8).bind fun bt224 => (if 0 ≤ bt224.1 then (if bt224.1 < (y221.length : Int) then (if (a1.extract 0 (t215 : Int).toNat).size + (rdOf ByteArray.empty y221 bt224.1).size ≤ 9223372036854775807 then (if ((a1.extract 0 (t215 : Int).toNat) ++ (rdOf ByteArray.empty y221 bt224.1)).size + (a1.extract (t215 : Int).toNat a1.size).size ≤ 9223372036854775807 then (some (((a1.extract 0 (t215 : Int).toNat) ++ (rdOf ByteArray.empty y221 bt224.1)) ++ (a1.extract (t215 : Int).toNat a1.size), bt224.2.1, bt224.2.2)) else (none)) else (none)) else (none)) else (none)))) else (none)) else (none)) else (if bt218.1 = 2 then (if t215 < (a1.size : Int) then (if 0 ≤ t215 then (if t215 ≤ (a1.size : Int) then (if 0 ≤ (wrap64 (t215 + 1)) then (if (wrap64 (t215 + 1)) ≤ (a1.size : Int) then (if (a1.extract 0 (t215 : Int).toNat).size + (a1.extract ((wrap64 (t215 + 1)) : Int).toNat a1.size).size ≤ 9223372036854775807 then (some ((a1.extract 0 (t215 : Int).toNat) ++ (a1.extract ((wrap64 (t215 + 1)) : Int).toNat a1.size), bt218.2.1, bt218.2.2)) else (none)) else (none)) else (none)) else (none)) else (none)) else (some (a1, bt218.2.1, bt218.2.2))) else (some (a1, bt218.2.1, bt218.2.2)))))) = some (r1, r2, r3) := H
  have A3 := Aside0.mk A30
  clear A30
  replace H := Option.bind_eq_some_iff.mp H
  obtain ⟨⟨t218, t219, t220⟩, A40, H⟩ := H
  replace H : (if t218 = 0 then (if 0 ≤ t215 then (if t215 ≤ (a1.size : Int) then (some (a1.extract 0 (t215 : Int).toNat, t219, t220)) else (none)) else (none)) else (if t218 = 1 then (if 0 ≤ t215 then (if t215 ≤ (a1.size : Int) then ((some (([(⟨#[48]⟩ : ByteArray), (⟨#[49]⟩ : ByteArray), (⟨#[32]⟩ : ByteArray), (⟨#[45]⟩ : ByteArray), (⟨#[46]⟩ : ByteArray), (⟨#[44]⟩ : ByteArray), (⟨#[10]⟩ : ByteArray), (⟨#[120]⟩ : ByteArray)] : List ByteArray) : List ByteArray)).bind fun y221 => ((spec_l01Next.f s0_0 t219 t220 8).bind fun bt224 => (if 0 ≤ bt224.1 then (if bt224.1 < (y221.length : Int) then (if (a1.extract 0 (t215 : Int).toNat).size + (rdOf ByteArray.empty y221 bt224.1).size ≤ 9223372036854775807 then (if ((a1.extract 0 (t215 : Int).toNat) ++ (rdOf ByteArray.empty y221 bt224.1)).size + (a1.extract (t215 : Int).toNat a1.size).size ≤ 9223372036854775807 then (some (((a1.extract 0 (t215 : Int).toNat) ++ (rdOf ByteArray.empty y221 bt224.1)) ++ (a1.extract (t215 : Int).toNat a1.size), bt224.2.1, bt224.2.2)) else (none)) else (none)) else (none)) else (none)))) else (none)) else (none)) else (if t218 = 2 then (if t215 < (a1.size : Int) then (if 0 ≤ t215 then (if t215 ≤ (a1.size : Int) then (if 0 ≤ (wrap64 (t215 + 1)) then (if (wrap64 (t215 + 1)) ≤ (a1.size : Int) then (if (a1.extract 0 (t215 : Int).toNat).size + (a1.extract ((wrap64 (t215 + 1)) : Int).toNat a1.size).size ≤ 9223372036854775807 then (some ((a1.extract 0 (t215 : Int).toNat) ++ (a1.extract ((wrap64 (t215 + 1)) : Int).toNat a1.size), t219, t220)) else (none)) else (none)) else (none)) else (none)) else (none)) else (some (a1, t219, t220))) else (some (a1, t219, t220))))) = some (r1, r2, r3) := H
  have A4 := Aside0.mk A40
  clear A40
  by_cases c5 : t218 = 0
  · rw [if_pos c5] at H
    have c5b0 : (t218 == 0) = true := beq_iff_eq.mpr c5
    have c5b1 : (t218 != 0) = false := bne_eq_false_iff_eq.mpr c5
    clear c5
    by_cases c6 : 0 ≤ t215
    · rw [if_pos c6] at H
      have c6b0 := eq_true c6
      have c6b1 : decide (0 ≤ t215) = true := decide_eq_true c6
      clear c6
      by_cases c7 : t215 ≤ (a1.size : Int)
      · rw [if_pos c7] at H
        have c7b0 := eq_true c7
        have c7b1 : decide (t215 ≤ (a1.size : Int)) = true := decide_eq_true c7
        clear c7
        simp only [Option.some.injEq, Prod.mk.injEq] at H
        obtain ⟨rfl, rfl, rfl⟩ := H
        go_enter Tryd.func32, Tryd.ntmps32
        go_wp2_with (first | ((with_reducible refine gate_callee (f := 26) rfl ?_); refine goesL_ (some 10) rfl rfl Tryd.func26 (by kernel_rfl) rfl #[.pointer (some ⟨g, 0, none⟩), .int .i64 (wrap64 ((a1.size : Int) + 1))] rfl (by (try simp only [List.map_toArray, List.map_cons, List.map_nil]); first | done | rfl | (simp only [List.length_drop, List.length_take]; rfl)) ?_; (with_reducible refine (spec_l01Next.calls g s0_0 s0_1 s0_2 (wrap64 ((a1.size : Int) + 1)) t215 t216 t217 w0 _ ?side1 ?side2 A3.out).mono ?_); (case side1 => repeat (first | (with_reducible first | exact HI0.out | apply IsS56.alloc | apply IsS56.drewN | apply IsS56.drew | apply IsS56.set_1 | apply IsS56.set_2) | exact HI0.out)); (case side2 => repeat (first | (with_reducible first | exact HB.out | apply below_alloc | apply pw_below_drewN | apply below_drew1 | refine below_set ?_ (IsS56.ge HI0.out)) | exact HB.out)); rintro e w8 ⟨rfl, hi, hb, hk⟩; refine ⟨_, rfl, ?_⟩; have n0_ := Aside0.mk (KeepBut.trans (by repeat (first | (with_reducible first | exact HK.out | apply KeepBut.set_ | apply keep_drewN | apply keep_drew | apply keep_alloc) | exact HK.out)) hk (.inl rfl)); have n1_ := Aside0.mk (hb); have n2_ := Aside0.mk (hi); clear HK; clear HB; clear HI0; have HK := n0_; have HB := n1_; have HI0 := n2_; clear n0_ n1_ n2_; (try clear hb); (try clear hb2); (try clear hk); (try clear hi)) | ((with_reducible refine gate_callee (f := 26) rfl ?_); refine goesL_ (some 12) rfl rfl Tryd.func26 (by kernel_rfl) rfl #[.pointer (some ⟨g, 0, none⟩), .int .i64 8] rfl (by (try simp only [List.map_toArray, List.map_cons, List.map_nil]); first | done | rfl | (simp only [List.length_drop, List.length_take]; rfl)) ?_; (with_reducible refine (spec_l01Next.calls g s0_0 t216 t217 8 t218 t219 t220 w0 _ ?side1 ?side2 A4.out).mono ?_); (case side1 => repeat (first | (with_reducible first | exact HI0.out | apply IsS56.alloc | apply IsS56.drewN | apply IsS56.drew | apply IsS56.set_1 | apply IsS56.set_2) | exact HI0.out)); (case side2 => repeat (first | (with_reducible first | exact HB.out | apply below_alloc | apply pw_below_drewN | apply below_drew1 | refine below_set ?_ (IsS56.ge HI0.out)) | exact HB.out)); rintro e w9 ⟨rfl, hi, hb, hk⟩; refine ⟨_, rfl, ?_⟩; have n0_ := Aside0.mk (KeepBut.trans (by repeat (first | (with_reducible first | exact HK.out | apply KeepBut.set_ | apply keep_drewN | apply keep_drew | apply keep_alloc) | exact HK.out)) hk (.inl rfl)); have n1_ := Aside0.mk (hb); have n2_ := Aside0.mk (hi); clear HK; clear HB; clear HI0; have HK := n0_; have HB := n1_; have HI0 := n2_; clear n0_ n1_ n2_; (try clear hb); (try clear hb2); (try clear hk); (try clear hi)))
        go_ret
        exact ⟨by first | rfl | (simp [errW_none, errW_some] <;> rfl) | (simp [*, errW_none, errW_some] <;> rfl), by repeat (first | (with_reducible first | exact HI0.out | apply IsS56.alloc | apply IsS56.drewN | apply IsS56.drew | apply IsS56.set_1 | apply IsS56.set_2) | exact HI0.out), by repeat (first | (with_reducible first | exact HB.out | apply below_alloc | apply pw_below_drewN | apply below_drew1 | refine below_set ?_ (IsS56.ge HI0.out)) | exact HB.out), by repeat (first | (with_reducible first | exact HK.out | apply KeepBut.set_ | apply keep_drewN | apply keep_drew | apply keep_alloc) | exact HK.out)⟩
      · rw [if_neg c7] at H
        exact absurd H (by simp)
    · rw [if_neg c6] at H
      exact absurd H (by simp)
  · rw [if_neg c5] at H
    have c5b0 : (t218 == 0) = false := beq_eq_false_iff_ne.mpr c5
    have c5b1 : (t218 != 0) = true := bne_iff_ne.mpr c5
    by_cases c10 : t218 = 1
    · rw [if_pos c10] at H
      have c10b0 : (t218 == 1) = true := beq_iff_eq.mpr c10
      have c10b1 : (t218 != 1) = false := bne_eq_false_iff_eq.mpr c10
      clear c10
      by_cases c11 : 0 ≤ t215
      · rw [if_pos c11] at H
        have c11b0 := eq_true c11
        have c11b1 : decide (0 ≤ t215) = true := decide_eq_true c11
        clear c11
        by_cases c12 : t215 ≤ (a1.size : Int)
        · rw [if_pos c12] at H
          have c12b0 := eq_true c12
          have c12b1 : decide (t215 ≤ (a1.size : Int)) = true := decide_eq_true c12
          clear c12
          obtain ⟨y221, hy221⟩ : ∃ y_ : List ByteArray, y_ = (([(⟨#[48]⟩ : ByteArray), (⟨#[49]⟩ : ByteArray), (⟨#[32]⟩ : ByteArray), (⟨#[45]⟩ : ByteArray), (⟨#[46]⟩ : ByteArray), (⟨#[44]⟩ : ByteArray), (⟨#[10]⟩ : ByteArray), (⟨#[120]⟩ : ByteArray)] : List ByteArray)) := ⟨_, rfl⟩
          replace H : ((spec_l01Next.f s0_0 t219 t220 8).bind fun bt224 => (if 0 ≤ bt224.1 then (if bt224.1 < (y221.length : Int) then (if (a1.extract 0 (t215 : Int).toNat).size + (rdOf ByteArray.empty y221 bt224.1).size ≤ 9223372036854775807 then (if ((a1.extract 0 (t215 : Int).toNat) ++ (rdOf ByteArray.empty y221 bt224.1)).size + (a1.extract (t215 : Int).toNat a1.size).size ≤ 9223372036854775807 then (some (((a1.extract 0 (t215 : Int).toNat) ++ (rdOf ByteArray.empty y221 bt224.1)) ++ (a1.extract (t215 : Int).toNat a1.size), bt224.2.1, bt224.2.2)) else (none)) else (none)) else (none)) else (none))) = some (r1, r2, r3) := by first | (rw [hy221]; with_reducible exact H) | (have H2_ := (Option.bind_some _ _).symm.trans H; rw [hy221]; with_reducible exact H2_) | (have H2_ := (Option.bind_some _ _).symm.trans H; with_reducible exact H2_) | with_reducible exact H | (rw [hy221]; exact H) | exact H
          have Ny221 := Aside0.mk hy221
          clear hy221
          replace H := Option.bind_eq_some_iff.mp H
          obtain ⟨⟨t224, t225, t226⟩, A130, H⟩ := H
          replace H : (if 0 ≤ t224 then (if t224 < (y221.length : Int) then (if (a1.extract 0 (t215 : Int).toNat).size + (rdOf ByteArray.empty y221 t224).size ≤ 9223372036854775807 then (if ((a1.extract 0 (t215 : Int).toNat) ++ (rdOf ByteArray.empty y221 t224)).size + (a1.extract (t215 : Int).toNat a1.size).size ≤ 9223372036854775807 then (some (((a1.extract 0 (t215 : Int).toNat) ++ (rdOf ByteArray.empty y221 t224)) ++ (a1.extract (t215 : Int).toNat a1.size), t225, t226)) else (none)) else (none)) else (none)) else (none)) = some (r1, r2, r3) := H
          have A13 := Aside0.mk A130
          clear A130
          by_cases c14 : 0 ≤ t224
          · rw [if_pos c14] at H
            have c14b0 : decide (0 ≤ t224) = true := decide_eq_true c14
            clear c14
            by_cases c15 : t224 < (y221.length : Int)
            · rw [if_pos c15] at H
              have c15b0 : decide (t224 < (y221.length : Int)) = true := decide_eq_true c15
              clear c15
              by_cases c16 : (a1.extract 0 (t215 : Int).toNat).size + (rdOf ByteArray.empty y221 t224).size ≤ 9223372036854775807
              · rw [if_pos c16] at H
                have c16b0 := eq_true c16
                have c16b1 : decide ((a1.extract 0 (t215 : Int).toNat).size + (rdOf ByteArray.empty y221 t224).size ≤ 9223372036854775807) = true := decide_eq_true c16
                try have c16b2 : (9223372036854775807 < (a1.extract 0 (t215 : Int).toNat).size + (rdOf ByteArray.empty y221 t224).size) = False := eq_false (Nat.not_lt.2 c16)
                have c16s : t215.toNat + (rdOf ByteArray.empty y221 t224).size ≤ 9223372036854775807 := (by have h_ := c16; have q_ : (t215 : Int) ≤ (a1.size : Int) := (by first | assumption | exact of_eq_true (by assumption) | exact of_decide_eq_true (by assumption)); simp only [ByteArray.size_append, ByteArray.size_extract] at h_; omega)
                have c16s0 := eq_true c16s
                have c16s2 := eq_false (Nat.not_lt.2 c16s)
                clear c16s
                have c17b0 := eq_true (of_decide_eq_true (by first | (with_reducible assumption) | assumption) : 0 ≤ t215)
                have c18b0 := eq_true (of_decide_eq_true (by first | (with_reducible assumption) | assumption) : t215 ≤ (a1.size : Int))
                by_cases c19 : ((a1.extract 0 (t215 : Int).toNat) ++ (rdOf ByteArray.empty y221 t224)).size + (a1.extract (t215 : Int).toNat a1.size).size ≤ 9223372036854775807
                · rw [if_pos c19] at H
                  have c19b0 := eq_true c19
                  have c19b1 : decide (((a1.extract 0 (t215 : Int).toNat) ++ (rdOf ByteArray.empty y221 t224)).size + (a1.extract (t215 : Int).toNat a1.size).size ≤ 9223372036854775807) = true := decide_eq_true c19
                  try have c19b2 : (9223372036854775807 < ((a1.extract 0 (t215 : Int).toNat) ++ (rdOf ByteArray.empty y221 t224)).size + (a1.extract (t215 : Int).toNat a1.size).size) = False := eq_false (Nat.not_lt.2 c19)
                  have c19s : t215.toNat + (rdOf ByteArray.empty y221 t224).size + (a1.size - t215.toNat) ≤ 9223372036854775807 := (by have h_ := c19; have q_ : (t215 : Int) ≤ (a1.size : Int) := (by first | assumption | exact of_eq_true (by assumption) | exact of_decide_eq_true (by assumption)); simp only [ByteArray.size_append, ByteArray.size_extract] at h_; omega)
                  have c19s0 := eq_true c19s
                  have c19s2 := eq_false (Nat.not_lt.2 c19s)
                  clear c19s
                  simp only [Option.some.injEq, Prod.mk.injEq] at H
                  obtain ⟨rfl, rfl, rfl⟩ := H
                  go_enter Tryd.func32, Tryd.ntmps32
                  try go_wp2_with (first | ((with_reducible refine gate_callee (f := 26) rfl ?_); refine goesL_ (some 10) rfl rfl Tryd.func26 (by kernel_rfl) rfl #[.pointer (some ⟨g, 0, none⟩), .int .i64 (wrap64 ((a1.size : Int) + 1))] rfl (by (try simp only [List.map_toArray, List.map_cons, List.map_nil]); first | done | rfl | (simp only [List.length_drop, List.length_take]; rfl)) ?_; (with_reducible refine (spec_l01Next.calls g s0_0 s0_1 s0_2 (wrap64 ((a1.size : Int) + 1)) t215 t216 t217 w0 _ ?side1 ?side2 A3.out).mono ?_); (case side1 => repeat (first | (with_reducible first | exact HI0.out | apply IsS56.alloc | apply IsS56.drewN | apply IsS56.drew | apply IsS56.set_1 | apply IsS56.set_2) | exact HI0.out)); (case side2 => repeat (first | (with_reducible first | exact HB.out | apply below_alloc | apply pw_below_drewN | apply below_drew1 | refine below_set ?_ (IsS56.ge HI0.out)) | exact HB.out)); rintro e w20 ⟨rfl, hi, hb, hk⟩; refine ⟨_, rfl, ?_⟩; have n0_ := Aside0.mk (KeepBut.trans (by repeat (first | (with_reducible first | exact HK.out | apply KeepBut.set_ | apply keep_drewN | apply keep_drew | apply keep_alloc) | exact HK.out)) hk (.inl rfl)); have n1_ := Aside0.mk (hb); have n2_ := Aside0.mk (hi); clear HK; clear HB; clear HI0; have HK := n0_; have HB := n1_; have HI0 := n2_; clear n0_ n1_ n2_; (try clear hb); (try clear hb2); (try clear hk); (try clear hi)) | ((with_reducible refine gate_callee (f := 26) rfl ?_); refine goesL_ (some 12) rfl rfl Tryd.func26 (by kernel_rfl) rfl #[.pointer (some ⟨g, 0, none⟩), .int .i64 8] rfl (by (try simp only [List.map_toArray, List.map_cons, List.map_nil]); first | done | rfl | (simp only [List.length_drop, List.length_take]; rfl)) ?_; (with_reducible refine (spec_l01Next.calls g s0_0 t216 t217 8 t218 t219 t220 w0 _ ?side1 ?side2 A4.out).mono ?_); (case side1 => repeat (first | (with_reducible first | exact HI0.out | apply IsS56.alloc | apply IsS56.drewN | apply IsS56.drew | apply IsS56.set_1 | apply IsS56.set_2) | exact HI0.out)); (case side2 => repeat (first | (with_reducible first | exact HB.out | apply below_alloc | apply pw_below_drewN | apply below_drew1 | refine below_set ?_ (IsS56.ge HI0.out)) | exact HB.out)); rintro e w21 ⟨rfl, hi, hb, hk⟩; refine ⟨_, rfl, ?_⟩; have n0_ := Aside0.mk (KeepBut.trans (by repeat (first | (with_reducible first | exact HK.out | apply KeepBut.set_ | apply keep_drewN | apply keep_drew | apply keep_alloc) | exact HK.out)) hk (.inl rfl)); have n1_ := Aside0.mk (hb); have n2_ := Aside0.mk (hi); clear HK; clear HB; clear HI0; have HK := n0_; have HB := n1_; have HI0 := n2_; clear n0_ n1_ n2_; (try clear hb); (try clear hb2); (try clear hk); (try clear hi)))
                  have pi227 : (0 ≤ (t224 : Int)) = True := eq_true (of_decide_eq_true (by first | (with_reducible assumption) | assumption))
                  have qi227 : (t224 < (y221.length : Int)) = True := eq_true (of_decide_eq_true (by first | (with_reducible assumption) | assumption))
                  have n0_ := Aside0.mk (IsS56.drew HI0.out)
                  have n1_ := Aside0.mk (keep_drew HK.out)
                  have n2_ := Aside0.mk (below_drew1 HB.out)
                  clear HI0
                  clear HK
                  clear HB
                  have HI0 := n0_
                  have HK := n1_
                  have HB := n2_
                  clear n0_ n1_ n2_
                  refine start_ (n := 14) (S := fun w' => True) (ds := []) #[false, false, false, false, false, false, false, false, false, false, false, false, false, false] (by kernel_rfl) rfl rfl trivial (fun hHeld => ?_); refine with_tabW spec_l01Damage.tab6 spec_l01Damage.bits6 (fun HT_ HW_ => ?_)
                  generalize w21.drew = w22 at HI0 HK HB hHeld ⊢
                  refine pure_ (i := 0) (N := some 20) (v := ?_) (a' := ?_) #[true, false, false, false, false, false, false, false, false, false, false, false, false, false] rfl rfl (any_of HT_.out (by kernel_rfl)) (fun _ _ _ h => h) (Or.inl ⟨by rfl, ?_⟩) ?_ ?_
                  rotate_left
                  · intro w'
                    go_simp
                    with_reducible rfl
                  rotate_left
                  · simp only [Act.put, List.setIfInBounds_toArray, List.set_cons_zero, List.set_cons_succ, i64_w, i32_w]
                    rfl
                  refine pure_ (i := 1) (N := some 21) (v := ?_) (a' := ?_) #[true, true, false, false, false, false, false, false, false, false, false, false, false, false] rfl rfl (any_of HT_.out (by kernel_rfl)) (fun _ _ _ h => h) (Or.inl ⟨by rfl, ?_⟩) ?_ ?_
                  rotate_left
                  · intro w'
                    go_simp
                    with_reducible rfl
                  rotate_left
                  · simp only [Act.put, List.setIfInBounds_toArray, List.set_cons_zero, List.set_cons_succ, i64_w, i32_w]
                    rfl
                  refine pure_ (i := 4) (N := some 24) (v := ?_) (a' := ?_) #[true, true, false, false, true, false, false, false, false, false, false, false, false, false] rfl rfl (any_of HT_.out (by kernel_rfl)) (fun _ _ _ h => h) (Or.inl ⟨by rfl, ?_⟩) ?_ ?_
                  rotate_left
                  · intro w'
                    go_simp
                    with_reducible rfl
                  rotate_left
                  · simp only [Act.put, List.setIfInBounds_toArray, List.set_cons_zero, List.set_cons_succ, i64_w, i32_w]
                    rfl
                  refine pure_ (i := 9) (N := some 29) (v := ?_) (a' := ?_) #[true, true, false, false, true, false, false, false, false, true, false, false, false, false] rfl rfl (any_of HT_.out (by kernel_rfl)) (fun _ _ _ h => h) (Or.inl ⟨by rfl, ?_⟩) ?_ ?_
                  rotate_left
                  · intro w'
                    go_simp
                    with_reducible rfl
                  rotate_left
                  · simp only [Act.put, List.setIfInBounds_toArray, List.set_cons_zero, List.set_cons_succ, i64_w, i32_w]
                    rfl
                  refine pure_ (i := 10) (N := some 30) (v := ?_) (a' := ?_) #[true, true, false, false, true, false, false, false, false, true, true, false, false, false] rfl rfl (any_of HT_.out (by kernel_rfl)) (fun _ _ _ h => h) (Or.inl ⟨by rfl, ?_⟩) ?_ ?_
                  rotate_left
                  · intro w'
                    go_simp
                    with_reducible rfl
                  rotate_left
                  · simp only [Act.put, List.setIfInBounds_toArray, List.set_cons_zero, List.set_cons_succ, i64_w, i32_w]
                    rfl
                  refine inv_at [2, 3, 5, 6, 7, 8, 11, 12, 13] (fun a0_ b a w' => ∃ (v222 : Value) (adz_v222 : Addr) (m6_ : Value), a = putSel a0_ b [(2, 22, .string (a1.extract 0 (t215 : Int).toNat)), (3, 23, v222), (5, 25, .int .i64 t224), (6, 26, m6_), (7, 27, .string (rdOf ByteArray.empty y221 t224)), (8, 28, .string ((a1.extract 0 (t215 : Int).toNat) ++ (rdOf ByteArray.empty y221 t224))), (11, 31, .string (a1.extract (t215 : Int).toNat a1.size)), (12, 32, .string (((a1.extract 0 (t215 : Int).toNat) ++ (rdOf ByteArray.empty y221 t224)) ++ (a1.extract (t215 : Int).toNat a1.size))), (13, 4, .string (((a1.extract 0 (t215 : Int).toNat) ++ (rdOf ByteArray.empty y221 t224)) ++ (a1.extract (t215 : Int).toNat a1.size)))] ∧ (b 5 = false → IsS56 w0 w' g s0_0 t219 t220) ∧ (KeepBut w w' g none) ∧ (Below w0.heap.size w0 w') ∧ (b 3 = true → Kd.R Kd.string 9 w' w.heap.size (fun _ => True) v222 y221) ∧ (b 3 = true → ∃ c_, (v222 : Value) = .slice (some adz_v222) y221.length c_) ∧ (b 5 = true → IsS56 w0 w' g s0_0 t225 t226) ∧ (b 6 = true → (m6_ : Value) = .pointer (some (adz_v222.add (t224).toNat)))) HT_.out HW_.out (by kernel_rfl) (by kernel_rfl) ?_ ?_ ?_
                  · exact ⟨.bool false, ⟨0, 0, none⟩, .bool false, by simp only [putSel, Bool.false_eq_true, if_false], fun _ => HI0.out, HK.out, HB.out, fun h_ => absurd h_ (by decide), fun h_ => absurd h_ (by decide), fun h_ => absurd h_ (by decide), fun h_ => absurd h_ (by decide)⟩
                  · skip
                    clear HB HI0 HK
                    refine steps_cons ?_ ?_
                    · rintro b a w' ⟨v222, adz_v222, m6_, ha, Q_HI0, Q_HK, Q_HB, Q_HO223, Q_HA_HO223, Q_HI0_e5, Q_X6_⟩ hb_ hon hoff
                      refine ⟨_, rfl, fun K hK => ?_⟩
                      have e20 : a.tmps[20]? = some (.string a1) := by rw [ha]; exact (putSel_off rfl).trans rfl
                      have e21 : a.tmps[21]? = some (.int .i64 t215) := by rw [ha]; exact (putSel_off rfl).trans rfl
                      replace ha := Aside0.mk ha
                      have HK := Aside0.mk Q_HK
                      have HB := Aside0.mk Q_HB
                      refine value_ (w1 := w') (v := .string (a1.extract 0 (t215 : Int).toNat)) (by rfl) rfl ?_ ?_
                      · go_simp
                        (try simp only [i64_w])
                        try rfl
                        try assumption
                        try exact of_eq_true (by assumption)
                      refine hK.out _ _ ⟨v222, adz_v222, m6_, (by rw [ha.out]; exact putSel_upk 0 hb_ rfl rfl rfl), Q_HI0, Q_HK, Q_HB, Q_HO223, Q_HA_HO223, Q_HI0_e5, Q_X6_⟩
                    refine steps_cons ?_ ?_
                    · rintro b a w' ⟨v222, adz_v222, m6_, ha, Q_HI0, Q_HK, Q_HB, Q_HO223, Q_HA_HO223, Q_HI0_e5, Q_X6_⟩ hb_ hon hoff
                      refine ⟨_, rfl, fun K hK => ?_⟩
                      replace ha := Aside0.mk ha
                      have HK := Aside0.mk Q_HK
                      have HB := Aside0.mk Q_HB
                      refine Kd.R_lit_step Kd.string _ 9 ?hg (N := 23) ?hd (xs := ([(⟨#[48]⟩ : ByteArray), (⟨#[49]⟩ : ByteArray), (⟨#[32]⟩ : ByteArray), (⟨#[45]⟩ : ByteArray), (⟨#[46]⟩ : ByteArray), (⟨#[44]⟩ : ByteArray), (⟨#[10]⟩ : ByteArray), (⟨#[120]⟩ : ByteArray)] : List ByteArray)) (inner := [.string (⟨#[48]⟩ : ByteArray), .string (⟨#[49]⟩ : ByteArray), .string (⟨#[32]⟩ : ByteArray), .string (⟨#[45]⟩ : ByteArray), .string (⟨#[46]⟩ : ByteArray), .string (⟨#[44]⟩ : ByteArray), .string (⟨#[10]⟩ : ByteArray), .string (⟨#[120]⟩ : ByteArray)]) (ok := fun _ => True) (okp := fun _ => True) ?hr ?hp (fun _ hk => hk) trivial (Below.refl _ _) (Nat.le_refl _) (by simp) ?_; (case hd => rfl); (case hg => rfl); (case hr => first | (go_simp; done) | (go_simp; rfl)); (case hp => exact (Reps.one (show Kd.M Kd.string _ _ _ (⟨#[48]⟩ : ByteArray) [.string (⟨#[48]⟩ : ByteArray)] from rfl) (Reps.one (show Kd.M Kd.string _ _ _ (⟨#[49]⟩ : ByteArray) [.string (⟨#[49]⟩ : ByteArray)] from rfl) (Reps.one (show Kd.M Kd.string _ _ _ (⟨#[32]⟩ : ByteArray) [.string (⟨#[32]⟩ : ByteArray)] from rfl) (Reps.one (show Kd.M Kd.string _ _ _ (⟨#[45]⟩ : ByteArray) [.string (⟨#[45]⟩ : ByteArray)] from rfl) (Reps.one (show Kd.M Kd.string _ _ _ (⟨#[46]⟩ : ByteArray) [.string (⟨#[46]⟩ : ByteArray)] from rfl) (Reps.one (show Kd.M Kd.string _ _ _ (⟨#[44]⟩ : ByteArray) [.string (⟨#[44]⟩ : ByteArray)] from rfl) (Reps.one (show Kd.M Kd.string _ _ _ (⟨#[10]⟩ : ByteArray) [.string (⟨#[10]⟩ : ByteArray)] from rfl) (Reps.one (show Kd.M Kd.string _ _ _ (⟨#[120]⟩ : ByteArray) [.string (⟨#[120]⟩ : ByteArray)] from rfl) (Reps.none _ _))))))))))
                      intro v222 w23 ho24 hb hg_ hnew_
                      clear hg_ hnew_
                      (first | rw [← Ny221.out] at ho24 | (simp only [Int.reduceToNat] at ho24; rw [← Ny221.out] at ho24))
                      have n0_ := Aside0.mk (Kd.R_lower ho24 (keep_size (w := w) (g := g) (row := none) (by repeat (first | (with_reducible first | exact HK.out | apply KeepBut.set_ | apply keep_drewN | apply keep_drew | apply keep_alloc) | exact HK.out))))
                      have n2_ := Aside0.mk (KeepBut.trans (by repeat (first | (with_reducible first | exact HK.out | apply KeepBut.set_ | apply keep_drewN | apply keep_drew | apply keep_alloc) | exact HK.out)) (KeepBut.of_below hb g none) (.inl rfl))
                      have n3_ := Aside0.mk (below_step (by repeat (first | (with_reducible first | exact HB.out | apply below_alloc | apply pw_below_drewN | apply below_drew1) | exact HB.out)) hb)
                      have z_HI0 := fun (h0_ : b 5 = false) => (show IsS56 w0 w23 g s0_0 t219 t220 from by first | exact (IsS56.below (by repeat (first | (with_reducible first | exact (Q_HI0 h0_) | apply IsS56.alloc | apply IsS56.drewN | apply IsS56.drew | apply IsS56.set_1 | apply IsS56.set_2) | exact (Q_HI0 h0_))) hb))
                      have z_HI0_e5 := fun (h0_ : b 5 = true) => (show IsS56 w0 w23 g s0_0 t225 t226 from by first | exact (IsS56.below (by repeat (first | (with_reducible first | exact (Q_HI0_e5 h0_) | apply IsS56.alloc | apply IsS56.drewN | apply IsS56.drew | apply IsS56.set_1 | apply IsS56.set_2) | exact (Q_HI0_e5 h0_))) hb))
                      clear HK
                      clear HB
                      have HO223 := n0_
                      have HK := n2_
                      have HB := n3_
                      clear n0_ n2_ n3_
                      clear hb ho24
                      obtain ⟨Ao25, co25, eo25⟩ := Kd.R_slice HO223.out
                      subst eo25
                      obtain ⟨ado25, fo25, _⟩ := Kd.at_string (Kd.R_reads' HO223.out).2.2 0 (by decide) (by rw [Ny221.out]; simp)
                      cases fo25
                      refine hK.out _ _ ⟨.slice (some ado25) y221.length co25, ado25, m6_, (by rw [ha.out]; exact putSel_upk 1 hb_ rfl rfl rfl), z_HI0, (by repeat (first | (with_reducible first | exact HK.out | apply KeepBut.set_ | apply keep_drewN | apply keep_drew | apply keep_alloc) | exact HK.out)), (by repeat (first | (with_reducible first | exact HB.out | apply below_alloc | apply pw_below_drewN | apply below_drew1) | exact HB.out)), fun _ => (by (with_reducible repeat (first | apply Kd.R_alloc | apply Kd.R_drewN | apply Kd.R_drew)); exact HO223.out), fun _ => ⟨_, rfl⟩, z_HI0_e5, fun h0_ => absurd ((hoff 6 (by kernel_rfl)).symm.trans h0_) (by decide)⟩
                    refine steps_cons ?_ ?_
                    · rintro b a w' ⟨v222, adz_v222, m6_, ha, Q_HI0, Q_HK, Q_HB, Q_HO223, Q_HA_HO223, Q_HI0_e5, Q_X6_⟩ hb_ hon hoff
                      refine ⟨_, rfl, fun K hK => ?_⟩
                      have e24 : a.tmps[24]? = some (.pointer (some ⟨g, 0, none⟩)) := by rw [ha]; exact (putSel_off rfl).trans rfl
                      replace ha := Aside0.mk ha
                      have HI0 := Aside0.mk (Q_HI0 hb_)
                      have HK := Aside0.mk Q_HK
                      have HB := Aside0.mk Q_HB
                      refine goes_ Tryd.func26 (by kernel_rfl) rfl #[.pointer (some ⟨g, 0, none⟩), .int .i64 8] (by rfl) rfl rfl (by first | (simp only [List.map_toArray, List.map_cons, List.map_nil, Act.eval, Array.getD_eq_getD_getElem?, Option.getD_some, e24]; done) | (simp only [List.map_toArray, List.map_cons, List.map_nil, Act.eval, Array.getD_eq_getD_getElem?, Option.getD_some, e24]; rfl)) ?_
                      with_reducible refine (spec_l01Next.calls g s0_0 t219 t220 8 t224 t225 t226 w0 _ ?side1 ?side2 A13.out).mono ?_
                      (case side1 => repeat (first | (with_reducible first | exact HI0.out | apply IsS56.alloc | apply IsS56.drewN | apply IsS56.drew | apply IsS56.set_1 | apply IsS56.set_2) | exact HI0.out))
                      (case side2 => repeat (first | (with_reducible first | exact HB.out | apply below_alloc | apply pw_below_drewN | apply below_drew1 | refine below_set ?_ (IsS56.ge HI0.out)) | exact HB.out))
                      rintro e w23 ⟨rfl, hi, hb, hk⟩
                      refine ⟨_, rfl, ?_⟩
                      have n0_ := Aside0.mk (KeepBut.trans (by repeat (first | (with_reducible first | exact HK.out | apply KeepBut.set_ | apply keep_drewN | apply keep_drew | apply keep_alloc) | exact HK.out)) hk (.inl rfl))
                      have n1_ := Aside0.mk (hb)
                      have n2_ := Aside0.mk (hi)
                      have z_HO223 := fun (h0_ : b 3 = true) => (show Kd.R Kd.string 9 w23 w.heap.size (fun _ => True) v222 y221 from by first | exact (Kd.R_mono (Kd.R_keep (IsS56.apart (show IsS56 w0 _ g s0_0 t219 t220 from by repeat (first | (with_reducible first | exact HI0.out | apply IsS56.alloc | apply IsS56.drewN | apply IsS56.drew | apply IsS56.set_1 | apply IsS56.set_2) | exact HI0.out)) (by (with_reducible repeat (first | apply Kd.R_alloc | apply Kd.R_drewN | apply Kd.R_drew)); exact (Q_HO223 h0_)) (by decide)) hk (fun _ h => h.2)) (fun _ h => h.1)) | exact Kd.R_mono (Kd.R_mono (Kd.R_keep (IsS56.apart (show IsS56 w0 _ g s0_0 t219 t220 from by repeat (first | (with_reducible first | exact HI0.out | apply IsS56.alloc | apply IsS56.drewN | apply IsS56.drew | apply IsS56.set_1 | apply IsS56.set_2) | exact HI0.out)) (by (with_reducible repeat (first | apply Kd.R_alloc | apply Kd.R_drewN | apply Kd.R_drew)); exact (Q_HO223 h0_)) (by decide)) hk (fun _ h => h.2)) (fun _ h => h.1)) (fun _ h_ => by first | trivial | exact h_ | exact h_.1))
                      clear HK
                      clear HB
                      clear HI0
                      have HK := n0_
                      have HB := n1_
                      have HI0 := n2_
                      clear n0_ n1_ n2_
                      (try clear hb)
                      (try clear hb2)
                      (try clear hk)
                      (try clear hi)
                      refine hK.out _ _ ⟨v222, adz_v222, m6_, (by rw [ha.out]; exact putSel_upk 2 hb_ rfl rfl rfl), fun h0_ => absurd ((up_self b 5).symm.trans h0_) (by decide), (by repeat (first | (with_reducible first | exact HK.out | apply KeepBut.set_ | apply keep_drewN | apply keep_drew | apply keep_alloc) | exact HK.out)), (by repeat (first | (with_reducible first | exact HB.out | apply below_alloc | apply pw_below_drewN | apply below_drew1 | refine below_set ?_ (IsS56.ge HI0.out)) | exact HB.out)), z_HO223, Q_HA_HO223, fun _ => (by repeat (first | (with_reducible first | exact HI0.out | apply IsS56.alloc | apply IsS56.drewN | apply IsS56.drew | apply IsS56.set_1 | apply IsS56.set_2) | exact HI0.out)), fun h0_ => absurd ((hoff 6 (by kernel_rfl)).symm.trans h0_) (by decide)⟩
                    refine steps_cons ?_ ?_
                    · rintro b a w' ⟨v222, adz_v222, m6_, ha, Q_HI0, Q_HK, Q_HB, Q_HO223, Q_HA_HO223, Q_HI0_e5, Q_X6_⟩ hb_ hon hoff
                      refine ⟨_, rfl, fun K hK => ?_⟩
                      have e23 : a.tmps[23]? = some (v222) := by rw [ha]; exact putSel_on (e := (3, 23, v222)) 1 rfl rfl (hon 3 (by kernel_rfl)) rfl
                      have e25 : a.tmps[25]? = some (.int .i64 t224) := by rw [ha]; exact putSel_on (e := (5, 25, .int .i64 t224)) 2 rfl rfl (hon 5 (by kernel_rfl)) rfl
                      replace ha := Aside0.mk ha
                      have HK := Aside0.mk Q_HK
                      have HB := Aside0.mk Q_HB
                      have HO223 := Aside0.mk (Q_HO223 (hon 3 (by kernel_rfl)))
                      have HA_HO223 := Aside0.mk (Q_HA_HO223 (hon 3 (by kernel_rfl)))
                      have HI0 := Aside0.mk (Q_HI0_e5 (hon 5 (by kernel_rfl)))
                      obtain ⟨c_, hv_⟩ := HA_HO223.out
                      rw [hv_] at e23
                      refine value_ (w1 := w') (v := .pointer (some (adz_v222.add (t224).toNat))) (by rfl) rfl ?_ ?_
                      · go_simp
                        (try simp only [i64_w])
                        try rfl
                        try assumption
                        try exact of_eq_true (by assumption)
                      refine hK.out _ _ ⟨v222, adz_v222, (.pointer (some (adz_v222.add (t224).toNat))), (by rw [ha.out]; exact putSel_upk 3 hb_ rfl rfl rfl), fun h0_ => absurd ((hon 5 (by kernel_rfl)).symm.trans h0_) (by decide), Q_HK, Q_HB, Q_HO223, Q_HA_HO223, Q_HI0_e5, fun _ => rfl⟩
                    refine steps_cons ?_ ?_
                    · rintro b a w' ⟨v222, adz_v222, m6_, ha, Q_HI0, Q_HK, Q_HB, Q_HO223, Q_HA_HO223, Q_HI0_e5, Q_X6_⟩ hb_ hon hoff
                      refine ⟨_, rfl, fun K hK => ?_⟩
                      have e26 : a.tmps[26]? = some (m6_) := by rw [ha]; exact putSel_on (e := (6, 26, m6_)) 3 rfl rfl (hon 6 (by kernel_rfl)) rfl
                      rw [Q_X6_ (hon 6 (by kernel_rfl))] at e26
                      replace ha := Aside0.mk ha
                      have HK := Aside0.mk Q_HK
                      have HB := Aside0.mk Q_HB
                      have HO223 := Aside0.mk (Q_HO223 (hon 3 (by kernel_rfl)))
                      have HA_HO223 := Aside0.mk (Q_HA_HO223 (hon 3 (by kernel_rfl)))
                      have HI0 := Aside0.mk (Q_HI0_e5 (hon 5 (by kernel_rfl)))
                      obtain ⟨c_, hv_⟩ := HA_HO223.out
                      have hF_ := HO223.out
                      rw [hv_] at hF_
                      obtain ⟨ad_, ea_, hx_⟩ := Kd.at_string (Kd.R_reads' hF_).2.2 t224 (of_eq_true pi227) (of_eq_true qi227)
                      cases ea_
                      refine value_ (w1 := w') (v := .string (rdOf ByteArray.empty y221 t224)) (by rfl) rfl ?_ ?_
                      · go_simp
                        (try simp only [i64_w])
                        try rfl
                        try assumption
                        try exact of_eq_true (by assumption)
                      refine hK.out _ _ ⟨v222, adz_v222, m6_, (by rw [ha.out]; exact putSel_upk 4 hb_ rfl rfl rfl), fun h0_ => absurd ((hon 5 (by kernel_rfl)).symm.trans h0_) (by decide), Q_HK, Q_HB, Q_HO223, Q_HA_HO223, Q_HI0_e5, Q_X6_⟩
                    refine steps_cons ?_ ?_
                    · rintro b a w' ⟨v222, adz_v222, m6_, ha, Q_HI0, Q_HK, Q_HB, Q_HO223, Q_HA_HO223, Q_HI0_e5, Q_X6_⟩ hb_ hon hoff
                      refine ⟨_, rfl, fun K hK => ?_⟩
                      have e22 : a.tmps[22]? = some (.string (a1.extract 0 (t215 : Int).toNat)) := by rw [ha]; exact putSel_on (e := (2, 22, .string (a1.extract 0 (t215 : Int).toNat))) 0 rfl rfl (hon 2 (by kernel_rfl)) rfl
                      have e27 : a.tmps[27]? = some (.string (rdOf ByteArray.empty y221 t224)) := by rw [ha]; exact putSel_on (e := (7, 27, .string (rdOf ByteArray.empty y221 t224))) 4 rfl rfl (hon 7 (by kernel_rfl)) rfl
                      replace ha := Aside0.mk ha
                      have HK := Aside0.mk Q_HK
                      have HB := Aside0.mk Q_HB
                      have HO223 := Aside0.mk (Q_HO223 (hon 3 (by kernel_rfl)))
                      have HA_HO223 := Aside0.mk (Q_HA_HO223 (hon 3 (by kernel_rfl)))
                      have HI0 := Aside0.mk (Q_HI0_e5 (hon 5 (by kernel_rfl)))
                      refine value_ (w1 := w') (v := .string ((a1.extract 0 (t215 : Int).toNat) ++ (rdOf ByteArray.empty y221 t224))) (by rfl) rfl ?_ ?_
                      · go_simp
                        (try simp only [i64_w])
                        try rfl
                        try assumption
                        try exact of_eq_true (by assumption)
                      refine hK.out _ _ ⟨v222, adz_v222, m6_, (by rw [ha.out]; exact putSel_upk 5 hb_ rfl rfl rfl), fun h0_ => absurd ((hon 5 (by kernel_rfl)).symm.trans h0_) (by decide), Q_HK, Q_HB, Q_HO223, Q_HA_HO223, Q_HI0_e5, Q_X6_⟩
                    refine steps_cons ?_ ?_
                    · rintro b a w' ⟨v222, adz_v222, m6_, ha, Q_HI0, Q_HK, Q_HB, Q_HO223, Q_HA_HO223, Q_HI0_e5, Q_X6_⟩ hb_ hon hoff
                      refine ⟨_, rfl, fun K hK => ?_⟩
                      have e29 : a.tmps[29]? = some (.string a1) := by rw [ha]; exact (putSel_off rfl).trans rfl
                      have e30 : a.tmps[30]? = some (.int .i64 t215) := by rw [ha]; exact (putSel_off rfl).trans rfl
                      replace ha := Aside0.mk ha
                      have HK := Aside0.mk Q_HK
                      have HB := Aside0.mk Q_HB
                      refine value_ (w1 := w') (v := .string (a1.extract (t215 : Int).toNat a1.size)) (by rfl) rfl ?_ ?_
                      · go_simp
                        (try simp only [i64_w])
                        try rfl
                        try assumption
                        try exact of_eq_true (by assumption)
                      refine hK.out _ _ ⟨v222, adz_v222, m6_, (by rw [ha.out]; exact putSel_upk 6 hb_ rfl rfl rfl), Q_HI0, Q_HK, Q_HB, Q_HO223, Q_HA_HO223, Q_HI0_e5, Q_X6_⟩
                    refine steps_cons ?_ ?_
                    · rintro b a w' ⟨v222, adz_v222, m6_, ha, Q_HI0, Q_HK, Q_HB, Q_HO223, Q_HA_HO223, Q_HI0_e5, Q_X6_⟩ hb_ hon hoff
                      refine ⟨_, rfl, fun K hK => ?_⟩
                      have e28 : a.tmps[28]? = some (.string ((a1.extract 0 (t215 : Int).toNat) ++ (rdOf ByteArray.empty y221 t224))) := by rw [ha]; exact putSel_on (e := (8, 28, .string ((a1.extract 0 (t215 : Int).toNat) ++ (rdOf ByteArray.empty y221 t224)))) 5 rfl rfl (hon 8 (by kernel_rfl)) rfl
                      have e31 : a.tmps[31]? = some (.string (a1.extract (t215 : Int).toNat a1.size)) := by rw [ha]; exact putSel_on (e := (11, 31, .string (a1.extract (t215 : Int).toNat a1.size))) 6 rfl rfl (hon 11 (by kernel_rfl)) rfl
                      replace ha := Aside0.mk ha
                      have HK := Aside0.mk Q_HK
                      have HB := Aside0.mk Q_HB
                      have HO223 := Aside0.mk (Q_HO223 (hon 3 (by kernel_rfl)))
                      have HA_HO223 := Aside0.mk (Q_HA_HO223 (hon 3 (by kernel_rfl)))
                      have HI0 := Aside0.mk (Q_HI0_e5 (hon 5 (by kernel_rfl)))
                      refine value_ (w1 := w') (v := .string (((a1.extract 0 (t215 : Int).toNat) ++ (rdOf ByteArray.empty y221 t224)) ++ (a1.extract (t215 : Int).toNat a1.size))) (by rfl) rfl ?_ ?_
                      · go_simp
                        (try simp only [i64_w])
                        try rfl
                        try assumption
                        try exact of_eq_true (by assumption)
                      refine hK.out _ _ ⟨v222, adz_v222, m6_, (by rw [ha.out]; exact putSel_upk 7 hb_ rfl rfl rfl), fun h0_ => absurd ((hon 5 (by kernel_rfl)).symm.trans h0_) (by decide), Q_HK, Q_HB, Q_HO223, Q_HA_HO223, Q_HI0_e5, Q_X6_⟩
                    refine steps_cons ?_ ?_
                    · rintro b a w' ⟨v222, adz_v222, m6_, ha, Q_HI0, Q_HK, Q_HB, Q_HO223, Q_HA_HO223, Q_HI0_e5, Q_X6_⟩ hb_ hon hoff
                      refine ⟨_, rfl, fun K hK => ?_⟩
                      have e32 : a.tmps[32]? = some (.string (((a1.extract 0 (t215 : Int).toNat) ++ (rdOf ByteArray.empty y221 t224)) ++ (a1.extract (t215 : Int).toNat a1.size))) := by rw [ha]; exact putSel_on (e := (12, 32, .string (((a1.extract 0 (t215 : Int).toNat) ++ (rdOf ByteArray.empty y221 t224)) ++ (a1.extract (t215 : Int).toNat a1.size)))) 7 rfl rfl (hon 12 (by kernel_rfl)) rfl
                      replace ha := Aside0.mk ha
                      have HK := Aside0.mk Q_HK
                      have HB := Aside0.mk Q_HB
                      have HO223 := Aside0.mk (Q_HO223 (hon 3 (by kernel_rfl)))
                      have HA_HO223 := Aside0.mk (Q_HA_HO223 (hon 3 (by kernel_rfl)))
                      have HI0 := Aside0.mk (Q_HI0_e5 (hon 5 (by kernel_rfl)))
                      refine value_ (w1 := w') (v := .string (((a1.extract 0 (t215 : Int).toNat) ++ (rdOf ByteArray.empty y221 t224)) ++ (a1.extract (t215 : Int).toNat a1.size))) (by rfl) rfl ?_ ?_
                      · go_simp
                        (try simp only [i64_w])
                        try rfl
                        try assumption
                        try exact of_eq_true (by assumption)
                      refine hK.out _ _ ⟨v222, adz_v222, m6_, (by rw [ha.out]; exact putSel_upk 8 hb_ rfl rfl rfl), fun h0_ => absurd ((hon 5 (by kernel_rfl)).symm.trans h0_) (by decide), Q_HK, Q_HB, Q_HO223, Q_HA_HO223, Q_HI0_e5, Q_X6_⟩
                    exact steps_nil
                  rintro b a w27 hall ⟨v222, adz_v222, m6_, ha, Q_HI0, Q_HK, Q_HB, Q_HO223, Q_HA_HO223, Q_HI0_e5, Q_X6_⟩
                  clear HB HI0 HK
                  have hb2_ := hall 2 (by kernel_rfl)
                  have hb3_ := hall 3 (by kernel_rfl)
                  have hb5_ := hall 5 (by kernel_rfl)
                  have hb6_ := hall 6 (by kernel_rfl)
                  have hb7_ := hall 7 (by kernel_rfl)
                  have hb8_ := hall 8 (by kernel_rfl)
                  have hb11_ := hall 11 (by kernel_rfl)
                  have hb12_ := hall 12 (by kernel_rfl)
                  have hb13_ := hall 13 (by kernel_rfl)
                  subst ha
                  obtain rfl := Q_X6_ hb6_
                  simp only [putSel, hb2_, hb3_, hb5_, hb6_, hb7_, hb8_, hb11_, hb12_, hb13_, if_true, Act.put, List.setIfInBounds_toArray, List.set_cons_zero, List.set_cons_succ]
                  clear Q_HI0
                  have HK := Aside0.mk Q_HK
                  clear Q_HK
                  have HB := Aside0.mk Q_HB
                  clear Q_HB
                  have HO223 := Aside0.mk (Q_HO223 hb3_)
                  clear Q_HO223
                  have HA_HO223 := Aside0.mk (Q_HA_HO223 hb3_)
                  clear Q_HA_HO223
                  have HI0 := Aside0.mk (Q_HI0_e5 hb5_)
                  clear Q_HI0_e5
                  clear hall hb2_ hb3_ hb5_ hb6_ hb7_ hb8_ hb11_ hb12_ hb13_
                  obtain ⟨co28, eo28⟩ := HA_HO223.out
                  clear HA_HO223
                  subst eo28
                  try go_wp2
                  go_ret
                  exact ⟨by first | rfl | (simp [errW_none, errW_some] <;> rfl) | (simp [*, errW_none, errW_some] <;> rfl), by repeat (first | (with_reducible first | exact HI0.out | apply IsS56.alloc | apply IsS56.drewN | apply IsS56.drew | apply IsS56.set_1 | apply IsS56.set_2) | exact HI0.out), by repeat (first | (with_reducible first | exact HB.out | apply below_alloc | apply pw_below_drewN | apply below_drew1 | refine below_set ?_ (IsS56.ge HI0.out)) | exact HB.out), by repeat (first | (with_reducible first | exact HK.out | apply KeepBut.set_ | apply keep_drewN | apply keep_drew | apply keep_alloc) | exact HK.out)⟩
                · rw [if_neg c19] at H
                  exact absurd H (by simp)
              · rw [if_neg c16] at H
                exact absurd H (by simp)
            · rw [if_neg c15] at H
              exact absurd H (by simp)
          · rw [if_neg c14] at H
            exact absurd H (by simp)
        · rw [if_neg c12] at H
          exact absurd H (by simp)
      · rw [if_neg c11] at H
        exact absurd H (by simp)
    · rw [if_neg c10] at H
      have c10b0 : (t218 == 1) = false := beq_eq_false_iff_ne.mpr c10
      have c10b1 : (t218 != 1) = true := bne_iff_ne.mpr c10
      by_cases c29 : t218 = 2
      · rw [if_pos c29] at H
        have c29b0 : (t218 == 2) = true := beq_iff_eq.mpr c29
        have c29b1 : (t218 != 2) = false := bne_eq_false_iff_eq.mpr c29
        clear c29
        by_cases c30 : t215 < (a1.size : Int)
        · rw [if_pos c30] at H
          have c30b0 : decide (t215 < (a1.size : Int)) = true := decide_eq_true c30
          clear c30
          by_cases c31 : 0 ≤ t215
          · rw [if_pos c31] at H
            have c31b0 := eq_true c31
            have c31b1 : decide (0 ≤ t215) = true := decide_eq_true c31
            clear c31
            by_cases c32 : t215 ≤ (a1.size : Int)
            · rw [if_pos c32] at H
              have c32b0 := eq_true c32
              have c32b1 : decide (t215 ≤ (a1.size : Int)) = true := decide_eq_true c32
              clear c32
              obtain ⟨ji33, hji33⟩ : ∃ j_ : Int, (wrap64 (t215 + 1)) = j_ := ⟨_, rfl⟩
              replace H : (if 0 ≤ (ji33) then (if (ji33) ≤ (a1.size : Int) then (if (a1.extract 0 (t215 : Int).toNat).size + (a1.extract ((ji33) : Int).toNat a1.size).size ≤ 9223372036854775807 then (some ((a1.extract 0 (t215 : Int).toNat) ++ (a1.extract ((ji33) : Int).toNat a1.size), t219, t220)) else (none)) else (none)) else (none)) = some (r1, r2, r3) := by first | (rw [hji33] at H; exact H) | (simp only [hji33] at H ⊢; exact H)
              (try rw [hji33] at A3)
              (try rw [hji33] at A4)
              have hji33w : (IntKind.i64.wrap (t215 + 1)) = ji33 := (i64_w _).trans hji33
              by_cases c34 : 0 ≤ (ji33)
              · rw [if_pos c34] at H
                have c34b0 := eq_true c34
                have c34b1 : decide (0 ≤ (ji33)) = true := decide_eq_true c34
                clear c34
                by_cases c35 : (ji33) ≤ (a1.size : Int)
                · rw [if_pos c35] at H
                  have c35b0 := eq_true c35
                  have c35b1 : decide ((ji33) ≤ (a1.size : Int)) = true := decide_eq_true c35
                  clear c35
                  by_cases c36 : (a1.extract 0 (t215 : Int).toNat).size + (a1.extract ((ji33) : Int).toNat a1.size).size ≤ 9223372036854775807
                  · rw [if_pos c36] at H
                    have c36b0 := eq_true c36
                    have c36b1 : decide ((a1.extract 0 (t215 : Int).toNat).size + (a1.extract ((ji33) : Int).toNat a1.size).size ≤ 9223372036854775807) = true := decide_eq_true c36
                    try have c36b2 : (9223372036854775807 < (a1.extract 0 (t215 : Int).toNat).size + (a1.extract ((ji33) : Int).toNat a1.size).size) = False := eq_false (Nat.not_lt.2 c36)
                    have c36s : t215.toNat + (a1.size - ji33.toNat) ≤ 9223372036854775807 := (by have h_ := c36; have q_ : (t215 : Int) ≤ (a1.size : Int) := (by first | assumption | exact of_eq_true (by assumption) | exact of_decide_eq_true (by assumption)); simp only [ByteArray.size_append, ByteArray.size_extract] at h_; omega)
                    have c36s0 := eq_true c36s
                    have c36s2 := eq_false (Nat.not_lt.2 c36s)
                    clear c36s
                    simp only [Option.some.injEq, Prod.mk.injEq] at H
                    obtain ⟨rfl, rfl, rfl⟩ := H
                    go_enter Tryd.func32, Tryd.ntmps32
                    try go_wp2_with (first | ((with_reducible refine gate_callee (f := 26) rfl ?_); refine goesL_ (some 10) rfl rfl Tryd.func26 (by kernel_rfl) rfl #[.pointer (some ⟨g, 0, none⟩), .int .i64 (wrap64 ((a1.size : Int) + 1))] rfl (by (try simp only [List.map_toArray, List.map_cons, List.map_nil]); first | done | rfl | (simp only [List.length_drop, List.length_take]; rfl)) ?_; (with_reducible refine (spec_l01Next.calls g s0_0 s0_1 s0_2 (wrap64 ((a1.size : Int) + 1)) t215 t216 t217 w0 _ ?side1 ?side2 A3.out).mono ?_); (case side1 => repeat (first | (with_reducible first | exact HI0.out | apply IsS56.alloc | apply IsS56.drewN | apply IsS56.drew | apply IsS56.set_1 | apply IsS56.set_2) | exact HI0.out)); (case side2 => repeat (first | (with_reducible first | exact HB.out | apply below_alloc | apply pw_below_drewN | apply below_drew1 | refine below_set ?_ (IsS56.ge HI0.out)) | exact HB.out)); rintro e w37 ⟨rfl, hi, hb, hk⟩; refine ⟨_, rfl, ?_⟩; have n0_ := Aside0.mk (KeepBut.trans (by repeat (first | (with_reducible first | exact HK.out | apply KeepBut.set_ | apply keep_drewN | apply keep_drew | apply keep_alloc) | exact HK.out)) hk (.inl rfl)); have n1_ := Aside0.mk (hb); have n2_ := Aside0.mk (hi); clear HK; clear HB; clear HI0; have HK := n0_; have HB := n1_; have HI0 := n2_; clear n0_ n1_ n2_; (try clear hb); (try clear hb2); (try clear hk); (try clear hi)) | ((with_reducible refine gate_callee (f := 26) rfl ?_); refine goesL_ (some 12) rfl rfl Tryd.func26 (by kernel_rfl) rfl #[.pointer (some ⟨g, 0, none⟩), .int .i64 8] rfl (by (try simp only [List.map_toArray, List.map_cons, List.map_nil]); first | done | rfl | (simp only [List.length_drop, List.length_take]; rfl)) ?_; (with_reducible refine (spec_l01Next.calls g s0_0 t216 t217 8 t218 t219 t220 w0 _ ?side1 ?side2 A4.out).mono ?_); (case side1 => repeat (first | (with_reducible first | exact HI0.out | apply IsS56.alloc | apply IsS56.drewN | apply IsS56.drew | apply IsS56.set_1 | apply IsS56.set_2) | exact HI0.out)); (case side2 => repeat (first | (with_reducible first | exact HB.out | apply below_alloc | apply pw_below_drewN | apply below_drew1 | refine below_set ?_ (IsS56.ge HI0.out)) | exact HB.out)); rintro e w38 ⟨rfl, hi, hb, hk⟩; refine ⟨_, rfl, ?_⟩; have n0_ := Aside0.mk (KeepBut.trans (by repeat (first | (with_reducible first | exact HK.out | apply KeepBut.set_ | apply keep_drewN | apply keep_drew | apply keep_alloc) | exact HK.out)) hk (.inl rfl)); have n1_ := Aside0.mk (hb); have n2_ := Aside0.mk (hi); clear HK; clear HB; clear HI0; have HK := n0_; have HB := n1_; have HI0 := n2_; clear n0_ n1_ n2_; (try clear hb); (try clear hb2); (try clear hk); (try clear hi)))
                    have n0_ := Aside0.mk (IsS56.drew HI0.out)
                    have n1_ := Aside0.mk (keep_drew HK.out)
                    have n2_ := Aside0.mk (below_drew1 HB.out)
                    clear HI0
                    clear HK
                    clear HB
                    have HI0 := n0_
                    have HK := n1_
                    have HB := n2_
                    clear n0_ n1_ n2_
                    refine start_ (n := 9) (S := fun w' => True) (ds := []) #[false, false, false, false, false, false, false, false, false] (by kernel_rfl) rfl rfl trivial (fun hHeld => ?_); refine with_tabW spec_l01Damage.tab9 spec_l01Damage.bits9 (fun HT_ HW_ => ?_)
                    generalize w38.drew = w39 at HI0 HK HB hHeld ⊢
                    refine pure_ (i := 0) (N := some 39) (v := ?_) (a' := ?_) #[true, false, false, false, false, false, false, false, false] rfl rfl (any_of HT_.out (by kernel_rfl)) (fun _ _ _ h => h) (Or.inl ⟨by rfl, ?_⟩) ?_ ?_
                    rotate_left
                    · intro w'
                      go_simp
                      with_reducible rfl
                    rotate_left
                    · simp only [Act.put, List.setIfInBounds_toArray, List.set_cons_zero, List.set_cons_succ, i64_w, i32_w]
                      rfl
                    refine pure_ (i := 1) (N := some 40) (v := ?_) (a' := ?_) #[true, true, false, false, false, false, false, false, false] rfl rfl (any_of HT_.out (by kernel_rfl)) (fun _ _ _ h => h) (Or.inl ⟨by rfl, ?_⟩) ?_ ?_
                    rotate_left
                    · intro w'
                      go_simp
                      with_reducible rfl
                    rotate_left
                    · simp only [Act.put, List.setIfInBounds_toArray, List.set_cons_zero, List.set_cons_succ, i64_w, i32_w]
                      rfl
                    refine pure_ (i := 2) (N := some 41) (v := ?_) (a' := ?_) #[true, true, true, false, false, false, false, false, false] rfl rfl (any_of HT_.out (by kernel_rfl)) (fun _ _ _ h => h) (Or.inl ⟨by rfl, ?_⟩) ?_ ?_
                    rotate_left
                    · intro w'
                      go_simp
                      with_reducible rfl
                    rotate_left
                    · simp only [Act.put, List.setIfInBounds_toArray, List.set_cons_zero, List.set_cons_succ, i64_w, i32_w]
                      rfl
                    refine pure_ (i := 3) (N := some 42) (v := ?_) (a' := ?_) #[true, true, true, true, false, false, false, false, false] rfl rfl (any_of HT_.out (by kernel_rfl)) (fun _ _ _ h => h) (Or.inl ⟨by rfl, ?_⟩) ?_ ?_
                    rotate_left
                    · intro w'
                      go_simp
                      with_reducible rfl
                    rotate_left
                    · simp only [Act.put, List.setIfInBounds_toArray, List.set_cons_zero, List.set_cons_succ, i64_w, i32_w]
                      rfl
                    refine pure_ (i := 4) (N := some 43) (v := ?_) (a' := ?_) #[true, true, true, true, true, false, false, false, false] rfl rfl (any_of HT_.out (by kernel_rfl)) (fun _ _ _ h => h) (Or.inl ⟨by rfl, ?_⟩) ?_ ?_
                    rotate_left
                    · intro w'
                      go_simp
                      with_reducible rfl
                    rotate_left
                    · simp only [Act.put, List.setIfInBounds_toArray, List.set_cons_zero, List.set_cons_succ, i64_w, i32_w]
                      rfl
                    refine pure_ (i := 5) (N := some 44) (v := ?_) (a' := ?_) #[true, true, true, true, true, true, false, false, false] rfl rfl (any_of HT_.out (by kernel_rfl)) (fun _ _ _ h => h) (Or.inl ⟨by rfl, ?_⟩) ?_ ?_
                    rotate_left
                    · intro w'
                      go_simp
                      with_reducible rfl
                    rotate_left
                    · simp only [Act.put, List.setIfInBounds_toArray, List.set_cons_zero, List.set_cons_succ, i64_w, i32_w]
                      rfl
                    refine pure_ (i := 6) (N := some 45) (v := ?_) (a' := ?_) #[true, true, true, true, true, true, true, false, false] rfl rfl (any_of HT_.out (by kernel_rfl)) (fun _ _ _ h => h) (Or.inl ⟨by rfl, ?_⟩) ?_ ?_
                    rotate_left
                    · intro w'
                      go_simp
                      with_reducible rfl
                    rotate_left
                    · simp only [Act.put, List.setIfInBounds_toArray, List.set_cons_zero, List.set_cons_succ, i64_w, i32_w]
                      rfl
                    refine pure_ (i := 7) (N := some 46) (v := ?_) (a' := ?_) #[true, true, true, true, true, true, true, true, false] rfl rfl (any_of HT_.out (by kernel_rfl)) (fun _ _ _ h => h) (Or.inl ⟨by rfl, ?_⟩) ?_ ?_
                    rotate_left
                    · intro w'
                      go_simp
                      with_reducible rfl
                    rotate_left
                    · simp only [Act.put, List.setIfInBounds_toArray, List.set_cons_zero, List.set_cons_succ, i64_w, i32_w]
                      rfl
                    refine pure_ (i := 8) (N := some 4) (v := ?_) (a' := ?_) #[true, true, true, true, true, true, true, true, true] rfl rfl (any_of HT_.out (by kernel_rfl)) (fun _ _ _ h => h) (Or.inl ⟨by rfl, ?_⟩) ?_ ?_
                    rotate_left
                    · intro w'
                      go_simp
                      with_reducible rfl
                    rotate_left
                    · simp only [Act.put, List.setIfInBounds_toArray, List.set_cons_zero, List.set_cons_succ, i64_w, i32_w]
                      rfl
                    refine done_ (done_of HT_.out (by kernel_rfl)) ?_
                    try go_wp2
                    go_ret
                    exact ⟨by first | rfl | (simp [errW_none, errW_some] <;> rfl) | (simp only [← hji33]; first | rfl | (simp [errW_none, errW_some] <;> rfl)) | (simp [*, errW_none, errW_some] <;> rfl), by repeat (first | (with_reducible first | exact HI0.out | apply IsS56.alloc | apply IsS56.drewN | apply IsS56.drew | apply IsS56.set_1 | apply IsS56.set_2) | exact HI0.out), by repeat (first | (with_reducible first | exact HB.out | apply below_alloc | apply pw_below_drewN | apply below_drew1 | refine below_set ?_ (IsS56.ge HI0.out)) | exact HB.out), by repeat (first | (with_reducible first | exact HK.out | apply KeepBut.set_ | apply keep_drewN | apply keep_drew | apply keep_alloc) | exact HK.out)⟩
                  · rw [if_neg c36] at H
                    exact absurd H (by simp)
                · rw [if_neg c35] at H
                  exact absurd H (by simp)
              · rw [if_neg c34] at H
                exact absurd H (by simp)
            · rw [if_neg c32] at H
              exact absurd H (by simp)
          · rw [if_neg c31] at H
            exact absurd H (by simp)
        · rw [if_neg c30] at H
          have c30b0 : decide (t215 < (a1.size : Int)) = false := decide_eq_false c30
          clear c30
          simp only [Option.some.injEq, Prod.mk.injEq] at H
          obtain ⟨rfl, rfl, rfl⟩ := H
          go_enter Tryd.func32, Tryd.ntmps32
          go_wp2_with (first | ((with_reducible refine gate_callee (f := 26) rfl ?_); refine goesL_ (some 10) rfl rfl Tryd.func26 (by kernel_rfl) rfl #[.pointer (some ⟨g, 0, none⟩), .int .i64 (wrap64 ((a1.size : Int) + 1))] rfl (by (try simp only [List.map_toArray, List.map_cons, List.map_nil]); first | done | rfl | (simp only [List.length_drop, List.length_take]; rfl)) ?_; (with_reducible refine (spec_l01Next.calls g s0_0 s0_1 s0_2 (wrap64 ((a1.size : Int) + 1)) t215 t216 t217 w0 _ ?side1 ?side2 A3.out).mono ?_); (case side1 => repeat (first | (with_reducible first | exact HI0.out | apply IsS56.alloc | apply IsS56.drewN | apply IsS56.drew | apply IsS56.set_1 | apply IsS56.set_2) | exact HI0.out)); (case side2 => repeat (first | (with_reducible first | exact HB.out | apply below_alloc | apply pw_below_drewN | apply below_drew1 | refine below_set ?_ (IsS56.ge HI0.out)) | exact HB.out)); rintro e w40 ⟨rfl, hi, hb, hk⟩; refine ⟨_, rfl, ?_⟩; have n0_ := Aside0.mk (KeepBut.trans (by repeat (first | (with_reducible first | exact HK.out | apply KeepBut.set_ | apply keep_drewN | apply keep_drew | apply keep_alloc) | exact HK.out)) hk (.inl rfl)); have n1_ := Aside0.mk (hb); have n2_ := Aside0.mk (hi); clear HK; clear HB; clear HI0; have HK := n0_; have HB := n1_; have HI0 := n2_; clear n0_ n1_ n2_; (try clear hb); (try clear hb2); (try clear hk); (try clear hi)) | ((with_reducible refine gate_callee (f := 26) rfl ?_); refine goesL_ (some 12) rfl rfl Tryd.func26 (by kernel_rfl) rfl #[.pointer (some ⟨g, 0, none⟩), .int .i64 8] rfl (by (try simp only [List.map_toArray, List.map_cons, List.map_nil]); first | done | rfl | (simp only [List.length_drop, List.length_take]; rfl)) ?_; (with_reducible refine (spec_l01Next.calls g s0_0 t216 t217 8 t218 t219 t220 w0 _ ?side1 ?side2 A4.out).mono ?_); (case side1 => repeat (first | (with_reducible first | exact HI0.out | apply IsS56.alloc | apply IsS56.drewN | apply IsS56.drew | apply IsS56.set_1 | apply IsS56.set_2) | exact HI0.out)); (case side2 => repeat (first | (with_reducible first | exact HB.out | apply below_alloc | apply pw_below_drewN | apply below_drew1 | refine below_set ?_ (IsS56.ge HI0.out)) | exact HB.out)); rintro e w41 ⟨rfl, hi, hb, hk⟩; refine ⟨_, rfl, ?_⟩; have n0_ := Aside0.mk (KeepBut.trans (by repeat (first | (with_reducible first | exact HK.out | apply KeepBut.set_ | apply keep_drewN | apply keep_drew | apply keep_alloc) | exact HK.out)) hk (.inl rfl)); have n1_ := Aside0.mk (hb); have n2_ := Aside0.mk (hi); clear HK; clear HB; clear HI0; have HK := n0_; have HB := n1_; have HI0 := n2_; clear n0_ n1_ n2_; (try clear hb); (try clear hb2); (try clear hk); (try clear hi)))
          go_ret
          exact ⟨by first | rfl | (simp [errW_none, errW_some] <;> rfl) | (simp [*, errW_none, errW_some] <;> rfl), by repeat (first | (with_reducible first | exact HI0.out | apply IsS56.alloc | apply IsS56.drewN | apply IsS56.drew | apply IsS56.set_1 | apply IsS56.set_2) | exact HI0.out), by repeat (first | (with_reducible first | exact HB.out | apply below_alloc | apply pw_below_drewN | apply below_drew1 | refine below_set ?_ (IsS56.ge HI0.out)) | exact HB.out), by repeat (first | (with_reducible first | exact HK.out | apply KeepBut.set_ | apply keep_drewN | apply keep_drew | apply keep_alloc) | exact HK.out)⟩
      · rw [if_neg c29] at H
        have c29b0 : (t218 == 2) = false := beq_eq_false_iff_ne.mpr c29
        have c29b1 : (t218 != 2) = true := bne_iff_ne.mpr c29
        simp only [Option.some.injEq, Prod.mk.injEq] at H
        obtain ⟨rfl, rfl, rfl⟩ := H
        go_enter Tryd.func32, Tryd.ntmps32
        go_wp2_with (first | ((with_reducible refine gate_callee (f := 26) rfl ?_); refine goesL_ (some 10) rfl rfl Tryd.func26 (by kernel_rfl) rfl #[.pointer (some ⟨g, 0, none⟩), .int .i64 (wrap64 ((a1.size : Int) + 1))] rfl (by (try simp only [List.map_toArray, List.map_cons, List.map_nil]); first | done | rfl | (simp only [List.length_drop, List.length_take]; rfl)) ?_; (with_reducible refine (spec_l01Next.calls g s0_0 s0_1 s0_2 (wrap64 ((a1.size : Int) + 1)) t215 t216 t217 w0 _ ?side1 ?side2 A3.out).mono ?_); (case side1 => repeat (first | (with_reducible first | exact HI0.out | apply IsS56.alloc | apply IsS56.drewN | apply IsS56.drew | apply IsS56.set_1 | apply IsS56.set_2) | exact HI0.out)); (case side2 => repeat (first | (with_reducible first | exact HB.out | apply below_alloc | apply pw_below_drewN | apply below_drew1 | refine below_set ?_ (IsS56.ge HI0.out)) | exact HB.out)); rintro e w42 ⟨rfl, hi, hb, hk⟩; refine ⟨_, rfl, ?_⟩; have n0_ := Aside0.mk (KeepBut.trans (by repeat (first | (with_reducible first | exact HK.out | apply KeepBut.set_ | apply keep_drewN | apply keep_drew | apply keep_alloc) | exact HK.out)) hk (.inl rfl)); have n1_ := Aside0.mk (hb); have n2_ := Aside0.mk (hi); clear HK; clear HB; clear HI0; have HK := n0_; have HB := n1_; have HI0 := n2_; clear n0_ n1_ n2_; (try clear hb); (try clear hb2); (try clear hk); (try clear hi)) | ((with_reducible refine gate_callee (f := 26) rfl ?_); refine goesL_ (some 12) rfl rfl Tryd.func26 (by kernel_rfl) rfl #[.pointer (some ⟨g, 0, none⟩), .int .i64 8] rfl (by (try simp only [List.map_toArray, List.map_cons, List.map_nil]); first | done | rfl | (simp only [List.length_drop, List.length_take]; rfl)) ?_; (with_reducible refine (spec_l01Next.calls g s0_0 t216 t217 8 t218 t219 t220 w0 _ ?side1 ?side2 A4.out).mono ?_); (case side1 => repeat (first | (with_reducible first | exact HI0.out | apply IsS56.alloc | apply IsS56.drewN | apply IsS56.drew | apply IsS56.set_1 | apply IsS56.set_2) | exact HI0.out)); (case side2 => repeat (first | (with_reducible first | exact HB.out | apply below_alloc | apply pw_below_drewN | apply below_drew1 | refine below_set ?_ (IsS56.ge HI0.out)) | exact HB.out)); rintro e w43 ⟨rfl, hi, hb, hk⟩; refine ⟨_, rfl, ?_⟩; have n0_ := Aside0.mk (KeepBut.trans (by repeat (first | (with_reducible first | exact HK.out | apply KeepBut.set_ | apply keep_drewN | apply keep_drew | apply keep_alloc) | exact HK.out)) hk (.inl rfl)); have n1_ := Aside0.mk (hb); have n2_ := Aside0.mk (hi); clear HK; clear HB; clear HI0; have HK := n0_; have HB := n1_; have HI0 := n2_; clear n0_ n1_ n2_; (try clear hb); (try clear hb2); (try clear hk); (try clear hi)))
        go_ret
        exact ⟨by first | rfl | (simp [errW_none, errW_some] <;> rfl) | (simp [*, errW_none, errW_some] <;> rfl), by repeat (first | (with_reducible first | exact HI0.out | apply IsS56.alloc | apply IsS56.drewN | apply IsS56.drew | apply IsS56.set_1 | apply IsS56.set_2) | exact HI0.out), by repeat (first | (with_reducible first | exact HB.out | apply below_alloc | apply pw_below_drewN | apply below_drew1 | refine below_set ?_ (IsS56.ge HI0.out)) | exact HB.out), by repeat (first | (with_reducible first | exact HK.out | apply KeepBut.set_ | apply keep_drewN | apply keep_drew | apply keep_alloc) | exact HK.out)⟩

/-! ### spec_DrawReadCode: function 17 -/
def spec_DrawReadCode.f (k : Nat) (l0 : List Int) : Option (ByteArray) := (spec_l01From.f k l0).bind fun bt228 => ((spec_l01Next.f bt228.1 bt228.2.1 bt228.2.2 1000).bind fun bt232 => ((spec_l01Next.f bt228.1 bt232.2.1 bt232.2.2 100).bind fun bt235 => ((spec_l15Make.f k bt232.1 bt235.1).bind fun t238 => ((spec_l15Digits.f k t238).bind fun t239 => ((spec_l01Join.f k t239 (⟨#[]⟩ : ByteArray)).bind fun t242 => ((spec_l01Next.f bt228.1 bt235.2.1 bt235.2.2 3).bind fun bt243 => (if bt243.1 = 0 then ((spec_l01Damage.f bt228.1 bt243.2.1 bt243.2.2 t242).bind fun bt246 => (some bt246.1)) else (some t242))))))))
theorem spec_DrawReadCode.mono : ∀ a0 k, LeO (spec_DrawReadCode.f k a0) (spec_DrawReadCode.f (k + 1) a0) := by
  intro a0 k
  unfold spec_DrawReadCode.f
  repeat' first
      | (with_reducible exact spec_l01From.mono _ _)
      | (with_reducible exact spec_l01Join.mono _ _ _)
      | (with_reducible exact spec_l15Digits.mono _ _)
      | (with_reducible exact spec_l15Make.mono _ _ _)
      | (with_reducible exact LeO.refl _)
      | (with_reducible exact LeO.none _)
      | (with_reducible refine LeO.ite ?_ ?_)
      | (with_reducible refine LeO.bind ?_ (fun _ => ?_))
      | exact spec_l01From.mono _ _
      | exact spec_l01Join.mono _ _ _
      | exact spec_l15Digits.mono _ _
      | exact spec_l15Make.mono _ _ _
      | exact LeO.none _
      | refine LeO.ite ?_ ?_
      | refine LeO.bind ?_ (fun _ => ?_)
set_option maxHeartbeats 8000000 in
set_option maxRecDepth 100000 in
theorem spec_DrawReadCode.calls (k : Nat) (A0 : Option Addr) (c0 : Nat) (l0 : List Int) (r : ByteArray) (w : World) (hr0 : Kd.C (Kd.int .u8) w A0 l0.length l0) (hc0 : l0.length ≤ c0) (h : spec_DrawReadCode.f k l0 = some r) :
    Calls Tryd.prog 17 #[.slice A0 l0.length c0] w fun e w' => e = .returned (.string r) ∧ Below w.heap.size w w' := by
  have HR0 := Aside0.mk hr0
  have HC0 := Aside0.mk hc0
  clear hr0 hc0
  have HB := Aside0.mk (Below.refl w.heap.size w)
  have H : ((spec_l01From.f k l0).bind fun bt228 => ((spec_l01Next.f bt228.1 bt228.2.1 bt228.2.2 1000).bind fun bt232 => ((spec_l01Next.f bt228.1 bt232.2.1 bt232.2.2 100).bind fun bt235 => ((spec_l15Make.f k bt232.1 bt235.1).bind fun t238 => ((spec_l15Digits.f k t238).bind fun t239 => ((spec_l01Join.f k t239 (⟨#[]⟩ : ByteArray)).bind fun t242 => ((spec_l01Next.f bt228.1 bt235.2.1 bt235.2.2 3).bind fun bt243 => (if bt243.1 = 0 then ((spec_l01Damage.f bt228.1 bt243.2.1 bt243.2.2 t242).bind fun bt246 => (some bt246.1)) else (some t242))))))))) = some r := h
  clear h
  replace H := Option.bind_eq_some_iff.mp H
  obtain ⟨⟨t228, t229, t230⟩, A20, H⟩ := H
  replace H : ((spec_l01Next.f t228 t229 t230 1000).bind fun bt232 => ((spec_l01Next.f t228 bt232.2.1 bt232.2.2 100).bind fun bt235 => ((spec_l15Make.f k bt232.1 bt235.1).bind fun t238 => ((spec_l15Digits.f k t238).bind fun t239 => ((spec_l01Join.f k t239 (⟨#[]⟩ : ByteArray)).bind fun t242 => ((spec_l01Next.f t228 bt235.2.1 bt235.2.2 3).bind fun bt243 => (if bt243.1 = 0 then ((spec_l01Damage.f t228 bt243.2.1 bt243.2.2 t242).bind fun bt246 => (some bt246.1)) else (some t242)))))))) = some r := H
  have A2 := Aside0.mk A20
  clear A20
  replace H := Option.bind_eq_some_iff.mp H
  obtain ⟨⟨t232, t233, t234⟩, A30, H⟩ := H
  replace H : ((spec_l01Next.f t228 t233 t234 100).bind fun bt235 => ((spec_l15Make.f k t232 bt235.1).bind fun t238 => ((spec_l15Digits.f k t238).bind fun t239 => ((spec_l01Join.f k t239 (⟨#[]⟩ : ByteArray)).bind fun t242 => ((spec_l01Next.f t228 bt235.2.1 bt235.2.2 3).bind fun bt243 => (if bt243.1 = 0 then ((spec_l01Damage.f t228 bt243.2.1 bt243.2.2 t242).bind fun bt246 => (some bt246.1)) else (some t242))))))) = some r := H
  have A3 := Aside0.mk A30
  clear A30
  replace H := Option.bind_eq_some_iff.mp H
  obtain ⟨⟨t235, t236, t237⟩, A40, H⟩ := H
  replace H : ((spec_l15Make.f k t232 t235).bind fun t238 => ((spec_l15Digits.f k t238).bind fun t239 => ((spec_l01Join.f k t239 (⟨#[]⟩ : ByteArray)).bind fun t242 => ((spec_l01Next.f t228 t236 t237 3).bind fun bt243 => (if bt243.1 = 0 then ((spec_l01Damage.f t228 bt243.2.1 bt243.2.2 t242).bind fun bt246 => (some bt246.1)) else (some t242)))))) = some r := H
  have A4 := Aside0.mk A40
  clear A40
  replace H := Option.bind_eq_some_iff.mp H
  obtain ⟨t238, A50, H⟩ := H
  replace H : ((spec_l15Digits.f k t238).bind fun t239 => ((spec_l01Join.f k t239 (⟨#[]⟩ : ByteArray)).bind fun t242 => ((spec_l01Next.f t228 t236 t237 3).bind fun bt243 => (if bt243.1 = 0 then ((spec_l01Damage.f t228 bt243.2.1 bt243.2.2 t242).bind fun bt246 => (some bt246.1)) else (some t242))))) = some r := H
  have A5 := Aside0.mk A50
  clear A50
  replace H := Option.bind_eq_some_iff.mp H
  obtain ⟨t239, A60, H⟩ := H
  replace H : ((spec_l01Join.f k t239 (⟨#[]⟩ : ByteArray)).bind fun t242 => ((spec_l01Next.f t228 t236 t237 3).bind fun bt243 => (if bt243.1 = 0 then ((spec_l01Damage.f t228 bt243.2.1 bt243.2.2 t242).bind fun bt246 => (some bt246.1)) else (some t242)))) = some r := H
  have A6 := Aside0.mk A60
  clear A60
  replace H := Option.bind_eq_some_iff.mp H
  obtain ⟨t242, A70, H⟩ := H
  replace H : ((spec_l01Next.f t228 t236 t237 3).bind fun bt243 => (if bt243.1 = 0 then ((spec_l01Damage.f t228 bt243.2.1 bt243.2.2 t242).bind fun bt246 => (some bt246.1)) else (some t242))) = some r := H
  have A7 := Aside0.mk A70
  clear A70
  replace H := Option.bind_eq_some_iff.mp H
  obtain ⟨⟨t243, t244, t245⟩, A80, H⟩ := H
  replace H : (if t243 = 0 then ((spec_l01Damage.f t228 t244 t245 t242).bind fun bt246 => (some bt246.1)) else (some t242)) = some r := H
  have A8 := Aside0.mk A80
  clear A80
  by_cases c9 : t243 = 0
  · rw [if_pos c9] at H
    have c9b0 : (t243 == 0) = true := beq_iff_eq.mpr c9
    have c9b1 : (t243 != 0) = false := bne_eq_false_iff_eq.mpr c9
    clear c9
    replace H := Option.bind_eq_some_iff.mp H
    obtain ⟨⟨t246, t247, t248⟩, A100, H⟩ := H
    replace H : (some t246) = some r := H
    have A10 := Aside0.mk A100
    clear A100
    obtain rfl := Option.some.inj H
    go_enter Tryd.func17, Tryd.ntmps17
    go_wp2_with (first | ((with_reducible refine gate_callee (f := 25) rfl ?_); refine goesL_ (some 6) rfl rfl Tryd.func25 (by kernel_rfl) rfl #[.slice A0 l0.length c0] rfl (by (try simp only [List.map_toArray, List.map_cons, List.map_nil]); first | done | rfl | (simp only [List.length_drop, List.length_take]; rfl)) ?_; (with_reducible refine (spec_l01From.calls k _ _ l0 t228 t229 t230 w _ ?side1 ?side2 ?side3 A2.out).mono ?_); (case side1 => repeat (first | (with_reducible first | exact HB.out | apply below_alloc | apply pw_below_drewN | apply below_drew1) | exact HB.out)); (case side2 => exact HR0.out); (case side3 => exact HC0.out); rintro e w11 ⟨g231, rfl, hi, hb, hb2⟩; refine ⟨_, rfl, ?_⟩; have n0_ := Aside0.mk (hb); have n1_ := Aside0.mk (hi); clear HB; have HB := n0_; have HI231 := n1_; clear n0_ n1_; (try clear hb); (try clear hb2); (try clear hk); (try clear hi)) | ((with_reducible refine gate_callee (f := 26) rfl ?_); refine goesL_ (some 8) rfl rfl Tryd.func26 (by kernel_rfl) rfl #[.pointer (some ⟨g231, 0, none⟩), .int .i64 1000] rfl (by (try simp only [List.map_toArray, List.map_cons, List.map_nil]); first | done | rfl | (simp only [List.length_drop, List.length_take]; rfl)) ?_; (with_reducible refine (spec_l01Next.calls g231 t228 t229 t230 1000 t232 t233 t234 w _ ?side1 ?side2 A3.out).mono ?_); (case side1 => repeat (first | (with_reducible first | exact HI231.out | apply IsS56.alloc | apply IsS56.drewN | apply IsS56.drew | apply IsS56.set_1 | apply IsS56.set_2) | exact HI231.out)); (case side2 => repeat (first | (with_reducible first | exact HB.out | apply below_alloc | apply pw_below_drewN | apply below_drew1 | refine below_set ?_ (IsS56.ge HI231.out)) | exact HB.out)); rintro e w12 ⟨rfl, hi, hb, hk⟩; refine ⟨_, rfl, ?_⟩; have n0_ := Aside0.mk (hb); have n1_ := Aside0.mk (hi); clear HB; clear HI231; have HB := n0_; have HI231 := n1_; clear n0_ n1_; (try clear hb); (try clear hb2); (try clear hk); (try clear hi)) | ((with_reducible refine gate_callee (f := 26) rfl ?_); refine goesL_ (some 10) rfl rfl Tryd.func26 (by kernel_rfl) rfl #[.pointer (some ⟨g231, 0, none⟩), .int .i64 100] rfl (by (try simp only [List.map_toArray, List.map_cons, List.map_nil]); first | done | rfl | (simp only [List.length_drop, List.length_take]; rfl)) ?_; (with_reducible refine (spec_l01Next.calls g231 t228 t233 t234 100 t235 t236 t237 w _ ?side1 ?side2 A4.out).mono ?_); (case side1 => repeat (first | (with_reducible first | exact HI231.out | apply IsS56.alloc | apply IsS56.drewN | apply IsS56.drew | apply IsS56.set_1 | apply IsS56.set_2) | exact HI231.out)); (case side2 => repeat (first | (with_reducible first | exact HB.out | apply below_alloc | apply pw_below_drewN | apply below_drew1 | refine below_set ?_ (IsS56.ge HI231.out)) | exact HB.out)); rintro e w13 ⟨rfl, hi, hb, hk⟩; refine ⟨_, rfl, ?_⟩; have n0_ := Aside0.mk (hb); have n1_ := Aside0.mk (hi); clear HB; clear HI231; have HB := n0_; have HI231 := n1_; clear n0_ n1_; (try clear hb); (try clear hb2); (try clear hk); (try clear hi)) | ((with_reducible refine gate_callee (f := 30) rfl ?_); refine goesL_ (some 11) rfl rfl Tryd.func30 (by kernel_rfl) rfl #[.int .i64 t232, .int .i64 t235] rfl (by (try simp only [List.map_toArray, List.map_cons, List.map_nil]); first | done | rfl | (simp only [List.length_drop, List.length_take]; rfl)) ?_; (with_reducible refine (spec_l15Make.calls k t232 t235 t238 _ A5.out).mono ?_); rintro e w' ⟨rfl, ⟨nd, rfl⟩⟩; refine ⟨_, rfl, ?_⟩) | ((with_reducible refine gate_callee (f := 21) rfl ?_); refine goesL_ (some 12) rfl rfl Tryd.func21 (by kernel_rfl) rfl #[.int .i64 t238] rfl (by (try simp only [List.map_toArray, List.map_cons, List.map_nil]); first | done | rfl | (simp only [List.length_drop, List.length_take]; rfl)) ?_; (with_reducible refine (spec_l15Digits.calls k t238 t239 _ A6.out).mono ?_); rintro e w14 ⟨v240, rfl, ho0, hb⟩; refine ⟨_, rfl, ?_⟩; have n0_ := Aside0.mk (Kd.R_lower ho0 (below_size (by repeat (first | (with_reducible first | exact HB.out | apply below_alloc | apply pw_below_drewN | apply below_drew1 | refine below_set ?_ (IsS56.ge HI231.out)) | exact HB.out)))); have n1_ := Aside0.mk (IsS56.below (by repeat (first | (with_reducible first | exact HI231.out | apply IsS56.alloc | apply IsS56.drewN | apply IsS56.drew | apply IsS56.set_1 | apply IsS56.set_2) | exact HI231.out)) hb); have n2_ := Aside0.mk (below_step (by repeat (first | (with_reducible first | exact HB.out | apply below_alloc | apply pw_below_drewN | apply below_drew1 | refine below_set ?_ (IsS56.ge HI231.out)) | exact HB.out)) hb); clear HI231; clear HB; have HO241 := n0_; have HI231 := n1_; have HB := n2_; clear n0_ n1_ n2_; (try clear hb); (try clear hb2); (try clear hk); (try clear hi); (try clear ho0); obtain ⟨Ao15, co15, eo15⟩ := Kd.R_slice HO241.out; subst eo15) | ((with_reducible refine gate_callee (f := 20) rfl ?_); refine goesL_ (some 13) rfl rfl Tryd.func20 (by kernel_rfl) rfl #[.slice Ao15 t239.length co15, .string (⟨#[]⟩ : ByteArray)] rfl (by (try simp only [List.map_toArray, List.map_cons, List.map_nil]); first | done | rfl | (simp only [List.length_drop, List.length_take]; rfl)) ?_; (with_reducible refine (spec_l01Join.calls k _ _ t239 (⟨#[]⟩ : ByteArray) t242 _ ?side1 ?side2 A7.out).mono ?_); (case side1 => repeat (first | exact (Kd.R_reads' HO241.out).2.2 | (with_reducible refine Kd.C_alloc ?_ _) | (with_reducible refine Kd.C_drewN ?_ _) | (with_reducible refine Kd.C_drew ?_))); (case side2 => exact (Kd.R_reads' HO241.out).2.1); rintro e w16 ⟨rfl, hb⟩; refine ⟨_, rfl, ?_⟩; have n0_ := Aside0.mk (Kd.R_below (by (with_reducible repeat (first | apply Kd.R_alloc | apply Kd.R_drewN | apply Kd.R_drew)); exact HO241.out) hb); have n1_ := Aside0.mk (IsS56.below (by repeat (first | (with_reducible first | exact HI231.out | apply IsS56.alloc | apply IsS56.drewN | apply IsS56.drew | apply IsS56.set_1 | apply IsS56.set_2) | exact HI231.out)) hb); have n2_ := Aside0.mk (below_step (by repeat (first | (with_reducible first | exact HB.out | apply below_alloc | apply pw_below_drewN | apply below_drew1 | refine below_set ?_ (IsS56.ge HI231.out)) | exact HB.out)) hb); clear HO241; clear HI231; clear HB; have HO241 := n0_; have HI231 := n1_; have HB := n2_; clear n0_ n1_ n2_; (try clear hb); (try clear hb2); (try clear hk); (try clear hi)) | ((with_reducible refine gate_callee (f := 26) rfl ?_); refine goesL_ (some 15) rfl rfl Tryd.func26 (by kernel_rfl) rfl #[.pointer (some ⟨g231, 0, none⟩), .int .i64 3] rfl (by (try simp only [List.map_toArray, List.map_cons, List.map_nil]); first | done | rfl | (simp only [List.length_drop, List.length_take]; rfl)) ?_; (with_reducible refine (spec_l01Next.calls g231 t228 t236 t237 3 t243 t244 t245 w _ ?side1 ?side2 A8.out).mono ?_); (case side1 => repeat (first | (with_reducible first | exact HI231.out | apply IsS56.alloc | apply IsS56.drewN | apply IsS56.drew | apply IsS56.set_1 | apply IsS56.set_2) | exact HI231.out)); (case side2 => repeat (first | (with_reducible first | exact HB.out | apply below_alloc | apply pw_below_drewN | apply below_drew1 | refine below_set ?_ (IsS56.ge HI231.out)) | exact HB.out)); rintro e w17 ⟨rfl, hi, hb, hk⟩; refine ⟨_, rfl, ?_⟩; have n0_ := Aside0.mk (Kd.R_mono (Kd.R_keep (IsS56.apart (show IsS56 w _ g231 t228 t236 t237 from by repeat (first | (with_reducible first | exact HI231.out | apply IsS56.alloc | apply IsS56.drewN | apply IsS56.drew | apply IsS56.set_1 | apply IsS56.set_2) | exact HI231.out)) (by (with_reducible repeat (first | apply Kd.R_alloc | apply Kd.R_drewN | apply Kd.R_drew)); exact HO241.out) (by decide)) hk (fun _ h => h.2)) (fun _ h => h.1)); have n1_ := Aside0.mk (hb); have n2_ := Aside0.mk (hi); clear HO241; clear HB; clear HI231; have HO241 := n0_; have HB := n1_; have HI231 := n2_; clear n0_ n1_ n2_; (try clear hb); (try clear hb2); (try clear hk); (try clear hi)) | ((with_reducible refine gate_callee (f := 32) rfl ?_); refine goesL_ (some 19) rfl rfl Tryd.func32 (by kernel_rfl) rfl #[.pointer (some ⟨g231, 0, none⟩), .string t242] rfl (by (try simp only [List.map_toArray, List.map_cons, List.map_nil]); first | done | rfl | (simp only [List.length_drop, List.length_take]; rfl)) ?_; (with_reducible refine (spec_l01Damage.calls g231 t228 t244 t245 t242 t246 t247 t248 w _ ?side1 ?side2 A10.out).mono ?_); (case side1 => repeat (first | (with_reducible first | exact HI231.out | apply IsS56.alloc | apply IsS56.drewN | apply IsS56.drew | apply IsS56.set_1 | apply IsS56.set_2) | exact HI231.out)); (case side2 => repeat (first | (with_reducible first | exact HB.out | apply below_alloc | apply pw_below_drewN | apply below_drew1 | refine below_set ?_ (IsS56.ge HI231.out)) | exact HB.out)); rintro e w18 ⟨rfl, hi, hb, hk⟩; refine ⟨_, rfl, ?_⟩; have n0_ := Aside0.mk (Kd.R_mono (Kd.R_keep (IsS56.apart (show IsS56 w _ g231 t228 t244 t245 from by repeat (first | (with_reducible first | exact HI231.out | apply IsS56.alloc | apply IsS56.drewN | apply IsS56.drew | apply IsS56.set_1 | apply IsS56.set_2) | exact HI231.out)) (by (with_reducible repeat (first | apply Kd.R_alloc | apply Kd.R_drewN | apply Kd.R_drew)); exact HO241.out) (by decide)) hk (fun _ h => h.2)) (fun _ h => h.1)); have n1_ := Aside0.mk (hb); have n2_ := Aside0.mk (hi); clear HO241; clear HB; clear HI231; have HO241 := n0_; have HB := n1_; have HI231 := n2_; clear n0_ n1_ n2_; (try clear hb); (try clear hb2); (try clear hk); (try clear hi)))
    go_ret
    exact ⟨by first | rfl | (simp [errW_none, errW_some] <;> rfl) | (simp [*, errW_none, errW_some] <;> rfl), by repeat (first | (with_reducible first | exact HB.out | apply below_alloc | apply pw_below_drewN | apply below_drew1 | refine below_set ?_ (IsS56.ge HI231.out)) | exact HB.out)⟩
  · rw [if_neg c9] at H
    have c9b0 : (t243 == 0) = false := beq_eq_false_iff_ne.mpr c9
    have c9b1 : (t243 != 0) = true := bne_iff_ne.mpr c9
    obtain rfl := Option.some.inj H
    go_enter Tryd.func17, Tryd.ntmps17
    go_wp2_with (first | ((with_reducible refine gate_callee (f := 25) rfl ?_); refine goesL_ (some 6) rfl rfl Tryd.func25 (by kernel_rfl) rfl #[.slice A0 l0.length c0] rfl (by (try simp only [List.map_toArray, List.map_cons, List.map_nil]); first | done | rfl | (simp only [List.length_drop, List.length_take]; rfl)) ?_; (with_reducible refine (spec_l01From.calls k _ _ l0 t228 t229 t230 w _ ?side1 ?side2 ?side3 A2.out).mono ?_); (case side1 => repeat (first | (with_reducible first | exact HB.out | apply below_alloc | apply pw_below_drewN | apply below_drew1) | exact HB.out)); (case side2 => exact HR0.out); (case side3 => exact HC0.out); rintro e w19 ⟨g231, rfl, hi, hb, hb2⟩; refine ⟨_, rfl, ?_⟩; have n0_ := Aside0.mk (hb); have n1_ := Aside0.mk (hi); clear HB; have HB := n0_; have HI231 := n1_; clear n0_ n1_; (try clear hb); (try clear hb2); (try clear hk); (try clear hi)) | ((with_reducible refine gate_callee (f := 26) rfl ?_); refine goesL_ (some 8) rfl rfl Tryd.func26 (by kernel_rfl) rfl #[.pointer (some ⟨g231, 0, none⟩), .int .i64 1000] rfl (by (try simp only [List.map_toArray, List.map_cons, List.map_nil]); first | done | rfl | (simp only [List.length_drop, List.length_take]; rfl)) ?_; (with_reducible refine (spec_l01Next.calls g231 t228 t229 t230 1000 t232 t233 t234 w _ ?side1 ?side2 A3.out).mono ?_); (case side1 => repeat (first | (with_reducible first | exact HI231.out | apply IsS56.alloc | apply IsS56.drewN | apply IsS56.drew | apply IsS56.set_1 | apply IsS56.set_2) | exact HI231.out)); (case side2 => repeat (first | (with_reducible first | exact HB.out | apply below_alloc | apply pw_below_drewN | apply below_drew1 | refine below_set ?_ (IsS56.ge HI231.out)) | exact HB.out)); rintro e w20 ⟨rfl, hi, hb, hk⟩; refine ⟨_, rfl, ?_⟩; have n0_ := Aside0.mk (hb); have n1_ := Aside0.mk (hi); clear HB; clear HI231; have HB := n0_; have HI231 := n1_; clear n0_ n1_; (try clear hb); (try clear hb2); (try clear hk); (try clear hi)) | ((with_reducible refine gate_callee (f := 26) rfl ?_); refine goesL_ (some 10) rfl rfl Tryd.func26 (by kernel_rfl) rfl #[.pointer (some ⟨g231, 0, none⟩), .int .i64 100] rfl (by (try simp only [List.map_toArray, List.map_cons, List.map_nil]); first | done | rfl | (simp only [List.length_drop, List.length_take]; rfl)) ?_; (with_reducible refine (spec_l01Next.calls g231 t228 t233 t234 100 t235 t236 t237 w _ ?side1 ?side2 A4.out).mono ?_); (case side1 => repeat (first | (with_reducible first | exact HI231.out | apply IsS56.alloc | apply IsS56.drewN | apply IsS56.drew | apply IsS56.set_1 | apply IsS56.set_2) | exact HI231.out)); (case side2 => repeat (first | (with_reducible first | exact HB.out | apply below_alloc | apply pw_below_drewN | apply below_drew1 | refine below_set ?_ (IsS56.ge HI231.out)) | exact HB.out)); rintro e w21 ⟨rfl, hi, hb, hk⟩; refine ⟨_, rfl, ?_⟩; have n0_ := Aside0.mk (hb); have n1_ := Aside0.mk (hi); clear HB; clear HI231; have HB := n0_; have HI231 := n1_; clear n0_ n1_; (try clear hb); (try clear hb2); (try clear hk); (try clear hi)) | ((with_reducible refine gate_callee (f := 30) rfl ?_); refine goesL_ (some 11) rfl rfl Tryd.func30 (by kernel_rfl) rfl #[.int .i64 t232, .int .i64 t235] rfl (by (try simp only [List.map_toArray, List.map_cons, List.map_nil]); first | done | rfl | (simp only [List.length_drop, List.length_take]; rfl)) ?_; (with_reducible refine (spec_l15Make.calls k t232 t235 t238 _ A5.out).mono ?_); rintro e w' ⟨rfl, ⟨nd, rfl⟩⟩; refine ⟨_, rfl, ?_⟩) | ((with_reducible refine gate_callee (f := 21) rfl ?_); refine goesL_ (some 12) rfl rfl Tryd.func21 (by kernel_rfl) rfl #[.int .i64 t238] rfl (by (try simp only [List.map_toArray, List.map_cons, List.map_nil]); first | done | rfl | (simp only [List.length_drop, List.length_take]; rfl)) ?_; (with_reducible refine (spec_l15Digits.calls k t238 t239 _ A6.out).mono ?_); rintro e w22 ⟨v240, rfl, ho0, hb⟩; refine ⟨_, rfl, ?_⟩; have n0_ := Aside0.mk (Kd.R_lower ho0 (below_size (by repeat (first | (with_reducible first | exact HB.out | apply below_alloc | apply pw_below_drewN | apply below_drew1 | refine below_set ?_ (IsS56.ge HI231.out)) | exact HB.out)))); have n1_ := Aside0.mk (IsS56.below (by repeat (first | (with_reducible first | exact HI231.out | apply IsS56.alloc | apply IsS56.drewN | apply IsS56.drew | apply IsS56.set_1 | apply IsS56.set_2) | exact HI231.out)) hb); have n2_ := Aside0.mk (below_step (by repeat (first | (with_reducible first | exact HB.out | apply below_alloc | apply pw_below_drewN | apply below_drew1 | refine below_set ?_ (IsS56.ge HI231.out)) | exact HB.out)) hb); clear HI231; clear HB; have HO241 := n0_; have HI231 := n1_; have HB := n2_; clear n0_ n1_ n2_; (try clear hb); (try clear hb2); (try clear hk); (try clear hi); (try clear ho0); obtain ⟨Ao23, co23, eo23⟩ := Kd.R_slice HO241.out; subst eo23) | ((with_reducible refine gate_callee (f := 20) rfl ?_); refine goesL_ (some 13) rfl rfl Tryd.func20 (by kernel_rfl) rfl #[.slice Ao23 t239.length co23, .string (⟨#[]⟩ : ByteArray)] rfl (by (try simp only [List.map_toArray, List.map_cons, List.map_nil]); first | done | rfl | (simp only [List.length_drop, List.length_take]; rfl)) ?_; (with_reducible refine (spec_l01Join.calls k _ _ t239 (⟨#[]⟩ : ByteArray) t242 _ ?side1 ?side2 A7.out).mono ?_); (case side1 => repeat (first | exact (Kd.R_reads' HO241.out).2.2 | (with_reducible refine Kd.C_alloc ?_ _) | (with_reducible refine Kd.C_drewN ?_ _) | (with_reducible refine Kd.C_drew ?_))); (case side2 => exact (Kd.R_reads' HO241.out).2.1); rintro e w24 ⟨rfl, hb⟩; refine ⟨_, rfl, ?_⟩; have n0_ := Aside0.mk (Kd.R_below (by (with_reducible repeat (first | apply Kd.R_alloc | apply Kd.R_drewN | apply Kd.R_drew)); exact HO241.out) hb); have n1_ := Aside0.mk (IsS56.below (by repeat (first | (with_reducible first | exact HI231.out | apply IsS56.alloc | apply IsS56.drewN | apply IsS56.drew | apply IsS56.set_1 | apply IsS56.set_2) | exact HI231.out)) hb); have n2_ := Aside0.mk (below_step (by repeat (first | (with_reducible first | exact HB.out | apply below_alloc | apply pw_below_drewN | apply below_drew1 | refine below_set ?_ (IsS56.ge HI231.out)) | exact HB.out)) hb); clear HO241; clear HI231; clear HB; have HO241 := n0_; have HI231 := n1_; have HB := n2_; clear n0_ n1_ n2_; (try clear hb); (try clear hb2); (try clear hk); (try clear hi)) | ((with_reducible refine gate_callee (f := 26) rfl ?_); refine goesL_ (some 15) rfl rfl Tryd.func26 (by kernel_rfl) rfl #[.pointer (some ⟨g231, 0, none⟩), .int .i64 3] rfl (by (try simp only [List.map_toArray, List.map_cons, List.map_nil]); first | done | rfl | (simp only [List.length_drop, List.length_take]; rfl)) ?_; (with_reducible refine (spec_l01Next.calls g231 t228 t236 t237 3 t243 t244 t245 w _ ?side1 ?side2 A8.out).mono ?_); (case side1 => repeat (first | (with_reducible first | exact HI231.out | apply IsS56.alloc | apply IsS56.drewN | apply IsS56.drew | apply IsS56.set_1 | apply IsS56.set_2) | exact HI231.out)); (case side2 => repeat (first | (with_reducible first | exact HB.out | apply below_alloc | apply pw_below_drewN | apply below_drew1 | refine below_set ?_ (IsS56.ge HI231.out)) | exact HB.out)); rintro e w25 ⟨rfl, hi, hb, hk⟩; refine ⟨_, rfl, ?_⟩; have n0_ := Aside0.mk (Kd.R_mono (Kd.R_keep (IsS56.apart (show IsS56 w _ g231 t228 t236 t237 from by repeat (first | (with_reducible first | exact HI231.out | apply IsS56.alloc | apply IsS56.drewN | apply IsS56.drew | apply IsS56.set_1 | apply IsS56.set_2) | exact HI231.out)) (by (with_reducible repeat (first | apply Kd.R_alloc | apply Kd.R_drewN | apply Kd.R_drew)); exact HO241.out) (by decide)) hk (fun _ h => h.2)) (fun _ h => h.1)); have n1_ := Aside0.mk (hb); have n2_ := Aside0.mk (hi); clear HO241; clear HB; clear HI231; have HO241 := n0_; have HB := n1_; have HI231 := n2_; clear n0_ n1_ n2_; (try clear hb); (try clear hb2); (try clear hk); (try clear hi)))
    go_ret
    exact ⟨by first | rfl | (simp [errW_none, errW_some] <;> rfl) | (simp [*, errW_none, errW_some] <;> rfl), by repeat (first | (with_reducible first | exact HB.out | apply below_alloc | apply pw_below_drewN | apply below_drew1 | refine below_set ?_ (IsS56.ge HI231.out)) | exact HB.out)⟩

end Go.Proofs.YtlicooehcladcaaDoor.X
