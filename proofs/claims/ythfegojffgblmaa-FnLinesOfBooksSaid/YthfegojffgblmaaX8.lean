-- Written by this session's own program (wip/xprint.py) out of the translation; Lean checks it.
import Derived.Test.YthfegojffgblmaaX0
import Derived.Test.YthfegojffgblmaaX4
import Derived.Test.YthfegojffgblmaaX7
namespace Go.Proofs.Ythfegojffgblmaa.X
open Go.RowKit Go.Proofs.YthfegojffgblmaaW.PrintWords Go.Proofs.YthfegojffgblmaaW.PrintLast Go.Proofs.YthfegojffgblmaaW.PrintMore
attribute [local go_sem] max2_int min2_int max_two min_two max_three min_three max_four min_four   -- for this text's walks alone
set_option linter.unusedVariables false
set_option linter.unusedSimpArgs false

theorem qa : type_of% @Kd.R_alloc := @Kd.R_alloc
theorem qb : type_of% @Kd.R_drewN := @Kd.R_drewN
theorem qc : type_of% @Kd.R_drew := @Kd.R_drew
theorem qd : type_of% @KeepBut.set_ := @KeepBut.set_
theorem qe : type_of% @keep_drewN := @keep_drewN
theorem qf : type_of% @keep_drew := @keep_drew
theorem qg : type_of% @keep_alloc := @keep_alloc
theorem qh : type_of% @IsS93.alloc := @IsS93.alloc
theorem qi : type_of% @IsS93.drewN := @IsS93.drewN
theorem qj : type_of% @IsS93.drew := @IsS93.drew
theorem qk : type_of% @IsS93.set_1 := @IsS93.set_1
theorem ql : type_of% @IsS93.set_2 := @IsS93.set_2
theorem qm : type_of% @below_alloc := @below_alloc
theorem qn : type_of% @pw_below_drewN := @pw_below_drewN
theorem qo : type_of% @below_drew1 := @below_drew1
/-! ### spec_l14Draw: function 57 -/
mutual
def spec_l14Draw.l0 : Nat → Int → Int → List (S54) → Int → List Int → Int → Int → Option (Int × Int × (List (S54)) × Int × Int)
 | 0, _, _, _, _, _, _, _ => none
 | k + 1, x5, x6, x7, x8, x1000, x1001, x1002 => if x8 > 0 then ((spec_l01Next.f x1000 x1001 x1002 x6).bind fun bt222 => ((spec_l01Next.f x1000 bt222.2.1 bt222.2.2 x5).bind fun bt225 => ((spec_l01Next.f x1000 bt225.2.1 bt225.2.2 4).bind fun bt228 => (if (wrap64 (1 + bt228.1)) = 4 then ((spec_l01Next.f x1000 bt228.2.1 bt228.2.2 (wrap64 (x5 - 1))).bind fun bt232 => (if x5 = 0 then (none) else (spec_l14Draw.j1 k x5 x6 x7 x8 x1000 bt232.2.1 bt232.2.2 bt222.1 bt225.1 (wrap64 (1 + bt228.1)) (Int.tmod (wrap64 ((wrap64 (bt225.1 + 1)) + bt232.1)) x5)))) else (spec_l14Draw.j1 k x5 x6 x7 x8 x1000 bt228.2.1 bt228.2.2 bt222.1 bt225.1 (wrap64 (1 + bt228.1)) 0))))) else ((spec_l01Next.f x1000 x1001 x1002 40).bind fun bt263 => (if bt263.1 = 0 then ((spec_l01Pick.f x1000 bt263.2.1 bt263.2.2 (([0, 12, 13] : List Int))).bind fun bt269 => (some (bt269.1, x6, x7, bt269.2.1, bt269.2.2))) else (if bt263.1 = 1 then ((spec_l01Pick.f x1000 bt263.2.1 bt263.2.2 (([(-1), 40, 41] : List Int))).bind fun bt275 => (some (x5, bt275.1, x7, bt275.2.1, bt275.2.2))) else (if bt263.1 = 2 then ((spec_l01Pick.f x1000 bt263.2.1 bt263.2.2 (([0, 1, 5] : List Int))).bind fun bt281 => ((spec_l01Pick.f x1000 bt281.2.1 bt281.2.2 (([0, 1, (-1)] : List Int))).bind fun bt287 => ((some (([(⟨0, 0, bt281.1, bt287.1⟩ : S54)] : List (S54)) : List (S54))).bind fun y290 => (if x7.length + y290.length < 4398046511104 then (some (x5, x6, (x7 ++ y290), bt287.2.1, bt287.2.2)) else (none))))) else (if bt263.1 = 3 then (spec_l14Draw.l1 k x5 (([] : List (S54))) 0 x1000 bt263.2.1 bt263.2.2) else (some (x5, x6, x7, bt263.2.1, bt263.2.2)))))))
def spec_l14Draw.j1 : Nat → Int → Int → List (S54) → Int → List Int → Int → Int → Int → Int → Int → Int → Option (Int × Int × (List (S54)) × Int × Int)
 | 0, _, _, _, _, _, _, _, _, _, _, _ => none
 | k + 1, x5, x6, x7, x8, x1000, x1001, x1002, x232000, x232001, x232002, x232003 => (some (([] : List (S54)) : List (S54))).bind fun y235 => (if y235.length + x7.length < 4398046511104 then ((some (y235 ++ x7 : List (S54))).bind fun y238 => ((some (([(⟨x232000, x232001, x232002, x232003⟩ : S54)] : List (S54)) : List (S54))).bind fun y241 => (if y238.length + y241.length < 4398046511104 then ((spec_AreFaults.f k x5 x6 (y238 ++ y241)).bind fun t247 => (if t247 = true then ((some (([(⟨x232000, x232001, x232002, x232003⟩ : S54)] : List (S54)) : List (S54))).bind fun y248 => (if x7.length + y248.length < 4398046511104 then (spec_l14Draw.l0 k x5 x6 (x7 ++ y248) (wrap64 (x8 - 1)) x1000 x1001 x1002) else (none))) else ((spec_l01Next.f x1000 x1001 x1002 30).bind fun bt254 => (if bt254.1 = 0 then ((some (([(⟨x232000, x232001, x232002, x232003⟩ : S54)] : List (S54)) : List (S54))).bind fun y257 => (if x7.length + y257.length < 4398046511104 then (spec_l14Draw.l0 k x5 x6 (x7 ++ y257) (wrap64 (x8 - 1)) x1000 bt254.2.1 bt254.2.2) else (none))) else (spec_l14Draw.l0 k x5 x6 x7 (wrap64 (x8 - 1)) x1000 bt254.2.1 bt254.2.2))))) else (none)))) else (none))
def spec_l14Draw.l1 : Nat → Int → List (S54) → Int → List Int → Int → Int → Option (Int × Int × (List (S54)) × Int × Int)
 | 0, _, _, _, _, _, _ => none
 | k + 1, x5, x7, x10, x1000, x1001, x1002 => (spec_l01Next.f x1000 x1001 x1002 2).bind fun bt299 => (if x10 < (wrap64 (20 + bt299.1)) then ((some (([(⟨x10, 0, 1, 0⟩ : S54)] : List (S54)) : List (S54))).bind fun y302 => (if x7.length + y302.length < 4398046511104 then (spec_l14Draw.l1 k x5 (x7 ++ y302) (wrap64 (x10 + 1)) x1000 bt299.2.1 bt299.2.2) else (none))) else (some (x5, 30, x7, bt299.2.1, bt299.2.2)))
end
def spec_l14Draw.f (k : Nat) (s0_0 : List Int) (s0_1 : Int) (s0_2 : Int) : Option (Int × Int × (List (S54)) × Int × Int) := (spec_l01Next.f s0_0 s0_1 s0_2 6).bind fun bt210 => ((spec_l01Next.f s0_0 bt210.2.1 bt210.2.2 8).bind fun bt213 => ((spec_l01Next.f s0_0 bt213.2.1 bt213.2.2 5).bind fun bt219 => (spec_l14Draw.l0 k (wrap64 (1 + bt210.1)) bt213.1 (([] : List (S54))) bt219.1 s0_0 bt219.2.1 bt219.2.2)))
theorem spec_l14Draw.mono_l : ∀ k, (∀ y0 y1 y2 y3 y4 y5 y6, LeO (spec_l14Draw.l0 k y0 y1 y2 y3 y4 y5 y6) (spec_l14Draw.l0 (k + 1) y0 y1 y2 y3 y4 y5 y6)) ∧ (∀ y0 y1 y2 y3 y4 y5 y6 y7 y8 y9 y10, LeO (spec_l14Draw.j1 k y0 y1 y2 y3 y4 y5 y6 y7 y8 y9 y10) (spec_l14Draw.j1 (k + 1) y0 y1 y2 y3 y4 y5 y6 y7 y8 y9 y10)) ∧ (∀ y0 y1 y2 y3 y4 y5, LeO (spec_l14Draw.l1 k y0 y1 y2 y3 y4 y5) (spec_l14Draw.l1 (k + 1) y0 y1 y2 y3 y4 y5))
 | 0 => ⟨fun _ _ _ _ _ _ _ r h => by simp [spec_l14Draw.l0] at h, fun _ _ _ _ _ _ _ _ _ _ _ r h => by simp [spec_l14Draw.j1] at h, fun _ _ _ _ _ _ r h => by simp [spec_l14Draw.l1] at h⟩
 | k + 1 => by
  obtain ⟨ih0, ih1, ih2⟩ := spec_l14Draw.mono_l k
  refine ⟨?_, ?_, ?_⟩
  ·intro y0 y1 y2 y3 y4 y5 y6
   unfold spec_l14Draw.l0
   repeat' first
   | (with_reducible exact ih0 _ _ _ _ _ _ _)
   | (with_reducible exact ih1 _ _ _ _ _ _ _ _ _ _ _)
   | (with_reducible exact ih2 _ _ _ _ _ _)
   | (with_reducible exact spec_AreFaults.mono _ _ _ _)
   | (with_reducible exact LeO.refl _)
   | (with_reducible exact LeO.none _)
   | (with_reducible refine LeO.ite ?_ ?_)
   | (with_reducible refine LeO.bind ?_ (fun _ => ?_))
   | exact ih0 _ _ _ _ _ _ _
   | exact ih1 _ _ _ _ _ _ _ _ _ _ _
   | exact ih2 _ _ _ _ _ _
   | exact spec_AreFaults.mono _ _ _ _
   | exact LeO.none _
   | refine LeO.ite ?_ ?_
   | refine LeO.bind ?_ (fun _ => ?_)
  ·intro y0 y1 y2 y3 y4 y5 y6 y7 y8 y9 y10
   unfold spec_l14Draw.j1
   repeat' first
   | (with_reducible exact ih0 _ _ _ _ _ _ _)
   | (with_reducible exact ih1 _ _ _ _ _ _ _ _ _ _ _)
   | (with_reducible exact ih2 _ _ _ _ _ _)
   | (with_reducible exact spec_AreFaults.mono _ _ _ _)
   | (with_reducible exact LeO.refl _)
   | (with_reducible exact LeO.none _)
   | (with_reducible refine LeO.ite ?_ ?_)
   | (with_reducible refine LeO.bind ?_ (fun _ => ?_))
   | exact ih0 _ _ _ _ _ _ _
   | exact ih1 _ _ _ _ _ _ _ _ _ _ _
   | exact ih2 _ _ _ _ _ _
   | exact spec_AreFaults.mono _ _ _ _
   | exact LeO.none _
   | refine LeO.ite ?_ ?_
   | refine LeO.bind ?_ (fun _ => ?_)
  ·intro y0 y1 y2 y3 y4 y5
   unfold spec_l14Draw.l1
   repeat' first
   | (with_reducible exact ih0 _ _ _ _ _ _ _)
   | (with_reducible exact ih1 _ _ _ _ _ _ _ _ _ _ _)
   | (with_reducible exact ih2 _ _ _ _ _ _)
   | (with_reducible exact spec_AreFaults.mono _ _ _ _)
   | (with_reducible exact LeO.refl _)
   | (with_reducible exact LeO.none _)
   | (with_reducible refine LeO.ite ?_ ?_)
   | (with_reducible refine LeO.bind ?_ (fun _ => ?_))
   | exact ih0 _ _ _ _ _ _ _
   | exact ih1 _ _ _ _ _ _ _ _ _ _ _
   | exact ih2 _ _ _ _ _ _
   | exact spec_AreFaults.mono _ _ _ _
   | exact LeO.none _
   | refine LeO.ite ?_ ?_
   | refine LeO.bind ?_ (fun _ => ?_)
theorem spec_l14Draw.mono : ∀ a0 a1 a2 k, LeO (spec_l14Draw.f k a0 a1 a2) (spec_l14Draw.f (k + 1) a0 a1 a2) := by
 intro a0 a1 a2 k
 obtain ⟨ih0, ih1, ih2⟩ := spec_l14Draw.mono_l k
 unfold spec_l14Draw.f
 repeat' first
   | (with_reducible exact ih0 _ _ _ _ _ _ _)
   | (with_reducible exact ih1 _ _ _ _ _ _ _ _ _ _ _)
   | (with_reducible exact ih2 _ _ _ _ _ _)
   | (with_reducible exact spec_AreFaults.mono _ _ _ _)
   | (with_reducible exact LeO.refl _)
   | (with_reducible exact LeO.none _)
   | (with_reducible refine LeO.ite ?_ ?_)
   | (with_reducible refine LeO.bind ?_ (fun _ => ?_))
   | exact ih0 _ _ _ _ _ _ _
   | exact ih1 _ _ _ _ _ _ _ _ _ _ _
   | exact ih2 _ _ _ _ _ _
   | exact spec_AreFaults.mono _ _ _ _
   | exact LeO.none _
   | refine LeO.ite ?_ ?_
   | refine LeO.bind ?_ (fun _ => ?_)
def spec_l14Draw.T8 : Bool × List (List Nat × List Nat) := (true, [([], []), ([0], [0]), ([1], [1]), ([], []), ([], []), ([4], [4]), ([3, 5], [3, 5]), ([2, 6], [2, 6]), ([], []), ([7, 8], [7, 8]), ([0, 1, 2, 3, 4, 5, 6, 7, 8, 9], []), ([10, 9, 6, 0, 1, 2, 3, 4, 5, 6, 7, 8, 9], [9, 10])])
def spec_l14Draw.B8 : List Nat := [0, 1, 3, 0, 0, 16, 56, 127, 0, 511, 1023, 2047]
theorem spec_l14Draw.tab8 : rtab .any (opsOf Try.f57 8) = spec_l14Draw.T8 := by kernel_rfl
theorem spec_l14Draw.bits8 : waitsOk spec_l14Draw.T8.2 spec_l14Draw.B8 = true := by kernel_rfl
def spec_l14Draw.T9 : Bool × List (List Nat × List Nat) := (true, [([], []), ([], []), ([], []), ([], []), ([2, 3], [2, 3]), ([], []), ([5], [5]), ([4, 6, 4], [4, 6]), ([0, 1, 7, 7], [0, 1, 7]), ([8, 8], [8]), ([9], [9]), ([10, 9, 9], [9, 10]), ([11, 9], [9, 11]), ([9, 12], [9, 12])])
def spec_l14Draw.B9 : List Nat := [0, 0, 0, 0, 12, 0, 32, 124, 255, 511, 1023, 2047, 4095, 8191]
theorem spec_l14Draw.tab9 : rtab .any (opsOf Try.f57 9) = spec_l14Draw.T9 := by kernel_rfl
theorem spec_l14Draw.bits9 : waitsOk spec_l14Draw.T9.2 spec_l14Draw.B9 = true := by kernel_rfl
set_option maxHeartbeats 8000000 in
set_option maxRecDepth 100000 in
theorem spec_l14Draw.calls (k : Nat) (g : Nat) (s0_0 : List Int) (s0_1 : Int) (s0_2 : Int) (r1 : Int) (r2 : Int) (r3 : List (S54)) (r4 : Int) (r5 : Int) (w0 w : World) (hI : IsS93 w0 w g s0_0 s0_1 s0_2) (hB : Below w0.heap.size w0 w) (h : spec_l14Draw.f k s0_0 s0_1 s0_2 = some (r1, r2, r3, r4, r5)) :
  Calls Try.prog 57 #[.pointer (some ⟨g, 0, none⟩)] w fun e w' => ∃ v2_ : Value, e = .returned (.tuple #[.int .i64 r1, .int .i64 r2, v2_]) ∧ Kd.R k54 54 w' w.heap.size (fun _ => True) v2_ r3 ∧ IsS93 w0 w' g s0_0 r4 r5 ∧ Below w0.heap.size w0 w' ∧ KeepBut w w' g none := by
 have hu54 := Try.underlying54
 have HI0 := Aside0.mk hI
 have HK := Aside0.mk (KeepBut.refl w g none)
 have HL := Aside0.mk hB.size
 clear hI
 have HW0 := Aside0.mk hB.size
 have HB := Aside0.mk hB
 clear hB
 have H : ((spec_l01Next.f s0_0 s0_1 s0_2 6).bind fun bt210 => ((spec_l01Next.f s0_0 bt210.2.1 bt210.2.2 8).bind fun bt213 => ((spec_l01Next.f s0_0 bt213.2.1 bt213.2.2 5).bind fun bt219 => (spec_l14Draw.l0 k (wrap64 (1 + bt210.1)) bt213.1 (([] : List (S54))) bt219.1 s0_0 bt219.2.1 bt219.2.2)))) = some (r1, r2, r3, r4, r5) := h
 clear h
 replace H := Option.bind_eq_some_iff.mp H
 obtain ⟨⟨t210, t211, t212⟩, A20, H⟩ := H
 replace H : ((spec_l01Next.f s0_0 t211 t212 8).bind fun bt213 => ((spec_l01Next.f s0_0 bt213.2.1 bt213.2.2 5).bind fun bt219 => (spec_l14Draw.l0 k (wrap64 (1 + t210)) bt213.1 (([] : List (S54))) bt219.1 s0_0 bt219.2.1 bt219.2.2))) = some (r1, r2, r3, r4, r5) := H
 have A2 := Aside0.mk A20
 clear A20
 replace H := Option.bind_eq_some_iff.mp H
 obtain ⟨⟨t213, t214, t215⟩, A30, H⟩ := H
 replace H : ((spec_l01Next.f s0_0 t214 t215 5).bind fun bt219 => (spec_l14Draw.l0 k (wrap64 (1 + t210)) t213 (([] : List (S54))) bt219.1 s0_0 bt219.2.1 bt219.2.2)) = some (r1, r2, r3, r4, r5) := H
 have A3 := Aside0.mk A30
 clear A30
 obtain ⟨y216, hy216⟩ : ∃ y_ : List (S54), y_ = (([] : List (S54))) := ⟨_, rfl⟩
 replace H : ((spec_l01Next.f s0_0 t214 t215 5).bind fun bt219 => (spec_l14Draw.l0 k (wrap64 (1 + t210)) t213 y216 bt219.1 s0_0 bt219.2.1 bt219.2.2)) = some (r1, r2, r3, r4, r5) := by first | (rw [hy216]; with_reducible exact H) | (have H2_ := (Option.bind_some _ _).symm.trans H; rw [hy216]; with_reducible exact H2_) | (have H2_ := (Option.bind_some _ _).symm.trans H; with_reducible exact H2_) | with_reducible exact H | (rw [hy216]; exact H) | exact H
 have Ny216 := Aside0.mk hy216
 clear hy216
 replace H := Option.bind_eq_some_iff.mp H
 obtain ⟨⟨t219, t220, t221⟩, A40, H⟩ := H
 replace H : (spec_l14Draw.l0 k (wrap64 (1 + t210)) t213 y216 t219 s0_0 t220 t221) = some (r1, r2, r3, r4, r5) := H
 have A4 := Aside0.mk A40
 clear A40
 have H' := Aside0.mk H
 clear H
 go_enter Try.func57, Try.ntmps57
 go_wp2_with (first | ((with_reducible refine gate_callee (f := 61) rfl ?_); refine goesL_ (some 12) rfl rfl Try.func61 (by kernel_rfl) rfl #[.pointer (some ⟨g, 0, none⟩), .int .i64 6] rfl (by (try simp only [List.map_toArray, List.map_cons, List.map_nil]); first | done | rfl) ?_; (with_reducible refine (spec_l01Next.calls g s0_0 s0_1 s0_2 6 t210 t211 t212 w0 _ ?side1 ?side2 A2.out).mono ?_); (case side1 => repeat (first | (with_reducible first | exact HI0.out | apply qh | apply qi | apply qj | apply qk | apply ql))); (case side2 => repeat (first | (with_reducible first | exact HB.out | apply qm | apply qn | apply qo | refine below_set ?_ (IsS93.ge HI0.out)))); rintro e w5 ⟨rfl, hi, hb, hk⟩; refine ⟨_, rfl, ?_⟩; have n0_ := Aside0.mk (KeepBut.trans (by repeat (first | (with_reducible first | exact HK.out | apply qd | apply qe | apply qf | apply qg))) hk (.inl rfl)); have n1_ := Aside0.mk (hb); have n2_ := Aside0.mk (hi); clear HK; clear HB; clear HI0; have HK := n0_; have HB := n1_; have HI0 := n2_; clear n0_ n1_ n2_; (try clear hb); (try clear hk); (try clear hi)) | ((with_reducible refine gate_callee (f := 61) rfl ?_); refine goesL_ (some 15) rfl rfl Try.func61 (by kernel_rfl) rfl #[.pointer (some ⟨g, 0, none⟩), .int .i64 8] rfl (by (try simp only [List.map_toArray, List.map_cons, List.map_nil]); first | done | rfl) ?_; (with_reducible refine (spec_l01Next.calls g s0_0 t211 t212 8 t213 t214 t215 w0 _ ?side1 ?side2 A3.out).mono ?_); (case side1 => repeat (first | (with_reducible first | exact HI0.out | apply qh | apply qi | apply qj | apply qk | apply ql))); (case side2 => repeat (first | (with_reducible first | exact HB.out | apply qm | apply qn | apply qo | refine below_set ?_ (IsS93.ge HI0.out)))); rintro e w6 ⟨rfl, hi, hb, hk⟩; refine ⟨_, rfl, ?_⟩; have n0_ := Aside0.mk (KeepBut.trans (by repeat (first | (with_reducible first | exact HK.out | apply qd | apply qe | apply qf | apply qg))) hk (.inl rfl)); have n1_ := Aside0.mk (hb); have n2_ := Aside0.mk (hi); clear HK; clear HB; clear HI0; have HK := n0_; have HB := n1_; have HI0 := n2_; clear n0_ n1_ n2_; (try clear hb); (try clear hk); (try clear hi)) | ((with_reducible refine gate_dst (N := 16) rfl ?_); refine Kd.R_lit k54 _ 54 ?hg (N := 16) ?hd (xs := ([] : List (S54))) (inner := []) (ok := fun _ => True) (okp := fun _ => True) ?hr ?hp (fun _ hk => hk) trivial (Below.refl _ _) (Nat.le_refl _) (by simp) ?_; (case hd => rfl); (case hg => rfl); (case hr => first | (go_simp; done) | (go_simp; rfl)); (case hp => exact (Reps.none _ _)); intro v217 w7 ho8 hb hg_ hnew_; clear hg_ hnew_; (first | rw [← Ny216.out] at ho8 | (simp only [Int.reduceToNat] at ho8; rw [← Ny216.out] at ho8)); have n0_ := Aside0.mk (Kd.R_lower ho8 (keep_size (w := w) (g := g) (row := none) (by repeat (first | (with_reducible first | exact HK.out | apply qd | apply qe | apply qf | apply qg))))); have n1_ := Aside0.mk (IsS93.below (by repeat (first | (with_reducible first | exact HI0.out | apply qh | apply qi | apply qj | apply qk | apply ql))) hb); have n2_ := Aside0.mk (KeepBut.trans (by repeat (first | (with_reducible first | exact HK.out | apply qd | apply qe | apply qf | apply qg))) (KeepBut.of_below hb g none) (.inl rfl)); have n3_ := Aside0.mk (below_step (by repeat (first | (with_reducible first | exact HB.out | apply qm | apply qn | apply qo | refine below_set ?_ (IsS93.ge HI0.out)))) hb); clear HI0; clear HK; clear HB; have HO218 := n0_; have HI0 := n1_; have HK := n2_; have HB := n3_; clear n0_ n1_ n2_ n3_; clear hb ho8) | ((with_reducible refine gate_callee (f := 61) rfl ?_); refine goesL_ (some 18) rfl rfl Try.func61 (by kernel_rfl) rfl #[.pointer (some ⟨g, 0, none⟩), .int .i64 5] rfl (by (try simp only [List.map_toArray, List.map_cons, List.map_nil]); first | done | rfl) ?_; (with_reducible refine (spec_l01Next.calls g s0_0 t214 t215 5 t219 t220 t221 w0 _ ?side1 ?side2 A4.out).mono ?_); (case side1 => repeat (first | (with_reducible first | exact HI0.out | apply qh | apply qi | apply qj | apply qk | apply ql))); (case side2 => repeat (first | (with_reducible first | exact HB.out | apply qm | apply qn | apply qo | refine below_set ?_ (IsS93.ge HI0.out)))); rintro e w9 ⟨rfl, hi, hb, hk⟩; refine ⟨_, rfl, ?_⟩; have n0_ := Aside0.mk (Kd.R_mono (Kd.R_keep (IsS93.apart (show IsS93 w0 _ g s0_0 t214 t215 from by repeat (first | (with_reducible first | exact HI0.out | apply qh | apply qi | apply qj | apply qk | apply ql))) (by (with_reducible repeat (first | apply qa | apply qb | apply qc)); exact HO218.out) (by decide)) hk (fun _ h => h.2)) (fun _ h => h.1)); have n1_ := Aside0.mk (KeepBut.trans (by repeat (first | (with_reducible first | exact HK.out | apply qd | apply qe | apply qf | apply qg))) hk (.inl rfl)); have n2_ := Aside0.mk (hb); have n3_ := Aside0.mk (hi); clear HO218; clear HK; clear HB; clear HI0; have HO218 := n0_; have HK := n1_; have HB := n2_; have HI0 := n3_; clear n0_ n1_ n2_ n3_; (try clear hb); (try clear hk); (try clear hi)))
 go_loopg [7, 8] k (fun kq v7 v8 w' => ∃ (x7_1 : List (S54)) (x8_1 : Int) (x1001_1 : Int) (x1002_1 : Int), v8 = .int .i64 x8_1 ∧ Aside0 (spec_l14Draw.l0 kq (wrap64 (1 + t210)) t213 x7_1 x8_1 s0_0 x1001_1 x1002_1 = some (r1, r2, r3, r4, r5)) ∧ Aside0 (kq ≤ k) ∧ Aside0 (Kd.R k54 54 w' w.heap.size (fun _ => True) v7 x7_1) ∧ Aside0 (IsS93 w0 w' g s0_0 x1001_1 x1002_1) ∧ Aside0 (KeepBut w w' g none) ∧ Aside0 (Below w0.heap.size w0 w'))
 case atStart => exact ⟨(y216), (t219), (t220), (t221), (by first | rfl | (simp; done) | (simp [*]; done)), H', ⟨Nat.le_refl _⟩, ⟨by (with_reducible repeat (first | apply qa | apply qb | apply qc)); exact HO218.out⟩, ⟨by repeat (first | (with_reducible first | exact HI0.out | apply qh | apply qi | apply qj | apply qk | apply ql))⟩, ⟨by repeat (first | (with_reducible first | exact HK.out | apply qd | apply qe | apply qf | apply qg))⟩, ⟨by repeat (first | (with_reducible first | exact HB.out | apply qm | apply qn | apply qo | refine below_set ?_ (IsS93.ge HI0.out)))⟩⟩
 case round =>
  clear H'
  try clear p2
  try clear c5
  try clear c6
  try clear p6
  obtain ⟨x7_1, x8_1, x1001_1, x1002_1, rfl, HA, HK1, HO_7, HI0, HK, HB⟩ := hrel
  cases gk with
  | zero => exact absurd HA.out (by simp [spec_l14Draw.l0])
  | succ k1 =>
   have H := HA.out
   clear HA
   simp only [spec_l14Draw.l0] at H
   by_cases c10 : x8_1 > 0
   ·rw [if_pos c10] at H
    have c10b0 : decide (0 < x8_1) = true := decide_eq_true c10
    clear c10
    replace H := Option.bind_eq_some_iff.mp H
    obtain ⟨⟨t222, t223, t224⟩, A110, H⟩ := H
    replace H : ((spec_l01Next.f s0_0 t223 t224 (wrap64 (1 + t210))).bind fun bt225 => ((spec_l01Next.f s0_0 bt225.2.1 bt225.2.2 4).bind fun bt228 => (if (wrap64 (1 + bt228.1)) = 4 then ((spec_l01Next.f s0_0 bt228.2.1 bt228.2.2 (wrap64 ((wrap64 (1 + t210)) - 1))).bind fun bt232 => (if (wrap64 (1 + t210)) = 0 then (none) else (spec_l14Draw.j1 k1 (wrap64 (1 + t210)) t213 x7_1 x8_1 s0_0 bt232.2.1 bt232.2.2 t222 bt225.1 (wrap64 (1 + bt228.1)) (Int.tmod (wrap64 ((wrap64 (bt225.1 + 1)) + bt232.1)) (wrap64 (1 + t210)))))) else (spec_l14Draw.j1 k1 (wrap64 (1 + t210)) t213 x7_1 x8_1 s0_0 bt228.2.1 bt228.2.2 t222 bt225.1 (wrap64 (1 + bt228.1)) 0)))) = some (r1, r2, r3, r4, r5) := H
    have A11 := Aside0.mk A110
    clear A110
    replace H := Option.bind_eq_some_iff.mp H
    obtain ⟨⟨t225, t226, t227⟩, A120, H⟩ := H
    replace H : ((spec_l01Next.f s0_0 t226 t227 4).bind fun bt228 => (if (wrap64 (1 + bt228.1)) = 4 then ((spec_l01Next.f s0_0 bt228.2.1 bt228.2.2 (wrap64 ((wrap64 (1 + t210)) - 1))).bind fun bt232 => (if (wrap64 (1 + t210)) = 0 then (none) else (spec_l14Draw.j1 k1 (wrap64 (1 + t210)) t213 x7_1 x8_1 s0_0 bt232.2.1 bt232.2.2 t222 t225 (wrap64 (1 + bt228.1)) (Int.tmod (wrap64 ((wrap64 (t225 + 1)) + bt232.1)) (wrap64 (1 + t210)))))) else (spec_l14Draw.j1 k1 (wrap64 (1 + t210)) t213 x7_1 x8_1 s0_0 bt228.2.1 bt228.2.2 t222 t225 (wrap64 (1 + bt228.1)) 0))) = some (r1, r2, r3, r4, r5) := H
    have A12 := Aside0.mk A120
    clear A120
    replace H := Option.bind_eq_some_iff.mp H
    obtain ⟨⟨t228, t229, t230⟩, A130, H⟩ := H
    replace H : (if (wrap64 (1 + t228)) = 4 then ((spec_l01Next.f s0_0 t229 t230 (wrap64 ((wrap64 (1 + t210)) - 1))).bind fun bt232 => (if (wrap64 (1 + t210)) = 0 then (none) else (spec_l14Draw.j1 k1 (wrap64 (1 + t210)) t213 x7_1 x8_1 s0_0 bt232.2.1 bt232.2.2 t222 t225 (wrap64 (1 + t228)) (Int.tmod (wrap64 ((wrap64 (t225 + 1)) + bt232.1)) (wrap64 (1 + t210)))))) else (spec_l14Draw.j1 k1 (wrap64 (1 + t210)) t213 x7_1 x8_1 s0_0 t229 t230 t222 t225 (wrap64 (1 + t228)) 0)) = some (r1, r2, r3, r4, r5) := H
    have A13 := Aside0.mk A130
    clear A130
    have HC14 := Aside0.mk H
    clear H
    go_upto_if 35 with (first | ((with_reducible refine gate_callee (f := 61) rfl ?_); refine goesL_ (some 25) rfl rfl Try.func61 (by kernel_rfl) rfl #[.pointer (some ⟨g, 0, none⟩), .int .i64 t213] rfl (by (try simp only [List.map_toArray, List.map_cons, List.map_nil]); first | done | rfl) ?_; (with_reducible refine (spec_l01Next.calls g s0_0 x1001_1 x1002_1 t213 t222 t223 t224 w0 _ ?side1 ?side2 A11.out).mono ?_); (case side1 => repeat (first | (with_reducible first | exact HI0.out | apply qh | apply qi | apply qj | apply qk | apply ql))); (case side2 => repeat (first | (with_reducible first | exact HB.out | apply qm | apply qn | apply qo | refine below_set ?_ (IsS93.ge HI0.out)))); rintro e w15 ⟨rfl, hi, hb, hk⟩; refine ⟨_, rfl, ?_⟩; have n0_ := Aside0.mk (Kd.R_mono (Kd.R_keep (IsS93.apart (show IsS93 w0 _ g s0_0 x1001_1 x1002_1 from by repeat (first | (with_reducible first | exact HI0.out | apply qh | apply qi | apply qj | apply qk | apply ql))) (by (with_reducible repeat (first | apply qa | apply qb | apply qc)); exact HO_7.out) (by decide)) hk (fun _ h => h.2)) (fun _ h => h.1)); have n1_ := Aside0.mk (KeepBut.trans (by repeat (first | (with_reducible first | exact HK.out | apply qd | apply qe | apply qf | apply qg))) hk (.inl rfl)); have n2_ := Aside0.mk (hb); have n3_ := Aside0.mk (hi); clear HO_7; clear HK; clear HB; clear HI0; have HO_7 := n0_; have HK := n1_; have HB := n2_; have HI0 := n3_; clear n0_ n1_ n2_ n3_; (try clear hb); (try clear hk); (try clear hi)) | ((with_reducible refine gate_callee (f := 61) rfl ?_); refine goesL_ (some 28) rfl rfl Try.func61 (by kernel_rfl) rfl #[.pointer (some ⟨g, 0, none⟩), .int .i64 (wrap64 (1 + t210))] rfl (by (try simp only [List.map_toArray, List.map_cons, List.map_nil]); first | done | rfl) ?_; (with_reducible refine (spec_l01Next.calls g s0_0 t223 t224 (wrap64 (1 + t210)) t225 t226 t227 w0 _ ?side1 ?side2 A12.out).mono ?_); (case side1 => repeat (first | (with_reducible first | exact HI0.out | apply qh | apply qi | apply qj | apply qk | apply ql))); (case side2 => repeat (first | (with_reducible first | exact HB.out | apply qm | apply qn | apply qo | refine below_set ?_ (IsS93.ge HI0.out)))); rintro e w16 ⟨rfl, hi, hb, hk⟩; refine ⟨_, rfl, ?_⟩; have n0_ := Aside0.mk (Kd.R_mono (Kd.R_keep (IsS93.apart (show IsS93 w0 _ g s0_0 t223 t224 from by repeat (first | (with_reducible first | exact HI0.out | apply qh | apply qi | apply qj | apply qk | apply ql))) (by (with_reducible repeat (first | apply qa | apply qb | apply qc)); exact HO_7.out) (by decide)) hk (fun _ h => h.2)) (fun _ h => h.1)); have n1_ := Aside0.mk (KeepBut.trans (by repeat (first | (with_reducible first | exact HK.out | apply qd | apply qe | apply qf | apply qg))) hk (.inl rfl)); have n2_ := Aside0.mk (hb); have n3_ := Aside0.mk (hi); clear HO_7; clear HK; clear HB; clear HI0; have HO_7 := n0_; have HK := n1_; have HB := n2_; have HI0 := n3_; clear n0_ n1_ n2_ n3_; (try clear hb); (try clear hk); (try clear hi)) | ((with_reducible refine gate_callee (f := 61) rfl ?_); refine goesL_ (some 30) rfl rfl Try.func61 (by kernel_rfl) rfl #[.pointer (some ⟨g, 0, none⟩), .int .i64 4] rfl (by (try simp only [List.map_toArray, List.map_cons, List.map_nil]); first | done | rfl) ?_; (with_reducible refine (spec_l01Next.calls g s0_0 t226 t227 4 t228 t229 t230 w0 _ ?side1 ?side2 A13.out).mono ?_); (case side1 => repeat (first | (with_reducible first | exact HI0.out | apply qh | apply qi | apply qj | apply qk | apply ql))); (case side2 => repeat (first | (with_reducible first | exact HB.out | apply qm | apply qn | apply qo | refine below_set ?_ (IsS93.ge HI0.out)))); rintro e w17 ⟨rfl, hi, hb, hk⟩; refine ⟨_, rfl, ?_⟩; have n0_ := Aside0.mk (Kd.R_mono (Kd.R_keep (IsS93.apart (show IsS93 w0 _ g s0_0 t226 t227 from by repeat (first | (with_reducible first | exact HI0.out | apply qh | apply qi | apply qj | apply qk | apply ql))) (by (with_reducible repeat (first | apply qa | apply qb | apply qc)); exact HO_7.out) (by decide)) hk (fun _ h => h.2)) (fun _ h => h.1)); have n1_ := Aside0.mk (KeepBut.trans (by repeat (first | (with_reducible first | exact HK.out | apply qd | apply qe | apply qf | apply qg))) hk (.inl rfl)); have n2_ := Aside0.mk (hb); have n3_ := Aside0.mk (hi); clear HO_7; clear HK; clear HB; clear HI0; have HO_7 := n0_; have HK := n1_; have HB := n2_; have HI0 := n3_; clear n0_ n1_ n2_ n3_; (try clear hb); (try clear hk); (try clear hi)) | ((with_reducible refine gate_dst (N := 9) rfl ?_); refine box_event ?hg (N := 9) ?hd (cs := #[.int .i64 0, .int .i64 0, .int .i64 0, .int .i64 0]) (t := 54) ?hr ?_; (case hd => rfl); (case hg => rfl); (case hr => first | (go_simp; done) | (go_simp; rfl)); intro gb231 hg w18 hbox hb; have n0_ := Aside0.mk (Kd.R_below (Kd.R_elderB (by (with_reducible repeat (first | apply qa | apply qb | apply qc)); exact HO_7.out) gb231 (Nat.le_of_eq hg.symm)) hb); have n1_ := Aside0.mk (IsS93.below (by repeat (first | (with_reducible first | exact HI0.out | apply qh | apply qi | apply qj | apply qk | apply ql))) hb); have n2_ := Aside0.mk (KeepBut.trans (by repeat (first | (with_reducible first | exact HK.out | apply qd | apply qe | apply qf | apply qg))) (KeepBut.of_below hb g none) (.inl rfl)); have n3_ := Aside0.mk (below_step (by repeat (first | (with_reducible first | exact HB.out | apply qm | apply qn | apply qo | refine below_set ?_ (IsS93.ge HI0.out)))) hb); have n4_ := Aside0.mk (hbox); have n5_ := Aside0.mk ((by rw [hg]; exact (keep_size (w := w) (g := g) (row := none) (by repeat (first | (with_reducible first | exact HK.out | apply qd | apply qe | apply qf | apply qg)))) : w.heap.size ≤ gb231)); have n6_ := Aside0.mk ((Nat.le_trans HW0.out (by rw [hg]; exact (keep_size (w := w) (g := g) (row := none) (by repeat (first | (with_reducible first | exact HK.out | apply qd | apply qe | apply qf | apply qg)))) : w.heap.size ≤ gb231) : w0.heap.size ≤ gb231)); have n7_ := Aside0.mk ((by rw [hg]; exact Nat.ne_of_lt (IsS93.lt (show IsS93 w0 _ g s0_0 t229 t230 from by repeat (first | (with_reducible first | exact HI0.out | apply qh | apply qi | apply qj | apply qk | apply ql)))) : g ≠ gb231)); have n8_ := Aside0.mk ((by rw [hg]; exact Nat.ne_of_gt (IsS93.lt (show IsS93 w0 _ g s0_0 t229 t230 from by repeat (first | (with_reducible first | exact HI0.out | apply qh | apply qi | apply qj | apply qk | apply ql)))) : gb231 ≠ g)); clear HO_7; clear HI0; clear HK; clear HB; have HO_7 := n0_; have HI0 := n1_; have HK := n2_; have HB := n3_; have BK231 := n4_; have GW231 := n5_; have GE231 := n6_; have NB0_231 := n7_; have NB231_0 := n8_; clear n0_ n1_ n2_ n3_ n4_ n5_ n6_ n7_ n8_; clear hb hbox hg; have hnb19 := NB231_0.out; have hnc19 := NB0_231.out; have hcz20_0 : w18.cell? ⟨gb231, 0, none⟩ = some (.int .i64 0) := (blk_cell BK231.out 0).trans rfl; have hcz20_1 : w18.cell? ⟨gb231, 1, none⟩ = some (.int .i64 0) := (blk_cell BK231.out 1).trans rfl; have hcz20_2 : w18.cell? ⟨gb231, 2, none⟩ = some (.int .i64 0) := (blk_cell BK231.out 2).trans rfl; have hcz20_3 : w18.cell? ⟨gb231, 3, none⟩ = some (.int .i64 0) := (blk_cell BK231.out 3).trans rfl; have hfz20_0 := blk_frozen BK231.out 0; have hfz20_1 := blk_frozen BK231.out 1; have hfz20_2 := blk_frozen BK231.out 2; have hfz20_3 := blk_frozen BK231.out 3))
    (try simp only [Act.put, List.setIfInBounds_toArray, List.set_cons_zero, List.set_cons_succ])
    go_cut [] (fun wc => ∃ (kq : Nat) (x1001_13 : Int) (x1002_13 : Int) (x232003_13 : Int), Aside0 (spec_l14Draw.j1 kq (wrap64 (1 + t210)) t213 x7_1 x8_1 s0_0 x1001_13 x1002_13 t222 t225 (wrap64 (1 + t228)) x232003_13 = some (r1, r2, r3, r4, r5)) ∧ Aside0 (kq ≤ k1) ∧ Aside0 (Kd.R k54 54 wc w.heap.size (fun k_ => k_ ≠ gb231) u7 x7_1) ∧ Aside0 (wc.heap[gb231]? = some (.cells #[.int .i64 t222, .int .i64 t225, .int .i64 (wrap64 (1 + t228)), .int .i64 x232003_13] 54 (0, 0))) ∧ Aside0 (IsS93 w0 wc g s0_0 x1001_13 x1002_13) ∧ Aside0 (KeepBut w wc g none) ∧ Aside0 (Below w0.heap.size w0 wc))
    case first =>
     have H := HC14.out
     clear HC14
     by_cases c21 : (wrap64 (1 + t228)) = 4
     ·rw [if_pos c21] at H
      have c21b0 : ((wrap64 (1 + t228)) == 4) = true := beq_iff_eq.mpr c21
      have c21b1 : ((wrap64 (1 + t228)) != 4) = false := bne_eq_false_iff_eq.mpr c21
      clear c21
      (first | rw [c21b0] | (simp only [i64_w, i32_w]; rw [c21b0]) | skip)
      replace H := Option.bind_eq_some_iff.mp H
      obtain ⟨⟨t232, t233, t234⟩, A220, H⟩ := H
      replace H : (if (wrap64 (1 + t210)) = 0 then (none) else (spec_l14Draw.j1 k1 (wrap64 (1 + t210)) t213 x7_1 x8_1 s0_0 t233 t234 t222 t225 (wrap64 (1 + t228)) (Int.tmod (wrap64 ((wrap64 (t225 + 1)) + t232)) (wrap64 (1 + t210))))) = some (r1, r2, r3, r4, r5) := H
      have A22 := Aside0.mk A220
      clear A220
      by_cases c23 : (wrap64 (1 + t210)) = 0
      ·rw [if_pos c23] at H
       exact absurd H (by simp)
      ·rw [if_neg c23] at H
       have c23b0 : ((wrap64 (1 + t210)) == 0) = false := beq_eq_false_iff_ne.mpr c23
       have c23b1 : ((wrap64 (1 + t210)) != 0) = true := bne_iff_ne.mpr c23
       have H' := Aside0.mk H
       clear H
       try go_wp2
       have n0_ : Aside0 (Kd.R k54 54 ((((w18.setCell ⟨gb231, 0, none⟩ (.int .i64 t222)).setCell ⟨gb231, 1, none⟩ (.int .i64 t225)).setCell ⟨gb231, 2, none⟩ (.int .i64 (wrap64 (1 + t228)))).setCell ⟨gb231, 3, none⟩ (.int .i64 0)) w.heap.size (fun k_ => k_ ≠ gb231) u7 x7_1) := ⟨by (with_reducible repeat (first | apply qa | apply qb | apply qc)); exact Kd.R_mono (Kd.R_far (p := ⟨gb231, 3, none⟩) (Kd.R_far (p := ⟨gb231, 2, none⟩) (Kd.R_far (p := ⟨gb231, 1, none⟩) (Kd.R_far (p := ⟨gb231, 0, none⟩) (Kd.R_mono HO_7.out (fun k_ hk => (⟨hk, hk.2⟩ : _ ∧ k_ ≠ gb231))) (fun _ hk => hk.2) (.int .i64 t222)) (fun _ hk => hk.2) (.int .i64 t225)) (fun _ hk => hk.2) (.int .i64 (wrap64 (1 + t228)))) (fun _ hk => hk.2) (.int .i64 0)) (fun _ hk => hk.1.2)⟩
       have n1_ : Aside0 (((((w18.setCell ⟨gb231, 0, none⟩ (.int .i64 t222)).setCell ⟨gb231, 1, none⟩ (.int .i64 t225)).setCell ⟨gb231, 2, none⟩ (.int .i64 (wrap64 (1 + t228)))).setCell ⟨gb231, 3, none⟩ (.int .i64 0)).heap[gb231]? = some (.cells #[.int .i64 t222, .int .i64 t225, .int .i64 (wrap64 (1 + t228)), .int .i64 0] 54 (0, 0))) := ⟨by (with_reducible repeat (first | refine blk_drewN ?_ _ | refine blk_drew ?_ | refine blk_alloc ?_ _)); refine blk_put (cs := #[.int .i64 t222, .int .i64 t225, .int .i64 (wrap64 (1 + t228)), .int .i64 0]) ?_ 3 _ rfl; (with_reducible repeat (first | refine blk_drewN ?_ _ | refine blk_drew ?_ | refine blk_alloc ?_ _)); refine blk_put (cs := #[.int .i64 t222, .int .i64 t225, .int .i64 0, .int .i64 0]) ?_ 2 _ rfl; (with_reducible repeat (first | refine blk_drewN ?_ _ | refine blk_drew ?_ | refine blk_alloc ?_ _)); refine blk_put (cs := #[.int .i64 t222, .int .i64 0, .int .i64 0, .int .i64 0]) ?_ 1 _ rfl; (with_reducible repeat (first | refine blk_drewN ?_ _ | refine blk_drew ?_ | refine blk_alloc ?_ _)); refine blk_put (cs := #[.int .i64 0, .int .i64 0, .int .i64 0, .int .i64 0]) ?_ 0 _ rfl; (with_reducible repeat (first | refine blk_drewN ?_ _ | refine blk_drew ?_ | refine blk_alloc ?_ _)); exact BK231.out⟩
       have n2_ : Aside0 (IsS93 w0 ((((w18.setCell ⟨gb231, 0, none⟩ (.int .i64 t222)).setCell ⟨gb231, 1, none⟩ (.int .i64 t225)).setCell ⟨gb231, 2, none⟩ (.int .i64 (wrap64 (1 + t228)))).setCell ⟨gb231, 3, none⟩ (.int .i64 0)) g s0_0 t229 t230) := ⟨by repeat (first | (with_reducible first | exact HI0.out | apply qh | apply qi | apply qj | apply qk | apply ql | refine IsS93.far ?_ NB0_231.out _))⟩
       have n3_ : Aside0 (KeepBut w ((((w18.setCell ⟨gb231, 0, none⟩ (.int .i64 t222)).setCell ⟨gb231, 1, none⟩ (.int .i64 t225)).setCell ⟨gb231, 2, none⟩ (.int .i64 (wrap64 (1 + t228)))).setCell ⟨gb231, 3, none⟩ (.int .i64 0)) g none) := ⟨by repeat (first | (with_reducible first | exact HK.out | apply qd | apply qe | apply qf | apply qg | refine keep_far ?_ GW231.out _))⟩
       have n4_ : Aside0 (Below w0.heap.size w0 ((((w18.setCell ⟨gb231, 0, none⟩ (.int .i64 t222)).setCell ⟨gb231, 1, none⟩ (.int .i64 t225)).setCell ⟨gb231, 2, none⟩ (.int .i64 (wrap64 (1 + t228)))).setCell ⟨gb231, 3, none⟩ (.int .i64 0))) := ⟨by repeat (first | (with_reducible first | exact HB.out | apply qm | apply qn | apply qo | refine below_set ?_ (IsS93.ge HI0.out) | refine below_set ?_ GE231.out))⟩
       (try clear HO_7)
       (try clear BK231)
       (try clear HI0)
       (try clear HK)
       (try clear HB)
       generalize ((((w18.setCell ⟨gb231, 0, none⟩ (.int .i64 t222)).setCell ⟨gb231, 1, none⟩ (.int .i64 t225)).setCell ⟨gb231, 2, none⟩ (.int .i64 (wrap64 (1 + t228)))).setCell ⟨gb231, 3, none⟩ (.int .i64 0)) = w24 at n0_ n1_ n2_ n3_ n4_ ⊢
       have HO_7 := n0_
       have BK231 := n1_
       have HI0 := n2_
       have HK := n3_
       have HB := n4_
       clear n0_ n1_ n2_ n3_ n4_
       have n0_ := Aside0.mk (Kd.R_drew HO_7.out)
       have n1_ := Aside0.mk (blk_drew BK231.out)
       have n2_ := Aside0.mk (IsS93.drew HI0.out)
       have n3_ := Aside0.mk (keep_drew HK.out)
       have n4_ := Aside0.mk (below_drew1 HB.out)
       clear HO_7
       clear BK231
       clear HI0
       clear HK
       clear HB
       have HO_7 := n0_
       have BK231 := n1_
       have HI0 := n2_
       have HK := n3_
       have HB := n4_
       clear n0_ n1_ n2_ n3_ n4_
       refine start_ (n := 12) (S := fun w' => w'.cell? ⟨gb231, 0, none⟩ = some (.int .i64 t222) ∧ w'.cell? ⟨gb231, 1, none⟩ = some (.int .i64 t225) ∧ w'.cell? ⟨gb231, 2, none⟩ = some (.int .i64 (wrap64 (1 + t228))) ∧ w'.cell? ⟨gb231, 3, none⟩ = some (.int .i64 0)) (ds := [11]) #[false,false,false,false,false,false,false,false,false,false,false,false] (by kernel_rfl) rfl rfl ⟨(blk_cell BK231.out 0).trans rfl, (blk_cell BK231.out 1).trans rfl, (blk_cell BK231.out 2).trans rfl, (blk_cell BK231.out 3).trans rfl⟩ (fun hHeld => ?_); refine with_tabW spec_l14Draw.tab8 spec_l14Draw.bits8 (fun HT_ HW_ => ?_)
       generalize w24.drew = w25 at HO_7 BK231 HI0 HK HB hHeld ⊢
       refine pure_ (i := 0) (N := some 36) (v := ?_) (a' := ?_) #[true,false,false,false,false,false,false,false,false,false,false,false] rfl rfl (any_of HT_.out (by kernel_rfl)) (fun _ _ _ h => h) (Or.inl ⟨by rfl, ?_⟩) ?_ ?_
       rotate_left
       ·intro w'
        go_simp
        with_reducible rfl
       rotate_left
       ·simp only [Act.put, List.setIfInBounds_toArray, List.set_cons_zero, List.set_cons_succ, i64_w, i32_w]
        rfl
       refine pure_ (i := 3) (N := some 39) (v := ?_) (a' := ?_) #[true,false,false,true,false,false,false,false,false,false,false,false] rfl rfl (any_of HT_.out (by kernel_rfl)) (fun _ _ _ h => h) (Or.inl ⟨by rfl, ?_⟩) ?_ ?_
       rotate_left
       ·intro w'
        go_simp
        with_reducible rfl
       rotate_left
       ·simp only [Act.put, List.setIfInBounds_toArray, List.set_cons_zero, List.set_cons_succ, i64_w, i32_w]
        rfl
       refine pure_ (i := 4) (N := some 40) (v := ?_) (a' := ?_) #[true,false,false,true,true,false,false,false,false,false,false,false] rfl rfl (any_of HT_.out (by kernel_rfl)) (fun _ _ _ h => h) (Or.inl ⟨by rfl, ?_⟩) ?_ ?_
       rotate_left
       ·intro w'
        go_simp
        with_reducible rfl
       rotate_left
       ·simp only [Act.put, List.setIfInBounds_toArray, List.set_cons_zero, List.set_cons_succ, i64_w, i32_w]
        rfl
       refine pure_ (i := 5) (N := some 41) (v := ?_) (a' := ?_) #[true,false,false,true,true,true,false,false,false,false,false,false] rfl rfl (any_of HT_.out (by kernel_rfl)) (fun _ _ _ h => h) (Or.inl ⟨by rfl, ?_⟩) ?_ ?_
       rotate_left
       ·intro w'
        go_simp
        with_reducible rfl
       rotate_left
       ·simp only [Act.put, List.setIfInBounds_toArray, List.set_cons_zero, List.set_cons_succ, i64_w, i32_w]
        rfl
       refine pure_ (i := 8) (N := some 44) (v := ?_) (a' := ?_) #[true,false,false,true,true,true,false,false,true,false,false,false] rfl rfl (any_of HT_.out (by kernel_rfl)) (fun _ _ _ h => h) (Or.inl ⟨by rfl, ?_⟩) ?_ ?_
       rotate_left
       ·intro w'
        go_simp
        with_reducible rfl
       rotate_left
       ·simp only [Act.put, List.setIfInBounds_toArray, List.set_cons_zero, List.set_cons_succ, i64_w, i32_w]
        rfl
       refine take_ (i := 1) (N := some 37) (v := ?_) (a' := ?_) #[true,true,false,true,true,true,false,false,true,false,false,false] rfl rfl (take_ofW HT_.out HW_.out (by kernel_rfl)) (fun _ _ _ h => h) (Or.inl ⟨by rfl, ?_⟩) hHeld ?_ ?_
       rotate_left
       ·rintro w' ⟨s0, s1, s2, s3⟩
        go_simp
        with_reducible rfl
       rotate_left
       ·simp only [Act.put, List.setIfInBounds_toArray, List.set_cons_zero, List.set_cons_succ, i64_w, i32_w]
        rfl
       refine pure_ (i := 2) (N := some 38) (v := ?_) (a' := ?_) #[true,true,true,true,true,true,false,false,true,false,false,false] rfl rfl (any_of HT_.out (by kernel_rfl)) (fun _ _ _ h => h) (Or.inl ⟨by rfl, ?_⟩) ?_ ?_
       rotate_left
       ·intro w'
        go_simp
        with_reducible rfl
       rotate_left
       ·simp only [Act.put, List.setIfInBounds_toArray, List.set_cons_zero, List.set_cons_succ, i64_w, i32_w]
        rfl
       refine one_ (i := 6) (N := some 42) #[true,true,true,true,true,true,true,false,true,false,false,false] rfl rfl (one_of HT_.out (by kernel_rfl)) (by decide) (fun K hK => ?_)
       refine goes_ Try.func61 (by kernel_rfl) rfl #[.pointer (some ⟨g, 0, none⟩), .int .i64 (wrap64 ((wrap64 (1 + t210)) - 1))] (by rfl) rfl rfl (by (try simp only [List.map_toArray, List.map_cons, List.map_nil]); first | done | rfl) ?_
       with_reducible refine (spec_l01Next.calls g s0_0 t229 t230 (wrap64 ((wrap64 (1 + t210)) - 1)) t232 t233 t234 w0 _ ?side1 ?side2 A22.out).mono ?_
       (case side1 => repeat (first | (with_reducible first | exact HI0.out | apply qh | apply qi | apply qj | apply qk | apply ql | refine IsS93.far ?_ NB0_231.out _)))
       (case side2 => repeat (first | (with_reducible first | exact HB.out | apply qm | apply qn | apply qo | refine below_set ?_ (IsS93.ge HI0.out) | refine below_set ?_ GE231.out)))
       rintro e w26 ⟨rfl, hi, hb, hk⟩
       refine ⟨_, rfl, ?_⟩
       have n0_ := Aside0.mk (Kd.R_mono (Kd.R_keep (IsS93.apart (show IsS93 w0 _ g s0_0 t229 t230 from by repeat (first | (with_reducible first | exact HI0.out | apply qh | apply qi | apply qj | apply qk | apply ql | refine IsS93.far ?_ NB0_231.out _))) (by (with_reducible repeat (first | apply qa | apply qb | apply qc)); exact HO_7.out) (by decide)) hk (fun _ h => h.2)) (fun _ h => h.1))
       have n1_ := Aside0.mk (KeepBut.blk hk (g' := gb231) (o := .cells #[.int .i64 t222, .int .i64 t225, .int .i64 (wrap64 (1 + t228)), .int .i64 0] 54 (0, 0)) (by (with_reducible repeat (first | refine blk_drewN ?_ _ | refine blk_drew ?_ | refine blk_alloc ?_ _)); exact BK231.out) NB231_0.out (by simp))
       have n2_ := Aside0.mk (KeepBut.trans (by repeat (first | (with_reducible first | exact HK.out | apply qd | apply qe | apply qf | apply qg | refine keep_far ?_ GW231.out _))) hk (.inl rfl))
       have n3_ := Aside0.mk (hb)
       have n4_ := Aside0.mk (hi)
       clear HO_7
       clear BK231
       clear HK
       clear HB
       clear HI0
       have HO_7 := n0_
       have BK231 := n1_
       have HK := n2_
       have HB := n3_
       have HI0 := n4_
       clear n0_ n1_ n2_ n3_ n4_
       (try clear hb)
       (try clear hb2)
       (try clear hk)
       (try clear hi)
       refine hK.out _ _ ⟨(blk_cell BK231.out 0).trans rfl, (blk_cell BK231.out 1).trans rfl, (blk_cell BK231.out 2).trans rfl, (blk_cell BK231.out 3).trans rfl⟩ (fun hHeld => ?_)
       clear hK K
       refine norm_ (a' := ?_) ?_ ?_
       rotate_left
       ·show Act.put _ (some 42) _ = _
        simp only [Act.put, List.setIfInBounds_toArray, List.set_cons_zero, List.set_cons_succ, i64_w, i32_w]
        rfl
       refine pure_ (i := 7) (N := some 43) (v := ?_) (a' := ?_) #[true,true,true,true,true,true,true,true,true,false,false,false] rfl rfl (any_of HT_.out (by kernel_rfl)) (fun _ _ _ h => h) (Or.inl ⟨by rfl, ?_⟩) ?_ ?_
       rotate_left
       ·intro w'
        go_simp
        with_reducible rfl
       rotate_left
       ·simp only [Act.put, List.setIfInBounds_toArray, List.set_cons_zero, List.set_cons_succ, i64_w, i32_w]
        rfl
       refine pure_ (i := 9) (N := some 45) (v := ?_) (a' := ?_) #[true,true,true,true,true,true,true,true,true,true,false,false] rfl rfl (any_of HT_.out (by kernel_rfl)) (fun _ _ _ h => h) (Or.inl ⟨by rfl, ?_⟩) ?_ ?_
       rotate_left
       ·intro w'
        go_simp
        with_reducible rfl
       rotate_left
       ·simp only [Act.put, List.setIfInBounds_toArray, List.set_cons_zero, List.set_cons_succ, i64_w, i32_w]
        rfl
       refine pure_ (i := 10) (N := some 46) (v := ?_) (a' := ?_) #[true,true,true,true,true,true,true,true,true,true,true,false] rfl rfl (any_of HT_.out (by kernel_rfl)) (fun _ _ _ h => h) (Or.inl ⟨by rfl, ?_⟩) ?_ ?_
       rotate_left
       ·intro w'
        go_simp
        with_reducible rfl
       rotate_left
       ·simp only [Act.put, List.setIfInBounds_toArray, List.set_cons_zero, List.set_cons_succ, i64_w, i32_w]
        rfl
       refine last_ (i := 11) (N := none) #[true,true,true,true,true,true,true,true,true,true,true,true] rfl rfl (one_of HT_.out (by kernel_rfl)) (by decide) (fun K hK => ?_)
       have hs27 : w26.cell? ⟨gb231, 3, none⟩ = some (.int .i64 0) := (blk_cell BK231.out 3).trans rfl
       have hfs27 := blk_frozen BK231.out 3
       refine skip_ (w1 := ?_) (by rfl) rfl ?_ ?_
       rotate_left
       ·go_simp
        rfl
       refine hK.out _ _ ?_
       clear hK K
       refine done_ (done_of HT_.out (by kernel_rfl)) ?_
       try go_wp2
       go_meet
       case rel => exact ⟨_, (t233), (t234), (Int.tmod (wrap64 ((wrap64 (t225 + 1)) + t232)) (wrap64 (1 + t210))), H', ⟨by have := HK1.out; first | omega | exact Nat.le_refl _⟩, ⟨by (with_reducible repeat (first | apply qa | apply qb | apply qc)); exact Kd.R_mono (Kd.R_far (p := ⟨gb231, 3, none⟩) (Kd.R_mono HO_7.out (fun k_ hk => (⟨hk, hk⟩ : _ ∧ k_ ≠ gb231))) (fun _ hk => hk.2) (.int .i64 (Int.tmod (wrap64 ((wrap64 (t225 + 1)) + t232)) (wrap64 (1 + t210))))) (fun _ hk => hk.1)⟩, ⟨by (with_reducible repeat (first | refine blk_drewN ?_ _ | refine blk_drew ?_ | refine blk_alloc ?_ _)); refine blk_put (cs := #[.int .i64 t222, .int .i64 t225, .int .i64 (wrap64 (1 + t228)), .int .i64 0]) ?_ 3 _ rfl; (with_reducible repeat (first | refine blk_drewN ?_ _ | refine blk_drew ?_ | refine blk_alloc ?_ _)); exact BK231.out⟩, ⟨by repeat (first | (with_reducible first | exact HI0.out | apply qh | apply qi | apply qj | apply qk | apply ql | refine IsS93.far ?_ NB0_231.out _))⟩, ⟨by repeat (first | (with_reducible first | exact HK.out | apply qd | apply qe | apply qf | apply qg | refine keep_far ?_ GW231.out _))⟩, ⟨by repeat (first | (with_reducible first | exact HB.out | apply qm | apply qn | apply qo | refine below_set ?_ (IsS93.ge HI0.out) | refine below_set ?_ GE231.out))⟩⟩
     ·rw [if_neg c21] at H
      have c21b0 : ((wrap64 (1 + t228)) == 4) = false := beq_eq_false_iff_ne.mpr c21
      have c21b1 : ((wrap64 (1 + t228)) != 4) = true := bne_iff_ne.mpr c21
      (first | rw [c21b0] | (simp only [i64_w, i32_w]; rw [c21b0]) | skip)
      have H' := Aside0.mk H
      clear H
      go_wp2
      go_meet
      case rel => exact ⟨_, (t229), (t230), (0), H', ⟨by have := HK1.out; first | omega | exact Nat.le_refl _⟩, ⟨by (with_reducible repeat (first | apply qa | apply qb | apply qc)); exact Kd.R_mono (Kd.R_far (p := ⟨gb231, 3, none⟩) (Kd.R_far (p := ⟨gb231, 2, none⟩) (Kd.R_far (p := ⟨gb231, 1, none⟩) (Kd.R_far (p := ⟨gb231, 0, none⟩) (Kd.R_mono HO_7.out (fun k_ hk => (⟨hk, hk.2⟩ : _ ∧ k_ ≠ gb231))) (fun _ hk => hk.2) (.int .i64 t222)) (fun _ hk => hk.2) (.int .i64 t225)) (fun _ hk => hk.2) (.int .i64 (wrap64 (1 + t228)))) (fun _ hk => hk.2) (.int .i64 0)) (fun _ hk => hk.1.2)⟩, ⟨by (with_reducible repeat (first | refine blk_drewN ?_ _ | refine blk_drew ?_ | refine blk_alloc ?_ _)); refine blk_put (cs := #[.int .i64 t222, .int .i64 t225, .int .i64 (wrap64 (1 + t228)), .int .i64 0]) ?_ 3 _ rfl; (with_reducible repeat (first | refine blk_drewN ?_ _ | refine blk_drew ?_ | refine blk_alloc ?_ _)); refine blk_put (cs := #[.int .i64 t222, .int .i64 t225, .int .i64 0, .int .i64 0]) ?_ 2 _ rfl; (with_reducible repeat (first | refine blk_drewN ?_ _ | refine blk_drew ?_ | refine blk_alloc ?_ _)); refine blk_put (cs := #[.int .i64 t222, .int .i64 0, .int .i64 0, .int .i64 0]) ?_ 1 _ rfl; (with_reducible repeat (first | refine blk_drewN ?_ _ | refine blk_drew ?_ | refine blk_alloc ?_ _)); refine blk_put (cs := #[.int .i64 0, .int .i64 0, .int .i64 0, .int .i64 0]) ?_ 0 _ rfl; (with_reducible repeat (first | refine blk_drewN ?_ _ | refine blk_drew ?_ | refine blk_alloc ?_ _)); exact BK231.out⟩, ⟨by repeat (first | (with_reducible first | exact HI0.out | apply qh | apply qi | apply qj | apply qk | apply ql | refine IsS93.far ?_ NB0_231.out _))⟩, ⟨by repeat (first | (with_reducible first | exact HK.out | apply qd | apply qe | apply qf | apply qg | refine keep_far ?_ GW231.out _))⟩, ⟨by repeat (first | (with_reducible first | exact HB.out | apply qm | apply qn | apply qo | refine below_set ?_ (IsS93.ge HI0.out) | refine below_set ?_ GE231.out))⟩⟩
    case rest =>
     clear HC14
     try clear c1
     try clear c2
     try clear p2
     try clear c5
     try clear c6
     try clear p6
     try clear c10
     try clear c10b0
     try clear c19
     try clear c21
     try clear c21b0
     try clear c21b1
     try clear c23
     try clear c23b0
     try clear c23b1
     try clear hcz20_0
     try clear hcz20_1
     try clear hcz20_2
     try clear hcz20_3
     try clear hfz20_0
     try clear hfz20_1
     try clear hfz20_2
     try clear hfz20_3
     try clear p2
     try clear p6
     obtain ⟨kq, x1001_13, x1002_13, x232003_13, HA, HJ13, HO_7, BK231, HI0, HK, HB⟩ := hcut
     cases kq with
     | zero => exact absurd HA.out (by simp [spec_l14Draw.j1])
     | succ kj13 =>
      have H := HA.out
      clear HA
      simp only [spec_l14Draw.j1] at H
      obtain ⟨y235, hy235⟩ : ∃ y_ : List (S54), y_ = (([] : List (S54))) := ⟨_, rfl⟩
      replace H : (if y235.length + x7_1.length < 4398046511104 then ((some (y235 ++ x7_1 : List (S54))).bind fun y238 => ((some (([(⟨t222, t225, (wrap64 (1 + t228)), x232003_13⟩ : S54)] : List (S54)) : List (S54))).bind fun y241 => (if y238.length + y241.length < 4398046511104 then ((spec_AreFaults.f kj13 (wrap64 (1 + t210)) t213 (y238 ++ y241)).bind fun t247 => (if t247 = true then ((some (([(⟨t222, t225, (wrap64 (1 + t228)), x232003_13⟩ : S54)] : List (S54)) : List (S54))).bind fun y248 => (if x7_1.length + y248.length < 4398046511104 then (spec_l14Draw.l0 kj13 (wrap64 (1 + t210)) t213 (x7_1 ++ y248) (wrap64 (x8_1 - 1)) s0_0 x1001_13 x1002_13) else (none))) else ((spec_l01Next.f s0_0 x1001_13 x1002_13 30).bind fun bt254 => (if bt254.1 = 0 then ((some (([(⟨t222, t225, (wrap64 (1 + t228)), x232003_13⟩ : S54)] : List (S54)) : List (S54))).bind fun y257 => (if x7_1.length + y257.length < 4398046511104 then (spec_l14Draw.l0 kj13 (wrap64 (1 + t210)) t213 (x7_1 ++ y257) (wrap64 (x8_1 - 1)) s0_0 bt254.2.1 bt254.2.2) else (none))) else (spec_l14Draw.l0 kj13 (wrap64 (1 + t210)) t213 x7_1 (wrap64 (x8_1 - 1)) s0_0 bt254.2.1 bt254.2.2))))) else (none)))) else (none)) = some (r1, r2, r3, r4, r5) := by first | (rw [hy235]; with_reducible exact H) | (have H2_ := (Option.bind_some _ _).symm.trans H; rw [hy235]; with_reducible exact H2_) | (have H2_ := (Option.bind_some _ _).symm.trans H; with_reducible exact H2_) | with_reducible exact H | (rw [hy235]; exact H) | exact H
      have Ny235 := Aside0.mk hy235
      clear hy235
      by_cases c28 : y235.length + x7_1.length < 4398046511104
      ·rw [if_pos c28] at H
       have LMc28 := Aside0.mk c28
       clear c28
       obtain ⟨y238, hy238⟩ : ∃ y_ : List (S54), y_ = (y235 ++ x7_1) := ⟨_, rfl⟩
       replace H : ((some (([(⟨t222, t225, (wrap64 (1 + t228)), x232003_13⟩ : S54)] : List (S54)) : List (S54))).bind fun y241 => (if y238.length + y241.length < 4398046511104 then ((spec_AreFaults.f kj13 (wrap64 (1 + t210)) t213 (y238 ++ y241)).bind fun t247 => (if t247 = true then ((some (([(⟨t222, t225, (wrap64 (1 + t228)), x232003_13⟩ : S54)] : List (S54)) : List (S54))).bind fun y248 => (if x7_1.length + y248.length < 4398046511104 then (spec_l14Draw.l0 kj13 (wrap64 (1 + t210)) t213 (x7_1 ++ y248) (wrap64 (x8_1 - 1)) s0_0 x1001_13 x1002_13) else (none))) else ((spec_l01Next.f s0_0 x1001_13 x1002_13 30).bind fun bt254 => (if bt254.1 = 0 then ((some (([(⟨t222, t225, (wrap64 (1 + t228)), x232003_13⟩ : S54)] : List (S54)) : List (S54))).bind fun y257 => (if x7_1.length + y257.length < 4398046511104 then (spec_l14Draw.l0 kj13 (wrap64 (1 + t210)) t213 (x7_1 ++ y257) (wrap64 (x8_1 - 1)) s0_0 bt254.2.1 bt254.2.2) else (none))) else (spec_l14Draw.l0 kj13 (wrap64 (1 + t210)) t213 x7_1 (wrap64 (x8_1 - 1)) s0_0 bt254.2.1 bt254.2.2))))) else (none))) = some (r1, r2, r3, r4, r5) := by first | (rw [hy238]; with_reducible exact H) | (have H2_ := (Option.bind_some _ _).symm.trans H; rw [hy238]; with_reducible exact H2_) | (have H2_ := (Option.bind_some _ _).symm.trans H; with_reducible exact H2_) | with_reducible exact H | (rw [hy238]; exact H) | exact H
       have Ny238 := Aside0.mk hy238
       clear hy238
       obtain ⟨y241, hy241⟩ : ∃ y_ : List (S54), y_ = (([(⟨t222, t225, (wrap64 (1 + t228)), x232003_13⟩ : S54)] : List (S54))) := ⟨_, rfl⟩
       replace H : (if y238.length + y241.length < 4398046511104 then ((spec_AreFaults.f kj13 (wrap64 (1 + t210)) t213 (y238 ++ y241)).bind fun t247 => (if t247 = true then ((some (([(⟨t222, t225, (wrap64 (1 + t228)), x232003_13⟩ : S54)] : List (S54)) : List (S54))).bind fun y248 => (if x7_1.length + y248.length < 4398046511104 then (spec_l14Draw.l0 kj13 (wrap64 (1 + t210)) t213 (x7_1 ++ y248) (wrap64 (x8_1 - 1)) s0_0 x1001_13 x1002_13) else (none))) else ((spec_l01Next.f s0_0 x1001_13 x1002_13 30).bind fun bt254 => (if bt254.1 = 0 then ((some (([(⟨t222, t225, (wrap64 (1 + t228)), x232003_13⟩ : S54)] : List (S54)) : List (S54))).bind fun y257 => (if x7_1.length + y257.length < 4398046511104 then (spec_l14Draw.l0 kj13 (wrap64 (1 + t210)) t213 (x7_1 ++ y257) (wrap64 (x8_1 - 1)) s0_0 bt254.2.1 bt254.2.2) else (none))) else (spec_l14Draw.l0 kj13 (wrap64 (1 + t210)) t213 x7_1 (wrap64 (x8_1 - 1)) s0_0 bt254.2.1 bt254.2.2))))) else (none)) = some (r1, r2, r3, r4, r5) := by first | (rw [hy241]; with_reducible exact H) | (have H2_ := (Option.bind_some _ _).symm.trans H; rw [hy241]; with_reducible exact H2_) | (have H2_ := (Option.bind_some _ _).symm.trans H; with_reducible exact H2_) | with_reducible exact H | (rw [hy241]; exact H) | exact H
       have Ny241 := Aside0.mk hy241
       clear hy241
       by_cases c29 : y238.length + y241.length < 4398046511104
       ·rw [if_pos c29] at H
        have LMc29 := Aside0.mk c29
        clear c29
        obtain ⟨y244, hy244⟩ : ∃ y_ : List (S54), y_ = (y238 ++ y241) := ⟨_, rfl⟩
        replace H : ((spec_AreFaults.f kj13 (wrap64 (1 + t210)) t213 y244).bind fun t247 => (if t247 = true then ((some (([(⟨t222, t225, (wrap64 (1 + t228)), x232003_13⟩ : S54)] : List (S54)) : List (S54))).bind fun y248 => (if x7_1.length + y248.length < 4398046511104 then (spec_l14Draw.l0 kj13 (wrap64 (1 + t210)) t213 (x7_1 ++ y248) (wrap64 (x8_1 - 1)) s0_0 x1001_13 x1002_13) else (none))) else ((spec_l01Next.f s0_0 x1001_13 x1002_13 30).bind fun bt254 => (if bt254.1 = 0 then ((some (([(⟨t222, t225, (wrap64 (1 + t228)), x232003_13⟩ : S54)] : List (S54)) : List (S54))).bind fun y257 => (if x7_1.length + y257.length < 4398046511104 then (spec_l14Draw.l0 kj13 (wrap64 (1 + t210)) t213 (x7_1 ++ y257) (wrap64 (x8_1 - 1)) s0_0 bt254.2.1 bt254.2.2) else (none))) else (spec_l14Draw.l0 kj13 (wrap64 (1 + t210)) t213 x7_1 (wrap64 (x8_1 - 1)) s0_0 bt254.2.1 bt254.2.2))))) = some (r1, r2, r3, r4, r5) := by first | (rw [hy244]; with_reducible exact H) | (have H2_ := (Option.bind_some _ _).symm.trans H; rw [hy244]; with_reducible exact H2_) | (have H2_ := (Option.bind_some _ _).symm.trans H; with_reducible exact H2_) | with_reducible exact H | (rw [hy244]; exact H) | exact H
        have Ny244 := Aside0.mk hy244
        clear hy244
        replace H := Option.bind_eq_some_iff.mp H
        obtain ⟨t247, A300, H⟩ := H
        replace H : (if t247 = true then ((some (([(⟨t222, t225, (wrap64 (1 + t228)), x232003_13⟩ : S54)] : List (S54)) : List (S54))).bind fun y248 => (if x7_1.length + y248.length < 4398046511104 then (spec_l14Draw.l0 kj13 (wrap64 (1 + t210)) t213 (x7_1 ++ y248) (wrap64 (x8_1 - 1)) s0_0 x1001_13 x1002_13) else (none))) else ((spec_l01Next.f s0_0 x1001_13 x1002_13 30).bind fun bt254 => (if bt254.1 = 0 then ((some (([(⟨t222, t225, (wrap64 (1 + t228)), x232003_13⟩ : S54)] : List (S54)) : List (S54))).bind fun y257 => (if x7_1.length + y257.length < 4398046511104 then (spec_l14Draw.l0 kj13 (wrap64 (1 + t210)) t213 (x7_1 ++ y257) (wrap64 (x8_1 - 1)) s0_0 bt254.2.1 bt254.2.2) else (none))) else (spec_l14Draw.l0 kj13 (wrap64 (1 + t210)) t213 x7_1 (wrap64 (x8_1 - 1)) s0_0 bt254.2.1 bt254.2.2)))) = some (r1, r2, r3, r4, r5) := H
        have A30 := Aside0.mk A300
        clear A300
        by_cases c31 : t247 = true
        ·subst c31
         have H1 : ((some (([(⟨t222, t225, (wrap64 (1 + t228)), x232003_13⟩ : S54)] : List (S54)) : List (S54))).bind fun y248 => (if x7_1.length + y248.length < 4398046511104 then (spec_l14Draw.l0 kj13 (wrap64 (1 + t210)) t213 (x7_1 ++ y248) (wrap64 (x8_1 - 1)) s0_0 x1001_13 x1002_13) else (none))) = some (r1, r2, r3, r4, r5) := by rw [if_pos rfl] at H; exact H
         clear H
         have H := H1
         clear H1
         obtain ⟨y248, hy248⟩ : ∃ y_ : List (S54), y_ = (([(⟨t222, t225, (wrap64 (1 + t228)), x232003_13⟩ : S54)] : List (S54))) := ⟨_, rfl⟩
         replace H : (if x7_1.length + y248.length < 4398046511104 then (spec_l14Draw.l0 kj13 (wrap64 (1 + t210)) t213 (x7_1 ++ y248) (wrap64 (x8_1 - 1)) s0_0 x1001_13 x1002_13) else (none)) = some (r1, r2, r3, r4, r5) := by first | (rw [hy248]; with_reducible exact H) | (have H2_ := (Option.bind_some _ _).symm.trans H; rw [hy248]; with_reducible exact H2_) | (have H2_ := (Option.bind_some _ _).symm.trans H; with_reducible exact H2_) | with_reducible exact H | (rw [hy248]; exact H) | exact H
         have Ny248 := Aside0.mk hy248
         clear hy248
         by_cases c32 : x7_1.length + y248.length < 4398046511104
         ·rw [if_pos c32] at H
          have LMc32 := Aside0.mk c32
          clear c32
          obtain ⟨y251, hy251⟩ : ∃ y_ : List (S54), y_ = (x7_1 ++ y248) := ⟨_, rfl⟩
          replace H : (spec_l14Draw.l0 kj13 (wrap64 (1 + t210)) t213 y251 (wrap64 (x8_1 - 1)) s0_0 x1001_13 x1002_13) = some (r1, r2, r3, r4, r5) := by first | (rw [hy251]; with_reducible exact H) | (have H2_ := (Option.bind_some _ _).symm.trans H; rw [hy251]; with_reducible exact H2_) | (have H2_ := (Option.bind_some _ _).symm.trans H; with_reducible exact H2_) | with_reducible exact H | (rw [hy251]; exact H) | exact H
          have Ny251 := Aside0.mk hy251
          clear hy251
          have H' := Aside0.mk H
          clear H
          obtain ⟨Ao33, co33, eo33⟩ := Kd.R_slice HO_7.out
          subst eo33
          try go_wp2
          have n0_ := Aside0.mk (Kd.R_drew HO_7.out)
          have n1_ := Aside0.mk (blk_drew BK231.out)
          have n2_ := Aside0.mk (IsS93.drew HI0.out)
          have n3_ := Aside0.mk (keep_drew HK.out)
          have n4_ := Aside0.mk (below_drew1 HB.out)
          clear HO_7
          clear BK231
          clear HI0
          clear HK
          clear HB
          have HO_7 := n0_
          have BK231 := n1_
          have HI0 := n2_
          have HK := n3_
          have HB := n4_
          clear n0_ n1_ n2_ n3_ n4_
          refine start_ (n := 14) (S := fun w' => w'.cell? ⟨gb231, 0, none⟩ = some (.int .i64 t222) ∧ w'.cell? ⟨gb231, 1, none⟩ = some (.int .i64 t225) ∧ w'.cell? ⟨gb231, 2, none⟩ = some (.int .i64 (wrap64 (1 + t228))) ∧ w'.cell? ⟨gb231, 3, none⟩ = some (.int .i64 x232003_13)) (ds := []) #[false,false,false,false,false,false,false,false,false,false,false,false,false,false] (by kernel_rfl) rfl rfl ⟨(blk_cell BK231.out 0).trans rfl, (blk_cell BK231.out 1).trans rfl, (blk_cell BK231.out 2).trans rfl, (blk_cell BK231.out 3).trans rfl⟩ (fun hHeld => ?_); refine with_tabW spec_l14Draw.tab9 spec_l14Draw.bits9 (fun HT_ HW_ => ?_)
          generalize wc.drew = w34 at HO_7 BK231 HI0 HK HB hHeld ⊢
          refine pure_ (i := 0) (N := some 47) (v := ?_) (a' := ?_) #[true,false,false,false,false,false,false,false,false,false,false,false,false,false] rfl rfl (any_of HT_.out (by kernel_rfl)) (fun _ _ _ h => h) (Or.inl ⟨by rfl, ?_⟩) ?_ ?_
          rotate_left
          ·intro w'
           go_simp
           with_reducible rfl
          rotate_left
          ·simp only [Act.put, List.setIfInBounds_toArray, List.set_cons_zero, List.set_cons_succ, i64_w, i32_w]
           rfl
          refine pure_ (i := 1) (N := some 48) (v := ?_) (a' := ?_) #[true,true,false,false,false,false,false,false,false,false,false,false,false,false] rfl rfl (any_of HT_.out (by kernel_rfl)) (fun _ _ _ h => h) (Or.inl ⟨by rfl, ?_⟩) ?_ ?_
          rotate_left
          ·intro w'
           go_simp
           with_reducible rfl
          rotate_left
          ·simp only [Act.put, List.setIfInBounds_toArray, List.set_cons_zero, List.set_cons_succ, i64_w, i32_w]
           rfl
          refine pure_ (i := 3) (N := some 50) (v := ?_) (a' := ?_) #[true,true,false,true,false,false,false,false,false,false,false,false,false,false] rfl rfl (any_of HT_.out (by kernel_rfl)) (fun _ _ _ h => h) (Or.inl ⟨by rfl, ?_⟩) ?_ ?_
          rotate_left
          ·intro w'
           go_simp
           with_reducible rfl
          rotate_left
          ·simp only [Act.put, List.setIfInBounds_toArray, List.set_cons_zero, List.set_cons_succ, i64_w, i32_w]
           rfl
          refine take_ (i := 5) (N := some 52) (v := ?_) (a' := ?_) #[true,true,false,true,false,true,false,false,false,false,false,false,false,false] rfl rfl (take_ofW HT_.out HW_.out (by kernel_rfl)) (fun _ _ _ h => h) (Or.inl ⟨by rfl, ?_⟩) hHeld ?_ ?_
          rotate_left
          ·rintro w' ⟨s0, s1, s2, s3⟩
           go_simp
           with_reducible rfl
          rotate_left
          ·simp only [Act.put, List.setIfInBounds_toArray, List.set_cons_zero, List.set_cons_succ, i64_w, i32_w]
           rfl
          refine join_ (σ := Value × Value × Value) 7 #[true,true,true,true,true,true,true,false,false,false,false,false,false,false] (fun s_ => [(49, s_.1), (51, s_.2.1), (53, s_.2.2)]) (fun s_ w' => (w'.cell? ⟨gb231, 0, none⟩ = some (.int .i64 t222) ∧ w'.cell? ⟨gb231, 1, none⟩ = some (.int .i64 t225) ∧ w'.cell? ⟨gb231, 2, none⟩ = some (.int .i64 (wrap64 (1 + t228))) ∧ w'.cell? ⟨gb231, 3, none⟩ = some (.int .i64 x232003_13)) ∧ (Kd.R k54 54 w' w.heap.size (fun k_ => some k_ ≠ (s_.2.2 : Value).ownBlock ∧ some k_ ≠ (.slice Ao33 x7_1.length co33 : Value).ownBlock ∧ k_ ≠ gb231) s_.2.1 y238) ∧ (Kd.R k54 54 w' w.heap.size (fun k_ => some k_ ≠ (s_.2.1 : Value).ownBlock ∧ some k_ ≠ (.slice Ao33 x7_1.length co33 : Value).ownBlock ∧ k_ ≠ gb231) s_.2.2 y241) ∧ (Kd.R k54 54 w' w.heap.size (fun k_ => some k_ ≠ (s_.2.1 : Value).ownBlock ∧ some k_ ≠ (s_.2.2 : Value).ownBlock ∧ k_ ≠ gb231) (.slice Ao33 x7_1.length co33) x7_1) ∧ (w'.heap[gb231]? = some (.cells #[.int .i64 t222, .int .i64 t225, .int .i64 (wrap64 (1 + t228)), .int .i64 x232003_13] 54 (0, 0))) ∧ (IsS93 w0 w' g s0_0 x1001_13 x1002_13) ∧ (KeepBut w w' g none) ∧ (Below w0.heap.size w0 w')) ?_ ?_
          rotate_left
          ·intro hCont
           refine two_ (i := 2) (j := 6) (Ni := some 49) (Nj := some 53) #[true,true,true,true,false,true,false,false,false,false,false,false,false,false] #[true,true,false,true,false,true,true,false,false,false,false,false,false,false] rfl rfl rfl rfl (two_of HT_.out (by kernel_rfl)) (by decide) (by decide) (fun K hK => ?_) (fun K hK => ?_)
           ·skip
            refine Kd.R_lit_step k54 _ 54 ?hg (N := 49) ?hd (xs := ([] : List (S54))) (inner := []) (ok := fun _ => True) (okp := fun _ => True) ?hr ?hp (fun _ hk => hk) trivial (Below.refl _ _) (Nat.le_refl _) (by simp) ?_; (case hd => rfl); (case hg => rfl); (case hr => first | (go_simp; done) | (go_simp; rfl)); (case hp => exact (Reps.none _ _))
            intro v236 w35 ho36 hb hg_ hnew_
            clear hg_ hnew_
            (first | rw [← Ny235.out] at ho36 | (simp only [Int.reduceToNat] at ho36; rw [← Ny235.out] at ho36))
            have n0_ := Aside0.mk (Kd.R_elder' (by (with_reducible repeat (first | apply qa | apply qb | apply qc)); exact HO_7.out) (Kd.R_base ho36) hb)
            have n1_ := Aside0.mk (Kd.R_lower (Kd.R_newB (Kd.R_new' ho36 (Kd.R_lt (by (with_reducible repeat (first | apply qa | apply qb | apply qc)); exact HO_7.out))) (g := gb231) (o := .cells #[.int .i64 t222, .int .i64 t225, .int .i64 (wrap64 (1 + t228)), .int .i64 x232003_13] 54 (0, 0)) (by (with_reducible repeat (first | refine blk_drewN ?_ _ | refine blk_drew ?_ | refine blk_alloc ?_ _)); exact BK231.out)) (keep_size (w := w) (g := g) (row := none) (by repeat (first | (with_reducible first | exact HK.out | apply qd | apply qe | apply qf | apply qg | refine keep_far ?_ GW231.out _)))))
            have n2_ := Aside0.mk (blk_below (g := gb231) (o := .cells #[.int .i64 t222, .int .i64 t225, .int .i64 (wrap64 (1 + t228)), .int .i64 x232003_13] 54 (0, 0)) (by (with_reducible repeat (first | refine blk_drewN ?_ _ | refine blk_drew ?_ | refine blk_alloc ?_ _)); exact BK231.out) hb)
            have n3_ := Aside0.mk (IsS93.below (by repeat (first | (with_reducible first | exact HI0.out | apply qh | apply qi | apply qj | apply qk | apply ql | refine IsS93.far ?_ NB0_231.out _))) hb)
            have n4_ := Aside0.mk (KeepBut.trans (by repeat (first | (with_reducible first | exact HK.out | apply qd | apply qe | apply qf | apply qg | refine keep_far ?_ GW231.out _))) (KeepBut.of_below hb g none) (.inl rfl))
            have n5_ := Aside0.mk (below_step (by repeat (first | (with_reducible first | exact HB.out | apply qm | apply qn | apply qo | refine below_set ?_ (IsS93.ge HI0.out) | refine below_set ?_ GE231.out))) hb)
            clear HO_7
            clear BK231
            clear HI0
            clear HK
            clear HB
            have HO_7 := n0_
            have HO237 := n1_
            have BK231 := n2_
            have HI0 := n3_
            have HK := n4_
            have HB := n5_
            clear n0_ n1_ n2_ n3_ n4_ n5_
            clear hb ho36
            refine hK.out _ _ ⟨(blk_cell BK231.out 0).trans rfl, (blk_cell BK231.out 1).trans rfl, (blk_cell BK231.out 2).trans rfl, (blk_cell BK231.out 3).trans rfl⟩ (fun hHeld => ?_)
            clear hK K
            refine norm_ (a' := ?_) ?_ ?_
            rotate_left
            ·show Act.put _ (some 49) _ = _
             simp only [Act.put, List.setIfInBounds_toArray, List.set_cons_zero, List.set_cons_succ, i64_w, i32_w]
             rfl
            refine two_ (i := 4) (j := 6) (Ni := some 51) (Nj := some 53) #[true,true,true,true,true,true,false,false,false,false,false,false,false,false] #[true,true,true,true,false,true,true,false,false,false,false,false,false,false] rfl rfl rfl rfl (two_of HT_.out (by kernel_rfl)) (by decide) (by decide) (fun K hK => ?_) (fun K hK => ?_)
            ·skip
             refine Kd.R_append_rows_step k54 w.heap.size (by rfl) (.tmp 49) (.tmp 50) 36 54 (.agg #[(.int .i64 0), (.int .i64 0), (.int .i64 0), (.int .i64 0)]) 32 rfl Try.underlying36 info54 rfl (by decide) (by omega) v236 y235 x7_1 _ _ _ (fun k_ => some k_ ≠ (.slice Ao33 x7_1.length co33 : Value).ownBlock ∧ k_ ≠ gb231) (fun _ => False) rfl rfl ?aO ?aR (fun _ _ h => h) (fun _ h => h.elim) ?aF (Below.refl _ _) ?aS ?aL ?_
             (case aR => repeat (first | exact (Kd.R_reads' HO_7.out).2.2 | (with_reducible refine Kd.C_alloc ?_ _) | (with_reducible refine Kd.C_drewN ?_ _) | (with_reducible refine Kd.C_drew ?_)))
             (case aF => exact (fun k_ hk => ⟨Kd.fresh' (Kd.R_lt (by (with_reducible repeat (first | apply qa | apply qb | apply qc)); exact HO_7.out)) k_ hk, Kd.freshB (g := gb231) (o := .cells #[.int .i64 t222, .int .i64 t225, .int .i64 (wrap64 (1 + t228)), .int .i64 x232003_13] 54 (0, 0)) (by (with_reducible repeat (first | refine blk_drewN ?_ _ | refine blk_drew ?_ | refine blk_alloc ?_ _)); exact BK231.out) k_ hk⟩))
             (case aO => exact (by (with_reducible repeat (first | apply qa | apply qb | apply qc)); exact Kd.R_mono HO237.out (fun _ hk => ⟨hk.1.2, hk.2⟩)))
             (case aS => exact (keep_size (w := w) (g := g) (row := none) (by repeat (first | (with_reducible first | exact HK.out | apply qd | apply qe | apply qf | apply qg | refine keep_far ?_ GW231.out _)))))
             (case aL => have := LMc28.out; omega)
             intro v239 w37 ho hb hg hat
             rw [← Ny238.out] at ho
             have n0_ := Aside0.mk (Kd.R_after (ok := (fun k_ => k_ ≠ gb231)) (by (with_reducible repeat (first | apply qa | apply qb | apply qc)); exact HO_7.out) hg hat)
             have n1_ := Aside0.mk (blk_grown (g := gb231) (o := .cells #[.int .i64 t222, .int .i64 t225, .int .i64 (wrap64 (1 + t228)), .int .i64 x232003_13] 54 (0, 0)) (by (with_reducible repeat (first | refine blk_drewN ?_ _ | refine blk_drew ?_ | refine blk_alloc ?_ _)); exact BK231.out) hg (Kd.R_away HO237.out (fun _ hk => hk.2)))
             have n2_ := Aside0.mk (IsS93.grown (by repeat (first | (with_reducible first | exact HI0.out | apply qh | apply qi | apply qj | apply qk | apply ql | refine IsS93.far ?_ NB0_231.out _))) hg (IsS93.own_ne HI0.out HO237.out (by decide)))
             have n3_ := Aside0.mk (below_weaken (by repeat (first | (with_reducible first | exact HB.out | apply qm | apply qn | apply qo | refine below_set ?_ (IsS93.ge HI0.out) | refine below_set ?_ GE231.out))) HL.out hb)
             have n4_ := Aside0.mk (KeepBut.trans (by repeat (first | (with_reducible first | exact HK.out | apply qd | apply qe | apply qf | apply qg | refine keep_far ?_ GW231.out _))) (KeepBut.of_grown hg g) (Kd.R_base2 HO237.out))
             have n5_ := Aside0.mk (ho)
             clear HO_7
             clear BK231
             clear HI0
             clear HB
             clear HK
             clear HO237
             have HO_7 := n0_
             have BK231 := n1_
             have HI0 := n2_
             have HB := n3_
             have HK := n4_
             have HO240 := n5_
             clear n0_ n1_ n2_ n3_ n4_ n5_
             clear ho hb hg hat
             refine hK.out _ _ ⟨(blk_cell BK231.out 0).trans rfl, (blk_cell BK231.out 1).trans rfl, (blk_cell BK231.out 2).trans rfl, (blk_cell BK231.out 3).trans rfl⟩ (fun hHeld => ?_)
             clear hK K
             refine norm_ (a' := ?_) ?_ ?_
             rotate_left
             ·show Act.put _ (some 51) _ = _
              simp only [Act.put, List.setIfInBounds_toArray, List.set_cons_zero, List.set_cons_succ, i64_w, i32_w]
              rfl
             refine one_ (i := 6) (N := some 53) #[true,true,true,true,true,true,true,false,false,false,false,false,false,false] rfl rfl (one_of HT_.out (by kernel_rfl)) (by decide) (fun K hK => ?_)
             refine Kd.R_lit_step k54 _ 54 ?hg (N := 53) ?hd (xs := ([(⟨t222, t225, (wrap64 (1 + t228)), x232003_13⟩ : S54)] : List (S54))) (inner := [.int .i64 t222, .int .i64 t225, .int .i64 (wrap64 (1 + t228)), .int .i64 x232003_13]) (ok := fun _ => True) (okp := fun _ => True) ?hr ?hp (fun _ hk => hk) trivial (Below.refl _ _) (Nat.le_refl _) (by simp) ?_; (case hd => rfl); (case hg => rfl); (case hr => first | (go_simp; done) | (go_simp; rfl)); (case hp => exact (Reps.c4 (show Kd.M k54 _ _ _ (⟨t222, t225, (wrap64 (1 + t228)), x232003_13⟩ : S54) [.int .i64 t222, .int .i64 t225, .int .i64 (wrap64 (1 + t228)), .int .i64 x232003_13] from (k54_mkM _ _ _ (⟨t222, t225, (wrap64 (1 + t228)), x232003_13⟩ : S54) )) (Reps.none _ _)))
             intro v242 w38 ho39 hb hg_ hnew_
             clear hg_ hnew_
             (first | rw [← Ny241.out] at ho39 | (simp only [Int.reduceToNat] at ho39; rw [← Ny241.out] at ho39))
             have n0_ := Aside0.mk (Kd.R_elder' (by (with_reducible repeat (first | apply qa | apply qb | apply qc)); exact HO_7.out) (Kd.R_base ho39) hb)
             have n1_ := Aside0.mk (Kd.R_elder' (by (with_reducible repeat (first | apply qa | apply qb | apply qc)); exact HO240.out) (Kd.R_base ho39) hb)
             have n2_ := Aside0.mk (Kd.R_lower (Kd.R_newB (Kd.R_new' (Kd.R_new' ho39 (Kd.R_lt (by (with_reducible repeat (first | apply qa | apply qb | apply qc)); exact HO_7.out))) (Kd.R_lt (by (with_reducible repeat (first | apply qa | apply qb | apply qc)); exact HO240.out))) (g := gb231) (o := .cells #[.int .i64 t222, .int .i64 t225, .int .i64 (wrap64 (1 + t228)), .int .i64 x232003_13] 54 (0, 0)) (by (with_reducible repeat (first | refine blk_drewN ?_ _ | refine blk_drew ?_ | refine blk_alloc ?_ _)); exact BK231.out)) (keep_size (w := w) (g := g) (row := none) (by repeat (first | (with_reducible first | exact HK.out | apply qd | apply qe | apply qf | apply qg | refine keep_far ?_ GW231.out _)))))
             have n3_ := Aside0.mk (blk_below (g := gb231) (o := .cells #[.int .i64 t222, .int .i64 t225, .int .i64 (wrap64 (1 + t228)), .int .i64 x232003_13] 54 (0, 0)) (by (with_reducible repeat (first | refine blk_drewN ?_ _ | refine blk_drew ?_ | refine blk_alloc ?_ _)); exact BK231.out) hb)
             have n4_ := Aside0.mk (IsS93.below (by repeat (first | (with_reducible first | exact HI0.out | apply qh | apply qi | apply qj | apply qk | apply ql | refine IsS93.far ?_ NB0_231.out _))) hb)
             have n5_ := Aside0.mk (KeepBut.trans (by repeat (first | (with_reducible first | exact HK.out | apply qd | apply qe | apply qf | apply qg | refine keep_far ?_ GW231.out _))) (KeepBut.of_below hb g none) (.inl rfl))
             have n6_ := Aside0.mk (below_step (by repeat (first | (with_reducible first | exact HB.out | apply qm | apply qn | apply qo | refine below_set ?_ (IsS93.ge HI0.out) | refine below_set ?_ GE231.out))) hb)
             clear HO_7
             clear HO240
             clear BK231
             clear HI0
             clear HK
             clear HB
             have HO_7 := n0_
             have HO240 := n1_
             have HO243 := n2_
             have BK231 := n3_
             have HI0 := n4_
             have HK := n5_
             have HB := n6_
             clear n0_ n1_ n2_ n3_ n4_ n5_ n6_
             clear hb ho39
             refine hK.out _ _ ⟨(blk_cell BK231.out 0).trans rfl, (blk_cell BK231.out 1).trans rfl, (blk_cell BK231.out 2).trans rfl, (blk_cell BK231.out 3).trans rfl⟩ (fun hHeld => ?_)
             clear hK K
             refine norm_ (a' := ?_) ?_ ?_
             rotate_left
             ·show Act.put _ (some 53) _ = _
              simp only [Act.put, List.setIfInBounds_toArray, List.set_cons_zero, List.set_cons_succ, i64_w, i32_w]
              rfl
             exact norm_ (by simp only [putAll, Act.put, List.setIfInBounds_toArray, List.set_cons_zero, List.set_cons_succ]) (hCont (v236, v239, v242) _ ⟨hHeld, (by (with_reducible repeat (first | apply qa | apply qb | apply qc)); exact Kd.R_mono HO240.out (fun _ hk => ⟨hk.2, ⟨hk.1.1, hk.1.2⟩⟩)), (by (with_reducible repeat (first | apply qa | apply qb | apply qc)); exact Kd.R_mono HO243.out (fun _ hk => ⟨hk.1.2, ⟨hk.1.1.2, hk.2⟩⟩)), (by (with_reducible repeat (first | apply qa | apply qb | apply qc)); exact Kd.R_mono HO_7.out (fun _ hk => ⟨hk.1.2, ⟨hk.2, hk.1.1⟩⟩)), (by (with_reducible repeat (first | refine blk_drewN ?_ _ | refine blk_drew ?_ | refine blk_alloc ?_ _)); exact BK231.out), (by repeat (first | (with_reducible first | exact HI0.out | apply qh | apply qi | apply qj | apply qk | apply ql | refine IsS93.far ?_ NB0_231.out _))), (by repeat (first | (with_reducible first | exact HK.out | apply qd | apply qe | apply qf | apply qg | refine keep_far ?_ GW231.out _))), (by repeat (first | (with_reducible first | exact HB.out | apply qm | apply qn | apply qo | refine below_set ?_ (IsS93.ge HI0.out) | refine below_set ?_ GE231.out)))⟩)
            ·skip
             refine Kd.R_lit_step k54 _ 54 ?hg (N := 53) ?hd (xs := ([(⟨t222, t225, (wrap64 (1 + t228)), x232003_13⟩ : S54)] : List (S54))) (inner := [.int .i64 t222, .int .i64 t225, .int .i64 (wrap64 (1 + t228)), .int .i64 x232003_13]) (ok := fun _ => True) (okp := fun _ => True) ?hr ?hp (fun _ hk => hk) trivial (Below.refl _ _) (Nat.le_refl _) (by simp) ?_; (case hd => rfl); (case hg => rfl); (case hr => first | (go_simp; done) | (go_simp; rfl)); (case hp => exact (Reps.c4 (show Kd.M k54 _ _ _ (⟨t222, t225, (wrap64 (1 + t228)), x232003_13⟩ : S54) [.int .i64 t222, .int .i64 t225, .int .i64 (wrap64 (1 + t228)), .int .i64 x232003_13] from (k54_mkM _ _ _ (⟨t222, t225, (wrap64 (1 + t228)), x232003_13⟩ : S54) )) (Reps.none _ _)))
             intro v242 w37 ho38 hb hg_ hnew_
             clear hg_ hnew_
             (first | rw [← Ny241.out] at ho38 | (simp only [Int.reduceToNat] at ho38; rw [← Ny241.out] at ho38))
             have n0_ := Aside0.mk (Kd.R_elder' (by (with_reducible repeat (first | apply qa | apply qb | apply qc)); exact HO_7.out) (Kd.R_base ho38) hb)
             have n1_ := Aside0.mk (Kd.R_elder' (by (with_reducible repeat (first | apply qa | apply qb | apply qc)); exact HO237.out) (Kd.R_base ho38) hb)
             have n2_ := Aside0.mk (Kd.R_lower (Kd.R_newB (Kd.R_new' (Kd.R_new' ho38 (Kd.R_lt (by (with_reducible repeat (first | apply qa | apply qb | apply qc)); exact HO_7.out))) (Kd.R_lt (by (with_reducible repeat (first | apply qa | apply qb | apply qc)); exact HO237.out))) (g := gb231) (o := .cells #[.int .i64 t222, .int .i64 t225, .int .i64 (wrap64 (1 + t228)), .int .i64 x232003_13] 54 (0, 0)) (by (with_reducible repeat (first | refine blk_drewN ?_ _ | refine blk_drew ?_ | refine blk_alloc ?_ _)); exact BK231.out)) (keep_size (w := w) (g := g) (row := none) (by repeat (first | (with_reducible first | exact HK.out | apply qd | apply qe | apply qf | apply qg | refine keep_far ?_ GW231.out _)))))
             have n3_ := Aside0.mk (blk_below (g := gb231) (o := .cells #[.int .i64 t222, .int .i64 t225, .int .i64 (wrap64 (1 + t228)), .int .i64 x232003_13] 54 (0, 0)) (by (with_reducible repeat (first | refine blk_drewN ?_ _ | refine blk_drew ?_ | refine blk_alloc ?_ _)); exact BK231.out) hb)
             have n4_ := Aside0.mk (IsS93.below (by repeat (first | (with_reducible first | exact HI0.out | apply qh | apply qi | apply qj | apply qk | apply ql | refine IsS93.far ?_ NB0_231.out _))) hb)
             have n5_ := Aside0.mk (KeepBut.trans (by repeat (first | (with_reducible first | exact HK.out | apply qd | apply qe | apply qf | apply qg | refine keep_far ?_ GW231.out _))) (KeepBut.of_below hb g none) (.inl rfl))
             have n6_ := Aside0.mk (below_step (by repeat (first | (with_reducible first | exact HB.out | apply qm | apply qn | apply qo | refine below_set ?_ (IsS93.ge HI0.out) | refine below_set ?_ GE231.out))) hb)
             clear HO_7
             clear HO237
             clear BK231
             clear HI0
             clear HK
             clear HB
             have HO_7 := n0_
             have HO237 := n1_
             have HO243 := n2_
             have BK231 := n3_
             have HI0 := n4_
             have HK := n5_
             have HB := n6_
             clear n0_ n1_ n2_ n3_ n4_ n5_ n6_
             clear hb ho38
             refine hK.out _ _ ⟨(blk_cell BK231.out 0).trans rfl, (blk_cell BK231.out 1).trans rfl, (blk_cell BK231.out 2).trans rfl, (blk_cell BK231.out 3).trans rfl⟩ (fun hHeld => ?_)
             clear hK K
             refine norm_ (a' := ?_) ?_ ?_
             rotate_left
             ·show Act.put _ (some 53) _ = _
              simp only [Act.put, List.setIfInBounds_toArray, List.set_cons_zero, List.set_cons_succ, i64_w, i32_w]
              rfl
             refine one_ (i := 4) (N := some 51) #[true,true,true,true,true,true,true,false,false,false,false,false,false,false] rfl rfl (one_of HT_.out (by kernel_rfl)) (by decide) (fun K hK => ?_)
             refine Kd.R_append_rows_step k54 w.heap.size (by rfl) (.tmp 49) (.tmp 50) 36 54 (.agg #[(.int .i64 0), (.int .i64 0), (.int .i64 0), (.int .i64 0)]) 32 rfl Try.underlying36 info54 rfl (by decide) (by omega) v236 y235 x7_1 _ _ _ (fun k_ => some k_ ≠ (.slice Ao33 x7_1.length co33 : Value).ownBlock ∧ some k_ ≠ (v242 : Value).ownBlock ∧ k_ ≠ gb231) (fun _ => False) rfl rfl ?aO ?aR (fun _ _ h => h) (fun _ h => h.elim) ?aF (Below.refl _ _) ?aS ?aL ?_
             (case aR => repeat (first | exact (Kd.R_reads' HO_7.out).2.2 | (with_reducible refine Kd.C_alloc ?_ _) | (with_reducible refine Kd.C_drewN ?_ _) | (with_reducible refine Kd.C_drew ?_)))
             (case aF => exact (fun k_ hk => ⟨Kd.fresh' (Kd.R_lt (by (with_reducible repeat (first | apply qa | apply qb | apply qc)); exact HO_7.out)) k_ hk, Kd.fresh' (Kd.R_lt (by (with_reducible repeat (first | apply qa | apply qb | apply qc)); exact HO243.out)) k_ hk, Kd.freshB (g := gb231) (o := .cells #[.int .i64 t222, .int .i64 t225, .int .i64 (wrap64 (1 + t228)), .int .i64 x232003_13] 54 (0, 0)) (by (with_reducible repeat (first | refine blk_drewN ?_ _ | refine blk_drew ?_ | refine blk_alloc ?_ _)); exact BK231.out) k_ hk⟩))
             (case aO => exact (by (with_reducible repeat (first | apply qa | apply qb | apply qc)); exact Kd.R_mono HO237.out (fun _ hk => ⟨hk.1.1.2, ⟨hk.2, hk.1.2⟩⟩)))
             (case aS => exact (keep_size (w := w) (g := g) (row := none) (by repeat (first | (with_reducible first | exact HK.out | apply qd | apply qe | apply qf | apply qg | refine keep_far ?_ GW231.out _)))))
             (case aL => have := LMc28.out; omega)
             intro v239 w39 ho hb hg hat
             rw [← Ny238.out] at ho
             have n0_ := Aside0.mk (Kd.R_after (ok := (fun k_ => some k_ ≠ (v242 : Value).ownBlock ∧ k_ ≠ gb231)) (by (with_reducible repeat (first | apply qa | apply qb | apply qc)); exact Kd.R_mono HO_7.out (fun _ hk => ⟨⟨hk.2, hk.1.1⟩, hk.1.2⟩)) hg hat)
             have n1_ := Aside0.mk (blk_grown (g := gb231) (o := .cells #[.int .i64 t222, .int .i64 t225, .int .i64 (wrap64 (1 + t228)), .int .i64 x232003_13] 54 (0, 0)) (by (with_reducible repeat (first | refine blk_drewN ?_ _ | refine blk_drew ?_ | refine blk_alloc ?_ _)); exact BK231.out) hg (Kd.R_away HO237.out (fun _ hk => hk.1.2)))
             have n2_ := Aside0.mk (IsS93.grown (by repeat (first | (with_reducible first | exact HI0.out | apply qh | apply qi | apply qj | apply qk | apply ql | refine IsS93.far ?_ NB0_231.out _))) hg (IsS93.own_ne HI0.out HO237.out (by decide)))
             have n3_ := Aside0.mk (Kd.R_after (ok := (fun k_ => some k_ ≠ (.slice Ao33 x7_1.length co33 : Value).ownBlock ∧ k_ ≠ gb231)) (by (with_reducible repeat (first | apply qa | apply qb | apply qc)); exact Kd.R_mono HO243.out (fun _ hk => ⟨⟨hk.1.1.2, hk.2⟩, hk.1.2⟩)) hg hat)
             have n4_ := Aside0.mk (below_weaken (by repeat (first | (with_reducible first | exact HB.out | apply qm | apply qn | apply qo | refine below_set ?_ (IsS93.ge HI0.out) | refine below_set ?_ GE231.out))) HL.out hb)
             have n5_ := Aside0.mk (KeepBut.trans (by repeat (first | (with_reducible first | exact HK.out | apply qd | apply qe | apply qf | apply qg | refine keep_far ?_ GW231.out _))) (KeepBut.of_grown hg g) (Kd.R_base2 HO237.out))
             have n6_ := Aside0.mk (ho)
             clear HO_7
             clear BK231
             clear HI0
             clear HO243
             clear HB
             clear HK
             clear HO237
             have HO_7 := n0_
             have BK231 := n1_
             have HI0 := n2_
             have HO243 := n3_
             have HB := n4_
             have HK := n5_
             have HO240 := n6_
             clear n0_ n1_ n2_ n3_ n4_ n5_ n6_
             clear ho hb hg hat
             refine hK.out _ _ ⟨(blk_cell BK231.out 0).trans rfl, (blk_cell BK231.out 1).trans rfl, (blk_cell BK231.out 2).trans rfl, (blk_cell BK231.out 3).trans rfl⟩ (fun hHeld => ?_)
             clear hK K
             refine norm_ (a' := ?_) ?_ ?_
             rotate_left
             ·show Act.put _ (some 51) _ = _
              simp only [Act.put, List.setIfInBounds_toArray, List.set_cons_zero, List.set_cons_succ, i64_w, i32_w]
              rfl
             exact norm_ (by simp only [putAll, Act.put, List.setIfInBounds_toArray, List.set_cons_zero, List.set_cons_succ]) (hCont (v236, v239, v242) _ ⟨hHeld, (by (with_reducible repeat (first | apply qa | apply qb | apply qc)); exact Kd.R_mono HO240.out (fun _ hk => ⟨hk.2.1, ⟨hk.1, hk.2.2⟩⟩)), (by (with_reducible repeat (first | apply qa | apply qb | apply qc)); exact Kd.R_mono HO243.out (fun _ hk => ⟨hk.2, ⟨hk.1.1, hk.1.2⟩⟩)), (by (with_reducible repeat (first | apply qa | apply qb | apply qc)); exact Kd.R_mono HO_7.out (fun _ hk => ⟨hk.2, ⟨hk.1.1, hk.1.2⟩⟩)), (by (with_reducible repeat (first | refine blk_drewN ?_ _ | refine blk_drew ?_ | refine blk_alloc ?_ _)); exact BK231.out), (by repeat (first | (with_reducible first | exact HI0.out | apply qh | apply qi | apply qj | apply qk | apply ql | refine IsS93.far ?_ NB0_231.out _))), (by repeat (first | (with_reducible first | exact HK.out | apply qd | apply qe | apply qf | apply qg | refine keep_far ?_ GW231.out _))), (by repeat (first | (with_reducible first | exact HB.out | apply qm | apply qn | apply qo | refine below_set ?_ (IsS93.ge HI0.out) | refine below_set ?_ GE231.out)))⟩)
           ·skip
            refine Kd.R_lit_step k54 _ 54 ?hg (N := 53) ?hd (xs := ([(⟨t222, t225, (wrap64 (1 + t228)), x232003_13⟩ : S54)] : List (S54))) (inner := [.int .i64 t222, .int .i64 t225, .int .i64 (wrap64 (1 + t228)), .int .i64 x232003_13]) (ok := fun _ => True) (okp := fun _ => True) ?hr ?hp (fun _ hk => hk) trivial (Below.refl _ _) (Nat.le_refl _) (by simp) ?_; (case hd => rfl); (case hg => rfl); (case hr => first | (go_simp; done) | (go_simp; rfl)); (case hp => exact (Reps.c4 (show Kd.M k54 _ _ _ (⟨t222, t225, (wrap64 (1 + t228)), x232003_13⟩ : S54) [.int .i64 t222, .int .i64 t225, .int .i64 (wrap64 (1 + t228)), .int .i64 x232003_13] from (k54_mkM _ _ _ (⟨t222, t225, (wrap64 (1 + t228)), x232003_13⟩ : S54) )) (Reps.none _ _)))
            intro v242 w35 ho36 hb hg_ hnew_
            clear hg_ hnew_
            (first | rw [← Ny241.out] at ho36 | (simp only [Int.reduceToNat] at ho36; rw [← Ny241.out] at ho36))
            have n0_ := Aside0.mk (Kd.R_elder' (by (with_reducible repeat (first | apply qa | apply qb | apply qc)); exact HO_7.out) (Kd.R_base ho36) hb)
            have n1_ := Aside0.mk (Kd.R_lower (Kd.R_newB (Kd.R_new' ho36 (Kd.R_lt (by (with_reducible repeat (first | apply qa | apply qb | apply qc)); exact HO_7.out))) (g := gb231) (o := .cells #[.int .i64 t222, .int .i64 t225, .int .i64 (wrap64 (1 + t228)), .int .i64 x232003_13] 54 (0, 0)) (by (with_reducible repeat (first | refine blk_drewN ?_ _ | refine blk_drew ?_ | refine blk_alloc ?_ _)); exact BK231.out)) (keep_size (w := w) (g := g) (row := none) (by repeat (first | (with_reducible first | exact HK.out | apply qd | apply qe | apply qf | apply qg | refine keep_far ?_ GW231.out _)))))
            have n2_ := Aside0.mk (blk_below (g := gb231) (o := .cells #[.int .i64 t222, .int .i64 t225, .int .i64 (wrap64 (1 + t228)), .int .i64 x232003_13] 54 (0, 0)) (by (with_reducible repeat (first | refine blk_drewN ?_ _ | refine blk_drew ?_ | refine blk_alloc ?_ _)); exact BK231.out) hb)
            have n3_ := Aside0.mk (IsS93.below (by repeat (first | (with_reducible first | exact HI0.out | apply qh | apply qi | apply qj | apply qk | apply ql | refine IsS93.far ?_ NB0_231.out _))) hb)
            have n4_ := Aside0.mk (KeepBut.trans (by repeat (first | (with_reducible first | exact HK.out | apply qd | apply qe | apply qf | apply qg | refine keep_far ?_ GW231.out _))) (KeepBut.of_below hb g none) (.inl rfl))
            have n5_ := Aside0.mk (below_step (by repeat (first | (with_reducible first | exact HB.out | apply qm | apply qn | apply qo | refine below_set ?_ (IsS93.ge HI0.out) | refine below_set ?_ GE231.out))) hb)
            clear HO_7
            clear BK231
            clear HI0
            clear HK
            clear HB
            have HO_7 := n0_
            have HO243 := n1_
            have BK231 := n2_
            have HI0 := n3_
            have HK := n4_
            have HB := n5_
            clear n0_ n1_ n2_ n3_ n4_ n5_
            clear hb ho36
            refine hK.out _ _ ⟨(blk_cell BK231.out 0).trans rfl, (blk_cell BK231.out 1).trans rfl, (blk_cell BK231.out 2).trans rfl, (blk_cell BK231.out 3).trans rfl⟩ (fun hHeld => ?_)
            clear hK K
            refine norm_ (a' := ?_) ?_ ?_
            rotate_left
            ·show Act.put _ (some 53) _ = _
             simp only [Act.put, List.setIfInBounds_toArray, List.set_cons_zero, List.set_cons_succ, i64_w, i32_w]
             rfl
            refine one_ (i := 2) (N := some 49) #[true,true,true,true,false,true,true,false,false,false,false,false,false,false] rfl rfl (one_of HT_.out (by kernel_rfl)) (by decide) (fun K hK => ?_)
            refine Kd.R_lit_step k54 _ 54 ?hg (N := 49) ?hd (xs := ([] : List (S54))) (inner := []) (ok := fun _ => True) (okp := fun _ => True) ?hr ?hp (fun _ hk => hk) trivial (Below.refl _ _) (Nat.le_refl _) (by simp) ?_; (case hd => rfl); (case hg => rfl); (case hr => first | (go_simp; done) | (go_simp; rfl)); (case hp => exact (Reps.none _ _))
            intro v236 w37 ho38 hb hg_ hnew_
            clear hg_ hnew_
            (first | rw [← Ny235.out] at ho38 | (simp only [Int.reduceToNat] at ho38; rw [← Ny235.out] at ho38))
            have n0_ := Aside0.mk (Kd.R_elder' (by (with_reducible repeat (first | apply qa | apply qb | apply qc)); exact HO_7.out) (Kd.R_base ho38) hb)
            have n1_ := Aside0.mk (Kd.R_elder' (by (with_reducible repeat (first | apply qa | apply qb | apply qc)); exact HO243.out) (Kd.R_base ho38) hb)
            have n2_ := Aside0.mk (Kd.R_lower (Kd.R_newB (Kd.R_new' (Kd.R_new' ho38 (Kd.R_lt (by (with_reducible repeat (first | apply qa | apply qb | apply qc)); exact HO_7.out))) (Kd.R_lt (by (with_reducible repeat (first | apply qa | apply qb | apply qc)); exact HO243.out))) (g := gb231) (o := .cells #[.int .i64 t222, .int .i64 t225, .int .i64 (wrap64 (1 + t228)), .int .i64 x232003_13] 54 (0, 0)) (by (with_reducible repeat (first | refine blk_drewN ?_ _ | refine blk_drew ?_ | refine blk_alloc ?_ _)); exact BK231.out)) (keep_size (w := w) (g := g) (row := none) (by repeat (first | (with_reducible first | exact HK.out | apply qd | apply qe | apply qf | apply qg | refine keep_far ?_ GW231.out _)))))
            have n3_ := Aside0.mk (blk_below (g := gb231) (o := .cells #[.int .i64 t222, .int .i64 t225, .int .i64 (wrap64 (1 + t228)), .int .i64 x232003_13] 54 (0, 0)) (by (with_reducible repeat (first | refine blk_drewN ?_ _ | refine blk_drew ?_ | refine blk_alloc ?_ _)); exact BK231.out) hb)
            have n4_ := Aside0.mk (IsS93.below (by repeat (first | (with_reducible first | exact HI0.out | apply qh | apply qi | apply qj | apply qk | apply ql | refine IsS93.far ?_ NB0_231.out _))) hb)
            have n5_ := Aside0.mk (KeepBut.trans (by repeat (first | (with_reducible first | exact HK.out | apply qd | apply qe | apply qf | apply qg | refine keep_far ?_ GW231.out _))) (KeepBut.of_below hb g none) (.inl rfl))
            have n6_ := Aside0.mk (below_step (by repeat (first | (with_reducible first | exact HB.out | apply qm | apply qn | apply qo | refine below_set ?_ (IsS93.ge HI0.out) | refine below_set ?_ GE231.out))) hb)
            clear HO_7
            clear HO243
            clear BK231
            clear HI0
            clear HK
            clear HB
            have HO_7 := n0_
            have HO243 := n1_
            have HO237 := n2_
            have BK231 := n3_
            have HI0 := n4_
            have HK := n5_
            have HB := n6_
            clear n0_ n1_ n2_ n3_ n4_ n5_ n6_
            clear hb ho38
            refine hK.out _ _ ⟨(blk_cell BK231.out 0).trans rfl, (blk_cell BK231.out 1).trans rfl, (blk_cell BK231.out 2).trans rfl, (blk_cell BK231.out 3).trans rfl⟩ (fun hHeld => ?_)
            clear hK K
            refine norm_ (a' := ?_) ?_ ?_
            rotate_left
            ·show Act.put _ (some 49) _ = _
             simp only [Act.put, List.setIfInBounds_toArray, List.set_cons_zero, List.set_cons_succ, i64_w, i32_w]
             rfl
            refine one_ (i := 4) (N := some 51) #[true,true,true,true,true,true,true,false,false,false,false,false,false,false] rfl rfl (one_of HT_.out (by kernel_rfl)) (by decide) (fun K hK => ?_)
            refine Kd.R_append_rows_step k54 w.heap.size (by rfl) (.tmp 49) (.tmp 50) 36 54 (.agg #[(.int .i64 0), (.int .i64 0), (.int .i64 0), (.int .i64 0)]) 32 rfl Try.underlying36 info54 rfl (by decide) (by omega) v236 y235 x7_1 _ _ _ (fun k_ => some k_ ≠ (.slice Ao33 x7_1.length co33 : Value).ownBlock ∧ some k_ ≠ (v242 : Value).ownBlock ∧ k_ ≠ gb231) (fun _ => False) rfl rfl ?aO ?aR (fun _ _ h => h) (fun _ h => h.elim) ?aF (Below.refl _ _) ?aS ?aL ?_
            (case aR => repeat (first | exact (Kd.R_reads' HO_7.out).2.2 | (with_reducible refine Kd.C_alloc ?_ _) | (with_reducible refine Kd.C_drewN ?_ _) | (with_reducible refine Kd.C_drew ?_)))
            (case aF => exact (fun k_ hk => ⟨Kd.fresh' (Kd.R_lt (by (with_reducible repeat (first | apply qa | apply qb | apply qc)); exact HO_7.out)) k_ hk, Kd.fresh' (Kd.R_lt (by (with_reducible repeat (first | apply qa | apply qb | apply qc)); exact HO243.out)) k_ hk, Kd.freshB (g := gb231) (o := .cells #[.int .i64 t222, .int .i64 t225, .int .i64 (wrap64 (1 + t228)), .int .i64 x232003_13] 54 (0, 0)) (by (with_reducible repeat (first | refine blk_drewN ?_ _ | refine blk_drew ?_ | refine blk_alloc ?_ _)); exact BK231.out) k_ hk⟩))
            (case aO => exact (by (with_reducible repeat (first | apply qa | apply qb | apply qc)); exact Kd.R_mono HO237.out (fun _ hk => ⟨hk.1.1.2, ⟨hk.1.2, hk.2⟩⟩)))
            (case aS => exact (keep_size (w := w) (g := g) (row := none) (by repeat (first | (with_reducible first | exact HK.out | apply qd | apply qe | apply qf | apply qg | refine keep_far ?_ GW231.out _)))))
            (case aL => have := LMc28.out; omega)
            intro v239 w39 ho hb hg hat
            rw [← Ny238.out] at ho
            have n0_ := Aside0.mk (Kd.R_after (ok := (fun k_ => some k_ ≠ (v242 : Value).ownBlock ∧ k_ ≠ gb231)) (by (with_reducible repeat (first | apply qa | apply qb | apply qc)); exact Kd.R_mono HO_7.out (fun _ hk => ⟨⟨hk.1.2, hk.1.1⟩, hk.2⟩)) hg hat)
            have n1_ := Aside0.mk (blk_grown (g := gb231) (o := .cells #[.int .i64 t222, .int .i64 t225, .int .i64 (wrap64 (1 + t228)), .int .i64 x232003_13] 54 (0, 0)) (by (with_reducible repeat (first | refine blk_drewN ?_ _ | refine blk_drew ?_ | refine blk_alloc ?_ _)); exact BK231.out) hg (Kd.R_away HO237.out (fun _ hk => hk.2)))
            have n2_ := Aside0.mk (IsS93.grown (by repeat (first | (with_reducible first | exact HI0.out | apply qh | apply qi | apply qj | apply qk | apply ql | refine IsS93.far ?_ NB0_231.out _))) hg (IsS93.own_ne HI0.out HO237.out (by decide)))
            have n3_ := Aside0.mk (Kd.R_after (ok := (fun k_ => some k_ ≠ (.slice Ao33 x7_1.length co33 : Value).ownBlock ∧ k_ ≠ gb231)) (by (with_reducible repeat (first | apply qa | apply qb | apply qc)); exact Kd.R_mono HO243.out (fun _ hk => ⟨⟨hk.1.1.2, hk.1.2⟩, hk.2⟩)) hg hat)
            have n4_ := Aside0.mk (below_weaken (by repeat (first | (with_reducible first | exact HB.out | apply qm | apply qn | apply qo | refine below_set ?_ (IsS93.ge HI0.out) | refine below_set ?_ GE231.out))) HL.out hb)
            have n5_ := Aside0.mk (KeepBut.trans (by repeat (first | (with_reducible first | exact HK.out | apply qd | apply qe | apply qf | apply qg | refine keep_far ?_ GW231.out _))) (KeepBut.of_grown hg g) (Kd.R_base2 HO237.out))
            have n6_ := Aside0.mk (ho)
            clear HO_7
            clear BK231
            clear HI0
            clear HO243
            clear HB
            clear HK
            clear HO237
            have HO_7 := n0_
            have BK231 := n1_
            have HI0 := n2_
            have HO243 := n3_
            have HB := n4_
            have HK := n5_
            have HO240 := n6_
            clear n0_ n1_ n2_ n3_ n4_ n5_ n6_
            clear ho hb hg hat
            refine hK.out _ _ ⟨(blk_cell BK231.out 0).trans rfl, (blk_cell BK231.out 1).trans rfl, (blk_cell BK231.out 2).trans rfl, (blk_cell BK231.out 3).trans rfl⟩ (fun hHeld => ?_)
            clear hK K
            refine norm_ (a' := ?_) ?_ ?_
            rotate_left
            ·show Act.put _ (some 51) _ = _
             simp only [Act.put, List.setIfInBounds_toArray, List.set_cons_zero, List.set_cons_succ, i64_w, i32_w]
             rfl
            exact norm_ (by simp only [putAll, Act.put, List.setIfInBounds_toArray, List.set_cons_zero, List.set_cons_succ]) (hCont (v236, v239, v242) _ ⟨hHeld, (by (with_reducible repeat (first | apply qa | apply qb | apply qc)); exact Kd.R_mono HO240.out (fun _ hk => ⟨hk.2.1, ⟨hk.1, hk.2.2⟩⟩)), (by (with_reducible repeat (first | apply qa | apply qb | apply qc)); exact Kd.R_mono HO243.out (fun _ hk => ⟨hk.2, ⟨hk.1.1, hk.1.2⟩⟩)), (by (with_reducible repeat (first | apply qa | apply qb | apply qc)); exact Kd.R_mono HO_7.out (fun _ hk => ⟨hk.2, ⟨hk.1.1, hk.1.2⟩⟩)), (by (with_reducible repeat (first | refine blk_drewN ?_ _ | refine blk_drew ?_ | refine blk_alloc ?_ _)); exact BK231.out), (by repeat (first | (with_reducible first | exact HI0.out | apply qh | apply qi | apply qj | apply qk | apply ql | refine IsS93.far ?_ NB0_231.out _))), (by repeat (first | (with_reducible first | exact HK.out | apply qd | apply qe | apply qf | apply qg | refine keep_far ?_ GW231.out _))), (by repeat (first | (with_reducible first | exact HB.out | apply qm | apply qn | apply qo | refine below_set ?_ (IsS93.ge HI0.out) | refine below_set ?_ GE231.out)))⟩)
          rintro ⟨v236, v239, v242⟩ w40 ⟨hS_, h0_, h1_, h2_, h3_, h4_, h5_, h6_⟩
          have n0_ : Aside0 (Kd.R k54 54 w40 w.heap.size (fun k_ => some k_ ≠ (v242 : Value).ownBlock ∧ some k_ ≠ (.slice Ao33 x7_1.length co33 : Value).ownBlock ∧ k_ ≠ gb231) v239 y238) := ⟨h0_⟩
          have n1_ : Aside0 (Kd.R k54 54 w40 w.heap.size (fun k_ => some k_ ≠ (v239 : Value).ownBlock ∧ some k_ ≠ (.slice Ao33 x7_1.length co33 : Value).ownBlock ∧ k_ ≠ gb231) v242 y241) := ⟨h1_⟩
          have n2_ : Aside0 (Kd.R k54 54 w40 w.heap.size (fun k_ => some k_ ≠ (v239 : Value).ownBlock ∧ some k_ ≠ (v242 : Value).ownBlock ∧ k_ ≠ gb231) (.slice Ao33 x7_1.length co33) x7_1) := ⟨h2_⟩
          have n3_ : Aside0 (w40.heap[gb231]? = some (.cells #[.int .i64 t222, .int .i64 t225, .int .i64 (wrap64 (1 + t228)), .int .i64 x232003_13] 54 (0, 0))) := ⟨h3_⟩
          have n4_ : Aside0 (IsS93 w0 w40 g s0_0 x1001_13 x1002_13) := ⟨h4_⟩
          have n5_ : Aside0 (KeepBut w w40 g none) := ⟨h5_⟩
          have n6_ : Aside0 (Below w0.heap.size w0 w40) := ⟨h6_⟩
          clear HO_7
          clear BK231
          clear HI0
          clear HK
          clear HB
          clear h0_ h1_ h2_ h3_ h4_ h5_ h6_
          have HO240 := n0_
          have HO243 := n1_
          have HO_7 := n2_
          have BK231 := n3_
          have HI0 := n4_
          have HK := n5_
          have HB := n6_
          clear n0_ n1_ n2_ n3_ n4_ n5_ n6_
          have hHeld : w40.cell? ⟨gb231, 0, none⟩ = some (.int .i64 t222) ∧ w40.cell? ⟨gb231, 1, none⟩ = some (.int .i64 t225) ∧ w40.cell? ⟨gb231, 2, none⟩ = some (.int .i64 (wrap64 (1 + t228))) ∧ w40.cell? ⟨gb231, 3, none⟩ = some (.int .i64 x232003_13) := hS_
          obtain ⟨Ao42, co42, eo42⟩ := Kd.R_slice HO243.out
          (first | subst eo42 | (injection eo42 with f1_ f2_ f3_; have f4_ := f1_.symm; have f5_ := f3_.symm; clear f1_ f2_ f3_; subst f4_; subst f5_))
          refine norm_ (a' := ?_) ?_ ?_
          rotate_left
          ·simp only [putAll, Act.put, List.setIfInBounds_toArray, List.set_cons_zero, List.set_cons_succ]
           rfl
          refine one_ (i := 7) (N := some 54) #[true,true,true,true,true,true,true,true,false,false,false,false,false,false] rfl rfl (one_of HT_.out (by kernel_rfl)) (by decide) (fun K hK => ?_)
          refine Kd.R_append_rows_step k54 w.heap.size (by rfl) (.tmp 51) (.tmp 53) 36 54 (.agg #[(.int .i64 0), (.int .i64 0), (.int .i64 0), (.int .i64 0)]) 32 rfl Try.underlying36 info54 rfl (by decide) (by omega) v239 y238 y241 _ _ _ (fun k_ => some k_ ≠ (.slice Ao33 x7_1.length co33 : Value).ownBlock ∧ some k_ ≠ (.slice Ao42 y241.length co42 : Value).ownBlock ∧ k_ ≠ gb231) (fun _ => False) rfl rfl ?aO ?aR (fun _ _ h => h) (fun _ h => h.elim) ?aF (Below.refl _ _) ?aS ?aL ?_
          (case aR => repeat (first | exact (Kd.R_reads' HO243.out).2.2 | (with_reducible refine Kd.C_alloc ?_ _) | (with_reducible refine Kd.C_drewN ?_ _) | (with_reducible refine Kd.C_drew ?_)))
          (case aF => exact (fun k_ hk => ⟨Kd.fresh' (Kd.R_lt (by (with_reducible repeat (first | apply qa | apply qb | apply qc)); exact HO_7.out)) k_ hk, Kd.fresh' (Kd.R_lt (by (with_reducible repeat (first | apply qa | apply qb | apply qc)); exact HO243.out)) k_ hk, Kd.freshB (g := gb231) (o := .cells #[.int .i64 t222, .int .i64 t225, .int .i64 (wrap64 (1 + t228)), .int .i64 x232003_13] 54 (0, 0)) (by (with_reducible repeat (first | refine blk_drewN ?_ _ | refine blk_drew ?_ | refine blk_alloc ?_ _)); exact BK231.out) k_ hk⟩))
          (case aO => exact (by (with_reducible repeat (first | apply qa | apply qb | apply qc)); exact Kd.R_mono HO240.out (fun _ hk => ⟨hk.2.1, ⟨hk.1, hk.2.2⟩⟩)))
          (case aS => exact (keep_size (w := w) (g := g) (row := none) (by repeat (first | (with_reducible first | exact HK.out | apply qd | apply qe | apply qf | apply qg | refine keep_far ?_ GW231.out _)))))
          (case aL => have := LMc29.out; omega)
          intro v245 w41 ho hb hg hat
          rw [← Ny244.out] at ho
          have n0_ := Aside0.mk (Kd.R_after (ok := (fun k_ => some k_ ≠ (.slice Ao42 y241.length co42 : Value).ownBlock ∧ k_ ≠ gb231)) (by (with_reducible repeat (first | apply qa | apply qb | apply qc)); exact Kd.R_mono HO_7.out (fun _ hk => ⟨⟨hk.2.1, hk.2.2⟩, hk.1⟩)) hg hat)
          have n1_ := Aside0.mk (blk_grown (g := gb231) (o := .cells #[.int .i64 t222, .int .i64 t225, .int .i64 (wrap64 (1 + t228)), .int .i64 x232003_13] 54 (0, 0)) (by (with_reducible repeat (first | refine blk_drewN ?_ _ | refine blk_drew ?_ | refine blk_alloc ?_ _)); exact BK231.out) hg (Kd.R_away HO240.out (fun _ hk => hk.2.2)))
          have n2_ := Aside0.mk (IsS93.grown (by repeat (first | (with_reducible first | exact HI0.out | apply qh | apply qi | apply qj | apply qk | apply ql | refine IsS93.far ?_ NB0_231.out _))) hg (IsS93.own_ne HI0.out HO240.out (by decide)))
          have n3_ := Aside0.mk (Kd.R_after (ok := (fun k_ => some k_ ≠ (.slice Ao33 x7_1.length co33 : Value).ownBlock ∧ k_ ≠ gb231)) (by (with_reducible repeat (first | apply qa | apply qb | apply qc)); exact Kd.R_mono HO243.out (fun _ hk => ⟨⟨hk.2.1, hk.2.2⟩, hk.1⟩)) hg hat)
          have n4_ := Aside0.mk (below_weaken (by repeat (first | (with_reducible first | exact HB.out | apply qm | apply qn | apply qo | refine below_set ?_ (IsS93.ge HI0.out) | refine below_set ?_ GE231.out))) HL.out hb)
          have n5_ := Aside0.mk (KeepBut.trans (by repeat (first | (with_reducible first | exact HK.out | apply qd | apply qe | apply qf | apply qg | refine keep_far ?_ GW231.out _))) (KeepBut.of_grown hg g) (Kd.R_base2 HO240.out))
          have n6_ := Aside0.mk (ho)
          clear HO_7
          clear BK231
          clear HI0
          clear HO243
          clear HB
          clear HK
          clear HO240
          have HO_7 := n0_
          have BK231 := n1_
          have HI0 := n2_
          have HO243 := n3_
          have HB := n4_
          have HK := n5_
          have HO246 := n6_
          clear n0_ n1_ n2_ n3_ n4_ n5_ n6_
          clear ho hb hg hat
          obtain ⟨Ao43, co43, eo43⟩ := Kd.R_slice HO246.out
          (first | subst eo43 | (injection eo43 with f1_ f2_ f3_; have f4_ := f1_.symm; have f5_ := f3_.symm; clear f1_ f2_ f3_; subst f4_; subst f5_))
          refine hK.out _ _ ⟨(blk_cell BK231.out 0).trans rfl, (blk_cell BK231.out 1).trans rfl, (blk_cell BK231.out 2).trans rfl, (blk_cell BK231.out 3).trans rfl⟩ (fun hHeld => ?_)
          clear hK K
          refine norm_ (a' := ?_) ?_ ?_
          rotate_left
          ·show Act.put _ (some 54) _ = _
           simp only [Act.put, List.setIfInBounds_toArray, List.set_cons_zero, List.set_cons_succ, i64_w, i32_w]
           rfl
          refine one_ (i := 8) (N := some 55) #[true,true,true,true,true,true,true,true,true,false,false,false,false,false] rfl rfl (one_of HT_.out (by kernel_rfl)) (by decide) (fun K hK => ?_)
          refine goes_ Try.func75 (by kernel_rfl) rfl #[.int .i64 (wrap64 (1 + t210)), .int .i64 t213, .slice Ao43 y244.length co43] (by rfl) rfl rfl (by (try simp only [List.map_toArray, List.map_cons, List.map_nil]); first | done | rfl) ?_
          with_reducible refine (spec_AreFaults.calls kj13 (wrap64 (1 + t210)) t213 _ _ y244 true _ ?side1 ?side2 A30.out).mono ?_
          (case side1 => repeat (first | exact (Kd.R_reads' HO246.out).2.2 | (with_reducible refine Kd.C_alloc ?_ _) | (with_reducible refine Kd.C_drewN ?_ _) | (with_reducible refine Kd.C_drew ?_)))
          (case side2 => exact (Kd.R_reads' HO246.out).2.1)
          rintro e w44 ⟨rfl, hb⟩
          refine ⟨_, rfl, ?_⟩
          have n0_ := Aside0.mk (Kd.R_below (by (with_reducible repeat (first | apply qa | apply qb | apply qc)); exact HO_7.out) hb)
          have n1_ := Aside0.mk (Kd.R_below (by (with_reducible repeat (first | apply qa | apply qb | apply qc)); exact HO243.out) hb)
          have n2_ := Aside0.mk (Kd.R_below (by (with_reducible repeat (first | apply qa | apply qb | apply qc)); exact HO246.out) hb)
          have n3_ := Aside0.mk (blk_below (g := gb231) (o := .cells #[.int .i64 t222, .int .i64 t225, .int .i64 (wrap64 (1 + t228)), .int .i64 x232003_13] 54 (0, 0)) (by (with_reducible repeat (first | refine blk_drewN ?_ _ | refine blk_drew ?_ | refine blk_alloc ?_ _)); exact BK231.out) hb)
          have n4_ := Aside0.mk (IsS93.below (by repeat (first | (with_reducible first | exact HI0.out | apply qh | apply qi | apply qj | apply qk | apply ql | refine IsS93.far ?_ NB0_231.out _))) hb)
          have n5_ := Aside0.mk (KeepBut.trans (by repeat (first | (with_reducible first | exact HK.out | apply qd | apply qe | apply qf | apply qg | refine keep_far ?_ GW231.out _))) (KeepBut.of_below hb g none) (.inl rfl))
          have n6_ := Aside0.mk (below_step (by repeat (first | (with_reducible first | exact HB.out | apply qm | apply qn | apply qo | refine below_set ?_ (IsS93.ge HI0.out) | refine below_set ?_ GE231.out))) hb)
          clear HO_7
          clear HO243
          clear HO246
          clear BK231
          clear HI0
          clear HK
          clear HB
          have HO_7 := n0_
          have HO243 := n1_
          have HO246 := n2_
          have BK231 := n3_
          have HI0 := n4_
          have HK := n5_
          have HB := n6_
          clear n0_ n1_ n2_ n3_ n4_ n5_ n6_
          (try clear hb)
          (try clear hb2)
          (try clear hk)
          (try clear hi)
          refine hK.out _ _ ⟨(blk_cell BK231.out 0).trans rfl, (blk_cell BK231.out 1).trans rfl, (blk_cell BK231.out 2).trans rfl, (blk_cell BK231.out 3).trans rfl⟩ (fun hHeld => ?_)
          clear hK K
          refine norm_ (a' := ?_) ?_ ?_
          rotate_left
          ·show Act.put _ (some 55) _ = _
           simp only [Act.put, List.setIfInBounds_toArray, List.set_cons_zero, List.set_cons_succ, i64_w, i32_w]
           rfl
          refine pure_ (i := 9) (N := some 56) (v := ?_) (a' := ?_) #[true,true,true,true,true,true,true,true,true,true,false,false,false,false] rfl rfl (any_of HT_.out (by kernel_rfl)) (fun _ _ _ h => h) (Or.inl ⟨by rfl, ?_⟩) ?_ ?_
          rotate_left
          ·intro w'
           go_simp
           with_reducible rfl
          rotate_left
          ·simp only [Act.put, List.setIfInBounds_toArray, List.set_cons_zero, List.set_cons_succ, i64_w, i32_w]
           rfl
          refine pure_ (i := 10) (N := some 57) (v := undef) (a' := ?_) #[true,true,true,true,true,true,true,true,true,true,true,false,false,false] rfl rfl (any_of HT_.out (by kernel_rfl)) (fun _ _ _ h => h) (Or.inr ⟨by rfl, rfl⟩) ?_ ?_
          rotate_left
          ·simp only [Act.put, List.setIfInBounds_toArray, List.set_cons_zero, List.set_cons_succ, i64_w, i32_w]
           rfl
          refine pure_ (i := 11) (N := some 58) (v := undef) (a' := ?_) #[true,true,true,true,true,true,true,true,true,true,true,true,false,false] rfl rfl (any_of HT_.out (by kernel_rfl)) (fun _ _ _ h => h) (Or.inr ⟨by rfl, rfl⟩) ?_ ?_
          rotate_left
          ·simp only [Act.put, List.setIfInBounds_toArray, List.set_cons_zero, List.set_cons_succ, i64_w, i32_w]
           rfl
          refine pure_ (i := 12) (N := some 59) (v := undef) (a' := ?_) #[true,true,true,true,true,true,true,true,true,true,true,true,true,false] rfl rfl (any_of HT_.out (by kernel_rfl)) (fun _ _ _ h => h) (Or.inr ⟨by rfl, rfl⟩) ?_ ?_
          rotate_left
          ·simp only [Act.put, List.setIfInBounds_toArray, List.set_cons_zero, List.set_cons_succ, i64_w, i32_w]
           rfl
          refine pure_ (i := 13) (N := some 60) (v := ?_) (a' := ?_) #[true,true,true,true,true,true,true,true,true,true,true,true,true,true] rfl rfl (any_of HT_.out (by kernel_rfl)) (fun _ _ _ h => h) (Or.inl ⟨by rfl, ?_⟩) ?_ ?_
          rotate_left
          ·intro w'
           go_simp
           with_reducible rfl
          rotate_left
          ·simp only [Act.put, List.setIfInBounds_toArray, List.set_cons_zero, List.set_cons_succ, i64_w, i32_w]
           rfl
          refine done_ (done_of HT_.out (by kernel_rfl)) ?_
          have hnb45 := NB231_0.out
          have hnc45 := NB0_231.out
          have hcz46_0 : w44.cell? ⟨gb231, 0, none⟩ = some (.int .i64 t222) := (blk_cell BK231.out 0).trans rfl
          have hcz46_1 : w44.cell? ⟨gb231, 1, none⟩ = some (.int .i64 t225) := (blk_cell BK231.out 1).trans rfl
          have hcz46_2 : w44.cell? ⟨gb231, 2, none⟩ = some (.int .i64 (wrap64 (1 + t228))) := (blk_cell BK231.out 2).trans rfl
          have hcz46_3 : w44.cell? ⟨gb231, 3, none⟩ = some (.int .i64 x232003_13) := (blk_cell BK231.out 3).trans rfl
          have hfz46_0 := blk_frozen BK231.out 0
          have hfz46_1 := blk_frozen BK231.out 1
          have hfz46_2 := blk_frozen BK231.out 2
          have hfz46_3 := blk_frozen BK231.out 3
          try go_wp2_with (first | ((with_reducible refine gate_dst (N := 63) rfl ?_); refine Kd.R_lit k54 _ 54 ?hg (N := 63) ?hd (xs := ([(⟨t222, t225, (wrap64 (1 + t228)), x232003_13⟩ : S54)] : List (S54))) (inner := [.int .i64 t222, .int .i64 t225, .int .i64 (wrap64 (1 + t228)), .int .i64 x232003_13]) (ok := fun _ => True) (okp := fun _ => True) ?hr ?hp (fun _ hk => hk) trivial (Below.refl _ _) (Nat.le_refl _) (by simp) ?_; (case hd => rfl); (case hg => rfl); (case hr => first | (go_simp; done) | (go_simp; rfl)); (case hp => exact (Reps.c4 (show Kd.M k54 _ _ _ (⟨t222, t225, (wrap64 (1 + t228)), x232003_13⟩ : S54) [.int .i64 t222, .int .i64 t225, .int .i64 (wrap64 (1 + t228)), .int .i64 x232003_13] from (k54_mkM _ _ _ (⟨t222, t225, (wrap64 (1 + t228)), x232003_13⟩ : S54) )) (Reps.none _ _))); intro v249 w47 ho48 hb hg_ hnew_; clear hg_ hnew_; (first | rw [← Ny248.out] at ho48 | (simp only [Int.reduceToNat] at ho48; rw [← Ny248.out] at ho48)); have n0_ := Aside0.mk (Kd.R_elder' (by (with_reducible repeat (first | apply qa | apply qb | apply qc)); exact HO_7.out) (Kd.R_base ho48) hb); have n1_ := Aside0.mk (Kd.R_elder' (by (with_reducible repeat (first | apply qa | apply qb | apply qc)); exact HO243.out) (Kd.R_base ho48) hb); have n2_ := Aside0.mk (Kd.R_elder' (by (with_reducible repeat (first | apply qa | apply qb | apply qc)); exact HO246.out) (Kd.R_base ho48) hb); have n3_ := Aside0.mk (Kd.R_lower (Kd.R_newB (Kd.R_new' (Kd.R_new' (Kd.R_new' ho48 (Kd.R_lt (by (with_reducible repeat (first | apply qa | apply qb | apply qc)); exact HO_7.out))) (Kd.R_lt (by (with_reducible repeat (first | apply qa | apply qb | apply qc)); exact HO243.out))) (Kd.R_lt (by (with_reducible repeat (first | apply qa | apply qb | apply qc)); exact HO246.out))) (g := gb231) (o := .cells #[.int .i64 t222, .int .i64 t225, .int .i64 (wrap64 (1 + t228)), .int .i64 x232003_13] 54 (0, 0)) (by (with_reducible repeat (first | refine blk_drewN ?_ _ | refine blk_drew ?_ | refine blk_alloc ?_ _)); exact BK231.out)) (keep_size (w := w) (g := g) (row := none) (by repeat (first | (with_reducible first | exact HK.out | apply qd | apply qe | apply qf | apply qg | refine keep_far ?_ GW231.out _))))); have n4_ := Aside0.mk (blk_below (g := gb231) (o := .cells #[.int .i64 t222, .int .i64 t225, .int .i64 (wrap64 (1 + t228)), .int .i64 x232003_13] 54 (0, 0)) (by (with_reducible repeat (first | refine blk_drewN ?_ _ | refine blk_drew ?_ | refine blk_alloc ?_ _)); exact BK231.out) hb); have n5_ := Aside0.mk (IsS93.below (by repeat (first | (with_reducible first | exact HI0.out | apply qh | apply qi | apply qj | apply qk | apply ql | refine IsS93.far ?_ NB0_231.out _))) hb); have n6_ := Aside0.mk (KeepBut.trans (by repeat (first | (with_reducible first | exact HK.out | apply qd | apply qe | apply qf | apply qg | refine keep_far ?_ GW231.out _))) (KeepBut.of_below hb g none) (.inl rfl)); have n7_ := Aside0.mk (below_step (by repeat (first | (with_reducible first | exact HB.out | apply qm | apply qn | apply qo | refine below_set ?_ (IsS93.ge HI0.out) | refine below_set ?_ GE231.out))) hb); clear HO_7; clear HO243; clear HO246; clear BK231; clear HI0; clear HK; clear HB; have HO_7 := n0_; have HO243 := n1_; have HO246 := n2_; have HO250 := n3_; have BK231 := n4_; have HI0 := n5_; have HK := n6_; have HB := n7_; clear n0_ n1_ n2_ n3_ n4_ n5_ n6_ n7_; clear hb ho48; obtain ⟨Ao50, co50, eo50⟩ := Kd.R_slice HO250.out; subst eo50) | ((with_reducible refine gate_builtin (b := .append) (xs := #[.tmp 61, .tmp 63]) rfl ?_); at_builtin; refine Kd.R_append_rows k54 w.heap.size rfl (.tmp 61) (.tmp 63) 36 54 (.agg #[(.int .i64 0), (.int .i64 0), (.int .i64 0), (.int .i64 0)]) 32 rfl Try.underlying36 info54 rfl (by decide) (by omega) (.slice Ao33 x7_1.length co33) x7_1 y248 _ _ _ (fun k_ => some k_ ≠ (.slice Ao42 y241.length co42 : Value).ownBlock ∧ some k_ ≠ (.slice Ao43 y244.length co43 : Value).ownBlock ∧ some k_ ≠ (.slice Ao50 y248.length co50 : Value).ownBlock ∧ k_ ≠ gb231) (fun _ => False) rfl rfl ?aO ?aR (fun _ _ h => h) (fun _ h => h.elim) ?aF (Below.refl _ _) ?aS ?aL ?_; (case aR => repeat (first | exact (Kd.R_reads' HO250.out).2.2 | (with_reducible refine Kd.C_alloc ?_ _) | (with_reducible refine Kd.C_drewN ?_ _) | (with_reducible refine Kd.C_drew ?_))); (case aF => exact (fun k_ hk => ⟨Kd.fresh' (Kd.R_lt (by (with_reducible repeat (first | apply qa | apply qb | apply qc)); exact HO243.out)) k_ hk, Kd.fresh' (Kd.R_lt (by (with_reducible repeat (first | apply qa | apply qb | apply qc)); exact HO246.out)) k_ hk, Kd.fresh' (Kd.R_lt (by (with_reducible repeat (first | apply qa | apply qb | apply qc)); exact HO250.out)) k_ hk, Kd.freshB (g := gb231) (o := .cells #[.int .i64 t222, .int .i64 t225, .int .i64 (wrap64 (1 + t228)), .int .i64 x232003_13] 54 (0, 0)) (by (with_reducible repeat (first | refine blk_drewN ?_ _ | refine blk_drew ?_ | refine blk_alloc ?_ _)); exact BK231.out) k_ hk⟩)); (case aO => exact (by (with_reducible repeat (first | apply qa | apply qb | apply qc)); exact Kd.R_mono HO_7.out (fun _ hk => ⟨hk.1.1.1, ⟨hk.1.2, ⟨hk.2, hk.1.1.2⟩⟩⟩))); (case aS => exact (keep_size (w := w) (g := g) (row := none) (by repeat (first | (with_reducible first | exact HK.out | apply qd | apply qe | apply qf | apply qg | refine keep_far ?_ GW231.out _))))); (case aL => have := LMc32.out; omega); intro v252 w49 ho hb hg hat; rw [← Ny251.out] at ho; have n0_ := Aside0.mk (blk_grown (g := gb231) (o := .cells #[.int .i64 t222, .int .i64 t225, .int .i64 (wrap64 (1 + t228)), .int .i64 x232003_13] 54 (0, 0)) (by (with_reducible repeat (first | refine blk_drewN ?_ _ | refine blk_drew ?_ | refine blk_alloc ?_ _)); exact BK231.out) hg (Kd.R_away HO_7.out (fun _ hk => hk.1.1.2))); have n1_ := Aside0.mk (IsS93.grown (by repeat (first | (with_reducible first | exact HI0.out | apply qh | apply qi | apply qj | apply qk | apply ql | refine IsS93.far ?_ NB0_231.out _))) hg (IsS93.own_ne HI0.out HO_7.out (by decide))); have n2_ := Aside0.mk (Kd.R_after (ok := (fun k_ => some k_ ≠ (.slice Ao43 y244.length co43 : Value).ownBlock ∧ some k_ ≠ (.slice Ao50 y248.length co50 : Value).ownBlock ∧ k_ ≠ gb231)) (by (with_reducible repeat (first | apply qa | apply qb | apply qc)); exact Kd.R_mono HO243.out (fun _ hk => ⟨⟨hk.1.2, ⟨hk.2, hk.1.1.2⟩⟩, hk.1.1.1⟩)) hg hat); have n3_ := Aside0.mk (Kd.R_after (ok := (fun k_ => some k_ ≠ (.slice Ao42 y241.length co42 : Value).ownBlock ∧ some k_ ≠ (.slice Ao50 y248.length co50 : Value).ownBlock ∧ k_ ≠ gb231)) (by (with_reducible repeat (first | apply qa | apply qb | apply qc)); exact Kd.R_mono HO246.out (fun _ hk => ⟨⟨hk.1.2.1, ⟨hk.2, hk.1.2.2⟩⟩, hk.1.1⟩)) hg hat); have n4_ := Aside0.mk (Kd.R_after (ok := (fun k_ => some k_ ≠ (.slice Ao42 y241.length co42 : Value).ownBlock ∧ some k_ ≠ (.slice Ao43 y244.length co43 : Value).ownBlock ∧ k_ ≠ gb231)) (by (with_reducible repeat (first | apply qa | apply qb | apply qc)); exact Kd.R_mono HO250.out (fun _ hk => ⟨⟨hk.1.1.2, ⟨hk.1.2, hk.2⟩⟩, hk.1.1.1.2⟩)) hg hat); have n5_ := Aside0.mk (below_weaken (by repeat (first | (with_reducible first | exact HB.out | apply qm | apply qn | apply qo | refine below_set ?_ (IsS93.ge HI0.out) | refine below_set ?_ GE231.out))) HL.out hb); have n6_ := Aside0.mk (KeepBut.trans (by repeat (first | (with_reducible first | exact HK.out | apply qd | apply qe | apply qf | apply qg | refine keep_far ?_ GW231.out _))) (KeepBut.of_grown hg g) (Kd.R_base2 HO_7.out)); have n7_ := Aside0.mk (ho); clear BK231; clear HI0; clear HO243; clear HO246; clear HO250; clear HB; clear HK; clear HO_7; have BK231 := n0_; have HI0 := n1_; have HO243 := n2_; have HO246 := n3_; have HO250 := n4_; have HB := n5_; have HK := n6_; have HO253 := n7_; clear n0_ n1_ n2_ n3_ n4_ n5_ n6_ n7_; clear ho hb hg hat))
          go_roundg kj13
          case measure => have := HK1.out; have := HJ13.out; omega
          case rel => exact ⟨(y251), (wrap64 (x8_1 - 1)), (x1001_13), (x1002_13), (by first | rfl | (simp; done) | (simp [*]; done)), H', ⟨by have := HK1.out; have := HJ13.out; omega⟩, ⟨by (with_reducible repeat (first | apply qa | apply qb | apply qc)); exact Kd.R_mono HO253.out (fun _ hk => trivial)⟩, ⟨by repeat (first | (with_reducible first | exact HI0.out | apply qh | apply qi | apply qj | apply qk | apply ql | refine IsS93.far ?_ NB0_231.out _))⟩, ⟨by repeat (first | (with_reducible first | exact HK.out | apply qd | apply qe | apply qf | apply qg | refine keep_far ?_ GW231.out _))⟩, ⟨by repeat (first | (with_reducible first | exact HB.out | apply qm | apply qn | apply qo | refine below_set ?_ (IsS93.ge HI0.out) | refine below_set ?_ GE231.out))⟩⟩
         ·rw [if_neg c32] at H
          exact absurd H (by simp)
        ·replace c31 := Bool.eq_false_iff.mpr c31
         subst c31
         have H1 : ((spec_l01Next.f s0_0 x1001_13 x1002_13 30).bind fun bt254 => (if bt254.1 = 0 then ((some (([(⟨t222, t225, (wrap64 (1 + t228)), x232003_13⟩ : S54)] : List (S54)) : List (S54))).bind fun y257 => (if x7_1.length + y257.length < 4398046511104 then (spec_l14Draw.l0 kj13 (wrap64 (1 + t210)) t213 (x7_1 ++ y257) (wrap64 (x8_1 - 1)) s0_0 bt254.2.1 bt254.2.2) else (none))) else (spec_l14Draw.l0 kj13 (wrap64 (1 + t210)) t213 x7_1 (wrap64 (x8_1 - 1)) s0_0 bt254.2.1 bt254.2.2))) = some (r1, r2, r3, r4, r5) := by rw [if_neg (show ¬ (false = true) by decide)] at H; exact H
         clear H
         have H := H1
         clear H1
         replace H := Option.bind_eq_some_iff.mp H
         obtain ⟨⟨t254, t255, t256⟩, A510, H⟩ := H
         replace H : (if t254 = 0 then ((some (([(⟨t222, t225, (wrap64 (1 + t228)), x232003_13⟩ : S54)] : List (S54)) : List (S54))).bind fun y257 => (if x7_1.length + y257.length < 4398046511104 then (spec_l14Draw.l0 kj13 (wrap64 (1 + t210)) t213 (x7_1 ++ y257) (wrap64 (x8_1 - 1)) s0_0 t255 t256) else (none))) else (spec_l14Draw.l0 kj13 (wrap64 (1 + t210)) t213 x7_1 (wrap64 (x8_1 - 1)) s0_0 t255 t256)) = some (r1, r2, r3, r4, r5) := H
         have A51 := Aside0.mk A510
         clear A510
         by_cases c52 : t254 = 0
         ·rw [if_pos c52] at H
          have c52b0 : (t254 == 0) = true := beq_iff_eq.mpr c52
          have c52b1 : (t254 != 0) = false := bne_eq_false_iff_eq.mpr c52
          clear c52
          obtain ⟨y257, hy257⟩ : ∃ y_ : List (S54), y_ = (([(⟨t222, t225, (wrap64 (1 + t228)), x232003_13⟩ : S54)] : List (S54))) := ⟨_, rfl⟩
          replace H : (if x7_1.length + y257.length < 4398046511104 then (spec_l14Draw.l0 kj13 (wrap64 (1 + t210)) t213 (x7_1 ++ y257) (wrap64 (x8_1 - 1)) s0_0 t255 t256) else (none)) = some (r1, r2, r3, r4, r5) := by first | (rw [hy257]; with_reducible exact H) | (have H2_ := (Option.bind_some _ _).symm.trans H; rw [hy257]; with_reducible exact H2_) | (have H2_ := (Option.bind_some _ _).symm.trans H; with_reducible exact H2_) | with_reducible exact H | (rw [hy257]; exact H) | exact H
          have Ny257 := Aside0.mk hy257
          clear hy257
          by_cases c53 : x7_1.length + y257.length < 4398046511104
          ·rw [if_pos c53] at H
           have LMc53 := Aside0.mk c53
           clear c53
           obtain ⟨y260, hy260⟩ : ∃ y_ : List (S54), y_ = (x7_1 ++ y257) := ⟨_, rfl⟩
           replace H : (spec_l14Draw.l0 kj13 (wrap64 (1 + t210)) t213 y260 (wrap64 (x8_1 - 1)) s0_0 t255 t256) = some (r1, r2, r3, r4, r5) := by first | (rw [hy260]; with_reducible exact H) | (have H2_ := (Option.bind_some _ _).symm.trans H; rw [hy260]; with_reducible exact H2_) | (have H2_ := (Option.bind_some _ _).symm.trans H; with_reducible exact H2_) | with_reducible exact H | (rw [hy260]; exact H) | exact H
           have Ny260 := Aside0.mk hy260
           clear hy260
           have H' := Aside0.mk H
           clear H
           obtain ⟨Ao54, co54, eo54⟩ := Kd.R_slice HO_7.out
           subst eo54
           try go_wp2
           have n0_ := Aside0.mk (Kd.R_drew HO_7.out)
           have n1_ := Aside0.mk (blk_drew BK231.out)
           have n2_ := Aside0.mk (IsS93.drew HI0.out)
           have n3_ := Aside0.mk (keep_drew HK.out)
           have n4_ := Aside0.mk (below_drew1 HB.out)
           clear HO_7
           clear BK231
           clear HI0
           clear HK
           clear HB
           have HO_7 := n0_
           have BK231 := n1_
           have HI0 := n2_
           have HK := n3_
           have HB := n4_
           clear n0_ n1_ n2_ n3_ n4_
           refine start_ (n := 14) (S := fun w' => w'.cell? ⟨gb231, 0, none⟩ = some (.int .i64 t222) ∧ w'.cell? ⟨gb231, 1, none⟩ = some (.int .i64 t225) ∧ w'.cell? ⟨gb231, 2, none⟩ = some (.int .i64 (wrap64 (1 + t228))) ∧ w'.cell? ⟨gb231, 3, none⟩ = some (.int .i64 x232003_13)) (ds := []) #[false,false,false,false,false,false,false,false,false,false,false,false,false,false] (by kernel_rfl) rfl rfl ⟨(blk_cell BK231.out 0).trans rfl, (blk_cell BK231.out 1).trans rfl, (blk_cell BK231.out 2).trans rfl, (blk_cell BK231.out 3).trans rfl⟩ (fun hHeld => ?_); refine with_tabW spec_l14Draw.tab9 spec_l14Draw.bits9 (fun HT_ HW_ => ?_)
           generalize wc.drew = w55 at HO_7 BK231 HI0 HK HB hHeld ⊢
           refine pure_ (i := 0) (N := some 47) (v := ?_) (a' := ?_) #[true,false,false,false,false,false,false,false,false,false,false,false,false,false] rfl rfl (any_of HT_.out (by kernel_rfl)) (fun _ _ _ h => h) (Or.inl ⟨by rfl, ?_⟩) ?_ ?_
           rotate_left
           ·intro w'
            go_simp
            with_reducible rfl
           rotate_left
           ·simp only [Act.put, List.setIfInBounds_toArray, List.set_cons_zero, List.set_cons_succ, i64_w, i32_w]
            rfl
           refine pure_ (i := 1) (N := some 48) (v := ?_) (a' := ?_) #[true,true,false,false,false,false,false,false,false,false,false,false,false,false] rfl rfl (any_of HT_.out (by kernel_rfl)) (fun _ _ _ h => h) (Or.inl ⟨by rfl, ?_⟩) ?_ ?_
           rotate_left
           ·intro w'
            go_simp
            with_reducible rfl
           rotate_left
           ·simp only [Act.put, List.setIfInBounds_toArray, List.set_cons_zero, List.set_cons_succ, i64_w, i32_w]
            rfl
           refine pure_ (i := 3) (N := some 50) (v := ?_) (a' := ?_) #[true,true,false,true,false,false,false,false,false,false,false,false,false,false] rfl rfl (any_of HT_.out (by kernel_rfl)) (fun _ _ _ h => h) (Or.inl ⟨by rfl, ?_⟩) ?_ ?_
           rotate_left
           ·intro w'
            go_simp
            with_reducible rfl
           rotate_left
           ·simp only [Act.put, List.setIfInBounds_toArray, List.set_cons_zero, List.set_cons_succ, i64_w, i32_w]
            rfl
           refine take_ (i := 5) (N := some 52) (v := ?_) (a' := ?_) #[true,true,false,true,false,true,false,false,false,false,false,false,false,false] rfl rfl (take_ofW HT_.out HW_.out (by kernel_rfl)) (fun _ _ _ h => h) (Or.inl ⟨by rfl, ?_⟩) hHeld ?_ ?_
           rotate_left
           ·rintro w' ⟨s0, s1, s2, s3⟩
            go_simp
            with_reducible rfl
           rotate_left
           ·simp only [Act.put, List.setIfInBounds_toArray, List.set_cons_zero, List.set_cons_succ, i64_w, i32_w]
            rfl
           refine join_ (σ := Value × Value × Value) 7 #[true,true,true,true,true,true,true,false,false,false,false,false,false,false] (fun s_ => [(49, s_.1), (51, s_.2.1), (53, s_.2.2)]) (fun s_ w' => (w'.cell? ⟨gb231, 0, none⟩ = some (.int .i64 t222) ∧ w'.cell? ⟨gb231, 1, none⟩ = some (.int .i64 t225) ∧ w'.cell? ⟨gb231, 2, none⟩ = some (.int .i64 (wrap64 (1 + t228))) ∧ w'.cell? ⟨gb231, 3, none⟩ = some (.int .i64 x232003_13)) ∧ (Kd.R k54 54 w' w.heap.size (fun k_ => some k_ ≠ (s_.2.2 : Value).ownBlock ∧ some k_ ≠ (.slice Ao54 x7_1.length co54 : Value).ownBlock ∧ k_ ≠ gb231) s_.2.1 y238) ∧ (Kd.R k54 54 w' w.heap.size (fun k_ => some k_ ≠ (s_.2.1 : Value).ownBlock ∧ some k_ ≠ (.slice Ao54 x7_1.length co54 : Value).ownBlock ∧ k_ ≠ gb231) s_.2.2 y241) ∧ (Kd.R k54 54 w' w.heap.size (fun k_ => some k_ ≠ (s_.2.1 : Value).ownBlock ∧ some k_ ≠ (s_.2.2 : Value).ownBlock ∧ k_ ≠ gb231) (.slice Ao54 x7_1.length co54) x7_1) ∧ (w'.heap[gb231]? = some (.cells #[.int .i64 t222, .int .i64 t225, .int .i64 (wrap64 (1 + t228)), .int .i64 x232003_13] 54 (0, 0))) ∧ (IsS93 w0 w' g s0_0 x1001_13 x1002_13) ∧ (KeepBut w w' g none) ∧ (Below w0.heap.size w0 w')) ?_ ?_
           rotate_left
           ·intro hCont
            refine two_ (i := 2) (j := 6) (Ni := some 49) (Nj := some 53) #[true,true,true,true,false,true,false,false,false,false,false,false,false,false] #[true,true,false,true,false,true,true,false,false,false,false,false,false,false] rfl rfl rfl rfl (two_of HT_.out (by kernel_rfl)) (by decide) (by decide) (fun K hK => ?_) (fun K hK => ?_)
            ·skip
             refine Kd.R_lit_step k54 _ 54 ?hg (N := 49) ?hd (xs := ([] : List (S54))) (inner := []) (ok := fun _ => True) (okp := fun _ => True) ?hr ?hp (fun _ hk => hk) trivial (Below.refl _ _) (Nat.le_refl _) (by simp) ?_; (case hd => rfl); (case hg => rfl); (case hr => first | (go_simp; done) | (go_simp; rfl)); (case hp => exact (Reps.none _ _))
             intro v236 w56 ho57 hb hg_ hnew_
             clear hg_ hnew_
             (first | rw [← Ny235.out] at ho57 | (simp only [Int.reduceToNat] at ho57; rw [← Ny235.out] at ho57))
             have n0_ := Aside0.mk (Kd.R_elder' (by (with_reducible repeat (first | apply qa | apply qb | apply qc)); exact HO_7.out) (Kd.R_base ho57) hb)
             have n1_ := Aside0.mk (Kd.R_lower (Kd.R_newB (Kd.R_new' ho57 (Kd.R_lt (by (with_reducible repeat (first | apply qa | apply qb | apply qc)); exact HO_7.out))) (g := gb231) (o := .cells #[.int .i64 t222, .int .i64 t225, .int .i64 (wrap64 (1 + t228)), .int .i64 x232003_13] 54 (0, 0)) (by (with_reducible repeat (first | refine blk_drewN ?_ _ | refine blk_drew ?_ | refine blk_alloc ?_ _)); exact BK231.out)) (keep_size (w := w) (g := g) (row := none) (by repeat (first | (with_reducible first | exact HK.out | apply qd | apply qe | apply qf | apply qg | refine keep_far ?_ GW231.out _)))))
             have n2_ := Aside0.mk (blk_below (g := gb231) (o := .cells #[.int .i64 t222, .int .i64 t225, .int .i64 (wrap64 (1 + t228)), .int .i64 x232003_13] 54 (0, 0)) (by (with_reducible repeat (first | refine blk_drewN ?_ _ | refine blk_drew ?_ | refine blk_alloc ?_ _)); exact BK231.out) hb)
             have n3_ := Aside0.mk (IsS93.below (by repeat (first | (with_reducible first | exact HI0.out | apply qh | apply qi | apply qj | apply qk | apply ql | refine IsS93.far ?_ NB0_231.out _))) hb)
             have n4_ := Aside0.mk (KeepBut.trans (by repeat (first | (with_reducible first | exact HK.out | apply qd | apply qe | apply qf | apply qg | refine keep_far ?_ GW231.out _))) (KeepBut.of_below hb g none) (.inl rfl))
             have n5_ := Aside0.mk (below_step (by repeat (first | (with_reducible first | exact HB.out | apply qm | apply qn | apply qo | refine below_set ?_ (IsS93.ge HI0.out) | refine below_set ?_ GE231.out))) hb)
             clear HO_7
             clear BK231
             clear HI0
             clear HK
             clear HB
             have HO_7 := n0_
             have HO237 := n1_
             have BK231 := n2_
             have HI0 := n3_
             have HK := n4_
             have HB := n5_
             clear n0_ n1_ n2_ n3_ n4_ n5_
             clear hb ho57
             refine hK.out _ _ ⟨(blk_cell BK231.out 0).trans rfl, (blk_cell BK231.out 1).trans rfl, (blk_cell BK231.out 2).trans rfl, (blk_cell BK231.out 3).trans rfl⟩ (fun hHeld => ?_)
             clear hK K
             refine norm_ (a' := ?_) ?_ ?_
             rotate_left
             ·show Act.put _ (some 49) _ = _
              simp only [Act.put, List.setIfInBounds_toArray, List.set_cons_zero, List.set_cons_succ, i64_w, i32_w]
              rfl
             refine two_ (i := 4) (j := 6) (Ni := some 51) (Nj := some 53) #[true,true,true,true,true,true,false,false,false,false,false,false,false,false] #[true,true,true,true,false,true,true,false,false,false,false,false,false,false] rfl rfl rfl rfl (two_of HT_.out (by kernel_rfl)) (by decide) (by decide) (fun K hK => ?_) (fun K hK => ?_)
             ·skip
              refine Kd.R_append_rows_step k54 w.heap.size (by rfl) (.tmp 49) (.tmp 50) 36 54 (.agg #[(.int .i64 0), (.int .i64 0), (.int .i64 0), (.int .i64 0)]) 32 rfl Try.underlying36 info54 rfl (by decide) (by omega) v236 y235 x7_1 _ _ _ (fun k_ => some k_ ≠ (.slice Ao54 x7_1.length co54 : Value).ownBlock ∧ k_ ≠ gb231) (fun _ => False) rfl rfl ?aO ?aR (fun _ _ h => h) (fun _ h => h.elim) ?aF (Below.refl _ _) ?aS ?aL ?_
              (case aR => repeat (first | exact (Kd.R_reads' HO_7.out).2.2 | (with_reducible refine Kd.C_alloc ?_ _) | (with_reducible refine Kd.C_drewN ?_ _) | (with_reducible refine Kd.C_drew ?_)))
              (case aF => exact (fun k_ hk => ⟨Kd.fresh' (Kd.R_lt (by (with_reducible repeat (first | apply qa | apply qb | apply qc)); exact HO_7.out)) k_ hk, Kd.freshB (g := gb231) (o := .cells #[.int .i64 t222, .int .i64 t225, .int .i64 (wrap64 (1 + t228)), .int .i64 x232003_13] 54 (0, 0)) (by (with_reducible repeat (first | refine blk_drewN ?_ _ | refine blk_drew ?_ | refine blk_alloc ?_ _)); exact BK231.out) k_ hk⟩))
              (case aO => exact (by (with_reducible repeat (first | apply qa | apply qb | apply qc)); exact Kd.R_mono HO237.out (fun _ hk => ⟨hk.1.2, hk.2⟩)))
              (case aS => exact (keep_size (w := w) (g := g) (row := none) (by repeat (first | (with_reducible first | exact HK.out | apply qd | apply qe | apply qf | apply qg | refine keep_far ?_ GW231.out _)))))
              (case aL => have := LMc28.out; omega)
              intro v239 w58 ho hb hg hat
              rw [← Ny238.out] at ho
              have n0_ := Aside0.mk (Kd.R_after (ok := (fun k_ => k_ ≠ gb231)) (by (with_reducible repeat (first | apply qa | apply qb | apply qc)); exact HO_7.out) hg hat)
              have n1_ := Aside0.mk (blk_grown (g := gb231) (o := .cells #[.int .i64 t222, .int .i64 t225, .int .i64 (wrap64 (1 + t228)), .int .i64 x232003_13] 54 (0, 0)) (by (with_reducible repeat (first | refine blk_drewN ?_ _ | refine blk_drew ?_ | refine blk_alloc ?_ _)); exact BK231.out) hg (Kd.R_away HO237.out (fun _ hk => hk.2)))
              have n2_ := Aside0.mk (IsS93.grown (by repeat (first | (with_reducible first | exact HI0.out | apply qh | apply qi | apply qj | apply qk | apply ql | refine IsS93.far ?_ NB0_231.out _))) hg (IsS93.own_ne HI0.out HO237.out (by decide)))
              have n3_ := Aside0.mk (below_weaken (by repeat (first | (with_reducible first | exact HB.out | apply qm | apply qn | apply qo | refine below_set ?_ (IsS93.ge HI0.out) | refine below_set ?_ GE231.out))) HL.out hb)
              have n4_ := Aside0.mk (KeepBut.trans (by repeat (first | (with_reducible first | exact HK.out | apply qd | apply qe | apply qf | apply qg | refine keep_far ?_ GW231.out _))) (KeepBut.of_grown hg g) (Kd.R_base2 HO237.out))
              have n5_ := Aside0.mk (ho)
              clear HO_7
              clear BK231
              clear HI0
              clear HB
              clear HK
              clear HO237
              have HO_7 := n0_
              have BK231 := n1_
              have HI0 := n2_
              have HB := n3_
              have HK := n4_
              have HO240 := n5_
              clear n0_ n1_ n2_ n3_ n4_ n5_
              clear ho hb hg hat
              refine hK.out _ _ ⟨(blk_cell BK231.out 0).trans rfl, (blk_cell BK231.out 1).trans rfl, (blk_cell BK231.out 2).trans rfl, (blk_cell BK231.out 3).trans rfl⟩ (fun hHeld => ?_)
              clear hK K
              refine norm_ (a' := ?_) ?_ ?_
              rotate_left
              ·show Act.put _ (some 51) _ = _
               simp only [Act.put, List.setIfInBounds_toArray, List.set_cons_zero, List.set_cons_succ, i64_w, i32_w]
               rfl
              refine one_ (i := 6) (N := some 53) #[true,true,true,true,true,true,true,false,false,false,false,false,false,false] rfl rfl (one_of HT_.out (by kernel_rfl)) (by decide) (fun K hK => ?_)
              refine Kd.R_lit_step k54 _ 54 ?hg (N := 53) ?hd (xs := ([(⟨t222, t225, (wrap64 (1 + t228)), x232003_13⟩ : S54)] : List (S54))) (inner := [.int .i64 t222, .int .i64 t225, .int .i64 (wrap64 (1 + t228)), .int .i64 x232003_13]) (ok := fun _ => True) (okp := fun _ => True) ?hr ?hp (fun _ hk => hk) trivial (Below.refl _ _) (Nat.le_refl _) (by simp) ?_; (case hd => rfl); (case hg => rfl); (case hr => first | (go_simp; done) | (go_simp; rfl)); (case hp => exact (Reps.c4 (show Kd.M k54 _ _ _ (⟨t222, t225, (wrap64 (1 + t228)), x232003_13⟩ : S54) [.int .i64 t222, .int .i64 t225, .int .i64 (wrap64 (1 + t228)), .int .i64 x232003_13] from (k54_mkM _ _ _ (⟨t222, t225, (wrap64 (1 + t228)), x232003_13⟩ : S54) )) (Reps.none _ _)))
              intro v242 w59 ho60 hb hg_ hnew_
              clear hg_ hnew_
              (first | rw [← Ny241.out] at ho60 | (simp only [Int.reduceToNat] at ho60; rw [← Ny241.out] at ho60))
              have n0_ := Aside0.mk (Kd.R_elder' (by (with_reducible repeat (first | apply qa | apply qb | apply qc)); exact HO_7.out) (Kd.R_base ho60) hb)
              have n1_ := Aside0.mk (Kd.R_elder' (by (with_reducible repeat (first | apply qa | apply qb | apply qc)); exact HO240.out) (Kd.R_base ho60) hb)
              have n2_ := Aside0.mk (Kd.R_lower (Kd.R_newB (Kd.R_new' (Kd.R_new' ho60 (Kd.R_lt (by (with_reducible repeat (first | apply qa | apply qb | apply qc)); exact HO_7.out))) (Kd.R_lt (by (with_reducible repeat (first | apply qa | apply qb | apply qc)); exact HO240.out))) (g := gb231) (o := .cells #[.int .i64 t222, .int .i64 t225, .int .i64 (wrap64 (1 + t228)), .int .i64 x232003_13] 54 (0, 0)) (by (with_reducible repeat (first | refine blk_drewN ?_ _ | refine blk_drew ?_ | refine blk_alloc ?_ _)); exact BK231.out)) (keep_size (w := w) (g := g) (row := none) (by repeat (first | (with_reducible first | exact HK.out | apply qd | apply qe | apply qf | apply qg | refine keep_far ?_ GW231.out _)))))
              have n3_ := Aside0.mk (blk_below (g := gb231) (o := .cells #[.int .i64 t222, .int .i64 t225, .int .i64 (wrap64 (1 + t228)), .int .i64 x232003_13] 54 (0, 0)) (by (with_reducible repeat (first | refine blk_drewN ?_ _ | refine blk_drew ?_ | refine blk_alloc ?_ _)); exact BK231.out) hb)
              have n4_ := Aside0.mk (IsS93.below (by repeat (first | (with_reducible first | exact HI0.out | apply qh | apply qi | apply qj | apply qk | apply ql | refine IsS93.far ?_ NB0_231.out _))) hb)
              have n5_ := Aside0.mk (KeepBut.trans (by repeat (first | (with_reducible first | exact HK.out | apply qd | apply qe | apply qf | apply qg | refine keep_far ?_ GW231.out _))) (KeepBut.of_below hb g none) (.inl rfl))
              have n6_ := Aside0.mk (below_step (by repeat (first | (with_reducible first | exact HB.out | apply qm | apply qn | apply qo | refine below_set ?_ (IsS93.ge HI0.out) | refine below_set ?_ GE231.out))) hb)
              clear HO_7
              clear HO240
              clear BK231
              clear HI0
              clear HK
              clear HB
              have HO_7 := n0_
              have HO240 := n1_
              have HO243 := n2_
              have BK231 := n3_
              have HI0 := n4_
              have HK := n5_
              have HB := n6_
              clear n0_ n1_ n2_ n3_ n4_ n5_ n6_
              clear hb ho60
              refine hK.out _ _ ⟨(blk_cell BK231.out 0).trans rfl, (blk_cell BK231.out 1).trans rfl, (blk_cell BK231.out 2).trans rfl, (blk_cell BK231.out 3).trans rfl⟩ (fun hHeld => ?_)
              clear hK K
              refine norm_ (a' := ?_) ?_ ?_
              rotate_left
              ·show Act.put _ (some 53) _ = _
               simp only [Act.put, List.setIfInBounds_toArray, List.set_cons_zero, List.set_cons_succ, i64_w, i32_w]
               rfl
              exact norm_ (by simp only [putAll, Act.put, List.setIfInBounds_toArray, List.set_cons_zero, List.set_cons_succ]) (hCont (v236, v239, v242) _ ⟨hHeld, (by (with_reducible repeat (first | apply qa | apply qb | apply qc)); exact Kd.R_mono HO240.out (fun _ hk => ⟨hk.2, ⟨hk.1.1, hk.1.2⟩⟩)), (by (with_reducible repeat (first | apply qa | apply qb | apply qc)); exact Kd.R_mono HO243.out (fun _ hk => ⟨hk.1.2, ⟨hk.1.1.2, hk.2⟩⟩)), (by (with_reducible repeat (first | apply qa | apply qb | apply qc)); exact Kd.R_mono HO_7.out (fun _ hk => ⟨hk.1.2, ⟨hk.2, hk.1.1⟩⟩)), (by (with_reducible repeat (first | refine blk_drewN ?_ _ | refine blk_drew ?_ | refine blk_alloc ?_ _)); exact BK231.out), (by repeat (first | (with_reducible first | exact HI0.out | apply qh | apply qi | apply qj | apply qk | apply ql | refine IsS93.far ?_ NB0_231.out _))), (by repeat (first | (with_reducible first | exact HK.out | apply qd | apply qe | apply qf | apply qg | refine keep_far ?_ GW231.out _))), (by repeat (first | (with_reducible first | exact HB.out | apply qm | apply qn | apply qo | refine below_set ?_ (IsS93.ge HI0.out) | refine below_set ?_ GE231.out)))⟩)
             ·skip
              refine Kd.R_lit_step k54 _ 54 ?hg (N := 53) ?hd (xs := ([(⟨t222, t225, (wrap64 (1 + t228)), x232003_13⟩ : S54)] : List (S54))) (inner := [.int .i64 t222, .int .i64 t225, .int .i64 (wrap64 (1 + t228)), .int .i64 x232003_13]) (ok := fun _ => True) (okp := fun _ => True) ?hr ?hp (fun _ hk => hk) trivial (Below.refl _ _) (Nat.le_refl _) (by simp) ?_; (case hd => rfl); (case hg => rfl); (case hr => first | (go_simp; done) | (go_simp; rfl)); (case hp => exact (Reps.c4 (show Kd.M k54 _ _ _ (⟨t222, t225, (wrap64 (1 + t228)), x232003_13⟩ : S54) [.int .i64 t222, .int .i64 t225, .int .i64 (wrap64 (1 + t228)), .int .i64 x232003_13] from (k54_mkM _ _ _ (⟨t222, t225, (wrap64 (1 + t228)), x232003_13⟩ : S54) )) (Reps.none _ _)))
              intro v242 w58 ho59 hb hg_ hnew_
              clear hg_ hnew_
              (first | rw [← Ny241.out] at ho59 | (simp only [Int.reduceToNat] at ho59; rw [← Ny241.out] at ho59))
              have n0_ := Aside0.mk (Kd.R_elder' (by (with_reducible repeat (first | apply qa | apply qb | apply qc)); exact HO_7.out) (Kd.R_base ho59) hb)
              have n1_ := Aside0.mk (Kd.R_elder' (by (with_reducible repeat (first | apply qa | apply qb | apply qc)); exact HO237.out) (Kd.R_base ho59) hb)
              have n2_ := Aside0.mk (Kd.R_lower (Kd.R_newB (Kd.R_new' (Kd.R_new' ho59 (Kd.R_lt (by (with_reducible repeat (first | apply qa | apply qb | apply qc)); exact HO_7.out))) (Kd.R_lt (by (with_reducible repeat (first | apply qa | apply qb | apply qc)); exact HO237.out))) (g := gb231) (o := .cells #[.int .i64 t222, .int .i64 t225, .int .i64 (wrap64 (1 + t228)), .int .i64 x232003_13] 54 (0, 0)) (by (with_reducible repeat (first | refine blk_drewN ?_ _ | refine blk_drew ?_ | refine blk_alloc ?_ _)); exact BK231.out)) (keep_size (w := w) (g := g) (row := none) (by repeat (first | (with_reducible first | exact HK.out | apply qd | apply qe | apply qf | apply qg | refine keep_far ?_ GW231.out _)))))
              have n3_ := Aside0.mk (blk_below (g := gb231) (o := .cells #[.int .i64 t222, .int .i64 t225, .int .i64 (wrap64 (1 + t228)), .int .i64 x232003_13] 54 (0, 0)) (by (with_reducible repeat (first | refine blk_drewN ?_ _ | refine blk_drew ?_ | refine blk_alloc ?_ _)); exact BK231.out) hb)
              have n4_ := Aside0.mk (IsS93.below (by repeat (first | (with_reducible first | exact HI0.out | apply qh | apply qi | apply qj | apply qk | apply ql | refine IsS93.far ?_ NB0_231.out _))) hb)
              have n5_ := Aside0.mk (KeepBut.trans (by repeat (first | (with_reducible first | exact HK.out | apply qd | apply qe | apply qf | apply qg | refine keep_far ?_ GW231.out _))) (KeepBut.of_below hb g none) (.inl rfl))
              have n6_ := Aside0.mk (below_step (by repeat (first | (with_reducible first | exact HB.out | apply qm | apply qn | apply qo | refine below_set ?_ (IsS93.ge HI0.out) | refine below_set ?_ GE231.out))) hb)
              clear HO_7
              clear HO237
              clear BK231
              clear HI0
              clear HK
              clear HB
              have HO_7 := n0_
              have HO237 := n1_
              have HO243 := n2_
              have BK231 := n3_
              have HI0 := n4_
              have HK := n5_
              have HB := n6_
              clear n0_ n1_ n2_ n3_ n4_ n5_ n6_
              clear hb ho59
              refine hK.out _ _ ⟨(blk_cell BK231.out 0).trans rfl, (blk_cell BK231.out 1).trans rfl, (blk_cell BK231.out 2).trans rfl, (blk_cell BK231.out 3).trans rfl⟩ (fun hHeld => ?_)
              clear hK K
              refine norm_ (a' := ?_) ?_ ?_
              rotate_left
              ·show Act.put _ (some 53) _ = _
               simp only [Act.put, List.setIfInBounds_toArray, List.set_cons_zero, List.set_cons_succ, i64_w, i32_w]
               rfl
              refine one_ (i := 4) (N := some 51) #[true,true,true,true,true,true,true,false,false,false,false,false,false,false] rfl rfl (one_of HT_.out (by kernel_rfl)) (by decide) (fun K hK => ?_)
              refine Kd.R_append_rows_step k54 w.heap.size (by rfl) (.tmp 49) (.tmp 50) 36 54 (.agg #[(.int .i64 0), (.int .i64 0), (.int .i64 0), (.int .i64 0)]) 32 rfl Try.underlying36 info54 rfl (by decide) (by omega) v236 y235 x7_1 _ _ _ (fun k_ => some k_ ≠ (.slice Ao54 x7_1.length co54 : Value).ownBlock ∧ some k_ ≠ (v242 : Value).ownBlock ∧ k_ ≠ gb231) (fun _ => False) rfl rfl ?aO ?aR (fun _ _ h => h) (fun _ h => h.elim) ?aF (Below.refl _ _) ?aS ?aL ?_
              (case aR => repeat (first | exact (Kd.R_reads' HO_7.out).2.2 | (with_reducible refine Kd.C_alloc ?_ _) | (with_reducible refine Kd.C_drewN ?_ _) | (with_reducible refine Kd.C_drew ?_)))
              (case aF => exact (fun k_ hk => ⟨Kd.fresh' (Kd.R_lt (by (with_reducible repeat (first | apply qa | apply qb | apply qc)); exact HO_7.out)) k_ hk, Kd.fresh' (Kd.R_lt (by (with_reducible repeat (first | apply qa | apply qb | apply qc)); exact HO243.out)) k_ hk, Kd.freshB (g := gb231) (o := .cells #[.int .i64 t222, .int .i64 t225, .int .i64 (wrap64 (1 + t228)), .int .i64 x232003_13] 54 (0, 0)) (by (with_reducible repeat (first | refine blk_drewN ?_ _ | refine blk_drew ?_ | refine blk_alloc ?_ _)); exact BK231.out) k_ hk⟩))
              (case aO => exact (by (with_reducible repeat (first | apply qa | apply qb | apply qc)); exact Kd.R_mono HO237.out (fun _ hk => ⟨hk.1.1.2, ⟨hk.2, hk.1.2⟩⟩)))
              (case aS => exact (keep_size (w := w) (g := g) (row := none) (by repeat (first | (with_reducible first | exact HK.out | apply qd | apply qe | apply qf | apply qg | refine keep_far ?_ GW231.out _)))))
              (case aL => have := LMc28.out; omega)
              intro v239 w60 ho hb hg hat
              rw [← Ny238.out] at ho
              have n0_ := Aside0.mk (Kd.R_after (ok := (fun k_ => some k_ ≠ (v242 : Value).ownBlock ∧ k_ ≠ gb231)) (by (with_reducible repeat (first | apply qa | apply qb | apply qc)); exact Kd.R_mono HO_7.out (fun _ hk => ⟨⟨hk.2, hk.1.1⟩, hk.1.2⟩)) hg hat)
              have n1_ := Aside0.mk (blk_grown (g := gb231) (o := .cells #[.int .i64 t222, .int .i64 t225, .int .i64 (wrap64 (1 + t228)), .int .i64 x232003_13] 54 (0, 0)) (by (with_reducible repeat (first | refine blk_drewN ?_ _ | refine blk_drew ?_ | refine blk_alloc ?_ _)); exact BK231.out) hg (Kd.R_away HO237.out (fun _ hk => hk.1.2)))
              have n2_ := Aside0.mk (IsS93.grown (by repeat (first | (with_reducible first | exact HI0.out | apply qh | apply qi | apply qj | apply qk | apply ql | refine IsS93.far ?_ NB0_231.out _))) hg (IsS93.own_ne HI0.out HO237.out (by decide)))
              have n3_ := Aside0.mk (Kd.R_after (ok := (fun k_ => some k_ ≠ (.slice Ao54 x7_1.length co54 : Value).ownBlock ∧ k_ ≠ gb231)) (by (with_reducible repeat (first | apply qa | apply qb | apply qc)); exact Kd.R_mono HO243.out (fun _ hk => ⟨⟨hk.1.1.2, hk.2⟩, hk.1.2⟩)) hg hat)
              have n4_ := Aside0.mk (below_weaken (by repeat (first | (with_reducible first | exact HB.out | apply qm | apply qn | apply qo | refine below_set ?_ (IsS93.ge HI0.out) | refine below_set ?_ GE231.out))) HL.out hb)
              have n5_ := Aside0.mk (KeepBut.trans (by repeat (first | (with_reducible first | exact HK.out | apply qd | apply qe | apply qf | apply qg | refine keep_far ?_ GW231.out _))) (KeepBut.of_grown hg g) (Kd.R_base2 HO237.out))
              have n6_ := Aside0.mk (ho)
              clear HO_7
              clear BK231
              clear HI0
              clear HO243
              clear HB
              clear HK
              clear HO237
              have HO_7 := n0_
              have BK231 := n1_
              have HI0 := n2_
              have HO243 := n3_
              have HB := n4_
              have HK := n5_
              have HO240 := n6_
              clear n0_ n1_ n2_ n3_ n4_ n5_ n6_
              clear ho hb hg hat
              refine hK.out _ _ ⟨(blk_cell BK231.out 0).trans rfl, (blk_cell BK231.out 1).trans rfl, (blk_cell BK231.out 2).trans rfl, (blk_cell BK231.out 3).trans rfl⟩ (fun hHeld => ?_)
              clear hK K
              refine norm_ (a' := ?_) ?_ ?_
              rotate_left
              ·show Act.put _ (some 51) _ = _
               simp only [Act.put, List.setIfInBounds_toArray, List.set_cons_zero, List.set_cons_succ, i64_w, i32_w]
               rfl
              exact norm_ (by simp only [putAll, Act.put, List.setIfInBounds_toArray, List.set_cons_zero, List.set_cons_succ]) (hCont (v236, v239, v242) _ ⟨hHeld, (by (with_reducible repeat (first | apply qa | apply qb | apply qc)); exact Kd.R_mono HO240.out (fun _ hk => ⟨hk.2.1, ⟨hk.1, hk.2.2⟩⟩)), (by (with_reducible repeat (first | apply qa | apply qb | apply qc)); exact Kd.R_mono HO243.out (fun _ hk => ⟨hk.2, ⟨hk.1.1, hk.1.2⟩⟩)), (by (with_reducible repeat (first | apply qa | apply qb | apply qc)); exact Kd.R_mono HO_7.out (fun _ hk => ⟨hk.2, ⟨hk.1.1, hk.1.2⟩⟩)), (by (with_reducible repeat (first | refine blk_drewN ?_ _ | refine blk_drew ?_ | refine blk_alloc ?_ _)); exact BK231.out), (by repeat (first | (with_reducible first | exact HI0.out | apply qh | apply qi | apply qj | apply qk | apply ql | refine IsS93.far ?_ NB0_231.out _))), (by repeat (first | (with_reducible first | exact HK.out | apply qd | apply qe | apply qf | apply qg | refine keep_far ?_ GW231.out _))), (by repeat (first | (with_reducible first | exact HB.out | apply qm | apply qn | apply qo | refine below_set ?_ (IsS93.ge HI0.out) | refine below_set ?_ GE231.out)))⟩)
            ·skip
             refine Kd.R_lit_step k54 _ 54 ?hg (N := 53) ?hd (xs := ([(⟨t222, t225, (wrap64 (1 + t228)), x232003_13⟩ : S54)] : List (S54))) (inner := [.int .i64 t222, .int .i64 t225, .int .i64 (wrap64 (1 + t228)), .int .i64 x232003_13]) (ok := fun _ => True) (okp := fun _ => True) ?hr ?hp (fun _ hk => hk) trivial (Below.refl _ _) (Nat.le_refl _) (by simp) ?_; (case hd => rfl); (case hg => rfl); (case hr => first | (go_simp; done) | (go_simp; rfl)); (case hp => exact (Reps.c4 (show Kd.M k54 _ _ _ (⟨t222, t225, (wrap64 (1 + t228)), x232003_13⟩ : S54) [.int .i64 t222, .int .i64 t225, .int .i64 (wrap64 (1 + t228)), .int .i64 x232003_13] from (k54_mkM _ _ _ (⟨t222, t225, (wrap64 (1 + t228)), x232003_13⟩ : S54) )) (Reps.none _ _)))
             intro v242 w56 ho57 hb hg_ hnew_
             clear hg_ hnew_
             (first | rw [← Ny241.out] at ho57 | (simp only [Int.reduceToNat] at ho57; rw [← Ny241.out] at ho57))
             have n0_ := Aside0.mk (Kd.R_elder' (by (with_reducible repeat (first | apply qa | apply qb | apply qc)); exact HO_7.out) (Kd.R_base ho57) hb)
             have n1_ := Aside0.mk (Kd.R_lower (Kd.R_newB (Kd.R_new' ho57 (Kd.R_lt (by (with_reducible repeat (first | apply qa | apply qb | apply qc)); exact HO_7.out))) (g := gb231) (o := .cells #[.int .i64 t222, .int .i64 t225, .int .i64 (wrap64 (1 + t228)), .int .i64 x232003_13] 54 (0, 0)) (by (with_reducible repeat (first | refine blk_drewN ?_ _ | refine blk_drew ?_ | refine blk_alloc ?_ _)); exact BK231.out)) (keep_size (w := w) (g := g) (row := none) (by repeat (first | (with_reducible first | exact HK.out | apply qd | apply qe | apply qf | apply qg | refine keep_far ?_ GW231.out _)))))
             have n2_ := Aside0.mk (blk_below (g := gb231) (o := .cells #[.int .i64 t222, .int .i64 t225, .int .i64 (wrap64 (1 + t228)), .int .i64 x232003_13] 54 (0, 0)) (by (with_reducible repeat (first | refine blk_drewN ?_ _ | refine blk_drew ?_ | refine blk_alloc ?_ _)); exact BK231.out) hb)
             have n3_ := Aside0.mk (IsS93.below (by repeat (first | (with_reducible first | exact HI0.out | apply qh | apply qi | apply qj | apply qk | apply ql | refine IsS93.far ?_ NB0_231.out _))) hb)
             have n4_ := Aside0.mk (KeepBut.trans (by repeat (first | (with_reducible first | exact HK.out | apply qd | apply qe | apply qf | apply qg | refine keep_far ?_ GW231.out _))) (KeepBut.of_below hb g none) (.inl rfl))
             have n5_ := Aside0.mk (below_step (by repeat (first | (with_reducible first | exact HB.out | apply qm | apply qn | apply qo | refine below_set ?_ (IsS93.ge HI0.out) | refine below_set ?_ GE231.out))) hb)
             clear HO_7
             clear BK231
             clear HI0
             clear HK
             clear HB
             have HO_7 := n0_
             have HO243 := n1_
             have BK231 := n2_
             have HI0 := n3_
             have HK := n4_
             have HB := n5_
             clear n0_ n1_ n2_ n3_ n4_ n5_
             clear hb ho57
             refine hK.out _ _ ⟨(blk_cell BK231.out 0).trans rfl, (blk_cell BK231.out 1).trans rfl, (blk_cell BK231.out 2).trans rfl, (blk_cell BK231.out 3).trans rfl⟩ (fun hHeld => ?_)
             clear hK K
             refine norm_ (a' := ?_) ?_ ?_
             rotate_left
             ·show Act.put _ (some 53) _ = _
              simp only [Act.put, List.setIfInBounds_toArray, List.set_cons_zero, List.set_cons_succ, i64_w, i32_w]
              rfl
             refine one_ (i := 2) (N := some 49) #[true,true,true,true,false,true,true,false,false,false,false,false,false,false] rfl rfl (one_of HT_.out (by kernel_rfl)) (by decide) (fun K hK => ?_)
             refine Kd.R_lit_step k54 _ 54 ?hg (N := 49) ?hd (xs := ([] : List (S54))) (inner := []) (ok := fun _ => True) (okp := fun _ => True) ?hr ?hp (fun _ hk => hk) trivial (Below.refl _ _) (Nat.le_refl _) (by simp) ?_; (case hd => rfl); (case hg => rfl); (case hr => first | (go_simp; done) | (go_simp; rfl)); (case hp => exact (Reps.none _ _))
             intro v236 w58 ho59 hb hg_ hnew_
             clear hg_ hnew_
             (first | rw [← Ny235.out] at ho59 | (simp only [Int.reduceToNat] at ho59; rw [← Ny235.out] at ho59))
             have n0_ := Aside0.mk (Kd.R_elder' (by (with_reducible repeat (first | apply qa | apply qb | apply qc)); exact HO_7.out) (Kd.R_base ho59) hb)
             have n1_ := Aside0.mk (Kd.R_elder' (by (with_reducible repeat (first | apply qa | apply qb | apply qc)); exact HO243.out) (Kd.R_base ho59) hb)
             have n2_ := Aside0.mk (Kd.R_lower (Kd.R_newB (Kd.R_new' (Kd.R_new' ho59 (Kd.R_lt (by (with_reducible repeat (first | apply qa | apply qb | apply qc)); exact HO_7.out))) (Kd.R_lt (by (with_reducible repeat (first | apply qa | apply qb | apply qc)); exact HO243.out))) (g := gb231) (o := .cells #[.int .i64 t222, .int .i64 t225, .int .i64 (wrap64 (1 + t228)), .int .i64 x232003_13] 54 (0, 0)) (by (with_reducible repeat (first | refine blk_drewN ?_ _ | refine blk_drew ?_ | refine blk_alloc ?_ _)); exact BK231.out)) (keep_size (w := w) (g := g) (row := none) (by repeat (first | (with_reducible first | exact HK.out | apply qd | apply qe | apply qf | apply qg | refine keep_far ?_ GW231.out _)))))
             have n3_ := Aside0.mk (blk_below (g := gb231) (o := .cells #[.int .i64 t222, .int .i64 t225, .int .i64 (wrap64 (1 + t228)), .int .i64 x232003_13] 54 (0, 0)) (by (with_reducible repeat (first | refine blk_drewN ?_ _ | refine blk_drew ?_ | refine blk_alloc ?_ _)); exact BK231.out) hb)
             have n4_ := Aside0.mk (IsS93.below (by repeat (first | (with_reducible first | exact HI0.out | apply qh | apply qi | apply qj | apply qk | apply ql | refine IsS93.far ?_ NB0_231.out _))) hb)
             have n5_ := Aside0.mk (KeepBut.trans (by repeat (first | (with_reducible first | exact HK.out | apply qd | apply qe | apply qf | apply qg | refine keep_far ?_ GW231.out _))) (KeepBut.of_below hb g none) (.inl rfl))
             have n6_ := Aside0.mk (below_step (by repeat (first | (with_reducible first | exact HB.out | apply qm | apply qn | apply qo | refine below_set ?_ (IsS93.ge HI0.out) | refine below_set ?_ GE231.out))) hb)
             clear HO_7
             clear HO243
             clear BK231
             clear HI0
             clear HK
             clear HB
             have HO_7 := n0_
             have HO243 := n1_
             have HO237 := n2_
             have BK231 := n3_
             have HI0 := n4_
             have HK := n5_
             have HB := n6_
             clear n0_ n1_ n2_ n3_ n4_ n5_ n6_
             clear hb ho59
             refine hK.out _ _ ⟨(blk_cell BK231.out 0).trans rfl, (blk_cell BK231.out 1).trans rfl, (blk_cell BK231.out 2).trans rfl, (blk_cell BK231.out 3).trans rfl⟩ (fun hHeld => ?_)
             clear hK K
             refine norm_ (a' := ?_) ?_ ?_
             rotate_left
             ·show Act.put _ (some 49) _ = _
              simp only [Act.put, List.setIfInBounds_toArray, List.set_cons_zero, List.set_cons_succ, i64_w, i32_w]
              rfl
             refine one_ (i := 4) (N := some 51) #[true,true,true,true,true,true,true,false,false,false,false,false,false,false] rfl rfl (one_of HT_.out (by kernel_rfl)) (by decide) (fun K hK => ?_)
             refine Kd.R_append_rows_step k54 w.heap.size (by rfl) (.tmp 49) (.tmp 50) 36 54 (.agg #[(.int .i64 0), (.int .i64 0), (.int .i64 0), (.int .i64 0)]) 32 rfl Try.underlying36 info54 rfl (by decide) (by omega) v236 y235 x7_1 _ _ _ (fun k_ => some k_ ≠ (.slice Ao54 x7_1.length co54 : Value).ownBlock ∧ some k_ ≠ (v242 : Value).ownBlock ∧ k_ ≠ gb231) (fun _ => False) rfl rfl ?aO ?aR (fun _ _ h => h) (fun _ h => h.elim) ?aF (Below.refl _ _) ?aS ?aL ?_
             (case aR => repeat (first | exact (Kd.R_reads' HO_7.out).2.2 | (with_reducible refine Kd.C_alloc ?_ _) | (with_reducible refine Kd.C_drewN ?_ _) | (with_reducible refine Kd.C_drew ?_)))
             (case aF => exact (fun k_ hk => ⟨Kd.fresh' (Kd.R_lt (by (with_reducible repeat (first | apply qa | apply qb | apply qc)); exact HO_7.out)) k_ hk, Kd.fresh' (Kd.R_lt (by (with_reducible repeat (first | apply qa | apply qb | apply qc)); exact HO243.out)) k_ hk, Kd.freshB (g := gb231) (o := .cells #[.int .i64 t222, .int .i64 t225, .int .i64 (wrap64 (1 + t228)), .int .i64 x232003_13] 54 (0, 0)) (by (with_reducible repeat (first | refine blk_drewN ?_ _ | refine blk_drew ?_ | refine blk_alloc ?_ _)); exact BK231.out) k_ hk⟩))
             (case aO => exact (by (with_reducible repeat (first | apply qa | apply qb | apply qc)); exact Kd.R_mono HO237.out (fun _ hk => ⟨hk.1.1.2, ⟨hk.1.2, hk.2⟩⟩)))
             (case aS => exact (keep_size (w := w) (g := g) (row := none) (by repeat (first | (with_reducible first | exact HK.out | apply qd | apply qe | apply qf | apply qg | refine keep_far ?_ GW231.out _)))))
             (case aL => have := LMc28.out; omega)
             intro v239 w60 ho hb hg hat
             rw [← Ny238.out] at ho
             have n0_ := Aside0.mk (Kd.R_after (ok := (fun k_ => some k_ ≠ (v242 : Value).ownBlock ∧ k_ ≠ gb231)) (by (with_reducible repeat (first | apply qa | apply qb | apply qc)); exact Kd.R_mono HO_7.out (fun _ hk => ⟨⟨hk.1.2, hk.1.1⟩, hk.2⟩)) hg hat)
             have n1_ := Aside0.mk (blk_grown (g := gb231) (o := .cells #[.int .i64 t222, .int .i64 t225, .int .i64 (wrap64 (1 + t228)), .int .i64 x232003_13] 54 (0, 0)) (by (with_reducible repeat (first | refine blk_drewN ?_ _ | refine blk_drew ?_ | refine blk_alloc ?_ _)); exact BK231.out) hg (Kd.R_away HO237.out (fun _ hk => hk.2)))
             have n2_ := Aside0.mk (IsS93.grown (by repeat (first | (with_reducible first | exact HI0.out | apply qh | apply qi | apply qj | apply qk | apply ql | refine IsS93.far ?_ NB0_231.out _))) hg (IsS93.own_ne HI0.out HO237.out (by decide)))
             have n3_ := Aside0.mk (Kd.R_after (ok := (fun k_ => some k_ ≠ (.slice Ao54 x7_1.length co54 : Value).ownBlock ∧ k_ ≠ gb231)) (by (with_reducible repeat (first | apply qa | apply qb | apply qc)); exact Kd.R_mono HO243.out (fun _ hk => ⟨⟨hk.1.1.2, hk.1.2⟩, hk.2⟩)) hg hat)
             have n4_ := Aside0.mk (below_weaken (by repeat (first | (with_reducible first | exact HB.out | apply qm | apply qn | apply qo | refine below_set ?_ (IsS93.ge HI0.out) | refine below_set ?_ GE231.out))) HL.out hb)
             have n5_ := Aside0.mk (KeepBut.trans (by repeat (first | (with_reducible first | exact HK.out | apply qd | apply qe | apply qf | apply qg | refine keep_far ?_ GW231.out _))) (KeepBut.of_grown hg g) (Kd.R_base2 HO237.out))
             have n6_ := Aside0.mk (ho)
             clear HO_7
             clear BK231
             clear HI0
             clear HO243
             clear HB
             clear HK
             clear HO237
             have HO_7 := n0_
             have BK231 := n1_
             have HI0 := n2_
             have HO243 := n3_
             have HB := n4_
             have HK := n5_
             have HO240 := n6_
             clear n0_ n1_ n2_ n3_ n4_ n5_ n6_
             clear ho hb hg hat
             refine hK.out _ _ ⟨(blk_cell BK231.out 0).trans rfl, (blk_cell BK231.out 1).trans rfl, (blk_cell BK231.out 2).trans rfl, (blk_cell BK231.out 3).trans rfl⟩ (fun hHeld => ?_)
             clear hK K
             refine norm_ (a' := ?_) ?_ ?_
             rotate_left
             ·show Act.put _ (some 51) _ = _
              simp only [Act.put, List.setIfInBounds_toArray, List.set_cons_zero, List.set_cons_succ, i64_w, i32_w]
              rfl
             exact norm_ (by simp only [putAll, Act.put, List.setIfInBounds_toArray, List.set_cons_zero, List.set_cons_succ]) (hCont (v236, v239, v242) _ ⟨hHeld, (by (with_reducible repeat (first | apply qa | apply qb | apply qc)); exact Kd.R_mono HO240.out (fun _ hk => ⟨hk.2.1, ⟨hk.1, hk.2.2⟩⟩)), (by (with_reducible repeat (first | apply qa | apply qb | apply qc)); exact Kd.R_mono HO243.out (fun _ hk => ⟨hk.2, ⟨hk.1.1, hk.1.2⟩⟩)), (by (with_reducible repeat (first | apply qa | apply qb | apply qc)); exact Kd.R_mono HO_7.out (fun _ hk => ⟨hk.2, ⟨hk.1.1, hk.1.2⟩⟩)), (by (with_reducible repeat (first | refine blk_drewN ?_ _ | refine blk_drew ?_ | refine blk_alloc ?_ _)); exact BK231.out), (by repeat (first | (with_reducible first | exact HI0.out | apply qh | apply qi | apply qj | apply qk | apply ql | refine IsS93.far ?_ NB0_231.out _))), (by repeat (first | (with_reducible first | exact HK.out | apply qd | apply qe | apply qf | apply qg | refine keep_far ?_ GW231.out _))), (by repeat (first | (with_reducible first | exact HB.out | apply qm | apply qn | apply qo | refine below_set ?_ (IsS93.ge HI0.out) | refine below_set ?_ GE231.out)))⟩)
           rintro ⟨v236, v239, v242⟩ w61 ⟨hS_, h0_, h1_, h2_, h3_, h4_, h5_, h6_⟩
           have n0_ : Aside0 (Kd.R k54 54 w61 w.heap.size (fun k_ => some k_ ≠ (v242 : Value).ownBlock ∧ some k_ ≠ (.slice Ao54 x7_1.length co54 : Value).ownBlock ∧ k_ ≠ gb231) v239 y238) := ⟨h0_⟩
           have n1_ : Aside0 (Kd.R k54 54 w61 w.heap.size (fun k_ => some k_ ≠ (v239 : Value).ownBlock ∧ some k_ ≠ (.slice Ao54 x7_1.length co54 : Value).ownBlock ∧ k_ ≠ gb231) v242 y241) := ⟨h1_⟩
           have n2_ : Aside0 (Kd.R k54 54 w61 w.heap.size (fun k_ => some k_ ≠ (v239 : Value).ownBlock ∧ some k_ ≠ (v242 : Value).ownBlock ∧ k_ ≠ gb231) (.slice Ao54 x7_1.length co54) x7_1) := ⟨h2_⟩
           have n3_ : Aside0 (w61.heap[gb231]? = some (.cells #[.int .i64 t222, .int .i64 t225, .int .i64 (wrap64 (1 + t228)), .int .i64 x232003_13] 54 (0, 0))) := ⟨h3_⟩
           have n4_ : Aside0 (IsS93 w0 w61 g s0_0 x1001_13 x1002_13) := ⟨h4_⟩
           have n5_ : Aside0 (KeepBut w w61 g none) := ⟨h5_⟩
           have n6_ : Aside0 (Below w0.heap.size w0 w61) := ⟨h6_⟩
           clear HO_7
           clear BK231
           clear HI0
           clear HK
           clear HB
           clear h0_ h1_ h2_ h3_ h4_ h5_ h6_
           have HO240 := n0_
           have HO243 := n1_
           have HO_7 := n2_
           have BK231 := n3_
           have HI0 := n4_
           have HK := n5_
           have HB := n6_
           clear n0_ n1_ n2_ n3_ n4_ n5_ n6_
           have hHeld : w61.cell? ⟨gb231, 0, none⟩ = some (.int .i64 t222) ∧ w61.cell? ⟨gb231, 1, none⟩ = some (.int .i64 t225) ∧ w61.cell? ⟨gb231, 2, none⟩ = some (.int .i64 (wrap64 (1 + t228))) ∧ w61.cell? ⟨gb231, 3, none⟩ = some (.int .i64 x232003_13) := hS_
           obtain ⟨Ao63, co63, eo63⟩ := Kd.R_slice HO243.out
           (first | subst eo63 | (injection eo63 with f1_ f2_ f3_; have f4_ := f1_.symm; have f5_ := f3_.symm; clear f1_ f2_ f3_; subst f4_; subst f5_))
           refine norm_ (a' := ?_) ?_ ?_
           rotate_left
           ·simp only [putAll, Act.put, List.setIfInBounds_toArray, List.set_cons_zero, List.set_cons_succ]
            rfl
           refine one_ (i := 7) (N := some 54) #[true,true,true,true,true,true,true,true,false,false,false,false,false,false] rfl rfl (one_of HT_.out (by kernel_rfl)) (by decide) (fun K hK => ?_)
           refine Kd.R_append_rows_step k54 w.heap.size (by rfl) (.tmp 51) (.tmp 53) 36 54 (.agg #[(.int .i64 0), (.int .i64 0), (.int .i64 0), (.int .i64 0)]) 32 rfl Try.underlying36 info54 rfl (by decide) (by omega) v239 y238 y241 _ _ _ (fun k_ => some k_ ≠ (.slice Ao54 x7_1.length co54 : Value).ownBlock ∧ some k_ ≠ (.slice Ao63 y241.length co63 : Value).ownBlock ∧ k_ ≠ gb231) (fun _ => False) rfl rfl ?aO ?aR (fun _ _ h => h) (fun _ h => h.elim) ?aF (Below.refl _ _) ?aS ?aL ?_
           (case aR => repeat (first | exact (Kd.R_reads' HO243.out).2.2 | (with_reducible refine Kd.C_alloc ?_ _) | (with_reducible refine Kd.C_drewN ?_ _) | (with_reducible refine Kd.C_drew ?_)))
           (case aF => exact (fun k_ hk => ⟨Kd.fresh' (Kd.R_lt (by (with_reducible repeat (first | apply qa | apply qb | apply qc)); exact HO_7.out)) k_ hk, Kd.fresh' (Kd.R_lt (by (with_reducible repeat (first | apply qa | apply qb | apply qc)); exact HO243.out)) k_ hk, Kd.freshB (g := gb231) (o := .cells #[.int .i64 t222, .int .i64 t225, .int .i64 (wrap64 (1 + t228)), .int .i64 x232003_13] 54 (0, 0)) (by (with_reducible repeat (first | refine blk_drewN ?_ _ | refine blk_drew ?_ | refine blk_alloc ?_ _)); exact BK231.out) k_ hk⟩))
           (case aO => exact (by (with_reducible repeat (first | apply qa | apply qb | apply qc)); exact Kd.R_mono HO240.out (fun _ hk => ⟨hk.2.1, ⟨hk.1, hk.2.2⟩⟩)))
           (case aS => exact (keep_size (w := w) (g := g) (row := none) (by repeat (first | (with_reducible first | exact HK.out | apply qd | apply qe | apply qf | apply qg | refine keep_far ?_ GW231.out _)))))
           (case aL => have := LMc29.out; omega)
           intro v245 w62 ho hb hg hat
           rw [← Ny244.out] at ho
           have n0_ := Aside0.mk (Kd.R_after (ok := (fun k_ => some k_ ≠ (.slice Ao63 y241.length co63 : Value).ownBlock ∧ k_ ≠ gb231)) (by (with_reducible repeat (first | apply qa | apply qb | apply qc)); exact Kd.R_mono HO_7.out (fun _ hk => ⟨⟨hk.2.1, hk.2.2⟩, hk.1⟩)) hg hat)
           have n1_ := Aside0.mk (blk_grown (g := gb231) (o := .cells #[.int .i64 t222, .int .i64 t225, .int .i64 (wrap64 (1 + t228)), .int .i64 x232003_13] 54 (0, 0)) (by (with_reducible repeat (first | refine blk_drewN ?_ _ | refine blk_drew ?_ | refine blk_alloc ?_ _)); exact BK231.out) hg (Kd.R_away HO240.out (fun _ hk => hk.2.2)))
           have n2_ := Aside0.mk (IsS93.grown (by repeat (first | (with_reducible first | exact HI0.out | apply qh | apply qi | apply qj | apply qk | apply ql | refine IsS93.far ?_ NB0_231.out _))) hg (IsS93.own_ne HI0.out HO240.out (by decide)))
           have n3_ := Aside0.mk (Kd.R_after (ok := (fun k_ => some k_ ≠ (.slice Ao54 x7_1.length co54 : Value).ownBlock ∧ k_ ≠ gb231)) (by (with_reducible repeat (first | apply qa | apply qb | apply qc)); exact Kd.R_mono HO243.out (fun _ hk => ⟨⟨hk.2.1, hk.2.2⟩, hk.1⟩)) hg hat)
           have n4_ := Aside0.mk (below_weaken (by repeat (first | (with_reducible first | exact HB.out | apply qm | apply qn | apply qo | refine below_set ?_ (IsS93.ge HI0.out) | refine below_set ?_ GE231.out))) HL.out hb)
           have n5_ := Aside0.mk (KeepBut.trans (by repeat (first | (with_reducible first | exact HK.out | apply qd | apply qe | apply qf | apply qg | refine keep_far ?_ GW231.out _))) (KeepBut.of_grown hg g) (Kd.R_base2 HO240.out))
           have n6_ := Aside0.mk (ho)
           clear HO_7
           clear BK231
           clear HI0
           clear HO243
           clear HB
           clear HK
           clear HO240
           have HO_7 := n0_
           have BK231 := n1_
           have HI0 := n2_
           have HO243 := n3_
           have HB := n4_
           have HK := n5_
           have HO246 := n6_
           clear n0_ n1_ n2_ n3_ n4_ n5_ n6_
           clear ho hb hg hat
           obtain ⟨Ao64, co64, eo64⟩ := Kd.R_slice HO246.out
           (first | subst eo64 | (injection eo64 with f1_ f2_ f3_; have f4_ := f1_.symm; have f5_ := f3_.symm; clear f1_ f2_ f3_; subst f4_; subst f5_))
           refine hK.out _ _ ⟨(blk_cell BK231.out 0).trans rfl, (blk_cell BK231.out 1).trans rfl, (blk_cell BK231.out 2).trans rfl, (blk_cell BK231.out 3).trans rfl⟩ (fun hHeld => ?_)
           clear hK K
           refine norm_ (a' := ?_) ?_ ?_
           rotate_left
           ·show Act.put _ (some 54) _ = _
            simp only [Act.put, List.setIfInBounds_toArray, List.set_cons_zero, List.set_cons_succ, i64_w, i32_w]
            rfl
           refine one_ (i := 8) (N := some 55) #[true,true,true,true,true,true,true,true,true,false,false,false,false,false] rfl rfl (one_of HT_.out (by kernel_rfl)) (by decide) (fun K hK => ?_)
           refine goes_ Try.func75 (by kernel_rfl) rfl #[.int .i64 (wrap64 (1 + t210)), .int .i64 t213, .slice Ao64 y244.length co64] (by rfl) rfl rfl (by (try simp only [List.map_toArray, List.map_cons, List.map_nil]); first | done | rfl) ?_
           with_reducible refine (spec_AreFaults.calls kj13 (wrap64 (1 + t210)) t213 _ _ y244 false _ ?side1 ?side2 A30.out).mono ?_
           (case side1 => repeat (first | exact (Kd.R_reads' HO246.out).2.2 | (with_reducible refine Kd.C_alloc ?_ _) | (with_reducible refine Kd.C_drewN ?_ _) | (with_reducible refine Kd.C_drew ?_)))
           (case side2 => exact (Kd.R_reads' HO246.out).2.1)
           rintro e w65 ⟨rfl, hb⟩
           refine ⟨_, rfl, ?_⟩
           have n0_ := Aside0.mk (Kd.R_below (by (with_reducible repeat (first | apply qa | apply qb | apply qc)); exact HO_7.out) hb)
           have n1_ := Aside0.mk (Kd.R_below (by (with_reducible repeat (first | apply qa | apply qb | apply qc)); exact HO243.out) hb)
           have n2_ := Aside0.mk (Kd.R_below (by (with_reducible repeat (first | apply qa | apply qb | apply qc)); exact HO246.out) hb)
           have n3_ := Aside0.mk (blk_below (g := gb231) (o := .cells #[.int .i64 t222, .int .i64 t225, .int .i64 (wrap64 (1 + t228)), .int .i64 x232003_13] 54 (0, 0)) (by (with_reducible repeat (first | refine blk_drewN ?_ _ | refine blk_drew ?_ | refine blk_alloc ?_ _)); exact BK231.out) hb)
           have n4_ := Aside0.mk (IsS93.below (by repeat (first | (with_reducible first | exact HI0.out | apply qh | apply qi | apply qj | apply qk | apply ql | refine IsS93.far ?_ NB0_231.out _))) hb)
           have n5_ := Aside0.mk (KeepBut.trans (by repeat (first | (with_reducible first | exact HK.out | apply qd | apply qe | apply qf | apply qg | refine keep_far ?_ GW231.out _))) (KeepBut.of_below hb g none) (.inl rfl))
           have n6_ := Aside0.mk (below_step (by repeat (first | (with_reducible first | exact HB.out | apply qm | apply qn | apply qo | refine below_set ?_ (IsS93.ge HI0.out) | refine below_set ?_ GE231.out))) hb)
           clear HO_7
           clear HO243
           clear HO246
           clear BK231
           clear HI0
           clear HK
           clear HB
           have HO_7 := n0_
           have HO243 := n1_
           have HO246 := n2_
           have BK231 := n3_
           have HI0 := n4_
           have HK := n5_
           have HB := n6_
           clear n0_ n1_ n2_ n3_ n4_ n5_ n6_
           (try clear hb)
           (try clear hb2)
           (try clear hk)
           (try clear hi)
           refine hK.out _ _ ⟨(blk_cell BK231.out 0).trans rfl, (blk_cell BK231.out 1).trans rfl, (blk_cell BK231.out 2).trans rfl, (blk_cell BK231.out 3).trans rfl⟩ (fun hHeld => ?_)
           clear hK K
           refine norm_ (a' := ?_) ?_ ?_
           rotate_left
           ·show Act.put _ (some 55) _ = _
            simp only [Act.put, List.setIfInBounds_toArray, List.set_cons_zero, List.set_cons_succ, i64_w, i32_w]
            rfl
           refine pure_ (i := 9) (N := some 56) (v := ?_) (a' := ?_) #[true,true,true,true,true,true,true,true,true,true,false,false,false,false] rfl rfl (any_of HT_.out (by kernel_rfl)) (fun _ _ _ h => h) (Or.inl ⟨by rfl, ?_⟩) ?_ ?_
           rotate_left
           ·intro w'
            go_simp
            with_reducible rfl
           rotate_left
           ·simp only [Act.put, List.setIfInBounds_toArray, List.set_cons_zero, List.set_cons_succ, i64_w, i32_w]
            rfl
           refine pure_ (i := 10) (N := some 57) (v := ?_) (a' := ?_) #[true,true,true,true,true,true,true,true,true,true,true,false,false,false] rfl rfl (any_of HT_.out (by kernel_rfl)) (fun _ _ _ h => h) (Or.inl ⟨by rfl, ?_⟩) ?_ ?_
           rotate_left
           ·intro w'
            go_simp
            with_reducible rfl
           rotate_left
           ·simp only [Act.put, List.setIfInBounds_toArray, List.set_cons_zero, List.set_cons_succ, i64_w, i32_w]
            rfl
           refine one_ (i := 11) (N := some 58) #[true,true,true,true,true,true,true,true,true,true,true,true,false,false] rfl rfl (one_of HT_.out (by kernel_rfl)) (by decide) (fun K hK => ?_)
           refine goes_ Try.func61 (by kernel_rfl) rfl #[.pointer (some ⟨g, 0, none⟩), .int .i64 30] (by rfl) rfl rfl (by (try simp only [List.map_toArray, List.map_cons, List.map_nil]); first | done | rfl) ?_
           with_reducible refine (spec_l01Next.calls g s0_0 x1001_13 x1002_13 30 t254 t255 t256 w0 _ ?side1 ?side2 A51.out).mono ?_
           (case side1 => repeat (first | (with_reducible first | exact HI0.out | apply qh | apply qi | apply qj | apply qk | apply ql | refine IsS93.far ?_ NB0_231.out _)))
           (case side2 => repeat (first | (with_reducible first | exact HB.out | apply qm | apply qn | apply qo | refine below_set ?_ (IsS93.ge HI0.out) | refine below_set ?_ GE231.out)))
           rintro e w66 ⟨rfl, hi, hb, hk⟩
           refine ⟨_, rfl, ?_⟩
           have n0_ := Aside0.mk (Kd.R_mono (Kd.R_keep (IsS93.apart (show IsS93 w0 _ g s0_0 x1001_13 x1002_13 from by repeat (first | (with_reducible first | exact HI0.out | apply qh | apply qi | apply qj | apply qk | apply ql | refine IsS93.far ?_ NB0_231.out _))) (by (with_reducible repeat (first | apply qa | apply qb | apply qc)); exact HO_7.out) (by decide)) hk (fun _ h => h.2)) (fun _ h => h.1))
           have n1_ := Aside0.mk (KeepBut.blk hk (g' := gb231) (o := .cells #[.int .i64 t222, .int .i64 t225, .int .i64 (wrap64 (1 + t228)), .int .i64 x232003_13] 54 (0, 0)) (by (with_reducible repeat (first | refine blk_drewN ?_ _ | refine blk_drew ?_ | refine blk_alloc ?_ _)); exact BK231.out) NB231_0.out (by simp))
           have n2_ := Aside0.mk (Kd.R_mono (Kd.R_keep (IsS93.apart (show IsS93 w0 _ g s0_0 x1001_13 x1002_13 from by repeat (first | (with_reducible first | exact HI0.out | apply qh | apply qi | apply qj | apply qk | apply ql | refine IsS93.far ?_ NB0_231.out _))) (by (with_reducible repeat (first | apply qa | apply qb | apply qc)); exact HO243.out) (by decide)) hk (fun _ h => h.2)) (fun _ h => h.1))
           have n3_ := Aside0.mk (Kd.R_mono (Kd.R_keep (IsS93.apart (show IsS93 w0 _ g s0_0 x1001_13 x1002_13 from by repeat (first | (with_reducible first | exact HI0.out | apply qh | apply qi | apply qj | apply qk | apply ql | refine IsS93.far ?_ NB0_231.out _))) (by (with_reducible repeat (first | apply qa | apply qb | apply qc)); exact HO246.out) (by decide)) hk (fun _ h => h.2)) (fun _ h => h.1))
           have n4_ := Aside0.mk (KeepBut.trans (by repeat (first | (with_reducible first | exact HK.out | apply qd | apply qe | apply qf | apply qg | refine keep_far ?_ GW231.out _))) hk (.inl rfl))
           have n5_ := Aside0.mk (hb)
           have n6_ := Aside0.mk (hi)
           clear HO_7
           clear BK231
           clear HO243
           clear HO246
           clear HK
           clear HB
           clear HI0
           have HO_7 := n0_
           have BK231 := n1_
           have HO243 := n2_
           have HO246 := n3_
           have HK := n4_
           have HB := n5_
           have HI0 := n6_
           clear n0_ n1_ n2_ n3_ n4_ n5_ n6_
           (try clear hb)
           (try clear hb2)
           (try clear hk)
           (try clear hi)
           refine hK.out _ _ ⟨(blk_cell BK231.out 0).trans rfl, (blk_cell BK231.out 1).trans rfl, (blk_cell BK231.out 2).trans rfl, (blk_cell BK231.out 3).trans rfl⟩ (fun hHeld => ?_)
           clear hK K
           refine norm_ (a' := ?_) ?_ ?_
           rotate_left
           ·show Act.put _ (some 58) _ = _
            simp only [Act.put, List.setIfInBounds_toArray, List.set_cons_zero, List.set_cons_succ, i64_w, i32_w]
            rfl
           refine pure_ (i := 12) (N := some 59) (v := ?_) (a' := ?_) #[true,true,true,true,true,true,true,true,true,true,true,true,true,false] rfl rfl (any_of HT_.out (by kernel_rfl)) (fun _ _ _ h => h) (Or.inl ⟨by rfl, ?_⟩) ?_ ?_
           rotate_left
           ·intro w'
            go_simp
            with_reducible rfl
           rotate_left
           ·simp only [Act.put, List.setIfInBounds_toArray, List.set_cons_zero, List.set_cons_succ, i64_w, i32_w]
            rfl
           refine pure_ (i := 13) (N := some 60) (v := ?_) (a' := ?_) #[true,true,true,true,true,true,true,true,true,true,true,true,true,true] rfl rfl (any_of HT_.out (by kernel_rfl)) (fun _ _ _ h => h) (Or.inl ⟨by rfl, ?_⟩) ?_ ?_
           rotate_left
           ·intro w'
            go_simp
            with_reducible rfl
           rotate_left
           ·simp only [Act.put, List.setIfInBounds_toArray, List.set_cons_zero, List.set_cons_succ, i64_w, i32_w]
            rfl
           refine done_ (done_of HT_.out (by kernel_rfl)) ?_
           have hnb67 := NB231_0.out
           have hnc67 := NB0_231.out
           have hcz68_0 : w66.cell? ⟨gb231, 0, none⟩ = some (.int .i64 t222) := (blk_cell BK231.out 0).trans rfl
           have hcz68_1 : w66.cell? ⟨gb231, 1, none⟩ = some (.int .i64 t225) := (blk_cell BK231.out 1).trans rfl
           have hcz68_2 : w66.cell? ⟨gb231, 2, none⟩ = some (.int .i64 (wrap64 (1 + t228))) := (blk_cell BK231.out 2).trans rfl
           have hcz68_3 : w66.cell? ⟨gb231, 3, none⟩ = some (.int .i64 x232003_13) := (blk_cell BK231.out 3).trans rfl
           have hfz68_0 := blk_frozen BK231.out 0
           have hfz68_1 := blk_frozen BK231.out 1
           have hfz68_2 := blk_frozen BK231.out 2
           have hfz68_3 := blk_frozen BK231.out 3
           try go_wp2_with (first | ((with_reducible refine gate_dst (N := 63) rfl ?_); refine Kd.R_lit k54 _ 54 ?hg (N := 63) ?hd (xs := ([(⟨t222, t225, (wrap64 (1 + t228)), x232003_13⟩ : S54)] : List (S54))) (inner := [.int .i64 t222, .int .i64 t225, .int .i64 (wrap64 (1 + t228)), .int .i64 x232003_13]) (ok := fun _ => True) (okp := fun _ => True) ?hr ?hp (fun _ hk => hk) trivial (Below.refl _ _) (Nat.le_refl _) (by simp) ?_; (case hd => rfl); (case hg => rfl); (case hr => first | (go_simp; done) | (go_simp; rfl)); (case hp => exact (Reps.c4 (show Kd.M k54 _ _ _ (⟨t222, t225, (wrap64 (1 + t228)), x232003_13⟩ : S54) [.int .i64 t222, .int .i64 t225, .int .i64 (wrap64 (1 + t228)), .int .i64 x232003_13] from (k54_mkM _ _ _ (⟨t222, t225, (wrap64 (1 + t228)), x232003_13⟩ : S54) )) (Reps.none _ _))); intro v258 w69 ho70 hb hg_ hnew_; clear hg_ hnew_; (first | rw [← Ny257.out] at ho70 | (simp only [Int.reduceToNat] at ho70; rw [← Ny257.out] at ho70)); have n0_ := Aside0.mk (Kd.R_elder' (by (with_reducible repeat (first | apply qa | apply qb | apply qc)); exact HO_7.out) (Kd.R_base ho70) hb); have n1_ := Aside0.mk (Kd.R_elder' (by (with_reducible repeat (first | apply qa | apply qb | apply qc)); exact HO243.out) (Kd.R_base ho70) hb); have n2_ := Aside0.mk (Kd.R_elder' (by (with_reducible repeat (first | apply qa | apply qb | apply qc)); exact HO246.out) (Kd.R_base ho70) hb); have n3_ := Aside0.mk (Kd.R_lower (Kd.R_newB (Kd.R_new' (Kd.R_new' (Kd.R_new' ho70 (Kd.R_lt (by (with_reducible repeat (first | apply qa | apply qb | apply qc)); exact HO_7.out))) (Kd.R_lt (by (with_reducible repeat (first | apply qa | apply qb | apply qc)); exact HO243.out))) (Kd.R_lt (by (with_reducible repeat (first | apply qa | apply qb | apply qc)); exact HO246.out))) (g := gb231) (o := .cells #[.int .i64 t222, .int .i64 t225, .int .i64 (wrap64 (1 + t228)), .int .i64 x232003_13] 54 (0, 0)) (by (with_reducible repeat (first | refine blk_drewN ?_ _ | refine blk_drew ?_ | refine blk_alloc ?_ _)); exact BK231.out)) (keep_size (w := w) (g := g) (row := none) (by repeat (first | (with_reducible first | exact HK.out | apply qd | apply qe | apply qf | apply qg | refine keep_far ?_ GW231.out _))))); have n4_ := Aside0.mk (blk_below (g := gb231) (o := .cells #[.int .i64 t222, .int .i64 t225, .int .i64 (wrap64 (1 + t228)), .int .i64 x232003_13] 54 (0, 0)) (by (with_reducible repeat (first | refine blk_drewN ?_ _ | refine blk_drew ?_ | refine blk_alloc ?_ _)); exact BK231.out) hb); have n5_ := Aside0.mk (IsS93.below (by repeat (first | (with_reducible first | exact HI0.out | apply qh | apply qi | apply qj | apply qk | apply ql | refine IsS93.far ?_ NB0_231.out _))) hb); have n6_ := Aside0.mk (KeepBut.trans (by repeat (first | (with_reducible first | exact HK.out | apply qd | apply qe | apply qf | apply qg | refine keep_far ?_ GW231.out _))) (KeepBut.of_below hb g none) (.inl rfl)); have n7_ := Aside0.mk (below_step (by repeat (first | (with_reducible first | exact HB.out | apply qm | apply qn | apply qo | refine below_set ?_ (IsS93.ge HI0.out) | refine below_set ?_ GE231.out))) hb); clear HO_7; clear HO243; clear HO246; clear BK231; clear HI0; clear HK; clear HB; have HO_7 := n0_; have HO243 := n1_; have HO246 := n2_; have HO259 := n3_; have BK231 := n4_; have HI0 := n5_; have HK := n6_; have HB := n7_; clear n0_ n1_ n2_ n3_ n4_ n5_ n6_ n7_; clear hb ho70; obtain ⟨Ao72, co72, eo72⟩ := Kd.R_slice HO259.out; subst eo72) | ((with_reducible refine gate_builtin (b := .append) (xs := #[.tmp 61, .tmp 63]) rfl ?_); at_builtin; refine Kd.R_append_rows k54 w.heap.size rfl (.tmp 61) (.tmp 63) 36 54 (.agg #[(.int .i64 0), (.int .i64 0), (.int .i64 0), (.int .i64 0)]) 32 rfl Try.underlying36 info54 rfl (by decide) (by omega) (.slice Ao54 x7_1.length co54) x7_1 y257 _ _ _ (fun k_ => some k_ ≠ (.slice Ao63 y241.length co63 : Value).ownBlock ∧ some k_ ≠ (.slice Ao64 y244.length co64 : Value).ownBlock ∧ some k_ ≠ (.slice Ao72 y257.length co72 : Value).ownBlock ∧ k_ ≠ gb231) (fun _ => False) rfl rfl ?aO ?aR (fun _ _ h => h) (fun _ h => h.elim) ?aF (Below.refl _ _) ?aS ?aL ?_; (case aR => repeat (first | exact (Kd.R_reads' HO259.out).2.2 | (with_reducible refine Kd.C_alloc ?_ _) | (with_reducible refine Kd.C_drewN ?_ _) | (with_reducible refine Kd.C_drew ?_))); (case aF => exact (fun k_ hk => ⟨Kd.fresh' (Kd.R_lt (by (with_reducible repeat (first | apply qa | apply qb | apply qc)); exact HO243.out)) k_ hk, Kd.fresh' (Kd.R_lt (by (with_reducible repeat (first | apply qa | apply qb | apply qc)); exact HO246.out)) k_ hk, Kd.fresh' (Kd.R_lt (by (with_reducible repeat (first | apply qa | apply qb | apply qc)); exact HO259.out)) k_ hk, Kd.freshB (g := gb231) (o := .cells #[.int .i64 t222, .int .i64 t225, .int .i64 (wrap64 (1 + t228)), .int .i64 x232003_13] 54 (0, 0)) (by (with_reducible repeat (first | refine blk_drewN ?_ _ | refine blk_drew ?_ | refine blk_alloc ?_ _)); exact BK231.out) k_ hk⟩)); (case aO => exact (by (with_reducible repeat (first | apply qa | apply qb | apply qc)); exact Kd.R_mono HO_7.out (fun _ hk => ⟨hk.1.1.1, ⟨hk.1.2, ⟨hk.2, hk.1.1.2⟩⟩⟩))); (case aS => exact (keep_size (w := w) (g := g) (row := none) (by repeat (first | (with_reducible first | exact HK.out | apply qd | apply qe | apply qf | apply qg | refine keep_far ?_ GW231.out _))))); (case aL => have := LMc53.out; omega); intro v261 w71 ho hb hg hat; rw [← Ny260.out] at ho; have n0_ := Aside0.mk (blk_grown (g := gb231) (o := .cells #[.int .i64 t222, .int .i64 t225, .int .i64 (wrap64 (1 + t228)), .int .i64 x232003_13] 54 (0, 0)) (by (with_reducible repeat (first | refine blk_drewN ?_ _ | refine blk_drew ?_ | refine blk_alloc ?_ _)); exact BK231.out) hg (Kd.R_away HO_7.out (fun _ hk => hk.1.1.2))); have n1_ := Aside0.mk (IsS93.grown (by repeat (first | (with_reducible first | exact HI0.out | apply qh | apply qi | apply qj | apply qk | apply ql | refine IsS93.far ?_ NB0_231.out _))) hg (IsS93.own_ne HI0.out HO_7.out (by decide))); have n2_ := Aside0.mk (Kd.R_after (ok := (fun k_ => some k_ ≠ (.slice Ao64 y244.length co64 : Value).ownBlock ∧ some k_ ≠ (.slice Ao72 y257.length co72 : Value).ownBlock ∧ k_ ≠ gb231)) (by (with_reducible repeat (first | apply qa | apply qb | apply qc)); exact Kd.R_mono HO243.out (fun _ hk => ⟨⟨hk.1.2, ⟨hk.2, hk.1.1.2⟩⟩, hk.1.1.1⟩)) hg hat); have n3_ := Aside0.mk (Kd.R_after (ok := (fun k_ => some k_ ≠ (.slice Ao63 y241.length co63 : Value).ownBlock ∧ some k_ ≠ (.slice Ao72 y257.length co72 : Value).ownBlock ∧ k_ ≠ gb231)) (by (with_reducible repeat (first | apply qa | apply qb | apply qc)); exact Kd.R_mono HO246.out (fun _ hk => ⟨⟨hk.1.2.1, ⟨hk.2, hk.1.2.2⟩⟩, hk.1.1⟩)) hg hat); have n4_ := Aside0.mk (Kd.R_after (ok := (fun k_ => some k_ ≠ (.slice Ao63 y241.length co63 : Value).ownBlock ∧ some k_ ≠ (.slice Ao64 y244.length co64 : Value).ownBlock ∧ k_ ≠ gb231)) (by (with_reducible repeat (first | apply qa | apply qb | apply qc)); exact Kd.R_mono HO259.out (fun _ hk => ⟨⟨hk.1.1.2, ⟨hk.1.2, hk.2⟩⟩, hk.1.1.1.2⟩)) hg hat); have n5_ := Aside0.mk (below_weaken (by repeat (first | (with_reducible first | exact HB.out | apply qm | apply qn | apply qo | refine below_set ?_ (IsS93.ge HI0.out) | refine below_set ?_ GE231.out))) HL.out hb); have n6_ := Aside0.mk (KeepBut.trans (by repeat (first | (with_reducible first | exact HK.out | apply qd | apply qe | apply qf | apply qg | refine keep_far ?_ GW231.out _))) (KeepBut.of_grown hg g) (Kd.R_base2 HO_7.out)); have n7_ := Aside0.mk (ho); clear BK231; clear HI0; clear HO243; clear HO246; clear HO259; clear HB; clear HK; clear HO_7; have BK231 := n0_; have HI0 := n1_; have HO243 := n2_; have HO246 := n3_; have HO259 := n4_; have HB := n5_; have HK := n6_; have HO262 := n7_; clear n0_ n1_ n2_ n3_ n4_ n5_ n6_ n7_; clear ho hb hg hat))
           go_roundg kj13
           case measure => have := HK1.out; have := HJ13.out; omega
           case rel => exact ⟨(y260), (wrap64 (x8_1 - 1)), (t255), (t256), (by first | rfl | (simp; done) | (simp [*]; done)), H', ⟨by have := HK1.out; have := HJ13.out; omega⟩, ⟨by (with_reducible repeat (first | apply qa | apply qb | apply qc)); exact Kd.R_mono HO262.out (fun _ hk => trivial)⟩, ⟨by repeat (first | (with_reducible first | exact HI0.out | apply qh | apply qi | apply qj | apply qk | apply ql | refine IsS93.far ?_ NB0_231.out _))⟩, ⟨by repeat (first | (with_reducible first | exact HK.out | apply qd | apply qe | apply qf | apply qg | refine keep_far ?_ GW231.out _))⟩, ⟨by repeat (first | (with_reducible first | exact HB.out | apply qm | apply qn | apply qo | refine below_set ?_ (IsS93.ge HI0.out) | refine below_set ?_ GE231.out))⟩⟩
          ·rw [if_neg c53] at H
           exact absurd H (by simp)
         ·rw [if_neg c52] at H
          have c52b0 : (t254 == 0) = false := beq_eq_false_iff_ne.mpr c52
          have c52b1 : (t254 != 0) = true := bne_iff_ne.mpr c52
          have H' := Aside0.mk H
          clear H
          obtain ⟨Ao73, co73, eo73⟩ := Kd.R_slice HO_7.out
          subst eo73
          try go_wp2
          have n0_ := Aside0.mk (Kd.R_drew HO_7.out)
          have n1_ := Aside0.mk (blk_drew BK231.out)
          have n2_ := Aside0.mk (IsS93.drew HI0.out)
          have n3_ := Aside0.mk (keep_drew HK.out)
          have n4_ := Aside0.mk (below_drew1 HB.out)
          clear HO_7
          clear BK231
          clear HI0
          clear HK
          clear HB
          have HO_7 := n0_
          have BK231 := n1_
          have HI0 := n2_
          have HK := n3_
          have HB := n4_
          clear n0_ n1_ n2_ n3_ n4_
          refine start_ (n := 14) (S := fun w' => w'.cell? ⟨gb231, 0, none⟩ = some (.int .i64 t222) ∧ w'.cell? ⟨gb231, 1, none⟩ = some (.int .i64 t225) ∧ w'.cell? ⟨gb231, 2, none⟩ = some (.int .i64 (wrap64 (1 + t228))) ∧ w'.cell? ⟨gb231, 3, none⟩ = some (.int .i64 x232003_13)) (ds := []) #[false,false,false,false,false,false,false,false,false,false,false,false,false,false] (by kernel_rfl) rfl rfl ⟨(blk_cell BK231.out 0).trans rfl, (blk_cell BK231.out 1).trans rfl, (blk_cell BK231.out 2).trans rfl, (blk_cell BK231.out 3).trans rfl⟩ (fun hHeld => ?_); refine with_tabW spec_l14Draw.tab9 spec_l14Draw.bits9 (fun HT_ HW_ => ?_)
          generalize wc.drew = w74 at HO_7 BK231 HI0 HK HB hHeld ⊢
          refine pure_ (i := 0) (N := some 47) (v := ?_) (a' := ?_) #[true,false,false,false,false,false,false,false,false,false,false,false,false,false] rfl rfl (any_of HT_.out (by kernel_rfl)) (fun _ _ _ h => h) (Or.inl ⟨by rfl, ?_⟩) ?_ ?_
          rotate_left
          ·intro w'
           go_simp
           with_reducible rfl
          rotate_left
          ·simp only [Act.put, List.setIfInBounds_toArray, List.set_cons_zero, List.set_cons_succ, i64_w, i32_w]
           rfl
          refine pure_ (i := 1) (N := some 48) (v := ?_) (a' := ?_) #[true,true,false,false,false,false,false,false,false,false,false,false,false,false] rfl rfl (any_of HT_.out (by kernel_rfl)) (fun _ _ _ h => h) (Or.inl ⟨by rfl, ?_⟩) ?_ ?_
          rotate_left
          ·intro w'
           go_simp
           with_reducible rfl
          rotate_left
          ·simp only [Act.put, List.setIfInBounds_toArray, List.set_cons_zero, List.set_cons_succ, i64_w, i32_w]
           rfl
          refine pure_ (i := 3) (N := some 50) (v := ?_) (a' := ?_) #[true,true,false,true,false,false,false,false,false,false,false,false,false,false] rfl rfl (any_of HT_.out (by kernel_rfl)) (fun _ _ _ h => h) (Or.inl ⟨by rfl, ?_⟩) ?_ ?_
          rotate_left
          ·intro w'
           go_simp
           with_reducible rfl
          rotate_left
          ·simp only [Act.put, List.setIfInBounds_toArray, List.set_cons_zero, List.set_cons_succ, i64_w, i32_w]
           rfl
          refine take_ (i := 5) (N := some 52) (v := ?_) (a' := ?_) #[true,true,false,true,false,true,false,false,false,false,false,false,false,false] rfl rfl (take_ofW HT_.out HW_.out (by kernel_rfl)) (fun _ _ _ h => h) (Or.inl ⟨by rfl, ?_⟩) hHeld ?_ ?_
          rotate_left
          ·rintro w' ⟨s0, s1, s2, s3⟩
           go_simp
           with_reducible rfl
          rotate_left
          ·simp only [Act.put, List.setIfInBounds_toArray, List.set_cons_zero, List.set_cons_succ, i64_w, i32_w]
           rfl
          refine join_ (σ := Value × Value × Value) 7 #[true,true,true,true,true,true,true,false,false,false,false,false,false,false] (fun s_ => [(49, s_.1), (51, s_.2.1), (53, s_.2.2)]) (fun s_ w' => (w'.cell? ⟨gb231, 0, none⟩ = some (.int .i64 t222) ∧ w'.cell? ⟨gb231, 1, none⟩ = some (.int .i64 t225) ∧ w'.cell? ⟨gb231, 2, none⟩ = some (.int .i64 (wrap64 (1 + t228))) ∧ w'.cell? ⟨gb231, 3, none⟩ = some (.int .i64 x232003_13)) ∧ (Kd.R k54 54 w' w.heap.size (fun k_ => some k_ ≠ (s_.2.2 : Value).ownBlock ∧ some k_ ≠ (.slice Ao73 x7_1.length co73 : Value).ownBlock ∧ k_ ≠ gb231) s_.2.1 y238) ∧ (Kd.R k54 54 w' w.heap.size (fun k_ => some k_ ≠ (s_.2.1 : Value).ownBlock ∧ some k_ ≠ (.slice Ao73 x7_1.length co73 : Value).ownBlock ∧ k_ ≠ gb231) s_.2.2 y241) ∧ (Kd.R k54 54 w' w.heap.size (fun k_ => some k_ ≠ (s_.2.1 : Value).ownBlock ∧ some k_ ≠ (s_.2.2 : Value).ownBlock ∧ k_ ≠ gb231) (.slice Ao73 x7_1.length co73) x7_1) ∧ (w'.heap[gb231]? = some (.cells #[.int .i64 t222, .int .i64 t225, .int .i64 (wrap64 (1 + t228)), .int .i64 x232003_13] 54 (0, 0))) ∧ (IsS93 w0 w' g s0_0 x1001_13 x1002_13) ∧ (KeepBut w w' g none) ∧ (Below w0.heap.size w0 w')) ?_ ?_
          rotate_left
          ·intro hCont
           refine two_ (i := 2) (j := 6) (Ni := some 49) (Nj := some 53) #[true,true,true,true,false,true,false,false,false,false,false,false,false,false] #[true,true,false,true,false,true,true,false,false,false,false,false,false,false] rfl rfl rfl rfl (two_of HT_.out (by kernel_rfl)) (by decide) (by decide) (fun K hK => ?_) (fun K hK => ?_)
           ·skip
            refine Kd.R_lit_step k54 _ 54 ?hg (N := 49) ?hd (xs := ([] : List (S54))) (inner := []) (ok := fun _ => True) (okp := fun _ => True) ?hr ?hp (fun _ hk => hk) trivial (Below.refl _ _) (Nat.le_refl _) (by simp) ?_; (case hd => rfl); (case hg => rfl); (case hr => first | (go_simp; done) | (go_simp; rfl)); (case hp => exact (Reps.none _ _))
            intro v236 w75 ho76 hb hg_ hnew_
            clear hg_ hnew_
            (first | rw [← Ny235.out] at ho76 | (simp only [Int.reduceToNat] at ho76; rw [← Ny235.out] at ho76))
            have n0_ := Aside0.mk (Kd.R_elder' (by (with_reducible repeat (first | apply qa | apply qb | apply qc)); exact HO_7.out) (Kd.R_base ho76) hb)
            have n1_ := Aside0.mk (Kd.R_lower (Kd.R_newB (Kd.R_new' ho76 (Kd.R_lt (by (with_reducible repeat (first | apply qa | apply qb | apply qc)); exact HO_7.out))) (g := gb231) (o := .cells #[.int .i64 t222, .int .i64 t225, .int .i64 (wrap64 (1 + t228)), .int .i64 x232003_13] 54 (0, 0)) (by (with_reducible repeat (first | refine blk_drewN ?_ _ | refine blk_drew ?_ | refine blk_alloc ?_ _)); exact BK231.out)) (keep_size (w := w) (g := g) (row := none) (by repeat (first | (with_reducible first | exact HK.out | apply qd | apply qe | apply qf | apply qg | refine keep_far ?_ GW231.out _)))))
            have n2_ := Aside0.mk (blk_below (g := gb231) (o := .cells #[.int .i64 t222, .int .i64 t225, .int .i64 (wrap64 (1 + t228)), .int .i64 x232003_13] 54 (0, 0)) (by (with_reducible repeat (first | refine blk_drewN ?_ _ | refine blk_drew ?_ | refine blk_alloc ?_ _)); exact BK231.out) hb)
            have n3_ := Aside0.mk (IsS93.below (by repeat (first | (with_reducible first | exact HI0.out | apply qh | apply qi | apply qj | apply qk | apply ql | refine IsS93.far ?_ NB0_231.out _))) hb)
            have n4_ := Aside0.mk (KeepBut.trans (by repeat (first | (with_reducible first | exact HK.out | apply qd | apply qe | apply qf | apply qg | refine keep_far ?_ GW231.out _))) (KeepBut.of_below hb g none) (.inl rfl))
            have n5_ := Aside0.mk (below_step (by repeat (first | (with_reducible first | exact HB.out | apply qm | apply qn | apply qo | refine below_set ?_ (IsS93.ge HI0.out) | refine below_set ?_ GE231.out))) hb)
            clear HO_7
            clear BK231
            clear HI0
            clear HK
            clear HB
            have HO_7 := n0_
            have HO237 := n1_
            have BK231 := n2_
            have HI0 := n3_
            have HK := n4_
            have HB := n5_
            clear n0_ n1_ n2_ n3_ n4_ n5_
            clear hb ho76
            refine hK.out _ _ ⟨(blk_cell BK231.out 0).trans rfl, (blk_cell BK231.out 1).trans rfl, (blk_cell BK231.out 2).trans rfl, (blk_cell BK231.out 3).trans rfl⟩ (fun hHeld => ?_)
            clear hK K
            refine norm_ (a' := ?_) ?_ ?_
            rotate_left
            ·show Act.put _ (some 49) _ = _
             simp only [Act.put, List.setIfInBounds_toArray, List.set_cons_zero, List.set_cons_succ, i64_w, i32_w]
             rfl
            refine two_ (i := 4) (j := 6) (Ni := some 51) (Nj := some 53) #[true,true,true,true,true,true,false,false,false,false,false,false,false,false] #[true,true,true,true,false,true,true,false,false,false,false,false,false,false] rfl rfl rfl rfl (two_of HT_.out (by kernel_rfl)) (by decide) (by decide) (fun K hK => ?_) (fun K hK => ?_)
            ·skip
             refine Kd.R_append_rows_step k54 w.heap.size (by rfl) (.tmp 49) (.tmp 50) 36 54 (.agg #[(.int .i64 0), (.int .i64 0), (.int .i64 0), (.int .i64 0)]) 32 rfl Try.underlying36 info54 rfl (by decide) (by omega) v236 y235 x7_1 _ _ _ (fun k_ => some k_ ≠ (.slice Ao73 x7_1.length co73 : Value).ownBlock ∧ k_ ≠ gb231) (fun _ => False) rfl rfl ?aO ?aR (fun _ _ h => h) (fun _ h => h.elim) ?aF (Below.refl _ _) ?aS ?aL ?_
             (case aR => repeat (first | exact (Kd.R_reads' HO_7.out).2.2 | (with_reducible refine Kd.C_alloc ?_ _) | (with_reducible refine Kd.C_drewN ?_ _) | (with_reducible refine Kd.C_drew ?_)))
             (case aF => exact (fun k_ hk => ⟨Kd.fresh' (Kd.R_lt (by (with_reducible repeat (first | apply qa | apply qb | apply qc)); exact HO_7.out)) k_ hk, Kd.freshB (g := gb231) (o := .cells #[.int .i64 t222, .int .i64 t225, .int .i64 (wrap64 (1 + t228)), .int .i64 x232003_13] 54 (0, 0)) (by (with_reducible repeat (first | refine blk_drewN ?_ _ | refine blk_drew ?_ | refine blk_alloc ?_ _)); exact BK231.out) k_ hk⟩))
             (case aO => exact (by (with_reducible repeat (first | apply qa | apply qb | apply qc)); exact Kd.R_mono HO237.out (fun _ hk => ⟨hk.1.2, hk.2⟩)))
             (case aS => exact (keep_size (w := w) (g := g) (row := none) (by repeat (first | (with_reducible first | exact HK.out | apply qd | apply qe | apply qf | apply qg | refine keep_far ?_ GW231.out _)))))
             (case aL => have := LMc28.out; omega)
             intro v239 w77 ho hb hg hat
             rw [← Ny238.out] at ho
             have n0_ := Aside0.mk (Kd.R_after (ok := (fun k_ => k_ ≠ gb231)) (by (with_reducible repeat (first | apply qa | apply qb | apply qc)); exact HO_7.out) hg hat)
             have n1_ := Aside0.mk (blk_grown (g := gb231) (o := .cells #[.int .i64 t222, .int .i64 t225, .int .i64 (wrap64 (1 + t228)), .int .i64 x232003_13] 54 (0, 0)) (by (with_reducible repeat (first | refine blk_drewN ?_ _ | refine blk_drew ?_ | refine blk_alloc ?_ _)); exact BK231.out) hg (Kd.R_away HO237.out (fun _ hk => hk.2)))
             have n2_ := Aside0.mk (IsS93.grown (by repeat (first | (with_reducible first | exact HI0.out | apply qh | apply qi | apply qj | apply qk | apply ql | refine IsS93.far ?_ NB0_231.out _))) hg (IsS93.own_ne HI0.out HO237.out (by decide)))
             have n3_ := Aside0.mk (below_weaken (by repeat (first | (with_reducible first | exact HB.out | apply qm | apply qn | apply qo | refine below_set ?_ (IsS93.ge HI0.out) | refine below_set ?_ GE231.out))) HL.out hb)
             have n4_ := Aside0.mk (KeepBut.trans (by repeat (first | (with_reducible first | exact HK.out | apply qd | apply qe | apply qf | apply qg | refine keep_far ?_ GW231.out _))) (KeepBut.of_grown hg g) (Kd.R_base2 HO237.out))
             have n5_ := Aside0.mk (ho)
             clear HO_7
             clear BK231
             clear HI0
             clear HB
             clear HK
             clear HO237
             have HO_7 := n0_
             have BK231 := n1_
             have HI0 := n2_
             have HB := n3_
             have HK := n4_
             have HO240 := n5_
             clear n0_ n1_ n2_ n3_ n4_ n5_
             clear ho hb hg hat
             refine hK.out _ _ ⟨(blk_cell BK231.out 0).trans rfl, (blk_cell BK231.out 1).trans rfl, (blk_cell BK231.out 2).trans rfl, (blk_cell BK231.out 3).trans rfl⟩ (fun hHeld => ?_)
             clear hK K
             refine norm_ (a' := ?_) ?_ ?_
             rotate_left
             ·show Act.put _ (some 51) _ = _
              simp only [Act.put, List.setIfInBounds_toArray, List.set_cons_zero, List.set_cons_succ, i64_w, i32_w]
              rfl
             refine one_ (i := 6) (N := some 53) #[true,true,true,true,true,true,true,false,false,false,false,false,false,false] rfl rfl (one_of HT_.out (by kernel_rfl)) (by decide) (fun K hK => ?_)
             refine Kd.R_lit_step k54 _ 54 ?hg (N := 53) ?hd (xs := ([(⟨t222, t225, (wrap64 (1 + t228)), x232003_13⟩ : S54)] : List (S54))) (inner := [.int .i64 t222, .int .i64 t225, .int .i64 (wrap64 (1 + t228)), .int .i64 x232003_13]) (ok := fun _ => True) (okp := fun _ => True) ?hr ?hp (fun _ hk => hk) trivial (Below.refl _ _) (Nat.le_refl _) (by simp) ?_; (case hd => rfl); (case hg => rfl); (case hr => first | (go_simp; done) | (go_simp; rfl)); (case hp => exact (Reps.c4 (show Kd.M k54 _ _ _ (⟨t222, t225, (wrap64 (1 + t228)), x232003_13⟩ : S54) [.int .i64 t222, .int .i64 t225, .int .i64 (wrap64 (1 + t228)), .int .i64 x232003_13] from (k54_mkM _ _ _ (⟨t222, t225, (wrap64 (1 + t228)), x232003_13⟩ : S54) )) (Reps.none _ _)))
             intro v242 w78 ho79 hb hg_ hnew_
             clear hg_ hnew_
             (first | rw [← Ny241.out] at ho79 | (simp only [Int.reduceToNat] at ho79; rw [← Ny241.out] at ho79))
             have n0_ := Aside0.mk (Kd.R_elder' (by (with_reducible repeat (first | apply qa | apply qb | apply qc)); exact HO_7.out) (Kd.R_base ho79) hb)
             have n1_ := Aside0.mk (Kd.R_elder' (by (with_reducible repeat (first | apply qa | apply qb | apply qc)); exact HO240.out) (Kd.R_base ho79) hb)
             have n2_ := Aside0.mk (Kd.R_lower (Kd.R_newB (Kd.R_new' (Kd.R_new' ho79 (Kd.R_lt (by (with_reducible repeat (first | apply qa | apply qb | apply qc)); exact HO_7.out))) (Kd.R_lt (by (with_reducible repeat (first | apply qa | apply qb | apply qc)); exact HO240.out))) (g := gb231) (o := .cells #[.int .i64 t222, .int .i64 t225, .int .i64 (wrap64 (1 + t228)), .int .i64 x232003_13] 54 (0, 0)) (by (with_reducible repeat (first | refine blk_drewN ?_ _ | refine blk_drew ?_ | refine blk_alloc ?_ _)); exact BK231.out)) (keep_size (w := w) (g := g) (row := none) (by repeat (first | (with_reducible first | exact HK.out | apply qd | apply qe | apply qf | apply qg | refine keep_far ?_ GW231.out _)))))
             have n3_ := Aside0.mk (blk_below (g := gb231) (o := .cells #[.int .i64 t222, .int .i64 t225, .int .i64 (wrap64 (1 + t228)), .int .i64 x232003_13] 54 (0, 0)) (by (with_reducible repeat (first | refine blk_drewN ?_ _ | refine blk_drew ?_ | refine blk_alloc ?_ _)); exact BK231.out) hb)
             have n4_ := Aside0.mk (IsS93.below (by repeat (first | (with_reducible first | exact HI0.out | apply qh | apply qi | apply qj | apply qk | apply ql | refine IsS93.far ?_ NB0_231.out _))) hb)
             have n5_ := Aside0.mk (KeepBut.trans (by repeat (first | (with_reducible first | exact HK.out | apply qd | apply qe | apply qf | apply qg | refine keep_far ?_ GW231.out _))) (KeepBut.of_below hb g none) (.inl rfl))
             have n6_ := Aside0.mk (below_step (by repeat (first | (with_reducible first | exact HB.out | apply qm | apply qn | apply qo | refine below_set ?_ (IsS93.ge HI0.out) | refine below_set ?_ GE231.out))) hb)
             clear HO_7
             clear HO240
             clear BK231
             clear HI0
             clear HK
             clear HB
             have HO_7 := n0_
             have HO240 := n1_
             have HO243 := n2_
             have BK231 := n3_
             have HI0 := n4_
             have HK := n5_
             have HB := n6_
             clear n0_ n1_ n2_ n3_ n4_ n5_ n6_
             clear hb ho79
             refine hK.out _ _ ⟨(blk_cell BK231.out 0).trans rfl, (blk_cell BK231.out 1).trans rfl, (blk_cell BK231.out 2).trans rfl, (blk_cell BK231.out 3).trans rfl⟩ (fun hHeld => ?_)
             clear hK K
             refine norm_ (a' := ?_) ?_ ?_
             rotate_left
             ·show Act.put _ (some 53) _ = _
              simp only [Act.put, List.setIfInBounds_toArray, List.set_cons_zero, List.set_cons_succ, i64_w, i32_w]
              rfl
             exact norm_ (by simp only [putAll, Act.put, List.setIfInBounds_toArray, List.set_cons_zero, List.set_cons_succ]) (hCont (v236, v239, v242) _ ⟨hHeld, (by (with_reducible repeat (first | apply qa | apply qb | apply qc)); exact Kd.R_mono HO240.out (fun _ hk => ⟨hk.2, ⟨hk.1.1, hk.1.2⟩⟩)), (by (with_reducible repeat (first | apply qa | apply qb | apply qc)); exact Kd.R_mono HO243.out (fun _ hk => ⟨hk.1.2, ⟨hk.1.1.2, hk.2⟩⟩)), (by (with_reducible repeat (first | apply qa | apply qb | apply qc)); exact Kd.R_mono HO_7.out (fun _ hk => ⟨hk.1.2, ⟨hk.2, hk.1.1⟩⟩)), (by (with_reducible repeat (first | refine blk_drewN ?_ _ | refine blk_drew ?_ | refine blk_alloc ?_ _)); exact BK231.out), (by repeat (first | (with_reducible first | exact HI0.out | apply qh | apply qi | apply qj | apply qk | apply ql | refine IsS93.far ?_ NB0_231.out _))), (by repeat (first | (with_reducible first | exact HK.out | apply qd | apply qe | apply qf | apply qg | refine keep_far ?_ GW231.out _))), (by repeat (first | (with_reducible first | exact HB.out | apply qm | apply qn | apply qo | refine below_set ?_ (IsS93.ge HI0.out) | refine below_set ?_ GE231.out)))⟩)
            ·skip
             refine Kd.R_lit_step k54 _ 54 ?hg (N := 53) ?hd (xs := ([(⟨t222, t225, (wrap64 (1 + t228)), x232003_13⟩ : S54)] : List (S54))) (inner := [.int .i64 t222, .int .i64 t225, .int .i64 (wrap64 (1 + t228)), .int .i64 x232003_13]) (ok := fun _ => True) (okp := fun _ => True) ?hr ?hp (fun _ hk => hk) trivial (Below.refl _ _) (Nat.le_refl _) (by simp) ?_; (case hd => rfl); (case hg => rfl); (case hr => first | (go_simp; done) | (go_simp; rfl)); (case hp => exact (Reps.c4 (show Kd.M k54 _ _ _ (⟨t222, t225, (wrap64 (1 + t228)), x232003_13⟩ : S54) [.int .i64 t222, .int .i64 t225, .int .i64 (wrap64 (1 + t228)), .int .i64 x232003_13] from (k54_mkM _ _ _ (⟨t222, t225, (wrap64 (1 + t228)), x232003_13⟩ : S54) )) (Reps.none _ _)))
             intro v242 w77 ho78 hb hg_ hnew_
             clear hg_ hnew_
             (first | rw [← Ny241.out] at ho78 | (simp only [Int.reduceToNat] at ho78; rw [← Ny241.out] at ho78))
             have n0_ := Aside0.mk (Kd.R_elder' (by (with_reducible repeat (first | apply qa | apply qb | apply qc)); exact HO_7.out) (Kd.R_base ho78) hb)
             have n1_ := Aside0.mk (Kd.R_elder' (by (with_reducible repeat (first | apply qa | apply qb | apply qc)); exact HO237.out) (Kd.R_base ho78) hb)
             have n2_ := Aside0.mk (Kd.R_lower (Kd.R_newB (Kd.R_new' (Kd.R_new' ho78 (Kd.R_lt (by (with_reducible repeat (first | apply qa | apply qb | apply qc)); exact HO_7.out))) (Kd.R_lt (by (with_reducible repeat (first | apply qa | apply qb | apply qc)); exact HO237.out))) (g := gb231) (o := .cells #[.int .i64 t222, .int .i64 t225, .int .i64 (wrap64 (1 + t228)), .int .i64 x232003_13] 54 (0, 0)) (by (with_reducible repeat (first | refine blk_drewN ?_ _ | refine blk_drew ?_ | refine blk_alloc ?_ _)); exact BK231.out)) (keep_size (w := w) (g := g) (row := none) (by repeat (first | (with_reducible first | exact HK.out | apply qd | apply qe | apply qf | apply qg | refine keep_far ?_ GW231.out _)))))
             have n3_ := Aside0.mk (blk_below (g := gb231) (o := .cells #[.int .i64 t222, .int .i64 t225, .int .i64 (wrap64 (1 + t228)), .int .i64 x232003_13] 54 (0, 0)) (by (with_reducible repeat (first | refine blk_drewN ?_ _ | refine blk_drew ?_ | refine blk_alloc ?_ _)); exact BK231.out) hb)
             have n4_ := Aside0.mk (IsS93.below (by repeat (first | (with_reducible first | exact HI0.out | apply qh | apply qi | apply qj | apply qk | apply ql | refine IsS93.far ?_ NB0_231.out _))) hb)
             have n5_ := Aside0.mk (KeepBut.trans (by repeat (first | (with_reducible first | exact HK.out | apply qd | apply qe | apply qf | apply qg | refine keep_far ?_ GW231.out _))) (KeepBut.of_below hb g none) (.inl rfl))
             have n6_ := Aside0.mk (below_step (by repeat (first | (with_reducible first | exact HB.out | apply qm | apply qn | apply qo | refine below_set ?_ (IsS93.ge HI0.out) | refine below_set ?_ GE231.out))) hb)
             clear HO_7
             clear HO237
             clear BK231
             clear HI0
             clear HK
             clear HB
             have HO_7 := n0_
             have HO237 := n1_
             have HO243 := n2_
             have BK231 := n3_
             have HI0 := n4_
             have HK := n5_
             have HB := n6_
             clear n0_ n1_ n2_ n3_ n4_ n5_ n6_
             clear hb ho78
             refine hK.out _ _ ⟨(blk_cell BK231.out 0).trans rfl, (blk_cell BK231.out 1).trans rfl, (blk_cell BK231.out 2).trans rfl, (blk_cell BK231.out 3).trans rfl⟩ (fun hHeld => ?_)
             clear hK K
             refine norm_ (a' := ?_) ?_ ?_
             rotate_left
             ·show Act.put _ (some 53) _ = _
              simp only [Act.put, List.setIfInBounds_toArray, List.set_cons_zero, List.set_cons_succ, i64_w, i32_w]
              rfl
             refine one_ (i := 4) (N := some 51) #[true,true,true,true,true,true,true,false,false,false,false,false,false,false] rfl rfl (one_of HT_.out (by kernel_rfl)) (by decide) (fun K hK => ?_)
             refine Kd.R_append_rows_step k54 w.heap.size (by rfl) (.tmp 49) (.tmp 50) 36 54 (.agg #[(.int .i64 0), (.int .i64 0), (.int .i64 0), (.int .i64 0)]) 32 rfl Try.underlying36 info54 rfl (by decide) (by omega) v236 y235 x7_1 _ _ _ (fun k_ => some k_ ≠ (.slice Ao73 x7_1.length co73 : Value).ownBlock ∧ some k_ ≠ (v242 : Value).ownBlock ∧ k_ ≠ gb231) (fun _ => False) rfl rfl ?aO ?aR (fun _ _ h => h) (fun _ h => h.elim) ?aF (Below.refl _ _) ?aS ?aL ?_
             (case aR => repeat (first | exact (Kd.R_reads' HO_7.out).2.2 | (with_reducible refine Kd.C_alloc ?_ _) | (with_reducible refine Kd.C_drewN ?_ _) | (with_reducible refine Kd.C_drew ?_)))
             (case aF => exact (fun k_ hk => ⟨Kd.fresh' (Kd.R_lt (by (with_reducible repeat (first | apply qa | apply qb | apply qc)); exact HO_7.out)) k_ hk, Kd.fresh' (Kd.R_lt (by (with_reducible repeat (first | apply qa | apply qb | apply qc)); exact HO243.out)) k_ hk, Kd.freshB (g := gb231) (o := .cells #[.int .i64 t222, .int .i64 t225, .int .i64 (wrap64 (1 + t228)), .int .i64 x232003_13] 54 (0, 0)) (by (with_reducible repeat (first | refine blk_drewN ?_ _ | refine blk_drew ?_ | refine blk_alloc ?_ _)); exact BK231.out) k_ hk⟩))
             (case aO => exact (by (with_reducible repeat (first | apply qa | apply qb | apply qc)); exact Kd.R_mono HO237.out (fun _ hk => ⟨hk.1.1.2, ⟨hk.2, hk.1.2⟩⟩)))
             (case aS => exact (keep_size (w := w) (g := g) (row := none) (by repeat (first | (with_reducible first | exact HK.out | apply qd | apply qe | apply qf | apply qg | refine keep_far ?_ GW231.out _)))))
             (case aL => have := LMc28.out; omega)
             intro v239 w79 ho hb hg hat
             rw [← Ny238.out] at ho
             have n0_ := Aside0.mk (Kd.R_after (ok := (fun k_ => some k_ ≠ (v242 : Value).ownBlock ∧ k_ ≠ gb231)) (by (with_reducible repeat (first | apply qa | apply qb | apply qc)); exact Kd.R_mono HO_7.out (fun _ hk => ⟨⟨hk.2, hk.1.1⟩, hk.1.2⟩)) hg hat)
             have n1_ := Aside0.mk (blk_grown (g := gb231) (o := .cells #[.int .i64 t222, .int .i64 t225, .int .i64 (wrap64 (1 + t228)), .int .i64 x232003_13] 54 (0, 0)) (by (with_reducible repeat (first | refine blk_drewN ?_ _ | refine blk_drew ?_ | refine blk_alloc ?_ _)); exact BK231.out) hg (Kd.R_away HO237.out (fun _ hk => hk.1.2)))
             have n2_ := Aside0.mk (IsS93.grown (by repeat (first | (with_reducible first | exact HI0.out | apply qh | apply qi | apply qj | apply qk | apply ql | refine IsS93.far ?_ NB0_231.out _))) hg (IsS93.own_ne HI0.out HO237.out (by decide)))
             have n3_ := Aside0.mk (Kd.R_after (ok := (fun k_ => some k_ ≠ (.slice Ao73 x7_1.length co73 : Value).ownBlock ∧ k_ ≠ gb231)) (by (with_reducible repeat (first | apply qa | apply qb | apply qc)); exact Kd.R_mono HO243.out (fun _ hk => ⟨⟨hk.1.1.2, hk.2⟩, hk.1.2⟩)) hg hat)
             have n4_ := Aside0.mk (below_weaken (by repeat (first | (with_reducible first | exact HB.out | apply qm | apply qn | apply qo | refine below_set ?_ (IsS93.ge HI0.out) | refine below_set ?_ GE231.out))) HL.out hb)
             have n5_ := Aside0.mk (KeepBut.trans (by repeat (first | (with_reducible first | exact HK.out | apply qd | apply qe | apply qf | apply qg | refine keep_far ?_ GW231.out _))) (KeepBut.of_grown hg g) (Kd.R_base2 HO237.out))
             have n6_ := Aside0.mk (ho)
             clear HO_7
             clear BK231
             clear HI0
             clear HO243
             clear HB
             clear HK
             clear HO237
             have HO_7 := n0_
             have BK231 := n1_
             have HI0 := n2_
             have HO243 := n3_
             have HB := n4_
             have HK := n5_
             have HO240 := n6_
             clear n0_ n1_ n2_ n3_ n4_ n5_ n6_
             clear ho hb hg hat
             refine hK.out _ _ ⟨(blk_cell BK231.out 0).trans rfl, (blk_cell BK231.out 1).trans rfl, (blk_cell BK231.out 2).trans rfl, (blk_cell BK231.out 3).trans rfl⟩ (fun hHeld => ?_)
             clear hK K
             refine norm_ (a' := ?_) ?_ ?_
             rotate_left
             ·show Act.put _ (some 51) _ = _
              simp only [Act.put, List.setIfInBounds_toArray, List.set_cons_zero, List.set_cons_succ, i64_w, i32_w]
              rfl
             exact norm_ (by simp only [putAll, Act.put, List.setIfInBounds_toArray, List.set_cons_zero, List.set_cons_succ]) (hCont (v236, v239, v242) _ ⟨hHeld, (by (with_reducible repeat (first | apply qa | apply qb | apply qc)); exact Kd.R_mono HO240.out (fun _ hk => ⟨hk.2.1, ⟨hk.1, hk.2.2⟩⟩)), (by (with_reducible repeat (first | apply qa | apply qb | apply qc)); exact Kd.R_mono HO243.out (fun _ hk => ⟨hk.2, ⟨hk.1.1, hk.1.2⟩⟩)), (by (with_reducible repeat (first | apply qa | apply qb | apply qc)); exact Kd.R_mono HO_7.out (fun _ hk => ⟨hk.2, ⟨hk.1.1, hk.1.2⟩⟩)), (by (with_reducible repeat (first | refine blk_drewN ?_ _ | refine blk_drew ?_ | refine blk_alloc ?_ _)); exact BK231.out), (by repeat (first | (with_reducible first | exact HI0.out | apply qh | apply qi | apply qj | apply qk | apply ql | refine IsS93.far ?_ NB0_231.out _))), (by repeat (first | (with_reducible first | exact HK.out | apply qd | apply qe | apply qf | apply qg | refine keep_far ?_ GW231.out _))), (by repeat (first | (with_reducible first | exact HB.out | apply qm | apply qn | apply qo | refine below_set ?_ (IsS93.ge HI0.out) | refine below_set ?_ GE231.out)))⟩)
           ·skip
            refine Kd.R_lit_step k54 _ 54 ?hg (N := 53) ?hd (xs := ([(⟨t222, t225, (wrap64 (1 + t228)), x232003_13⟩ : S54)] : List (S54))) (inner := [.int .i64 t222, .int .i64 t225, .int .i64 (wrap64 (1 + t228)), .int .i64 x232003_13]) (ok := fun _ => True) (okp := fun _ => True) ?hr ?hp (fun _ hk => hk) trivial (Below.refl _ _) (Nat.le_refl _) (by simp) ?_; (case hd => rfl); (case hg => rfl); (case hr => first | (go_simp; done) | (go_simp; rfl)); (case hp => exact (Reps.c4 (show Kd.M k54 _ _ _ (⟨t222, t225, (wrap64 (1 + t228)), x232003_13⟩ : S54) [.int .i64 t222, .int .i64 t225, .int .i64 (wrap64 (1 + t228)), .int .i64 x232003_13] from (k54_mkM _ _ _ (⟨t222, t225, (wrap64 (1 + t228)), x232003_13⟩ : S54) )) (Reps.none _ _)))
            intro v242 w75 ho76 hb hg_ hnew_
            clear hg_ hnew_
            (first | rw [← Ny241.out] at ho76 | (simp only [Int.reduceToNat] at ho76; rw [← Ny241.out] at ho76))
            have n0_ := Aside0.mk (Kd.R_elder' (by (with_reducible repeat (first | apply qa | apply qb | apply qc)); exact HO_7.out) (Kd.R_base ho76) hb)
            have n1_ := Aside0.mk (Kd.R_lower (Kd.R_newB (Kd.R_new' ho76 (Kd.R_lt (by (with_reducible repeat (first | apply qa | apply qb | apply qc)); exact HO_7.out))) (g := gb231) (o := .cells #[.int .i64 t222, .int .i64 t225, .int .i64 (wrap64 (1 + t228)), .int .i64 x232003_13] 54 (0, 0)) (by (with_reducible repeat (first | refine blk_drewN ?_ _ | refine blk_drew ?_ | refine blk_alloc ?_ _)); exact BK231.out)) (keep_size (w := w) (g := g) (row := none) (by repeat (first | (with_reducible first | exact HK.out | apply qd | apply qe | apply qf | apply qg | refine keep_far ?_ GW231.out _)))))
            have n2_ := Aside0.mk (blk_below (g := gb231) (o := .cells #[.int .i64 t222, .int .i64 t225, .int .i64 (wrap64 (1 + t228)), .int .i64 x232003_13] 54 (0, 0)) (by (with_reducible repeat (first | refine blk_drewN ?_ _ | refine blk_drew ?_ | refine blk_alloc ?_ _)); exact BK231.out) hb)
            have n3_ := Aside0.mk (IsS93.below (by repeat (first | (with_reducible first | exact HI0.out | apply qh | apply qi | apply qj | apply qk | apply ql | refine IsS93.far ?_ NB0_231.out _))) hb)
            have n4_ := Aside0.mk (KeepBut.trans (by repeat (first | (with_reducible first | exact HK.out | apply qd | apply qe | apply qf | apply qg | refine keep_far ?_ GW231.out _))) (KeepBut.of_below hb g none) (.inl rfl))
            have n5_ := Aside0.mk (below_step (by repeat (first | (with_reducible first | exact HB.out | apply qm | apply qn | apply qo | refine below_set ?_ (IsS93.ge HI0.out) | refine below_set ?_ GE231.out))) hb)
            clear HO_7
            clear BK231
            clear HI0
            clear HK
            clear HB
            have HO_7 := n0_
            have HO243 := n1_
            have BK231 := n2_
            have HI0 := n3_
            have HK := n4_
            have HB := n5_
            clear n0_ n1_ n2_ n3_ n4_ n5_
            clear hb ho76
            refine hK.out _ _ ⟨(blk_cell BK231.out 0).trans rfl, (blk_cell BK231.out 1).trans rfl, (blk_cell BK231.out 2).trans rfl, (blk_cell BK231.out 3).trans rfl⟩ (fun hHeld => ?_)
            clear hK K
            refine norm_ (a' := ?_) ?_ ?_
            rotate_left
            ·show Act.put _ (some 53) _ = _
             simp only [Act.put, List.setIfInBounds_toArray, List.set_cons_zero, List.set_cons_succ, i64_w, i32_w]
             rfl
            refine one_ (i := 2) (N := some 49) #[true,true,true,true,false,true,true,false,false,false,false,false,false,false] rfl rfl (one_of HT_.out (by kernel_rfl)) (by decide) (fun K hK => ?_)
            refine Kd.R_lit_step k54 _ 54 ?hg (N := 49) ?hd (xs := ([] : List (S54))) (inner := []) (ok := fun _ => True) (okp := fun _ => True) ?hr ?hp (fun _ hk => hk) trivial (Below.refl _ _) (Nat.le_refl _) (by simp) ?_; (case hd => rfl); (case hg => rfl); (case hr => first | (go_simp; done) | (go_simp; rfl)); (case hp => exact (Reps.none _ _))
            intro v236 w77 ho78 hb hg_ hnew_
            clear hg_ hnew_
            (first | rw [← Ny235.out] at ho78 | (simp only [Int.reduceToNat] at ho78; rw [← Ny235.out] at ho78))
            have n0_ := Aside0.mk (Kd.R_elder' (by (with_reducible repeat (first | apply qa | apply qb | apply qc)); exact HO_7.out) (Kd.R_base ho78) hb)
            have n1_ := Aside0.mk (Kd.R_elder' (by (with_reducible repeat (first | apply qa | apply qb | apply qc)); exact HO243.out) (Kd.R_base ho78) hb)
            have n2_ := Aside0.mk (Kd.R_lower (Kd.R_newB (Kd.R_new' (Kd.R_new' ho78 (Kd.R_lt (by (with_reducible repeat (first | apply qa | apply qb | apply qc)); exact HO_7.out))) (Kd.R_lt (by (with_reducible repeat (first | apply qa | apply qb | apply qc)); exact HO243.out))) (g := gb231) (o := .cells #[.int .i64 t222, .int .i64 t225, .int .i64 (wrap64 (1 + t228)), .int .i64 x232003_13] 54 (0, 0)) (by (with_reducible repeat (first | refine blk_drewN ?_ _ | refine blk_drew ?_ | refine blk_alloc ?_ _)); exact BK231.out)) (keep_size (w := w) (g := g) (row := none) (by repeat (first | (with_reducible first | exact HK.out | apply qd | apply qe | apply qf | apply qg | refine keep_far ?_ GW231.out _)))))
            have n3_ := Aside0.mk (blk_below (g := gb231) (o := .cells #[.int .i64 t222, .int .i64 t225, .int .i64 (wrap64 (1 + t228)), .int .i64 x232003_13] 54 (0, 0)) (by (with_reducible repeat (first | refine blk_drewN ?_ _ | refine blk_drew ?_ | refine blk_alloc ?_ _)); exact BK231.out) hb)
            have n4_ := Aside0.mk (IsS93.below (by repeat (first | (with_reducible first | exact HI0.out | apply qh | apply qi | apply qj | apply qk | apply ql | refine IsS93.far ?_ NB0_231.out _))) hb)
            have n5_ := Aside0.mk (KeepBut.trans (by repeat (first | (with_reducible first | exact HK.out | apply qd | apply qe | apply qf | apply qg | refine keep_far ?_ GW231.out _))) (KeepBut.of_below hb g none) (.inl rfl))
            have n6_ := Aside0.mk (below_step (by repeat (first | (with_reducible first | exact HB.out | apply qm | apply qn | apply qo | refine below_set ?_ (IsS93.ge HI0.out) | refine below_set ?_ GE231.out))) hb)
            clear HO_7
            clear HO243
            clear BK231
            clear HI0
            clear HK
            clear HB
            have HO_7 := n0_
            have HO243 := n1_
            have HO237 := n2_
            have BK231 := n3_
            have HI0 := n4_
            have HK := n5_
            have HB := n6_
            clear n0_ n1_ n2_ n3_ n4_ n5_ n6_
            clear hb ho78
            refine hK.out _ _ ⟨(blk_cell BK231.out 0).trans rfl, (blk_cell BK231.out 1).trans rfl, (blk_cell BK231.out 2).trans rfl, (blk_cell BK231.out 3).trans rfl⟩ (fun hHeld => ?_)
            clear hK K
            refine norm_ (a' := ?_) ?_ ?_
            rotate_left
            ·show Act.put _ (some 49) _ = _
             simp only [Act.put, List.setIfInBounds_toArray, List.set_cons_zero, List.set_cons_succ, i64_w, i32_w]
             rfl
            refine one_ (i := 4) (N := some 51) #[true,true,true,true,true,true,true,false,false,false,false,false,false,false] rfl rfl (one_of HT_.out (by kernel_rfl)) (by decide) (fun K hK => ?_)
            refine Kd.R_append_rows_step k54 w.heap.size (by rfl) (.tmp 49) (.tmp 50) 36 54 (.agg #[(.int .i64 0), (.int .i64 0), (.int .i64 0), (.int .i64 0)]) 32 rfl Try.underlying36 info54 rfl (by decide) (by omega) v236 y235 x7_1 _ _ _ (fun k_ => some k_ ≠ (.slice Ao73 x7_1.length co73 : Value).ownBlock ∧ some k_ ≠ (v242 : Value).ownBlock ∧ k_ ≠ gb231) (fun _ => False) rfl rfl ?aO ?aR (fun _ _ h => h) (fun _ h => h.elim) ?aF (Below.refl _ _) ?aS ?aL ?_
            (case aR => repeat (first | exact (Kd.R_reads' HO_7.out).2.2 | (with_reducible refine Kd.C_alloc ?_ _) | (with_reducible refine Kd.C_drewN ?_ _) | (with_reducible refine Kd.C_drew ?_)))
            (case aF => exact (fun k_ hk => ⟨Kd.fresh' (Kd.R_lt (by (with_reducible repeat (first | apply qa | apply qb | apply qc)); exact HO_7.out)) k_ hk, Kd.fresh' (Kd.R_lt (by (with_reducible repeat (first | apply qa | apply qb | apply qc)); exact HO243.out)) k_ hk, Kd.freshB (g := gb231) (o := .cells #[.int .i64 t222, .int .i64 t225, .int .i64 (wrap64 (1 + t228)), .int .i64 x232003_13] 54 (0, 0)) (by (with_reducible repeat (first | refine blk_drewN ?_ _ | refine blk_drew ?_ | refine blk_alloc ?_ _)); exact BK231.out) k_ hk⟩))
            (case aO => exact (by (with_reducible repeat (first | apply qa | apply qb | apply qc)); exact Kd.R_mono HO237.out (fun _ hk => ⟨hk.1.1.2, ⟨hk.1.2, hk.2⟩⟩)))
            (case aS => exact (keep_size (w := w) (g := g) (row := none) (by repeat (first | (with_reducible first | exact HK.out | apply qd | apply qe | apply qf | apply qg | refine keep_far ?_ GW231.out _)))))
            (case aL => have := LMc28.out; omega)
            intro v239 w79 ho hb hg hat
            rw [← Ny238.out] at ho
            have n0_ := Aside0.mk (Kd.R_after (ok := (fun k_ => some k_ ≠ (v242 : Value).ownBlock ∧ k_ ≠ gb231)) (by (with_reducible repeat (first | apply qa | apply qb | apply qc)); exact Kd.R_mono HO_7.out (fun _ hk => ⟨⟨hk.1.2, hk.1.1⟩, hk.2⟩)) hg hat)
            have n1_ := Aside0.mk (blk_grown (g := gb231) (o := .cells #[.int .i64 t222, .int .i64 t225, .int .i64 (wrap64 (1 + t228)), .int .i64 x232003_13] 54 (0, 0)) (by (with_reducible repeat (first | refine blk_drewN ?_ _ | refine blk_drew ?_ | refine blk_alloc ?_ _)); exact BK231.out) hg (Kd.R_away HO237.out (fun _ hk => hk.2)))
            have n2_ := Aside0.mk (IsS93.grown (by repeat (first | (with_reducible first | exact HI0.out | apply qh | apply qi | apply qj | apply qk | apply ql | refine IsS93.far ?_ NB0_231.out _))) hg (IsS93.own_ne HI0.out HO237.out (by decide)))
            have n3_ := Aside0.mk (Kd.R_after (ok := (fun k_ => some k_ ≠ (.slice Ao73 x7_1.length co73 : Value).ownBlock ∧ k_ ≠ gb231)) (by (with_reducible repeat (first | apply qa | apply qb | apply qc)); exact Kd.R_mono HO243.out (fun _ hk => ⟨⟨hk.1.1.2, hk.1.2⟩, hk.2⟩)) hg hat)
            have n4_ := Aside0.mk (below_weaken (by repeat (first | (with_reducible first | exact HB.out | apply qm | apply qn | apply qo | refine below_set ?_ (IsS93.ge HI0.out) | refine below_set ?_ GE231.out))) HL.out hb)
            have n5_ := Aside0.mk (KeepBut.trans (by repeat (first | (with_reducible first | exact HK.out | apply qd | apply qe | apply qf | apply qg | refine keep_far ?_ GW231.out _))) (KeepBut.of_grown hg g) (Kd.R_base2 HO237.out))
            have n6_ := Aside0.mk (ho)
            clear HO_7
            clear BK231
            clear HI0
            clear HO243
            clear HB
            clear HK
            clear HO237
            have HO_7 := n0_
            have BK231 := n1_
            have HI0 := n2_
            have HO243 := n3_
            have HB := n4_
            have HK := n5_
            have HO240 := n6_
            clear n0_ n1_ n2_ n3_ n4_ n5_ n6_
            clear ho hb hg hat
            refine hK.out _ _ ⟨(blk_cell BK231.out 0).trans rfl, (blk_cell BK231.out 1).trans rfl, (blk_cell BK231.out 2).trans rfl, (blk_cell BK231.out 3).trans rfl⟩ (fun hHeld => ?_)
            clear hK K
            refine norm_ (a' := ?_) ?_ ?_
            rotate_left
            ·show Act.put _ (some 51) _ = _
             simp only [Act.put, List.setIfInBounds_toArray, List.set_cons_zero, List.set_cons_succ, i64_w, i32_w]
             rfl
            exact norm_ (by simp only [putAll, Act.put, List.setIfInBounds_toArray, List.set_cons_zero, List.set_cons_succ]) (hCont (v236, v239, v242) _ ⟨hHeld, (by (with_reducible repeat (first | apply qa | apply qb | apply qc)); exact Kd.R_mono HO240.out (fun _ hk => ⟨hk.2.1, ⟨hk.1, hk.2.2⟩⟩)), (by (with_reducible repeat (first | apply qa | apply qb | apply qc)); exact Kd.R_mono HO243.out (fun _ hk => ⟨hk.2, ⟨hk.1.1, hk.1.2⟩⟩)), (by (with_reducible repeat (first | apply qa | apply qb | apply qc)); exact Kd.R_mono HO_7.out (fun _ hk => ⟨hk.2, ⟨hk.1.1, hk.1.2⟩⟩)), (by (with_reducible repeat (first | refine blk_drewN ?_ _ | refine blk_drew ?_ | refine blk_alloc ?_ _)); exact BK231.out), (by repeat (first | (with_reducible first | exact HI0.out | apply qh | apply qi | apply qj | apply qk | apply ql | refine IsS93.far ?_ NB0_231.out _))), (by repeat (first | (with_reducible first | exact HK.out | apply qd | apply qe | apply qf | apply qg | refine keep_far ?_ GW231.out _))), (by repeat (first | (with_reducible first | exact HB.out | apply qm | apply qn | apply qo | refine below_set ?_ (IsS93.ge HI0.out) | refine below_set ?_ GE231.out)))⟩)
          rintro ⟨v236, v239, v242⟩ w80 ⟨hS_, h0_, h1_, h2_, h3_, h4_, h5_, h6_⟩
          have n0_ : Aside0 (Kd.R k54 54 w80 w.heap.size (fun k_ => some k_ ≠ (v242 : Value).ownBlock ∧ some k_ ≠ (.slice Ao73 x7_1.length co73 : Value).ownBlock ∧ k_ ≠ gb231) v239 y238) := ⟨h0_⟩
          have n1_ : Aside0 (Kd.R k54 54 w80 w.heap.size (fun k_ => some k_ ≠ (v239 : Value).ownBlock ∧ some k_ ≠ (.slice Ao73 x7_1.length co73 : Value).ownBlock ∧ k_ ≠ gb231) v242 y241) := ⟨h1_⟩
          have n2_ : Aside0 (Kd.R k54 54 w80 w.heap.size (fun k_ => some k_ ≠ (v239 : Value).ownBlock ∧ some k_ ≠ (v242 : Value).ownBlock ∧ k_ ≠ gb231) (.slice Ao73 x7_1.length co73) x7_1) := ⟨h2_⟩
          have n3_ : Aside0 (w80.heap[gb231]? = some (.cells #[.int .i64 t222, .int .i64 t225, .int .i64 (wrap64 (1 + t228)), .int .i64 x232003_13] 54 (0, 0))) := ⟨h3_⟩
          have n4_ : Aside0 (IsS93 w0 w80 g s0_0 x1001_13 x1002_13) := ⟨h4_⟩
          have n5_ : Aside0 (KeepBut w w80 g none) := ⟨h5_⟩
          have n6_ : Aside0 (Below w0.heap.size w0 w80) := ⟨h6_⟩
          clear HO_7
          clear BK231
          clear HI0
          clear HK
          clear HB
          clear h0_ h1_ h2_ h3_ h4_ h5_ h6_
          have HO240 := n0_
          have HO243 := n1_
          have HO_7 := n2_
          have BK231 := n3_
          have HI0 := n4_
          have HK := n5_
          have HB := n6_
          clear n0_ n1_ n2_ n3_ n4_ n5_ n6_
          have hHeld : w80.cell? ⟨gb231, 0, none⟩ = some (.int .i64 t222) ∧ w80.cell? ⟨gb231, 1, none⟩ = some (.int .i64 t225) ∧ w80.cell? ⟨gb231, 2, none⟩ = some (.int .i64 (wrap64 (1 + t228))) ∧ w80.cell? ⟨gb231, 3, none⟩ = some (.int .i64 x232003_13) := hS_
          obtain ⟨Ao82, co82, eo82⟩ := Kd.R_slice HO243.out
          (first | subst eo82 | (injection eo82 with f1_ f2_ f3_; have f4_ := f1_.symm; have f5_ := f3_.symm; clear f1_ f2_ f3_; subst f4_; subst f5_))
          refine norm_ (a' := ?_) ?_ ?_
          rotate_left
          ·simp only [putAll, Act.put, List.setIfInBounds_toArray, List.set_cons_zero, List.set_cons_succ]
           rfl
          refine one_ (i := 7) (N := some 54) #[true,true,true,true,true,true,true,true,false,false,false,false,false,false] rfl rfl (one_of HT_.out (by kernel_rfl)) (by decide) (fun K hK => ?_)
          refine Kd.R_append_rows_step k54 w.heap.size (by rfl) (.tmp 51) (.tmp 53) 36 54 (.agg #[(.int .i64 0), (.int .i64 0), (.int .i64 0), (.int .i64 0)]) 32 rfl Try.underlying36 info54 rfl (by decide) (by omega) v239 y238 y241 _ _ _ (fun k_ => some k_ ≠ (.slice Ao73 x7_1.length co73 : Value).ownBlock ∧ some k_ ≠ (.slice Ao82 y241.length co82 : Value).ownBlock ∧ k_ ≠ gb231) (fun _ => False) rfl rfl ?aO ?aR (fun _ _ h => h) (fun _ h => h.elim) ?aF (Below.refl _ _) ?aS ?aL ?_
          (case aR => repeat (first | exact (Kd.R_reads' HO243.out).2.2 | (with_reducible refine Kd.C_alloc ?_ _) | (with_reducible refine Kd.C_drewN ?_ _) | (with_reducible refine Kd.C_drew ?_)))
          (case aF => exact (fun k_ hk => ⟨Kd.fresh' (Kd.R_lt (by (with_reducible repeat (first | apply qa | apply qb | apply qc)); exact HO_7.out)) k_ hk, Kd.fresh' (Kd.R_lt (by (with_reducible repeat (first | apply qa | apply qb | apply qc)); exact HO243.out)) k_ hk, Kd.freshB (g := gb231) (o := .cells #[.int .i64 t222, .int .i64 t225, .int .i64 (wrap64 (1 + t228)), .int .i64 x232003_13] 54 (0, 0)) (by (with_reducible repeat (first | refine blk_drewN ?_ _ | refine blk_drew ?_ | refine blk_alloc ?_ _)); exact BK231.out) k_ hk⟩))
          (case aO => exact (by (with_reducible repeat (first | apply qa | apply qb | apply qc)); exact Kd.R_mono HO240.out (fun _ hk => ⟨hk.2.1, ⟨hk.1, hk.2.2⟩⟩)))
          (case aS => exact (keep_size (w := w) (g := g) (row := none) (by repeat (first | (with_reducible first | exact HK.out | apply qd | apply qe | apply qf | apply qg | refine keep_far ?_ GW231.out _)))))
          (case aL => have := LMc29.out; omega)
          intro v245 w81 ho hb hg hat
          rw [← Ny244.out] at ho
          have n0_ := Aside0.mk (Kd.R_after (ok := (fun k_ => some k_ ≠ (.slice Ao82 y241.length co82 : Value).ownBlock ∧ k_ ≠ gb231)) (by (with_reducible repeat (first | apply qa | apply qb | apply qc)); exact Kd.R_mono HO_7.out (fun _ hk => ⟨⟨hk.2.1, hk.2.2⟩, hk.1⟩)) hg hat)
          have n1_ := Aside0.mk (blk_grown (g := gb231) (o := .cells #[.int .i64 t222, .int .i64 t225, .int .i64 (wrap64 (1 + t228)), .int .i64 x232003_13] 54 (0, 0)) (by (with_reducible repeat (first | refine blk_drewN ?_ _ | refine blk_drew ?_ | refine blk_alloc ?_ _)); exact BK231.out) hg (Kd.R_away HO240.out (fun _ hk => hk.2.2)))
          have n2_ := Aside0.mk (IsS93.grown (by repeat (first | (with_reducible first | exact HI0.out | apply qh | apply qi | apply qj | apply qk | apply ql | refine IsS93.far ?_ NB0_231.out _))) hg (IsS93.own_ne HI0.out HO240.out (by decide)))
          have n3_ := Aside0.mk (Kd.R_after (ok := (fun k_ => some k_ ≠ (.slice Ao73 x7_1.length co73 : Value).ownBlock ∧ k_ ≠ gb231)) (by (with_reducible repeat (first | apply qa | apply qb | apply qc)); exact Kd.R_mono HO243.out (fun _ hk => ⟨⟨hk.2.1, hk.2.2⟩, hk.1⟩)) hg hat)
          have n4_ := Aside0.mk (below_weaken (by repeat (first | (with_reducible first | exact HB.out | apply qm | apply qn | apply qo | refine below_set ?_ (IsS93.ge HI0.out) | refine below_set ?_ GE231.out))) HL.out hb)
          have n5_ := Aside0.mk (KeepBut.trans (by repeat (first | (with_reducible first | exact HK.out | apply qd | apply qe | apply qf | apply qg | refine keep_far ?_ GW231.out _))) (KeepBut.of_grown hg g) (Kd.R_base2 HO240.out))
          have n6_ := Aside0.mk (ho)
          clear HO_7
          clear BK231
          clear HI0
          clear HO243
          clear HB
          clear HK
          clear HO240
          have HO_7 := n0_
          have BK231 := n1_
          have HI0 := n2_
          have HO243 := n3_
          have HB := n4_
          have HK := n5_
          have HO246 := n6_
          clear n0_ n1_ n2_ n3_ n4_ n5_ n6_
          clear ho hb hg hat
          obtain ⟨Ao83, co83, eo83⟩ := Kd.R_slice HO246.out
          (first | subst eo83 | (injection eo83 with f1_ f2_ f3_; have f4_ := f1_.symm; have f5_ := f3_.symm; clear f1_ f2_ f3_; subst f4_; subst f5_))
          refine hK.out _ _ ⟨(blk_cell BK231.out 0).trans rfl, (blk_cell BK231.out 1).trans rfl, (blk_cell BK231.out 2).trans rfl, (blk_cell BK231.out 3).trans rfl⟩ (fun hHeld => ?_)
          clear hK K
          refine norm_ (a' := ?_) ?_ ?_
          rotate_left
          ·show Act.put _ (some 54) _ = _
           simp only [Act.put, List.setIfInBounds_toArray, List.set_cons_zero, List.set_cons_succ, i64_w, i32_w]
           rfl
          refine one_ (i := 8) (N := some 55) #[true,true,true,true,true,true,true,true,true,false,false,false,false,false] rfl rfl (one_of HT_.out (by kernel_rfl)) (by decide) (fun K hK => ?_)
          refine goes_ Try.func75 (by kernel_rfl) rfl #[.int .i64 (wrap64 (1 + t210)), .int .i64 t213, .slice Ao83 y244.length co83] (by rfl) rfl rfl (by (try simp only [List.map_toArray, List.map_cons, List.map_nil]); first | done | rfl) ?_
          with_reducible refine (spec_AreFaults.calls kj13 (wrap64 (1 + t210)) t213 _ _ y244 false _ ?side1 ?side2 A30.out).mono ?_
          (case side1 => repeat (first | exact (Kd.R_reads' HO246.out).2.2 | (with_reducible refine Kd.C_alloc ?_ _) | (with_reducible refine Kd.C_drewN ?_ _) | (with_reducible refine Kd.C_drew ?_)))
          (case side2 => exact (Kd.R_reads' HO246.out).2.1)
          rintro e w84 ⟨rfl, hb⟩
          refine ⟨_, rfl, ?_⟩
          have n0_ := Aside0.mk (Kd.R_below (by (with_reducible repeat (first | apply qa | apply qb | apply qc)); exact HO_7.out) hb)
          have n1_ := Aside0.mk (Kd.R_below (by (with_reducible repeat (first | apply qa | apply qb | apply qc)); exact HO243.out) hb)
          have n2_ := Aside0.mk (Kd.R_below (by (with_reducible repeat (first | apply qa | apply qb | apply qc)); exact HO246.out) hb)
          have n3_ := Aside0.mk (blk_below (g := gb231) (o := .cells #[.int .i64 t222, .int .i64 t225, .int .i64 (wrap64 (1 + t228)), .int .i64 x232003_13] 54 (0, 0)) (by (with_reducible repeat (first | refine blk_drewN ?_ _ | refine blk_drew ?_ | refine blk_alloc ?_ _)); exact BK231.out) hb)
          have n4_ := Aside0.mk (IsS93.below (by repeat (first | (with_reducible first | exact HI0.out | apply qh | apply qi | apply qj | apply qk | apply ql | refine IsS93.far ?_ NB0_231.out _))) hb)
          have n5_ := Aside0.mk (KeepBut.trans (by repeat (first | (with_reducible first | exact HK.out | apply qd | apply qe | apply qf | apply qg | refine keep_far ?_ GW231.out _))) (KeepBut.of_below hb g none) (.inl rfl))
          have n6_ := Aside0.mk (below_step (by repeat (first | (with_reducible first | exact HB.out | apply qm | apply qn | apply qo | refine below_set ?_ (IsS93.ge HI0.out) | refine below_set ?_ GE231.out))) hb)
          clear HO_7
          clear HO243
          clear HO246
          clear BK231
          clear HI0
          clear HK
          clear HB
          have HO_7 := n0_
          have HO243 := n1_
          have HO246 := n2_
          have BK231 := n3_
          have HI0 := n4_
          have HK := n5_
          have HB := n6_
          clear n0_ n1_ n2_ n3_ n4_ n5_ n6_
          (try clear hb)
          (try clear hb2)
          (try clear hk)
          (try clear hi)
          refine hK.out _ _ ⟨(blk_cell BK231.out 0).trans rfl, (blk_cell BK231.out 1).trans rfl, (blk_cell BK231.out 2).trans rfl, (blk_cell BK231.out 3).trans rfl⟩ (fun hHeld => ?_)
          clear hK K
          refine norm_ (a' := ?_) ?_ ?_
          rotate_left
          ·show Act.put _ (some 55) _ = _
           simp only [Act.put, List.setIfInBounds_toArray, List.set_cons_zero, List.set_cons_succ, i64_w, i32_w]
           rfl
          refine pure_ (i := 9) (N := some 56) (v := ?_) (a' := ?_) #[true,true,true,true,true,true,true,true,true,true,false,false,false,false] rfl rfl (any_of HT_.out (by kernel_rfl)) (fun _ _ _ h => h) (Or.inl ⟨by rfl, ?_⟩) ?_ ?_
          rotate_left
          ·intro w'
           go_simp
           with_reducible rfl
          rotate_left
          ·simp only [Act.put, List.setIfInBounds_toArray, List.set_cons_zero, List.set_cons_succ, i64_w, i32_w]
           rfl
          refine pure_ (i := 10) (N := some 57) (v := ?_) (a' := ?_) #[true,true,true,true,true,true,true,true,true,true,true,false,false,false] rfl rfl (any_of HT_.out (by kernel_rfl)) (fun _ _ _ h => h) (Or.inl ⟨by rfl, ?_⟩) ?_ ?_
          rotate_left
          ·intro w'
           go_simp
           with_reducible rfl
          rotate_left
          ·simp only [Act.put, List.setIfInBounds_toArray, List.set_cons_zero, List.set_cons_succ, i64_w, i32_w]
           rfl
          refine one_ (i := 11) (N := some 58) #[true,true,true,true,true,true,true,true,true,true,true,true,false,false] rfl rfl (one_of HT_.out (by kernel_rfl)) (by decide) (fun K hK => ?_)
          refine goes_ Try.func61 (by kernel_rfl) rfl #[.pointer (some ⟨g, 0, none⟩), .int .i64 30] (by rfl) rfl rfl (by (try simp only [List.map_toArray, List.map_cons, List.map_nil]); first | done | rfl) ?_
          with_reducible refine (spec_l01Next.calls g s0_0 x1001_13 x1002_13 30 t254 t255 t256 w0 _ ?side1 ?side2 A51.out).mono ?_
          (case side1 => repeat (first | (with_reducible first | exact HI0.out | apply qh | apply qi | apply qj | apply qk | apply ql | refine IsS93.far ?_ NB0_231.out _)))
          (case side2 => repeat (first | (with_reducible first | exact HB.out | apply qm | apply qn | apply qo | refine below_set ?_ (IsS93.ge HI0.out) | refine below_set ?_ GE231.out)))
          rintro e w85 ⟨rfl, hi, hb, hk⟩
          refine ⟨_, rfl, ?_⟩
          have n0_ := Aside0.mk (Kd.R_mono (Kd.R_keep (IsS93.apart (show IsS93 w0 _ g s0_0 x1001_13 x1002_13 from by repeat (first | (with_reducible first | exact HI0.out | apply qh | apply qi | apply qj | apply qk | apply ql | refine IsS93.far ?_ NB0_231.out _))) (by (with_reducible repeat (first | apply qa | apply qb | apply qc)); exact HO_7.out) (by decide)) hk (fun _ h => h.2)) (fun _ h => h.1))
          have n1_ := Aside0.mk (KeepBut.blk hk (g' := gb231) (o := .cells #[.int .i64 t222, .int .i64 t225, .int .i64 (wrap64 (1 + t228)), .int .i64 x232003_13] 54 (0, 0)) (by (with_reducible repeat (first | refine blk_drewN ?_ _ | refine blk_drew ?_ | refine blk_alloc ?_ _)); exact BK231.out) NB231_0.out (by simp))
          have n2_ := Aside0.mk (Kd.R_mono (Kd.R_keep (IsS93.apart (show IsS93 w0 _ g s0_0 x1001_13 x1002_13 from by repeat (first | (with_reducible first | exact HI0.out | apply qh | apply qi | apply qj | apply qk | apply ql | refine IsS93.far ?_ NB0_231.out _))) (by (with_reducible repeat (first | apply qa | apply qb | apply qc)); exact HO243.out) (by decide)) hk (fun _ h => h.2)) (fun _ h => h.1))
          have n3_ := Aside0.mk (Kd.R_mono (Kd.R_keep (IsS93.apart (show IsS93 w0 _ g s0_0 x1001_13 x1002_13 from by repeat (first | (with_reducible first | exact HI0.out | apply qh | apply qi | apply qj | apply qk | apply ql | refine IsS93.far ?_ NB0_231.out _))) (by (with_reducible repeat (first | apply qa | apply qb | apply qc)); exact HO246.out) (by decide)) hk (fun _ h => h.2)) (fun _ h => h.1))
          have n4_ := Aside0.mk (KeepBut.trans (by repeat (first | (with_reducible first | exact HK.out | apply qd | apply qe | apply qf | apply qg | refine keep_far ?_ GW231.out _))) hk (.inl rfl))
          have n5_ := Aside0.mk (hb)
          have n6_ := Aside0.mk (hi)
          clear HO_7
          clear BK231
          clear HO243
          clear HO246
          clear HK
          clear HB
          clear HI0
          have HO_7 := n0_
          have BK231 := n1_
          have HO243 := n2_
          have HO246 := n3_
          have HK := n4_
          have HB := n5_
          have HI0 := n6_
          clear n0_ n1_ n2_ n3_ n4_ n5_ n6_
          (try clear hb)
          (try clear hb2)
          (try clear hk)
          (try clear hi)
          refine hK.out _ _ ⟨(blk_cell BK231.out 0).trans rfl, (blk_cell BK231.out 1).trans rfl, (blk_cell BK231.out 2).trans rfl, (blk_cell BK231.out 3).trans rfl⟩ (fun hHeld => ?_)
          clear hK K
          refine norm_ (a' := ?_) ?_ ?_
          rotate_left
          ·show Act.put _ (some 58) _ = _
           simp only [Act.put, List.setIfInBounds_toArray, List.set_cons_zero, List.set_cons_succ, i64_w, i32_w]
           rfl
          refine pure_ (i := 12) (N := some 59) (v := ?_) (a' := ?_) #[true,true,true,true,true,true,true,true,true,true,true,true,true,false] rfl rfl (any_of HT_.out (by kernel_rfl)) (fun _ _ _ h => h) (Or.inl ⟨by rfl, ?_⟩) ?_ ?_
          rotate_left
          ·intro w'
           go_simp
           with_reducible rfl
          rotate_left
          ·simp only [Act.put, List.setIfInBounds_toArray, List.set_cons_zero, List.set_cons_succ, i64_w, i32_w]
           rfl
          refine pure_ (i := 13) (N := some 60) (v := ?_) (a' := ?_) #[true,true,true,true,true,true,true,true,true,true,true,true,true,true] rfl rfl (any_of HT_.out (by kernel_rfl)) (fun _ _ _ h => h) (Or.inl ⟨by rfl, ?_⟩) ?_ ?_
          rotate_left
          ·intro w'
           go_simp
           with_reducible rfl
          rotate_left
          ·simp only [Act.put, List.setIfInBounds_toArray, List.set_cons_zero, List.set_cons_succ, i64_w, i32_w]
           rfl
          refine done_ (done_of HT_.out (by kernel_rfl)) ?_
          try go_wp2
          go_roundg kj13
          case measure => have := HK1.out; have := HJ13.out; omega
          case rel => exact ⟨(x7_1), (wrap64 (x8_1 - 1)), (t255), (t256), (by first | rfl | (simp; done) | (simp [*]; done)), H', ⟨by have := HK1.out; have := HJ13.out; omega⟩, ⟨by (with_reducible repeat (first | apply qa | apply qb | apply qc)); exact Kd.R_mono HO_7.out (fun _ hk => trivial)⟩, ⟨by repeat (first | (with_reducible first | exact HI0.out | apply qh | apply qi | apply qj | apply qk | apply ql | refine IsS93.far ?_ NB0_231.out _))⟩, ⟨by repeat (first | (with_reducible first | exact HK.out | apply qd | apply qe | apply qf | apply qg | refine keep_far ?_ GW231.out _))⟩, ⟨by repeat (first | (with_reducible first | exact HB.out | apply qm | apply qn | apply qo | refine below_set ?_ (IsS93.ge HI0.out) | refine below_set ?_ GE231.out))⟩⟩
       ·rw [if_neg c29] at H
        exact absurd H (by simp)
      ·rw [if_neg c28] at H
       exact absurd H (by simp)
   ·rw [if_neg c10] at H
    have c10b0 : decide (0 < x8_1) = false := decide_eq_false c10
    clear c10
    replace H := Option.bind_eq_some_iff.mp H
    obtain ⟨⟨t263, t264, t265⟩, A860, H⟩ := H
    replace H : (if t263 = 0 then ((spec_l01Pick.f s0_0 t264 t265 (([0, 12, 13] : List Int))).bind fun bt269 => (some (bt269.1, t213, x7_1, bt269.2.1, bt269.2.2))) else (if t263 = 1 then ((spec_l01Pick.f s0_0 t264 t265 (([(-1), 40, 41] : List Int))).bind fun bt275 => (some ((wrap64 (1 + t210)), bt275.1, x7_1, bt275.2.1, bt275.2.2))) else (if t263 = 2 then ((spec_l01Pick.f s0_0 t264 t265 (([0, 1, 5] : List Int))).bind fun bt281 => ((spec_l01Pick.f s0_0 bt281.2.1 bt281.2.2 (([0, 1, (-1)] : List Int))).bind fun bt287 => ((some (([(⟨0, 0, bt281.1, bt287.1⟩ : S54)] : List (S54)) : List (S54))).bind fun y290 => (if x7_1.length + y290.length < 4398046511104 then (some ((wrap64 (1 + t210)), t213, (x7_1 ++ y290), bt287.2.1, bt287.2.2)) else (none))))) else (if t263 = 3 then (spec_l14Draw.l1 k1 (wrap64 (1 + t210)) (([] : List (S54))) 0 s0_0 t264 t265) else (some ((wrap64 (1 + t210)), t213, x7_1, t264, t265)))))) = some (r1, r2, r3, r4, r5) := H
    have A86 := Aside0.mk A860
    clear A860
    by_cases c87 : t263 = 0
    ·rw [if_pos c87] at H
     have c87b0 : (t263 == 0) = true := beq_iff_eq.mpr c87
     have c87b1 : (t263 != 0) = false := bne_eq_false_iff_eq.mpr c87
     clear c87
     obtain ⟨y266, hy266⟩ : ∃ y_ : List Int, y_ = (([0, 12, 13] : List Int)) := ⟨_, rfl⟩
     replace H : ((spec_l01Pick.f s0_0 t264 t265 y266).bind fun bt269 => (some (bt269.1, t213, x7_1, bt269.2.1, bt269.2.2))) = some (r1, r2, r3, r4, r5) := by first | (rw [hy266]; with_reducible exact H) | (have H2_ := (Option.bind_some _ _).symm.trans H; rw [hy266]; with_reducible exact H2_) | (have H2_ := (Option.bind_some _ _).symm.trans H; with_reducible exact H2_) | with_reducible exact H | (rw [hy266]; exact H) | exact H
     have Ny266 := Aside0.mk hy266
     clear hy266
     replace H := Option.bind_eq_some_iff.mp H
     obtain ⟨⟨t269, t270, t271⟩, A880, H⟩ := H
     replace H : (some (t269, t213, x7_1, t270, t271)) = some (r1, r2, r3, r4, r5) := H
     have A88 := Aside0.mk A880
     clear A880
     simp only [Option.some.injEq, Prod.mk.injEq] at H
     obtain ⟨rfl, rfl, rfl, rfl, rfl⟩ := H
     go_wp2_with (first | ((with_reducible refine gate_callee (f := 61) rfl ?_); refine goesL_ (some 66) rfl rfl Try.func61 (by kernel_rfl) rfl #[.pointer (some ⟨g, 0, none⟩), .int .i64 40] rfl (by (try simp only [List.map_toArray, List.map_cons, List.map_nil]); first | done | rfl) ?_; (with_reducible refine (spec_l01Next.calls g s0_0 x1001_1 x1002_1 40 t263 t264 t265 w0 _ ?side1 ?side2 A86.out).mono ?_); (case side1 => repeat (first | (with_reducible first | exact HI0.out | apply qh | apply qi | apply qj | apply qk | apply ql))); (case side2 => repeat (first | (with_reducible first | exact HB.out | apply qm | apply qn | apply qo | refine below_set ?_ (IsS93.ge HI0.out)))); rintro e w89 ⟨rfl, hi, hb, hk⟩; refine ⟨_, rfl, ?_⟩; have n0_ := Aside0.mk (Kd.R_mono (Kd.R_keep (IsS93.apart (show IsS93 w0 _ g s0_0 x1001_1 x1002_1 from by repeat (first | (with_reducible first | exact HI0.out | apply qh | apply qi | apply qj | apply qk | apply ql))) (by (with_reducible repeat (first | apply qa | apply qb | apply qc)); exact HO_7.out) (by decide)) hk (fun _ h => h.2)) (fun _ h => h.1)); have n1_ := Aside0.mk (KeepBut.trans (by repeat (first | (with_reducible first | exact HK.out | apply qd | apply qe | apply qf | apply qg))) hk (.inl rfl)); have n2_ := Aside0.mk (hb); have n3_ := Aside0.mk (hi); clear HO_7; clear HK; clear HB; clear HI0; have HO_7 := n0_; have HK := n1_; have HB := n2_; have HI0 := n3_; clear n0_ n1_ n2_ n3_; (try clear hb); (try clear hk); (try clear hi)) | ((with_reducible refine gate_dst (N := 70) rfl ?_); refine Kd.R_lit (Kd.int .i64) _ 2 ?hg (N := 70) ?hd (xs := ([0, 12, 13] : List Int)) (inner := [.int .i64 0, .int .i64 12, .int .i64 13]) (ok := fun _ => True) (okp := fun _ => True) ?hr ?hp (fun _ hk => hk) trivial (Below.refl _ _) (Nat.le_refl _) (by simp) ?_; (case hd => rfl); (case hg => rfl); (case hr => first | (go_simp; done) | (go_simp; rfl)); (case hp => exact (Reps.one (show Kd.M (Kd.int .i64) _ _ _ 0 [.int .i64 0] from rfl) (Reps.one (show Kd.M (Kd.int .i64) _ _ _ 12 [.int .i64 12] from rfl) (Reps.one (show Kd.M (Kd.int .i64) _ _ _ 13 [.int .i64 13] from rfl) (Reps.none _ _))))); intro v267 w90 ho91 hb hg_ hnew_; clear hg_ hnew_; (first | rw [← Ny266.out] at ho91 | (simp only [Int.reduceToNat] at ho91; rw [← Ny266.out] at ho91)); have n0_ := Aside0.mk (Kd.R_below (by (with_reducible repeat (first | apply qa | apply qb | apply qc)); exact HO_7.out) hb); have n1_ := Aside0.mk (Kd.R_lower ho91 (keep_size (w := w) (g := g) (row := none) (by repeat (first | (with_reducible first | exact HK.out | apply qd | apply qe | apply qf | apply qg))))); have n2_ := Aside0.mk (IsS93.below (by repeat (first | (with_reducible first | exact HI0.out | apply qh | apply qi | apply qj | apply qk | apply ql))) hb); have n3_ := Aside0.mk (KeepBut.trans (by repeat (first | (with_reducible first | exact HK.out | apply qd | apply qe | apply qf | apply qg))) (KeepBut.of_below hb g none) (.inl rfl)); have n4_ := Aside0.mk (below_step (by repeat (first | (with_reducible first | exact HB.out | apply qm | apply qn | apply qo | refine below_set ?_ (IsS93.ge HI0.out)))) hb); clear HO_7; clear HI0; clear HK; clear HB; have HO_7 := n0_; have HO268 := n1_; have HI0 := n2_; have HK := n3_; have HB := n4_; clear n0_ n1_ n2_ n3_ n4_; clear hb ho91; obtain ⟨Ao92, co92, eo92⟩ := Kd.R_slice HO268.out; subst eo92) | ((with_reducible refine gate_callee (f := 78) rfl ?_); refine goesL_ (some 71) rfl rfl Try.func78 (by kernel_rfl) rfl #[.pointer (some ⟨g, 0, none⟩), .slice Ao92 y266.length co92] rfl (by (try simp only [List.map_toArray, List.map_cons, List.map_nil]); first | done | rfl) ?_; (with_reducible refine (spec_l01Pick.calls g s0_0 t264 t265 _ _ y266 t269 t270 t271 w0 _ ?side1 ?side2 ?side3 ?side4 ?side5 A88.out).mono ?_); (case side1 => repeat (first | (with_reducible first | exact HI0.out | apply qh | apply qi | apply qj | apply qk | apply ql))); (case side2 => repeat (first | (with_reducible first | exact HB.out | apply qm | apply qn | apply qo | refine below_set ?_ (IsS93.ge HI0.out)))); (case side3 => repeat (first | exact (Kd.R_reads' HO268.out).2.2 | (with_reducible refine Kd.C_alloc ?_ _) | (with_reducible refine Kd.C_drewN ?_ _) | (with_reducible refine Kd.C_drew ?_))); (case side4 => exact (Kd.R_reads' HO268.out).2.1); (case side5 => exact far_slice (IsS93.own_ne HI0.out HO268.out (by decide))); rintro e w93 ⟨rfl, hi, hb, hk⟩; refine ⟨_, rfl, ?_⟩; have n0_ := Aside0.mk (Kd.R_mono (Kd.R_keep (IsS93.apart (show IsS93 w0 _ g s0_0 t264 t265 from by repeat (first | (with_reducible first | exact HI0.out | apply qh | apply qi | apply qj | apply qk | apply ql))) (by (with_reducible repeat (first | apply qa | apply qb | apply qc)); exact HO_7.out) (by decide)) hk (fun _ h => h.2)) (fun _ h => h.1)); have n1_ := Aside0.mk (Kd.R_mono (Kd.R_keep (IsS93.apart (show IsS93 w0 _ g s0_0 t264 t265 from by repeat (first | (with_reducible first | exact HI0.out | apply qh | apply qi | apply qj | apply qk | apply ql))) (by (with_reducible repeat (first | apply qa | apply qb | apply qc)); exact HO268.out) (by decide)) hk (fun _ h => h.2)) (fun _ h => h.1)); have n2_ := Aside0.mk (KeepBut.trans (by repeat (first | (with_reducible first | exact HK.out | apply qd | apply qe | apply qf | apply qg))) hk (.inl rfl)); have n3_ := Aside0.mk (hb); have n4_ := Aside0.mk (hi); clear HO_7; clear HO268; clear HK; clear HB; clear HI0; have HO_7 := n0_; have HO268 := n1_; have HK := n2_; have HB := n3_; have HI0 := n4_; clear n0_ n1_ n2_ n3_ n4_; (try clear hb); (try clear hk); (try clear hi)))
     go_ret3
     exact ⟨_, by first | rfl | (simp [errW_none, errW_some] <;> rfl) | (simp [*, errW_none, errW_some] <;> rfl), by (with_reducible repeat (first | apply qa | apply qb | apply qc)); exact HO_7.out, by repeat (first | (with_reducible first | exact HI0.out | apply qh | apply qi | apply qj | apply qk | apply ql)), by repeat (first | (with_reducible first | exact HB.out | apply qm | apply qn | apply qo | refine below_set ?_ (IsS93.ge HI0.out))), by repeat (first | (with_reducible first | exact HK.out | apply qd | apply qe | apply qf | apply qg))⟩
    ·rw [if_neg c87] at H
     have c87b0 : (t263 == 0) = false := beq_eq_false_iff_ne.mpr c87
     have c87b1 : (t263 != 0) = true := bne_iff_ne.mpr c87
     by_cases c94 : t263 = 1
     ·rw [if_pos c94] at H
      have c94b0 : (t263 == 1) = true := beq_iff_eq.mpr c94
      have c94b1 : (t263 != 1) = false := bne_eq_false_iff_eq.mpr c94
      clear c94
      obtain ⟨y272, hy272⟩ : ∃ y_ : List Int, y_ = (([(-1), 40, 41] : List Int)) := ⟨_, rfl⟩
      replace H : ((spec_l01Pick.f s0_0 t264 t265 y272).bind fun bt275 => (some ((wrap64 (1 + t210)), bt275.1, x7_1, bt275.2.1, bt275.2.2))) = some (r1, r2, r3, r4, r5) := by first | (rw [hy272]; with_reducible exact H) | (have H2_ := (Option.bind_some _ _).symm.trans H; rw [hy272]; with_reducible exact H2_) | (have H2_ := (Option.bind_some _ _).symm.trans H; with_reducible exact H2_) | with_reducible exact H | (rw [hy272]; exact H) | exact H
      have Ny272 := Aside0.mk hy272
      clear hy272
      replace H := Option.bind_eq_some_iff.mp H
      obtain ⟨⟨t275, t276, t277⟩, A950, H⟩ := H
      replace H : (some ((wrap64 (1 + t210)), t275, x7_1, t276, t277)) = some (r1, r2, r3, r4, r5) := H
      have A95 := Aside0.mk A950
      clear A950
      simp only [Option.some.injEq, Prod.mk.injEq] at H
      obtain ⟨rfl, rfl, rfl, rfl, rfl⟩ := H
      go_wp2_with (first | ((with_reducible refine gate_callee (f := 61) rfl ?_); refine goesL_ (some 66) rfl rfl Try.func61 (by kernel_rfl) rfl #[.pointer (some ⟨g, 0, none⟩), .int .i64 40] rfl (by (try simp only [List.map_toArray, List.map_cons, List.map_nil]); first | done | rfl) ?_; (with_reducible refine (spec_l01Next.calls g s0_0 x1001_1 x1002_1 40 t263 t264 t265 w0 _ ?side1 ?side2 A86.out).mono ?_); (case side1 => repeat (first | (with_reducible first | exact HI0.out | apply qh | apply qi | apply qj | apply qk | apply ql))); (case side2 => repeat (first | (with_reducible first | exact HB.out | apply qm | apply qn | apply qo | refine below_set ?_ (IsS93.ge HI0.out)))); rintro e w96 ⟨rfl, hi, hb, hk⟩; refine ⟨_, rfl, ?_⟩; have n0_ := Aside0.mk (Kd.R_mono (Kd.R_keep (IsS93.apart (show IsS93 w0 _ g s0_0 x1001_1 x1002_1 from by repeat (first | (with_reducible first | exact HI0.out | apply qh | apply qi | apply qj | apply qk | apply ql))) (by (with_reducible repeat (first | apply qa | apply qb | apply qc)); exact HO_7.out) (by decide)) hk (fun _ h => h.2)) (fun _ h => h.1)); have n1_ := Aside0.mk (KeepBut.trans (by repeat (first | (with_reducible first | exact HK.out | apply qd | apply qe | apply qf | apply qg))) hk (.inl rfl)); have n2_ := Aside0.mk (hb); have n3_ := Aside0.mk (hi); clear HO_7; clear HK; clear HB; clear HI0; have HO_7 := n0_; have HK := n1_; have HB := n2_; have HI0 := n3_; clear n0_ n1_ n2_ n3_; (try clear hb); (try clear hk); (try clear hi)) | ((with_reducible refine gate_dst (N := 75) rfl ?_); refine Kd.R_lit (Kd.int .i64) _ 2 ?hg (N := 75) ?hd (xs := ([(-1), 40, 41] : List Int)) (inner := [.int .i64 (-1), .int .i64 40, .int .i64 41]) (ok := fun _ => True) (okp := fun _ => True) ?hr ?hp (fun _ hk => hk) trivial (Below.refl _ _) (Nat.le_refl _) (by simp) ?_; (case hd => rfl); (case hg => rfl); (case hr => first | (go_simp; done) | (go_simp; rfl)); (case hp => exact (Reps.one (show Kd.M (Kd.int .i64) _ _ _ (-1) [.int .i64 (-1)] from rfl) (Reps.one (show Kd.M (Kd.int .i64) _ _ _ 40 [.int .i64 40] from rfl) (Reps.one (show Kd.M (Kd.int .i64) _ _ _ 41 [.int .i64 41] from rfl) (Reps.none _ _))))); intro v273 w97 ho98 hb hg_ hnew_; clear hg_ hnew_; (first | rw [← Ny272.out] at ho98 | (simp only [Int.reduceToNat] at ho98; rw [← Ny272.out] at ho98)); have n0_ := Aside0.mk (Kd.R_below (by (with_reducible repeat (first | apply qa | apply qb | apply qc)); exact HO_7.out) hb); have n1_ := Aside0.mk (Kd.R_lower ho98 (keep_size (w := w) (g := g) (row := none) (by repeat (first | (with_reducible first | exact HK.out | apply qd | apply qe | apply qf | apply qg))))); have n2_ := Aside0.mk (IsS93.below (by repeat (first | (with_reducible first | exact HI0.out | apply qh | apply qi | apply qj | apply qk | apply ql))) hb); have n3_ := Aside0.mk (KeepBut.trans (by repeat (first | (with_reducible first | exact HK.out | apply qd | apply qe | apply qf | apply qg))) (KeepBut.of_below hb g none) (.inl rfl)); have n4_ := Aside0.mk (below_step (by repeat (first | (with_reducible first | exact HB.out | apply qm | apply qn | apply qo | refine below_set ?_ (IsS93.ge HI0.out)))) hb); clear HO_7; clear HI0; clear HK; clear HB; have HO_7 := n0_; have HO274 := n1_; have HI0 := n2_; have HK := n3_; have HB := n4_; clear n0_ n1_ n2_ n3_ n4_; clear hb ho98; obtain ⟨Ao99, co99, eo99⟩ := Kd.R_slice HO274.out; subst eo99) | ((with_reducible refine gate_callee (f := 78) rfl ?_); refine goesL_ (some 76) rfl rfl Try.func78 (by kernel_rfl) rfl #[.pointer (some ⟨g, 0, none⟩), .slice Ao99 y272.length co99] rfl (by (try simp only [List.map_toArray, List.map_cons, List.map_nil]); first | done | rfl) ?_; (with_reducible refine (spec_l01Pick.calls g s0_0 t264 t265 _ _ y272 t275 t276 t277 w0 _ ?side1 ?side2 ?side3 ?side4 ?side5 A95.out).mono ?_); (case side1 => repeat (first | (with_reducible first | exact HI0.out | apply qh | apply qi | apply qj | apply qk | apply ql))); (case side2 => repeat (first | (with_reducible first | exact HB.out | apply qm | apply qn | apply qo | refine below_set ?_ (IsS93.ge HI0.out)))); (case side3 => repeat (first | exact (Kd.R_reads' HO274.out).2.2 | (with_reducible refine Kd.C_alloc ?_ _) | (with_reducible refine Kd.C_drewN ?_ _) | (with_reducible refine Kd.C_drew ?_))); (case side4 => exact (Kd.R_reads' HO274.out).2.1); (case side5 => exact far_slice (IsS93.own_ne HI0.out HO274.out (by decide))); rintro e w100 ⟨rfl, hi, hb, hk⟩; refine ⟨_, rfl, ?_⟩; have n0_ := Aside0.mk (Kd.R_mono (Kd.R_keep (IsS93.apart (show IsS93 w0 _ g s0_0 t264 t265 from by repeat (first | (with_reducible first | exact HI0.out | apply qh | apply qi | apply qj | apply qk | apply ql))) (by (with_reducible repeat (first | apply qa | apply qb | apply qc)); exact HO_7.out) (by decide)) hk (fun _ h => h.2)) (fun _ h => h.1)); have n1_ := Aside0.mk (Kd.R_mono (Kd.R_keep (IsS93.apart (show IsS93 w0 _ g s0_0 t264 t265 from by repeat (first | (with_reducible first | exact HI0.out | apply qh | apply qi | apply qj | apply qk | apply ql))) (by (with_reducible repeat (first | apply qa | apply qb | apply qc)); exact HO274.out) (by decide)) hk (fun _ h => h.2)) (fun _ h => h.1)); have n2_ := Aside0.mk (KeepBut.trans (by repeat (first | (with_reducible first | exact HK.out | apply qd | apply qe | apply qf | apply qg))) hk (.inl rfl)); have n3_ := Aside0.mk (hb); have n4_ := Aside0.mk (hi); clear HO_7; clear HO274; clear HK; clear HB; clear HI0; have HO_7 := n0_; have HO274 := n1_; have HK := n2_; have HB := n3_; have HI0 := n4_; clear n0_ n1_ n2_ n3_ n4_; (try clear hb); (try clear hk); (try clear hi)))
      go_ret3
      exact ⟨_, by first | rfl | (simp [errW_none, errW_some] <;> rfl) | (simp [*, errW_none, errW_some] <;> rfl), by (with_reducible repeat (first | apply qa | apply qb | apply qc)); exact HO_7.out, by repeat (first | (with_reducible first | exact HI0.out | apply qh | apply qi | apply qj | apply qk | apply ql)), by repeat (first | (with_reducible first | exact HB.out | apply qm | apply qn | apply qo | refine below_set ?_ (IsS93.ge HI0.out))), by repeat (first | (with_reducible first | exact HK.out | apply qd | apply qe | apply qf | apply qg))⟩
     ·rw [if_neg c94] at H
      have c94b0 : (t263 == 1) = false := beq_eq_false_iff_ne.mpr c94
      have c94b1 : (t263 != 1) = true := bne_iff_ne.mpr c94
      by_cases c101 : t263 = 2
      ·rw [if_pos c101] at H
       have c101b0 : (t263 == 2) = true := beq_iff_eq.mpr c101
       have c101b1 : (t263 != 2) = false := bne_eq_false_iff_eq.mpr c101
       clear c101
       obtain ⟨y278, hy278⟩ : ∃ y_ : List Int, y_ = (([0, 1, 5] : List Int)) := ⟨_, rfl⟩
       replace H : ((spec_l01Pick.f s0_0 t264 t265 y278).bind fun bt281 => ((spec_l01Pick.f s0_0 bt281.2.1 bt281.2.2 (([0, 1, (-1)] : List Int))).bind fun bt287 => ((some (([(⟨0, 0, bt281.1, bt287.1⟩ : S54)] : List (S54)) : List (S54))).bind fun y290 => (if x7_1.length + y290.length < 4398046511104 then (some ((wrap64 (1 + t210)), t213, (x7_1 ++ y290), bt287.2.1, bt287.2.2)) else (none))))) = some (r1, r2, r3, r4, r5) := by first | (rw [hy278]; with_reducible exact H) | (have H2_ := (Option.bind_some _ _).symm.trans H; rw [hy278]; with_reducible exact H2_) | (have H2_ := (Option.bind_some _ _).symm.trans H; with_reducible exact H2_) | with_reducible exact H | (rw [hy278]; exact H) | exact H
       have Ny278 := Aside0.mk hy278
       clear hy278
       replace H := Option.bind_eq_some_iff.mp H
       obtain ⟨⟨t281, t282, t283⟩, A1020, H⟩ := H
       replace H : ((spec_l01Pick.f s0_0 t282 t283 (([0, 1, (-1)] : List Int))).bind fun bt287 => ((some (([(⟨0, 0, t281, bt287.1⟩ : S54)] : List (S54)) : List (S54))).bind fun y290 => (if x7_1.length + y290.length < 4398046511104 then (some ((wrap64 (1 + t210)), t213, (x7_1 ++ y290), bt287.2.1, bt287.2.2)) else (none)))) = some (r1, r2, r3, r4, r5) := H
       have A102 := Aside0.mk A1020
       clear A1020
       obtain ⟨y284, hy284⟩ : ∃ y_ : List Int, y_ = (([0, 1, (-1)] : List Int)) := ⟨_, rfl⟩
       replace H : ((spec_l01Pick.f s0_0 t282 t283 y284).bind fun bt287 => ((some (([(⟨0, 0, t281, bt287.1⟩ : S54)] : List (S54)) : List (S54))).bind fun y290 => (if x7_1.length + y290.length < 4398046511104 then (some ((wrap64 (1 + t210)), t213, (x7_1 ++ y290), bt287.2.1, bt287.2.2)) else (none)))) = some (r1, r2, r3, r4, r5) := by first | (rw [hy284]; with_reducible exact H) | (have H2_ := (Option.bind_some _ _).symm.trans H; rw [hy284]; with_reducible exact H2_) | (have H2_ := (Option.bind_some _ _).symm.trans H; with_reducible exact H2_) | with_reducible exact H | (rw [hy284]; exact H) | exact H
       have Ny284 := Aside0.mk hy284
       clear hy284
       replace H := Option.bind_eq_some_iff.mp H
       obtain ⟨⟨t287, t288, t289⟩, A1030, H⟩ := H
       replace H : ((some (([(⟨0, 0, t281, t287⟩ : S54)] : List (S54)) : List (S54))).bind fun y290 => (if x7_1.length + y290.length < 4398046511104 then (some ((wrap64 (1 + t210)), t213, (x7_1 ++ y290), t288, t289)) else (none))) = some (r1, r2, r3, r4, r5) := H
       have A103 := Aside0.mk A1030
       clear A1030
       obtain ⟨y290, hy290⟩ : ∃ y_ : List (S54), y_ = (([(⟨0, 0, t281, t287⟩ : S54)] : List (S54))) := ⟨_, rfl⟩
       replace H : (if x7_1.length + y290.length < 4398046511104 then (some ((wrap64 (1 + t210)), t213, (x7_1 ++ y290), t288, t289)) else (none)) = some (r1, r2, r3, r4, r5) := by first | (rw [hy290]; with_reducible exact H) | (have H2_ := (Option.bind_some _ _).symm.trans H; rw [hy290]; with_reducible exact H2_) | (have H2_ := (Option.bind_some _ _).symm.trans H; with_reducible exact H2_) | with_reducible exact H | (rw [hy290]; exact H) | exact H
       have Ny290 := Aside0.mk hy290
       clear hy290
       by_cases c104 : x7_1.length + y290.length < 4398046511104
       ·rw [if_pos c104] at H
        have LMc104 := Aside0.mk c104
        clear c104
        obtain ⟨y293, hy293⟩ : ∃ y_ : List (S54), y_ = (x7_1 ++ y290) := ⟨_, rfl⟩
        replace H : (some ((wrap64 (1 + t210)), t213, y293, t288, t289)) = some (r1, r2, r3, r4, r5) := by first | (rw [hy293]; with_reducible exact H) | (have H2_ := (Option.bind_some _ _).symm.trans H; rw [hy293]; with_reducible exact H2_) | (have H2_ := (Option.bind_some _ _).symm.trans H; with_reducible exact H2_) | with_reducible exact H | (rw [hy293]; exact H) | exact H
        have Ny293 := Aside0.mk hy293
        clear hy293
        simp only [Option.some.injEq, Prod.mk.injEq] at H
        obtain ⟨rfl, rfl, rfl, rfl, rfl⟩ := H
        go_wp2_with (first | ((with_reducible refine gate_callee (f := 61) rfl ?_); refine goesL_ (some 66) rfl rfl Try.func61 (by kernel_rfl) rfl #[.pointer (some ⟨g, 0, none⟩), .int .i64 40] rfl (by (try simp only [List.map_toArray, List.map_cons, List.map_nil]); first | done | rfl) ?_; (with_reducible refine (spec_l01Next.calls g s0_0 x1001_1 x1002_1 40 t263 t264 t265 w0 _ ?side1 ?side2 A86.out).mono ?_); (case side1 => repeat (first | (with_reducible first | exact HI0.out | apply qh | apply qi | apply qj | apply qk | apply ql))); (case side2 => repeat (first | (with_reducible first | exact HB.out | apply qm | apply qn | apply qo | refine below_set ?_ (IsS93.ge HI0.out)))); rintro e w105 ⟨rfl, hi, hb, hk⟩; refine ⟨_, rfl, ?_⟩; have n0_ := Aside0.mk (Kd.R_mono (Kd.R_keep (IsS93.apart (show IsS93 w0 _ g s0_0 x1001_1 x1002_1 from by repeat (first | (with_reducible first | exact HI0.out | apply qh | apply qi | apply qj | apply qk | apply ql))) (by (with_reducible repeat (first | apply qa | apply qb | apply qc)); exact HO_7.out) (by decide)) hk (fun _ h => h.2)) (fun _ h => h.1)); have n1_ := Aside0.mk (KeepBut.trans (by repeat (first | (with_reducible first | exact HK.out | apply qd | apply qe | apply qf | apply qg))) hk (.inl rfl)); have n2_ := Aside0.mk (hb); have n3_ := Aside0.mk (hi); clear HO_7; clear HK; clear HB; clear HI0; have HO_7 := n0_; have HK := n1_; have HB := n2_; have HI0 := n3_; clear n0_ n1_ n2_ n3_; (try clear hb); (try clear hk); (try clear hi)) | ((with_reducible refine gate_dst (N := 81) rfl ?_); refine Kd.R_lit (Kd.int .i64) _ 2 ?hg (N := 81) ?hd (xs := ([0, 1, 5] : List Int)) (inner := [.int .i64 0, .int .i64 1, .int .i64 5]) (ok := fun _ => True) (okp := fun _ => True) ?hr ?hp (fun _ hk => hk) trivial (Below.refl _ _) (Nat.le_refl _) (by simp) ?_; (case hd => rfl); (case hg => rfl); (case hr => first | (go_simp; done) | (go_simp; rfl)); (case hp => exact (Reps.one (show Kd.M (Kd.int .i64) _ _ _ 0 [.int .i64 0] from rfl) (Reps.one (show Kd.M (Kd.int .i64) _ _ _ 1 [.int .i64 1] from rfl) (Reps.one (show Kd.M (Kd.int .i64) _ _ _ 5 [.int .i64 5] from rfl) (Reps.none _ _))))); intro v279 w106 ho107 hb hg_ hnew_; clear hg_ hnew_; (first | rw [← Ny278.out] at ho107 | (simp only [Int.reduceToNat] at ho107; rw [← Ny278.out] at ho107)); have n0_ := Aside0.mk (Kd.R_below (by (with_reducible repeat (first | apply qa | apply qb | apply qc)); exact HO_7.out) hb); have n1_ := Aside0.mk (Kd.R_lower ho107 (keep_size (w := w) (g := g) (row := none) (by repeat (first | (with_reducible first | exact HK.out | apply qd | apply qe | apply qf | apply qg))))); have n2_ := Aside0.mk (IsS93.below (by repeat (first | (with_reducible first | exact HI0.out | apply qh | apply qi | apply qj | apply qk | apply ql))) hb); have n3_ := Aside0.mk (KeepBut.trans (by repeat (first | (with_reducible first | exact HK.out | apply qd | apply qe | apply qf | apply qg))) (KeepBut.of_below hb g none) (.inl rfl)); have n4_ := Aside0.mk (below_step (by repeat (first | (with_reducible first | exact HB.out | apply qm | apply qn | apply qo | refine below_set ?_ (IsS93.ge HI0.out)))) hb); clear HO_7; clear HI0; clear HK; clear HB; have HO_7 := n0_; have HO280 := n1_; have HI0 := n2_; have HK := n3_; have HB := n4_; clear n0_ n1_ n2_ n3_ n4_; clear hb ho107; obtain ⟨Ao108, co108, eo108⟩ := Kd.R_slice HO280.out; subst eo108) | ((with_reducible refine gate_callee (f := 78) rfl ?_); refine goesL_ (some 82) rfl rfl Try.func78 (by kernel_rfl) rfl #[.pointer (some ⟨g, 0, none⟩), .slice Ao108 y278.length co108] rfl (by (try simp only [List.map_toArray, List.map_cons, List.map_nil]); first | done | rfl) ?_; (with_reducible refine (spec_l01Pick.calls g s0_0 t264 t265 _ _ y278 t281 t282 t283 w0 _ ?side1 ?side2 ?side3 ?side4 ?side5 A102.out).mono ?_); (case side1 => repeat (first | (with_reducible first | exact HI0.out | apply qh | apply qi | apply qj | apply qk | apply ql))); (case side2 => repeat (first | (with_reducible first | exact HB.out | apply qm | apply qn | apply qo | refine below_set ?_ (IsS93.ge HI0.out)))); (case side3 => repeat (first | exact (Kd.R_reads' HO280.out).2.2 | (with_reducible refine Kd.C_alloc ?_ _) | (with_reducible refine Kd.C_drewN ?_ _) | (with_reducible refine Kd.C_drew ?_))); (case side4 => exact (Kd.R_reads' HO280.out).2.1); (case side5 => exact far_slice (IsS93.own_ne HI0.out HO280.out (by decide))); rintro e w109 ⟨rfl, hi, hb, hk⟩; refine ⟨_, rfl, ?_⟩; have n0_ := Aside0.mk (Kd.R_mono (Kd.R_keep (IsS93.apart (show IsS93 w0 _ g s0_0 t264 t265 from by repeat (first | (with_reducible first | exact HI0.out | apply qh | apply qi | apply qj | apply qk | apply ql))) (by (with_reducible repeat (first | apply qa | apply qb | apply qc)); exact HO_7.out) (by decide)) hk (fun _ h => h.2)) (fun _ h => h.1)); have n1_ := Aside0.mk (Kd.R_mono (Kd.R_keep (IsS93.apart (show IsS93 w0 _ g s0_0 t264 t265 from by repeat (first | (with_reducible first | exact HI0.out | apply qh | apply qi | apply qj | apply qk | apply ql))) (by (with_reducible repeat (first | apply qa | apply qb | apply qc)); exact HO280.out) (by decide)) hk (fun _ h => h.2)) (fun _ h => h.1)); have n2_ := Aside0.mk (KeepBut.trans (by repeat (first | (with_reducible first | exact HK.out | apply qd | apply qe | apply qf | apply qg))) hk (.inl rfl)); have n3_ := Aside0.mk (hb); have n4_ := Aside0.mk (hi); clear HO_7; clear HO280; clear HK; clear HB; clear HI0; have HO_7 := n0_; have HO280 := n1_; have HK := n2_; have HB := n3_; have HI0 := n4_; clear n0_ n1_ n2_ n3_ n4_; (try clear hb); (try clear hk); (try clear hi)) | ((with_reducible refine gate_dst (N := 84) rfl ?_); refine Kd.R_lit (Kd.int .i64) _ 2 ?hg (N := 84) ?hd (xs := ([0, 1, (-1)] : List Int)) (inner := [.int .i64 0, .int .i64 1, .int .i64 (-1)]) (ok := fun _ => True) (okp := fun _ => True) ?hr ?hp (fun _ hk => hk) trivial (Below.refl _ _) (Nat.le_refl _) (by simp) ?_; (case hd => rfl); (case hg => rfl); (case hr => first | (go_simp; done) | (go_simp; rfl)); (case hp => exact (Reps.one (show Kd.M (Kd.int .i64) _ _ _ 0 [.int .i64 0] from rfl) (Reps.one (show Kd.M (Kd.int .i64) _ _ _ 1 [.int .i64 1] from rfl) (Reps.one (show Kd.M (Kd.int .i64) _ _ _ (-1) [.int .i64 (-1)] from rfl) (Reps.none _ _))))); intro v285 w110 ho111 hb hg_ hnew_; clear hg_ hnew_; (first | rw [← Ny284.out] at ho111 | (simp only [Int.reduceToNat] at ho111; rw [← Ny284.out] at ho111)); have n0_ := Aside0.mk (Kd.R_below (by (with_reducible repeat (first | apply qa | apply qb | apply qc)); exact HO_7.out) hb); have n1_ := Aside0.mk (Kd.R_elder' (by (with_reducible repeat (first | apply qa | apply qb | apply qc)); exact HO280.out) (Kd.R_base ho111) hb); have n2_ := Aside0.mk (Kd.R_lower (Kd.R_new' ho111 (Kd.R_lt (by (with_reducible repeat (first | apply qa | apply qb | apply qc)); exact HO280.out))) (keep_size (w := w) (g := g) (row := none) (by repeat (first | (with_reducible first | exact HK.out | apply qd | apply qe | apply qf | apply qg))))); have n3_ := Aside0.mk (IsS93.below (by repeat (first | (with_reducible first | exact HI0.out | apply qh | apply qi | apply qj | apply qk | apply ql))) hb); have n4_ := Aside0.mk (KeepBut.trans (by repeat (first | (with_reducible first | exact HK.out | apply qd | apply qe | apply qf | apply qg))) (KeepBut.of_below hb g none) (.inl rfl)); have n5_ := Aside0.mk (below_step (by repeat (first | (with_reducible first | exact HB.out | apply qm | apply qn | apply qo | refine below_set ?_ (IsS93.ge HI0.out)))) hb); clear HO_7; clear HO280; clear HI0; clear HK; clear HB; have HO_7 := n0_; have HO280 := n1_; have HO286 := n2_; have HI0 := n3_; have HK := n4_; have HB := n5_; clear n0_ n1_ n2_ n3_ n4_ n5_; clear hb ho111; obtain ⟨Ao112, co112, eo112⟩ := Kd.R_slice HO286.out; subst eo112) | ((with_reducible refine gate_callee (f := 78) rfl ?_); refine goesL_ (some 85) rfl rfl Try.func78 (by kernel_rfl) rfl #[.pointer (some ⟨g, 0, none⟩), .slice Ao112 y284.length co112] rfl (by (try simp only [List.map_toArray, List.map_cons, List.map_nil]); first | done | rfl) ?_; (with_reducible refine (spec_l01Pick.calls g s0_0 t282 t283 _ _ y284 t287 t288 t289 w0 _ ?side1 ?side2 ?side3 ?side4 ?side5 A103.out).mono ?_); (case side1 => repeat (first | (with_reducible first | exact HI0.out | apply qh | apply qi | apply qj | apply qk | apply ql))); (case side2 => repeat (first | (with_reducible first | exact HB.out | apply qm | apply qn | apply qo | refine below_set ?_ (IsS93.ge HI0.out)))); (case side3 => repeat (first | exact (Kd.R_reads' HO286.out).2.2 | (with_reducible refine Kd.C_alloc ?_ _) | (with_reducible refine Kd.C_drewN ?_ _) | (with_reducible refine Kd.C_drew ?_))); (case side4 => exact (Kd.R_reads' HO286.out).2.1); (case side5 => exact far_slice (IsS93.own_ne HI0.out HO286.out (by decide))); rintro e w113 ⟨rfl, hi, hb, hk⟩; refine ⟨_, rfl, ?_⟩; have n0_ := Aside0.mk (Kd.R_mono (Kd.R_keep (IsS93.apart (show IsS93 w0 _ g s0_0 t282 t283 from by repeat (first | (with_reducible first | exact HI0.out | apply qh | apply qi | apply qj | apply qk | apply ql))) (by (with_reducible repeat (first | apply qa | apply qb | apply qc)); exact HO_7.out) (by decide)) hk (fun _ h => h.2)) (fun _ h => h.1)); have n1_ := Aside0.mk (Kd.R_mono (Kd.R_keep (IsS93.apart (show IsS93 w0 _ g s0_0 t282 t283 from by repeat (first | (with_reducible first | exact HI0.out | apply qh | apply qi | apply qj | apply qk | apply ql))) (by (with_reducible repeat (first | apply qa | apply qb | apply qc)); exact HO280.out) (by decide)) hk (fun _ h => h.2)) (fun _ h => h.1)); have n2_ := Aside0.mk (Kd.R_mono (Kd.R_keep (IsS93.apart (show IsS93 w0 _ g s0_0 t282 t283 from by repeat (first | (with_reducible first | exact HI0.out | apply qh | apply qi | apply qj | apply qk | apply ql))) (by (with_reducible repeat (first | apply qa | apply qb | apply qc)); exact HO286.out) (by decide)) hk (fun _ h => h.2)) (fun _ h => h.1)); have n3_ := Aside0.mk (KeepBut.trans (by repeat (first | (with_reducible first | exact HK.out | apply qd | apply qe | apply qf | apply qg))) hk (.inl rfl)); have n4_ := Aside0.mk (hb); have n5_ := Aside0.mk (hi); clear HO_7; clear HO280; clear HO286; clear HK; clear HB; clear HI0; have HO_7 := n0_; have HO280 := n1_; have HO286 := n2_; have HK := n3_; have HB := n4_; have HI0 := n5_; clear n0_ n1_ n2_ n3_ n4_ n5_; (try clear hb); (try clear hk); (try clear hi)) | ((with_reducible refine gate_dst (N := 87) rfl ?_); refine Kd.R_lit k54 _ 54 ?hg (N := 87) ?hd (xs := ([(⟨0, 0, t281, t287⟩ : S54)] : List (S54))) (inner := [.int .i64 0, .int .i64 0, .int .i64 t281, .int .i64 t287]) (ok := fun _ => True) (okp := fun _ => True) ?hr ?hp (fun _ hk => hk) trivial (Below.refl _ _) (Nat.le_refl _) (by simp) ?_; (case hd => rfl); (case hg => rfl); (case hr => first | (go_simp; done) | (go_simp; rfl)); (case hp => exact (Reps.c4 (show Kd.M k54 _ _ _ (⟨0, 0, t281, t287⟩ : S54) [.int .i64 0, .int .i64 0, .int .i64 t281, .int .i64 t287] from (k54_mkM _ _ _ (⟨0, 0, t281, t287⟩ : S54) )) (Reps.none _ _))); intro v291 w114 ho115 hb hg_ hnew_; clear hg_ hnew_; (first | rw [← Ny290.out] at ho115 | (simp only [Int.reduceToNat] at ho115; rw [← Ny290.out] at ho115)); have n0_ := Aside0.mk (Kd.R_elder' (by (with_reducible repeat (first | apply qa | apply qb | apply qc)); exact HO_7.out) (Kd.R_base ho115) hb); have n1_ := Aside0.mk (Kd.R_below (by (with_reducible repeat (first | apply qa | apply qb | apply qc)); exact HO280.out) hb); have n2_ := Aside0.mk (Kd.R_below (by (with_reducible repeat (first | apply qa | apply qb | apply qc)); exact HO286.out) hb); have n3_ := Aside0.mk (Kd.R_lower (Kd.R_new' ho115 (Kd.R_lt (by (with_reducible repeat (first | apply qa | apply qb | apply qc)); exact HO_7.out))) (keep_size (w := w) (g := g) (row := none) (by repeat (first | (with_reducible first | exact HK.out | apply qd | apply qe | apply qf | apply qg))))); have n4_ := Aside0.mk (IsS93.below (by repeat (first | (with_reducible first | exact HI0.out | apply qh | apply qi | apply qj | apply qk | apply ql))) hb); have n5_ := Aside0.mk (KeepBut.trans (by repeat (first | (with_reducible first | exact HK.out | apply qd | apply qe | apply qf | apply qg))) (KeepBut.of_below hb g none) (.inl rfl)); have n6_ := Aside0.mk (below_step (by repeat (first | (with_reducible first | exact HB.out | apply qm | apply qn | apply qo | refine below_set ?_ (IsS93.ge HI0.out)))) hb); clear HO_7; clear HO280; clear HO286; clear HI0; clear HK; clear HB; have HO_7 := n0_; have HO280 := n1_; have HO286 := n2_; have HO292 := n3_; have HI0 := n4_; have HK := n5_; have HB := n6_; clear n0_ n1_ n2_ n3_ n4_ n5_ n6_; clear hb ho115; obtain ⟨Ao117, co117, eo117⟩ := Kd.R_slice HO292.out; subst eo117) | ((with_reducible refine gate_builtin (b := .append) (xs := #[.tmp 79, .tmp 87]) rfl ?_); at_builtin; refine Kd.R_append_rows k54 w.heap.size rfl (.tmp 79) (.tmp 87) 36 54 (.agg #[(.int .i64 0), (.int .i64 0), (.int .i64 0), (.int .i64 0)]) 32 rfl Try.underlying36 info54 rfl (by decide) (by omega) u7 x7_1 y290 _ _ _ (fun k_ => some k_ ≠ (.slice Ao117 y290.length co117 : Value).ownBlock) (fun _ => False) rfl rfl ?aO ?aR (fun _ _ h => h) (fun _ h => h.elim) ?aF (Below.refl _ _) ?aS ?aL ?_; (case aR => repeat (first | exact (Kd.R_reads' HO292.out).2.2 | (with_reducible refine Kd.C_alloc ?_ _) | (with_reducible refine Kd.C_drewN ?_ _) | (with_reducible refine Kd.C_drew ?_))); (case aF => exact (fun k_ hk => Kd.fresh' (Kd.R_lt (by (with_reducible repeat (first | apply qa | apply qb | apply qc)); exact HO292.out)) k_ hk)); (case aO => exact (by (with_reducible repeat (first | apply qa | apply qb | apply qc)); exact Kd.R_mono HO_7.out (fun _ hk => hk.2))); (case aS => exact (keep_size (w := w) (g := g) (row := none) (by repeat (first | (with_reducible first | exact HK.out | apply qd | apply qe | apply qf | apply qg))))); (case aL => have := LMc104.out; omega); intro v294 w116 ho hb hg hat; rw [← Ny293.out] at ho; have n0_ := Aside0.mk (IsS93.grown (by repeat (first | (with_reducible first | exact HI0.out | apply qh | apply qi | apply qj | apply qk | apply ql))) hg (IsS93.own_ne HI0.out HO_7.out (by decide))); have n1_ := Aside0.mk (Kd.R_over' (by (with_reducible repeat (first | apply qa | apply qb | apply qc)); exact HO280.out) (Kd.R_typed (by (with_reducible repeat (first | apply qa | apply qb | apply qc)); exact HO_7.out)) (by decide) hg); have n2_ := Aside0.mk (Kd.R_over' (by (with_reducible repeat (first | apply qa | apply qb | apply qc)); exact HO286.out) (Kd.R_typed (by (with_reducible repeat (first | apply qa | apply qb | apply qc)); exact HO_7.out)) (by decide) hg); have n3_ := Aside0.mk (Kd.R_after (ok := (fun _ => True)) (by (with_reducible repeat (first | apply qa | apply qb | apply qc)); exact HO292.out) hg hat); have n4_ := Aside0.mk (below_weaken (by repeat (first | (with_reducible first | exact HB.out | apply qm | apply qn | apply qo | refine below_set ?_ (IsS93.ge HI0.out)))) HL.out hb); have n5_ := Aside0.mk (KeepBut.trans (by repeat (first | (with_reducible first | exact HK.out | apply qd | apply qe | apply qf | apply qg))) (KeepBut.of_grown hg g) (Kd.R_base2 HO_7.out)); have n6_ := Aside0.mk (ho); clear HI0; clear HO280; clear HO286; clear HO292; clear HB; clear HK; clear HO_7; have HI0 := n0_; have HO280 := n1_; have HO286 := n2_; have HO292 := n3_; have HB := n4_; have HK := n5_; have HO295 := n6_; clear n0_ n1_ n2_ n3_ n4_ n5_ n6_; clear ho hb hg hat))
        go_ret3
        exact ⟨_, by first | rfl | (simp [errW_none, errW_some] <;> rfl) | (simp [*, errW_none, errW_some] <;> rfl), by (with_reducible repeat (first | apply qa | apply qb | apply qc)); exact Kd.R_mono HO295.out (fun _ hk => trivial), by repeat (first | (with_reducible first | exact HI0.out | apply qh | apply qi | apply qj | apply qk | apply ql)), by repeat (first | (with_reducible first | exact HB.out | apply qm | apply qn | apply qo | refine below_set ?_ (IsS93.ge HI0.out))), by repeat (first | (with_reducible first | exact HK.out | apply qd | apply qe | apply qf | apply qg))⟩
       ·rw [if_neg c104] at H
        exact absurd H (by simp)
      ·rw [if_neg c101] at H
       have c101b0 : (t263 == 2) = false := beq_eq_false_iff_ne.mpr c101
       have c101b1 : (t263 != 2) = true := bne_iff_ne.mpr c101
       by_cases c118 : t263 = 3
       ·rw [if_pos c118] at H
        have c118b0 : (t263 == 3) = true := beq_iff_eq.mpr c118
        have c118b1 : (t263 != 3) = false := bne_eq_false_iff_eq.mpr c118
        clear c118
        obtain ⟨y296, hy296⟩ : ∃ y_ : List (S54), y_ = (([] : List (S54))) := ⟨_, rfl⟩
        replace H : (spec_l14Draw.l1 k1 (wrap64 (1 + t210)) y296 0 s0_0 t264 t265) = some (r1, r2, r3, r4, r5) := by first | (rw [hy296]; with_reducible exact H) | (have H2_ := (Option.bind_some _ _).symm.trans H; rw [hy296]; with_reducible exact H2_) | (have H2_ := (Option.bind_some _ _).symm.trans H; with_reducible exact H2_) | with_reducible exact H | (rw [hy296]; exact H) | exact H
        have Ny296 := Aside0.mk hy296
        clear hy296
        have H' := Aside0.mk H
        clear H
        go_wp2_with (first | ((with_reducible refine gate_callee (f := 61) rfl ?_); refine goesL_ (some 66) rfl rfl Try.func61 (by kernel_rfl) rfl #[.pointer (some ⟨g, 0, none⟩), .int .i64 40] rfl (by (try simp only [List.map_toArray, List.map_cons, List.map_nil]); first | done | rfl) ?_; (with_reducible refine (spec_l01Next.calls g s0_0 x1001_1 x1002_1 40 t263 t264 t265 w0 _ ?side1 ?side2 A86.out).mono ?_); (case side1 => repeat (first | (with_reducible first | exact HI0.out | apply qh | apply qi | apply qj | apply qk | apply ql))); (case side2 => repeat (first | (with_reducible first | exact HB.out | apply qm | apply qn | apply qo | refine below_set ?_ (IsS93.ge HI0.out)))); rintro e w119 ⟨rfl, hi, hb, hk⟩; refine ⟨_, rfl, ?_⟩; have n0_ := Aside0.mk (Kd.R_mono (Kd.R_keep (IsS93.apart (show IsS93 w0 _ g s0_0 x1001_1 x1002_1 from by repeat (first | (with_reducible first | exact HI0.out | apply qh | apply qi | apply qj | apply qk | apply ql))) (by (with_reducible repeat (first | apply qa | apply qb | apply qc)); exact HO_7.out) (by decide)) hk (fun _ h => h.2)) (fun _ h => h.1)); have n1_ := Aside0.mk (KeepBut.trans (by repeat (first | (with_reducible first | exact HK.out | apply qd | apply qe | apply qf | apply qg))) hk (.inl rfl)); have n2_ := Aside0.mk (hb); have n3_ := Aside0.mk (hi); clear HO_7; clear HK; clear HB; clear HI0; have HO_7 := n0_; have HK := n1_; have HB := n2_; have HI0 := n3_; clear n0_ n1_ n2_ n3_; (try clear hb); (try clear hk); (try clear hi)) | ((with_reducible refine gate_dst (N := 91) rfl ?_); refine Kd.R_lit k54 _ 54 ?hg (N := 91) ?hd (xs := ([] : List (S54))) (inner := []) (ok := fun _ => True) (okp := fun _ => True) ?hr ?hp (fun _ hk => hk) trivial (Below.refl _ _) (Nat.le_refl _) (by simp) ?_; (case hd => rfl); (case hg => rfl); (case hr => first | (go_simp; done) | (go_simp; rfl)); (case hp => exact (Reps.none _ _)); intro v297 w120 ho121 hb hg_ hnew_; clear hg_ hnew_; (first | rw [← Ny296.out] at ho121 | (simp only [Int.reduceToNat] at ho121; rw [← Ny296.out] at ho121)); have n0_ := Aside0.mk (Kd.R_elder' (by (with_reducible repeat (first | apply qa | apply qb | apply qc)); exact HO_7.out) (Kd.R_base ho121) hb); have n1_ := Aside0.mk (Kd.R_lower (Kd.R_new' ho121 (Kd.R_lt (by (with_reducible repeat (first | apply qa | apply qb | apply qc)); exact HO_7.out))) (keep_size (w := w) (g := g) (row := none) (by repeat (first | (with_reducible first | exact HK.out | apply qd | apply qe | apply qf | apply qg))))); have n2_ := Aside0.mk (IsS93.below (by repeat (first | (with_reducible first | exact HI0.out | apply qh | apply qi | apply qj | apply qk | apply ql))) hb); have n3_ := Aside0.mk (KeepBut.trans (by repeat (first | (with_reducible first | exact HK.out | apply qd | apply qe | apply qf | apply qg))) (KeepBut.of_below hb g none) (.inl rfl)); have n4_ := Aside0.mk (below_step (by repeat (first | (with_reducible first | exact HB.out | apply qm | apply qn | apply qo | refine below_set ?_ (IsS93.ge HI0.out)))) hb); clear HO_7; clear HI0; clear HK; clear HB; have HO_7 := n0_; have HO298 := n1_; have HI0 := n2_; have HK := n3_; have HB := n4_; clear n0_ n1_ n2_ n3_ n4_; clear hb ho121))
        go_loopg [7, 10] k1 (fun kq v7 v10 w' => ∃ (x7_2 : List (S54)) (x10_2 : Int) (x1001_2 : Int) (x1002_2 : Int), v10 = .int .i64 x10_2 ∧ Aside0 (spec_l14Draw.l1 kq (wrap64 (1 + t210)) x7_2 x10_2 s0_0 x1001_2 x1002_2 = some (r1, r2, r3, r4, r5)) ∧ Aside0 (kq ≤ k1) ∧ Aside0 (Kd.R k54 54 w' w.heap.size (fun _ => True) v7 x7_2) ∧ Aside0 (IsS93 w0 w' g s0_0 x1001_2 x1002_2) ∧ Aside0 (KeepBut w w' g none) ∧ Aside0 (Below w0.heap.size w0 w'))
        case atStart => exact ⟨(y296), (0), (t264), (t265), (by first | rfl | (simp; done) | (simp [*]; done)), H', ⟨Nat.le_refl _⟩, ⟨by (with_reducible repeat (first | apply qa | apply qb | apply qc)); exact Kd.R_mono HO298.out (fun _ hk => trivial)⟩, ⟨by repeat (first | (with_reducible first | exact HI0.out | apply qh | apply qi | apply qj | apply qk | apply ql))⟩, ⟨by repeat (first | (with_reducible first | exact HK.out | apply qd | apply qe | apply qf | apply qg))⟩, ⟨by repeat (first | (with_reducible first | exact HB.out | apply qm | apply qn | apply qo | refine below_set ?_ (IsS93.ge HI0.out)))⟩⟩
        case round =>
         clear H'
         try clear c1
         try clear c2
         try clear p2
         try clear c4
         try clear c6
         try clear p6
         try clear c7
         try clear c8
         try clear c9
         try clear c10
         try clear c10b0
         try clear c11
         try clear c28
         try clear c29
         try clear c61
         try clear p64
         try clear c75
         try clear c78
         try clear c87
         try clear c87b0
         try clear c87b1
         try clear c94
         try clear c94b0
         try clear c94b1
         try clear c101
         try clear c101b0
         try clear c101b1
         try clear c104
         try clear c118
         try clear c118b0
         try clear c118b1
         obtain ⟨x7_2, x10_2, x1001_2, x1002_2, rfl, HA, HK2, HO_7, HI0, HK, HB⟩ := hrel
         cases gk with
         | zero => exact absurd HA.out (by simp [spec_l14Draw.l1])
         | succ k2 =>
          have H := HA.out
          clear HA
          simp only [spec_l14Draw.l1] at H
          replace H := Option.bind_eq_some_iff.mp H
          obtain ⟨⟨t299, t300, t301⟩, A1220, H⟩ := H
          replace H : (if x10_2 < (wrap64 (20 + t299)) then ((some (([(⟨x10_2, 0, 1, 0⟩ : S54)] : List (S54)) : List (S54))).bind fun y302 => (if x7_2.length + y302.length < 4398046511104 then (spec_l14Draw.l1 k2 (wrap64 (1 + t210)) (x7_2 ++ y302) (wrap64 (x10_2 + 1)) s0_0 t300 t301) else (none))) else (some ((wrap64 (1 + t210)), 30, x7_2, t300, t301))) = some (r1, r2, r3, r4, r5) := H
          have A122 := Aside0.mk A1220
          clear A1220
          by_cases c123 : x10_2 < (wrap64 (20 + t299))
          ·rw [if_pos c123] at H
           have c123b0 : decide (x10_2 < (wrap64 (20 + t299))) = true := decide_eq_true c123
           clear c123
           obtain ⟨y302, hy302⟩ : ∃ y_ : List (S54), y_ = (([(⟨x10_2, 0, 1, 0⟩ : S54)] : List (S54))) := ⟨_, rfl⟩
           replace H : (if x7_2.length + y302.length < 4398046511104 then (spec_l14Draw.l1 k2 (wrap64 (1 + t210)) (x7_2 ++ y302) (wrap64 (x10_2 + 1)) s0_0 t300 t301) else (none)) = some (r1, r2, r3, r4, r5) := by first | (rw [hy302]; with_reducible exact H) | (have H2_ := (Option.bind_some _ _).symm.trans H; rw [hy302]; with_reducible exact H2_) | (have H2_ := (Option.bind_some _ _).symm.trans H; with_reducible exact H2_) | with_reducible exact H | (rw [hy302]; exact H) | exact H
           have Ny302 := Aside0.mk hy302
           clear hy302
           by_cases c124 : x7_2.length + y302.length < 4398046511104
           ·rw [if_pos c124] at H
            have LMc124 := Aside0.mk c124
            clear c124
            obtain ⟨y305, hy305⟩ : ∃ y_ : List (S54), y_ = (x7_2 ++ y302) := ⟨_, rfl⟩
            replace H : (spec_l14Draw.l1 k2 (wrap64 (1 + t210)) y305 (wrap64 (x10_2 + 1)) s0_0 t300 t301) = some (r1, r2, r3, r4, r5) := by first | (rw [hy305]; with_reducible exact H) | (have H2_ := (Option.bind_some _ _).symm.trans H; rw [hy305]; with_reducible exact H2_) | (have H2_ := (Option.bind_some _ _).symm.trans H; with_reducible exact H2_) | with_reducible exact H | (rw [hy305]; exact H) | exact H
            have Ny305 := Aside0.mk hy305
            clear hy305
            have H' := Aside0.mk H
            clear H
            go_wp2_with (first | ((with_reducible refine gate_callee (f := 61) rfl ?_); refine goesL_ (some 94) rfl rfl Try.func61 (by kernel_rfl) rfl #[.pointer (some ⟨g, 0, none⟩), .int .i64 2] rfl (by (try simp only [List.map_toArray, List.map_cons, List.map_nil]); first | done | rfl) ?_; (with_reducible refine (spec_l01Next.calls g s0_0 x1001_2 x1002_2 2 t299 t300 t301 w0 _ ?side1 ?side2 A122.out).mono ?_); (case side1 => repeat (first | (with_reducible first | exact HI0.out | apply qh | apply qi | apply qj | apply qk | apply ql))); (case side2 => repeat (first | (with_reducible first | exact HB.out | apply qm | apply qn | apply qo | refine below_set ?_ (IsS93.ge HI0.out)))); rintro e w125 ⟨rfl, hi, hb, hk⟩; refine ⟨_, rfl, ?_⟩; have n0_ := Aside0.mk (Kd.R_mono (Kd.R_keep (IsS93.apart (show IsS93 w0 _ g s0_0 x1001_2 x1002_2 from by repeat (first | (with_reducible first | exact HI0.out | apply qh | apply qi | apply qj | apply qk | apply ql))) (by (with_reducible repeat (first | apply qa | apply qb | apply qc)); exact HO_7.out) (by decide)) hk (fun _ h => h.2)) (fun _ h => h.1)); have n1_ := Aside0.mk (KeepBut.trans (by repeat (first | (with_reducible first | exact HK.out | apply qd | apply qe | apply qf | apply qg))) hk (.inl rfl)); have n2_ := Aside0.mk (hb); have n3_ := Aside0.mk (hi); clear HO_7; clear HK; clear HB; clear HI0; have HO_7 := n0_; have HK := n1_; have HB := n2_; have HI0 := n3_; clear n0_ n1_ n2_ n3_; (try clear hb); (try clear hk); (try clear hi)) | ((with_reducible refine gate_dst (N := 102) rfl ?_); refine Kd.R_lit k54 _ 54 ?hg (N := 102) ?hd (xs := ([(⟨x10_2, 0, 1, 0⟩ : S54)] : List (S54))) (inner := [.int .i64 x10_2, .int .i64 0, .int .i64 1, .int .i64 0]) (ok := fun _ => True) (okp := fun _ => True) ?hr ?hp (fun _ hk => hk) trivial (Below.refl _ _) (Nat.le_refl _) (by simp) ?_; (case hd => rfl); (case hg => rfl); (case hr => first | (go_simp; done) | (go_simp; rfl)); (case hp => exact (Reps.c4 (show Kd.M k54 _ _ _ (⟨x10_2, 0, 1, 0⟩ : S54) [.int .i64 x10_2, .int .i64 0, .int .i64 1, .int .i64 0] from (k54_mkM _ _ _ (⟨x10_2, 0, 1, 0⟩ : S54) )) (Reps.none _ _))); intro v303 w126 ho127 hb hg_ hnew_; clear hg_ hnew_; (first | rw [← Ny302.out] at ho127 | (simp only [Int.reduceToNat] at ho127; rw [← Ny302.out] at ho127)); have n0_ := Aside0.mk (Kd.R_elder' (by (with_reducible repeat (first | apply qa | apply qb | apply qc)); exact HO_7.out) (Kd.R_base ho127) hb); have n1_ := Aside0.mk (Kd.R_lower (Kd.R_new' ho127 (Kd.R_lt (by (with_reducible repeat (first | apply qa | apply qb | apply qc)); exact HO_7.out))) (keep_size (w := w) (g := g) (row := none) (by repeat (first | (with_reducible first | exact HK.out | apply qd | apply qe | apply qf | apply qg))))); have n2_ := Aside0.mk (IsS93.below (by repeat (first | (with_reducible first | exact HI0.out | apply qh | apply qi | apply qj | apply qk | apply ql))) hb); have n3_ := Aside0.mk (KeepBut.trans (by repeat (first | (with_reducible first | exact HK.out | apply qd | apply qe | apply qf | apply qg))) (KeepBut.of_below hb g none) (.inl rfl)); have n4_ := Aside0.mk (below_step (by repeat (first | (with_reducible first | exact HB.out | apply qm | apply qn | apply qo | refine below_set ?_ (IsS93.ge HI0.out)))) hb); clear HO_7; clear HI0; clear HK; clear HB; have HO_7 := n0_; have HO304 := n1_; have HI0 := n2_; have HK := n3_; have HB := n4_; clear n0_ n1_ n2_ n3_ n4_; clear hb ho127; obtain ⟨Ao129, co129, eo129⟩ := Kd.R_slice HO304.out; subst eo129) | ((with_reducible refine gate_builtin (b := .append) (xs := #[.tmp 99, .tmp 102]) rfl ?_); at_builtin; refine Kd.R_append_rows k54 w.heap.size rfl (.tmp 99) (.tmp 102) 36 54 (.agg #[(.int .i64 0), (.int .i64 0), (.int .i64 0), (.int .i64 0)]) 32 rfl Try.underlying36 info54 rfl (by decide) (by omega) u7 x7_2 y302 _ _ _ (fun k_ => some k_ ≠ (.slice Ao129 y302.length co129 : Value).ownBlock) (fun _ => False) rfl rfl ?aO ?aR (fun _ _ h => h) (fun _ h => h.elim) ?aF (Below.refl _ _) ?aS ?aL ?_; (case aR => repeat (first | exact (Kd.R_reads' HO304.out).2.2 | (with_reducible refine Kd.C_alloc ?_ _) | (with_reducible refine Kd.C_drewN ?_ _) | (with_reducible refine Kd.C_drew ?_))); (case aF => exact (fun k_ hk => Kd.fresh' (Kd.R_lt (by (with_reducible repeat (first | apply qa | apply qb | apply qc)); exact HO304.out)) k_ hk)); (case aO => exact (by (with_reducible repeat (first | apply qa | apply qb | apply qc)); exact Kd.R_mono HO_7.out (fun _ hk => hk.2))); (case aS => exact (keep_size (w := w) (g := g) (row := none) (by repeat (first | (with_reducible first | exact HK.out | apply qd | apply qe | apply qf | apply qg))))); (case aL => have := LMc124.out; omega); intro v306 w128 ho hb hg hat; rw [← Ny305.out] at ho; have n0_ := Aside0.mk (IsS93.grown (by repeat (first | (with_reducible first | exact HI0.out | apply qh | apply qi | apply qj | apply qk | apply ql))) hg (IsS93.own_ne HI0.out HO_7.out (by decide))); have n1_ := Aside0.mk (Kd.R_after (ok := (fun _ => True)) (by (with_reducible repeat (first | apply qa | apply qb | apply qc)); exact HO304.out) hg hat); have n2_ := Aside0.mk (below_weaken (by repeat (first | (with_reducible first | exact HB.out | apply qm | apply qn | apply qo | refine below_set ?_ (IsS93.ge HI0.out)))) HL.out hb); have n3_ := Aside0.mk (KeepBut.trans (by repeat (first | (with_reducible first | exact HK.out | apply qd | apply qe | apply qf | apply qg))) (KeepBut.of_grown hg g) (Kd.R_base2 HO_7.out)); have n4_ := Aside0.mk (ho); clear HI0; clear HO304; clear HB; clear HK; clear HO_7; have HI0 := n0_; have HO304 := n1_; have HB := n2_; have HK := n3_; have HO307 := n4_; clear n0_ n1_ n2_ n3_ n4_; clear ho hb hg hat))
            go_roundg k2
            case measure => have := HK1.out; have := HK2.out; omega
            case rel => exact ⟨(y305), (wrap64 (x10_2 + 1)), (t300), (t301), (by first | rfl | (simp; done) | (simp [*]; done)), H', ⟨by have := HK1.out; have := HK2.out; omega⟩, ⟨by (with_reducible repeat (first | apply qa | apply qb | apply qc)); exact Kd.R_mono HO307.out (fun _ hk => trivial)⟩, ⟨by repeat (first | (with_reducible first | exact HI0.out | apply qh | apply qi | apply qj | apply qk | apply ql))⟩, ⟨by repeat (first | (with_reducible first | exact HK.out | apply qd | apply qe | apply qf | apply qg))⟩, ⟨by repeat (first | (with_reducible first | exact HB.out | apply qm | apply qn | apply qo | refine below_set ?_ (IsS93.ge HI0.out)))⟩⟩
           ·rw [if_neg c124] at H
            exact absurd H (by simp)
          ·rw [if_neg c123] at H
           have c123b0 : decide (x10_2 < (wrap64 (20 + t299))) = false := decide_eq_false c123
           clear c123
           simp only [Option.some.injEq, Prod.mk.injEq] at H
           obtain ⟨rfl, rfl, rfl, rfl, rfl⟩ := H
           go_wp2_with (first | ((with_reducible refine gate_callee (f := 61) rfl ?_); refine goesL_ (some 94) rfl rfl Try.func61 (by kernel_rfl) rfl #[.pointer (some ⟨g, 0, none⟩), .int .i64 2] rfl (by (try simp only [List.map_toArray, List.map_cons, List.map_nil]); first | done | rfl) ?_; (with_reducible refine (spec_l01Next.calls g s0_0 x1001_2 x1002_2 2 t299 t300 t301 w0 _ ?side1 ?side2 A122.out).mono ?_); (case side1 => repeat (first | (with_reducible first | exact HI0.out | apply qh | apply qi | apply qj | apply qk | apply ql))); (case side2 => repeat (first | (with_reducible first | exact HB.out | apply qm | apply qn | apply qo | refine below_set ?_ (IsS93.ge HI0.out)))); rintro e w130 ⟨rfl, hi, hb, hk⟩; refine ⟨_, rfl, ?_⟩; have n0_ := Aside0.mk (Kd.R_mono (Kd.R_keep (IsS93.apart (show IsS93 w0 _ g s0_0 x1001_2 x1002_2 from by repeat (first | (with_reducible first | exact HI0.out | apply qh | apply qi | apply qj | apply qk | apply ql))) (by (with_reducible repeat (first | apply qa | apply qb | apply qc)); exact HO_7.out) (by decide)) hk (fun _ h => h.2)) (fun _ h => h.1)); have n1_ := Aside0.mk (KeepBut.trans (by repeat (first | (with_reducible first | exact HK.out | apply qd | apply qe | apply qf | apply qg))) hk (.inl rfl)); have n2_ := Aside0.mk (hb); have n3_ := Aside0.mk (hi); clear HO_7; clear HK; clear HB; clear HI0; have HO_7 := n0_; have HK := n1_; have HB := n2_; have HI0 := n3_; clear n0_ n1_ n2_ n3_; (try clear hb); (try clear hk); (try clear hi)))
           go_ret3
           exact ⟨_, by first | rfl | (simp [errW_none, errW_some] <;> rfl) | (simp [*, errW_none, errW_some] <;> rfl), by (with_reducible repeat (first | apply qa | apply qb | apply qc)); exact HO_7.out, by repeat (first | (with_reducible first | exact HI0.out | apply qh | apply qi | apply qj | apply qk | apply ql)), by repeat (first | (with_reducible first | exact HB.out | apply qm | apply qn | apply qo | refine below_set ?_ (IsS93.ge HI0.out))), by repeat (first | (with_reducible first | exact HK.out | apply qd | apply qe | apply qf | apply qg))⟩
       ·rw [if_neg c118] at H
        have c118b0 : (t263 == 3) = false := beq_eq_false_iff_ne.mpr c118
        have c118b1 : (t263 != 3) = true := bne_iff_ne.mpr c118
        simp only [Option.some.injEq, Prod.mk.injEq] at H
        obtain ⟨rfl, rfl, rfl, rfl, rfl⟩ := H
        go_wp2_with (first | ((with_reducible refine gate_callee (f := 61) rfl ?_); refine goesL_ (some 66) rfl rfl Try.func61 (by kernel_rfl) rfl #[.pointer (some ⟨g, 0, none⟩), .int .i64 40] rfl (by (try simp only [List.map_toArray, List.map_cons, List.map_nil]); first | done | rfl) ?_; (with_reducible refine (spec_l01Next.calls g s0_0 x1001_1 x1002_1 40 t263 t264 t265 w0 _ ?side1 ?side2 A86.out).mono ?_); (case side1 => repeat (first | (with_reducible first | exact HI0.out | apply qh | apply qi | apply qj | apply qk | apply ql))); (case side2 => repeat (first | (with_reducible first | exact HB.out | apply qm | apply qn | apply qo | refine below_set ?_ (IsS93.ge HI0.out)))); rintro e w131 ⟨rfl, hi, hb, hk⟩; refine ⟨_, rfl, ?_⟩; have n0_ := Aside0.mk (Kd.R_mono (Kd.R_keep (IsS93.apart (show IsS93 w0 _ g s0_0 x1001_1 x1002_1 from by repeat (first | (with_reducible first | exact HI0.out | apply qh | apply qi | apply qj | apply qk | apply ql))) (by (with_reducible repeat (first | apply qa | apply qb | apply qc)); exact HO_7.out) (by decide)) hk (fun _ h => h.2)) (fun _ h => h.1)); have n1_ := Aside0.mk (KeepBut.trans (by repeat (first | (with_reducible first | exact HK.out | apply qd | apply qe | apply qf | apply qg))) hk (.inl rfl)); have n2_ := Aside0.mk (hb); have n3_ := Aside0.mk (hi); clear HO_7; clear HK; clear HB; clear HI0; have HO_7 := n0_; have HK := n1_; have HB := n2_; have HI0 := n3_; clear n0_ n1_ n2_ n3_; (try clear hb); (try clear hk); (try clear hi)))
        go_ret3
        exact ⟨_, by first | rfl | (simp [errW_none, errW_some] <;> rfl) | (simp [*, errW_none, errW_some] <;> rfl), by (with_reducible repeat (first | apply qa | apply qb | apply qc)); exact HO_7.out, by repeat (first | (with_reducible first | exact HI0.out | apply qh | apply qi | apply qj | apply qk | apply ql)), by repeat (first | (with_reducible first | exact HB.out | apply qm | apply qn | apply qo | refine below_set ?_ (IsS93.ge HI0.out))), by repeat (first | (with_reducible first | exact HK.out | apply qd | apply qe | apply qf | apply qg))⟩

end Go.Proofs.Ythfegojffgblmaa.X
