import Derived.Test.YtlicooehcladcaaEIdx
/- allIn: 'all elements of a list lie from low to high': the call of slices.ContainsFunc with a closure that captures low and high, walked. -/
namespace Go.Proofs.Ytlicooehcladcaa.X
open Go.RowKit Go.Shelf Go.Proofs.YtlicooehcladcaaW.PrintWords Go.Proofs.YtlicooehcladcaaW.PrintLast Go.Proofs.YtlicooehcladcaaW.PrintMore
set_option linter.unusedVariables false
set_option linter.unusedSimpArgs false

/-- The closure: is n out of the range? low and high lie in two boxes. -/
theorem allIn_out (W : World) (x lo hi : Int) (B C : Nat) (h1 : W.cell? ⟨B, 0, none⟩ = some (.int .i64 lo)) (h2 : W.cell? ⟨C, 0, none⟩ = some (.int .i64 hi)) :
    Calls Try.prog 52 #[.int .i64 x, .pointer (some ⟨B, 0, none⟩), .pointer (some ⟨C, 0, none⟩)] W fun e W' => e = .returned (.bool (!(decide (lo ≤ x) && decide (x ≤ hi)))) ∧ W = W' := by
  by_cases ha : lo ≤ x
  · by_cases hb : x ≤ hi
    · have ha' := decide_eq_true ha
      have hb' := decide_eq_true hb
      go_enter Try.func52, Try.ntmps52
      go_wp2
      go_ret
      exact ⟨by simp [ha, hb], rfl⟩
    · have ha' := decide_eq_true ha
      have hb' := decide_eq_false hb
      go_enter Try.func52, Try.ntmps52
      go_wp2
      go_ret
      exact ⟨by simp [ha, hb], rfl⟩
  · have ha' := decide_eq_false ha
    go_enter Try.func52, Try.ntmps52
    go_wp2
    go_ret
    exact ⟨by simp [ha], rfl⟩

theorem indexInts (g : Nat) (lb : Array Value) (p : Int → Bool) (w : World) (A0 : Option Addr) (c0 : Nat) (l0 : List Int) (hr0 : Kd.C (Kd.int .i64) w A0 l0.length l0)
    (eg : ∀ (args : Array Value) (W : World), (callFunc g args).run Try.prog W = .ok (.enter g args) W)
    (hp : ∀ x W, Below w.heap.size w W → Calls Try.prog g (#[.int .i64 x] ++ lb) W fun e W' => e = .returned (.bool (p x)) ∧ Below W.heap.size W W') :
    Calls Try.prog 59 #[.slice A0 l0.length c0, .func (.func g) #[] lb] w fun e w' => e = .returned (.int .i64 (idxFrom p l0 0)) ∧ Below w.heap.size w w' := by
  have HR := Aside0.mk hr0
  have hmax := Kd.C_max hr0
  have HP := Aside0.mk hp
  clear hr0 hp
  go_enter Try.func59, Try.ntmps59
  go_wp2
  go_loopw [5, 8] (fun u c wr => ∃ j : Nat, j ≤ l0.length ∧ c = .int .i64 j ∧ Aside0 (idxFrom p l0 0 = idxFrom p (l0.drop j) j) ∧ Aside0 (Below w.heap.size w wr)) (fun _ c _ => l0.length - (intOf c).toNat)
  case atStart => exact ⟨0, Nat.zero_le _, rfl, ⟨rfl⟩, ⟨Below.refl _ _⟩⟩
  case round =>
    obtain ⟨j, hj, rfl, HI, HB⟩ := hrel
    by_cases hlt : j < l0.length
    · obtain ⟨ad, rfl, hc⟩ := Kd.at_int (Kd.C_below HR.out HB.out) (j : Int) (by omega) (by omega)
      have hc' : wr.cell? (ad.add j) = some (.int .i64 l0[j]) := by
        rw [Int.toNat_natCast] at hc
        rw [hc]; simp [rd, List.getD_eq_getElem?_getD, List.getElem?_eq_getElem hlt]
      clear hc
      obtain ⟨x, hx⟩ : ∃ x, x = l0[j] := ⟨_, rfl⟩
      rw [← hx] at hc'
      have HX := Aside0.mk hx
      clear hx
      have HL := Aside0.mk hlt
      by_cases hpx : p x = true
      · go_wp2_with (with_reducible refine (HP.out x wr HB.out).mono ?_; rw [hpx]; rintro e w1 ⟨rfl, hb⟩; have HB1 := Aside0.mk (below_then HB.out (below_size HB.out) hb); clear hb)
        go_ret
        exact ⟨by rw [HI.out, idxFrom_hit p l0 j HL.out _ (by rw [← HX.out]; exact hpx)]; rfl, HB1.out⟩
      · have hpx' : p x = false := by simpa using hpx
        clear hpx
        go_wp2_with (with_reducible refine (HP.out x wr HB.out).mono ?_; rw [hpx']; rintro e w1 ⟨rfl, hb⟩; have HB1 := Aside0.mk (below_then HB.out (below_size HB.out) hb); clear hb)
        go_roundw
        case rel => exact ⟨j + 1, by omega, by go_num, ⟨by rw [HI.out, idxFrom_step p l0 j HL.out _ (by rw [← HX.out]; exact hpx')]; rfl⟩, HB1⟩
        case measure => simp [intOf]; omega
    · obtain rfl : j = l0.length := by omega
      go_wp2
      go_ret
      exact ⟨by rw [HI.out]; simp [idxFrom], HB.out⟩

theorem containsInts (g : Nat) (lb : Array Value) (p : Int → Bool) (w : World) (A0 : Option Addr) (c0 : Nat) (l0 : List Int) (hr0 : Kd.C (Kd.int .i64) w A0 l0.length l0)
    (eg : ∀ (args : Array Value) (W : World), (callFunc g args).run Try.prog W = .ok (.enter g args) W)
    (hp : ∀ x W, Below w.heap.size w W → Calls Try.prog g (#[.int .i64 x] ++ lb) W fun e W' => e = .returned (.bool (p x)) ∧ Below W.heap.size W W') :
    Calls Try.prog 51 #[.slice A0 l0.length c0, .func (.func g) #[] lb] w fun e w' => e = .returned (.bool (l0.any p)) ∧ Below w.heap.size w w' := by
  have HC := Aside0.mk (indexInts g lb p w A0 c0 l0 hr0 eg hp)
  have HG := Aside0.mk (idxFrom_ge p l0 0 (Int.le_refl 0))
  clear hr0 eg hp
  obtain ⟨i, hi⟩ : ∃ i, i = idxFrom p l0 0 := ⟨_, rfl⟩
  rw [← hi] at HC HG
  clear hi
  by_cases h : 0 ≤ i
  · have h' := decide_eq_true h
    go_enter Try.func51, Try.ntmps51
    go_wp2_with (go_at_call 59; (with_reducible refine HC.out.mono ?_); rintro e w1 ⟨rfl, hb⟩; have HB1 := Aside0.mk hb; clear hb)
    go_ret
    exact ⟨by rw [HG.out.1 h]; rfl, HB1.out⟩
  · have h' := decide_eq_false h
    go_enter Try.func51, Try.ntmps51
    go_wp2_with (go_at_call 59; (with_reducible refine HC.out.mono ?_); rintro e w1 ⟨rfl, hb⟩; have HB1 := Aside0.mk hb; clear hb)
    go_ret
    exact ⟨by rw [show l0.any p = false from by cases hq : l0.any p with | false => rfl | true => exact absurd (HG.out.2 hq) (by omega)]; rfl, HB1.out⟩

def impl_allIn.f (l0 : List Int) (a1 a2 : Int) : Option Bool := some (l0.all fun x => decide (a1 ≤ x) && decide (x ≤ a2))

theorem impl_allIn.calls (A0 : Option Addr) (c0 : Nat) (l0 : List Int) (a1 : Int) (a2 : Int) (r : Bool) (w : World) (hr0 : Kd.C (Kd.int .i64) w A0 l0.length l0) (hc0 : l0.length ≤ c0) (h : impl_allIn.f l0 a1 a2 = some r) :
    Calls Try.prog 38 #[.slice A0 l0.length c0, .int .i64 a1, .int .i64 a2] w fun e w' => e = .returned (.bool r) ∧ Below w.heap.size w w' := by
  obtain ⟨W, hW⟩ : ∃ W, W = (w.alloc (.cells #[.int .i64 a1] 2)).alloc (.cells #[.int .i64 a2] 2) := ⟨_, rfl⟩
  have hb0 : Below w.heap.size w W := by rw [hW]; exact below_alloc (below_alloc (Below.refl _ _) _) _
  have h1 : W.cell? ⟨w.heap.size, 0, none⟩ = some (.int .i64 a1) := by rw [hW]; simp
  have h2 : W.cell? ⟨w.heap.size + 1, 0, none⟩ = some (.int .i64 a2) := by rw [hW]; simp
  have HC := Aside0.mk (containsInts 52 #[.pointer (some ⟨w.heap.size, 0, none⟩), .pointer (some ⟨w.heap.size + 1, 0, none⟩)] (fun x => !(decide (a1 ≤ x) && decide (x ≤ a2))) W A0 c0 l0 (Kd.C_below hr0 hb0)
    (enters_of Try.func52 (by kernel_rfl) rfl) (fun x W' hb => (allIn_out W' x a1 a2 w.heap.size (w.heap.size + 1) (pw_cell_below hb h1) (pw_cell_below hb h2)).mono fun e W2 ⟨he, hw⟩ => ⟨he, hw ▸ Below.refl _ _⟩))
  subst hW
  have HB0 := Aside0.mk hb0
  have HD := Aside0.mk h
  clear hb0 h1 h2 hr0 hc0 h
  go_enter Try.func38, Try.ntmps38
  go_wp2_with (go_at_call 51; (with_reducible refine HC.out.mono ?_); rintro e w1 ⟨rfl, hb⟩; have HB1 := Aside0.mk (below_then HB0.out (below_size HB0.out) hb); clear hb)
  go_ret
  refine ⟨?_, HB1.out⟩
  have h := HD.out
  unfold impl_allIn.f at h
  obtain rfl := Option.some.inj h
  show Ending.returned (.bool _) = _
  rw [List.not_any_eq_all_not]
  simp
end Go.Proofs.Ytlicooehcladcaa.X
