/- slices.IndexFunc and slices.ContainsFunc over faults, at a closure, walked; the two closures of the gathering. No conditions. -/
import Derived.Test.YthfegojffgblmaaEIdx
namespace Go.Proofs.Ythfegojffgblmaa.X
open Go.RowKit Go.Shelf Go.Proofs.YthfegojffgblmaaW.PrintWords Go.Proofs.YthfegojffgblmaaW.PrintLast Go.Proofs.YthfegojffgblmaaW.PrintMore
set_option linter.unusedVariables false
set_option linter.unusedSimpArgs false

abbrev fv (x : S54) : Value := .agg #[.int .i64 x.f0, .int .i64 x.f1, .int .i64 x.f2, .int .i64 x.f3]
/-- A fault lies at an address. -/
def FAt (w : World) (ad : Addr) (x : S54) : Prop := w.cell? ad = some (.int .i64 x.f0) ∧ w.cell? ⟨ad.block, ad.off + 1, none⟩ = some (.int .i64 x.f1) ∧ w.cell? ⟨ad.block, ad.off + 2, none⟩ = some (.int .i64 x.f2) ∧ w.cell? ⟨ad.block, ad.off + 3, none⟩ = some (.int .i64 x.f3)

theorem FAt_new (w : World) (x : S54) : FAt (w.alloc (Obj.cells #[Value.int IntKind.i64 x.f0, Value.int IntKind.i64 x.f1, Value.int IntKind.i64 x.f2, Value.int IntKind.i64 x.f3] 54 (0, 0))) ⟨w.heap.size, 0, none⟩ x := by
  exact ⟨by simp, by simp, by simp, by simp⟩
theorem FAt_drewN {w : World} {ad : Addr} {x : S54} (h : FAt w ad x) (n : Nat) : FAt (w.drewN n) ad x := h
theorem FAt_below {w w' : World} {ad : Addr} {x : S54} (h : FAt w ad x) (hb : Below w.heap.size w w') : FAt w' ad x := ⟨pw_cell_below hb h.1, pw_cell_below hb h.2.1, pw_cell_below hb h.2.2.1, pw_cell_below hb h.2.2.2⟩
set_option maxRecDepth 100000 in
set_option maxHeartbeats 4000000 in
theorem indexFaults (g : Nat) (lb : Array Value) (p : S54 → Bool) (w : World) (A0 : Option Addr) (c0 : Nat) (l0 : List S54) (hr0 : Kd.C k54 w A0 l0.length l0)
    (eg : ∀ (args : Array Value) (W : World), (callFunc g args).run Try.prog W = .ok (.enter g args) W)
    (hp : ∀ x W, Below w.heap.size w W → Calls Try.prog g (#[fv x] ++ lb) W fun e W' => e = .returned (.bool (p x)) ∧ Below W.heap.size W W') :
    Calls Try.prog 76 #[.slice A0 l0.length c0, .func (.func g) #[] lb] w fun e w' => e = .returned (.int .i64 (idxFrom p l0 0)) ∧ Below w.heap.size w w' := by
  have hu54 := Try.underlying54
  have HR := Aside0.mk hr0
  have hmax := Kd.C_max hr0
  have HP := Aside0.mk hp
  clear hr0 hp
  go_enter Try.func76, Try.ntmps76
  go_wp2
  go_loopw [5, 8] (fun u c wr => ∃ j : Nat, j ≤ l0.length ∧ c = .int .i64 j ∧ Aside0 (idxFrom p l0 0 = idxFrom p (l0.drop j) j) ∧ Aside0 (Below w.heap.size w wr)) (fun _ c _ => l0.length - (intOf c).toNat)
  case atStart => exact ⟨0, Nat.zero_le _, rfl, ⟨rfl⟩, ⟨Below.refl _ _⟩⟩
  case round =>
    obtain ⟨j, hj, rfl, HI, HB⟩ := hrel
    by_cases hlt : j < l0.length
    · obtain ⟨ad, rfl, hx0, hx1, hx2, hx3⟩ := at_T54 (Kd.C_below HR.out HB.out) (j : Int) (by omega) (by omega)
      rw [Int.toNat_natCast] at hx0 hx1 hx2 hx3
      obtain ⟨x, hx⟩ : ∃ x, x = l0[j] := ⟨_, rfl⟩
      have hrd : rd_T54 l0 j = x := by rw [hx]; unfold rd_T54; simp [List.getD_eq_getElem?_getD, List.getElem?_eq_getElem hlt]
      rw [hrd] at hx0 hx1 hx2 hx3
      have HX := Aside0.mk hx
      clear hx hrd
      have HL := Aside0.mk hlt
      by_cases hpx : p x = true
      · go_wp2_with (with_reducible refine (HP.out x wr HB.out).mono ?_; rw [hpx]; rintro e w1 ⟨rfl, hb⟩; have HB1 := Aside0.mk (below_then HB.out (below_size HB.out) hb); clear hb)
        go_ret
        exact ⟨by rw [HI.out, idxFrom_hit p l0 j HL.out _ (by rw [← HX.out]; exact hpx)]; rfl, HB1.out⟩
      · have hpx' : p x = false := by simpa using hpx
        clear hpx
        go_wp2_with (with_reducible refine (HP.out x wr HB.out).mono ?_; rw [hpx']; rintro e w1 ⟨rfl, hb⟩; have HB1 := Aside0.mk (below_then HB.out (below_size HB.out) hb); clear hb)
        go_roundw
        case rel => exact ⟨j + 1, by omega, by go_num, ⟨by rw [HI.out, idxFrom_step p l0 j HL.out _ (by rw [← HX.out]; exact hpx')]; rfl⟩, HB1⟩
        case measure => simp [intOf]; omega
    · obtain rfl : j = l0.length := by omega
      go_wp2
      go_ret
      exact ⟨by rw [HI.out]; simp [idxFrom], HB.out⟩

theorem containsFaults (g : Nat) (lb : Array Value) (p : S54 → Bool) (w : World) (A0 : Option Addr) (c0 : Nat) (l0 : List S54) (hr0 : Kd.C k54 w A0 l0.length l0)
    (eg : ∀ (args : Array Value) (W : World), (callFunc g args).run Try.prog W = .ok (.enter g args) W)
    (hp : ∀ x W, Below w.heap.size w W → Calls Try.prog g (#[fv x] ++ lb) W fun e W' => e = .returned (.bool (p x)) ∧ Below W.heap.size W W') :
    Calls Try.prog 65 #[.slice A0 l0.length c0, .func (.func g) #[] lb] w fun e w' => e = .returned (.bool (l0.any p)) ∧ Below w.heap.size w w' := by
  have HC := Aside0.mk (indexFaults g lb p w A0 c0 l0 hr0 eg hp)
  have HG := Aside0.mk (idxFrom_ge p l0 0 (Int.le_refl 0))
  clear hr0 eg hp
  obtain ⟨i, hi⟩ : ∃ i, i = idxFrom p l0 0 := ⟨_, rfl⟩
  rw [← hi] at HC HG
  clear hi
  by_cases h : 0 ≤ i
  · have h' := decide_eq_true h
    go_enter Try.func65, Try.ntmps65
    go_wp2_with (go_at_call 76; (with_reducible refine HC.out.mono ?_); rintro e w1 ⟨rfl, hb⟩; have HB1 := Aside0.mk hb; clear hb)
    go_ret
    exact ⟨by rw [HG.out.1 h]; rfl, HB1.out⟩
  · have h' := decide_eq_false h
    go_enter Try.func65, Try.ntmps65
    go_wp2_with (go_at_call 76; (with_reducible refine HC.out.mono ?_); rintro e w1 ⟨rfl, hb⟩; have HB1 := Aside0.mk hb; clear hb)
    go_ret
    exact ⟨by rw [show l0.any p = false from by cases hq : l0.any p with | false => rfl | true => exact absurd (HG.out.2 hq) (by omega)]; rfl, HB1.out⟩

/-- The closure of AreFaults: the same book and station? -/
theorem same_out (W : World) (x f : S54) (B : Nat) (h : FAt W ⟨B, 0, none⟩ f) :
    Calls Try.prog 66 #[fv x, .pointer (some ⟨B, 0, none⟩)] W fun e W' => e = .returned (.bool (decide (x.f0 = f.f0) && decide (x.f1 = f.f1))) ∧ Below W.heap.size W W' := by
  obtain ⟨h0, h1, h2, h3⟩ := h
  have hu54 := Try.underlying54
  have n0' : (W.alloc (.cells #[.int .i64 x.f0, .int .i64 x.f1, .int .i64 x.f2, .int .i64 x.f3] 54 (0, 0))).cell? ⟨B, 0, none⟩ = some (.int .i64 f.f0) := pw_cell_below (below_alloc (Below.refl W.heap.size W) _) h0
  have n1 : (W.alloc (.cells #[.int .i64 x.f0, .int .i64 x.f1, .int .i64 x.f2, .int .i64 x.f3] 54 (0, 0))).cell? ⟨B, 0 + 1, none⟩ = some (.int .i64 f.f1) := pw_cell_below (below_alloc (Below.refl W.heap.size W) _) h1
  simp only [Nat.zero_add] at n1
  by_cases ha : x.f0 = f.f0
  · by_cases hb : x.f1 = f.f1
    · have ha' : (x.f0 == f.f0) = true := by simpa using ha
      have hb' : (x.f1 == f.f1) = true := by simpa using hb
      have HAB : Aside0 ((decide (x.f0 = f.f0) && decide (x.f1 = f.f1)) = true) := ⟨by simp [ha, hb]⟩
      clear ha hb
      go_enter Try.func66, Try.ntmps66
      go_wp2
      go_ret
      exact ⟨by rw [HAB.out]; rfl, below_alloc (Below.refl _ _) _⟩
    · have ha' : (x.f0 == f.f0) = true := by simpa using ha
      have hb' : (x.f1 == f.f1) = false := by simpa using hb
      have HAB : Aside0 ((decide (x.f0 = f.f0) && decide (x.f1 = f.f1)) = false) := ⟨by simp [hb]⟩
      clear ha hb
      go_enter Try.func66, Try.ntmps66
      go_wp2
      go_ret
      exact ⟨by rw [HAB.out]; rfl, below_alloc (Below.refl _ _) _⟩
  · have ha' : (x.f0 == f.f0) = false := by simpa using ha
    have HAB : Aside0 ((decide (x.f0 = f.f0) && decide (x.f1 = f.f1)) = false) := ⟨by simp [ha]⟩
    clear ha
    go_enter Try.func66, Try.ntmps66
    go_wp2
    go_ret
    exact ⟨by rw [HAB.out]; rfl, below_alloc (Below.refl _ _) _⟩

/-- The closure of gather: of this book and station? -/
theorem here_out (W : World) (x : S54) (bk st : Int) (B C : Nat) (h0 : W.cell? ⟨B, 0, none⟩ = some (.int .i64 bk)) (h1 : W.cell? ⟨C, 0, none⟩ = some (.int .i64 st)) :
    Calls Try.prog 77 #[fv x, .pointer (some ⟨B, 0, none⟩), .pointer (some ⟨C, 0, none⟩)] W fun e W' => e = .returned (.bool (decide (x.f0 = bk) && decide (x.f1 = st))) ∧ Below W.heap.size W W' := by
  have hu54 := Try.underlying54
  have n0 : (W.alloc (.cells #[.int .i64 x.f0, .int .i64 x.f1, .int .i64 x.f2, .int .i64 x.f3] 54 (0, 0))).cell? ⟨B, 0, none⟩ = some (.int .i64 bk) := pw_cell_below (below_alloc (Below.refl W.heap.size W) _) h0
  have n1 : (W.alloc (.cells #[.int .i64 x.f0, .int .i64 x.f1, .int .i64 x.f2, .int .i64 x.f3] 54 (0, 0))).cell? ⟨C, 0, none⟩ = some (.int .i64 st) := pw_cell_below (below_alloc (Below.refl W.heap.size W) _) h1
  by_cases ha : x.f0 = bk
  · by_cases hb : x.f1 = st
    · have ha' : (x.f0 == bk) = true := by simpa using ha
      have hb' : (x.f1 == st) = true := by simpa using hb
      have HAB : Aside0 ((decide (x.f0 = bk) && decide (x.f1 = st)) = true) := ⟨by simp [ha, hb]⟩
      clear ha hb
      go_enter Try.func77, Try.ntmps77
      go_wp2
      go_ret
      exact ⟨by rw [HAB.out]; rfl, below_alloc (Below.refl _ _) _⟩
    · have ha' : (x.f0 == bk) = true := by simpa using ha
      have hb' : (x.f1 == st) = false := by simpa using hb
      have HAB : Aside0 ((decide (x.f0 = bk) && decide (x.f1 = st)) = false) := ⟨by simp [hb]⟩
      clear ha hb
      go_enter Try.func77, Try.ntmps77
      go_wp2
      go_ret
      exact ⟨by rw [HAB.out]; rfl, below_alloc (Below.refl _ _) _⟩
  · have ha' : (x.f0 == bk) = false := by simpa using ha
    have HAB : Aside0 ((decide (x.f0 = bk) && decide (x.f1 = st)) = false) := ⟨by simp [ha]⟩
    clear ha
    go_enter Try.func77, Try.ntmps77
    go_wp2
    go_ret
    exact ⟨by rw [HAB.out]; rfl, below_alloc (Below.refl _ _) _⟩
end Go.Proofs.Ythfegojffgblmaa.X
