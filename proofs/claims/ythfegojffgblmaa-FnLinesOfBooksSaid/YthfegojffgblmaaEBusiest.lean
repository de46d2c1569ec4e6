/- impl.BusiestStation walked: the stations' counts, their greatest (slices.Max), and its first place. No conditions. -/
import Derived.Test.YthfegojffgblmaaX2
import Derived.Test.YthfegojffgblmaaEAreFaults
import Derived.Test.YthfegojffgblmaaX9
import Derived.Test.YthfegojffgblmaaEFaultFind
namespace Go.Proofs.Ythfegojffgblmaa.X
open Go.RowKit Go.Shelf Go.Proofs.YthfegojffgblmaaW.PrintWords Go.Proofs.YthfegojffgblmaaW.PrintLast Go.Proofs.YthfegojffgblmaaW.PrintMore
set_option linter.unusedVariables false
set_option linter.unusedSimpArgs false

def mxd (l : List Int) : Nat → Int
  | 0 => rd l 0
  | d + 1 => mx (mxd l d) (rd l ((d + 1 : Nat) : Int))

set_option maxRecDepth 100000 in
set_option maxHeartbeats 4000000 in
theorem max_calls (A : Option Addr) (c : Nat) (l : List Int) (w : World) (hr : Kd.C (Kd.int .i64) w A l.length l) (h0 : 0 < l.length) (hl : l.length ≤ 1000000) :
    Calls Try.prog 59 #[.slice A l.length c] w fun e w' => e = .returned (.int .i64 (mxd l (l.length - 1))) ∧ Below w.heap.size w w' := by
  have HR := Aside0.mk hr
  have h1b : decide ((l.length : Int) < 1) = false := decide_eq_false (by omega)
  have HL := Aside0.mk hl
  have H0 := Aside0.mk h0
  obtain ⟨ad, hA, hx⟩ := Kd.at_int hr 0 (by omega) (by omega)
  subst hA
  have hp0 : ((0 : Int) < (l.length : Int)) = True := eq_true (by omega)
  obtain ⟨r, hr_⟩ : ∃ r, r = mxd l (l.length - 1) := ⟨_, rfl⟩
  rw [← hr_]
  have HRR := Aside0.mk hr_
  obtain ⟨z, hz⟩ : ∃ z, z = rd l 0 := ⟨_, rfl⟩
  rw [← hz] at hx
  have HZ := Aside0.mk hz
  have hx' : w.cell? ad = some (.int .i64 z) := by simpa [Addr.add] using hx
  have hpn := eq_true h0
  clear hx
  clear hr h0 hl hr_ hz
  go_enter Try.func59, Try.ntmps59
  go_wp2
  go_loopg [3, 4] (l.length - 1) (fun kq v3 v4 w' => ∃ (i : Nat) (m x : Int), v3 = .int .i64 m ∧ v4 = .int .i64 x ∧ Aside0 (i + 1 + kq = l.length) ∧ Aside0 (x = ((i + 1 : Nat) : Int)) ∧ Aside0 (m = mxd l i) ∧ Aside0 (Below w.heap.size w w'))
  case atStart => exact ⟨0, z, 1, rfl, rfl, ⟨by have := H0.out; omega⟩, ⟨rfl⟩, ⟨HZ.out⟩, ⟨Below.refl _ _⟩⟩
  case round =>
    obtain ⟨i, m, x, rfl, rfl, HI, HX, HM, HB⟩ := hrel
    cases gk with
    | zero =>
      have hcx : decide (x < (l.length : Int)) = false := decide_eq_false (by have := HI.out; have := HX.out; omega)
      have HEQ : Aside0 (m = r) := ⟨by rw [HM.out, HRR.out]; congr 1; have := HI.out; omega⟩
      go_wp2
      go_ret
      exact ⟨by rw [← HEQ.out]; rfl, HB.out⟩
    | succ k1 =>
      have hcx : decide (x < (l.length : Int)) = true := decide_eq_true (by have := HI.out; have := HX.out; omega)
      have HX0 : Aside0 (0 ≤ x ∧ x < (l.length : Int)) := ⟨by have := HI.out; have := HX.out; omega⟩
      have HXS : Aside0 (wrap64 (x + 1) = ((i + 1 + 1 : Nat) : Int)) := ⟨by have := HX.out; have := HI.out; have := HL.out; unfold wrap64; omega⟩
      obtain ⟨ad2, hA2, hx2⟩ := Kd.at_int (Kd.C_below HR.out HB.out) x HX0.out.1 HX0.out.2
      cases hA2
      have hpx := eq_true HX0.out.1
      have hqx := eq_true HX0.out.2
      obtain ⟨v, hv⟩ : ∃ v, v = rd l x := ⟨_, rfl⟩
      rw [← hv] at hx2
      obtain ⟨m2, hm2⟩ : ∃ m2, (if m < v then v else m) = m2 := ⟨_, rfl⟩
      have HM2 : Aside0 (m2 = mxd l (i + 1)) := ⟨by rw [← hm2, hv, HX.out, HM.out]; rfl⟩
      clear hv
      go_wp2
      go_roundg k1
      case measure => exact Nat.lt_succ_self _
      case rel => exact ⟨i + 1, m2, _, rfl, rfl, ⟨by have := HI.out; omega⟩, HXS, HM2, HB⟩

-- the counts
def bump (m : List Int) (s : Int) : List Int := m.set s.toNat (wrap64 (rd m s + 1))
def bumpTo (n : Nat) (l2 : List S54) : Nat → List Int
  | 0 => List.replicate n 0
  | i + 1 => bump (bumpTo n l2 i) (rd_T54 l2 i).f1
theorem bumpTo_len (n : Nat) (l2 : List S54) : ∀ i, (bumpTo n l2 i).length = n
  | 0 => by simp [bumpTo]
  | i + 1 => by simp [bumpTo, bump, bumpTo_len n l2 i]
theorem check_zero {a0 a1 : Int} {l2 : List S54} (h : impl_checkFaults.f a0 a1 l2 = some 0) : (1 ≤ a0 ∧ a0 ≤ 12) ∧ l2.length ≤ 20 ∧ ∀ i : Nat, i < l2.length → 0 ≤ (rd_T54 l2 i).f1 ∧ (rd_T54 l2 i).f1 < a0 := by
  unfold impl_checkFaults.f at h
  rw [isLine_is, Option.bind_some] at h
  split at h
  · rename_i hl
    unfold impl_AreFaults.f at h
    rw [Option.bind_some] at h
    split at h
    · rename_i ha
      simp only [Bool.and_eq_true, decide_eq_true_eq, List.all_eq_true, List.mem_range] at hl ha
      refine ⟨hl.1, ha.2.1, fun i hi => ?_⟩
      have h1 := ha.2.2 i hi
      unfold okAt at h1
      rw [Bool.and_eq_true] at h1
      have h2 := h1.1
      unfold okF at h2
      simp only [Bool.and_eq_true, decide_eq_true_eq] at h2
      have w : wrap64 (a0 - 1) = a0 - 1 := by unfold wrap64; omega
      rw [w] at h2
      omega
    · simp at h
  · simp at h
def impl_BusiestStation.f (a0 a1 : Int) (l2 : List S54) : Option (Int × Int × Int) := (impl_checkFaults.f a0 a1 l2).bind fun t => if t = 0 then ((slices_Index_int64_int64.f (a0.toNat + 5) (bumpTo a0.toNat l2 l2.length) (mxd (bumpTo a0.toNat l2 l2.length) (a0.toNat - 1))).bind fun r => some (r, mxd (bumpTo a0.toNat l2 l2.length) (a0.toNat - 1), 0)) else some (0, 0, t)

set_option maxRecDepth 100000 in
set_option maxHeartbeats 4000000 in
theorem busiest_no (a0 : Int) (a1 : Int) (A2 : Option Addr) (c2 : Nat) (l2 : List S54) (t : Int) (w : World) (hr2 : Kd.C k54 w A2 l2.length l2) (hc2 : l2.length ≤ c2) (h : impl_checkFaults.f a0 a1 l2 = some t) (ht : ¬ t = 0) :
    Calls Try.prog 30 #[.int .i64 a0, .int .i64 a1, .slice A2 l2.length c2] w fun e w' => e = .returned (.tuple #[.int .i64 0, .int .i64 0, .int .i64 t]) ∧ Below w.heap.size w w' := by
  have HR := Aside0.mk hr2
  have HC := Aside0.mk hc2
  have HA := Aside0.mk h
  have ht1 : (t != 0) = true := by simpa using ht
  clear hr2 hc2 h ht
  go_enter Try.func30, Try.ntmps30
  go_wp2_with (go_at_call 51; (with_reducible refine (impl_checkFaults.calls a0 a1 A2 c2 l2 t _ ?side1 ?side2 HA.out).mono ?_); (case side1 => repeat (first | exact HR.out | (with_reducible refine Kd.C_alloc ?_ _) | (with_reducible refine Kd.C_drewN ?_ _) | (with_reducible refine Kd.C_drew ?_))); (case side2 => exact HC.out); rintro e w5 ⟨rfl, hb5⟩; have HB := Aside0.mk hb5; clear hb5)
  go_ret3
  exact ⟨rfl, HB.out⟩

set_option maxRecDepth 100000 in
set_option maxHeartbeats 8000000 in
theorem busiest_yes (a0 : Int) (a1 : Int) (A2 : Option Addr) (c2 : Nat) (l2 : List S54) (r : Int) (w : World) (hr2 : Kd.C k54 w A2 l2.length l2) (hc2 : l2.length ≤ c2) (h : impl_checkFaults.f a0 a1 l2 = some 0) (hr : slices_Index_int64_int64.f (a0.toNat + 5) (bumpTo a0.toNat l2 l2.length) (mxd (bumpTo a0.toNat l2 l2.length) (a0.toNat - 1)) = some r) :
    Calls Try.prog 30 #[.int .i64 a0, .int .i64 a1, .slice A2 l2.length c2] w fun e w' => e = .returned (.tuple #[.int .i64 r, .int .i64 (mxd (bumpTo a0.toNat l2 l2.length) (a0.toNat - 1)), .int .i64 0]) ∧ Below w.heap.size w w' := by
  have HZ := Aside0.mk (check_zero h)
  have hu54 := Try.underlying54
  have HR := Aside0.mk hr2
  have HC := Aside0.mk hc2
  have HA := Aside0.mk h
  obtain ⟨N, hN⟩ : ∃ N, N = a0.toNat := ⟨_, rfl⟩
  rw [← hN] at hr ⊢
  obtain ⟨most, hmost⟩ : ∃ most, most = mxd (bumpTo N l2 l2.length) (N - 1) := ⟨_, rfl⟩
  rw [← hmost] at hr ⊢
  have HIX := Aside0.mk hr
  have HMO := Aside0.mk hmost
  have HN := Aside0.mk (show a0 = (N : Int) ∧ 1 ≤ N ∧ N ≤ 12 from by have := HZ.out.1; omega)
  have h0b : 0 ≤ a0 := by have := HN.out; omega
  have h0c := eq_true h0b
  have h0d : decide (0 ≤ a0) = true := decide_eq_true h0b
  have h0e : a0.toNat ≤ 35184372088832 := by have := HN.out; omega
  have h0f := eq_true h0e
  have h0g : decide (a0.toNat ≤ 35184372088832) = true := decide_eq_true h0e
  clear hr2 hc2 h hr hmost
  go_enter Try.func30, Try.ntmps30
  go_wp2_with (first
    | (go_at_call 51; (with_reducible refine (impl_checkFaults.calls a0 a1 A2 c2 l2 0 _ ?side1 ?side2 HA.out).mono ?_); (case side1 => repeat (first | exact HR.out | (with_reducible refine Kd.C_alloc ?_ _) | (with_reducible refine Kd.C_drewN ?_ _) | (with_reducible refine Kd.C_drew ?_))); (case side2 => exact HC.out); rintro e w5 ⟨rfl, hb5⟩; have HB5 := Aside0.mk hb5; clear hb5)
    | ((with_reducible refine gate_dst (N := 22) rfl ?_); refine Kd.R_make (Kd.int .i64) _ 2 rfl (N := 22) rfl 22 _ _ rfl a0 rfl rfl Try.underlying22 (.int .i64 0) 8 info2 rfl (by decide) (by omega) 0 (ok := fun _ => True) (okp := fun _ => True) rfl (fun _ hk => hk) trivial h0b (Nat.le_trans (Nat.mul_le_mul_right _ h0e) (by omega)) (Below.refl _ _) (Nat.le_refl _) ?_; intro v544 w9 ho10 hb hg_ hnew_; clear hg_ hnew_; have HO9 := Aside0.mk (Kd.R_lower ho10 HB5.out.size); have HB9 := Aside0.mk (below_then HB5.out HB5.out.size hb); clear hb ho10))
  go_loopg [25] l2.length (fun kq v25 w' => ∃ (i : Nat) (x : Int), v25 = .int .i64 x ∧ Aside0 (i + kq = l2.length) ∧ Aside0 (x = (i : Int)) ∧ Aside0 (Kd.R (Kd.int .i64) 2 w' w.heap.size (fun _ => True) v544 (bumpTo N l2 i)) ∧ Aside0 (Below w.heap.size w w'))
  case atStart => exact ⟨0, 0, rfl, ⟨Nat.zero_add _⟩, ⟨rfl⟩, ⟨by simp only [bumpTo]; rw [HN.out.1, Int.toNat_natCast] at HO9; exact HO9.out⟩, HB9⟩
  case round =>
    clear HO9 HB9
    obtain ⟨i, x, rfl, HI, HX, HO, HB⟩ := hrel
    cases gk with
    | zero =>
      have hcx : decide (x < (l2.length : Int)) = false := decide_eq_false (by have := HI.out; have := HX.out; omega)
      have HIL : Aside0 (i = l2.length) := ⟨by have := HI.out; omega⟩
      rw [HIL.out] at HO
      obtain ⟨M, hM⟩ : ∃ M, M = bumpTo N l2 l2.length := ⟨_, rfl⟩
      rw [← hM] at HO HIX HMO
      have HML : Aside0 (M.length = N) := ⟨by rw [hM]; exact bumpTo_len _ _ _⟩
      clear hM
      obtain ⟨Ao, co, eo⟩ := Kd.R_slice HO.out
      subst eo
      have HMX := Aside0.mk (max_calls Ao co M wr (Kd.R_reads' HO.out).2.2 (by have := HML.out; have := HN.out; omega) (by have := HML.out; have := HN.out; omega))
      rw [show mxd M (M.length - 1) = most from by rw [HMO.out, HML.out]] at HMX
      go_wp2_with (first
        | (go_at_call 59; (with_reducible refine HMX.out.mono ?_); rintro e w6 ⟨rfl, hb6⟩; have HB6 := Aside0.mk (below_then HB.out HB.out.size hb6); have HO6 := Aside0.mk (Kd.R_below HO.out hb6); clear hb6)
        | (go_at_call 60; (with_reducible refine (slices_Index_int64_int64.calls (N + 5) Ao co M most r _ ?side1 ?side2 HIX.out).mono ?_); (case side1 => exact (Kd.R_reads' HO6.out).2.2); (case side2 => exact (Kd.R_reads' HO6.out).2.1); rintro e w7 ⟨rfl, ⟨nd7, rfl⟩⟩))
      go_ret3
      exact ⟨rfl, pw_below_drewN HB6.out _⟩
    | succ k1 =>
      have hcx : decide (x < (l2.length : Int)) = true := decide_eq_true (by have := HI.out; have := HX.out; omega)
      have HX0 : Aside0 (0 ≤ x ∧ x < (l2.length : Int)) := ⟨by have := HI.out; have := HX.out; omega⟩
      have HXS : Aside0 (wrap64 (x + 1) = ((i + 1 : Nat) : Int)) := ⟨by have := HX.out; have := HI.out; have := HZ.out.2.1; unfold wrap64; omega⟩
      obtain ⟨ad, hA2, hx0, hx1, hx2, hx3⟩ := at_T54 (Kd.C_below HR.out HB.out) x HX0.out.1 HX0.out.2
      subst hA2
      have hpx := eq_true HX0.out.1
      have hqx := eq_true HX0.out.2
      obtain ⟨f, hf⟩ : ∃ f, f = rd_T54 l2 x := ⟨_, rfl⟩
      rw [← hf] at hx0 hx1 hx2 hx3
      have HFI : Aside0 (f = rd_T54 l2 i) := ⟨by rw [hf, HX.out]⟩
      clear hf
      obtain ⟨M, hM⟩ : ∃ M, M = bumpTo N l2 i := ⟨_, rfl⟩
      rw [← hM] at HO
      have HML : Aside0 (M.length = N) := ⟨by rw [hM]; exact bumpTo_len _ _ _⟩
      have HMS : Aside0 (bumpTo N l2 (i + 1) = M.set f.f1.toNat (wrap64 (rd M f.f1 + 1))) := ⟨by rw [hM, HFI.out]; rfl⟩
      have HS0 : Aside0 (0 ≤ f.f1 ∧ f.f1 < (M.length : Int)) := ⟨by have h := HZ.out.2.2 i (by have := HI.out; omega); rw [← HFI.out] at h; have := HML.out; have := HN.out; omega⟩
      clear hM
      obtain ⟨W1, hW1⟩ : ∃ W1, W1 = wr.alloc (Obj.cells #[Value.int IntKind.i64 f.f0, Value.int IntKind.i64 f.f1, Value.int IntKind.i64 f.f2, Value.int IntKind.i64 f.f3] 54 (0, 0)) := ⟨_, rfl⟩
      have HFA : Aside0 (FAt W1 ⟨wr.heap.size, 0, none⟩ f) := ⟨by rw [hW1]; exact FAt_new _ _⟩
      have HB1 : Aside0 (Below w.heap.size w W1) := ⟨by rw [hW1]; exact below_alloc HB.out _⟩
      have HO1 : Aside0 (Kd.R (Kd.int .i64) 2 W1 w.heap.size (fun _ => True) v544 M) := ⟨by rw [hW1]; exact Kd.R_alloc HO.out _⟩
      go_upto_region 8 with (fail)
      rw [← hW1]
      clear hW1 hx0 hx1 hx2 hx3 hpx hqx hcx
      obtain ⟨y0, y1, y2, y3⟩ := HFA.out
      obtain ⟨go, co, eo, gb, gl, cl, HG⟩ := Kd.R_form HO1.out (by have := HS0.out; omega)
      subst eo
      obtain ⟨ad2, e2, hz⟩ := Kd.at_int (Kd.R_reads' HO1.out).2.2 f.f1 HS0.out.1 HS0.out.2
      cases e2
      have hps := eq_true HS0.out.1
      have hqs := eq_true HS0.out.2
      obtain ⟨hz1, hz2⟩ := Kd.R_celln 0 HO1.out f.f1 HS0.out.1 HS0.out.2
      have HP := Aside0.mk (Kd.R_putn HO1.out f.f1 (wrap64 (rd M f.f1 + 1)))
      rw [← HMS.out] at HP
      simp only [add_plain] at hz
      clear hz1
      go_wp2
      go_roundg k1
      case measure => exact Nat.lt_succ_self _
      case rel => exact ⟨i + 1, _, rfl, ⟨by have := HI.out; omega⟩, HXS, HP, ⟨below_set HB1.out gb⟩⟩

theorem impl_BusiestStation.calls (a0 : Int) (a1 : Int) (A2 : Option Addr) (c2 : Nat) (l2 : List S54) (r1 : Int) (r2 : Int) (r3 : Int) (w : World) (hr2 : Kd.C k54 w A2 l2.length l2) (hc2 : l2.length ≤ c2) (h : impl_BusiestStation.f a0 a1 l2 = some (r1, r2, r3)) :
    Calls Try.prog 30 #[.int .i64 a0, .int .i64 a1, .slice A2 l2.length c2] w fun e w' => e = .returned (.tuple #[.int .i64 r1, .int .i64 r2, .int .i64 r3]) ∧ Below w.heap.size w w' := by
  unfold impl_BusiestStation.f at h
  obtain ⟨t, ht, h⟩ := Option.bind_eq_some_iff.1 h
  by_cases h0 : t = 0
  · subst h0
    rw [if_pos rfl] at h
    obtain ⟨r, hr, h⟩ := Option.bind_eq_some_iff.1 h
    simp only [Option.some.injEq, Prod.mk.injEq] at h
    obtain ⟨rfl, rfl, rfl⟩ := h
    exact busiest_yes a0 a1 A2 c2 l2 r w hr2 hc2 ht hr
  · rw [if_neg h0] at h
    simp only [Option.some.injEq, Prod.mk.injEq] at h
    obtain ⟨rfl, rfl, rfl⟩ := h
    exact busiest_no a0 a1 A2 c2 l2 t w hr2 hc2 ht h0
end Go.Proofs.Ythfegojffgblmaa.X
