/- impl.AreFaults walked: a closure over a copy of each fault, asked of the faults ahead of it. No conditions. -/
import Derived.Test.YthfegojffgblmaaX4
import Derived.Test.YthfegojffgblmaaEFaultFind
namespace Go.Proofs.Ythfegojffgblmaa.X
open Go.RowKit Go.Shelf Go.Proofs.YthfegojffgblmaaW.PrintWords Go.Proofs.YthfegojffgblmaaW.PrintLast Go.Proofs.YthfegojffgblmaaW.PrintMore
set_option linter.unusedVariables false
set_option linter.unusedSimpArgs false

theorem inR_is (x lo hi : Int) : impl_inRange.f x lo hi = some (decide (lo ≤ x) && decide (x ≤ hi)) := by
  unfold impl_inRange.f
  by_cases h : lo ≤ x
  · rw [if_pos h]; simp [h]
  · rw [if_neg h]; simp [h]
theorem isLine_is (a b : Int) : impl_isLine.f a b = some ((decide (1 ≤ a) && decide (a ≤ 12)) && (decide (0 ≤ b) && decide (b ≤ 40))) := by
  unfold impl_isLine.f
  rw [inR_is, inR_is]
  simp only [Option.bind_some]
  cases (decide (1 ≤ a) && decide (a ≤ 12)) <;> simp
/-- Is a fault one of a line? -/
def okF (a0 a1 : Int) (f : S54) : Bool := (decide (0 ≤ f.f0) && decide (f.f0 ≤ wrap64 (a1 - 1))) && ((decide (0 ≤ f.f1) && decide (f.f1 ≤ wrap64 (a0 - 1))) && ((decide (1 ≤ f.f2) && decide (f.f2 ≤ 4)) && (if f.f2 = 4 then ((decide (0 ≤ f.f3) && decide (f.f3 ≤ wrap64 (a0 - 1))) && !decide (f.f3 = f.f1)) else decide (f.f3 = 0))))
def sameF (f : S54) (x : S54) : Bool := decide (x.f0 = f.f0) && decide (x.f1 = f.f1)
def okAt (a0 a1 : Int) (l : List S54) (i : Nat) : Bool := okF a0 a1 (rd_T54 l i) && !(l.take i).any (sameF (rd_T54 l i))
def impl_AreFaults.f (a0 a1 : Int) (l2 : List S54) : Option Bool := some (((decide (1 ≤ a0) && decide (a0 ≤ 12)) && (decide (0 ≤ a1) && decide (a1 ≤ 40))) && (decide (l2.length ≤ 20) && (List.range l2.length).all (okAt a0 a1 l2)))

set_option maxRecDepth 100000 in
set_option maxHeartbeats 8000000 in
theorem areFaults_off (a0 a1 : Int) (A2 : Option Addr) (c2 : Nat) (l2 : List S54) (w : World) (hr2 : Kd.C k54 w A2 l2.length l2) (hc2 : l2.length ≤ c2) (h : impl_isLine.f a0 a1 = some false) :
    Calls Try.prog 36 #[.int .i64 a0, .int .i64 a1, .slice A2 l2.length c2] w fun e w' => e = .returned (.bool false) ∧ Below w.heap.size w w' := by
  have HA := Aside0.mk h
  clear h hr2
  go_enter Try.func36, Try.ntmps36
  go_wp2_with (go_at_call 62; (with_reducible refine (impl_isLine.calls a0 a1 false _ HA.out).mono ?_); rintro e w1 ⟨rfl, ⟨nd1, rfl⟩⟩)
  go_ret
  exact ⟨rfl, pw_below_drewN (Below.refl _ _) _⟩

set_option maxRecDepth 100000 in
set_option maxHeartbeats 8000000 in
theorem areFaults_long (a0 a1 : Int) (A2 : Option Addr) (c2 : Nat) (l2 : List S54) (w : World) (hr2 : Kd.C k54 w A2 l2.length l2) (hc2 : l2.length ≤ c2) (h : impl_isLine.f a0 a1 = some true) (hl : 20 < l2.length) :
    Calls Try.prog 36 #[.int .i64 a0, .int .i64 a1, .slice A2 l2.length c2] w fun e w' => e = .returned (.bool false) ∧ Below w.heap.size w w' := by
  have HA := Aside0.mk h
  have hmax := Kd.C_max hr2
  obtain ⟨n, hn⟩ : ∃ n : Int, n = (l2.length : Int) := ⟨_, rfl⟩
  have hl' : decide (20 < (l2.length : Int)) = true := decide_eq_true (by omega)
  clear h hr2 hl hn n
  go_enter Try.func36, Try.ntmps36
  go_wp2_with (go_at_call 62; (with_reducible refine (impl_isLine.calls a0 a1 true _ HA.out).mono ?_); rintro e w1 ⟨rfl, ⟨nd1, rfl⟩⟩)
  go_ret
  exact ⟨rfl, pw_below_drewN (Below.refl _ _) _⟩

set_option maxRecDepth 100000 in
set_option maxHeartbeats 8000000 in
theorem areFaults_on (a0 a1 : Int) (A2 : Option Addr) (c2 : Nat) (l2 : List S54) (w : World) (hr2 : Kd.C k54 w A2 l2.length l2) (hc2 : l2.length ≤ c2) (h : impl_isLine.f a0 a1 = some true) (hl : l2.length ≤ 20) :
    Calls Try.prog 36 #[.int .i64 a0, .int .i64 a1, .slice A2 l2.length c2] w fun e w' => e = .returned (.bool ((List.range l2.length).all (okAt a0 a1 l2))) ∧ Below w.heap.size w w' := by
  have hu54 := Try.underlying54
  have HR := Aside0.mk hr2
  have HC := Aside0.mk hc2
  have HA := Aside0.mk h
  have hl' : decide (20 < (l2.length : Int)) = false := decide_eq_false (by omega)
  have HL := Aside0.mk hl
  obtain ⟨r, hr⟩ : ∃ r, r = (List.range l2.length).all (okAt a0 a1 l2) := ⟨_, rfl⟩
  rw [← hr]
  have HRR := Aside0.mk hr
  clear h hr2 hl hc2 hr
  go_enter Try.func36, Try.ntmps36
  go_wp2_with (go_at_call 62; (with_reducible refine (impl_isLine.calls a0 a1 true _ HA.out).mono ?_); rintro e w1 ⟨rfl, ⟨nd1, rfl⟩⟩)
  go_loopg [20] l2.length (fun kq v20 w' => ∃ (i : Nat) (x : Int), v20 = .int .i64 x ∧ Aside0 (i + kq = l2.length) ∧ Aside0 (x = (i : Int)) ∧ Aside0 (∀ j, j < i → okAt a0 a1 l2 j = true) ∧ Aside0 (Below w.heap.size w w'))
  case atStart => exact ⟨0, 0, rfl, ⟨Nat.zero_add _⟩, ⟨rfl⟩, ⟨fun j hj => absurd hj (by omega)⟩, ⟨pw_below_drewN (Below.refl _ _) _⟩⟩
  case round =>
    obtain ⟨i, x, rfl, HI, HX, HOK, HB⟩ := hrel
    cases gk with
    | zero =>
      have hcx : decide (x < (l2.length : Int)) = false := decide_eq_false (by have := HI.out; have := HX.out; omega)
      have HRT : Aside0 (r = true) := ⟨by rw [HRR.out, List.all_eq_true]; intro j hj; exact HOK.out j (by have := List.mem_range.1 hj; have := HI.out; omega)⟩
      go_wp2
      go_ret
      exact ⟨by rw [HRT.out]; rfl, HB.out⟩
    | succ k1 =>
      have hcx : decide (x < (l2.length : Int)) = true := decide_eq_true (by have := HI.out; have := HX.out; omega)
      have hcx0 : decide (0 ≤ x) = true := decide_eq_true (by have := HX.out; omega)
      have HX0 : Aside0 (0 ≤ x ∧ x < (l2.length : Int)) := ⟨of_decide_eq_true hcx0, of_decide_eq_true hcx⟩
      obtain ⟨ad, hA2, hx0, hx1, hx2, hx3⟩ := at_T54 (Kd.C_below HR.out HB.out) x HX0.out.1 HX0.out.2
      subst hA2
      have hpx := eq_true HX0.out.1
      have hqx := eq_true HX0.out.2
      obtain ⟨f, hf⟩ : ∃ f, f = rd_T54 l2 x := ⟨_, rfl⟩
      rw [← hf] at hx0 hx1 hx2 hx3
      have HF := Aside0.mk hf
      clear hf
      have HIB : Aside0 (i < l2.length) := ⟨by have := HI.out; omega⟩
      have HI1 : Aside0 (i + 1 + k1 = l2.length) := ⟨by have := HI.out; omega⟩
      have HXS : Aside0 (wrap64 (x + 1) = ((i + 1 : Nat) : Int)) := ⟨by have := HX.out; have := HIB.out; have := HL.out; unfold wrap64; omega⟩
      have HFI : Aside0 (f = rd_T54 l2 i) := ⟨by rw [HF.out, HX.out]⟩
      have HRF : Aside0 (okAt a0 a1 l2 i = false → r = false) := ⟨fun h => by rw [HRR.out]; rw [List.all_eq_false]; exact ⟨i, List.mem_range.2 HIB.out, by simp [h]⟩⟩
      obtain ⟨lt, hlt⟩ : ∃ lt, lt = l2.take i := ⟨_, rfl⟩
      have HLTE := Aside0.mk hlt
      have hltl : lt.length = i := by rw [hlt, List.length_take]; have := HIB.out; omega
      obtain ⟨ii, hii, _, _, _⟩ := info_parts info54
      have hcut : ∀ W : World, (Instr.slice 36 (.slice (some ad) l2.length c2) none (some (.int .i64 x)) none).run Try.prog W = .ok (.slice (some ad) lt.length c2) W := by
        have h := cut_to (P := Try.prog) 36 54 .i64 Try.underlying36 hii (some ad) l2.length c2 x HX0.out.1 (by have := HX0.out; omega) HC.out
        rw [show x.toNat = lt.length from by have := HX.out; omega] at h
        exact h
      obtain ⟨W1, hW1⟩ : ∃ W1, W1 = wr.alloc (Obj.cells #[Value.int IntKind.i64 f.f0, Value.int IntKind.i64 f.f1, Value.int IntKind.i64 f.f2, Value.int IntKind.i64 f.f3] 54 (0, 0)) := ⟨_, rfl⟩
      have HFA : Aside0 (FAt W1 ⟨wr.heap.size, 0, none⟩ f) := ⟨by rw [hW1]; exact FAt_new _ _⟩
      have HB1 : Aside0 (Below w.heap.size w W1) := ⟨by rw [hW1]; exact below_alloc HB.out _⟩
      have HLT : Aside0 (Kd.C k54 W1 (some ad) lt.length lt) := ⟨by rw [hlt]; exact Kd.C_take (Kd.C_below HR.out HB1.out) (by have := HIB.out; omega)⟩
      obtain ⟨y0, y1, y2, y3⟩ := HFA.out
      obtain ⟨tc, htc⟩ : ∃ tc, lt.any (sameF f) = tc := ⟨_, rfl⟩
      have HTC := Aside0.mk htc
      have HCF : Aside0 (∀ n : Nat, Calls Try.prog 65 #[.slice (some ad) lt.length c2, .func (.func 66) #[] #[.pointer (some ⟨wr.heap.size, 0, none⟩)]] (W1.drewN n) fun e w' => e = .returned (.bool tc) ∧ Below (W1.drewN n).heap.size (W1.drewN n) w') := ⟨fun n => by
        rw [← htc]
        exact containsFaults 66 #[.pointer (some ⟨wr.heap.size, 0, none⟩)] (sameF f) (W1.drewN n) (some ad) c2 lt (Kd.C_drewN HLT.out _) (enters_of Try.func66 (by kernel_rfl) rfl) (fun x_ W_ hb_ => same_out W_ x_ f wr.heap.size (FAt_below (FAt_drewN HFA.out n) hb_))⟩
      clear hlt hltl htc hii
      -- the copy of the fault
      go_upto_region 6 with (fail)
      rw [← hW1]
      clear hW1 hx0 hx1 hx2 hx3
      clear hcx hcx0 hpx hqx
      obtain ⟨t1, ht1⟩ : ∃ t1, t1 = (decide (0 ≤ f.f0) && decide (f.f0 ≤ wrap64 (a1 - 1))) := ⟨_, rfl⟩
      have HT1 : Aside0 (impl_inRange.f f.f0 0 (wrap64 (a1 - 1)) = some t1) := ⟨by rw [ht1]; exact inR_is _ _ _⟩
      obtain ⟨t2, ht2⟩ : ∃ t2, t2 = (decide (0 ≤ f.f1) && decide (f.f1 ≤ wrap64 (a0 - 1))) := ⟨_, rfl⟩
      have HT2 : Aside0 (impl_inRange.f f.f1 0 (wrap64 (a0 - 1)) = some t2) := ⟨by rw [ht2]; exact inR_is _ _ _⟩
      obtain ⟨t3, ht3⟩ : ∃ t3, t3 = (decide (1 ≤ f.f2) && decide (f.f2 ≤ 4)) := ⟨_, rfl⟩
      have HT3 : Aside0 (impl_inRange.f f.f2 1 4 = some t3) := ⟨by rw [ht3]; exact inR_is _ _ _⟩
      obtain ⟨t4, ht4⟩ : ∃ t4, t4 = (decide (0 ≤ f.f3) && decide (f.f3 ≤ wrap64 (a0 - 1))) := ⟨_, rfl⟩
      have HT4 : Aside0 (impl_inRange.f f.f3 0 (wrap64 (a0 - 1)) = some t4) := ⟨by rw [ht4]; exact inR_is _ _ _⟩
      have HOF : Aside0 (okF a0 a1 f = (t1 && (t2 && (t3 && (if f.f2 = 4 then (t4 && !decide (f.f3 = f.f1)) else decide (f.f3 = 0)))))) := ⟨by rw [ht1, ht2, ht3, ht4]; rfl⟩
      have HOA : Aside0 (okF a0 a1 f = false → okAt a0 a1 l2 i = false) := ⟨fun h => by unfold okAt; rw [← HFI.out, h]; rfl⟩
      clear ht1 ht2 ht3 ht4
      cases t1 with
      | false =>
        go_wp2_with (first
          | (go_at_call 64; (with_reducible refine (impl_inRange.calls f.f0 0 (wrap64 (a1 - 1)) false _ HT1.out).mono ?_); rintro e w21 ⟨rfl, ⟨nd21, rfl⟩⟩))
        go_ret
        exact ⟨by rw [HRF.out (HOA.out (by rw [HOF.out]; rfl))]; rfl, pw_below_drewN HB1.out _⟩
      | true =>
      cases t2 with
      | false =>
        go_wp2_with (first
          | (go_at_call 64; (with_reducible refine (impl_inRange.calls f.f0 0 (wrap64 (a1 - 1)) true _ HT1.out).mono ?_); rintro e w21 ⟨rfl, ⟨nd21, rfl⟩⟩)
          | (go_at_call 64; (with_reducible refine (impl_inRange.calls f.f1 0 (wrap64 (a0 - 1)) false _ HT2.out).mono ?_); rintro e w22 ⟨rfl, ⟨nd22, rfl⟩⟩))
        go_ret
        exact ⟨by rw [HRF.out (HOA.out (by rw [HOF.out]; rfl))]; rfl, pw_below_drewN HB1.out _⟩
      | true =>
      cases t3 with
      | false =>
        go_wp2_with (first
          | (go_at_call 64; (with_reducible refine (impl_inRange.calls f.f0 0 (wrap64 (a1 - 1)) true _ HT1.out).mono ?_); rintro e w21 ⟨rfl, ⟨nd21, rfl⟩⟩)
          | (go_at_call 64; (with_reducible refine (impl_inRange.calls f.f1 0 (wrap64 (a0 - 1)) true _ HT2.out).mono ?_); rintro e w22 ⟨rfl, ⟨nd22, rfl⟩⟩)
          | (go_at_call 64; (with_reducible refine (impl_inRange.calls f.f2 1 4 false _ HT3.out).mono ?_); rintro e w23 ⟨rfl, ⟨nd23, rfl⟩⟩))
        go_ret
        exact ⟨by rw [HRF.out (HOA.out (by rw [HOF.out]; rfl))]; rfl, pw_below_drewN HB1.out _⟩
      | true =>
      by_cases hk4 : f.f2 = 4
      · have hk4b : (f.f2 == 4) = true := by simpa using hk4
        have hk4c : (f.f2 != 4) = false := by simp [hk4]
        have HOF4 : Aside0 (okF a0 a1 f = (t4 && !decide (f.f3 = f.f1))) := ⟨by rw [HOF.out, if_pos hk4]; rfl⟩
        clear hk4
        cases t4 with
        | false =>
          go_wp2_with (first
            | (go_at_call 64; (with_reducible refine (impl_inRange.calls f.f0 0 (wrap64 (a1 - 1)) true _ HT1.out).mono ?_); rintro e w21 ⟨rfl, ⟨nd21, rfl⟩⟩)
            | (go_at_call 64; (with_reducible refine (impl_inRange.calls f.f1 0 (wrap64 (a0 - 1)) true _ HT2.out).mono ?_); rintro e w22 ⟨rfl, ⟨nd22, rfl⟩⟩)
            | (go_at_call 64; (with_reducible refine (impl_inRange.calls f.f2 1 4 true _ HT3.out).mono ?_); rintro e w23 ⟨rfl, ⟨nd23, rfl⟩⟩)
            | (go_at_call 64; (with_reducible refine (impl_inRange.calls f.f3 0 (wrap64 (a0 - 1)) false _ HT4.out).mono ?_); rintro e w24 ⟨rfl, ⟨nd24, rfl⟩⟩))
          go_ret
          exact ⟨by rw [HRF.out (HOA.out (by rw [HOF4.out]; rfl))]; rfl, pw_below_drewN HB1.out _⟩
        | true =>
        by_cases hos : f.f3 = f.f1
        · have hosb : (f.f3 == f.f1) = true := by simpa using hos
          have HOF5 : Aside0 (okF a0 a1 f = false) := ⟨by rw [HOF4.out, hos]; simp⟩
          clear hos
          go_wp2_with (first
            | (go_at_call 64; (with_reducible refine (impl_inRange.calls f.f0 0 (wrap64 (a1 - 1)) true _ HT1.out).mono ?_); rintro e w21 ⟨rfl, ⟨nd21, rfl⟩⟩)
            | (go_at_call 64; (with_reducible refine (impl_inRange.calls f.f1 0 (wrap64 (a0 - 1)) true _ HT2.out).mono ?_); rintro e w22 ⟨rfl, ⟨nd22, rfl⟩⟩)
            | (go_at_call 64; (with_reducible refine (impl_inRange.calls f.f2 1 4 true _ HT3.out).mono ?_); rintro e w23 ⟨rfl, ⟨nd23, rfl⟩⟩)
            | (go_at_call 64; (with_reducible refine (impl_inRange.calls f.f3 0 (wrap64 (a0 - 1)) true _ HT4.out).mono ?_); rintro e w24 ⟨rfl, ⟨nd24, rfl⟩⟩))
          go_ret
          exact ⟨by rw [HRF.out (HOA.out HOF5.out)]; rfl, pw_below_drewN HB1.out _⟩
        · have hosb : (f.f3 == f.f1) = false := by simpa using hos
          have HOKF : Aside0 (okF a0 a1 f = true) := ⟨by rw [HOF4.out]; simp [hos]⟩
          clear hos
          cases tc with
          | true =>
            go_wp2_with (first
              | (go_at_call 64; (with_reducible refine (impl_inRange.calls f.f0 0 (wrap64 (a1 - 1)) true _ HT1.out).mono ?_); rintro e w21 ⟨rfl, ⟨nd21, rfl⟩⟩)
              | (go_at_call 64; (with_reducible refine (impl_inRange.calls f.f1 0 (wrap64 (a0 - 1)) true _ HT2.out).mono ?_); rintro e w22 ⟨rfl, ⟨nd22, rfl⟩⟩)
              | (go_at_call 64; (with_reducible refine (impl_inRange.calls f.f2 1 4 true _ HT3.out).mono ?_); rintro e w23 ⟨rfl, ⟨nd23, rfl⟩⟩)
              | (go_at_call 64; (with_reducible refine (impl_inRange.calls f.f3 0 (wrap64 (a0 - 1)) true _ HT4.out).mono ?_); rintro e w24 ⟨rfl, ⟨nd24, rfl⟩⟩)
              | (go_at_call 65; (with_reducible refine (HCF.out _).mono ?_); rintro e w30 ⟨rfl, hb⟩; have HB2 := Aside0.mk (below_then (pw_below_drewN HB1.out _) HB1.out.size hb); clear hb))
            go_ret
            exact ⟨by rw [HRF.out (by unfold okAt; rw [← HFI.out, ← HLTE.out, HTC.out]; simp)]; rfl, HB2.out⟩
          | false =>
            have HOKI : Aside0 (okAt a0 a1 l2 i = true) := ⟨by unfold okAt; rw [← HFI.out, ← HLTE.out, HTC.out, HOKF.out]; rfl⟩
            go_wp2_with (first
              | (go_at_call 64; (with_reducible refine (impl_inRange.calls f.f0 0 (wrap64 (a1 - 1)) true _ HT1.out).mono ?_); rintro e w21 ⟨rfl, ⟨nd21, rfl⟩⟩)
              | (go_at_call 64; (with_reducible refine (impl_inRange.calls f.f1 0 (wrap64 (a0 - 1)) true _ HT2.out).mono ?_); rintro e w22 ⟨rfl, ⟨nd22, rfl⟩⟩)
              | (go_at_call 64; (with_reducible refine (impl_inRange.calls f.f2 1 4 true _ HT3.out).mono ?_); rintro e w23 ⟨rfl, ⟨nd23, rfl⟩⟩)
              | (go_at_call 64; (with_reducible refine (impl_inRange.calls f.f3 0 (wrap64 (a0 - 1)) true _ HT4.out).mono ?_); rintro e w24 ⟨rfl, ⟨nd24, rfl⟩⟩)
              | (go_at_call 65; (with_reducible refine (HCF.out _).mono ?_); rintro e w30 ⟨rfl, hb⟩; have HB2 := Aside0.mk (below_then (pw_below_drewN HB1.out _) HB1.out.size hb); clear hb))
            go_roundg k1
            case measure => exact Nat.lt_succ_self _
            case rel => exact ⟨i + 1, _, rfl, HI1, HXS, ⟨fun j hj => by by_cases c : j = i; (rw [c]; exact HOKI.out); exact HOK.out j (by omega)⟩, HB2⟩
      · have hk4b : (f.f2 == 4) = false := by simpa using hk4
        have hk4c : (f.f2 != 4) = true := by simpa using hk4
        have HOF4 : Aside0 (okF a0 a1 f = decide (f.f3 = 0)) := ⟨by rw [HOF.out, if_neg hk4]; rfl⟩
        clear hk4
        by_cases hos : f.f3 = 0
        · have hosb : (f.f3 != 0) = false := by simp [hos]
          have HOKF : Aside0 (okF a0 a1 f = true) := ⟨by rw [HOF4.out]; simp [hos]⟩
          clear hos
          cases tc with
          | true =>
            go_wp2_with (first
              | (go_at_call 64; (with_reducible refine (impl_inRange.calls f.f0 0 (wrap64 (a1 - 1)) true _ HT1.out).mono ?_); rintro e w21 ⟨rfl, ⟨nd21, rfl⟩⟩)
              | (go_at_call 64; (with_reducible refine (impl_inRange.calls f.f1 0 (wrap64 (a0 - 1)) true _ HT2.out).mono ?_); rintro e w22 ⟨rfl, ⟨nd22, rfl⟩⟩)
              | (go_at_call 64; (with_reducible refine (impl_inRange.calls f.f2 1 4 true _ HT3.out).mono ?_); rintro e w23 ⟨rfl, ⟨nd23, rfl⟩⟩)
              | (go_at_call 65; (with_reducible refine (HCF.out _).mono ?_); rintro e w30 ⟨rfl, hb⟩; have HB2 := Aside0.mk (below_then (pw_below_drewN HB1.out _) HB1.out.size hb); clear hb))
            go_ret
            exact ⟨by rw [HRF.out (by unfold okAt; rw [← HFI.out, ← HLTE.out, HTC.out]; simp)]; rfl, HB2.out⟩
          | false =>
            have HOKI : Aside0 (okAt a0 a1 l2 i = true) := ⟨by unfold okAt; rw [← HFI.out, ← HLTE.out, HTC.out, HOKF.out]; rfl⟩
            go_wp2_with (first
              | (go_at_call 64; (with_reducible refine (impl_inRange.calls f.f0 0 (wrap64 (a1 - 1)) true _ HT1.out).mono ?_); rintro e w21 ⟨rfl, ⟨nd21, rfl⟩⟩)
              | (go_at_call 64; (with_reducible refine (impl_inRange.calls f.f1 0 (wrap64 (a0 - 1)) true _ HT2.out).mono ?_); rintro e w22 ⟨rfl, ⟨nd22, rfl⟩⟩)
              | (go_at_call 64; (with_reducible refine (impl_inRange.calls f.f2 1 4 true _ HT3.out).mono ?_); rintro e w23 ⟨rfl, ⟨nd23, rfl⟩⟩)
              | (go_at_call 65; (with_reducible refine (HCF.out _).mono ?_); rintro e w30 ⟨rfl, hb⟩; have HB2 := Aside0.mk (below_then (pw_below_drewN HB1.out _) HB1.out.size hb); clear hb))
            go_roundg k1
            case measure => exact Nat.lt_succ_self _
            case rel => exact ⟨i + 1, _, rfl, HI1, HXS, ⟨fun j hj => by by_cases c : j = i; (rw [c]; exact HOKI.out); exact HOK.out j (by omega)⟩, HB2⟩
        · have hosb : (f.f3 != 0) = true := by simpa using hos
          have HOF5 : Aside0 (okF a0 a1 f = false) := ⟨by rw [HOF4.out]; simp [hos]⟩
          clear hos
          go_wp2_with (first
            | (go_at_call 64; (with_reducible refine (impl_inRange.calls f.f0 0 (wrap64 (a1 - 1)) true _ HT1.out).mono ?_); rintro e w21 ⟨rfl, ⟨nd21, rfl⟩⟩)
            | (go_at_call 64; (with_reducible refine (impl_inRange.calls f.f1 0 (wrap64 (a0 - 1)) true _ HT2.out).mono ?_); rintro e w22 ⟨rfl, ⟨nd22, rfl⟩⟩)
            | (go_at_call 64; (with_reducible refine (impl_inRange.calls f.f2 1 4 true _ HT3.out).mono ?_); rintro e w23 ⟨rfl, ⟨nd23, rfl⟩⟩))
          go_ret
          exact ⟨by rw [HRF.out (HOA.out HOF5.out)]; rfl, pw_below_drewN HB1.out _⟩

theorem impl_AreFaults.calls (a0 : Int) (a1 : Int) (A2 : Option Addr) (c2 : Nat) (l2 : List S54) (r : Bool) (w : World) (hr2 : Kd.C k54 w A2 l2.length l2) (hc2 : l2.length ≤ c2) (h : impl_AreFaults.f a0 a1 l2 = some r) :
    Calls Try.prog 36 #[.int .i64 a0, .int .i64 a1, .slice A2 l2.length c2] w fun e w' => e = .returned (.bool r) ∧ Below w.heap.size w w' := by
  unfold impl_AreFaults.f at h
  have hl := isLine_is a0 a1
  obtain ⟨t, ht⟩ : ∃ t, t = ((decide (1 ≤ a0) && decide (a0 ≤ 12)) && (decide (0 ≤ a1) && decide (a1 ≤ 40))) := ⟨_, rfl⟩
  rw [← ht] at hl h
  clear ht
  obtain rfl := Option.some.inj h
  cases t with
  | false => exact areFaults_off a0 a1 A2 c2 l2 w hr2 hc2 hl
  | true =>
    by_cases h20 : l2.length ≤ 20
    · rw [decide_eq_true h20]
      exact areFaults_on a0 a1 A2 c2 l2 w hr2 hc2 hl h20
    · rw [decide_eq_false h20]
      exact areFaults_long a0 a1 A2 c2 l2 w hr2 hc2 hl (by omega)
end Go.Proofs.Ythfegojffgblmaa.X
