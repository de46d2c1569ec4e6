import Derived.Test.YtkcbihfhbojckaaX3
import Derived.Test.YtkcbihfhbojckaaX3
import Derived.RangeFuncBox
import Derived.RangeFuncLeaves
import Derived.RangeFuncNested
import Derived.Shelf.Abstract
import Derived.OwnWalkIn
import Derived.TacticsInMore
import Derived.LoopNIn
import Derived.LoopIn
import Derived.Deep.RegionWith
import Derived.Deep.RegionHeld3
import Derived.Maps.AppendAt
/- MirrorHoles: a range over slices.Backward, walked. -/
namespace Go.Proofs.Ytkcbihfhbojckaa.X
open Go.RowKit Go.Shelf Go.Proofs.YtkcbihfhbojckaaW.PrintWords Go.Proofs.YtkcbihfhbojckaaW.PrintLast Go.Proofs.YtkcbihfhbojckaaW.PrintMore
set_option linter.unusedVariables false
set_option linter.unusedSimpArgs false
attribute [local go_sem] Oper.semAt_some

/-- What slices.Backward has handed out when place i comes next. -/
def bdown (l : List Int) (i : Int) : List (Int × Int) := (List.range (l.length - (i + 1).toNat)).map fun j : Nat => ((l.length : Int) - 1 - (j : Int), rd l ((l.length : Int) - 1 - (j : Int)))
theorem bdown_step (l : List Int) (i : Int) (h0 : 0 ≤ i) (h1 : i < l.length) : bdown l (i - 1) = bdown l i ++ [(i, rd l i)] := by
  unfold bdown
  rw [show l.length - (i - 1 + 1).toNat = (l.length - (i + 1).toNat) + 1 from by omega, List.range_succ, List.map_append]
  simp only [List.map_cons, List.map_nil]
  rw [show (l.length : Int) - 1 - ((l.length - (i + 1).toNat : Nat) : Int) = i from by omega]
theorem bdown_length (l : List Int) (i : Int) : (bdown l i).length = l.length - (i + 1).toNat := by simp [bdown]
theorem bdown_start (l : List Int) : bdown l ((l.length : Int) - 1) = [] := by
  unfold bdown
  rw [show l.length - ((l.length : Int) - 1 + 1).toNat = 0 from by omega]
  rfl

theorem bdown_all (l : List Int) (f : Int → Int) : (bdown l (-1)).map (fun x => f x.2) = (l.map f).reverse := by
  unfold bdown
  apply List.ext_getElem
  · simp
  · intro i h1 h2
    simp at h1
    simp only [List.getElem_map, List.getElem_range, List.getElem_reverse, rd]
    rw [List.getD_eq_getElem?_getD, List.getElem?_eq_getElem (by omega)]
    simp only [Option.getD_some, List.length_map]
    congr 2
    omega

/-- What a round keeps: all that lies below n₀, and the box in which the iterator's slice lies. -/
def KpB (n₀ Bs : Nat) (W W' : World) : Prop := Below n₀ W W' ∧ W'.cell? ⟨Bs, 0, none⟩ = W.cell? ⟨Bs, 0, none⟩
theorem KpB.trans {n₀ Bs : Nat} {A B C : World} (h : KpB n₀ Bs A B) (k : KpB n₀ Bs B C) : KpB n₀ Bs A C := ⟨h.1.trans k.1, k.2.trans h.2⟩
theorem KpB.refl (n₀ Bs : Nat) (W : World) : KpB n₀ Bs W W := ⟨Below.refl _ _, rfl⟩

set_option maxRecDepth 100000 in
set_option maxHeartbeats 2000000 in
theorem backward1_in (F : Fence) (n : Nat) (h7 : F.fn 54) (hro : F.round = none) (hn : 1 ≤ n) (l Bs n₀ : Nat) (A0 : Option Addr) (cap : Nat) (zs : List Int) (hmax : zs.length ≤ 9223372036854775807) (J Jx : List (Int × Int) → World → Prop)
    (hY : ∀ pre x W, J pre W → pre.length < zs.length → YieldAt F (n - 1) Try.prog l #[.int .i64 x.1, .int .i64 x.2] W fun e W' =>
      (e = .returned (.bool true) ∧ J (pre ++ [x]) W' ∧ KpB n₀ Bs W W') ∨ (e = .returned (.bool false) ∧ Jx (pre ++ [x]) W'))
    (W : World) (hBc : W.cell? ⟨Bs, 0, none⟩ = some (.slice A0 zs.length cap)) (hc : ∀ W', Below n₀ W W' → Kd.C (Kd.int .i64) W' A0 zs.length zs) (h0 : J [] W) :
    CallsIn F n Try.prog 54 #[.func (.yield l) #[] #[], .pointer (some ⟨Bs, 0, none⟩)] W fun e W' => (∃ v, e = .returned v) ∧
      ((∃ ys, ys = bdown zs (-1) ∧ J ys W') ∨ (∃ pre, True ∧ Jx pre W')) := by
  have HC := Aside0.mk hc
  clear hc
  refine callsIn_of_wp Try.func54 rfl h7 ?_ hro
  simp only [Try.ntmps54, List.size_toArray, List.length_cons, List.length_nil, Nat.reduceAdd, Nat.reduceSub, Array.replicate_succ, Array.replicate_zero, List.push_toArray, List.append_toArray, List.nil_append, List.cons_append]
  gi_wp2
  gi_loopw [3] (fun v wr => ∃ i : Int, -1 ≤ i ∧ i < zs.length ∧ v = .int .i64 i ∧ Aside0 (J (bdown zs i) wr) ∧ Aside0 (KpB n₀ Bs W wr))
    (fun v _ => (intOf v + 1).toNat)
  case atStart => exact ⟨(zs.length : Int) - 1, by omega, by omega, rfl, ⟨by rw [bdown_start]; exact h0⟩, ⟨KpB.refl _ _ _⟩⟩
  case round =>
    obtain ⟨i, hi0, hi1, rfl, hJs, hnx⟩ := hrel
    have hbc : wr.cell? ⟨Bs, 0, none⟩ = some (.slice A0 zs.length cap) := hnx.out.2.trans hBc
    by_cases hlt : 0 ≤ i
    · obtain ⟨ad, rfl, hcx⟩ := Kd.at_int (HC.out wr hnx.out.1) i hlt hi1
      have hst := bdown_step zs i hlt hi1
      obtain ⟨fn, tmps, assign, body, hy, hR⟩ := hY _ (i, rd zs i) wr hJs.out (by rw [bdown_length]; omega)
      dsimp only at hy
      rw [← hst] at hR
      have HR := Aside0.mk hR
      clear hR hst hY
      gi_wp2
      refine HR.out.mono ?_
      rintro e W3 (⟨rfl, hJ3, hk3⟩ | ⟨rfl, hJx3⟩)
      · have HJ3 := Aside0.mk hJ3
        have HK3 := Aside0.mk (hnx.out.trans hk3)
        clear hJ3 hk3
        gi_wp2
        go_roundw
        case rel => exact ⟨i - 1, by omega, by omega, by go_num, HJ3, HK3⟩
        case measure => simp [intOf]; omega
      · have HJx3 := Aside0.mk hJx3
        clear hJx3
        gi_wp2
        refine bodyPost_ret (results_none rfl _ _ _) rfl ?_
        exact ⟨⟨_, rfl⟩, .inr ⟨_, trivial, HJx3.out⟩⟩
    · obtain rfl : i = -1 := by omega
      gi_wp2
      go_end0
      exact ⟨⟨_, rfl⟩, by first | exact .inl ⟨_, rfl, hJs.out⟩ | exact .inl hJs.out⟩

set_option maxHeartbeats 1000000 in
theorem backward_in (F : Fence) (n : Nat) (h5 : F.fn 36) (hro : F.round = none) (a : Option Addr) (len cap : Nat) (w : World) :
    CallsIn F n Try.prog 36 #[.slice a len cap] w fun e w' => e = .returned (.func (.func 54) #[] #[.pointer (some ⟨w.heap.size, 0, none⟩)]) ∧ w' = w.alloc (.cells #[.slice a len cap] 24) := by
  refine callsIn_of_wp Try.func36 rfl h5 ?_ hro
  simp only [Try.ntmps36, List.size_toArray, List.length_cons, List.length_nil, Nat.reduceAdd, Nat.reduceSub, Array.replicate_succ, Array.replicate_zero, List.push_toArray, List.append_toArray, List.nil_append, List.cons_append]
  gi_wp2
  go_ret
  exact ⟨rfl, rfl⟩

theorem backward_calls (a : Option Addr) (len cap : Nat) (w : World) : Calls Try.prog 36 #[.slice a len cap] w fun e w' => e = .returned (.func (.func 54) #[] #[.pointer (some ⟨w.heap.size, 0, none⟩)]) ∧ w' = w.alloc (.cells #[.slice a len cap] 24) :=
  callsIn_wide.1 (backward_in Fence.wide 8 trivial rfl a len cap w)

theorem backward_stops (F : Fence) (n : Nat) (h7 : F.fn 54) (hro : F.round = none) (hn : 1 ≤ n) (Bs n₀ : Nat) (A0 : Option Addr) (cap : Nat) (zs : List Int) (hmax : zs.length ≤ 9223372036854775807) (w : World) (hBs : Bs < w.heap.size) (hn₀ : n₀ ≤ w.heap.size)
    (hc : w.cell? ⟨Bs, 0, none⟩ = some (.slice A0 zs.length cap)) (hI : ∀ W', Below n₀ w W' → Kd.C (Kd.int .i64) W' A0 zs.length zs) :
    SeqStopsK F n Try.prog 54 #[.pointer (some ⟨Bs, 0, none⟩)] (fun x : Int × Int => #[Value.int .i64 x.1, Value.int .i64 x.2]) (KpB n₀ Bs) (fun ys => ys = bdown zs (-1)) (fun pre => True) zs.length w := fun l J Jx W hW _ _ hY h0 => by
  exact backward1_in F n h7 hro hn l Bs n₀ A0 cap zs hmax J Jx hY W ((hW.cell (p := ⟨Bs, 0, none⟩) hBs).trans hc) (fun W' h => hI W' ((hW.mono hn₀).trans h)) h0

def impl_MirrorHoles.f (k : Nat) (l0 : List Int) (a1 : Int) : Option (List Int × Int) :=
  (impl_AreHoles.f k l0).bind fun t => if t = true then (if 0 < l0.length then (if rd l0 ((l0.length : Int) - 1) ≤ a1 ∧ a1 ≤ 20000 then some ((l0.map fun x => wrap64 (a1 - x)).reverse, 0) else some ([], 2)) else none) else some ([], 2)
theorem impl_MirrorHoles.mono : ∀ a0 a1 k, LeO (impl_MirrorHoles.f k a0 a1) (impl_MirrorHoles.f (k + 1) a0 a1) := by
  intro a0 a1 k
  unfold impl_MirrorHoles.f
  exact LeO.bind (impl_AreHoles.mono _ _) (fun _ => LeO.refl _)

theorem areHoles_len {k : Nat} {l : List Int} (h : impl_AreHoles.f k l = some true) : l.length ≤ 12 := by
  unfold impl_AreHoles.f impl_length_int64.f at h
  simp only [Option.bind_some] at h
  unfold impl_inRange.f at h
  by_cases h1 : (2 : Int) ≤ (l.length : Int)
  · rw [if_pos h1] at h
    simp only [Option.bind_some, decide_eq_true_eq] at h
    by_cases h2 : (l.length : Int) ≤ 12
    · omega
    · rw [if_neg h2] at h
      cases k with
      | zero => simp [impl_AreHoles.j0] at h
      | succ k => simp [impl_AreHoles.j0] at h
  · omega

set_option maxRecDepth 100000 in
set_option maxHeartbeats 4000000 in
theorem mirror_no (A0 : Option Addr) (c0 : Nat) (l0 : List Int) (a1 : Int) (w : World) (k : Nat) (hr0 : Kd.C (Kd.int .i64) w A0 l0.length l0) (hc0 : l0.length ≤ c0) (h : impl_AreHoles.f k l0 = some false) :
    Calls Try.prog 7 #[.slice A0 l0.length c0, .int .i64 a1] w fun e w' => ∃ v0_ : Value, e = .returned (.tuple #[v0_, .int .i64 2]) ∧ Kd.R (Kd.int .i64) 2 w' w.heap.size (fun _ => True) v0_ [] ∧ Below w.heap.size w w' := by
  have HR := Aside0.mk hr0
  have HC := Aside0.mk hc0
  have HA := Aside0.mk h
  clear hr0 hc0 h
  go_enter Try.func7, Try.ntmps7
  go_wp2
  go_upto_region 1 with (fail)
  go_cut [22] (fun v22 wc => v22 = .bool true ∧ Aside0 (Below w.heap.size w wc))
  case first =>
    refine wp_region_noPanic ?_
    refine start_ (n := 14) (S := fun w' => True) (ds := []) #[false, false, false, false, false, false, false, false, false, false, false, false, false, false] (by kernel_rfl) rfl rfl trivial (fun hHeld => ?_)
    refine pure_ (i := 0) (N := some 9) (v := ?_) (a' := ?_) #[true, false, false, false, false, false, false, false, false, false, false, false, false, false] rfl rfl (by kernel_rfl) (fun _ _ _ h => h) (Or.inl ⟨by rfl, ?_⟩) ?_ ?_
    rotate_left
    · intro w'
      go_simp
      with_reducible rfl
    rotate_left
    · simp only [Act.put, List.setIfInBounds_toArray, List.set_cons_zero, List.set_cons_succ, i64_w, i32_w]
      rfl
    refine one_ (i := 1) (N := some 10) #[true, true, false, false, false, false, false, false, false, false, false, false, false, false] rfl rfl (by kernel_rfl) (by decide) (fun K hK => ?_)
    refine goes_ Try.func16 (by kernel_rfl) rfl #[.slice A0 l0.length c0] (by rfl) rfl rfl (by simp only [List.map_toArray, List.map_cons, List.map_nil]; rfl) ?_
    with_reducible refine (impl_AreHoles.calls k _ _ l0 false _ ?side1 ?side2 HA.out).mono ?_
    case side1 => repeat (first | exact HR.out | (with_reducible refine Kd.C_alloc ?_ _) | (with_reducible refine Kd.C_drewN ?_ _) | (with_reducible refine Kd.C_drew ?_))
    case side2 => exact HC.out
    rintro e w3 ⟨rfl, hb⟩
    refine ⟨_, rfl, ?_⟩
    have HB := Aside0.mk hb
    clear hb
    refine hK.out _ _ trivial (fun hHeld => ?_)
    clear hK K
    refine norm_ (a' := ?_) ?_ ?_
    rotate_left
    · show Act.put _ (some 10) _ = _
      simp only [Act.put, List.setIfInBounds_toArray, List.set_cons_zero, List.set_cons_succ, i64_w, i32_w]
      rfl
    refine pure_ (i := 2) (N := some 11) (v := ?_) (a' := ?_) #[true, true, true, false, false, false, false, false, false, false, false, false, false, false] rfl rfl (by kernel_rfl) (fun _ _ _ h => h) (Or.inl ⟨by rfl, ?_⟩) ?_ ?_
    rotate_left
    · intro w'
      go_simp
      with_reducible rfl
    rotate_left
    · simp only [Act.put, List.setIfInBounds_toArray, List.set_cons_zero, List.set_cons_succ, i64_w, i32_w]
      rfl
    refine pure_ (i := 3) (N := some 12) (v := ?_) (a' := ?_) #[true, true, true, true, false, false, false, false, false, false, false, false, false, false] rfl rfl (by kernel_rfl) (fun _ _ _ h => h) (Or.inl ⟨by rfl, ?_⟩) ?_ ?_
    rotate_left
    · intro w'
      go_simp
      with_reducible rfl
    rotate_left
    · simp only [Act.put, List.setIfInBounds_toArray, List.set_cons_zero, List.set_cons_succ, i64_w, i32_w]
      rfl
    refine pure_ (i := 4) (N := some 13) (v := undef) (a' := ?_) #[true, true, true, true, true, false, false, false, false, false, false, false, false, false] rfl rfl (by kernel_rfl) (fun _ _ _ h => h) (Or.inr ⟨by rfl, rfl⟩) ?_ ?_
    rotate_left
    · simp only [Act.put, List.setIfInBounds_toArray, List.set_cons_zero, List.set_cons_succ, i64_w, i32_w]
      rfl
    refine pure_ (i := 5) (N := some 14) (v := undef) (a' := ?_) #[true, true, true, true, true, true, false, false, false, false, false, false, false, false] rfl rfl (by kernel_rfl) (fun _ _ _ h => h) (Or.inr ⟨by rfl, rfl⟩) ?_ ?_
    rotate_left
    · simp only [Act.put, List.setIfInBounds_toArray, List.set_cons_zero, List.set_cons_succ, i64_w, i32_w]
      rfl
    refine pure_ (i := 6) (N := some 15) (v := undef) (a' := ?_) #[true, true, true, true, true, true, true, false, false, false, false, false, false, false] rfl rfl (by kernel_rfl) (fun _ _ _ h => h) (Or.inr ⟨by rfl, rfl⟩) ?_ ?_
    rotate_left
    · simp only [Act.put, List.setIfInBounds_toArray, List.set_cons_zero, List.set_cons_succ, i64_w, i32_w]
      rfl
    refine pure_ (i := 7) (N := some 16) (v := undef) (a' := ?_) #[true, true, true, true, true, true, true, true, false, false, false, false, false, false] rfl rfl (by kernel_rfl) (fun _ _ _ h => h) (Or.inr ⟨by rfl, rfl⟩) ?_ ?_
    rotate_left
    · simp only [Act.put, List.setIfInBounds_toArray, List.set_cons_zero, List.set_cons_succ, i64_w, i32_w]
      rfl
    refine pure_ (i := 8) (N := some 17) (v := undef) (a' := ?_) #[true, true, true, true, true, true, true, true, true, false, false, false, false, false] rfl rfl (by kernel_rfl) (fun _ _ _ h => h) (Or.inr ⟨by rfl, rfl⟩) ?_ ?_
    rotate_left
    · simp only [Act.put, List.setIfInBounds_toArray, List.set_cons_zero, List.set_cons_succ, i64_w, i32_w]
      rfl
    refine pure_ (i := 9) (N := some 18) (v := undef) (a' := ?_) #[true, true, true, true, true, true, true, true, true, true, false, false, false, false] rfl rfl (by kernel_rfl) (fun _ _ _ h => h) (Or.inr ⟨by rfl, rfl⟩) ?_ ?_
    rotate_left
    · simp only [Act.put, List.setIfInBounds_toArray, List.set_cons_zero, List.set_cons_succ, i64_w, i32_w]
      rfl
    refine pure_ (i := 10) (N := some 19) (v := undef) (a' := ?_) #[true, true, true, true, true, true, true, true, true, true, true, false, false, false] rfl rfl (by kernel_rfl) (fun _ _ _ h => h) (Or.inr ⟨by rfl, rfl⟩) ?_ ?_
    rotate_left
    · simp only [Act.put, List.setIfInBounds_toArray, List.set_cons_zero, List.set_cons_succ, i64_w, i32_w]
      rfl
    refine pure_ (i := 11) (N := some 20) (v := undef) (a' := ?_) #[true, true, true, true, true, true, true, true, true, true, true, true, false, false] rfl rfl (by kernel_rfl) (fun _ _ _ h => h) (Or.inr ⟨by rfl, rfl⟩) ?_ ?_
    rotate_left
    · simp only [Act.put, List.setIfInBounds_toArray, List.set_cons_zero, List.set_cons_succ, i64_w, i32_w]
      rfl
    refine pure_ (i := 12) (N := some 21) (v := undef) (a' := ?_) #[true, true, true, true, true, true, true, true, true, true, true, true, true, false] rfl rfl (by kernel_rfl) (fun _ _ _ h => h) (Or.inr ⟨by rfl, rfl⟩) ?_ ?_
    rotate_left
    · simp only [Act.put, List.setIfInBounds_toArray, List.set_cons_zero, List.set_cons_succ, i64_w, i32_w]
      rfl
    refine pure_ (i := 13) (N := some 22) (v := ?_) (a' := ?_) #[true, true, true, true, true, true, true, true, true, true, true, true, true, true] rfl rfl (by kernel_rfl) (fun _ _ _ h => h) (Or.inl ⟨by rfl, ?_⟩) ?_ ?_
    rotate_left
    · intro w'
      go_simp
      with_reducible rfl
    rotate_left
    · simp only [Act.put, List.setIfInBounds_toArray, List.set_cons_zero, List.set_cons_succ, i64_w, i32_w]
      rfl
    refine done_ (by kernel_rfl) ?_
    refine NoPanic.normal ?_
    try go_wp2
    go_meet
    case rel => exact ⟨rfl, ⟨below_then (w1 := (w.alloc (Obj.cells #[Value.int IntKind.i64 a1] 2)).drew) (below_drew1 (below_alloc (Below.refl _ _) _)) (below_size (below_drew1 (below_alloc (Below.refl _ _) _))) HB.out⟩⟩
  case rest =>
    obtain ⟨rfl, HB⟩ := hcut
    go_wp2
    go_ret2
    exact ⟨_, rfl, Kd.R_nil _ _ _ _ _, HB.out⟩

set_option maxRecDepth 100000 in
set_option maxHeartbeats 4000000 in
theorem mirror_off (A0 : Option Addr) (c0 : Nat) (l0 : List Int) (a1 : Int) (w : World) (k : Nat) (hr0 : Kd.C (Kd.int .i64) w A0 l0.length l0) (hc0 : l0.length ≤ c0) (h : impl_AreHoles.f k l0 = some true) (hl : 0 < l0.length)
    (tt : Bool) (ht : impl_inRange.f a1 (rd l0 ((l0.length : Int) - 1)) 20000 = some tt) (hb : tt = false) :
    Calls Try.prog 7 #[.slice A0 l0.length c0, .int .i64 a1] w fun e w' => ∃ v0_ : Value, e = .returned (.tuple #[v0_, .int .i64 2]) ∧ Kd.R (Kd.int .i64) 2 w' w.heap.size (fun _ => True) v0_ [] ∧ Below w.heap.size w w' := by
  obtain ⟨i, hi⟩ : ∃ i, i = (l0.length : Int) - 1 := ⟨_, rfl⟩
  rw [← hi] at ht
  have hmax := Kd.C_max hr0
  have h0i : 0 ≤ i := by omega
  have h1i : i < (l0.length : Int) := by omega
  obtain ⟨ad, rfl, hc⟩ := Kd.at_int hr0 i h0i h1i
  have hiw : IntKind.i64.wrap ((l0.length : Int) - 1) = i := by rw [i64_w, ← hi]; unfold wrap64; omega
  have hiw' : wrap64 ((l0.length : Int) - 1) = i := by rw [← hi]; unfold wrap64; omega
  have HR := Aside0.mk hr0
  have HC := Aside0.mk hc0
  have HA := Aside0.mk h
  have HT := Aside0.mk ht
  have HX : Aside0 ((w.alloc (Obj.cells #[Value.int IntKind.i64 a1] 2)).drew.cell? ⟨w.heap.size, 0, none⟩ = some (.int .i64 a1)) := ⟨by simp⟩
  have HY : Aside0 ((w.alloc (Obj.cells #[Value.int IntKind.i64 a1] 2)).drew.cell? (ad.add i.toNat) = some (.int .i64 (rd l0 i))) := ⟨pw_cell_below (below_drew1 (below_alloc (Below.refl _ _) _)) hc⟩
  have HTT := Aside0.mk hb
  clear hr0 hc0 h ht hi hc hmax hl hb
  go_enter Try.func7, Try.ntmps7
  go_wp2
  go_upto_region 1 with (fail)
  go_cut [22] (fun v22 wc => v22 = .bool (!tt) ∧ Aside0 (Below w.heap.size w wc))
  case first =>
    refine wp_region_noPanic ?_
    refine start_ (n := 14) (S := fun w' => w'.cell? ⟨w.heap.size, 0, none⟩ = some (.int .i64 a1) ∧ w'.cell? (ad.add i.toNat) = some (.int .i64 (rd l0 i))) (ds := []) #[false, false, false, false, false, false, false, false, false, false, false, false, false, false] (by kernel_rfl) rfl rfl ⟨HX.out, HY.out⟩ (fun hHeld => ?_)
    refine pure_ (i := 0) (N := some 9) (v := ?_) (a' := ?_) #[true, false, false, false, false, false, false, false, false, false, false, false, false, false] rfl rfl (by kernel_rfl) (fun _ _ _ h => h) (Or.inl ⟨by rfl, ?_⟩) ?_ ?_
    rotate_left
    · intro w'
      go_simp
      with_reducible rfl
    rotate_left
    · simp only [Act.put, List.setIfInBounds_toArray, List.set_cons_zero, List.set_cons_succ, i64_w, i32_w]
      rfl
    refine one_ (i := 1) (N := some 10) #[true, true, false, false, false, false, false, false, false, false, false, false, false, false] rfl rfl (by kernel_rfl) (by decide) (fun K hK => ?_)
    refine goes_ Try.func16 (by kernel_rfl) rfl #[.slice (some ad) l0.length c0] (by rfl) rfl rfl (by simp only [List.map_toArray, List.map_cons, List.map_nil]; rfl) ?_
    with_reducible refine (impl_AreHoles.calls k _ _ l0 true _ ?side1 ?side2 HA.out).mono ?_
    case side1 => repeat (first | exact HR.out | (with_reducible refine Kd.C_alloc ?_ _) | (with_reducible refine Kd.C_drewN ?_ _) | (with_reducible refine Kd.C_drew ?_))
    case side2 => exact HC.out
    rintro e w3 ⟨rfl, hb⟩
    refine ⟨_, rfl, ?_⟩
    have HB := Aside0.mk hb
    clear hb
    refine hK.out _ _ ⟨(HB.out.cell (p := ⟨w.heap.size, 0, none⟩) (by simp)).trans hHeld.1, (pw_cell_below HB.out hHeld.2)⟩ (fun hHeld => ?_)
    clear hK K
    refine norm_ (a' := ?_) ?_ ?_
    rotate_left
    · show Act.put _ (some 10) _ = _
      simp only [Act.put, List.setIfInBounds_toArray, List.set_cons_zero, List.set_cons_succ, i64_w, i32_w]
      rfl
    refine pure_ (i := 2) (N := some 11) (v := ?_) (a' := ?_) #[true, true, true, false, false, false, false, false, false, false, false, false, false, false] rfl rfl (by kernel_rfl) (fun _ _ _ h => h) (Or.inl ⟨by rfl, ?_⟩) ?_ ?_
    rotate_left
    · intro w'
      go_simp
      with_reducible rfl
    rotate_left
    · simp only [Act.put, List.setIfInBounds_toArray, List.set_cons_zero, List.set_cons_succ, i64_w, i32_w]
      rfl
    refine pure_ (i := 3) (N := some 12) (v := ?_) (a' := ?_) #[true, true, true, true, false, false, false, false, false, false, false, false, false, false] rfl rfl (by kernel_rfl) (fun _ _ _ h => h) (Or.inl ⟨by rfl, ?_⟩) ?_ ?_
    rotate_left
    · intro w'
      go_simp
      with_reducible rfl
    rotate_left
    · simp only [Act.put, List.setIfInBounds_toArray, List.set_cons_zero, List.set_cons_succ, i64_w, i32_w]
      rfl
    refine pure_ (i := 5) (N := some 14) (v := ?_) (a' := ?_) #[true, true, true, true, false, true, false, false, false, false, false, false, false, false] rfl rfl (by kernel_rfl) (fun _ _ _ h => h) (Or.inl ⟨by rfl, ?_⟩) ?_ ?_
    rotate_left
    · intro w'
      go_simp
      with_reducible rfl
    rotate_left
    · simp only [Act.put, List.setIfInBounds_toArray, List.set_cons_zero, List.set_cons_succ, i64_w, i32_w]
      rfl
    refine pure_ (i := 6) (N := some 15) (v := ?_) (a' := ?_) #[true, true, true, true, false, true, true, false, false, false, false, false, false, false] rfl rfl (by kernel_rfl) (fun _ _ _ h => h) (Or.inl ⟨by rfl, ?_⟩) ?_ ?_
    rotate_left
    · intro w'
      go_simp
      with_reducible rfl
    rotate_left
    · simp only [Act.put, List.setIfInBounds_toArray, List.set_cons_zero, List.set_cons_succ, i64_w, i32_w]
      rfl
    refine pure_ (i := 7) (N := some 16) (v := ?_) (a' := ?_) #[true, true, true, true, false, true, true, true, false, false, false, false, false, false] rfl rfl (by kernel_rfl) (fun _ _ _ h => h) (Or.inl ⟨by rfl, ?_⟩) ?_ ?_
    rotate_left
    · intro w'
      go_simp
      with_reducible rfl
    rotate_left
    · simp only [Act.put, List.setIfInBounds_toArray, List.set_cons_zero, List.set_cons_succ, i64_w, i32_w]
      rfl
    refine pure_ (i := 8) (N := some 17) (v := ?_) (a' := ?_) #[true, true, true, true, false, true, true, true, true, false, false, false, false, false] rfl rfl (by kernel_rfl) (fun _ _ _ h => h) (Or.inl ⟨by rfl, ?_⟩) ?_ ?_
    rotate_left
    · intro w'
      go_simp
      with_reducible rfl
    rotate_left
    · simp only [Act.put, List.setIfInBounds_toArray, List.set_cons_zero, List.set_cons_succ, i64_w, i32_w]
      rfl
    refine pure_ (i := 9) (N := some 18) (v := ?_) (a' := ?_) #[true, true, true, true, false, true, true, true, true, true, false, false, false, false] rfl rfl (by kernel_rfl) (fun _ _ _ h => h) (Or.inl ⟨by rfl, ?_⟩) ?_ ?_
    rotate_left
    · intro w'
      go_simp
      with_reducible rfl
    rotate_left
    · simp only [Act.put, List.setIfInBounds_toArray, List.set_cons_zero, List.set_cons_succ, i64_w, i32_w]
      rfl
    refine take_ (i := 4) (N := some 13) (v := ?_) (a' := ?_) #[true, true, true, true, true, true, true, true, true, true, false, false, false, false] rfl rfl (by kernel_rfl) (fun _ _ _ h => h) (Or.inl ⟨by rfl, ?_⟩) hHeld ?_ ?_
    rotate_left
    · rintro w' ⟨s0, s1⟩
      go_simp
      with_reducible rfl
    rotate_left
    · simp only [Act.put, List.setIfInBounds_toArray, List.set_cons_zero, List.set_cons_succ, i64_w, i32_w]
      rfl
    refine take_ (i := 10) (N := some 19) (v := ?_) (a' := ?_) #[true, true, true, true, true, true, true, true, true, true, true, false, false, false] rfl rfl (by kernel_rfl) (fun _ _ _ h => h) (Or.inl ⟨by rfl, ?_⟩) hHeld ?_ ?_
    rotate_left
    · rintro w' ⟨s0, s1⟩
      go_simp
      with_reducible rfl
    rotate_left
    · simp only [Act.put, List.setIfInBounds_toArray, List.set_cons_zero, List.set_cons_succ, i64_w, i32_w]
      rfl
    refine one_ (i := 11) (N := some 20) #[true, true, true, true, true, true, true, true, true, true, true, true, false, false] rfl rfl (by kernel_rfl) (by decide) (fun K hK => ?_)
    refine goes_ Try.func35 (by kernel_rfl) rfl #[.int .i64 a1, .int .i64 (rd l0 i), .int .i64 20000] (by rfl) rfl rfl (by simp only [List.map_toArray, List.map_cons, List.map_nil]; rfl) ?_
    with_reducible refine (impl_inRange.calls a1 (rd l0 i) 20000 tt _ HT.out).mono ?_
    rintro e w4 ⟨rfl, hd⟩
    refine ⟨_, rfl, ?_⟩
    obtain ⟨nd, rfl⟩ := hd
    refine hK.out _ _ ⟨hHeld.1, hHeld.2⟩ (fun hHeld => ?_)
    clear hK K
    refine norm_ (a' := ?_) ?_ ?_
    rotate_left
    · show Act.put _ (some 20) _ = _
      simp only [Act.put, List.setIfInBounds_toArray, List.set_cons_zero, List.set_cons_succ, i64_w, i32_w]
      rfl
    refine pure_ (i := 12) (N := some 21) (v := ?_) (a' := ?_) #[true, true, true, true, true, true, true, true, true, true, true, true, true, false] rfl rfl (by kernel_rfl) (fun _ _ _ h => h) (Or.inl ⟨by rfl, ?_⟩) ?_ ?_
    rotate_left
    · intro w'
      go_simp
      with_reducible rfl
    rotate_left
    · simp only [Act.put, List.setIfInBounds_toArray, List.set_cons_zero, List.set_cons_succ, i64_w, i32_w]
      rfl
    refine pure_ (i := 13) (N := some 22) (v := ?_) (a' := ?_) #[true, true, true, true, true, true, true, true, true, true, true, true, true, true] rfl rfl (by kernel_rfl) (fun _ _ _ h => h) (Or.inl ⟨by rfl, ?_⟩) ?_ ?_
    rotate_left
    · intro w'
      go_simp
      with_reducible rfl
    rotate_left
    · simp only [Act.put, List.setIfInBounds_toArray, List.set_cons_zero, List.set_cons_succ, i64_w, i32_w]
      rfl
    refine done_ (by kernel_rfl) ?_
    refine NoPanic.normal ?_
    try go_wp2
    go_meet
    case rel => exact ⟨rfl, ⟨pw_below_drewN (below_then (w1 := (w.alloc (Obj.cells #[Value.int IntKind.i64 a1] 2)).drew) (below_drew1 (below_alloc (Below.refl _ _) _)) (below_size (below_drew1 (below_alloc (Below.refl _ _) _))) HB.out) _⟩⟩
  case rest =>
    obtain ⟨rfl, HB⟩ := hcut
    have hb := HTT.out
    subst hb
    clear HTT
    go_wp2
    go_ret2
    exact ⟨_, rfl, Kd.R_nil _ _ _ _ _, HB.out⟩
set_option maxRecDepth 100000 in
set_option maxHeartbeats 4000000 in
theorem mirror_yes (A0 : Option Addr) (c0 : Nat) (l0 : List Int) (a1 : Int) (w : World) (k : Nat) (hr0 : Kd.C (Kd.int .i64) w A0 l0.length l0) (hc0 : l0.length ≤ c0) (h : impl_AreHoles.f k l0 = some true) (hl : 0 < l0.length)
    (tt : Bool) (ht : impl_inRange.f a1 (rd l0 ((l0.length : Int) - 1)) 20000 = some tt) (hb : tt = true) :
    Calls Try.prog 7 #[.slice A0 l0.length c0, .int .i64 a1] w fun e w' => ∃ v0_ : Value, e = .returned (.tuple #[v0_, .int .i64 0]) ∧ Kd.R (Kd.int .i64) 2 w' w.heap.size (fun _ => True) v0_ (l0.map fun x => wrap64 (a1 - x)).reverse ∧ Below w.heap.size w w' := by
  obtain ⟨i, hi⟩ : ∃ i, i = (l0.length : Int) - 1 := ⟨_, rfl⟩
  rw [← hi] at ht
  have hmax := Kd.C_max hr0
  have h0i : 0 ≤ i := by omega
  have h1i : i < (l0.length : Int) := by omega
  obtain ⟨ad, rfl, hc⟩ := Kd.at_int hr0 i h0i h1i
  have hiw : IntKind.i64.wrap ((l0.length : Int) - 1) = i := by rw [i64_w, ← hi]; unfold wrap64; omega
  have hiw' : wrap64 ((l0.length : Int) - 1) = i := by rw [← hi]; unfold wrap64; omega
  have HR := Aside0.mk hr0
  have HC := Aside0.mk hc0
  have HA := Aside0.mk h
  have HT := Aside0.mk ht
  have HX : Aside0 ((w.alloc (Obj.cells #[Value.int IntKind.i64 a1] 2)).drew.cell? ⟨w.heap.size, 0, none⟩ = some (.int .i64 a1)) := ⟨by simp⟩
  have HY : Aside0 ((w.alloc (Obj.cells #[Value.int IntKind.i64 a1] 2)).drew.cell? (ad.add i.toNat) = some (.int .i64 (rd l0 i))) := ⟨pw_cell_below (below_drew1 (below_alloc (Below.refl _ _) _)) hc⟩
  have HTT := Aside0.mk hb
  have HM := Aside0.mk hmax
  subst hb
  clear hr0 hc0 h ht hi hc hmax hl HTT
  refine callsIn_wide.1 (callsIn_of_wp_marks (n := 8) (F := Fence.wide) Try.func7 rfl trivial ?_ rfl)
  refine wpIn_wide.2 ?_
  simp only [Try.ntmps7, List.size_toArray, List.length_cons, List.length_nil, Nat.reduceAdd, Nat.reduceSub, Array.replicate_succ, Array.replicate_zero, List.push_toArray, List.append_toArray, List.nil_append, List.cons_append]
  go_wp2
  refine wp_region_noPanic ?_
  refine start_ (n := 14) (S := fun w' => w'.cell? ⟨w.heap.size, 0, none⟩ = some (.int .i64 a1) ∧ w'.cell? (ad.add i.toNat) = some (.int .i64 (rd l0 i))) (ds := []) #[false, false, false, false, false, false, false, false, false, false, false, false, false, false] (by kernel_rfl) rfl rfl ⟨HX.out, HY.out⟩ (fun hHeld => ?_)
  refine pure_ (i := 0) (N := some 9) (v := ?_) (a' := ?_) #[true, false, false, false, false, false, false, false, false, false, false, false, false, false] rfl rfl (by kernel_rfl) (fun _ _ _ h => h) (Or.inl ⟨by rfl, ?_⟩) ?_ ?_
  rotate_left
  · intro w'
    go_simp
    with_reducible rfl
  rotate_left
  · simp only [Act.put, List.setIfInBounds_toArray, List.set_cons_zero, List.set_cons_succ, i64_w, i32_w]
    rfl
  refine one_ (i := 1) (N := some 10) #[true, true, false, false, false, false, false, false, false, false, false, false, false, false] rfl rfl (by kernel_rfl) (by decide) (fun K hK => ?_)
  refine goes_ Try.func16 (by kernel_rfl) rfl #[.slice (some ad) l0.length c0] (by rfl) rfl rfl (by simp only [List.map_toArray, List.map_cons, List.map_nil]; rfl) ?_
  with_reducible refine (impl_AreHoles.calls k _ _ l0 true _ ?side1 ?side2 HA.out).mono ?_
  case side1 => repeat (first | exact HR.out | (with_reducible refine Kd.C_alloc ?_ _) | (with_reducible refine Kd.C_drewN ?_ _) | (with_reducible refine Kd.C_drew ?_))
  case side2 => exact HC.out
  rintro e w3 ⟨rfl, hb⟩
  refine ⟨_, rfl, ?_⟩
  have HB := Aside0.mk hb
  clear hb
  refine hK.out _ _ ⟨(HB.out.cell (p := ⟨w.heap.size, 0, none⟩) (by simp)).trans hHeld.1, (pw_cell_below HB.out hHeld.2)⟩ (fun hHeld => ?_)
  clear hK K
  refine norm_ (a' := ?_) ?_ ?_
  rotate_left
  · show Act.put _ (some 10) _ = _
    simp only [Act.put, List.setIfInBounds_toArray, List.set_cons_zero, List.set_cons_succ, i64_w, i32_w]
    rfl
  refine pure_ (i := 2) (N := some 11) (v := ?_) (a' := ?_) #[true, true, true, false, false, false, false, false, false, false, false, false, false, false] rfl rfl (by kernel_rfl) (fun _ _ _ h => h) (Or.inl ⟨by rfl, ?_⟩) ?_ ?_
  rotate_left
  · intro w'
    go_simp
    with_reducible rfl
  rotate_left
  · simp only [Act.put, List.setIfInBounds_toArray, List.set_cons_zero, List.set_cons_succ, i64_w, i32_w]
    rfl
  refine pure_ (i := 3) (N := some 12) (v := ?_) (a' := ?_) #[true, true, true, true, false, false, false, false, false, false, false, false, false, false] rfl rfl (by kernel_rfl) (fun _ _ _ h => h) (Or.inl ⟨by rfl, ?_⟩) ?_ ?_
  rotate_left
  · intro w'
    go_simp
    with_reducible rfl
  rotate_left
  · simp only [Act.put, List.setIfInBounds_toArray, List.set_cons_zero, List.set_cons_succ, i64_w, i32_w]
    rfl
  refine pure_ (i := 5) (N := some 14) (v := ?_) (a' := ?_) #[true, true, true, true, false, true, false, false, false, false, false, false, false, false] rfl rfl (by kernel_rfl) (fun _ _ _ h => h) (Or.inl ⟨by rfl, ?_⟩) ?_ ?_
  rotate_left
  · intro w'
    go_simp
    with_reducible rfl
  rotate_left
  · simp only [Act.put, List.setIfInBounds_toArray, List.set_cons_zero, List.set_cons_succ, i64_w, i32_w]
    rfl
  refine pure_ (i := 6) (N := some 15) (v := ?_) (a' := ?_) #[true, true, true, true, false, true, true, false, false, false, false, false, false, false] rfl rfl (by kernel_rfl) (fun _ _ _ h => h) (Or.inl ⟨by rfl, ?_⟩) ?_ ?_
  rotate_left
  · intro w'
    go_simp
    with_reducible rfl
  rotate_left
  · simp only [Act.put, List.setIfInBounds_toArray, List.set_cons_zero, List.set_cons_succ, i64_w, i32_w]
    rfl
  refine pure_ (i := 7) (N := some 16) (v := ?_) (a' := ?_) #[true, true, true, true, false, true, true, true, false, false, false, false, false, false] rfl rfl (by kernel_rfl) (fun _ _ _ h => h) (Or.inl ⟨by rfl, ?_⟩) ?_ ?_
  rotate_left
  · intro w'
    go_simp
    with_reducible rfl
  rotate_left
  · simp only [Act.put, List.setIfInBounds_toArray, List.set_cons_zero, List.set_cons_succ, i64_w, i32_w]
    rfl
  refine pure_ (i := 8) (N := some 17) (v := ?_) (a' := ?_) #[true, true, true, true, false, true, true, true, true, false, false, false, false, false] rfl rfl (by kernel_rfl) (fun _ _ _ h => h) (Or.inl ⟨by rfl, ?_⟩) ?_ ?_
  rotate_left
  · intro w'
    go_simp
    with_reducible rfl
  rotate_left
  · simp only [Act.put, List.setIfInBounds_toArray, List.set_cons_zero, List.set_cons_succ, i64_w, i32_w]
    rfl
  refine pure_ (i := 9) (N := some 18) (v := ?_) (a' := ?_) #[true, true, true, true, false, true, true, true, true, true, false, false, false, false] rfl rfl (by kernel_rfl) (fun _ _ _ h => h) (Or.inl ⟨by rfl, ?_⟩) ?_ ?_
  rotate_left
  · intro w'
    go_simp
    with_reducible rfl
  rotate_left
  · simp only [Act.put, List.setIfInBounds_toArray, List.set_cons_zero, List.set_cons_succ, i64_w, i32_w]
    rfl
  refine take_ (i := 4) (N := some 13) (v := ?_) (a' := ?_) #[true, true, true, true, true, true, true, true, true, true, false, false, false, false] rfl rfl (by kernel_rfl) (fun _ _ _ h => h) (Or.inl ⟨by rfl, ?_⟩) hHeld ?_ ?_
  rotate_left
  · rintro w' ⟨s0, s1⟩
    go_simp
    with_reducible rfl
  rotate_left
  · simp only [Act.put, List.setIfInBounds_toArray, List.set_cons_zero, List.set_cons_succ, i64_w, i32_w]
    rfl
  refine take_ (i := 10) (N := some 19) (v := ?_) (a' := ?_) #[true, true, true, true, true, true, true, true, true, true, true, false, false, false] rfl rfl (by kernel_rfl) (fun _ _ _ h => h) (Or.inl ⟨by rfl, ?_⟩) hHeld ?_ ?_
  rotate_left
  · rintro w' ⟨s0, s1⟩
    go_simp
    with_reducible rfl
  rotate_left
  · simp only [Act.put, List.setIfInBounds_toArray, List.set_cons_zero, List.set_cons_succ, i64_w, i32_w]
    rfl
  refine one_ (i := 11) (N := some 20) #[true, true, true, true, true, true, true, true, true, true, true, true, false, false] rfl rfl (by kernel_rfl) (by decide) (fun K hK => ?_)
  refine goes_ Try.func35 (by kernel_rfl) rfl #[.int .i64 a1, .int .i64 (rd l0 i), .int .i64 20000] (by rfl) rfl rfl (by simp only [List.map_toArray, List.map_cons, List.map_nil]; rfl) ?_
  with_reducible refine (impl_inRange.calls a1 (rd l0 i) 20000 true _ HT.out).mono ?_
  rintro e w4 ⟨rfl, hd⟩
  refine ⟨_, rfl, ?_⟩
  obtain ⟨nd, rfl⟩ := hd
  refine hK.out _ _ ⟨hHeld.1, hHeld.2⟩ (fun hHeld => ?_)
  clear hK K
  refine norm_ (a' := ?_) ?_ ?_
  rotate_left
  · show Act.put _ (some 20) _ = _
    simp only [Act.put, List.setIfInBounds_toArray, List.set_cons_zero, List.set_cons_succ, i64_w, i32_w]
    rfl
  refine pure_ (i := 12) (N := some 21) (v := ?_) (a' := ?_) #[true, true, true, true, true, true, true, true, true, true, true, true, true, false] rfl rfl (by kernel_rfl) (fun _ _ _ h => h) (Or.inl ⟨by rfl, ?_⟩) ?_ ?_
  rotate_left
  · intro w'
    go_simp
    with_reducible rfl
  rotate_left
  · simp only [Act.put, List.setIfInBounds_toArray, List.set_cons_zero, List.set_cons_succ, i64_w, i32_w]
    rfl
  refine pure_ (i := 13) (N := some 22) (v := ?_) (a' := ?_) #[true, true, true, true, true, true, true, true, true, true, true, true, true, true] rfl rfl (by kernel_rfl) (fun _ _ _ h => h) (Or.inl ⟨by rfl, ?_⟩) ?_ ?_
  rotate_left
  · intro w'
    go_simp
    with_reducible rfl
  rotate_left
  · simp only [Act.put, List.setIfInBounds_toArray, List.set_cons_zero, List.set_cons_succ, i64_w, i32_w]
    rfl
  refine done_ (by kernel_rfl) ?_
  refine NoPanic.normal ?_
  have hsz0 := below_size (below_drew1 (below_alloc (Below.refl w.heap.size w) (Obj.cells #[Value.int IntKind.i64 a1] 2)))
  have HB1 := Aside0.mk (below_then (w1 := (w.alloc (Obj.cells #[Value.int IntKind.i64 a1] 2)).drew) (below_drew1 (below_alloc (Below.refl _ _) _)) hsz0 HB.out)
  have hbx := (HB.out.cell (p := ⟨w.heap.size, 0, none⟩) (by simp)).trans HX.out
  have hsz : w.heap.size < w3.heap.size := by have := HB.out.size; simp at this; omega
  clear HB HX HY hHeld hsz0
  have HB2 := Aside0.mk (pw_below_drewN HB1.out nd)
  clear HB1
  have hbx2 : (w3.drewN nd).cell? ⟨w.heap.size, 0, none⟩ = some (.int .i64 a1) := by simpa using hbx
  have hsz2 : w.heap.size < (w3.drewN nd).heap.size := hsz
  clear hbx hsz
  generalize w3.drewN nd = W1 at HB2 hbx2 hsz2 ⊢
  go_wp2_with (go_at_call 36; (with_reducible refine (backward_calls _ _ _ _).mono ?_); rintro e w' ⟨rfl, rfl⟩)
  refine (wpIn_wide (n := 8)).1 ?_
  have bO := (Boxed.new (W1.alloc (Obj.cells #[] 2)) 24 (.slice (some ⟨W1.heap.size, 0, none⟩) 0 0)).alloc (Obj.cells #[Value.slice (some ad) l0.length c0] 24)
  have bS := Boxed.new ((W1.alloc (Obj.cells #[] 2)).alloc (Obj.cells #[Value.slice (some { block := W1.heap.size, off := 0 }) 0 0] 24)) 24 (.slice (some ad) l0.length c0)
  rw [World.size_alloc] at bO
  rw [World.size_alloc, World.size_alloc] at bS
  have hrow0 := ((World.ownsRow_lit (base := W1.heap.size) (e := 2) (size := 1) W1 #[] 0 (Nat.le_refl _) (by simp [maxLen]) rfl).alloc (Obj.cells #[Value.slice (some { block := W1.heap.size, off := 0 }) 0 0] 24)).alloc (Obj.cells #[Value.slice (some ad) l0.length c0] 24)
  obtain ⟨W2, hW2⟩ : ∃ W2, ((W1.alloc (Obj.cells #[] 2)).alloc (Obj.cells #[Value.slice (some { block := W1.heap.size, off := 0 }) 0 0] 24)).alloc (Obj.cells #[Value.slice (some ad) l0.length c0] 24) = W2 := ⟨_, rfl⟩
  rw [hW2] at bO bS hrow0 ⊢
  have hB12 : Below W1.heap.size W1 W2 := by rw [← hW2]; exact below_alloc (below_alloc (below_alloc (Below.refl _ _) _) _) _
  have hs2 : W2.heap.size = W1.heap.size + 3 := by rw [← hW2]; simp
  clear hW2
  obtain ⟨i0, hi, hz0, hz1, hz2⟩ := info_parts info2
  have hlen := areHoles_len HA.out
  refine wpIn_rangeFunc_ownG rfl (by omega) (gf := 54) (lb := #[.pointer (some ⟨W1.heap.size + 1 + 1, 0, none⟩)]) rfl trivial (enters_of Try.func54 (by kernel_rfl) rfl)
    (backward_stops Fence.wide (8 - 1) trivial rfl (by omega) (W1.heap.size + 1 + 1) W1.heap.size (some ad) c0 l0 HM.out W2 (by omega) (by omega) bS.cell (fun W' h => Kd.C_below HR.out (((HB2.out.trans (hB12.mono (Nat.le_of_lt hsz2))).trans (h.mono (Nat.le_of_lt hsz2))))))
    KpB.trans (fun W l o o' hl h hc hk => ⟨belowK_b (w := W2) (by omega) W l o o' hl h hc hk, ?kpb⟩) (Below.refl _ _) (fun _ => rfl)
    (fun pre W => ((∃ v, Boxed W (W1.heap.size + 1) 24 v ∧ W.ownsRow W1.heap.size 2 1 v pre.length (pre.map fun x => Value.int .i64 (wrap64 (a1 - x.2))) ∧ True) ∧ Boxed W (W1.heap.size + 1 + 1) 24 (.slice (some ad) l0.length c0)) ∧ Below W1.heap.size W1 W)
    (fun _ _ _ => False)
    (OwnFrom.and (OwnFrom.and (Own.from (holdsRow_own W1.heap.size (W1.heap.size + 1) 24 2 1 (fun pre : List (Int × Int) => pre.length) (fun pre => pre.map fun x => Value.int .i64 (wrap64 (a1 - x.2))) (fun _ _ => True)) _) (Own.from (boxed_own _ _ _) _)) (ownFrom_below (Nat.le_refl _) (by omega)))
    (fun _ _ _ _ _ hs _ _ => hs)
    ⟨⟨⟨_, bO, hrow0, trivial⟩, bS⟩, hB12⟩
    (fun x => { tmps := #[Value.slice (some ad) l0.length c0, Value.int IntKind.i64 a1, undef,
            Value.pointer (some { block := w.heap.size, off := 0 }), Value.slice none 0 0, Value.int IntKind.i64 0,
            Value.pointer (some { block := W1.heap.size + 1, off := 0 }), undef, .int .i64 x.2,
            Value.slice (some ad) l0.length c0, Value.bool true, Value.bool false, Value.bool false,
            Value.int IntKind.i64 a1, Value.slice (some ad) l0.length c0, Value.slice (some ad) l0.length c0,
            Value.int IntKind.i64 ↑l0.length, Value.int IntKind.i64 i, Value.pointer (some (ad.add i.toNat)),
            Value.int IntKind.i64 (rd l0 i), Value.bool true, Value.bool false, Value.bool false,
            Value.slice (some { block := W1.heap.size, off := 0 }) 0 0, Value.slice (some ad) l0.length c0, .func (.func 54) #[] #[.pointer (some ⟨W1.heap.size + 1 + 1, 0, none⟩)], .int .i64 x.1, .int .i64 x.2,
            undef, undef, undef, undef, undef, undef, undef], defers := [] }) ?assign ?body ?done ?stop
  case kpb => exact World.cell?_of_block (w := W) ((grownBy_putObj' W l o').block (W1.heap.size + 1 + 1) (by have := (Array.getElem?_eq_some_iff.1 h).1; omega) (by intro e; injection e with e; omega))
  case assign =>
    intro l x W K hK
    gi_wp2
    exact hK
  case body =>
    rintro l pre x W ⟨⟨⟨v, hv, hrow, _⟩, hs⟩, hB⟩ hlt
    have hc := hv.cell
    have hbh : W.cell? ⟨w.heap.size, 0, none⟩ = some (.int .i64 a1) := (hB.cell (p := ⟨w.heap.size, 0, none⟩) hsz2).trans hbx2
    gi_wp2_with (gi_at_builtin; refine wpListIn_append_own _ rfl _ _ 24 rfl W1.heap.size 2 i0 (.int .i64 0) 1 8 Try.underlying24 hi hz0 hz1 hz2 rfl (by decide) _ _ _ rfl (hrow.alloc _) ⟨W.heap.size, 0, none⟩ 1 1 [.int .i64 (wrap64 (a1 - x.2))] rfl rfl (cell_one_new _ _ _) (by simp [Value.oneCell']) (by simp only [maxLen]; omega) (by omega) (by have := hB.size; simp; omega) ?_; intro v' w1 hown' hgrow _; obtain ⟨g', cap', rfl⟩ := ownsRow_succ hown'; obtain ⟨hv1, hv2, hr2, hk2, hb2⟩ := hv.appended (by decide) hrow hB.size (by omega) hown' hgrow; have hc1 := hv1.cell; have hf1 := hv1.frozen)
    have hs2 := ((hs.alloc _).kept hgrow (hs.not_row (by decide) hrow)).other (B' := W1.heap.size + 1) (by omega) (.slice (some ⟨g', 0, none⟩) (pre.length + 1) cap')
    exact ⟨hk2.from _, ⟨hb2, hs2.cell.trans hs.cell.symm⟩, ⟨⟨⟨_, hv2, by rw [List.map_append, List.length_append]; exact hr2⟩, hs2⟩, hB.trans hb2⟩⟩
  case done =>
    rintro D ys W hD rfl ⟨⟨⟨v, hv, hrow, _⟩, hs⟩, hB⟩ hK
    have hc := hv.cell
    go_wp2
    refine ⟨by simp, .inl ⟨_, _, rfl, run_takeDeferred hK, ?_⟩⟩
    refine ⟨.tuple #[v, .int .i64 0], ?_, v, rfl, ?_, ?_⟩
    · simp [results, Try.f7, go_sem]
    · have ho := own_weaken (ownsRow_putObj hrow (.deferred none) hK rfl) (Nat.le_of_lt hsz2)
      rw [← bdown_all]
      exact Kd.R_of_own (by simpa [encs, List.map_map, Function.comp_def] using ho) (fun _ _ => trivial)
    · exact (HB2.out.trans (hB.mono (Nat.le_of_lt hsz2))).trans ((belowK_b (w := W2) (Nat.le_refl _) W D _ (.deferred none) hD hK rfl rfl).mono (by omega))
  case stop =>
    rintro D c pre W _ _ h _
    exact h.elim

theorem impl_MirrorHoles.calls (k : Nat) (A0 : Option Addr) (c0 : Nat) (l0 : List Int) (a1 : Int) (r1 : List Int) (r2 : Int) (w : World) (hr0 : Kd.C (Kd.int .i64) w A0 l0.length l0) (hc0 : l0.length ≤ c0) (h : impl_MirrorHoles.f k l0 a1 = some (r1, r2)) :
    Calls Try.prog 7 #[.slice A0 l0.length c0, .int .i64 a1] w fun e w' => ∃ v0_ : Value, e = .returned (.tuple #[v0_, .int .i64 r2]) ∧ Kd.R (Kd.int .i64) 2 w' w.heap.size (fun _ => True) v0_ r1 ∧ Below w.heap.size w w' := by
  unfold impl_MirrorHoles.f at h
  obtain ⟨t, ht, h⟩ := Option.bind_eq_some_iff.1 h
  cases t with
  | false =>
    simp at h
    obtain ⟨rfl, rfl⟩ := h
    exact mirror_no A0 c0 l0 a1 w k hr0 hc0 ht
  | true =>
    rw [if_pos rfl] at h
    by_cases hl : 0 < l0.length
    · rw [if_pos hl] at h
      have hin : impl_inRange.f a1 (rd l0 ((l0.length : Int) - 1)) 20000 = some (decide (rd l0 ((l0.length : Int) - 1) ≤ a1 ∧ a1 ≤ 20000)) := by
        unfold impl_inRange.f
        by_cases h1 : rd l0 ((l0.length : Int) - 1) ≤ a1
        · rw [if_pos h1]; simp [h1]
        · rw [if_neg h1]; simp [h1]
      by_cases hr : rd l0 ((l0.length : Int) - 1) ≤ a1 ∧ a1 ≤ 20000
      · rw [if_pos hr] at h
        simp only [Option.some.injEq, Prod.mk.injEq] at h
        obtain ⟨rfl, rfl⟩ := h
        exact mirror_yes A0 c0 l0 a1 w k hr0 hc0 ht hl _ hin (decide_eq_true hr)
      · rw [if_neg hr] at h
        simp only [Option.some.injEq, Prod.mk.injEq] at h
        obtain ⟨rfl, rfl⟩ := h
        exact mirror_off A0 c0 l0 a1 w k hr0 hc0 ht hl _ hin (decide_eq_false hr)
    · rw [if_neg hl] at h
      exact absurd h (by simp)
end Go.Proofs.Ytkcbihfhbojckaa.X
