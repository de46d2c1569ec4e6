/- impl.ExplainBlock walked: the memory is made, the fewest faults are counted, then each station's first kind that keeps to them is picked. No conditions. -/
import Derived.Test.YthfegojffgblmaaEFewest
namespace Go.Proofs.Ythfegojffgblmaa.X
open Go.RowKit Go.Maps Go.Proofs.YthfegojffgblmaaW.PrintWords Go.Proofs.YthfegojffgblmaaW.PrintLast Go.Proofs.YthfegojffgblmaaW.PrintMore
set_option linter.unusedVariables false
set_option linter.unusedSimpArgs false

-- what is picked
def hit (b : List Int) (F : Nat → Nat) (s pl L kd : Nat) : Option Nat := match nx b s pl kd with
  | none => none
  | some e => if F e + (if kd = 0 then 0 else 1) = L then some e else none
def pickF (b : List Int) (F : Nat → Nat) (s pl L : Nat) : Nat → Nat → Option (Nat × Nat)
  | 0, _ => none
  | t + 1, kd => match hit b F s pl L kd with
    | some e => some (kd, e)
    | none => pickF b F s pl L t (kd + 1)
def build (b : List Int) : Nat → Nat → Nat → Nat → List Int
  | 0, _, _, _ => []
  | d + 1, s, pl, L => match pickF b (fun e => few b d (s + 1) e) s pl L 5 0 with
    | none => build b d (s + 1) pl L
    | some (kd, e) => (kd : Int) :: build b d (s + 1) e (L - if kd = 0 then 0 else 1)

theorem pick_none {b : List Int} {F : Nat → Nat} {s pl L t kd : Nat} (h : nx b s pl kd = none) : pickF b F s pl L (t + 1) kd = pickF b F s pl L t (kd + 1) := by simp only [pickF, hit, h]
theorem pick_miss {b : List Int} {F : Nat → Nat} {s pl L t kd e : Nat} (h : nx b s pl kd = some e) (hne : ¬ F e + (if kd = 0 then 0 else 1) = L) : pickF b F s pl L (t + 1) kd = pickF b F s pl L t (kd + 1) := by simp only [pickF, hit, h, if_neg hne]
theorem pick_hit {b : List Int} {F : Nat → Nat} {s pl L t kd e : Nat} (h : nx b s pl kd = some e) (he : F e + (if kd = 0 then 0 else 1) = L) : pickF b F s pl L (t + 1) kd = some (kd, e) := by simp only [pickF, hit, h, if_pos he]
theorem build_none {b : List Int} {d s pl L : Nat} (h : pickF b (fun e => few b d (s + 1) e) s pl L 5 0 = none) : build b (d + 1) s pl L = build b d (s + 1) pl L := by simp only [build, h]
theorem build_some {b : List Int} {d s pl L kd e : Nat} (h : pickF b (fun e => few b d (s + 1) e) s pl L 5 0 = some (kd, e)) : build b (d + 1) s pl L = (kd : Int) :: build b d (s + 1) e (L - if kd = 0 then 0 else 1) := by simp only [build, h]

-- the gate
theorem ix_loop (l : List Int) (a : Int) (hl : l.length ≤ 1000000) (d : Nat) : ∀ (k i : Nat), i + d = l.length → d < k → ∃ r, slices_Index_int64_int64.l0 k l a (l.length : Int) (i : Int) = some r ∧ (r ≥ 0 ↔ ∃ j : Nat, i ≤ j ∧ j < l.length ∧ a = rd l j) := by
  induction d with
  | zero =>
    intro k i hi hk
    obtain ⟨k, rfl⟩ : ∃ m, k = m + 1 := ⟨k - 1, by omega⟩
    simp only [slices_Index_int64_int64.l0]
    rw [if_neg (by omega)]
    exact ⟨-1, rfl, by constructor; intro h; omega; rintro ⟨j, h1, h2, _⟩; omega⟩
  | succ d ih =>
    intro k i hi hk
    obtain ⟨k, rfl⟩ : ∃ m, k = m + 1 := ⟨k - 1, by omega⟩
    simp only [slices_Index_int64_int64.l0]
    have w1 : wrap64 ((i : Int) + 1) = ((i + 1 : Nat) : Int) := by unfold wrap64; omega
    rw [if_pos (by omega), if_pos (by omega), if_pos (by omega), w1]
    by_cases c : a = rd l i
    · rw [if_pos c]
      exact ⟨i, rfl, by constructor; intro _; exact ⟨i, Nat.le_refl _, by omega, c⟩; intro _; omega⟩
    · rw [if_neg c]
      obtain ⟨q, e, hq⟩ := ih k (i + 1) (by omega) (by omega)
      refine ⟨q, e, hq.trans ⟨fun ⟨j, h1, h2, h3⟩ => ⟨j, by omega, h2, h3⟩, fun ⟨j, h1, h2, h3⟩ => ?_⟩⟩
      by_cases hj : j = i
      · exact absurd (hj ▸ h3) c
      · exact ⟨j, by omega, h2, h3⟩
theorem mem_rd {l : List Int} {a : Int} : (∃ j : Nat, 0 ≤ j ∧ j < l.length ∧ a = rd l j) ↔ a ∈ l := by
  constructor
  · rintro ⟨j, _, h, rfl⟩
    unfold rd
    simp [List.getD_eq_getElem?_getD, h]
  · intro h
    obtain ⟨j, hj, e⟩ := List.getElem_of_mem h
    exact ⟨j, Nat.zero_le _, hj, by unfold rd; simp [List.getD_eq_getElem?_getD, hj, e]⟩
theorem contains_ok (l : List Int) (a : Int) (hl : l.length ≤ 1000000) (k : Nat) (hk : l.length < k) : slices_Contains_int64_int64.f k l a = some (decide (a ∈ l)) := by
  obtain ⟨r, e, h⟩ := ix_loop l a hl l.length k 0 (by omega) hk
  unfold slices_Contains_int64_int64.f slices_Index_int64_int64.f
  rw [show ((0 : Nat) : Int) = 0 from rfl] at e
  rw [e, Option.bind_some]
  congr 1
  rw [Bool.eq_iff_iff]
  simp only [decide_eq_true_eq]
  exact h.trans mem_rd
def Gate (a0 : Int) (l1 : List Int) : Prop := (1 ≤ a0 ∧ a0 ≤ 12) ∧ (l1.length : Int) ≤ 2 * a0 ∧ (∀ x ∈ l1, -a0 ≤ x ∧ x ≤ a0) ∧ ¬ (0 : Int) ∈ l1
theorem isBlock_is (a0 : Int) (l1 : List Int) (k : Nat) (hk : l1.length < k) : ∃ t : Bool, impl_isBlock.f k a0 l1 = some t ∧ (t = true ↔ Gate a0 l1) := by
  unfold impl_isBlock.f impl_isLine.f
  by_cases h1 : 1 ≤ a0 ∧ a0 ≤ 12
  · rw [show impl_inRange.f a0 1 12 = some true from by unfold impl_inRange.f; rw [if_pos h1.1]; simp [h1.2]]
    rw [show impl_inRange.f 0 0 40 = some true from by unfold impl_inRange.f; simp]
    simp only [Option.bind_some, if_true]
    unfold impl_length_int64.f
    simp only [Option.bind_some]
    have w1 : wrap64 (2 * a0) = 2 * a0 := by unfold wrap64; omega
    have w2 : wrap64 (-a0) = -a0 := by unfold wrap64; omega
    rw [w1, w2]
    by_cases h2 : (l1.length : Int) ≤ 2 * a0
    · rw [if_pos h2]
      unfold impl_allIn.f
      simp only [Option.bind_some]
      by_cases h3 : (∀ x ∈ l1, -a0 ≤ x ∧ x ≤ a0)
      · rw [if_pos (by simpa using h3), contains_ok l1 0 (by omega) k hk]
        simp only [Option.bind_some]
        refine ⟨_, rfl, ?_⟩
        unfold Gate
        simp [h1, h2]
        exact fun _ => h3
      · rw [if_neg (by simpa using h3)]
        exact ⟨_, rfl, by unfold Gate; simp; intro _ _ _ h; exact absurd h h3⟩
    · rw [if_neg h2]
      exact ⟨_, rfl, by unfold Gate; simp; intro _ _ h; omega⟩
  · by_cases h0 : 1 ≤ a0
    · rw [show impl_inRange.f a0 1 12 = some false from by unfold impl_inRange.f; rw [if_pos h0]; simp; omega]
      exact ⟨_, rfl, by unfold Gate; simp; intro _ _; omega⟩
    · rw [show impl_inRange.f a0 1 12 = some false from by unfold impl_inRange.f; rw [if_neg (by omega)]]
      exact ⟨_, rfl, by unfold Gate; simp; intro _; omega⟩

theorem gate_facts {a0 : Int} {l1 : List Int} (h : Gate a0 l1) : a0 = (a0.toNat : Int) ∧ a0.toNat ≤ 12 ∧ l1.length ≤ 24 ∧ ∀ j : Nat, j < l1.length → -100 ≤ rd l1 j ∧ rd l1 j ≤ 100 := by
  obtain ⟨h1, h2, h3, _⟩ := h
  refine ⟨by omega, by omega, by omega, fun j hj => ?_⟩
  have hm : rd l1 j ∈ l1 := mem_rd.1 ⟨j, Nat.zero_le _, hj, rfl⟩
  have := h3 _ hm
  omega

def impl_ExplainBlock.f (a0 : Int) (l1 : List Int) : Option (List Int × Int) :=
  (impl_isBlock.f (l1.length + 5) a0 l1).bind fun t => if t = true then (if 1000000000 ≤ few l1 a0.toNat 0 0 then some ([], 4) else some (build l1 a0.toNat 0 0 (few l1 a0.toNat 0 0), 0)) else some ([], 2)

set_option maxRecDepth 100000 in
set_option maxHeartbeats 8000000 in
theorem explain_no (a0 : Int) (A1 : Option Addr) (c1 : Nat) (l1 : List Int) (w : World) (hr1 : Kd.C (Kd.int .i64) w A1 l1.length l1) (hc1 : l1.length ≤ c1) (k : Nat) (h : impl_isBlock.f k a0 l1 = some false) :
    Calls Try.prog 14 #[.int .i64 a0, .slice A1 l1.length c1] w fun e w' => ∃ v0_ : Value, e = .returned (.tuple #[v0_, .int .i64 2]) ∧ Kd.R (Kd.int .i64) 2 w' w.heap.size (fun _ => True) v0_ [] ∧ Below w.heap.size w w' := by
  have HR := Aside0.mk hr1
  have HC := Aside0.mk hc1
  have HA := Aside0.mk h
  clear hr1 hc1 h
  go_enter Try.func14, Try.ntmps14
  go_wp2_with (go_at_call 45; (with_reducible refine (impl_isBlock.calls k a0 A1 c1 l1 false _ ?side1 ?side2 HA.out).mono ?_); (case side1 => repeat (first | exact HR.out | (with_reducible refine Kd.C_alloc ?_ _) | (with_reducible refine Kd.C_drewN ?_ _) | (with_reducible refine Kd.C_drew ?_))); (case side2 => exact HC.out); rintro e w5 ⟨rfl, hb5⟩; have HB := Aside0.mk hb5; clear hb5)
  go_ret2
  exact ⟨_, rfl, Kd.R_nil _ _ _ _ _, HB.out⟩

set_option maxRecDepth 100000 in
set_option maxHeartbeats 8000000 in
theorem explain_none (a0 : Int) (A1 : Option Addr) (c1 : Nat) (l1 : List Int) (w : World) (hr1 : Kd.C (Kd.int .i64) w A1 l1.length l1) (hc1 : l1.length ≤ c1) (k : Nat) (h : impl_isBlock.f k a0 l1 = some true) (hg : Gate a0 l1)
    (P : Nat → Nat) (M : Nat) (HP : Aside0 (∀ d, P (d + 1) = 6 * P d ∧ 1 ≤ P d)) (HM : Aside0 (M ≤ 1000000000000)) (HPM : Aside0 (0 + P a0.toNat ≤ M)) (hf : 1000000000 ≤ few l1 a0.toNat 0 0) :
    Calls Try.prog 14 #[.int .i64 a0, .slice A1 l1.length c1] w fun e w' => ∃ v0_ : Value, e = .returned (.tuple #[v0_, .int .i64 4]) ∧ Kd.R (Kd.int .i64) 2 w' w.heap.size (fun _ => True) v0_ [] ∧ Below w.heap.size w w' := by
  have HR := Aside0.mk hr1
  have HC := Aside0.mk hc1
  have HA := Aside0.mk h
  have HGT := Aside0.mk (gate_facts hg)
  have HF := Aside0.mk hf
  clear hr1 hc1 h hg hf
  have hmm := @run_makeMap Try.prog
  obtain ⟨N, hN⟩ : ∃ N, N = a0.toNat := ⟨_, rfl⟩
  rw [← hN] at HGT HPM HF
  have HNN := Aside0.mk hN
  clear hN
  go_enter Try.func14, Try.ntmps14
  go_wp2_with (go_at_call 45; (with_reducible refine (impl_isBlock.calls k a0 A1 c1 l1 true _ ?side1 ?side2 HA.out).mono ?_); (case side1 => repeat (first | exact HR.out | (with_reducible refine Kd.C_alloc ?_ _) | (with_reducible refine Kd.C_drewN ?_ _) | (with_reducible refine Kd.C_drew ?_))); (case side2 => exact HC.out); rintro e w5 ⟨rfl, hb5⟩; have HB := Aside0.mk hb5; clear hb5)
  clear hmm
  obtain ⟨W6, hW6⟩ : ∃ W6, W6 = (w5.alloc (Obj.map #[] 0)).alloc (Obj.cells #[Value.int IntKind.i64 a0, Value.slice A1 l1.length c1, Value.map (some w5.heap.size)] 65 (0, 0)) := ⟨_, rfl⟩
  rw [← hW6]
  have HG6 : Aside0 (W6.heap[w5.heap.size + 1]? = some (.cells #[.int .i64 a0, .slice A1 l1.length c1, .map (some w5.heap.size)] 65 (0, 0))) := ⟨by rw [hW6]; have h := blk_new (w5.alloc (Obj.map #[] 0)) (Obj.cells #[Value.int IntKind.i64 a0, Value.slice A1 l1.length c1, Value.map (some w5.heap.size)] 65 (0, 0)); simpa using h⟩
  have HO6 : Aside0 (OM W6 w5.heap.size 0 (.map [])) := ⟨by rw [hW6]; exact (World.ownsMap_made _ _ _ _).alloc _⟩
  have HB6 : Aside0 (Below w.heap.size w W6) := ⟨by rw [hW6]; exact below_alloc (below_alloc HB.out _) _⟩
  have HSZ : Aside0 (w.heap.size ≤ w5.heap.size + 1 ∧ w.heap.size ≤ w5.heap.size ∧ w5.heap.size + 1 ≠ w5.heap.size) := ⟨by have := HB.out.size; omega⟩
  clear hW6 HB
  obtain ⟨g, hgE⟩ : ∃ g, g = w5.heap.size + 1 := ⟨_, rfl⟩
  rw [← hgE] at HG6 HSZ ⊢
  clear hgE
  obtain ⟨m, hmE⟩ : ∃ m, m = w5.heap.size := ⟨_, rfl⟩
  rw [← hmE] at HG6 HO6 HSZ ⊢
  clear hmE
  clear w5
  have HFE := Aside0.mk (fun d => fewest_calls l1 N A1 c1 g m w HR.out HC.out (by have := HGT.out.2.2.1; omega) HGT.out.2.2.2 (by have := HGT.out.2.1; omega) HSZ.out.1 HSZ.out.2.1 HSZ.out.2.2 a0 HGT.out.1 P M HP HM d)
  refine (HFE.out N 0 0 0 (.map []) _ 0 0 rfl rfl (Nat.zero_add _) (Nat.zero_le _) HB6.out HG6.out HO6.out (Known.empty _ _) HPM.out).mono ?_
  rintro e w7 ⟨q7, D7, li, rfl, hli, hb7, hk7, ho7, hd7, hq7⟩
  have HB7 := Aside0.mk hb7
  have hbig : decide (1000000000 ≤ li) = true := decide_eq_true (by have := HF.out; omega)
  clear hb7 hk7 ho7 hd7 hq7 hli
  go_wp2
  go_ret2
  exact ⟨_, rfl, Kd.R_nil _ _ _ _ _, HB7.out⟩

set_option maxRecDepth 100000 in
set_option maxHeartbeats 8000000 in
theorem explain_yes (a0 : Int) (A1 : Option Addr) (c1 : Nat) (l1 : List Int) (w : World) (hr1 : Kd.C (Kd.int .i64) w A1 l1.length l1) (hc1 : l1.length ≤ c1) (k : Nat) (h : impl_isBlock.f k a0 l1 = some true) (hg : Gate a0 l1)
    (P : Nat → Nat) (M : Nat) (HP : Aside0 (∀ d, P (d + 1) = 6 * P d ∧ 1 ≤ P d)) (HM : Aside0 (M ≤ 1000000000000)) (HPM : Aside0 (0 + P a0.toNat ≤ M)) (T : Nat) (HT : Aside0 (P a0.toNat = T ∧ (∀ d, d ≤ a0.toNat → P d ≤ T) ∧ 70 * T ≤ M)) (hf : few l1 a0.toNat 0 0 < 1000000000) :
    Calls Try.prog 14 #[.int .i64 a0, .slice A1 l1.length c1] w fun e w' => ∃ v0_ : Value, e = .returned (.tuple #[v0_, .int .i64 0]) ∧ Kd.R (Kd.int .i64) 2 w' w.heap.size (fun _ => True) v0_ (build l1 a0.toNat 0 0 (few l1 a0.toNat 0 0)) ∧ Below w.heap.size w w' := by
  have HR := Aside0.mk hr1
  have HC := Aside0.mk hc1
  have HA := Aside0.mk h
  have HGT := Aside0.mk (gate_facts hg)
  have HF := Aside0.mk hf
  clear hr1 hc1 h hg hf
  have hmm := @run_makeMap Try.prog
  obtain ⟨N, hN⟩ : ∃ N, N = a0.toNat := ⟨_, rfl⟩
  rw [← hN] at HGT HPM HF HT ⊢
  obtain ⟨total, htot⟩ : ∃ total, total = build l1 N 0 0 (few l1 N 0 0) := ⟨_, rfl⟩
  rw [← htot]
  have HTOT := Aside0.mk htot
  clear htot
  have HNN := Aside0.mk hN
  clear hN
  go_enter Try.func14, Try.ntmps14
  go_wp2_with (go_at_call 45; (with_reducible refine (impl_isBlock.calls k a0 A1 c1 l1 true _ ?side1 ?side2 HA.out).mono ?_); (case side1 => repeat (first | exact HR.out | (with_reducible refine Kd.C_alloc ?_ _) | (with_reducible refine Kd.C_drewN ?_ _) | (with_reducible refine Kd.C_drew ?_))); (case side2 => exact HC.out); rintro e w5 ⟨rfl, hb5⟩; have HB := Aside0.mk hb5; clear hb5)
  clear hmm
  obtain ⟨W6, hW6⟩ : ∃ W6, W6 = (w5.alloc (Obj.map #[] 0)).alloc (Obj.cells #[Value.int IntKind.i64 a0, Value.slice A1 l1.length c1, Value.map (some w5.heap.size)] 65 (0, 0)) := ⟨_, rfl⟩
  rw [← hW6]
  have HG6 : Aside0 (W6.heap[w5.heap.size + 1]? = some (.cells #[.int .i64 a0, .slice A1 l1.length c1, .map (some w5.heap.size)] 65 (0, 0))) := ⟨by rw [hW6]; have h := blk_new (w5.alloc (Obj.map #[] 0)) (Obj.cells #[Value.int IntKind.i64 a0, Value.slice A1 l1.length c1, Value.map (some w5.heap.size)] 65 (0, 0)); simpa using h⟩
  have HO6 : Aside0 (OM W6 w5.heap.size 0 (.map [])) := ⟨by rw [hW6]; exact (World.ownsMap_made _ _ _ _).alloc _⟩
  have HB6 : Aside0 (Below w.heap.size w W6) := ⟨by rw [hW6]; exact below_alloc (below_alloc HB.out _) _⟩
  have HSZ : Aside0 (w.heap.size ≤ w5.heap.size + 1 ∧ w.heap.size ≤ w5.heap.size ∧ w5.heap.size + 1 ≠ w5.heap.size) := ⟨by have := HB.out.size; omega⟩
  clear hW6 HB
  obtain ⟨g, hgE⟩ : ∃ g, g = w5.heap.size + 1 := ⟨_, rfl⟩
  rw [← hgE] at HG6 HSZ ⊢
  clear hgE
  obtain ⟨m, hmE⟩ : ∃ m, m = w5.heap.size := ⟨_, rfl⟩
  rw [← hmE] at HG6 HO6 HSZ ⊢
  clear hmE
  clear w5
  have HFE := Aside0.mk (fun d => fewest_calls l1 N A1 c1 g m w HR.out HC.out (by have := HGT.out.2.2.1; omega) HGT.out.2.2.2 (by have := HGT.out.2.1; omega) HSZ.out.1 HSZ.out.2.1 HSZ.out.2.2 a0 HGT.out.1 P M HP HM d)
  refine (HFE.out N 0 0 0 (.map []) _ 0 0 rfl rfl (Nat.zero_add _) (Nat.zero_le _) HB6.out HG6.out HO6.out (Known.empty _ _) HPM.out).mono ?_
  rintro e w7 ⟨q7, D7, li, rfl, hli, hb7, hk7, ho7, hd7, hq7⟩
  have HB7 := Aside0.mk hb7
  have HO7 := Aside0.mk ho7
  have HD7 := Aside0.mk hd7
  have HQ7 : Aside0 (q7 ≤ (1 + 0) * T) := ⟨by have := HT.out.1; omega⟩
  have HG7 : Aside0 (w7.heap[g]? = _) := ⟨KeepBut.blk hk7 HG6.out HSZ.out.2.2 (by simp)⟩
  have HLI := Aside0.mk hli
  have hbig : decide (1000000000 ≤ li) = false := decide_eq_false (by have := HF.out; omega)
  have HGM : Aside0 (g < w7.heap.size ∧ m < w7.heap.size) := ⟨⟨blk_lt HG7.out, ho7.lt⟩⟩
  clear hb7 hk7 ho7 hd7 hq7 hli HG6 HO6 HB6
  clear W6
  go_wp2_with ((with_reducible refine gate_dst (N := 26) rfl ?_); refine Kd.R_lit (Kd.int .i64) _ 2 ?hg (N := 26) ?hd (xs := ([] : List Int)) (inner := []) (ok := fun k => k ≠ g ∧ k ≠ m) (okp := fun _ => False) ?hr ?hp (fun _ hk => hk.elim) ?hfr (Below.refl _ _) (Nat.le_refl _) (by simp) ?_; (case hd => rfl); (case hg => rfl); (case hr => first | (go_simp; done) | (go_simp; rfl)); (case hp => exact (Reps.none _ _)); (case hfr => exact ⟨Nat.ne_of_gt HGM.out.1, Nat.ne_of_gt HGM.out.2⟩); intro v370 w8 ho3 hb hg_ hnew_; clear hg_ hnew_)
  have HO8 := Aside0.mk (Kd.R_lower ho3 HB7.out.size)
  have HB8 := Aside0.mk (below_then HB7.out HB7.out.size hb)
  have HG8 := Aside0.mk (blk_below HG7.out hb)
  have HM8 := Aside0.mk (HO7.out.keep hb)
  clear ho3 hb HG7 HO7 HB7 HGM hbig
  go_loopg [7, 8, 9, 28] N (fun kq v7 v8 v9 v28 w' => ∃ (s q' : Nat) (D' : DM) (L pl : Nat) (acc : List Int) (li pi x : Int), v7 = .int .i64 li ∧ v9 = .int .i64 pi ∧ v28 = .int .i64 x ∧ Aside0 (s + kq = N) ∧ Aside0 (x = (s : Int)) ∧ Aside0 (li = (L : Int)) ∧ Aside0 (pi = (pl : Int)) ∧ Aside0 (pl ≤ l1.length ∧ L ≤ 1000000000 ∧ acc.length ≤ s) ∧ Aside0 (total = acc ++ build l1 kq s pl L) ∧ Aside0 (Below w.heap.size w w') ∧ Aside0 (w'.heap[g]? = some (.cells #[.int .i64 a0, .slice A1 l1.length c1, .map (some m)] 65 (0, 0))) ∧ Aside0 (OM w' m q' D') ∧ Aside0 (Known l1 N D') ∧ Aside0 (q' ≤ (1 + 5 * s) * T) ∧ Aside0 (Kd.R (Kd.int .i64) 2 w' w.heap.size (fun k => k ≠ g ∧ k ≠ m) v8 acc))
  case atStart => exact ⟨0, q7, D7, few l1 N 0 0, 0, [], li, 0, 0, rfl, rfl, rfl, ⟨Nat.zero_add _⟩, ⟨rfl⟩, HLI, ⟨rfl⟩, ⟨⟨Nat.zero_le _, few_le _ _ _ _, Nat.le_refl _⟩⟩, HTOT, HB8, HG8, HM8, HD7, HQ7, HO8⟩
  case round =>
    clear HB8 HG8 HM8 HD7 HQ7 HO8 HLI HTOT
    obtain ⟨s, q1, D1, L, pl, acc, li, pi, x, rfl, rfl, rfl, HS, HX, HL, HPI, HBD, HTT, HBr, HGr, HMr, HDr, HQr, HOr⟩ := hrel
    cases gk with
    | zero =>
      have hcx : decide (x < a0) = false := decide_eq_false (by have := HS.out; have := HX.out; have := HGT.out.1; have := HNN.out; omega)
      have HEQ : Aside0 (total = acc) := ⟨by rw [HTT.out]; simp [build]⟩
      go_wp2
      go_ret2
      exact ⟨_, rfl, by rw [HEQ.out]; exact Kd.R_mono HOr.out (fun _ _ => trivial), HBr.out⟩
    | succ k1 =>
      have hcx : decide (x < a0) = true := decide_eq_true (by have := HS.out; have := HX.out; have := HGT.out.1; have := HNN.out; omega)
      have HXS := Aside0.mk (wr_one x s HX.out (by have := HS.out; have := HGT.out.2.1; omega))
      have HS1 : Aside0 (s + 1 + k1 = N) := ⟨by have := HS.out; omega⟩
      have HS2 : Aside0 (s ≤ 11 ∧ k1 ≤ N) := ⟨by have := HS.out; have := HGT.out.2.1; omega⟩
      go_wp2
      go_loopg [7, 8, 9, 31] 5 (fun kq v7 v8 v9 v31 w' => ∃ (kd q' : Nat) (D' : DM) (y : Int), v7 = .int .i64 li ∧ v8 = u8 ∧ v9 = .int .i64 pi ∧ v31 = .int .i64 y ∧ Aside0 (kd + kq = 5) ∧ Aside0 (y = (kd : Int)) ∧ Aside0 (pickF l1 (fun e => few l1 k1 (s + 1) e) s pl L 5 0 = pickF l1 (fun e => few l1 k1 (s + 1) e) s pl L kq kd) ∧ Aside0 (Below w.heap.size w w') ∧ Aside0 (w'.heap[g]? = some (.cells #[.int .i64 a0, .slice A1 l1.length c1, .map (some m)] 65 (0, 0))) ∧ Aside0 (OM w' m q' D') ∧ Aside0 (Known l1 N D') ∧ Aside0 (q' ≤ (1 + 5 * s + kd) * T) ∧ Aside0 (Kd.R (Kd.int .i64) 2 w' w.heap.size (fun k => k ≠ g ∧ k ≠ m) u8 acc))
      case atStart => exact ⟨0, q1, D1, 0, rfl, rfl, rfl, rfl, ⟨rfl⟩, ⟨rfl⟩, ⟨rfl⟩, HBr, HGr, HMr, HDr, HQr, HOr⟩
      case round =>
        clear HBr HGr HMr HDr HQr HOr
        obtain ⟨kd, q2, D2, y, rfl, rfl, rfl, rfl, HKQ, HY, HPK, HBr, HGr, HMr, HDr, HQr, HOr⟩ := hrel
        cases gk with
        | zero =>
          have HKD : Aside0 (kd = 5) := ⟨by have := HKQ.out; omega⟩
          have hc5 : decide (y < 5) = false := decide_eq_false (by have := HKD.out; have := HY.out; omega)
          have HBU : Aside0 (total = acc ++ build l1 k1 (s + 1) pl L) := ⟨by rw [HTT.out, build_none HPK.out]⟩
          have HQN : Aside0 (q2 ≤ (1 + 5 * (s + 1)) * T) := ⟨by have h := HQr.out; rw [HKD.out] at h; exact h⟩
          go_wp2
          go_roundg k1
          case measure => exact Nat.lt_succ_self _
          case rel => exact ⟨s + 1, q2, D2, L, pl, acc, li, pi, _, rfl, rfl, rfl, HS1, HXS, HL, HPI, ⟨⟨HBD.out.1, HBD.out.2.1, Nat.le_succ_of_le HBD.out.2.2⟩⟩, HBU, HBr, HGr, HMr, HDr, HQN, HOr⟩
        | succ k2 =>
          have HKB : Aside0 (kd ≤ 4 ∧ kd + 1 + k2 = 5) := ⟨by have := HKQ.out; omega⟩
          have hc5 : decide (y < 5) = true := decide_eq_true (by have := HKB.out; have := HY.out; omega)
          have HYS := Aside0.mk (wr_one y kd HY.out (by have := HKB.out; omega))
          have HCr := Aside0.mk (Kd.C_below HR.out HBr.out)
          have HQP : Aside0 (q2 + P k1 ≤ M) := ⟨by
            have h1 := HQr.out
            have h2 : (1 + 5 * s + kd) * T ≤ 60 * T := Nat.mul_le_mul_right _ (by have := HS2.out; have := HKB.out; omega)
            have h3 := HT.out.2.1 k1 HS2.out.2
            have h4 := HT.out.2.2
            omega⟩
          have HQ5 : Aside0 (∀ q3 : Nat, q3 ≤ q2 + P k1 → q3 ≤ (1 + 5 * s + (kd + 1)) * T) := ⟨fun q3 h => by
            have h1 := HQr.out
            have h3 := HT.out.2.1 k1 HS2.out.2
            have h2 : (1 + 5 * s + (kd + 1)) * T = (1 + 5 * s + kd) * T + T := by rw [← Nat.add_assoc, Nat.add_mul _ 1, Nat.one_mul]
            omega⟩
          have HQ6 : Aside0 (∀ q3 : Nat, q3 ≤ q2 + P k1 → q3 ≤ (1 + 5 * (s + 1)) * T) := ⟨fun q3 h => Nat.le_trans (HQ5.out q3 h) (Nat.mul_le_mul_right _ (by have := HKB.out; omega))⟩
          rcases hn : nx l1 s pl kd with _ | e2
          · have HNV : Aside0 ((-1 : Int) = nxv (nx l1 s pl kd)) := ⟨by rw [hn]; rfl⟩
            have HPN : Aside0 (pickF l1 (fun e => few l1 k1 (s + 1) e) s pl L 5 0 = pickF l1 (fun e => few l1 k1 (s + 1) e) s pl L k2 (kd + 1)) := ⟨HPK.out.trans (pick_none hn)⟩
            clear hn
            go_wp2_with (go_at_call 47; (with_reducible refine (next_calls_v l1 a0 A1 c1 g m s pl kd _ _ _ (-1) _ HX.out HPI.out HY.out HNV.out HGr.out HCr.out HC.out (by have := HGT.out.2.2.1; omega) (by have := HS2.out; omega) HBD.out.1 HKB.out.1 HGT.out.2.2.2).mono ?_); rintro e w5 ⟨rfl, hb5⟩; have HB5 := Aside0.mk hb5; clear hb5)
            go_roundg k2
            case measure => exact Nat.lt_succ_self _
            case rel => exact ⟨kd + 1, q2, D2, _, rfl, rfl, rfl, rfl, ⟨HKB.out.2⟩, HYS, HPN, ⟨below_then HBr.out HBr.out.size HB5.out⟩, ⟨blk_below HGr.out HB5.out⟩, ⟨HMr.out.keep HB5.out⟩, HDr, ⟨HQ5.out q2 (Nat.le_add_right _ _)⟩, ⟨Kd.R_below HOr.out HB5.out⟩⟩
          · obtain ⟨ei, hei⟩ : ∃ ei : Int, ei = (e2 : Int) := ⟨_, rfl⟩
            have HNV : Aside0 (ei = nxv (nx l1 s pl kd)) := ⟨by rw [hn, hei]; rfl⟩
            have HE2 := Aside0.mk (nx_le hn)
            have HEI := Aside0.mk hei
            have hnn : decide (0 ≤ ei) = true := decide_eq_true (by omega)
            obtain ⟨ti, hti⟩ : ∃ ti : Int, ti = (if kd = 0 then 0 else 1 : Int) := ⟨_, rfl⟩
            have HTO : Aside0 (impl_toInt.f (decide (0 < y)) = some ti) := ⟨by rw [hti]; exact tI_ok y kd HY.out⟩
            have HTI : Aside0 (ti = ((if kd = 0 then 0 else 1 : Nat) : Int)) := ⟨by rw [hti]; split <;> rfl⟩
            clear hti hei
            by_cases hL : few l1 k1 (s + 1) e2 + (if kd = 0 then 0 else 1) = L
            · have HPN : Aside0 (total = acc ++ [y] ++ build l1 k1 (s + 1) e2 (L - if kd = 0 then 0 else 1)) := ⟨by rw [HTT.out, build_some (HPK.out.trans (pick_hit hn hL)), HY.out]; simp⟩
              have HLN : Aside0 (wrap64 (li - ti) = ((L - if kd = 0 then 0 else 1 : Nat) : Int) ∧ (L - if kd = 0 then 0 else 1) ≤ 1000000000) := ⟨⟨wr_sub li ti L _ HL.out HTI.out (by omega) HBD.out.2.1, by have := HBD.out.2.1; omega⟩⟩
              have HLL := Aside0.mk hL
              clear hn hL
              go_wp2_with (first
                | (go_at_call 47; (with_reducible refine (next_calls_v l1 a0 A1 c1 g m s pl kd _ _ _ ei _ HX.out HPI.out HY.out HNV.out HGr.out HCr.out HC.out (by have := HGT.out.2.2.1; omega) (by have := HS2.out; omega) HBD.out.1 HKB.out.1 HGT.out.2.2.2).mono ?_); rintro e w5 ⟨rfl, hb5⟩; have HB5 := Aside0.mk hb5; clear hb5; have hcall := Aside0.mk (HFE.out k1 (s + 1) e2 q2 D2 w5 (wrap64 (x + 1)) ei HXS.out HEI.out HS1.out HE2.out (below_then HBr.out HBr.out.size HB5.out) (blk_below HGr.out HB5.out) (HMr.out.keep HB5.out) HDr.out HQP.out))
                | (go_at_call 46; (with_reducible refine hcall.out.mono ?_); rintro e w6 ⟨q3, D3, fi, rfl, hfi, hb6, hk6, ho6, hd6, hq6⟩; have hbq : (wrap64 (fi + ti) == li) = true := (by rw [wr_add fi ti _ _ hfi HTI.out (few_le _ _ _ _) (by split <;> omega), HLL.out, HL.out]; simp); have HG6 := Aside0.mk (KeepBut.blk hk6 (blk_below HGr.out HB5.out) HSZ.out.2.2 (by simp)); have HO6 := Aside0.mk (Kd.R_keep (Kd.R_below HOr.out HB5.out) hk6 (fun _ h => h.2)); have HB6 := Aside0.mk hb6; have HM6 := Aside0.mk ho6; have HD6 := Aside0.mk hd6; have HQ2 := Aside0.mk hq6; clear hb6 hk6 ho6 hd6 hq6 hfi)
                | (go_at_call 42; (with_reducible refine (impl_toInt.calls _ ti _ HTO.out).mono ?_); rintro e w7 ⟨rfl, ⟨nd7, rfl⟩⟩)
                | ((with_reducible refine gate_builtin (b := .append) (xs := #[.tmp 54, .tmp 56]) rfl ?_); at_builtin; refine Kd.R_append (Kd.int .i64) (w0 := w) w.heap.size rfl (.tmp 54) (.tmp 56) 22 2 (.int .i64 0) 8 rfl Try.underlying22 info2 rfl (by decide) (by omega) u8 acc y [.int .i64 y] (fun k => k ≠ g ∧ k ≠ m) (fun _ => False) rfl rfl ?aP (fun _ hk => hk.elim) ?aF ?aO ?aB ?aS ?aL ?_; (case aP => exact rfl); (case aF => exact fun k hk => ⟨Nat.ne_of_gt (Nat.lt_of_lt_of_le (blk_lt HG6.out) hk), Nat.ne_of_gt (Nat.lt_of_lt_of_le HM6.out.lt hk)⟩); (case aO => exact (by (with_reducible repeat (first | apply Kd.R_alloc | apply Kd.R_drewN | apply Kd.R_drew)); exact HO6.out)); (case aB => exact pw_below_drewN HB6.out _); (case aS => exact HB6.out.size); (case aL => have := HBD.out; have := HS2.out; omega); intro v373 w9 ho hb hg hat; have HO9 := Aside0.mk ho; have HB9 := Aside0.mk hb; have HG9 := Aside0.mk ((hg.block g (blk_lt HG6.out) (fun e => (HO6.out.1 g e.symm).1 rfl)).trans HG6.out); have HM9 : Aside0 (OM w9 m q3 D3) := ⟨World.ownsMap.kept (show OM (w6.drewN nd7) m q3 D3 from HM6.out) hg (fun e => (HO6.out.1 m e.symm).2 rfl)⟩; clear ho hb hg hat))
              go_roundg k1
              case measure => exact Nat.lt_succ_self _
              case rel => exact ⟨s + 1, q3, D3, _, e2, acc ++ [y], _, ei, _, rfl, rfl, rfl, HS1, HXS, ⟨HLN.out.1⟩, HEI, ⟨⟨HE2.out, HLN.out.2, by have := HBD.out; simp; omega⟩⟩, HPN, ⟨pw_below_drewN HB9.out _⟩, HG9, HM9, HD6, ⟨HQ6.out q3 HQ2.out⟩, ⟨by (with_reducible repeat (first | apply Kd.R_alloc | apply Kd.R_drewN | apply Kd.R_drew)); exact HO9.out⟩⟩
            · have HPN : Aside0 (pickF l1 (fun e => few l1 k1 (s + 1) e) s pl L 5 0 = pickF l1 (fun e => few l1 k1 (s + 1) e) s pl L k2 (kd + 1)) := ⟨HPK.out.trans (pick_miss hn hL)⟩
              have HLL := Aside0.mk hL
              clear hn hL
              go_wp2_with (first
                | (go_at_call 47; (with_reducible refine (next_calls_v l1 a0 A1 c1 g m s pl kd _ _ _ ei _ HX.out HPI.out HY.out HNV.out HGr.out HCr.out HC.out (by have := HGT.out.2.2.1; omega) (by have := HS2.out; omega) HBD.out.1 HKB.out.1 HGT.out.2.2.2).mono ?_); rintro e w5 ⟨rfl, hb5⟩; have HB5 := Aside0.mk hb5; clear hb5; have hcall := Aside0.mk (HFE.out k1 (s + 1) e2 q2 D2 w5 (wrap64 (x + 1)) ei HXS.out HEI.out HS1.out HE2.out (below_then HBr.out HBr.out.size HB5.out) (blk_below HGr.out HB5.out) (HMr.out.keep HB5.out) HDr.out HQP.out))
                | (go_at_call 46; (with_reducible refine hcall.out.mono ?_); rintro e w6 ⟨q3, D3, fi, rfl, hfi, hb6, hk6, ho6, hd6, hq6⟩; have hbq : (wrap64 (fi + ti) == li) = false := (by rw [wr_add fi ti _ _ hfi HTI.out (few_le _ _ _ _) (by split <;> omega), HL.out]; have h_ := HLL.out; simp only [beq_eq_false_iff_ne, ne_eq]; omega); have HG6 := Aside0.mk (KeepBut.blk hk6 (blk_below HGr.out HB5.out) HSZ.out.2.2 (by simp)); have HO6 := Aside0.mk (Kd.R_keep (Kd.R_below HOr.out HB5.out) hk6 (fun _ h => h.2)); have HB6 := Aside0.mk hb6; have HM6 := Aside0.mk ho6; have HD6 := Aside0.mk hd6; have HQ2 := Aside0.mk hq6; clear hb6 hk6 ho6 hd6 hq6 hfi)
                | (go_at_call 42; (with_reducible refine (impl_toInt.calls _ ti _ HTO.out).mono ?_); rintro e w7 ⟨rfl, ⟨nd7, rfl⟩⟩))
              go_roundg k2
              case measure => exact Nat.lt_succ_self _
              case rel => exact ⟨kd + 1, q3, D3, _, rfl, rfl, rfl, rfl, ⟨HKB.out.2⟩, HYS, HPN, ⟨pw_below_drewN HB6.out _⟩, HG6, HM6, HD6, ⟨HQ5.out q3 HQ2.out⟩, ⟨by (with_reducible repeat (first | apply Kd.R_alloc | apply Kd.R_drewN | apply Kd.R_drew)); exact HO6.out⟩⟩

theorem impl_ExplainBlock.calls (a0 : Int) (A1 : Option Addr) (c1 : Nat) (l1 : List Int) (r1 : List Int) (r2 : Int) (w : World) (hr1 : Kd.C (Kd.int .i64) w A1 l1.length l1) (hc1 : l1.length ≤ c1) (h : impl_ExplainBlock.f a0 l1 = some (r1, r2)) :
    Calls Try.prog 14 #[.int .i64 a0, .slice A1 l1.length c1] w fun e w' => ∃ v0_ : Value, e = .returned (.tuple #[v0_, .int .i64 r2]) ∧ Kd.R (Kd.int .i64) 2 w' w.heap.size (fun _ => True) v0_ r1 ∧ Below w.heap.size w w' := by
  unfold impl_ExplainBlock.f at h
  obtain ⟨t, ht, h⟩ := Option.bind_eq_some_iff.1 h
  cases t with
  | false =>
    simp at h
    obtain ⟨rfl, rfl⟩ := h
    exact explain_no a0 A1 c1 l1 w hr1 hc1 _ ht
  | true =>
    rw [if_pos rfl] at h
    obtain ⟨t', ht', hG⟩ := isBlock_is a0 l1 (l1.length + 5) (by omega)
    have hg : Gate a0 l1 := hG.1 (by rw [ht] at ht'; exact (Option.some.inj ht').symm)
    have h12 := (gate_facts hg).2.1
    have HP : Aside0 (∀ d, (fun d => 6 ^ d) (d + 1) = 6 * (fun d => 6 ^ d) d ∧ 1 ≤ (fun d : Nat => 6 ^ d) d) := ⟨fun d => ⟨by show 6 ^ (d + 1) = 6 * 6 ^ d; rw [Nat.pow_succ, Nat.mul_comm], Nat.pow_pos (by omega)⟩⟩
    have hle : ∀ d, d ≤ a0.toNat → (6 : Nat) ^ d ≤ 6 ^ a0.toNat := fun d hd => Nat.pow_le_pow_right (by omega) hd
    have hT : (6 : Nat) ^ a0.toNat ≤ 6 ^ 12 := Nat.pow_le_pow_right (by omega) h12
    have h6 : (6 : Nat) ^ 12 = 2176782336 := by decide
    rw [h6] at hT
    by_cases hf : 1000000000 ≤ few l1 a0.toNat 0 0
    · rw [if_pos hf] at h
      simp only [Option.some.injEq, Prod.mk.injEq] at h
      obtain ⟨rfl, rfl⟩ := h
      exact explain_none a0 A1 c1 l1 w hr1 hc1 _ ht hg (fun d => 6 ^ d) 1000000000000 HP ⟨Nat.le_refl _⟩ ⟨by show 0 + 6 ^ a0.toNat ≤ _; omega⟩ hf
    · rw [if_neg hf] at h
      simp only [Option.some.injEq, Prod.mk.injEq] at h
      obtain ⟨rfl, rfl⟩ := h
      exact explain_yes a0 A1 c1 l1 w hr1 hc1 _ ht hg (fun d => 6 ^ d) 1000000000000 HP ⟨Nat.le_refl _⟩ ⟨by show 0 + 6 ^ a0.toNat ≤ _; omega⟩ (6 ^ a0.toNat) ⟨⟨rfl, hle, by omega⟩⟩ (by omega)
end Go.Proofs.Ythfegojffgblmaa.X
