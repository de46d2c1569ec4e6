/- spec.l12Table walked: the table of the best values, as rows that grow. Conditions: sides at most 40. -/
import Derived.Test.YtkakdklakoplhaaPureTab
namespace Go.Proofs.Ytkakdklakoplhaa.X
open Go.RowKit Go.Proofs.YtkakdklakoplhaaW.PrintWords Go.Proofs.YtkakdklakoplhaaW.PrintLast Go.Proofs.YtkakdklakoplhaaW.PrintMore
set_option linter.unusedVariables false
set_option linter.unusedSimpArgs false

/-- A slice's head: where it lies, its length, its capacity. -/
abbrev Hd : Type := Option Addr × Nat × Nat
def encHd (t : Hd) : Value := .slice t.1 t.2.1 t.2.2
def kHd : Kd Hd := Kd.scalar encHd (fun _ => rfl)
/-- The rows of a list of lists, told one by one: row x's blocks lie from B x to B (x + 1). -/
def RowsAt (W : World) (base : Nat) (B : Nat → Nat) (hds : List Hd) (rows : Nat → List Int) : Prop := ∀ x, x < hds.length → ∃ A c, hds[x]? = some (A, (rows x).length, c) ∧ Kd.R (Kd.int .i64) 2 W base (fun k => B x ≤ k ∧ k < B (x + 1)) (.slice A (rows x).length c) (rows x)
theorem RowsAt.step {W W' : World} {base : Nat} {B : Nat → Nat} {hds : List Hd} {rows : Nat → List Int} (h : RowsAt W base B hds rows) (hm : ∀ k, (∃ x, x < hds.length ∧ B x ≤ k ∧ k < B (x + 1)) → k < W.heap.size → (∃ cells, W.heap[k]? = some (.cells cells 2 (0, 0))) → W'.heap[k]? = W.heap[k]?) : RowsAt W' base B hds rows := fun x hx => by
  obtain ⟨A, c, e, hr⟩ := h x hx
  refine ⟨A, c, e, Kd.R_mono (Kd.R_move (Kd.R_bound hr) (fun k hk => ?_)) (fun _ hk => hk.1)⟩
  obtain ⟨h1, _, h3, q, hq, hc⟩ := hk
  have : q = 2 := by simpa [Kd.int, Kd.scalar] using hq
  subst this
  exact hm k ⟨x, hx, h1⟩ h3 hc
theorem RowsAt.below {W W' : World} {base : Nat} {B : Nat → Nat} {hds : List Hd} {rows : Nat → List Int} (h : RowsAt W base B hds rows) (hb : Below W.heap.size W W') : RowsAt W' base B hds rows := h.step (fun k _ hk _ => hb.block k hk)
/-- A list of lists of the call's own, put together. -/
theorem S_of_rows {W : World} {base : Nat} {v : Value} {hds : List Hd} {rows : Nat → List Int} {B : Nat → Nat} (HO : kHd.R 31 W base (fun _ => True) v hds) (hB : ∀ x y, x ≤ y → B x ≤ B y) (hr : RowsAt W base B hds rows) :
    Kd.S (Kd.slice 2 (Kd.int .i64)) 31 W base (fun _ => True) v ((List.range hds.length).map rows) := by
  have hty := Kd.R_typed HO
  obtain ⟨h0, inner, ho, hrep⟩ := HO
  have hlen : ((List.range hds.length).map rows).length = hds.length := by simp
  obtain ⟨f, hf⟩ := Kd.reps_tag (d := Kd.slice 2 (Kd.int .i64)) (w := W) (base := base) (ok := fun k => True ∧ some k ≠ v.ownBlock) (xs := (List.range hds.length).map rows) (inner := inner) (fun j k => (B j ≤ k ∧ k < B (j + 1)) ∧ some k ≠ v.ownBlock)
    (fun i j k hi hj => by
      rcases Nat.lt_trichotomy i j with h | h | h
      · have := hB (i + 1) j h; omega
      · exact h
      · have := hB (j + 1) i h; omega)
    (fun j k hk => ⟨trivial, hk.2⟩)
    (by rw [hlen]; exact hrep.1)
    (fun j x hj => by
      have hjl : j < hds.length := by
        have := (List.getElem?_eq_some_iff.1 hj).1
        simpa using this
      have hx : x = rows j := by
        rw [List.getElem?_map, List.getElem?_range hjl] at hj
        exact (Option.some.inj hj).symm
      subst hx
      obtain ⟨A, c, e, hR⟩ := hr j hjl
      have hcell := hrep.2 j _ e
      refine ⟨.slice A (rows j).length c, hcell, ?_⟩
      exact Kd.R_apart' hR hty (by decide))
  exact ⟨f, fun k hk => trivial, inner, by rw [List.length_zipIdx, hlen]; exact ho, hf⟩
theorem infoI : (Try.prog.info? 2).map (fun i => (i.zero, i.size, i.bytes)) = some (some (.int .i64 0), 1, 8) := by kernel_rfl
theorem infoL : (Try.prog.info? 31).map (fun i => (i.zero, i.size, i.bytes)) = some (some (.slice none 0 0), 1, 24) := by kernel_rfl
/-- Row x of the table, up to the side h. -/
def rowTo (l : List S35) (h x : Nat) : List Int := (List.range h).map (tab l x)
theorem rowTo_len (l : List S35) (h x : Nat) : (rowTo l h x).length = h := by simp [rowTo]
theorem rowTo_next (l : List S35) (h x : Nat) : rowTo l (h + 1) x = rowTo l h x ++ [tab l x h] := by simp [rowTo, List.range_succ]
theorem rowTo_rd (l : List S35) (h x : Nat) (y : Int) (h0 : 0 ≤ y) (h1 : y < h) : rd (rowTo l h x) y = tab l x y.toNat := by
  unfold rd rowTo
  simp [List.getD_eq_getElem?_getD, show y.toNat < h by omega]
theorem xTo_next' (T : Nat → Nat → Int) (w h : Nat) (b : Int) (c : Nat) (hc : 1 ≤ c) : xTo T w h b c = mx (xTo T w h b (c - 1)) (wrap64 (T c h + T (w - c) h)) := by
  obtain ⟨n, rfl⟩ : ∃ n, c = n + 1 := ⟨c - 1, by omega⟩
  rfl
theorem yTo_next' (T : Nat → Nat → Int) (w h : Nat) (b : Int) (c : Nat) (hc : 1 ≤ c) : yTo T w h b c = mx (yTo T w h b (c - 1)) (wrap64 (T w c + T w (h - c))) := by
  obtain ⟨n, rfl⟩ : ∃ n, c = n + 1 := ⟨c - 1, by omega⟩
  rfl
/-- What holds in the midst: the rows that are done (hds), the row at work (A9, c9: h places of row i), in the list v7. -/
def Tin (l2 : List S35) (w : World) (B : Nat → Nat) (Bi M i : Nat) (hds : List Hd) (W : World) (v7 : Value) (A9 : Option Addr) (c9 h : Nat) : Prop :=
  kHd.R 31 W w.heap.size (fun _ => True) v7 (hds ++ [(A9, h, c9)]) ∧ RowsAt W w.heap.size B hds (rowTo l2 (M + 1)) ∧ Kd.R (Kd.int .i64) 2 W Bi (fun _ => True) (.slice A9 h c9) (rowTo l2 h i) ∧ Below w.heap.size w W
theorem Tin.below {l2 : List S35} {w : World} {B : Nat → Nat} {Bi M i : Nat} {hds : List Hd} {W W' : World} {v7 : Value} {A9 : Option Addr} {c9 h : Nat} (t : Tin l2 w B Bi M i hds W v7 A9 c9 h) (hb : Below W.heap.size W W') : Tin l2 w B Bi M i hds W' v7 A9 c9 h :=
  ⟨Kd.R_below t.1 hb, t.2.1.below hb, Kd.R_below t.2.2.1 hb, below_then t.2.2.2 t.2.2.2.size hb⟩
theorem Tin.drewN {l2 : List S35} {w : World} {B : Nat → Nat} {Bi M i : Nat} {hds : List Hd} {W : World} {v7 : Value} {A9 : Option Addr} {c9 h : Nat} (t : Tin l2 w B Bi M i hds W v7 A9 c9 h) (n : Nat) : Tin l2 w B Bi M i hds (W.drewN n) v7 A9 c9 h := t.below (pw_below_drewN (Below.refl _ _) n)
/-- A place of a row that is done, by the list's cell and the row's. -/
theorem Tin.at_ {l2 : List S35} {w : World} {B : Nat → Nat} {Bi M i : Nat} {hds : List Hd} {W : World} {g7 n7 c7 : Nat} {A9 : Option Addr} {c9 h : Nat} (t : Tin l2 w B Bi M i hds W (.slice (some ⟨g7, 0, none⟩) n7 c7) A9 c9 h) (x y : Int) (hx : 0 ≤ x ∧ x < hds.length) (hy : 0 ≤ y ∧ y ≤ M) :
    ∃ gx cx, W.cell? ⟨g7, x.toNat, none⟩ = some (.slice (some ⟨gx, 0, none⟩) (M + 1) cx) ∧ W.cell? ⟨gx, y.toNat, none⟩ = some (.int .i64 (tab l2 x.toNat y.toNat)) := by
  obtain ⟨h1, h2, _, _⟩ := t
  obtain ⟨A, c, e, hr⟩ := h2 x.toNat (by omega)
  rw [rowTo_len] at e hr
  obtain ⟨gx, cx, e2, _, _, _⟩ := Kd.R_form hr (by rw [rowTo_len]; omega)
  rw [rowTo_len] at e2
  injection e2 with ea en ec
  subst ea ec
  have hn := (Kd.R_reads' h1).1
  obtain ⟨k1, _⟩ := Kd.R_celln ((none, 0, 0) : Hd) h1 x hx.1 (by rw [hn]; simp; omega)
  obtain ⟨k2, _⟩ := Kd.R_celln (0 : Int) hr y hy.1 (by omega)
  refine ⟨gx, c, ?_, ?_⟩
  · rw [k1]
    unfold rdOf
    rw [List.getD_eq_getElem?_getD, List.getElem?_append_left (by omega), e]
    rfl
  · rw [k2]
    have := rowTo_rd l2 (M + 1) x.toNat y hy.1 (by omega)
    unfold rd at this
    unfold rdOf
    rw [this]
/-- A place of the row at work. -/
theorem Tin.row {l2 : List S35} {w : World} {B : Nat → Nat} {Bi M i : Nat} {hds : List Hd} {W : World} {v7 : Value} {g9 : Nat} {c9 h : Nat} (t : Tin l2 w B Bi M i hds W v7 (some ⟨g9, 0, none⟩) c9 h) (y : Int) (hy : 0 ≤ y ∧ y < h) :
    W.cell? ⟨g9, y.toNat, none⟩ = some (.int .i64 (tab l2 i y.toNat)) := by
  obtain ⟨_, _, h3, _⟩ := t
  obtain ⟨k2, _⟩ := Kd.R_celln (0 : Int) h3 y hy.1 hy.2
  rw [k2]
  have := rowTo_rd l2 h i y hy.1 hy.2
  unfold rd at this
  unfold rdOf
  rw [this]
def spec_l12Table.f (a0 a1 : Int) (l2 : List S35) : Option (List (List Int)) := if 0 ≤ a0 ∧ a0 ≤ 40 ∧ 0 ≤ a1 ∧ a1 ≤ 40 ∧ l2.length ≤ 100 then some ((List.range (a0.toNat + 1)).map (rowTo l2 (a1.toNat + 1))) else none

set_option maxHeartbeats 16000000 in
set_option maxRecDepth 100000 in
theorem spec_l12Table.calls (a0 : Int) (a1 : Int) (A2 : Option Addr) (c2 : Nat) (l2 : List S35) (r : List (List Int)) (w : World) (hr2 : Kd.C k35 w A2 l2.length l2) (hc2 : l2.length ≤ c2) (h : spec_l12Table.f a0 a1 l2 = some r) :
    Calls Try.prog 10 #[.int .i64 a0, .int .i64 a1, .slice A2 l2.length c2] w fun e w' => ∃ v0_ : Value, e = .returned v0_ ∧ Kd.S (Kd.slice 2 (Kd.int .i64)) 31 w' w.heap.size (fun _ => True) v0_ r ∧ Below w.heap.size w w' := by
  unfold spec_l12Table.f at h
  have hlim : 0 ≤ a0 ∧ a0 ≤ 40 ∧ 0 ≤ a1 ∧ a1 ≤ 40 ∧ l2.length ≤ 100 := by
    by_cases c : 0 ≤ a0 ∧ a0 ≤ 40 ∧ 0 ≤ a1 ∧ a1 ≤ 40 ∧ l2.length ≤ 100
    · exact c
    · rw [if_neg c] at h; cases h
  rw [if_pos hlim] at h
  have hu := Try.underlying35
  have HR := Aside0.mk hr2
  have HC := Aside0.mk hc2
  have HLL := Aside0.mk hlim.2.2.2.2
  obtain ⟨N, hN⟩ : ∃ N, N = a0.toNat := ⟨_, rfl⟩
  obtain ⟨M, hM⟩ : ∃ M, M = a1.toNat := ⟨_, rfl⟩
  rw [← hN, ← hM] at h
  have HRR := Aside0.mk (Option.some.inj h)
  have HN : Aside0 (a0 = (N : Int) ∧ N ≤ 40) := ⟨by omega⟩
  have HM : Aside0 (a1 = (M : Int) ∧ M ≤ 40) := ⟨by omega⟩
  have HB0 := Aside0.mk (Below.refl w.heap.size w)
  have HM1 : Aside0 (wrap64 (a1 + 1) = ((M + 1 : Nat) : Int)) := ⟨by have := HM.out; unfold wrap64; omega⟩
  clear hr2 hc2 hlim h hN hM
  go_enter Try.func10, Try.ntmps10
  go_upto_region 2 with (first
    | ((with_reducible refine gate_dst (N := 17) rfl ?_); refine Kd.R_make (Kd.int .i64) _ 2 rfl (N := 17) rfl 31 _ _ rfl (wrap64 (a1 + 1)) rfl rfl Try.underlying31 (.int .i64 0) 8 infoI rfl (by decide) (by omega) 0 (ok := fun _ => True) (okp := fun _ => True) rfl (fun _ hk => hk) trivial (by rw [HM1.out]; omega) (by rw [HM1.out]; have := HM.out; omega) (Below.refl _ _) (Nat.le_refl _) ?_; intro v17 w3 ho4 hb hg_ hnew_; clear hg_ hnew_; have HV17 := Aside0.mk ho4; have HB3 := Aside0.mk hb; clear hb ho4; obtain ⟨A17, c17, e17⟩ := Kd.R_slice HV17.out; subst e17)
    | ((with_reducible refine gate_dst (N := 18) rfl ?_); refine Kd.R_lit kHd _ 31 ?hg (N := 18) ?hd (xs := [(A17, (List.replicate (wrap64 (a1 + 1)).toNat (0 : Int)).length, c17)]) (inner := [.slice A17 (List.replicate (wrap64 (a1 + 1)).toNat (0 : Int)).length c17]) (ok := fun _ => True) (okp := fun _ => True) ?hr ?hp (fun _ hk => hk) trivial (Below.refl _ _) (Nat.le_refl _) (by simp) ?_; (case hd => rfl); (case hg => rfl); (case hr => first | (go_simp; done) | (go_simp; rfl)); (case hp => exact Kd.reps_scalar (enc := encHd) [(A17, (List.replicate (wrap64 (a1 + 1)).toNat (0 : Int)).length, c17)]); intro v18 w4 ho8 hb hg_ hnew_; clear hg_ hnew_; have HO := Aside0.mk (Kd.R_lower ho8 (below_size HB3.out)); have HV4 := Aside0.mk (Kd.R_below HV17.out hb); have HB4 := Aside0.mk (below_step HB3.out hb); have HSZ := Aside0.mk hb.size; clear hb ho8))
  have HZL : Aside0 (List.replicate (wrap64 (a1 + 1)).toNat (0 : Int) = rowTo l2 (M + 1) 0) := ⟨by
    rw [HM1.out, Int.toNat_natCast]
    unfold rowTo
    apply List.ext_getElem (by simp)
    intro j h1 h2
    simp [tab_zero l2 0 j (.inl rfl)]⟩
  rw [HZL.out, rowTo_len] at HO
  rw [HZL.out, rowTo_len] at HV4
  have hrows0 : Aside0 (RowsAt w4 w.heap.size (fun x => if x = 0 then w.heap.size else w4.heap.size) [(A17, M + 1, c17)] (rowTo l2 (M + 1))) := ⟨by
    intro x hx
    obtain rfl : x = 0 := by simpa using hx
    refine ⟨A17, c17, by rw [rowTo_len]; rfl, ?_⟩
    rw [rowTo_len]
    exact Kd.R_mono (Kd.R_bound HV4.out) (fun k hk => by simpa using ⟨hk.2.1, hk.2.2.1⟩)⟩
  have HS4 := Aside0.mk HB4.out.size
  clear HV17 HV4 HB3 HSZ HB0 HZL
  go_wp2
  go_loopg [7, 8] N (fun kq v7 v8 w' => ∃ (i : Nat) (y : Int) (hds : List Hd) (B : Nat → Nat), v8 = .int .i64 y ∧ Aside0 (i + kq = N + 1) ∧ Aside0 (y = (i : Int)) ∧ Aside0 (1 ≤ i) ∧ Aside0 (hds.length = i) ∧ Aside0 (kHd.R 31 w' w.heap.size (fun _ => True) v7 hds) ∧ Aside0 (RowsAt w' w.heap.size B hds (rowTo l2 (M + 1))) ∧ Aside0 (∀ x y, x ≤ y → B x ≤ B y) ∧ Aside0 (B i ≤ w'.heap.size) ∧ Aside0 (Below w.heap.size w w'))
  case atStart => exact ⟨1, 1, _, _, rfl, ⟨by omega⟩, ⟨rfl⟩, ⟨Nat.le_refl _⟩, ⟨rfl⟩, HO, hrows0, ⟨fun x y hxy => by
    have := HS4.out
    by_cases c1 : x = 0 <;> by_cases c2 : y = 0 <;> simp [c1, c2] <;> omega⟩, ⟨by simp⟩, HB4⟩
  case round =>
    clear HO hrows0 HS4 HB4
    obtain ⟨i, y, hds, B, rfl, HI, HY, HI1, HL, HO, HRW, HBM, HBI, HB⟩ := hrel
    cases gk with
    | zero =>
      have hcy : decide (y ≤ a0) = false := decide_eq_false (by have := HI.out; have := HY.out; have := HN.out; omega)
      have HEQ : Aside0 ((List.range hds.length).map (rowTo l2 (M + 1)) = r) := ⟨by rw [HL.out, ← HRR.out]; congr 2; have := HI.out; omega⟩
      go_wp2
      go_ret
      exact ⟨_, rfl, by rw [← HEQ.out]; exact S_of_rows HO.out HBM.out HRW.out, HB.out⟩
    | succ k1 =>
      have hcy : decide (y ≤ a0) = true := decide_eq_true (by have := HI.out; have := HY.out; have := HN.out; omega)
      have HYS : Aside0 (wrap64 (y + 1) = ((i + 1 : Nat) : Int)) := ⟨by have := HI.out; have := HY.out; have := HN.out; unfold wrap64; omega⟩
      have HI40 : Aside0 (i ≤ 40) := ⟨by have := HI.out; have := HN.out; omega⟩
      obtain ⟨Bi, hBi⟩ : ∃ Bi, Bi = wr.heap.size := ⟨_, rfl⟩
      have HBI2 : Aside0 (B i ≤ Bi ∧ w.heap.size ≤ Bi) := ⟨by rw [hBi]; exact ⟨HBI.out, HB.out.size⟩⟩
      have HBIE := Aside0.mk hBi
      clear hBi
      go_upto_region 6 with ((with_reducible refine gate_dst (N := 24) rfl ?_); refine Kd.R_lit (Kd.int .i64) _ 2 ?hg (N := 24) ?hd (xs := ([0] : List Int)) (inner := [.int .i64 0]) (ok := fun _ => True) (okp := fun _ => True) ?hr ?hp (fun _ hk => hk) trivial (Below.refl _ _) (Nat.le_refl _) (by simp) ?_; (case hd => rfl); (case hg => rfl); (case hr => first | (go_simp; done) | (go_simp; rfl)); (case hp => exact Kd.reps_scalar (enc := Value.int .i64) [(0 : Int)]); intro v24 w5 ho8 hb hg_ hnew_; clear hg_ hnew_; have HV := Aside0.mk ho8; have HB5 := Aside0.mk (below_then HB.out HB.out.size hb); have HO5 := Aside0.mk (Kd.R_below HO.out hb); have HRW5 := Aside0.mk (HRW.out.below hb); clear hb ho8)
      obtain ⟨A9, c9, e9⟩ := Kd.R_slice HV.out
      subst e9
      rw [← HBIE.out] at HV
      have HTY := Aside0.mk (Kd.R_typed HO5.out)
      have HLS := Aside0.mk (show (hds.length + 1) * 24 ≤ 140737488355328 by have := HL.out; have := HI40.out; omega)
      go_upto_region 7 with ((with_reducible refine gate_builtin (b := .append) (xs := #[.tmp 25, .tmp 27]) rfl ?_); at_builtin; refine Kd.R_append kHd (w0 := w) w.heap.size rfl (.tmp 25) (.tmp 27) 32 31 (.slice none 0 0) 24 rfl Try.underlying32 infoL rfl (by decide) (by omega) u7 hds (A9, 1, c9) [.slice A9 1 c9] (fun _ => True) (fun _ => False) rfl rfl ?aP (fun _ hk => hk.elim) ?aF ?aO ?aB ?aS ?aL ?_; (case aP => exact rfl); (case aF => exact fun _ _ => trivial); (case aO => exact HO5.out); (case aB => exact HB5.out); (case aS => exact HB5.out.size); (case aL => exact HLS.out); intro v28 w6 ho hb hg hat; have HB6 := Aside0.mk hb; have HO6 := Aside0.mk ho; have HV6 := Aside0.mk (Kd.R_over' HV.out HTY.out (by decide) hg); have HRW6 := Aside0.mk (HRW5.out.step (fun k _ hlt hc => hg.block k hlt (fun he => by { obtain ⟨c1, e1⟩ := HTY.out k he.symm; obtain ⟨c2, e2⟩ := hc; rw [e1] at e2; injection e2 with e2; injection e2 with _ e2; exact absurd e2 (by decide) }))); clear ho hb hg hat)
      have HT6 : Aside0 (Tin l2 w B Bi M i hds w6 v28 A9 c9 1) := ⟨⟨HO6.out, HRW6.out, by
        have e : rowTo l2 1 i = [0] := by simp [rowTo, tab_zero l2 i 0 (.inr rfl)]
        rw [e]; exact HV6.out, HB6.out⟩⟩
      clear HO HRW HBI HB HV HB5 HO5 HRW5 HTY HLS HB6 HV6 HRW6 HBIE
      obtain ⟨g7, c7, e7, _, _, _⟩ := Kd.R_form HO6.out (by simp)
      obtain ⟨n7, hn7⟩ : ∃ n7, n7 = (hds ++ [((A9, 1, c9) : Hd)]).length := ⟨_, rfl⟩
      rw [← hn7] at e7
      have HN7 : Aside0 (n7 = i + 1) := ⟨by rw [hn7, List.length_append, HL.out]; rfl⟩
      subst e7
      clear HO6 hn7
      go_wp2
      go_loopg [9, 10] M (fun kq v9 v10 w' => ∃ (h : Nat) (z : Int) (A9 : Option Addr) (c9 : Nat), v10 = .int .i64 z ∧ v9 = .slice A9 h c9 ∧ Aside0 (h + kq = M + 1) ∧ Aside0 (z = (h : Int)) ∧ Aside0 (1 ≤ h) ∧ Aside0 (Tin l2 w B Bi M i hds w' (.slice (some ⟨g7, 0, none⟩) n7 c7) A9 c9 h))
      case atStart => exact ⟨1, 1, A9, c9, rfl, rfl, ⟨by omega⟩, ⟨rfl⟩, ⟨Nat.le_refl _⟩, HT6⟩
      case round =>
        clear HT6
        obtain ⟨h, z, A9, c9, rfl, rfl, HH, HZ, HH1, HT⟩ := hrel
        cases gk with
        | zero =>
          have hcz : decide (z ≤ a1) = false := decide_eq_false (by have := HH.out; have := HZ.out; have := HM.out; omega)
          have hhM : h = M + 1 := by have := HH.out; omega
          subst hhM
          have HNEW : Aside0 (RowsAt wr w.heap.size (fun x => if x ≤ i then B x else wr.heap.size) (hds ++ [(A9, M + 1, c9)]) (rowTo l2 (M + 1))) := ⟨by
            obtain ⟨t1, t2, t3, t4⟩ := HT.out
            intro x hx
            rw [List.length_append, HL.out, List.length_singleton] at hx
            by_cases c : x < i
            · obtain ⟨A, c', e, hr⟩ := t2 x (by rw [HL.out]; exact c)
              refine ⟨A, c', by rw [List.getElem?_append_left (by rw [HL.out]; exact c)]; exact e, Kd.R_mono hr (fun k hk => ?_)⟩
              dsimp only
              rw [if_pos (by omega), if_pos (by omega)]
              exact hk
            · obtain rfl : x = i := by omega
              refine ⟨A9, c9, by rw [rowTo_len, List.getElem?_append_right (by rw [HL.out]; exact Nat.le_refl _), HL.out, Nat.sub_self]; rfl, ?_⟩
              rw [rowTo_len]
              refine Kd.R_mono (Kd.R_lower (Kd.R_bound t3) HBI2.out.2) (fun k hk => ?_)
              dsimp only
              rw [if_pos (Nat.le_refl _), if_neg (by omega)]
              exact ⟨Nat.le_trans HBI2.out.1 hk.2.1, hk.2.2.1⟩⟩
          have HBM2 : Aside0 (∀ x y, x ≤ y → (if x ≤ i then B x else wr.heap.size) ≤ (if y ≤ i then B y else wr.heap.size)) := ⟨fun x y hxy => by
            by_cases c2 : y ≤ i
            · rw [if_pos (by omega), if_pos c2]; exact HBM.out x y hxy
            · rw [if_neg c2]
              by_cases c1 : x ≤ i
              · rw [if_pos c1]
                have h1 := HBM.out x i c1
                have h2 := HBI2.out.1
                have h3 := Kd.R_lt (Kd.R_bound HT.out.2.2.1)
                obtain ⟨g, cap, e, hg, hl, _⟩ := Kd.R_form HT.out.2.2.1 (by rw [rowTo_len]; omega)
                omega
              · rw [if_neg c1]; exact Nat.le_refl _⟩
          go_wp2
          go_roundg k1
          case measure => exact Nat.lt_succ_self _
          case rel => exact ⟨i + 1, _, _, _, rfl, ⟨by have := HI.out; omega⟩, HYS, ⟨Nat.le_add_left 1 i⟩, ⟨by rw [List.length_append, HL.out]; rfl⟩, ⟨HT.out.1⟩, HNEW, HBM2, ⟨by rw [if_neg (by omega)]; exact Nat.le_refl _⟩, ⟨HT.out.2.2.2⟩⟩
        | succ k2 =>
          have hcz : decide (z ≤ a1) = true := decide_eq_true (by have := HH.out; have := HZ.out; have := HM.out; omega)
          have HZS : Aside0 (wrap64 (z + 1) = ((h + 1 : Nat) : Int)) := ⟨by have := HH.out; have := HZ.out; have := HM.out; unfold wrap64; omega⟩
          have HHM : Aside0 (h ≤ M) := ⟨by have := HH.out; omega⟩
          obtain ⟨g9, c9', e9, gb9, gl9, cl9, hg9⟩ := Kd.R_form HT.out.2.2.1 (by rw [rowTo_len]; have := HH1.out; omega)
          injection e9 with ea en ec
          subst ea ec
          have GB9 : Aside0 (Bi ≤ g9) := ⟨gb9⟩
          clear gb9 gl9 cl9 hg9 en
          go_wp2
          go_loopg [11, 12] l2.length (fun kq v11 v12 w' => ∃ (t : Nat) (q best : Int), v11 = .int .i64 best ∧ v12 = .int .i64 q ∧ Aside0 (t + kq = l2.length) ∧ Aside0 (q = (t : Int)) ∧ Aside0 (best = kTo l2 y z t) ∧ Aside0 (Tin l2 w B Bi M i hds w' (.slice (some ⟨g7, 0, none⟩) n7 c7) (some ⟨g9, 0, none⟩) c9 h))
          case atStart => exact ⟨0, 0, 0, rfl, rfl, ⟨Nat.zero_add _⟩, ⟨rfl⟩, ⟨rfl⟩, HT⟩
          case round =>
            clear HT
            obtain ⟨t, q, best, rfl, rfl, HTT, HQ, HBE, HT⟩ := hrel
            cases gk with
            | succ k3 =>
              have hcq : decide (q < (l2.length : Int)) = true := decide_eq_true (by have := HTT.out; have := HQ.out; omega)
              have HQS : Aside0 (wrap64 (q + 1) = ((t + 1 : Nat) : Int)) := ⟨by have := HTT.out; have := HQ.out; have := HLL.out; unfold wrap64; omega⟩
              have pq := eq_true (show 0 ≤ q by have := HQ.out; omega)
              have qq := eq_true (show q < (l2.length : Int) by have := HTT.out; have := HQ.out; omega)
              obtain ⟨ad, hA2, hz0, hz1, hz2⟩ := at_T35 (Kd.C_below HR.out HT.out.2.2.2) q (of_eq_true pq) (of_eq_true qq)
              obtain ⟨kk, hkk⟩ : ∃ kk, kk = rd_T35 l2 q := ⟨_, rfl⟩
              rw [← hkk] at hz0 hz1 hz2
              have HKK : Aside0 (rd_T35 l2 (t : Int) = kk) := ⟨by rw [hkk, HQ.out]⟩
              subst hA2
              clear hkk
              by_cases f1 : kk.f0 ≤ y
              · have f1b := decide_eq_true f1
                by_cases f2 : kk.f1 ≤ z
                · have f2b := decide_eq_true f2
                  obtain ⟨mm, hmm⟩ : ∃ mm, (if best < kk.f2 then kk.f2 else best) = mm := ⟨_, rfl⟩
                  have HK1 : Aside0 (mm = kTo l2 y z (t + 1)) := ⟨by simp only [kTo]; rw [HKK.out, if_pos ⟨f1, f2⟩, ← HBE.out, ← hmm]; rfl⟩
                  clear f1 f2
                  go_wp2
                  clear hmm
                  go_roundg k3
                  case measure => exact Nat.lt_succ_self _
                  case rel => exact ⟨t + 1, _, mm, rfl, rfl, ⟨by have := HTT.out; omega⟩, HQS, HK1, HT⟩
                · have f2b := decide_eq_false f2
                  have HK1 : Aside0 (best = kTo l2 y z (t + 1)) := ⟨by simp only [kTo]; rw [HKK.out, if_neg (fun h => f2 h.2), ← HBE.out]⟩
                  clear f1 f2
                  go_wp2
                  go_roundg k3
                  case measure => exact Nat.lt_succ_self _
                  case rel => exact ⟨t + 1, _, best, rfl, rfl, ⟨by have := HTT.out; omega⟩, HQS, HK1, HT⟩
              · have f1b := decide_eq_false f1
                have HK1 : Aside0 (best = kTo l2 y z (t + 1)) := ⟨by simp only [kTo]; rw [HKK.out, if_neg (fun h => f1 h.1), ← HBE.out]⟩
                clear f1
                go_wp2
                go_roundg k3
                case measure => exact Nat.lt_succ_self _
                case rel => exact ⟨t + 1, _, best, rfl, rfl, ⟨by have := HTT.out; omega⟩, HQS, HK1, HT⟩
            | zero =>
              have hcq : decide (q < (l2.length : Int)) = false := decide_eq_false (by have := HTT.out; have := HQ.out; omega)
              obtain ⟨K0, hK0⟩ : ∃ K0, K0 = kTo l2 (i : Int) (h : Int) l2.length := ⟨_, rfl⟩
              have HK0 : Aside0 (best = K0) := ⟨by rw [HBE.out, HY.out, HZ.out, hK0]; congr 1; have := HTT.out; omega⟩
              have HKK0 := Aside0.mk hK0
              clear hK0 HBE
              go_wp2
              go_loopg [11, 13] (i - 1) (fun kq v11 v13 w' => ∃ (c : Nat) (q best : Int), v11 = .int .i64 best ∧ v13 = .int .i64 q ∧ Aside0 (c + kq = i) ∧ Aside0 (q = (c : Int)) ∧ Aside0 (1 ≤ c) ∧ Aside0 (best = xTo (tab l2) i h K0 (c - 1)) ∧ Aside0 (Tin l2 w B Bi M i hds w' (.slice (some ⟨g7, 0, none⟩) n7 c7) (some ⟨g9, 0, none⟩) c9 h))
              case atStart => exact ⟨1, 1, best, rfl, rfl, ⟨by have := HI1.out; omega⟩, ⟨rfl⟩, ⟨Nat.le_refl _⟩, ⟨by rw [HK0.out]; rfl⟩, HT⟩
              case round =>
                clear HT HK0
                obtain ⟨c, q, best, rfl, rfl, HCK, HQ, HC1, HBE, HT⟩ := hrel
                cases gk with
                | succ k4 =>
                  have hcq : decide (q < y) = true := decide_eq_true (by have := HCK.out; have := HQ.out; have := HY.out; omega)
                  have HQS : Aside0 (wrap64 (q + 1) = ((c + 1 : Nat) : Int)) := ⟨by have := HCK.out; have := HQ.out; have := HI40.out; unfold wrap64; omega⟩
                  have hsub : wrap64 (y - q) = ((i - c : Nat) : Int) := by have := HCK.out; have := HQ.out; have := HY.out; have := HI40.out; unfold wrap64; omega
                  obtain ⟨p, hp⟩ : ∃ p : Int, p = ((i - c : Nat) : Int) := ⟨_, rfl⟩
                  rw [← hp] at hsub
                  go_upto_region 19 with (fail)
                  have q0 := eq_true (show 0 ≤ q by have := HQ.out; omega)
                  have q1 := eq_true (show q < (n7 : Int) by have := HN7.out; have := HCK.out; have := HQ.out; omega)
                  have z0 := eq_true (show 0 ≤ z by have := HZ.out; omega)
                  have p0 := eq_true (show 0 ≤ p by omega)
                  have p1 := eq_true (show p < (n7 : Int) by have := HN7.out; have := HCK.out; omega)
                  obtain ⟨gx, cx, hx1, hx2⟩ := HT.out.at_ q z ⟨of_eq_true q0, by have := HL.out; have := HCK.out; have := HQ.out; omega⟩ ⟨of_eq_true z0, by have := HHM.out; have := HZ.out; omega⟩
                  obtain ⟨gy, cy, hy1, hy2⟩ := HT.out.at_ p z ⟨of_eq_true p0, by have := HL.out; have := HCK.out; have := HC1.out; omega⟩ ⟨of_eq_true z0, by have := HHM.out; have := HZ.out; omega⟩
                  obtain ⟨m1, hm1⟩ : ∃ m1, m1 = M + 1 := ⟨_, rfl⟩
                  rw [← hm1] at hx1 hy1
                  have z1 := eq_true (show z < (m1 : Int) by have := HHM.out; have := HZ.out; omega)
                  clear hm1
                  obtain ⟨t1, ht1⟩ : ∃ t1, tab l2 q.toNat z.toNat = t1 := ⟨_, rfl⟩
                  obtain ⟨t2, ht2⟩ : ∃ t2, tab l2 p.toNat z.toNat = t2 := ⟨_, rfl⟩
                  rw [ht1] at hx2
                  rw [ht2] at hy2
                  obtain ⟨s, hs⟩ : ∃ s, wrap64 (t1 + t2) = s := ⟨_, rfl⟩
                  obtain ⟨mm, hmm⟩ : ∃ mm, (if best < s then s else best) = mm := ⟨_, rfl⟩
                  have HK1 : Aside0 (mm = xTo (tab l2) i h K0 (c + 1 - 1)) := ⟨by
                    rw [show c + 1 - 1 = c by omega, xTo_next' _ _ _ _ c HC1.out, ← HBE.out, ← hmm, ← hs, ← ht1, ← ht2]
                    have e1 : q.toNat = c := by have := HQ.out; omega
                    have e2 : z.toNat = h := by have := HZ.out; omega
                    have e3 : p.toNat = i - c := by omega
                    rw [e1, e2, e3]
                    rfl⟩
                  clear ht1 ht2 hp
                  go_quiet (fail)
                  go_wp2
                  clear hs hmm hsub hx1 hx2 hy1 hy2
                  go_roundg k4
                  case measure => exact Nat.lt_succ_self _
                  case rel => exact ⟨c + 1, _, mm, rfl, rfl, ⟨by have := HCK.out; omega⟩, HQS, ⟨Nat.le_add_left 1 c⟩, HK1, ⟨HT.out.drewN _⟩⟩
                | zero =>
                  have hcq : decide (q < y) = false := decide_eq_false (by have := HCK.out; have := HQ.out; have := HY.out; omega)
                  obtain ⟨X0, hX0⟩ : ∃ X0, X0 = xTo (tab l2) i h K0 (i - 1) := ⟨_, rfl⟩
                  have HX0 : Aside0 (best = X0) := ⟨by rw [HBE.out, hX0]; congr 2; have := HCK.out; omega⟩
                  have HXX0 := Aside0.mk hX0
                  clear hX0 HBE
                  go_wp2
                  go_loopg [11, 14] (h - 1) (fun kq v11 v14 w' => ∃ (c : Nat) (q best : Int), v11 = .int .i64 best ∧ v14 = .int .i64 q ∧ Aside0 (c + kq = h) ∧ Aside0 (q = (c : Int)) ∧ Aside0 (1 ≤ c) ∧ Aside0 (best = yTo (tab l2) i h X0 (c - 1)) ∧ Aside0 (Tin l2 w B Bi M i hds w' (.slice (some ⟨g7, 0, none⟩) n7 c7) (some ⟨g9, 0, none⟩) c9 h))
                  case atStart => exact ⟨1, 1, best, rfl, rfl, ⟨by have := HH1.out; omega⟩, ⟨rfl⟩, ⟨Nat.le_refl _⟩, ⟨by rw [HX0.out]; rfl⟩, HT⟩
                  case round =>
                    clear HT HX0
                    obtain ⟨c, q, best, rfl, rfl, HCK, HQ, HC1, HBE, HT⟩ := hrel
                    cases gk with
                    | succ k5 =>
                      have hcq : decide (q < z) = true := decide_eq_true (by have := HCK.out; have := HQ.out; have := HZ.out; omega)
                      have HQS : Aside0 (wrap64 (q + 1) = ((c + 1 : Nat) : Int)) := ⟨by have := HCK.out; have := HQ.out; have := HHM.out; have := HM.out; unfold wrap64; omega⟩
                      have hsub : wrap64 (z - q) = ((h - c : Nat) : Int) := by have := HCK.out; have := HQ.out; have := HZ.out; have := HHM.out; have := HM.out; unfold wrap64; omega
                      obtain ⟨p, hp⟩ : ∃ p : Int, p = ((h - c : Nat) : Int) := ⟨_, rfl⟩
                      rw [← hp] at hsub
                      go_upto_region 23 with (fail)
                      have q0 := eq_true (show 0 ≤ q by have := HQ.out; omega)
                      have q1 := eq_true (show q < (h : Int) by have := HCK.out; have := HQ.out; omega)
                      have p0 := eq_true (show 0 ≤ p by omega)
                      have p1 := eq_true (show p < (h : Int) by have := HC1.out; have := HCK.out; omega)
                      have hx2 := HT.out.row q ⟨of_eq_true q0, of_eq_true q1⟩
                      have hy2 := HT.out.row p ⟨of_eq_true p0, of_eq_true p1⟩
                      obtain ⟨t1, ht1⟩ : ∃ t1, tab l2 i q.toNat = t1 := ⟨_, rfl⟩
                      obtain ⟨t2, ht2⟩ : ∃ t2, tab l2 i p.toNat = t2 := ⟨_, rfl⟩
                      rw [ht1] at hx2
                      rw [ht2] at hy2
                      obtain ⟨s, hs⟩ : ∃ s, wrap64 (t1 + t2) = s := ⟨_, rfl⟩
                      obtain ⟨mm, hmm⟩ : ∃ mm, (if best < s then s else best) = mm := ⟨_, rfl⟩
                      have HK1 : Aside0 (mm = yTo (tab l2) i h X0 (c + 1 - 1)) := ⟨by
                        rw [show c + 1 - 1 = c by omega, yTo_next' _ _ _ _ c HC1.out, ← HBE.out, ← hmm, ← hs, ← ht1, ← ht2]
                        have e1 : q.toNat = c := by have := HQ.out; omega
                        have e3 : p.toNat = h - c := by omega
                        rw [e1, e3]
                        rfl⟩
                      clear ht1 ht2 hp
                      go_quiet (fail)
                      go_wp2
                      clear hs hmm hsub hx2 hy2
                      go_roundg k5
                      case measure => exact Nat.lt_succ_self _
                      case rel => exact ⟨c + 1, _, mm, rfl, rfl, ⟨by have := HCK.out; omega⟩, HQS, ⟨Nat.le_add_left 1 c⟩, HK1, ⟨HT.out.drewN _⟩⟩
                    | zero =>
                      have hcq : decide (q < z) = false := decide_eq_false (by have := HCK.out; have := HQ.out; have := HZ.out; omega)
                      have HVAL : Aside0 (best = tab l2 i h) := ⟨by
                        rw [tab_eq l2 i h HI1.out HH1.out]
                        unfold cellOf
                        rw [← HKK0.out, ← HXX0.out, HBE.out]
                        congr 1
                        have := HCK.out
                        omega⟩
                      have HT9 := Aside0.mk (Kd.R_typed HT.out.2.2.1)
                      have HBS : Aside0 (Bi ≤ wr.heap.size) := ⟨by have h1_ := Kd.R_lt HT.out.2.2.1 g9 rfl; have h2_ := GB9.out; omega⟩
                      have HLS := Aside0.mk (show ((rowTo l2 h i).length + 1) * 8 ≤ 140737488355328 by rw [rowTo_len]; have := HHM.out; have := HM.out; omega)
                      obtain ⟨h1, hh1⟩ : ∃ h1, h1 = h + 1 := ⟨_, rfl⟩
                      have HH1E := Aside0.mk hh1
                      have HAP : Aside0 (rowTo l2 h i ++ [best] = rowTo l2 h1 i) := ⟨by rw [hh1, rowTo_next, HVAL.out]⟩
                      clear hh1
                      go_upto_region 25 with ((with_reducible refine gate_builtin (b := .append) (xs := #[.tmp 105, .tmp 107]) rfl ?_); at_builtin; refine Kd.R_append (Kd.int .i64) (w0 := wr) Bi rfl (.tmp 105) (.tmp 107) 31 2 (.int .i64 0) 8 rfl Try.underlying31 infoI rfl (by decide) (by omega) (.slice (some ⟨g9, 0, none⟩) h c9) (rowTo l2 h i) best [.int .i64 best] (fun _ => True) (fun _ => False) rfl rfl ?aP (fun _ hk => hk.elim) ?aF ?aO ?aB ?aS ?aL ?_; (case aP => exact rfl); (case aF => exact fun _ _ => trivial); (case aO => exact HT.out.2.2.1); (case aB => exact Below.refl _ _); (case aS => exact HBS.out); (case aL => exact HLS.out); intro v108 w6 ho hb hg hat; have HV6 := Aside0.mk ho; have HG6 := Aside0.mk hg; clear ho hb hg hat)
                      rw [HAP.out] at HV6
                      obtain ⟨A10, c10, e10⟩ := Kd.R_slice HV6.out
                      rw [rowTo_len] at e10
                      subst e10
                      have HO6 := Aside0.mk (Kd.R_over' HT.out.1 HT9.out (by decide) HG6.out)
                      have HRW6 : Aside0 (RowsAt w6 w.heap.size B hds (rowTo l2 (M + 1))) := ⟨HT.out.2.1.step (fun k hk hlt _ => HG6.out.block k hlt (fun he => by
                        obtain ⟨x_, hx_, hk1, hk2⟩ := hk
                        have h1_ := HBM.out (x_ + 1) i (by rw [← HL.out]; exact hx_)
                        have h2_ := HBI2.out.1
                        have h3_ := GB9.out
                        have h4_ : k = g9 := by simpa [Value.ownBlock] using he
                        omega))⟩
                      have HB6 : Aside0 (Below w.heap.size w w6) := ⟨HT.out.2.2.2.grown HG6.out HT.out.2.2.2.size (fun k_ hk_ => by
                        have h4_ : k_ = g9 := by simpa [Value.ownBlock] using hk_.symm
                        have h2_ := HBI2.out.2
                        have h3_ := GB9.out
                        omega)⟩
                      have HTY7 := Aside0.mk (Kd.R_typed HO6.out)
                      have HG7 : Aside0 (w.heap.size ≤ g7) := ⟨Kd.R_base HO6.out g7 rfl⟩
                      have y0 := eq_true (show 0 ≤ y by have := HY.out; omega)
                      have y1 := eq_true (show y < (n7 : Int) by have := HN7.out; have := HY.out; omega)
                      obtain ⟨hx0, hf0⟩ := Kd.R_celln ((none, 0, 0) : Hd) HO6.out y (of_eq_true y0) (of_eq_true y1)
                      have HP := Kd.R_putg HO6.out y ((A10, h1, c10) : Hd)
                      have HSET : Aside0 ((hds ++ [((some ⟨g9, 0, none⟩, h, c9) : Hd)]).set y.toNat (A10, h1, c10) = hds ++ [(A10, h1, c10)]) := ⟨by
                        have e : y.toNat = hds.length := by rw [HL.out]; have := HY.out; omega
                        rw [e, List.set_append_right _ _ (Nat.le_refl _), Nat.sub_self]
                        rfl⟩
                      rw [HSET.out] at HP
                      have HPP := Aside0.mk HP
                      clear HP HT
                      go_wp2_with ((with_reducible refine gate_store (t := 31) (p := 112) rfl ?_); refine store_event (t := 31) (p := 112) (v := ?vo_w8) (w1 := (w6.setCell ⟨g7, (y : Int).toNat, none⟩ (.slice A10 h1 c10))) ?hg ?ho ?hn ?hr ?_; (case ho => rfl); (case hg => rfl); (case hn => rfl); (case hr => first | (go_simp; done) | (go_simp; rfl)); intro w8 hw; have HT8 : Aside0 (Tin l2 w B Bi M i hds w8 (.slice (some ⟨g7, 0, none⟩) n7 c7) A10 c10 h1) := ⟨by { have hg8 : w6.grownBy w8 (Value.slice (some ⟨g7, 0, none⟩) n7 c7).ownBlock := (by rw [hw]; exact HPP.out.2); exact ⟨by rw [hw]; exact HPP.out.1, HRW6.out.step (fun k _ hlt hc => hg8.block k hlt (fun he => by { obtain ⟨c1, e1⟩ := HTY7.out k he.symm; obtain ⟨c2, e2⟩ := hc; rw [e1] at e2; injection e2 with e2; injection e2 with _ e2; exact absurd e2 (by decide) })), Kd.R_over' HV6.out HTY7.out (by decide) hg8, by rw [hw]; exact below_set HB6.out HG7.out⟩ }⟩; clear hw)
                      clear hx0 hf0
                      go_roundg k2
                      case measure => exact Nat.lt_succ_self _
                      case rel => exact ⟨h1, _, A10, c10, rfl, rfl, ⟨by have := HH.out; have := HH1E.out; omega⟩, ⟨by rw [HZS.out, HH1E.out]⟩, ⟨by have := HH1E.out; omega⟩, HT8⟩
end Go.Proofs.Ytkakdklakoplhaa.X
