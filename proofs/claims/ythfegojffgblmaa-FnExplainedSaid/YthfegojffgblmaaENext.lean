/- explainer.next walked, and the words for the memory of what is known (a map). No conditions. -/
import Derived.Test.YthfegojffgblmaaX5
import Derived.Test.YthfegojffgblmaaX5
import Derived.Test.YthfegojffgblmaaX5
import Derived.Test.YthfegojffgblmaaX4
import Derived.Maps.OwnSet
import Derived.Maps.OwnOps
import Derived.Maps.Views
import Derived.DeepKeys4
import Derived.BigQuiet
import Derived.StillTailTactics
namespace Go.Proofs.Ythfegojffgblmaa.X
open Go.RowKit Go.Maps Go.Proofs.YthfegojffgblmaaW.PrintWords Go.Proofs.YthfegojffgblmaaW.PrintLast Go.Proofs.YthfegojffgblmaaW.PrintMore
set_option linter.unusedVariables false
set_option linter.unusedSimpArgs false

-- what a station leaves, and the place behind it
def pt (s : Nat) (kd : Nat) (o : Int) : List Int := if kd = 1 then [] else if kd = 2 then [(s : Int) + 1, (s : Int) + 1] else if kd = 3 then [-((s : Int) + 1)] else if kd = 4 then [o + 1] else [(s : Int) + 1]
theorem pt_len (s kd : Nat) (o : Int) : (pt s kd o).length ≤ 2 := by unfold pt; split <;> (try split) <;> (try split) <;> (try split) <;> simp
theorem left_pt (s kd : Nat) (o : Int) (hs : s ≤ 100) (ho : -1000 ≤ o ∧ o ≤ 1000) : impl_left.f (s : Int) (kd : Int) o = some (pt s kd o) := by
  unfold impl_left.f pt
  have w1 : wrap64 ((s : Int) + 1) = (s : Int) + 1 := by unfold wrap64; omega
  have w2 : wrap64 (-((s : Int) + 1)) = -((s : Int) + 1) := by unfold wrap64; omega
  have w3 : wrap64 (o + 1) = o + 1 := by unfold wrap64; omega
  rw [w1, w2, w3]
  by_cases h1 : kd = 1
  · rw [if_pos h1, if_pos (by omega)]
  rw [if_neg h1, if_neg (by omega)]
  by_cases h2 : kd = 2
  · rw [if_pos h2, if_pos (by omega)]
  rw [if_neg h2, if_neg (by omega)]
  by_cases h3 : kd = 3
  · rw [if_pos h3, if_pos (by omega)]
  rw [if_neg h3, if_neg (by omega)]
  by_cases h4 : kd = 4
  · rw [if_pos h4, if_pos (by omega)]
  rw [if_neg h4, if_neg (by omega)]

theorem eq_loop (a b : List Int) (hab : a.length = b.length) (hl : a.length ≤ 1000000) (d : Nat) : ∀ (k i : Nat), i + d = a.length → d < k → ∃ q, slices_Equal_int64_int64.l0 k a b (a.length : Int) (i : Int) = some q ∧ (q = true ↔ ∀ j : Nat, i ≤ j → j < a.length → rd a j = rd b j) := by
  induction d with
  | zero =>
    intro k i hi hk
    obtain ⟨k, rfl⟩ : ∃ m, k = m + 1 := ⟨k - 1, by omega⟩
    simp only [slices_Equal_int64_int64.l0]
    rw [if_neg (by omega)]
    exact ⟨true, rfl, by simp; intro j h1 h2; omega⟩
  | succ d ih =>
    intro k i hi hk
    obtain ⟨k, rfl⟩ : ∃ m, k = m + 1 := ⟨k - 1, by omega⟩
    simp only [slices_Equal_int64_int64.l0]
    have w1 : wrap64 ((i : Int) + 1) = ((i + 1 : Nat) : Int) := by unfold wrap64; omega
    rw [if_pos (by omega), if_pos (by omega), if_pos (by omega), if_pos (by omega), w1]
    by_cases c : rd a i = rd b i
    · rw [if_pos c]
      obtain ⟨q, e, hq⟩ := ih k (i + 1) (by omega) (by omega)
      refine ⟨q, e, hq.trans ⟨fun h j h1 h2 => ?_, fun h j h1 h2 => h j (by omega) h2⟩⟩
      by_cases hj : j = i
      · rw [hj]; exact c
      · exact h j (by omega) h2
    · rw [if_neg c]
      refine ⟨false, rfl, ?_⟩
      constructor
      · intro h; simp at h
      · intro h; exact absurd (h i (Nat.le_refl _) (by omega)) c
theorem eq_ok (a b : List Int) (hl : a.length ≤ 1000000) (k : Nat) (hk : a.length < k) : slices_Equal_int64_int64.f k a b = some (decide (a = b)) := by
  unfold slices_Equal_int64_int64.f
  by_cases hab : a.length = b.length
  · rw [if_pos (by omega)]
    obtain ⟨q, e, hq⟩ := eq_loop a b hab hl a.length k 0 (by omega) hk
    rw [show ((0 : Nat) : Int) = 0 from rfl] at e
    rw [e]
    congr 1
    rw [Bool.eq_iff_iff, hq]
    simp only [decide_eq_true_eq]
    constructor
    · intro h
      apply List.ext_getElem hab
      intro j h1 h2
      have := h j (by omega) h1
      unfold rd at this
      simpa [List.getD_eq_getElem?_getD, h1, h2] using this
    · rintro rfl; intro j _ _; rfl
  · rw [if_neg (by omega), decide_eq_false (fun h => hab (by rw [h]))]

def nxg (b : List Int) (pl : Nat) (l : List Int) : Option Nat := if pl + l.length ≤ b.length ∧ l = (b.drop pl).take l.length then some (pl + l.length) else none
def nx (b : List Int) (s pl kd : Nat) : Option Nat := if kd = 4 then (if pl = b.length ∨ rd b pl < 1 ∨ rd b pl = (s : Int) + 1 then none else nxg b pl (pt s 4 (rd b pl - 1))) else nxg b pl (pt s kd (-1))
def nxv : Option Nat → Int | none => -1 | some e => e

set_option maxHeartbeats 8000000 in
set_option maxRecDepth 100000 in
theorem next_calls (block : List Int) (n : Int) (A : Option Addr) (c g m s pl kd : Nat) (w : World) (hg : w.heap[g]? = some (.cells #[.int .i64 n, .slice A block.length c, .map (some m)] 65 (0, 0)))
    (hC : Kd.C (Kd.int .i64) w A block.length block) (hc : block.length ≤ c) (hl : block.length ≤ 1000) (hs : s ≤ 100) (hpl : pl ≤ block.length) (hkd : kd ≤ 4) (hb : ∀ j : Nat, j < block.length → -100 ≤ rd block j ∧ rd block j ≤ 100) :
    Calls Try.prog 47 #[.pointer (some ⟨g, 0, none⟩), .int .i64 s, .int .i64 pl, .int .i64 kd] w fun e w' => e = .returned (.int .i64 (nxv (nx block s pl kd))) ∧ Below w.heap.size w w' := by
  have hx0 := blk_cell hg 0
  have hx1 := blk_cell hg 1
  have HG := Aside0.mk hg
  have HC := Aside0.mk hC
  have hglt : Aside0 (g < w.heap.size) := ⟨blk_lt hg⟩
  clear hg hC
  simp only [List.getElem?_toArray, List.getElem?_cons_zero, List.getElem?_cons_succ] at hx0 hx1
  by_cases k4 : kd = 4
  · subst k4
    have k4b : (((4 : Nat) : Int) == 4) = true := by decide
    by_cases h1 : pl = block.length
    · have h1b : ((pl : Int) == (block.length : Int)) = true := by simp [h1]
      have hres : nxv (nx block s pl 4) = -1 := by unfold nx; rw [if_pos rfl, if_pos (.inl h1)]; rfl
      clear h1 hpl hkd
      go_enter Try.func47, Try.ntmps47
      go_wp2_with (go_at_call 71; (with_reducible refine (impl_length_int64.calls A c block _ _ ?side1 ?side2 rfl).mono ?_); (case side1 => exact HC.out); (case side2 => exact hc); rintro e w' ⟨rfl, ⟨nd2, rfl⟩⟩)
      go_ret
      exact ⟨by rw [hres]; rfl, pw_below_drewN (Below.refl _ _) _⟩
    · have h1b : ((pl : Int) == (block.length : Int)) = false := by simp; omega
      have p1 : 0 ≤ (pl : Int) := by omega
      have p2 : (pl : Int) < (block.length : Int) := by omega
      have p1b := decide_eq_true p1
      have p2b := decide_eq_true p2
      obtain ⟨ad, e_, hxe⟩ := Kd.at_int HC.out (pl : Int) p1 p2
      cases e_
      have hpn : pl < block.length := by omega
      rw [Int.toNat_natCast] at hxe
      have hbp := hb pl (by omega)
      have hnx : nx block s pl 4 = (if rd block pl < 1 ∨ rd block pl = (s : Int) + 1 then none else nxg block pl (pt s 4 (rd block pl - 1))) := by unfold nx; rw [if_pos rfl]; simp [h1]
      obtain ⟨x, hx⟩ : ∃ x, x = rd block pl := ⟨_, rfl⟩
      rw [← hx] at hxe hbp hnx
      have HX := Aside0.mk hx
      have hws : wrap64 ((s : Int) + 1) = (s : Int) + 1 := by unfold wrap64; omega
      clear hx h1 p1 p2
      by_cases h2 : x < 1
      · have h2b := decide_eq_true h2
        have hres : nxv (nx block s pl 4) = -1 := by rw [hnx, if_pos (.inl h2)]; rfl
        clear h2 hnx hbp
        go_enter Try.func47, Try.ntmps47
        go_wp2_with (go_at_call 71; (with_reducible refine (impl_length_int64.calls _ c block _ _ ?side1 ?side2 rfl).mono ?_); (case side1 => exact HC.out); (case side2 => exact hc); rintro e w' ⟨rfl, ⟨nd2, rfl⟩⟩)
        go_ret
        exact ⟨by rw [hres]; rfl, pw_below_drewN (Below.refl _ _) _⟩
      · have h2b := decide_eq_false h2
        by_cases h3 : x = (s : Int) + 1
        · have h3b : (x == (s : Int) + 1) = true := by simp [h3]
          have hres : nxv (nx block s pl 4) = -1 := by rw [hnx, if_pos (.inr h3)]; rfl
          clear h2 h3 hnx hbp
          go_enter Try.func47, Try.ntmps47
          go_wp2_with (go_at_call 71; (with_reducible refine (impl_length_int64.calls _ c block _ _ ?side1 ?side2 rfl).mono ?_); (case side1 => exact HC.out); (case side2 => exact hc); rintro e w' ⟨rfl, ⟨nd2, rfl⟩⟩)
          go_ret
          exact ⟨by rw [hres]; rfl, pw_below_drewN (Below.refl _ _) _⟩
        · have h3b : (x == (s : Int) + 1) = false := by simp [h3]
          have hwx : wrap64 (x - 1) = x - 1 := by unfold wrap64; omega
          have HL := Aside0.mk (show impl_left.f (s : Int) 4 (x - 1) = some (pt s 4 (x - 1)) from left_pt s 4 (x - 1) hs (by omega))
          have HK : Aside0 (nx block s pl 4 = nxg block pl (pt s 4 (x - 1))) := ⟨by rw [hnx, if_neg (by omega)]⟩
          obtain ⟨l, hl_⟩ : ∃ l, l = pt s 4 (x - 1) := ⟨_, rfl⟩
          have HLL : Aside0 (l.length ≤ 2) := ⟨by rw [hl_]; exact pt_len _ _ _⟩
          rw [← hl_] at HL HK
          clear h2 h3 hnx hbp hl_
          go_enter Try.func47, Try.ntmps47
          go_wp2_with (first
            | (go_at_call 71; (with_reducible refine (impl_length_int64.calls _ c block _ _ ?side1 ?side2 rfl).mono ?_); (case side1 => exact HC.out); (case side2 => exact hc); rintro e w' ⟨rfl, ⟨nd1, rfl⟩⟩)
            | (go_at_call 74; (with_reducible refine (impl_left.calls _ _ _ l _ HL.out).mono ?_); rintro e w5 ⟨v5, rfl, hv5, hb5⟩; have HV5 : Aside0 (Kd.R (Kd.int .i64) 2 w5 w.heap.size (fun _ => True) v5 l) := ⟨hv5⟩; have HB5 : Aside0 (Below w.heap.size w w5) := ⟨⟨hb5.os, hb5.tape, hb5.output, hb5.size, hb5.block⟩⟩; clear hv5 hb5))
          obtain ⟨Ao, co, rfl⟩ := Kd.R_slice HV5.out
          have hx1' := pw_cell_below HB5.out hx1
          have HC' := Aside0.mk (Kd.C_below HC.out HB5.out)
          obtain ⟨en, hen⟩ : ∃ en : Int, en = (pl : Int) + (l.length : Int) := ⟨_, rfl⟩
          have hw : wrap64 ((pl : Int) + (l.length : Int)) = en := by have := HLL.out; rw [hen]; unfold wrap64; omega
          by_cases ce : (block.length : Int) < en
          · have ceb := decide_eq_true ce
            have hres : nxv (nx block s pl 4) = -1 := by rw [HK.out]; unfold nxg; rw [if_neg (by omega)]; rfl
            clear ce hen
            go_wp2_with (first
              | (go_at_call 71; (with_reducible refine (impl_length_int64.calls Ao co l _ _ ?side1 ?side2 rfl).mono ?_); (case side1 => exact (Kd.R_reads' HV5.out).2.2); (case side2 => exact (Kd.R_reads' HV5.out).2.1); rintro e w' ⟨rfl, ⟨nd, rfl⟩⟩)
              | (go_at_call 71; (with_reducible refine (impl_length_int64.calls (some ad) c block _ _ ?side1 ?side2 rfl).mono ?_); (case side1 => exact HC'.out); (case side2 => exact hc); rintro e w' ⟨rfl, ⟨nd2, rfl⟩⟩))
            go_ret
            exact ⟨by rw [hres]; rfl, pw_below_drewN HB5.out _⟩
          · have ceb := decide_eq_false ce
            obtain ⟨ii, hii, hi0, hi1, hi2⟩ := info_parts info2
            obtain ⟨y, hy⟩ : ∃ y, y = (block.drop pl).take l.length := ⟨_, rfl⟩
            have hlen : pl + l.length ≤ block.length := by omega
            have hly : y.length = l.length := by rw [hy, List.length_take, List.length_drop]; omega
            obtain ⟨A', hA'⟩ : ∃ A', A' = (if c = pl then (some ad) else (some ad : Option Addr).map (·.add (pl * 1))) := ⟨_, rfl⟩
            have hcut : ∀ W : World, (Instr.slice 22 (.slice (some ad) block.length c) (some (.int .i64 (pl : Int))) (some (.int .i64 en)) none).run Try.prog W = .ok (.slice A' y.length (c - pl)) W := by
              have := cut_mid (P := Try.prog) 22 2 .i64 .i64 Try.underlying22 hii 1 hi1 (some ad) block.length c (pl : Int) en (by omega) (by omega) (by omega) hc
              simp only [Int.toNat_natCast] at this
              rw [← hA', show en.toNat - pl = y.length from by omega] at this
              exact this
            have HY : Aside0 (Kd.C (Kd.int .i64) w5 A' y.length y) := ⟨by
              have h1 := Kd.C_drop (m := pl) HC'.out hpl hc
              rw [show (Kd.int IntKind.i64).sz = 1 from rfl, ← hA'] at h1
              rw [hy]
              exact Kd.C_take h1 (by rw [List.length_drop]; omega)⟩
            have HYc : Aside0 (y.length ≤ c - pl) := ⟨by omega⟩
            obtain ⟨q, hq⟩ : ∃ q, q = decide (l = y) := ⟨_, rfl⟩
            have HEQ : Aside0 (slices_Equal_int64_int64.f 10 l y = some q) := ⟨by rw [hq]; exact eq_ok l y (by have := HLL.out; omega) 10 (by have := HLL.out; omega)⟩
            have hres : nxv (nx block s pl 4) = if q then en else -1 := by
              rw [HK.out]; unfold nxg
              by_cases c1 : l = y
              · rw [if_pos ⟨hlen, by rw [← hy]; exact c1⟩, hq, decide_eq_true c1]; simp [nxv]; omega
              · rw [if_neg (fun h => c1 (by rw [hy]; exact h.2)), hq, decide_eq_false c1]; simp [nxv]
            clear hy hA' hq ce hen hly hlen
            go_wp2_with (first
              | (go_at_call 71; (with_reducible refine (impl_length_int64.calls Ao co l _ _ ?side1 ?side2 rfl).mono ?_); (case side1 => exact (Kd.R_reads' HV5.out).2.2); (case side2 => exact (Kd.R_reads' HV5.out).2.1); rintro e w' ⟨rfl, ⟨nd, rfl⟩⟩)
              | (go_at_call 71; (with_reducible refine (impl_length_int64.calls (some ad) c block _ _ ?side1 ?side2 rfl).mono ?_); (case side1 => exact HC'.out); (case side2 => exact hc); rintro e w' ⟨rfl, ⟨nd2, rfl⟩⟩)
              | (go_at_call 55; (with_reducible refine (slices_Equal_int64_int64.calls 10 Ao co l A' (c - pl) y _ _ ?side1 ?side2 ?side3 ?side4 HEQ.out).mono ?_); (case side1 => exact (Kd.R_reads' HV5.out).2.2); (case side2 => exact (Kd.R_reads' HV5.out).2.1); (case side3 => exact HY.out); (case side4 => exact HYc.out); rintro e w' ⟨rfl, ⟨nd3, rfl⟩⟩))
            · go_ret
              rename_i hq_
              have hqf : q = false := by simpa using hq_
              exact ⟨by rw [hres, hqf]; rfl, pw_below_drewN HB5.out _⟩
            · go_ret
              rename_i hq_
              have hqt : q = true := by simpa using hq_
              exact ⟨by rw [hres, hqt]; rfl, pw_below_drewN HB5.out _⟩
  · have k4b : ((kd : Int) == 4) = false := by simp; omega
    have HL := Aside0.mk (left_pt s kd (-1) hs (by omega))
    have HK : Aside0 (nx block s pl kd = nxg block pl (pt s kd (-1))) := ⟨by unfold nx; rw [if_neg k4]⟩
    obtain ⟨l, hl_⟩ : ∃ l, l = pt s kd (-1) := ⟨_, rfl⟩
    have HLL : Aside0 (l.length ≤ 2) := ⟨by rw [hl_]; exact pt_len _ _ _⟩
    rw [← hl_] at HL HK
    clear k4 hl_
    go_enter Try.func47, Try.ntmps47
    go_wp2_with (go_at_call 74; (with_reducible refine (impl_left.calls _ _ _ l _ HL.out).mono ?_); rintro e w5 ⟨v5, rfl, hv5, hb5⟩; have HV5 := Aside0.mk hv5; have HB5 := Aside0.mk hb5; clear hv5 hb5)
    obtain ⟨Ao, co, rfl⟩ := Kd.R_slice HV5.out
    have hx1' := pw_cell_below HB5.out hx1
    have HC' := Aside0.mk (Kd.C_below HC.out HB5.out)
    obtain ⟨en, hen⟩ : ∃ en : Int, en = (pl : Int) + (l.length : Int) := ⟨_, rfl⟩
    have hw : wrap64 ((pl : Int) + (l.length : Int)) = en := by have := HLL.out; rw [hen]; unfold wrap64; omega
    by_cases ce : (block.length : Int) < en
    · have ceb := decide_eq_true ce
      have hres : nxv (nx block s pl kd) = -1 := by rw [HK.out]; unfold nxg; rw [if_neg (by omega)]; rfl
      clear ce hen
      go_wp2_with (first
        | (go_at_call 71; (with_reducible refine (impl_length_int64.calls Ao co l _ _ ?side1 ?side2 rfl).mono ?_); (case side1 => exact (Kd.R_reads' HV5.out).2.2); (case side2 => exact (Kd.R_reads' HV5.out).2.1); rintro e w' ⟨rfl, ⟨nd, rfl⟩⟩)
        | (go_at_call 71; (with_reducible refine (impl_length_int64.calls A c block _ _ ?side1 ?side2 rfl).mono ?_); (case side1 => exact HC'.out); (case side2 => exact hc); rintro e w' ⟨rfl, ⟨nd2, rfl⟩⟩))
      go_ret
      exact ⟨by rw [hres]; rfl, pw_below_drewN HB5.out _⟩
    · have ceb := decide_eq_false ce
      obtain ⟨ii, hii, hi0, hi1, hi2⟩ := info_parts info2
      obtain ⟨y, hy⟩ : ∃ y, y = (block.drop pl).take l.length := ⟨_, rfl⟩
      have hlen : pl + l.length ≤ block.length := by omega
      have hly : y.length = l.length := by rw [hy, List.length_take, List.length_drop]; omega
      obtain ⟨A', hA'⟩ : ∃ A', A' = (if c = pl then A else A.map (·.add (pl * 1))) := ⟨_, rfl⟩
      have hcut : ∀ W : World, (Instr.slice 22 (.slice A block.length c) (some (.int .i64 (pl : Int))) (some (.int .i64 en)) none).run Try.prog W = .ok (.slice A' y.length (c - pl)) W := by
        have := cut_mid (P := Try.prog) 22 2 .i64 .i64 Try.underlying22 hii 1 hi1 A block.length c (pl : Int) en (by omega) (by omega) (by omega) hc
        simp only [Int.toNat_natCast] at this
        rw [← hA', show en.toNat - pl = y.length from by omega] at this
        exact this
      have HY : Aside0 (Kd.C (Kd.int .i64) w5 A' y.length y) := ⟨by
        have h1 := Kd.C_drop (m := pl) HC'.out hpl hc
        rw [show (Kd.int IntKind.i64).sz = 1 from rfl, ← hA'] at h1
        rw [hy]
        exact Kd.C_take h1 (by rw [List.length_drop]; omega)⟩
      have HYc : Aside0 (y.length ≤ c - pl) := ⟨by omega⟩
      obtain ⟨q, hq⟩ : ∃ q, q = decide (l = y) := ⟨_, rfl⟩
      have HEQ : Aside0 (slices_Equal_int64_int64.f 10 l y = some q) := ⟨by rw [hq]; exact eq_ok l y (by have := HLL.out; omega) 10 (by have := HLL.out; omega)⟩
      have hres : nxv (nx block s pl kd) = if q then en else -1 := by
        rw [HK.out]; unfold nxg
        by_cases c1 : l = y
        · rw [if_pos ⟨hlen, by rw [← hy]; exact c1⟩, hq, decide_eq_true c1]; simp [nxv]; omega
        · rw [if_neg (fun h => c1 (by rw [hy]; exact h.2)), hq, decide_eq_false c1]; simp [nxv]
      clear hy hA' hq ce hen hly hlen
      go_wp2_with (first
        | (go_at_call 71; (with_reducible refine (impl_length_int64.calls Ao co l _ _ ?side1 ?side2 rfl).mono ?_); (case side1 => exact (Kd.R_reads' HV5.out).2.2); (case side2 => exact (Kd.R_reads' HV5.out).2.1); rintro e w' ⟨rfl, ⟨nd, rfl⟩⟩)
        | (go_at_call 71; (with_reducible refine (impl_length_int64.calls A c block _ _ ?side1 ?side2 rfl).mono ?_); (case side1 => exact HC'.out); (case side2 => exact hc); rintro e w' ⟨rfl, ⟨nd2, rfl⟩⟩)
        | (go_at_call 55; (with_reducible refine (slices_Equal_int64_int64.calls 10 Ao co l A' (c - pl) y _ _ ?side1 ?side2 ?side3 ?side4 HEQ.out).mono ?_); (case side1 => exact (Kd.R_reads' HV5.out).2.2); (case side2 => exact (Kd.R_reads' HV5.out).2.1); (case side3 => exact HY.out); (case side4 => exact HYc.out); rintro e w' ⟨rfl, ⟨nd3, rfl⟩⟩))
      · go_ret
        rename_i hq_
        have hqf : q = false := by simpa using hq_
        exact ⟨by rw [hres, hqf]; rfl, pw_below_drewN HB5.out _⟩
      · go_ret
        rename_i hq_
        have hqt : q = true := by simpa using hq_
        exact ⟨by rw [hres, hqt]; rfl, pw_below_drewN HB5.out _⟩

theorem next_calls_v (block : List Int) (n : Int) (A : Option Addr) (c g m s pl kd : Nat) (si pi ki v : Int) (w : World) (es : si = (s : Int)) (ep : pi = (pl : Int)) (ek : ki = (kd : Int)) (hv : v = nxv (nx block s pl kd)) (hg : w.heap[g]? = some (.cells #[.int .i64 n, .slice A block.length c, .map (some m)] 65 (0, 0)))
    (hC : Kd.C (Kd.int .i64) w A block.length block) (hc : block.length ≤ c) (hl : block.length ≤ 1000) (hs : s ≤ 100) (hpl : pl ≤ block.length) (hkd : kd ≤ 4) (hb : ∀ j : Nat, j < block.length → -100 ≤ rd block j ∧ rd block j ≤ 100) :
    Calls Try.prog 47 #[.pointer (some ⟨g, 0, none⟩), .int .i64 si, .int .i64 pi, .int .i64 ki] w fun e w' => e = .returned (.int .i64 v) ∧ Below w.heap.size w w' := by
  rw [hv, es, ep, ek]
  exact next_calls block n A c g m s pl kd w hg hC hc hl hs hpl hkd hb
-- the fewest faults
def upto (b : List Int) (F : Nat → Nat) (s pl : Nat) : Nat → Nat
  | 0 => 1000000000
  | kd + 1 => match nx b s pl kd with
    | none => upto b F s pl kd
    | some e => min (upto b F s pl kd) (F e + if kd = 0 then 0 else 1)
def few (b : List Int) : Nat → Nat → Nat → Nat
  | 0, _, pl => if pl = b.length then 0 else 1000000000
  | d + 1, s, pl => upto b (fun e => few b d (s + 1) e) s pl 5
theorem upto_le (b : List Int) (F : Nat → Nat) (s pl kd : Nat) : upto b F s pl kd ≤ 1000000000 := by
  induction kd with
  | zero => exact Nat.le_refl _
  | succ kd ih =>
    simp only [upto]
    split
    · exact ih
    · exact Nat.le_trans (Nat.min_le_left _ _) ih
theorem few_le (b : List Int) (d s pl : Nat) : few b d s pl ≤ 1000000000 := by
  cases d with
  | zero => simp only [few]; split <;> omega
  | succ d => exact upto_le _ _ _ _ _
theorem nx_le {b : List Int} {s pl kd e : Nat} (h : nx b s pl kd = some e) : e ≤ b.length := by
  have g : ∀ l : List Int, nxg b pl l = some e → e ≤ b.length := by
    intro l hl
    unfold nxg at hl
    split at hl
    · rename_i h1
      cases hl
      exact h1.1
    · cases hl
  unfold nx at h
  split at h
  · split at h
    · cases h
    · exact g _ h
  · exact g _ h

-- the map's keys
theorem und88 : Try.prog.underlying 88 = some (.array 2 2) := by kernel_rfl
theorem und63 : Try.prog.underlying 63 = some (.map 88 2) := by kernel_rfl
theorem und2 : Try.prog.underlying 2 = some (.int .i64) := by kernel_rfl
theorem x_laid : laidOutB Try.prog = true := by kernel_rfl
theorem row88 : (88 : TypeId) < Try.prog.types.size := of_decide_eq_true (by kernel_rfl)
theorem wide88 : (match Try.prog.underlying 88 with | some (.array _ _) | some (.struct _) => true | _ => false) = true := by rw [und88]
theorem law88 : Keyed Try.prog 88 := Keyed.of_law (deep_law_laid x_laid (m := 2) (by omega) row88 (by kernel_rfl) wide88)
theorem zero2 (w : World) : (zeroValue 2).run Try.prog w = .ok (.int .i64 0) w := by kernel_rfl
theorem cells88 : Try.prog.cellsOf 88 = 2 := by kernel_rfl
theorem cells2 : Try.prog.cellsOf 2 = 1 := by kernel_rfl
theorem size_types : ∃ q, Try.prog.types.size + 1 = q + 2 := ⟨Try.prog.types.size - 1, by have h : (88 : Nat) < Try.prog.types.size := row88; omega⟩
theorem key_some (s p : Nat) (hs : s ≤ 1000) (hp : p ≤ 1000) : ∃ kl, keyOf Try.prog 88 (.agg #[.int .i64 s, .int .i64 p]) = some kl := by
  unfold keyOf
  rw [und88]
  simp only
  have h1 : Try.prog.keyType 88 = true := by kernel_rfl
  have h2 : (Value.agg #[Value.int .i64 s, Value.int .i64 p]).formed Try.prog 88 = true := by simp [Value.formed, und88, cells88]
  rw [h1, h2]
  obtain ⟨q, hq⟩ := size_types
  rw [hq]
  have w1 : (Lit.int .i64 (s : Int)).wf = true := by simp [Lit.wf, IntKind.min, IntKind.max, IntKind.signed, IntKind.bits]; omega
  have w2 : (Lit.int .i64 (p : Int)).wf = true := by simp [Lit.wf, IntKind.min, IntKind.max, IntKind.signed, IntKind.bits]; omega
  simp [Program.keyLits, und88, cells88, cells2, und2, Value.cells, List.range_succ, w1, w2]
noncomputable def KL (s p : Nat) : Lit := (keyOf Try.prog 88 (.agg #[.int .i64 s, .int .i64 p])).getD .nil
theorem key_is (s p : Nat) (hs : s ≤ 1000) (hp : p ≤ 1000) : keyOf Try.prog 88 (.agg #[.int .i64 s, .int .i64 p]) = some (KL s p) := by
  obtain ⟨kl, h⟩ := key_some s p hs hp
  unfold KL
  rw [h]
  rfl
theorem key_at (s p : Nat) (si pi : Int) (es : si = (s : Int)) (ep : pi = (p : Int)) (hs : s ≤ 1000) (hp : p ≤ 1000) : keyOf Try.prog 88 (.agg #[.int .i64 si, .int .i64 pi]) = some (KL s p) := by
  rw [es, ep]
  exact key_is s p hs hp
theorem key_ne {s p s' p' : Nat} (hs : s ≤ 1000) (hp : p ≤ 1000) (hs' : s' ≤ 1000) (hp' : p' ≤ 1000) (hne : ¬ (s = s' ∧ p = p')) : KL s p ≠ KL s' p' := by
  intro h
  have := law88.inj (key_is s p hs hp) (by rw [h]; exact key_is s' p' hs' hp')
  simp at this
  omega
theorem few_wf (u : Int) (k : Nat) (hu : u = (k : Int)) (hk : k ≤ 1000000000) : (Lit.int .i64 u).wf = true := by
  rw [hu]
  simp [Lit.wf, IntKind.min, IntKind.max, IntKind.signed, IntKind.bits]
  omega
theorem wr_one (x : Int) (k : Nat) (h : x = (k : Int)) (hk : k ≤ 1000000000) : wrap64 (x + 1) = ((k + 1 : Nat) : Int) := by
  unfold wrap64
  omega
theorem wr_add (x y : Int) (a b : Nat) (hx : x = (a : Int)) (hy : y = (b : Int)) (ha : a ≤ 1000000000) (hb : b ≤ 1) : wrap64 (x + y) = ((a + b : Nat) : Int) := by
  unfold wrap64
  omega
theorem wr_sub (x y : Int) (a b : Nat) (hx : x = (a : Int)) (hy : y = (b : Int)) (hb : b ≤ a) (ha : a ≤ 1000000000) : wrap64 (x - y) = ((a - b : Nat) : Int) := by
  unfold wrap64
  omega
theorem tI_ok (x : Int) (kd : Nat) (h : x = (kd : Int)) : impl_toInt.f (decide (0 < x)) = some (if kd = 0 then 0 else 1 : Int) := by
  unfold impl_toInt.f
  by_cases k0 : kd = 0
  · rw [if_pos k0, decide_eq_false (by omega)]; rfl
  · rw [if_neg k0, decide_eq_true (by omega)]; rfl
abbrev DM := DataW Unit
abbrev i64L (n : Int) : DM := .lit (.int .i64 n)
theorem keep_turned {w W : World} {m : Nat} (h : w.grownBy W (some m)) : KeepBut w W m none := ⟨h.size, fun i hi hne _ => h.block i hi (fun e => hne (by cases e; rfl))⟩
/-- A look-up in a region that draws its order. -/
theorem quiet_lookup {P : Program} {ops : Array Oper} {C : World → Prop} {Q : Act → Prop} {o : Oper} {rest : List Oper} {a : Act} (hw : Region.wanted o (yielded ops a.tmps) = true) {t : TypeId} {m x : Operand} (hop : o.op = Op.lookup t m x true) {mv xv v : Value} (hm : a.eval m = mv) (hx : a.eval x = xv)
    (hrun : ∀ w, C w → (Instr.lookup t mv xv true).run P w = .ok v w) (hk : wpQuiet P ops C Q rest (a.put o.dst v)) : wpQuiet P ops C Q (o :: rest) a :=
  BigFrame.wpQuiet_want hw fun K hK => ⟨v, fun w hC => by
    unfold Oper.quietAt
    simp [execOp, hop, hm, hx, hrun w hC, Result.andThen, Oper.quietUpon], hK _ hk⟩
/-- What is known is right. -/
def Known (b : List Int) (N : Nat) (D : DM) : Prop := IsMap D ∧ ∀ s p, s ≤ N → p ≤ 1000 → Maps.has D (KL s p) = true → D.atKey (KL s p) (i64L 0) = i64L (few b (N - s) s p)
theorem Known.empty (b : List Int) (N : Nat) : Known b N (.map []) := ⟨⟨[], rfl⟩, fun s p _ _ h => by simp [Maps.has] at h⟩
theorem Known.put {b : List Int} {N : Nat} {D : DM} (h : Known b N D) (s p : Nat) (hs : s ≤ N) (hN : N ≤ 100) (hp : p ≤ 1000) : Known b N (D.put (KL s p) (i64L (few b (N - s) s p))) := by
  refine ⟨h.1.put _ _, fun s' p' hs' hp' hh => ?_⟩
  by_cases c : s' = s ∧ p' = p
  · obtain ⟨rfl, rfl⟩ := c
    exact atKey_put_same h.1 (law88.key (key_is s' p' (by omega) hp')) _ _
  · have hne := key_ne (s := s') (p := p') (s' := s) (p' := p) (by omega) hp' (by omega) hp c
    rw [atKey_put_other hne]
    rw [has_put_other hne] at hh
    exact h.2 s' p' hs' hp' hh

abbrev OM (w : World) (m q : Nat) (D : DM) : Prop := w.ownsMap Try.prog 88 (plainElem (H := Unit) Try.prog 2) m q D
theorem OM.keep {w w' : World} {m q : Nat} {D : DM} (h : OM w m q D) (hb : Below w.heap.size w w') : OM w' m q D :=
  World.ownsMap.kept h (grown_of_below hb none) (by simp)

end Go.Proofs.Ythfegojffgblmaa.X
