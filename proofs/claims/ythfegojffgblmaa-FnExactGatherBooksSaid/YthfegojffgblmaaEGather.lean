/- impl.gather walked: for each book the stations' leavings, each found by a closure over book and station. Conditions: at most 12 stations and 40 books. -/
import Derived.Test.YthfegojffgblmaaX5
import Derived.Test.YthfegojffgblmaaEFaultFind
import Derived.StillTailTactics
namespace Go.Proofs.Ythfegojffgblmaa.X
open Go.RowKit Go.Shelf Go.Proofs.YthfegojffgblmaaW.PrintWords Go.Proofs.YthfegojffgblmaaW.PrintLast Go.Proofs.YthfegojffgblmaaW.PrintMore
set_option linter.unusedVariables false
set_option linter.unusedSimpArgs false

def hereF (bk st : Int) (x : S54) : Bool := decide (x.f0 = bk) && decide (x.f1 = st)
theorem left_len (a b c : Int) : ∃ l, impl_left.f a b c = some l ∧ l.length ≤ 2 := by
  unfold impl_left.f
  split
  · exact ⟨_, rfl, by simp⟩
  split
  · exact ⟨_, rfl, by simp⟩
  split
  · exact ⟨_, rfl, by simp⟩
  split
  · exact ⟨_, rfl, by simp⟩
  exact ⟨_, rfl, by simp⟩
theorem idxFrom_lt {α : Type} (p : α → Bool) : ∀ (l : List α) (i : Int), 0 ≤ i → idxFrom p l i < i + (l.length : Int)
  | [], i, h => by simp [idxFrom]; omega
  | x :: xs, i, h => by
    simp only [idxFrom, List.length_cons]
    split
    · omega
    · have := idxFrom_lt p xs (i + 1) (by omega)
      omega
/-- What a station leaves for a book. -/
def stat (l2 : List S54) (bk st : Int) : List Int := if idxFrom (hereF bk st) l2 0 < 0 then [wrap64 (st + 1)] else (impl_left.f st (rd_T54 l2 (idxFrom (hereF bk st) l2 0)).f2 (rd_T54 l2 (idxFrom (hereF bk st) l2 0)).f3).getD []
theorem stat_len (l2 : List S54) (bk st : Int) : (stat l2 bk st).length ≤ 2 := by
  unfold stat
  split
  · simp
  · obtain ⟨l, h, hl⟩ := left_len st (rd_T54 l2 (idxFrom (hereF bk st) l2 0)).f2 (rd_T54 l2 (idxFrom (hereF bk st) l2 0)).f3
    rw [h]
    exact hl
def blockTo (l2 : List S54) (bk : Int) : Nat → List Int
  | 0 => []
  | s + 1 => blockTo l2 bk s ++ stat l2 bk s
theorem blockTo_len (l2 : List S54) (bk : Int) : ∀ s, (blockTo l2 bk s).length ≤ 2 * s
  | 0 => Nat.le_refl _
  | s + 1 => by
    have := blockTo_len l2 bk s
    have := stat_len l2 bk s
    simp only [blockTo, List.length_append]
    omega
def booksTo (l2 : List S54) (n : Nat) : Nat → List (List Int)
  | 0 => []
  | b + 1 => booksTo l2 n b ++ [blockTo l2 b n]
theorem booksTo_len (l2 : List S54) (n : Nat) : ∀ b, (booksTo l2 n b).length = b
  | 0 => rfl
  | b + 1 => by simp only [booksTo, List.length_append, booksTo_len l2 n b]; rfl
def impl_gather.f (a0 a1 : Int) (l2 : List S54) : Option (List (List Int)) := if a0 ≤ 12 ∧ a1 ≤ 40 then some (booksTo l2 a0.toNat a1.toNat) else none

set_option maxRecDepth 100000 in
set_option maxHeartbeats 8000000 in
theorem impl_gather.calls (a0 : Int) (a1 : Int) (A2 : Option Addr) (c2 : Nat) (l2 : List S54) (r : List (List Int)) (w : World) (hr2 : Kd.C k54 w A2 l2.length l2) (hc2 : l2.length ≤ c2) (h : impl_gather.f a0 a1 l2 = some r) :
    Calls Try.prog 52 #[.int .i64 a0, .int .i64 a1, .slice A2 l2.length c2] w fun e w' => ∃ v0_ : Value, e = .returned v0_ ∧ Kd.S (Kd.slice 2 (Kd.int .i64)) 22 w' w.heap.size (fun _ => True) v0_ r ∧ Below w.heap.size w w' := by
  unfold impl_gather.f at h
  have hlim : a0 ≤ 12 ∧ a1 ≤ 40 := by
    by_cases c : a0 ≤ 12 ∧ a1 ≤ 40
    · exact c
    · rw [if_neg c] at h; cases h
  rw [if_pos hlim] at h
  have hu54 := Try.underlying54
  have HR := Aside0.mk hr2
  have HC := Aside0.mk hc2
  have HLIM := Aside0.mk hlim
  obtain ⟨N, hN⟩ : ∃ N, N = a0.toNat := ⟨_, rfl⟩
  obtain ⟨M, hM⟩ : ∃ M, M = a1.toNat := ⟨_, rfl⟩
  rw [← hN, ← hM] at h
  have HRR := Aside0.mk (Option.some.inj h)
  have HN := Aside0.mk hN
  have HM := Aside0.mk hM
  have HB := Aside0.mk (Below.refl w.heap.size w)
  clear hr2 hc2 h hN hM hlim
  go_enter Try.func52, Try.ntmps52
  go_wp2_with ((with_reducible refine gate_dst (N := 12) rfl ?_); refine Kd.S_lit (Kd.slice 2 (Kd.int .i64)) _ 22 ?hg (N := 12) ?hd (xs := ([] : List (List Int))) (inner := []) (ok := fun _ => True) (okp := fun _ => True) ?hr ?hp (fun _ hk => hk) trivial (Below.refl _ _) (Nat.le_refl _) (by simp) ?_; (case hd => rfl); (case hg => rfl); (case hr => first | (go_simp; done) | (go_simp; rfl)); (case hp => exact (Reps.none _ _)); intro v281 w7 ho8 hb hg_ hnew_; clear hg_ hnew_; have HS := Aside0.mk (Kd.S_lower ho8 (below_size HB.out)); have HB7 := Aside0.mk (below_step HB.out hb); clear hb ho8)
  clear HB
  go_loopg [7, 14] M (fun kq v7 v14 w' => ∃ (b : Nat) (y : Int), v14 = .int .i64 y ∧ Aside0 (b + kq = M) ∧ Aside0 (y = (b : Int)) ∧ Aside0 (Kd.S (Kd.slice 2 (Kd.int .i64)) 22 w' w.heap.size (fun _ => True) v7 (booksTo l2 N b)) ∧ Aside0 (Below w.heap.size w w'))
  case atStart => exact ⟨0, 0, rfl, ⟨Nat.zero_add _⟩, ⟨rfl⟩, ⟨HS.out⟩, ⟨HB7.out⟩⟩
  case round =>
    clear HS HB7
    obtain ⟨b, y, rfl, HBM, HY, HS, HB⟩ := hrel
    cases gk with
    | zero =>
      have hcy : decide (y < a1) = false := decide_eq_false (by have := HBM.out; have := HY.out; have := HM.out; omega)
      have HEQ : Aside0 (booksTo l2 N b = r) := ⟨by rw [← HRR.out]; congr 1; have := HBM.out; omega⟩
      go_wp2
      go_ret
      exact ⟨_, rfl, by rw [← HEQ.out]; exact HS.out, HB.out⟩
    | succ k1 =>
      have hcy : decide (y < a1) = true := decide_eq_true (by have := HBM.out; have := HY.out; have := HM.out; omega)
      have HYS : Aside0 (wrap64 (y + 1) = ((b + 1 : Nat) : Int)) := ⟨by have := HY.out; have := HBM.out; have := HM.out; have := HLIM.out; unfold wrap64; omega⟩
      obtain ⟨Wb, hWb⟩ : ∃ Wb, Wb = wr.alloc (Obj.cells #[Value.int IntKind.i64 y] 2 (0, 0)) := ⟨_, rfl⟩
      have HBX : Aside0 (Wb.cell? ⟨wr.heap.size, 0, none⟩ = some (.int .i64 y)) := ⟨by rw [hWb]; simp⟩
      have HSb : Aside0 (Kd.S (Kd.slice 2 (Kd.int .i64)) 22 Wb w.heap.size (fun _ => True) u7 (booksTo l2 N b)) := ⟨by rw [hWb]; exact Kd.S_alloc HS.out _⟩
      have HBb : Aside0 (Below w.heap.size w Wb) := ⟨by rw [hWb]; exact below_alloc HB.out _⟩
      have HCb := Aside0.mk (Kd.C_below HR.out HBb.out)
      go_upto_region 5 with (fail)
      rw [← hWb]
      clear hWb
      obtain ⟨Bx, hBx⟩ : ∃ Bx, Bx = wr.heap.size := ⟨_, rfl⟩
      rw [← hBx] at HBX ⊢
      clear hBx
      go_wp2_with ((with_reducible refine gate_dst (N := 17) rfl ?_); refine Kd.R_lit (Kd.int .i64) _ 2 ?hg (N := 17) ?hd (xs := ([] : List Int)) (inner := []) (ok := fun _ => True) (okp := fun _ => True) ?hr ?hp (fun _ hk => hk) trivial (Below.refl _ _) (Nat.le_refl _) (by simp) ?_; (case hd => rfl); (case hg => rfl); (case hr => first | (go_simp; done) | (go_simp; rfl)); (case hp => exact (Reps.none _ _)); intro v370 w8 ho3 hb hg_ hnew_; clear hg_ hnew_; have HO8 := Aside0.mk ho3; have HB8 := Aside0.mk hb; clear hb ho3)
      go_loopg [9, 19] N (fun kq v9 v19 w' => ∃ (s : Nat) (x : Int), v19 = .int .i64 x ∧ Aside0 (s + kq = N) ∧ Aside0 (x = (s : Int)) ∧ Aside0 (Kd.R (Kd.int .i64) 2 w' Wb.heap.size (fun _ => True) v9 (blockTo l2 b s)) ∧ Aside0 (Below Wb.heap.size Wb w'))
      case atStart => exact ⟨0, 0, rfl, ⟨Nat.zero_add _⟩, ⟨rfl⟩, HO8, HB8⟩
      case round =>
        clear HO8 HB8
        obtain ⟨s, x, rfl, HSN, HX, HO, HBw⟩ := hrel
        cases gk with
        | zero =>
          have hcx : decide (x < a0) = false := decide_eq_false (by have := HSN.out; have := HX.out; have := HN.out; omega)
          have HEQ : Aside0 (blockTo l2 b s = blockTo l2 b N) := ⟨by congr 1; have := HSN.out; omega⟩
          have HBM1 : Aside0 (b + 1 + k1 = M) := ⟨by have := HBM.out; omega⟩
          have HSw := Aside0.mk (Kd.S_elder' HSb.out (Kd.R_base HO.out) HBw.out)
          have HOw := Aside0.mk (Kd.R_lower HO.out HBb.out.size)
          have HBW := Aside0.mk (below_then HBb.out HBb.out.size HBw.out)
          obtain ⟨Ao14, co14, eo14⟩ := Kd.R_slice HOw.out
          subst eo14
          have HLB := Aside0.mk (booksTo_len l2 N b)
          go_wp2_with ((with_reducible refine gate_builtin (b := .append) (xs := #[.tmp 47, .tmp 49]) rfl ?_); at_builtin; refine Kd.S_append (Kd.slice 2 (Kd.int .i64)) (w0 := w) w.heap.size rfl (.tmp 47) (.tmp 49) 33 22 (.slice none 0 0) 24 rfl Try.underlying33 info22 rfl (by decide) (by omega) u7 (booksTo l2 N b) (blockTo l2 b s) [.slice Ao14 (blockTo l2 b s).length co14] (fun _ => True) (fun k_ => some k_ = (.slice Ao14 (blockTo l2 b s).length co14 : Value).ownBlock) rfl rfl ?aP (fun k_ hk_ => ((Kd.R_mono (ok' := fun k_ => ((fun _ => True)) k_ ∧ some k_ ≠ (u7 : Value).ownBlock) (Kd.R_apart' (HOw.out) (Kd.S_typed HSw.out) (by decide)) (fun k_ hk => ⟨trivial, hk.2⟩))).1 k_ hk_.symm) ?aF ?aO ?aB ?aS ?aL ?_; (case aP => exact Kd.M_row (Kd.R_mono (Kd.R_tight rfl (Kd.R_mono (ok' := fun k_ => ((fun _ => True)) k_ ∧ some k_ ≠ (u7 : Value).ownBlock) (Kd.R_apart' (HOw.out) (Kd.S_typed HSw.out) (by decide)) (fun k_ hk => ⟨trivial, hk.2⟩))) (fun _ h_ => h_))); (case aB => exact HBW.out); (case aF => exact (fun _ _ => trivial)); (case aO => exact Kd.S_mono HSw.out (fun k_ hk => ⟨trivial, fun e_ => hk.2 e_⟩)); (case aS => exact HBW.out.size); (case aL => have h1 := HLB.out; have h2 := HBM.out; have h3 := HM.out; have h4 := HLIM.out; omega); intro v287 w13 ho hb hg hat; have HB13 := Aside0.mk hb; have HS13 := Aside0.mk ho; clear ho hb hg hat)
          go_roundg k1
          case measure => exact Nat.lt_succ_self _
          case rel => exact ⟨b + 1, _, rfl, HBM1, HYS, ⟨by simp only [booksTo]; rw [← HEQ.out]; exact HS13.out⟩, HB13⟩
        | succ k2 =>
          have hcx : decide (x < a0) = true := decide_eq_true (by have := HSN.out; have := HX.out; have := HN.out; omega)
          have HSN1 : Aside0 (s + 1 + k2 = N) := ⟨by have := HSN.out; omega⟩
          have HXS : Aside0 (wrap64 (x + 1) = ((s + 1 : Nat) : Int)) := ⟨by have := HX.out; have := HSN.out; have := HN.out; have := HLIM.out; unfold wrap64; omega⟩
          have HLEN : Aside0 ((blockTo l2 b s).length ≤ 24) := ⟨by have := blockTo_len l2 b s; have := HSN.out; have := HN.out; have := HLIM.out; omega⟩
          obtain ⟨acc, hacc⟩ : ∃ acc, acc = blockTo l2 b s := ⟨_, rfl⟩
          rw [← hacc] at HO HLEN
          have HACC : Aside0 (blockTo l2 b (s + 1) = acc ++ stat l2 y x) := ⟨by rw [hacc, HX.out, HY.out]; rfl⟩
          clear hacc
          obtain ⟨W1, hW1⟩ : ∃ W1, W1 = wr.alloc (Obj.cells #[Value.int IntKind.i64 x] 2 (0, 0)) := ⟨_, rfl⟩
          have HB1 : Aside0 (Below Wb.heap.size Wb W1) := ⟨by rw [hW1]; exact below_alloc HBw.out _⟩
          have HO1 : Aside0 (Kd.R (Kd.int .i64) 2 W1 Wb.heap.size (fun _ => True) u9 acc) := ⟨by rw [hW1]; exact Kd.R_alloc HO.out _⟩
          have HCX : Aside0 (W1.cell? ⟨wr.heap.size, 0, none⟩ = some (.int .i64 x)) := ⟨by rw [hW1]; simp⟩
          have HBX1 : Aside0 (W1.cell? ⟨Bx, 0, none⟩ = some (.int .i64 y)) := ⟨pw_cell_below HB1.out HBX.out⟩
          have HC1 := Aside0.mk (Kd.C_below HCb.out HB1.out)
          go_upto_region 9 with (fail)
          rw [← hW1]
          clear hW1
          obtain ⟨Cx, hCx⟩ : ∃ Cx, Cx = wr.heap.size := ⟨_, rfl⟩
          rw [← hCx] at HCX ⊢
          clear hCx
          obtain ⟨ix, hix⟩ : ∃ ix, ix = idxFrom (hereF y x) l2 0 := ⟨_, rfl⟩
          have HCI : Aside0 (Calls Try.prog 76 #[.slice A2 l2.length c2, .func (.func 77) #[] #[.pointer (some ⟨Bx, 0, none⟩), .pointer (some ⟨Cx, 0, none⟩)]] W1 fun e w' => e = .returned (.int .i64 ix) ∧ Below W1.heap.size W1 w') := ⟨by
            rw [hix]
            exact indexFaults 77 #[.pointer (some ⟨Bx, 0, none⟩), .pointer (some ⟨Cx, 0, none⟩)] (hereF y x) W1 A2 c2 l2 HC1.out (enters_of Try.func77 (by kernel_rfl) rfl) (fun x_ W_ hb_ => here_out W_ x_ y x Bx Cx (pw_cell_below hb_ HBX1.out) (pw_cell_below hb_ HCX.out))⟩
          have HIX := Aside0.mk hix
          have HIXL : Aside0 (ix < (l2.length : Int)) := ⟨by have := idxFrom_lt (hereF y x) l2 0 (Int.le_refl 0); omega⟩
          clear hix
          by_cases h0 : ix < 0
          · have h0b := decide_eq_true h0
            have HST : Aside0 (stat l2 y x = [wrap64 (x + 1)]) := ⟨by unfold stat; rw [← HIX.out, if_pos h0]⟩
            clear h0
            go_wp2_with (first
              | (go_at_call 76; (with_reducible refine HCI.out.mono ?_); rintro e w2 ⟨rfl, hb⟩; have HB2 := Aside0.mk (below_then HB1.out HB1.out.size hb); have HO2 := Aside0.mk (Kd.R_below HO1.out hb); have hcx2 := pw_cell_below hb HCX.out; clear hb)
              | ((with_reducible refine gate_builtin (b := .append) (xs := #[.tmp 27, .tmp 30]) rfl ?_); at_builtin; refine Kd.R_append (Kd.int .i64) (w0 := Wb) Wb.heap.size rfl (.tmp 27) (.tmp 30) 22 2 (.int .i64 0) 8 rfl Try.underlying22 info2 rfl (by decide) (by omega) u9 acc (wrap64 (x + 1)) [.int .i64 (wrap64 (x + 1))] (fun _ => True) (fun _ => False) rfl rfl ?aP (fun _ hk => hk.elim) ?aF ?aO ?aB ?aS ?aL ?_; (case aP => exact rfl); (case aF => exact fun _ _ => trivial); (case aO => exact (by (with_reducible repeat (first | apply Kd.R_alloc | apply Kd.R_drewN | apply Kd.R_drew)); exact HO2.out)); (case aB => exact (by repeat (first | (with_reducible first | exact HB2.out | apply below_alloc | apply pw_below_drewN | apply below_drew1) | exact HB2.out))); (case aS => exact HB2.out.size); (case aL => have := HLEN.out; omega); intro v373 w9 ho hb hg hat; have HO9 := Aside0.mk ho; have HB9 := Aside0.mk hb; clear ho hb hg hat))
            go_roundg k2
            case measure => exact Nat.lt_succ_self _
            case rel => exact ⟨s + 1, _, rfl, HSN1, HXS, ⟨by rw [HACC.out, HST.out]; exact HO9.out⟩, HB9⟩
          · have h0b := decide_eq_false h0
            have HI0 : Aside0 (0 ≤ ix) := ⟨by omega⟩
            obtain ⟨f, hf⟩ : ∃ f, f = rd_T54 l2 ix := ⟨_, rfl⟩
            obtain ⟨lf, hlf, hlf2⟩ := left_len x f.f2 f.f3
            have HST : Aside0 (stat l2 y x = lf) := ⟨by unfold stat; rw [← HIX.out, if_neg h0, ← hf, hlf]; rfl⟩
            have HLF := Aside0.mk hlf
            have HLF2 := Aside0.mk hlf2
            have HF := Aside0.mk hf
            clear h0 hlf hlf2 hf
            go_wp2_with (go_at_call 76; (with_reducible refine HCI.out.mono ?_); rintro e w2 ⟨rfl, hb⟩; have HB2 := Aside0.mk (below_then HB1.out HB1.out.size hb); have HO2 := Aside0.mk (Kd.R_below HO1.out hb); have hcx2 := pw_cell_below hb HCX.out; have HC2 := Aside0.mk (Kd.C_below HC1.out hb); clear hb)
            have hpx := eq_true HI0.out
            have hqx := eq_true HIXL.out
            obtain ⟨ad, hA2, hz0, hz1, hz2, hz3⟩ := at_T54 HC2.out ix HI0.out HIXL.out
            rw [← HF.out] at hz0 hz1 hz2 hz3
            have HA2 := Aside0.mk hA2
            subst hA2
            clear hz0 hz1
            have HO3 : Aside0 (Kd.R (Kd.int .i64) 2 w2.drew Wb.heap.size (fun _ => True) u9 acc) := ⟨Kd.R_drew HO2.out⟩
            have HB3 : Aside0 (Below Wb.heap.size Wb w2.drew) := ⟨below_drew1 HB2.out⟩
            refine wp_region_noPanic ?_
            refine start_ (n := 15) (S := fun w' => w'.cell? ⟨Cx, 0, none⟩ = some (.int .i64 x) ∧ w'.cell? ⟨(ad.add (ix.toNat * 4)).block, (ad.add (ix.toNat * 4)).off + 2, none⟩ = some (.int .i64 f.f2) ∧ w'.cell? ⟨(ad.add (ix.toNat * 4)).block, (ad.add (ix.toNat * 4)).off + 3, none⟩ = some (.int .i64 f.f3)) (ds := [13]) #[false, false, false, false, false, false, false, false, false, false, false, false, false, false, false] (by kernel_rfl) rfl rfl ⟨hcx2, hz2, hz3⟩ (fun hHeld => ?_)
            generalize w2.drew = w3 at HO3 HB3 hHeld ⊢
            refine pure_ (i := 0) (N := some 32) (v := ?_) (a' := ?_) #[true, false, false, false, false, false, false, false, false, false, false, false, false, false, false] rfl rfl (by kernel_rfl) (fun _ _ _ h => h) (Or.inl ⟨by rfl, ?_⟩) ?_ ?_
            rotate_left
            · intro w'
              go_simp
              with_reducible rfl
            rotate_left
            · simp only [Act.put, List.setIfInBounds_toArray, List.set_cons_zero, List.set_cons_succ, i64_w, i32_w]
              rfl
            refine pure_ (i := 2) (N := some 34) (v := ?_) (a' := ?_) #[true, false, true, false, false, false, false, false, false, false, false, false, false, false, false] rfl rfl (by kernel_rfl) (fun _ _ _ h => h) (Or.inl ⟨by rfl, ?_⟩) ?_ ?_
            rotate_left
            · intro w'
              go_simp
              with_reducible rfl
            rotate_left
            · simp only [Act.put, List.setIfInBounds_toArray, List.set_cons_zero, List.set_cons_succ, i64_w, i32_w]
              rfl
            refine pure_ (i := 3) (N := some 35) (v := ?_) (a' := ?_) #[true, false, true, true, false, false, false, false, false, false, false, false, false, false, false] rfl rfl (by kernel_rfl) (fun _ _ _ h => h) (Or.inl ⟨by rfl, ?_⟩) ?_ ?_
            rotate_left
            · intro w'
              go_simp
              with_reducible rfl
            rotate_left
            · simp only [Act.put, List.setIfInBounds_toArray, List.set_cons_zero, List.set_cons_succ, i64_w, i32_w]
              rfl
            refine pure_ (i := 4) (N := some 36) (v := ?_) (a' := ?_) #[true, false, true, true, true, false, false, false, false, false, false, false, false, false, false] rfl rfl (by kernel_rfl) (fun _ _ _ h => h) (Or.inl ⟨by rfl, ?_⟩) ?_ ?_
            rotate_left
            · intro w'
              go_simp
              with_reducible rfl
            rotate_left
            · simp only [Act.put, List.setIfInBounds_toArray, List.set_cons_zero, List.set_cons_succ, i64_w, i32_w]
              rfl
            refine pure_ (i := 5) (N := some 37) (v := ?_) (a' := ?_) #[true, false, true, true, true, true, false, false, false, false, false, false, false, false, false] rfl rfl (by kernel_rfl) (fun _ _ _ h => h) (Or.inl ⟨by rfl, ?_⟩) ?_ ?_
            rotate_left
            · intro w'
              go_simp
              with_reducible rfl
            rotate_left
            · simp only [Act.put, List.setIfInBounds_toArray, List.set_cons_zero, List.set_cons_succ, i64_w, i32_w]
              rfl
            refine pure_ (i := 7) (N := some 39) (v := ?_) (a' := ?_) #[true, false, true, true, true, true, false, true, false, false, false, false, false, false, false] rfl rfl (by kernel_rfl) (fun _ _ _ h => h) (Or.inl ⟨by rfl, ?_⟩) ?_ ?_
            rotate_left
            · intro w'
              go_simp
              with_reducible rfl
            rotate_left
            · simp only [Act.put, List.setIfInBounds_toArray, List.set_cons_zero, List.set_cons_succ, i64_w, i32_w]
              rfl
            refine pure_ (i := 8) (N := some 40) (v := ?_) (a' := ?_) #[true, false, true, true, true, true, false, true, true, false, false, false, false, false, false] rfl rfl (by kernel_rfl) (fun _ _ _ h => h) (Or.inl ⟨by rfl, ?_⟩) ?_ ?_
            rotate_left
            · intro w'
              go_simp
              with_reducible rfl
            rotate_left
            · simp only [Act.put, List.setIfInBounds_toArray, List.set_cons_zero, List.set_cons_succ, i64_w, i32_w]
              rfl
            refine pure_ (i := 9) (N := some 41) (v := ?_) (a' := ?_) #[true, false, true, true, true, true, false, true, true, true, false, false, false, false, false] rfl rfl (by kernel_rfl) (fun _ _ _ h => h) (Or.inl ⟨by rfl, ?_⟩) ?_ ?_
            rotate_left
            · intro w'
              go_simp
              with_reducible rfl
            rotate_left
            · simp only [Act.put, List.setIfInBounds_toArray, List.set_cons_zero, List.set_cons_succ, i64_w, i32_w]
              rfl
            refine pure_ (i := 10) (N := some 42) (v := ?_) (a' := ?_) #[true, false, true, true, true, true, false, true, true, true, true, false, false, false, false] rfl rfl (by kernel_rfl) (fun _ _ _ h => h) (Or.inl ⟨by rfl, ?_⟩) ?_ ?_
            rotate_left
            · intro w'
              go_simp
              with_reducible rfl
            rotate_left
            · simp only [Act.put, List.setIfInBounds_toArray, List.set_cons_zero, List.set_cons_succ, i64_w, i32_w]
              rfl
            refine take_ (i := 1) (N := some 33) (v := ?_) (a' := ?_) #[true, true, true, true, true, true, false, true, true, true, true, false, false, false, false] rfl rfl (by kernel_rfl) (fun _ _ _ h => h) (Or.inl ⟨by rfl, ?_⟩) hHeld ?_ ?_
            rotate_left
            · rintro w' ⟨s0, s1, s2⟩
              go_simp
              with_reducible rfl
            rotate_left
            · simp only [Act.put, List.setIfInBounds_toArray, List.set_cons_zero, List.set_cons_succ, i64_w, i32_w]
              rfl
            refine take_ (i := 6) (N := some 38) (v := ?_) (a' := ?_) #[true, true, true, true, true, true, true, true, true, true, true, false, false, false, false] rfl rfl (by kernel_rfl) (fun _ _ _ h => h) (Or.inl ⟨by rfl, ?_⟩) hHeld ?_ ?_
            rotate_left
            · rintro w' ⟨s0, s1, s2⟩
              go_simp
              with_reducible rfl
            rotate_left
            · simp only [Act.put, List.setIfInBounds_toArray, List.set_cons_zero, List.set_cons_succ, i64_w, i32_w]
              rfl
            refine take_ (i := 11) (N := some 43) (v := ?_) (a' := ?_) #[true, true, true, true, true, true, true, true, true, true, true, true, false, false, false] rfl rfl (by kernel_rfl) (fun _ _ _ h => h) (Or.inl ⟨by rfl, ?_⟩) hHeld ?_ ?_
            rotate_left
            · rintro w' ⟨s0, s1, s2⟩
              go_simp
              with_reducible rfl
            rotate_left
            · simp only [Act.put, List.setIfInBounds_toArray, List.set_cons_zero, List.set_cons_succ, i64_w, i32_w]
              rfl
            refine one_ (i := 12) (N := some 44) #[true, true, true, true, true, true, true, true, true, true, true, true, true, false, false] rfl rfl (by kernel_rfl) (by decide) (fun K hK => ?_)
            refine goes_ Try.func74 (by kernel_rfl) rfl #[.int .i64 x, .int .i64 f.f2, .int .i64 f.f3] (by rfl) rfl rfl (by simp only [List.map_toArray, List.map_cons, List.map_nil]; rfl) ?_
            with_reducible refine (impl_left.calls _ _ _ lf _ HLF.out).mono ?_
            rintro e w5 ⟨v5, rfl, hv5, hb5⟩
            refine ⟨_, rfl, ?_⟩
            have HV5 := Aside0.mk hv5
            have HB5 := Aside0.mk (below_then HB3.out HB3.out.size hb5)
            have HO5 := Aside0.mk (Kd.R_below HO3.out hb5)
            obtain ⟨Ao, co, eo⟩ := Kd.R_slice HV5.out
            subst eo
            refine hK.out _ _ ⟨(pw_cell_below hb5 hHeld.1), (pw_cell_below hb5 hHeld.2.1), (pw_cell_below hb5 hHeld.2.2)⟩ (fun hHeld => ?_)
            clear hK K
            refine norm_ (a' := ?_) ?_ ?_
            rotate_left
            · show Act.put _ (some 44) _ = _
              simp only [Act.put, List.setIfInBounds_toArray, List.set_cons_zero, List.set_cons_succ, i64_w, i32_w]
              rfl
            refine last_ (i := 13) (N := some 45) #[true, true, true, true, true, true, true, true, true, true, true, true, true, true, false] rfl rfl (by kernel_rfl) (by decide) (fun K hK => ?_)
            refine Kd.R_append_rows_step (Kd.int .i64) (w0 := Wb) Wb.heap.size (by rfl) (.tmp 32) (.tmp 44) 22 2 (.int .i64 0) 8 rfl Try.underlying22 info2 rfl (by decide) (by omega) u9 acc lf _ _ _ (fun _ => True) (fun _ => False) rfl rfl ?aO ?aR (fun _ _ h => h) (fun _ h => h.elim) ?aF ?aB ?aS ?aL ?_
            case aO => exact HO5.out
            case aR => exact (Kd.R_reads' HV5.out).2.2
            case aF => exact fun _ _ => trivial
            case aB => exact HB5.out
            case aS => exact HB5.out.size
            case aL => have := HLEN.out; have := HLF2.out; omega
            intro v373 w9 ho hb hg hat
            have HO9 := Aside0.mk ho
            have HB9 := Aside0.mk hb
            refine hK.out _ _ ?_
            clear hK K
            refine norm_ (a' := ?_) ?_ ?_
            rotate_left
            · show Act.put _ (some 45) _ = _
              simp only [Act.put, List.setIfInBounds_toArray, List.set_cons_zero, List.set_cons_succ, i64_w, i32_w]
              rfl
            refine pure_ (i := 14) (N := some 9) (v := ?_) (a' := ?_) #[true, true, true, true, true, true, true, true, true, true, true, true, true, true, true] rfl rfl (by kernel_rfl) (fun _ _ _ h => h) (Or.inl ⟨by rfl, ?_⟩) ?_ ?_
            rotate_left
            · intro w'
              go_simp
              with_reducible rfl
            rotate_left
            · simp only [Act.put, List.setIfInBounds_toArray, List.set_cons_zero, List.set_cons_succ, i64_w, i32_w]
              rfl
            refine done_ (by kernel_rfl) ?_
            refine NoPanic.normal ?_
            try go_wp2
            go_roundg k2
            case measure => exact Nat.lt_succ_self _
            case rel => exact ⟨s + 1, _, rfl, HSN1, HXS, ⟨by rw [HACC.out, HST.out]; exact HO9.out⟩, HB9⟩
end Go.Proofs.Ythfegojffgblmaa.X
