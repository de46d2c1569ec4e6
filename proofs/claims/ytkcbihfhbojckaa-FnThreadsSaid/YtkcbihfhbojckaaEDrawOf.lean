/- l01DrawOf: an order is drawn: a thing more is put into a list at a drawn place, again and again: walked. No conditions. -/
import Derived.Test.YtkcbihfhbojckaaX2
import Derived.Test.YtkcbihfhbojckaaX3
namespace Go.Proofs.Ytkcbihfhbojckaa.X
open Go.RowKit Go.Proofs.YtkcbihfhbojckaaW.PrintWords Go.Proofs.YtkcbihfhbojckaaW.PrintLast Go.Proofs.YtkcbihfhbojckaaW.PrintMore
set_option linter.unusedVariables false
set_option linter.unusedSimpArgs false

def spec_l01DrawOf.l0 : Nat → List Int → Int → List Int → Int → Int → Int → Option (List Int × Int × Int)
  | 0, _, _, _, _, _, _ => none
  | k + 1, c, n, out, i, a, s => if i < n then ((spec_l01Next.f c a s (wrap64 (i + 1))).bind fun t => (if 0 ≤ t.1 then (if t.1 ≤ (out.length : Int) then (if out.length < 8796093022207 then (spec_l01DrawOf.l0 k c n (out.take t.1.toNat ++ [i] ++ out.drop t.1.toNat) (wrap64 (i + 1)) t.2.1 t.2.2) else none) else none) else none)) else some (out, a, s)
def spec_l01DrawOf.f (k : Nat) (c : List Int) (a s : Int) (n : Int) : Option (List Int × Int × Int) := spec_l01DrawOf.l0 k c n [] 0 a s
theorem spec_l01DrawOf.mono_l : ∀ k c n out i a s, LeO (spec_l01DrawOf.l0 k c n out i a s) (spec_l01DrawOf.l0 (k + 1) c n out i a s)
  | 0, c, n, out, i, a, s => fun r h => by simp [spec_l01DrawOf.l0] at h
  | k + 1, c, n, out, i, a, s => by
    have ih := spec_l01DrawOf.mono_l k
    unfold spec_l01DrawOf.l0
    refine LeO.ite (LeO.bind (LeO.refl _) fun _ => ?_) (LeO.refl _)
    exact LeO.ite (LeO.ite (LeO.ite (ih _ _ _ _ _ _) (LeO.refl _)) (LeO.refl _)) (LeO.refl _)
theorem spec_l01DrawOf.mono : ∀ c a s n k, LeO (spec_l01DrawOf.f k c a s n) (spec_l01DrawOf.f (k + 1) c a s n) := fun c a s n k => spec_l01DrawOf.mono_l k c n [] 0 a s

theorem own_same (ys : List Int) (h : ys.length < 8796093022207) : spec_l01Own.f ys = some ys := by
  unfold spec_l01Own.f
  simp
  omega

set_option maxHeartbeats 8000000 in
set_option maxRecDepth 100000 in
theorem spec_l01DrawOf.calls (k : Nat) (g : Nat) (s0_0 : List Int) (s0_1 : Int) (s0_2 : Int) (a1 : Int) (r1 : List Int) (r2 : Int) (r3 : Int) (w0 w : World) (hI : IsS74 w0 w g s0_0 s0_1 s0_2) (hB : Below w0.heap.size w0 w) (h : spec_l01DrawOf.f k s0_0 s0_1 s0_2 a1 = some (r1, r2, r3)) :
    Calls Try.prog 57 #[.pointer (some ⟨g, 0, none⟩), .int .i64 a1] w fun e w' => ∃ v0_ : Value, e = .returned (v0_) ∧ Kd.R (Kd.int .i64) 2 w' w.heap.size (fun _ => True) v0_ r1 ∧ IsS74 w0 w' g s0_0 r2 r3 ∧ Below w0.heap.size w0 w' ∧ KeepBut w w' g none := by
  have hgl := IsS74.lt hI
  have HI0 := Aside0.mk hI
  have HB := Aside0.mk hB
  have H' : Aside0 (spec_l01DrawOf.l0 k s0_0 a1 [] 0 s0_1 s0_2 = some (r1, r2, r3)) := ⟨h⟩
  clear hI hB h
  obtain ⟨ii, hii, hi0, hi1, hi2⟩ := info_parts info2
  go_enter Try.func57, Try.ntmps57
  go_wp2
  go_loopg [5, 6] k (fun kq v5 v6 w' => ∃ (out : List Int) (i a s : Int), v6 = .int .i64 i ∧ Aside0 (spec_l01DrawOf.l0 kq s0_0 a1 out i a s = some (r1, r2, r3)) ∧ Aside0 (kq ≤ k) ∧ Aside0 (Kd.R (Kd.int .i64) 2 w' w.heap.size (fun k_ => k_ ≠ g) v5 out) ∧ Aside0 (IsS74 w0 w' g s0_0 a s) ∧ Aside0 (Below w0.heap.size w0 w') ∧ Aside0 (KeepBut w w' g none))
  case atStart =>
    exact ⟨[], 0, s0_1, s0_2, rfl, H', ⟨Nat.le_refl _⟩, ⟨Kd.R_of_own (World.ownsRow_lit (base := w.heap.size) (e := 2) (size := 1) w #[] 0 (Nat.le_refl _) (by simp [maxLen]) rfl) (fun k hk => by simp [Value.ownBlock] at hk; omega)⟩, ⟨IsS74.alloc HI0.out _⟩, ⟨below_alloc HB.out _⟩, ⟨keep_alloc (KeepBut.refl _ _ _) _⟩⟩
  case round =>
    clear H' HI0 HB
    obtain ⟨out, i, a, s, rfl, HA, HK1, HO, HI, HB, HK⟩ := hrel
    cases gk with
    | zero => exact absurd HA.out (by simp [spec_l01DrawOf.l0])
    | succ k1 =>
      have H := HA.out
      clear HA
      simp only [spec_l01DrawOf.l0] at H
      by_cases c1 : i < a1
      · rw [if_pos c1] at H
        have c1b := decide_eq_true c1
        clear c1
        obtain ⟨⟨at_, a', s'⟩, h1, H⟩ := Option.bind_eq_some_iff.1 H
        dsimp only at H
        by_cases c2 : 0 ≤ at_
        · rw [if_pos c2] at H
          by_cases c3 : at_ ≤ (out.length : Int)
          · rw [if_pos c3] at H
            by_cases c4 : out.length < 8796093022207
            · rw [if_pos c4] at H
              have H' := Aside0.mk H
              have HN := Aside0.mk h1
              clear H h1
              obtain ⟨A, c, rfl, hle, _⟩ := Kd.R_reads HO.out
              obtain ⟨ys, hys⟩ : ∃ ys, ys = out.take at_.toNat := ⟨_, rfl⟩
              obtain ⟨zs, hzs⟩ : ∃ zs, zs = out.drop at_.toNat := ⟨_, rfl⟩
              have hly : ys.length = at_.toNat := by rw [hys, List.length_take]; omega
              have hlz : zs.length = out.length - at_.toNat := by rw [hzs, List.length_drop]
              rw [← hys, ← hzs] at H'
              have htake : ∀ W : World, (Instr.slice 24 (.slice A out.length c) none (some (.int .i64 at_)) none).run Try.prog W = .ok (.slice A ys.length c) W := by
                rw [hly]; exact cut_to 24 2 .i64 Try.underlying24 hii A out.length c at_ c2 c3 hle
              obtain ⟨A', hA'⟩ : ∃ A', A' = (if c = at_.toNat then A else A.map (·.add (at_.toNat * 1))) := ⟨_, rfl⟩
              have hdrop : ∀ W : World, (Instr.slice 24 (.slice A out.length c) (some (.int .i64 at_)) none none).run Try.prog W = .ok (.slice A' zs.length (c - at_.toNat)) W := by
                rw [hlz, hA']; exact cut_from 24 2 .i64 Try.underlying24 hii 1 hi1 A out.length c at_ c2 c3
              have HYC : Aside0 (ys.length ≤ c) := ⟨by omega⟩
              have HLY : Aside0 (ys.length < 8796093022207) := ⟨by omega⟩
              have HLZ : Aside0 (zs.length < 8796093022207) := ⟨by omega⟩
              have HOWN := Aside0.mk (own_same ys HLY.out)
              have HCT : Aside0 (∀ W, Kd.C (Kd.int .i64) W A out.length out → Kd.C (Kd.int .i64) W A ys.length ys) := ⟨fun W h => by rw [hys]; exact Kd.C_take h (by omega)⟩
              have HCD : Aside0 (∀ W, Kd.C (Kd.int .i64) W A out.length out → Kd.C (Kd.int .i64) W A' zs.length zs) := ⟨fun W h => by rw [hzs, hA']; exact Kd.C_drop h (by omega) hle⟩
              clear hys hzs hly hlz hA' c2 c3 c4 hle
              go_wp2_with (go_at_call 34; (with_reducible refine (spec_l01Next.calls g s0_0 a s _ at_ a' s' w0 _ ?side1 ?side2 HN.out).mono ?_); (case side1 => exact HI.out); (case side2 => exact HB.out); rintro e w5 ⟨rfl, hi, hb, hk⟩; have HI5 := Aside0.mk hi; have HB5 := Aside0.mk hb; have HK5 := Aside0.mk (KeepBut.trans HK.out hk (.inl rfl)); have HO5 := Aside0.mk (Kd.R_keep HO.out hk (fun _ h => h)); clear hi hb hk)
              have HI6 : Aside0 (IsS74 w0 w5.drew g s0_0 a' s') := ⟨IsS74.drew HI5.out⟩
              have HB6 : Aside0 (Below w0.heap.size w0 w5.drew) := ⟨below_drew1 HB5.out⟩
              have HK6 : Aside0 (KeepBut w w5.drew g none) := ⟨keep_drew HK5.out⟩
              have HO6 : Aside0 (Kd.R (Kd.int .i64) 2 w5.drew w.heap.size (fun k_ => k_ ≠ g) (.slice A out.length c) out) := ⟨Kd.R_drew HO5.out⟩
              have HYS := Aside0.mk (HCT.out w5.drew (Kd.R_reads' HO6.out).2.2)
              have HZS := Aside0.mk (HCD.out w5.drew (Kd.R_reads' HO6.out).2.2)
              clear HI5 HB5 HK5 HO5 HI HB HK HO HCT HCD HN
              go_wp2
              refine start_ (n := 12) (S := fun w' => True) (ds := []) #[false, false, false, false, false, false, false, false, false, false, false, false] (by kernel_rfl) rfl rfl trivial (fun hHeld => ?_)
              generalize w5.drew = w6 at HI6 HB6 HK6 HO6 HYS HZS ⊢
              refine pure_ (i := 0) (N := some 18) (v := ?_) (a' := ?_) #[true, false, false, false, false, false, false, false, false, false, false, false] rfl rfl (by kernel_rfl) (fun _ _ _ h => h) (Or.inl ⟨by rfl, ?_⟩) ?_ ?_
              rotate_left
              · intro w'
                go_simp
                with_reducible rfl
              rotate_left
              · simp only [Act.put, List.setIfInBounds_toArray, List.set_cons_zero, List.set_cons_succ, i64_w, i32_w]
                rfl
              refine pure_ (i := 1) (N := some 19) (v := ?_) (a' := ?_) #[true, true, false, false, false, false, false, false, false, false, false, false] rfl rfl (by kernel_rfl) (fun _ _ _ h => h) (Or.inl ⟨by rfl, ?_⟩) ?_ ?_
              rotate_left
              · intro w'
                go_simp
                with_reducible rfl
              rotate_left
              · simp only [Act.put, List.setIfInBounds_toArray, List.set_cons_zero, List.set_cons_succ, i64_w, i32_w]
                rfl
              refine pure_ (i := 2) (N := some 20) (v := ?_) (a' := ?_) #[true, true, true, false, false, false, false, false, false, false, false, false] rfl rfl (by kernel_rfl) (fun _ _ _ h => h) (Or.inl ⟨by rfl, ?_⟩) ?_ ?_
              rotate_left
              · intro w'
                go_simp
                with_reducible rfl
              rotate_left
              · simp only [Act.put, List.setIfInBounds_toArray, List.set_cons_zero, List.set_cons_succ, i64_w, i32_w]
                rfl
              refine pure_ (i := 4) (N := some 22) (v := ?_) (a' := ?_) #[true, true, true, false, true, false, false, false, false, false, false, false] rfl rfl (by kernel_rfl) (fun _ _ _ h => h) (Or.inl ⟨by rfl, ?_⟩) ?_ ?_
              rotate_left
              · intro w'
                go_simp
                with_reducible rfl
              rotate_left
              · simp only [Act.put, List.setIfInBounds_toArray, List.set_cons_zero, List.set_cons_succ, i64_w, i32_w]
                rfl
              refine pure_ (i := 7) (N := some 25) (v := ?_) (a' := ?_) #[true, true, true, false, true, false, false, true, false, false, false, false] rfl rfl (by kernel_rfl) (fun _ _ _ h => h) (Or.inl ⟨by rfl, ?_⟩) ?_ ?_
              rotate_left
              · intro w'
                go_simp
                with_reducible rfl
              rotate_left
              · simp only [Act.put, List.setIfInBounds_toArray, List.set_cons_zero, List.set_cons_succ, i64_w, i32_w]
                rfl
              refine pure_ (i := 8) (N := some 26) (v := ?_) (a' := ?_) #[true, true, true, false, true, false, false, true, true, false, false, false] rfl rfl (by kernel_rfl) (fun _ _ _ h => h) (Or.inl ⟨by rfl, ?_⟩) ?_ ?_
              rotate_left
              · intro w'
                go_simp
                with_reducible rfl
              rotate_left
              · simp only [Act.put, List.setIfInBounds_toArray, List.set_cons_zero, List.set_cons_succ, i64_w, i32_w]
                rfl
              refine pure_ (i := 9) (N := some 27) (v := ?_) (a' := ?_) #[true, true, true, false, true, false, false, true, true, true, false, false] rfl rfl (by kernel_rfl) (fun _ _ _ h => h) (Or.inl ⟨by rfl, ?_⟩) ?_ ?_
              rotate_left
              · intro w'
                go_simp
                with_reducible rfl
              rotate_left
              · simp only [Act.put, List.setIfInBounds_toArray, List.set_cons_zero, List.set_cons_succ, i64_w, i32_w]
                rfl
              refine join_ (σ := Value × Nat) 3 #[true, true, true, true, true, true, false, true, true, true, false, false] (fun s => [(21, s.1), (23, .slice (some ⟨s.2, 0, none⟩) 1 1)]) (fun s w' => Kd.R (Kd.int .i64) 2 w' w6.heap.size (fun _ => True) s.1 ys ∧ w'.heap[s.2]? = some (.cells #[.int .i64 i] 2 (0, 0)) ∧ some s.2 ≠ s.1.ownBlock ∧ w6.heap.size ≤ s.2 ∧ Below w6.heap.size w6 w') ?_ ?_
              rotate_left
              · intro hCont
                refine two_ (i := 3) (j := 5) (Ni := some 21) (Nj := some 23) #[true, true, true, true, true, false, false, true, true, true, false, false] #[true, true, true, false, true, true, false, true, true, true, false, false] rfl rfl rfl rfl (by kernel_rfl) (by decide) (by decide) (fun K hK => ?_) (fun K hK => ?_)
                · skip
                  refine goes_ Try.func60 (by kernel_rfl) rfl #[.slice A ys.length c] (by rfl) rfl rfl (by simp only [List.map_toArray, List.map_cons, List.map_nil]; rfl) ?_
                  with_reducible refine (spec_l01Own.calls _ _ ys ys _ ?side1 ?side2 HOWN.out).mono ?_
                  case side1 => exact HYS.out
                  case side2 => exact HYC.out
                  rintro e w71 ⟨v21, rfl, hv, hb⟩
                  refine ⟨_, rfl, ?_⟩
                  refine hK.out _ _ trivial (fun hHeld => ?_)
                  clear hK K
                  refine norm_ (a' := ?_) ?_ ?_
                  rotate_left
                  · show Act.put _ (some 21) _ = _
                    simp only [Act.put, List.setIfInBounds_toArray, List.set_cons_zero, List.set_cons_succ, i64_w, i32_w]
                    rfl
                  refine one_ (i := 5) (N := some 23) #[true, true, true, true, true, true, false, true, true, true, false, false] rfl rfl (by kernel_rfl) (by decide) (fun K hK => ?_)
                  refine value_ (w1 := ?_) (v := ?_) (by rfl) rfl ?_ ?_
                  rotate_left 2
                  · go_simp
                    constructor
                    · rfl
                    · rfl
                  refine hK.out _ _ trivial (fun hHeld => ?_)
                  clear hK K
                  refine norm_ (a' := ?_) ?_ ?_
                  rotate_left
                  · show Act.put _ (some 23) _ = _
                    simp only [Act.put, List.setIfInBounds_toArray, List.set_cons_zero, List.set_cons_succ, i64_w, i32_w]
                    rfl
                  exact norm_ (by simp only [putAll, Act.put, List.setIfInBounds_toArray, List.set_cons_zero, List.set_cons_succ]) (hCont ⟨v21, w71.heap.size⟩ _ ⟨Kd.R_alloc hv _, blk_new _ _, fun e_ => by have := (Kd.R_bound hv).1 _ e_.symm; omega, hb.size, below_alloc hb _⟩)
                · skip
                  refine value_ (w1 := ?_) (v := ?_) (by rfl) rfl ?_ ?_
                  rotate_left 2
                  · go_simp
                    constructor
                    · rfl
                    · rfl
                  refine hK.out _ _ trivial (fun hHeld => ?_)
                  clear hK K
                  refine norm_ (a' := ?_) ?_ ?_
                  rotate_left
                  · show Act.put _ (some 23) _ = _
                    simp only [Act.put, List.setIfInBounds_toArray, List.set_cons_zero, List.set_cons_succ, i64_w, i32_w]
                    rfl
                  refine one_ (i := 3) (N := some 21) #[true, true, true, true, true, true, false, true, true, true, false, false] rfl rfl (by kernel_rfl) (by decide) (fun K hK => ?_)
                  refine goes_ Try.func60 (by kernel_rfl) rfl #[.slice A ys.length c] (by rfl) rfl rfl (by simp only [List.map_toArray, List.map_cons, List.map_nil]; rfl) ?_
                  with_reducible refine (spec_l01Own.calls _ _ ys ys _ ?side1 ?side2 HOWN.out).mono ?_
                  case side1 => exact Kd.C_alloc HYS.out _
                  case side2 => exact HYC.out
                  rintro e w72 ⟨v21, rfl, hv, hb⟩
                  refine ⟨_, rfl, ?_⟩
                  refine hK.out _ _ trivial (fun hHeld => ?_)
                  clear hK K
                  refine norm_ (a' := ?_) ?_ ?_
                  rotate_left
                  · show Act.put _ (some 21) _ = _
                    simp only [Act.put, List.setIfInBounds_toArray, List.set_cons_zero, List.set_cons_succ, i64_w, i32_w]
                    rfl
                  exact norm_ (by simp only [putAll, Act.put, List.setIfInBounds_toArray, List.set_cons_zero, List.set_cons_succ]) (hCont ⟨v21, w6.heap.size⟩ _ ⟨Kd.R_lower hv (by simp), blk_below (blk_new _ _) hb, fun e_ => by have := (Kd.R_bound hv).1 _ e_.symm; simp at this; omega, Nat.le_refl _, below_then (below_alloc (Below.refl _ _) _) (by simp) hb⟩)
              rintro ⟨v21, b23⟩ w7 ⟨hv, hb, hne, hge, hB7⟩
              have hHeld : True := trivial
              refine norm_ (a' := ?_) ?_ ?_
              rotate_left
              · simp only [putAll, Act.put, List.setIfInBounds_toArray, List.set_cons_zero, List.set_cons_succ]
                rfl
              refine one_ (i := 6) (N := some 24) #[true, true, true, true, true, true, true, true, true, true, false, false] rfl rfl (by kernel_rfl) (by decide) (fun K hK => ?_)
              refine Kd.R_append_rows_step (Kd.int .i64) (w0 := w6) w6.heap.size (by rfl) (.tmp 21) (.tmp 23) 24 2 (.int .i64 0) 8 rfl Try.underlying24 info2 rfl (by decide) (by omega) v21 ys [i] _ _ _ (fun _ => True) (fun _ => False) rfl rfl ?aO ?aR (fun _ _ h => h) (fun _ h => h.elim) ?aF ?aB ?aS ?aL ?_
              case aO => exact hv
              case aR => exact (Kd.C_of_reads (enc := Value.int .i64) (d := (0 : Int)) (h1 := fun _ => rfl) (xs := [i]) ⟨rfl, by simp, fun _ => ⟨_, rfl, fun j hj => by obtain rfl : j = 0 := (by omega); exact (by simpa [Addr.add] using (blk_cell hb 0))⟩⟩)
              case aF => exact fun _ _ => trivial
              case aB => exact hB7
              case aS => exact hB7.size
              case aL => have := HLY.out; have := HLZ.out; simp; omega
              intro v24 w8 hv8 hB8 _ _
              refine hK.out _ _ trivial (fun hHeld => ?_)
              clear hK K
              refine norm_ (a' := ?_) ?_ ?_
              rotate_left
              · show Act.put _ (some 24) _ = _
                simp only [Act.put, List.setIfInBounds_toArray, List.set_cons_zero, List.set_cons_succ, i64_w, i32_w]
                rfl
              refine one_ (i := 10) (N := some 28) #[true, true, true, true, true, true, true, true, true, true, true, false] rfl rfl (by kernel_rfl) (by decide) (fun K hK => ?_)
              refine Kd.R_append_rows_step (Kd.int .i64) (w0 := w6) w6.heap.size (by rfl) (.tmp 24) (.tmp 27) 24 2 (.int .i64 0) 8 rfl Try.underlying24 info2 rfl (by decide) (by omega) v24 (ys ++ [i]) zs _ _ _ (fun _ => True) (fun _ => False) rfl rfl ?aO ?aR (fun _ _ h => h) (fun _ h => h.elim) ?aF ?aB ?aS ?aL ?_
              case aO => exact hv8
              case aR => exact (Kd.C_below HZS.out hB8)
              case aF => exact fun _ _ => trivial
              case aB => exact hB8
              case aS => exact hB8.size
              case aL => have := HLY.out; have := HLZ.out; simp; omega
              intro v28 w9 hv9 hB9 _ _
              refine hK.out _ _ trivial (fun hHeld => ?_)
              clear hK K
              refine norm_ (a' := ?_) ?_ ?_
              rotate_left
              · show Act.put _ (some 28) _ = _
                simp only [Act.put, List.setIfInBounds_toArray, List.set_cons_zero, List.set_cons_succ, i64_w, i32_w]
                rfl
              refine pure_ (i := 11) (N := some 5) (v := ?_) (a' := ?_) #[true, true, true, true, true, true, true, true, true, true, true, true] rfl rfl (by kernel_rfl) (fun _ _ _ h => h) (Or.inl ⟨by rfl, ?_⟩) ?_ ?_
              rotate_left
              · intro w'
                go_simp
                with_reducible rfl
              rotate_left
              · simp only [Act.put, List.setIfInBounds_toArray, List.set_cons_zero, List.set_cons_succ, i64_w, i32_w]
                rfl
              refine done_ (by kernel_rfl) ?_
              go_wp2
              go_roundg k1
              case measure => have := HK1.out; omega
              case rel => exact ⟨ys ++ [i] ++ zs, _, a', s', rfl, H', ⟨by have := HK1.out; omega⟩, ⟨Kd.R_mono (Kd.R_lower (Kd.R_bound hv9) HK6.out.1) (fun k_ hk_ e_ => by have h1_ := hk_.2.1; have h2_ := HK6.out.1; omega)⟩, ⟨IsS74.below HI6.out hB9⟩, ⟨below_then HB6.out HB6.out.size hB9⟩, ⟨KeepBut.trans HK6.out (KeepBut.of_below hB9 _ none) (.inl rfl)⟩⟩
            · rw [if_neg c4] at H
              exact absurd H (by simp)
          · rw [if_neg c3] at H
            exact absurd H (by simp)
        · rw [if_neg c2] at H
          exact absurd H (by simp)
      · rw [if_neg c1] at H
        have c1b := decide_eq_false c1
        clear c1
        simp only [Option.some.injEq, Prod.mk.injEq] at H
        obtain ⟨rfl, rfl, rfl⟩ := H
        go_wp2
        go_ret
        exact ⟨_, rfl, Kd.R_mono HO.out (fun _ _ => trivial), HI.out, HB.out, HK.out⟩
end Go.Proofs.Ytkcbihfhbojckaa.X
