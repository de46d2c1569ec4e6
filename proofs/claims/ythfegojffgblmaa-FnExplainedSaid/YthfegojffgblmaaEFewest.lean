/- The fewest faults of the stations from one on, counted with a memory of what is known (a map): walked. No conditions. -/
import Derived.Test.YthfegojffgblmaaENext
namespace Go.Proofs.Ythfegojffgblmaa.X
open Go.RowKit Go.Maps Go.Proofs.YthfegojffgblmaaW.PrintWords Go.Proofs.YthfegojffgblmaaW.PrintLast Go.Proofs.YthfegojffgblmaaW.PrintMore
set_option linter.unusedVariables false
set_option linter.unusedSimpArgs false

/-- What fewest answers: as a word, so that the parts can be proved apart. -/
def FewAns (block : List Int) (N : Nat) (w0 : World) (m : Nat) (d s pl q : Nat) (P : Nat → Nat) (w : World) (e : Ending) (w' : World) : Prop :=
  ∃ q' D' v, e = .returned (.int .i64 v) ∧ v = ((few block d s pl : Nat) : Int) ∧ Below w0.heap.size w0 w' ∧ KeepBut w w' m none ∧ OM w' m q' D' ∧ Known block N D' ∧ q' ≤ q + P d

set_option maxHeartbeats 8000000 in
set_option maxRecDepth 100000 in
theorem fewest_base (block : List Int) (N : Nat) (A : Option Addr) (c g m : Nat) (w0 : World) (hC : Kd.C (Kd.int .i64) w0 A block.length block) (hc : block.length ≤ c) (n : Int) (hn : n = (N : Int)) (P : Nat → Nat) (HP : Aside0 (∀ d, P (d + 1) = 6 * P d ∧ 1 ≤ P d))
    (s pl q : Nat) (D : DM) (w : World) (si pi : Int) (es : si = (s : Int)) (ep : pi = (pl : Int)) (hd : s + 0 = N) (hB : Below w0.heap.size w0 w) (hg : w.heap[g]? = some (.cells #[.int .i64 n, .slice A block.length c, .map (some m)] 65 (0, 0))) (hO : OM w m q D) (hK : Known block N D) :
    Calls Try.prog 46 #[.pointer (some ⟨g, 0, none⟩), .int .i64 si, .int .i64 pi] w (FewAns block N w0 m 0 s pl q P w) := by
  have hx0 := blk_cell hg 0
  have hx1 := blk_cell hg 1
  simp only [List.getElem?_toArray, List.getElem?_cons_zero, List.getElem?_cons_succ] at hx0 hx1
  have HC := Aside0.mk (Kd.C_below hC hB)
  have HO := Aside0.mk hO
  have HKn := Aside0.mk hK
  have HB := Aside0.mk hB
  have hsb : (si == n) = true := by simp; omega
  clear hg hO hK hB hC
  by_cases h1 : pl = block.length
  · have h1b : (pi == (block.length : Int)) = true := by simp; omega
    have hres : Aside0 (((few block 0 s pl : Nat) : Int) = 0) := ⟨by simp [few, h1]⟩
    clear h1 hd es ep hn
    go_enter Try.func46, Try.ntmps46
    go_wp2_with (go_at_call 71; (with_reducible refine (impl_length_int64.calls A c block _ _ ?side1 ?side2 rfl).mono ?_); (case side1 => exact HC.out); (case side2 => exact hc); rintro e w' ⟨rfl, ⟨nd2, rfl⟩⟩)
    go_ret
    exact ⟨q, D, _, rfl, hres.out.symm, pw_below_drewN HB.out _, keep_drewN (KeepBut.refl _ _ _) _, HO.out, HKn.out, Nat.le_add_right _ _⟩
  · have h1b : (pi == (block.length : Int)) = false := by simp; omega
    have hres : Aside0 (((few block 0 s pl : Nat) : Int) = 1000000000) := ⟨by simp [few, h1]⟩
    clear h1 hd es ep hn
    go_enter Try.func46, Try.ntmps46
    go_wp2_with (go_at_call 71; (with_reducible refine (impl_length_int64.calls A c block _ _ ?side1 ?side2 rfl).mono ?_); (case side1 => exact HC.out); (case side2 => exact hc); rintro e w' ⟨rfl, ⟨nd2, rfl⟩⟩)
    go_ret
    exact ⟨q, D, _, rfl, hres.out.symm, pw_below_drewN HB.out _, keep_drewN (KeepBut.refl _ _ _) _, HO.out, HKn.out, Nat.le_add_right _ _⟩

set_option maxHeartbeats 8000000 in
set_option maxRecDepth 100000 in
theorem fewest_step (block : List Int) (N : Nat) (A : Option Addr) (c g m : Nat) (w0 : World) (hC : Kd.C (Kd.int .i64) w0 A block.length block) (hc : block.length ≤ c) (hl : block.length ≤ 1000) (hb : ∀ j : Nat, j < block.length → -100 ≤ rd block j ∧ rd block j ≤ 100) (hN : N ≤ 100) (hg0 : w0.heap.size ≤ g) (hm0 : w0.heap.size ≤ m) (hgm : g ≠ m) (n : Int) (hn : n = (N : Int)) (P : Nat → Nat) (M : Nat) (HP : Aside0 (∀ d, P (d + 1) = 6 * P d ∧ 1 ≤ P d)) (HM : Aside0 (M ≤ 1000000000000)) (d : Nat)
    (ih : ∀ (s pl q : Nat) (D : DM) (w : World) (si pi : Int), si = (s : Int) → pi = (pl : Int) → s + d = N → pl ≤ block.length → Below w0.heap.size w0 w → w.heap[g]? = some (.cells #[.int .i64 n, .slice A block.length c, .map (some m)] 65 (0, 0)) → OM w m q D → Known block N D → q + P d ≤ M →
      Calls Try.prog 46 #[.pointer (some ⟨g, 0, none⟩), .int .i64 si, .int .i64 pi] w (FewAns block N w0 m d s pl q P w))
    (s pl q : Nat) (D : DM) (w : World) (si pi : Int) (es : si = (s : Int)) (ep : pi = (pl : Int)) (hd : s + (d + 1) = N) (hpl : pl ≤ block.length) (hB : Below w0.heap.size w0 w) (hg : w.heap[g]? = some (.cells #[.int .i64 n, .slice A block.length c, .map (some m)] 65 (0, 0))) (hO : OM w m q D) (hK : Known block N D) (hq0 : q + P (d + 1) ≤ M) :
    Calls Try.prog 46 #[.pointer (some ⟨g, 0, none⟩), .int .i64 si, .int .i64 pi] w (FewAns block N w0 m (d + 1) s pl q P w) := by
  have HQ0 := Aside0.mk hq0
  clear hq0
  have hx0 := blk_cell hg 0
  have hx2 := blk_cell hg 2
  simp only [List.getElem?_toArray, List.getElem?_cons_zero, List.getElem?_cons_succ] at hx0 hx2
  have HO := Aside0.mk hO
  have HKn := Aside0.mk hK
  have HB := Aside0.mk hB
  have HG := Aside0.mk hg
  have IH := Aside0.mk ih
  have HCc := Aside0.mk hC
  have HBb := Aside0.mk hb
  have hsb : (si == n) = false := by simp; omega
  have hkey := key_at s pl si pi es ep (by omega) (by omega)
  have hglt := blk_lt hg
  have hmlt := hO.lt
  have HES := Aside0.mk es
  have HEP := Aside0.mk ep
  have HPL := Aside0.mk hpl
  have HLL := Aside0.mk hl
  have HNN := Aside0.mk hN
  have HSD := Aside0.mk hd
  have HNW := Aside0.mk (show s ≤ N ∧ pl ≤ 1000 ∧ N - s = d + 1 ∧ s ≤ 100 ∧ s + 1 + d = N from by omega)
  have HNE := Aside0.mk (show w.heap.size ≠ m from by omega)
  clear hg hO hK hB ih hC hb es ep hpl hl hd hN hn hmlt
  obtain ⟨W1, hW1⟩ : ∃ W1, W1 = w.alloc (Obj.cells #[Value.int .i64 si, Value.int .i64 pi] 88 (0, 0)) := ⟨_, rfl⟩
  have HO1 : Aside0 (OM W1 m q D) := ⟨by rw [hW1]; exact HO.out.alloc _⟩
  obtain ⟨v, ps, hrun, hv⟩ := HO1.out.look_ok law88 und63 (zero2 _) (plainElem_int und2 (by decide)) hkey
  obtain ⟨fv, rfl, hfv, hfw⟩ := plainElem_int_inv und2 hv
  have HAT : Aside0 (D.atKey (KL s pl) (i64L 0) = i64L fv) := ⟨congrArg Prod.fst hfv⟩
  have hrun' : ∀ n, (Instr.lookup 63 (.map (some m)) (.agg #[.int .i64 si, .int .i64 pi]) true).run Try.prog (W1.drewN n) = .ok (.tuple #[.int .i64 fv, .bool (Maps.has D (KL s pl))]) (W1.drewN n) := fun n => by
    obtain ⟨v', ps', hrun2, hv2⟩ := (show OM (W1.drewN n) m q D from HO1.out).look_ok law88 und63 (zero2 _) (plainElem_int und2 (by decide)) hkey
    obtain ⟨fv', rfl, hfv', _⟩ := plainElem_int_inv und2 hv2
    have h1 := (congrArg Prod.fst hfv').symm.trans HAT.out
    simp at h1
    rw [hrun2, h1]
  clear hv hfv hfw
  by_cases hh : Maps.has D (KL s pl) = true
  · rw [hh] at hrun'
    have HF : Aside0 ((fv : Int) = ((few block (d + 1) s pl : Nat) : Int)) := ⟨by
      have h1 := HKn.out.2 s pl HNW.out.1 HNW.out.2.1 hh
      rw [HAT.out, HNW.out.2.2.1] at h1
      simpa using h1⟩
    have HB2 : Aside0 (Below w0.heap.size w0 W1) := ⟨by rw [hW1]; exact below_then HB.out HB.out.size (below_alloc (Below.refl _ _) _)⟩
    have HK2 : Aside0 (KeepBut w W1 m none) := ⟨by rw [hW1]; exact keep_alloc (KeepBut.refl _ _ _) _⟩
    clear hkey
    go_enter Try.func46, Try.ntmps46
    go_wp2_with (fail)
    rw [← hW1]
    refine wp_region_quiet_lit (by kernel_rfl) (by kernel_rfl) ?_
    repeat (go_big_quiet_step (fail))
    refine quiet_lookup (by kernel_rfl) rfl rfl rfl (fun W hW => by obtain ⟨n_, rfl⟩ := hW; exact hrun' n_) ?_
    go_simp
    repeat (go_big_quiet_step (fail))
    refine wpQuiet_nil ?_
    intro nq1
    rw [← hW1]
    clear hrun hrun' hx0 hx2 hW1
    go_wp2
    go_ret
    exact ⟨q, D, _, rfl, HF.out, pw_below_drewN HB2.out _, keep_drewN HK2.out _, HO1.out, HKn.out, Nat.le_add_right _ _⟩
  · have hhb : Maps.has D (KL s pl) = false := by simpa using hh
    rw [hhb] at hrun'
    have HKEY := Aside0.mk hkey
    clear hkey
    go_enter Try.func46, Try.ntmps46
    go_wp2_with (fail)
    rw [← hW1]
    refine wp_region_quiet_lit (by kernel_rfl) (by kernel_rfl) ?_
    repeat (go_big_quiet_step (fail))
    refine quiet_lookup (by kernel_rfl) rfl rfl rfl (fun W hW => by obtain ⟨n_, rfl⟩ := hW; exact hrun' n_) ?_
    go_simp
    repeat (go_big_quiet_step (fail))
    refine wpQuiet_nil ?_
    intro nq1
    rw [← hW1]
    clear hrun hrun' hx0 hx2
    have HB2 : Aside0 (Below w0.heap.size w0 (W1.drewN nq1)) := ⟨pw_below_drewN (by rw [hW1]; exact below_then HB.out HB.out.size (below_alloc (Below.refl _ _) _)) _⟩
    have HK2 : Aside0 (KeepBut w (W1.drewN nq1) m none) := ⟨keep_drewN (by rw [hW1]; exact keep_alloc (KeepBut.refl _ _ _) _) _⟩
    have HO2 : Aside0 (OM (W1.drewN nq1) m q D) := ⟨HO1.out⟩
    have HY2 : Aside0 ((W1.drewN nq1).heap[w.heap.size]? = some (.cells #[.int .i64 si, .int .i64 pi] 88 (0, 0))) := ⟨by rw [hW1]; exact blk_new _ _⟩
    clear HO HO1
    generalize W1.drewN nq1 = W2 at HB2 HK2 HO2 HY2 ⊢
    clear hW1 HAT hh hhb
    go_wp2
    go_loopg [10, 40] 5 (fun kq v10 v40 w' => ∃ (kd q' : Nat) (D' : DM) (u x : Int), v10 = .int .i64 u ∧ v40 = .int .i64 x ∧ Aside0 (kd + kq = 5) ∧ Aside0 (x = (kd : Int)) ∧ Aside0 (u = ((upto block (fun e => few block d (s + 1) e) s pl kd : Nat) : Int)) ∧ Aside0 (Below w0.heap.size w0 w') ∧ Aside0 (KeepBut w w' m none) ∧ Aside0 (OM w' m q' D') ∧ Aside0 (Known block N D') ∧ Aside0 (q' ≤ q + kd * P d) ∧ Aside0 (w'.heap[w.heap.size]? = some (.cells #[.int .i64 si, .int .i64 pi] 88 (0, 0))))
    case atStart => exact ⟨0, q, D, _, _, rfl, rfl, ⟨rfl⟩, ⟨rfl⟩, ⟨rfl⟩, HB2, HK2, HO2, HKn, ⟨Nat.le_add_right _ _⟩, HY2⟩
    case round =>
      clear HB2 HK2 HO2 HY2 HKn
      obtain ⟨kd, q', D', u, x, rfl, rfl, HKQ, HX, HU0, HBr, HKr, HOr, HDr, HQr, HYr⟩ := hrel
      cases gk with
      | zero =>
        have HKD : Aside0 (kd = 5) := ⟨by have := HKQ.out; omega⟩
        have hc5 : decide (x < 5) = false := decide_eq_false (by have := HKD.out; have := HX.out; omega)
        have hgr := KeepBut.blk HKr.out HG.out hgm (by simp)
        have hx2r := blk_cell hgr 2
        have hy0r := blk_cell HYr.out 0
        have hy1r := blk_cell HYr.out 1
        simp only [List.getElem?_toArray, List.getElem?_cons_zero, List.getElem?_cons_succ] at hx2r hy0r hy1r
        clear hgr
        go_wp2
        go_still_tail 6, (by kernel_rfl)
        have hdr : OM wr.drew m q' D' := HOr.out
        have HBd : Aside0 (Below w0.heap.size w0 wr.drew) := ⟨below_drew1 HBr.out⟩
        have HKd : Aside0 (KeepBut w wr.drew m none) := ⟨keep_drew HKr.out⟩
        change wpList _ _ _ _ _ wr.drew
        generalize wr.drew = w9 at hdr HBd HKd ⊢
        have HVAL : Aside0 (u = ((few block (d + 1) s pl : Nat) : Int)) := ⟨by have h1 := HU0.out; rw [HKD.out] at h1; exact h1⟩
        have hwf := few_wf u _ HVAL.out (few_le _ _ _ _)
        have hqm : q' < maxLen := by
          have h1 := HQr.out
          have h0 := HQ0.out
          have hm_ := HM.out
          have h6 : P (d + 1) = 6 * P d := (HP.out d).1
          rw [HKD.out] at h1
          simp only [maxLen]
          omega
        have hkey := HKEY.out
        go_wp2_with (at_mapUpdate; refine wpList_mapUpdate_in _ rfl _ _ _ 63 rfl 88 2 law88 und63 (plainElem Try.prog 2) m q' D' rfl hdr hqm _ _ (KL s pl) rfl rfl hkey _ [] (plainElem_int und2 hwf) ?_; intro w10 hown10 hturn10)
        go_ret
        refine ⟨q' + 1, D'.put (KL s pl) (i64L u), u, rfl, HVAL.out, ?_, ?_, hown10, ?_, ?_⟩
        · exact pw_below_grown HBd.out (some m) HBd.out.size hturn10.grown (fun k hk => by cases hk; exact hm0)
        · exact KeepBut.trans HKd.out (keep_turned hturn10.grown) (.inl rfl)
        · have := HDr.out.put s pl HNW.out.1 HNN.out HNW.out.2.1
          rw [HVAL.out]
          rwa [HNW.out.2.2.1] at this
        · have h1 := HQr.out
          have h6 : P (d + 1) = 6 * P d := (HP.out d).1
          have h8 : 1 ≤ P d := (HP.out d).2
          rw [HKD.out] at h1
          omega
      | succ k1 =>
        have HKB : Aside0 (kd ≤ 4 ∧ kd + 1 + k1 = 5) := ⟨by have := HKQ.out; omega⟩
        have c1b : decide (x < 5) = true := decide_eq_true (by have := HKB.out; have := HX.out; omega)
        have HQ6 : Aside0 (q' + P d ≤ M) := ⟨by
          have h7 : kd * P d ≤ 4 * P d := Nat.mul_le_mul_right _ HKB.out.1
          have h6 : P (d + 1) = 6 * P d := (HP.out d).1
          have := HQr.out
          have := HQ0.out
          omega⟩
        have HQ5 : Aside0 (∀ q2 : Nat, q2 ≤ q' + P d → q2 ≤ q + (kd + 1) * P d) := ⟨fun q2 h => by
          have h8 : (kd + 1) * P d = kd * P d + P d := by rw [Nat.add_mul, Nat.one_mul]
          have := HQr.out
          omega⟩
        have HXS := Aside0.mk (wr_one x kd HX.out (by have := HKB.out; omega))
        have hgr := Aside0.mk (KeepBut.blk HKr.out HG.out hgm (by simp))
        have HCr := Aside0.mk (Kd.C_below HCc.out HBr.out)
        rcases hn : nx block s pl kd with _ | e2
        · have HNV : Aside0 ((-1 : Int) = nxv (nx block s pl kd)) := ⟨by rw [hn]; rfl⟩
          have HU : Aside0 (upto block (fun e => few block d (s + 1) e) s pl (kd + 1) = upto block (fun e => few block d (s + 1) e) s pl kd) := ⟨by simp only [upto, hn]⟩
          clear hn
          go_wp2_with (go_at_call 47; (with_reducible refine (next_calls_v block n A c g m s pl kd _ _ _ (-1) _ HES.out HEP.out HX.out HNV.out hgr.out HCr.out hc HLL.out HNW.out.2.2.2.1 HPL.out HKB.out.1 HBb.out).mono ?_); rintro e w5 ⟨rfl, hb5⟩; have HB5 := Aside0.mk hb5; clear hb5)
          go_roundg k1
          case measure => exact Nat.lt_succ_self _
          case rel => exact ⟨kd + 1, q', D', _, _, rfl, rfl, ⟨HKB.out.2⟩, HXS, ⟨HU0.out.trans (congrArg Nat.cast HU.out.symm)⟩, ⟨below_then HBr.out HBr.out.size HB5.out⟩, ⟨KeepBut.trans HKr.out (KeepBut.of_below HB5.out _ none) (.inl rfl)⟩, ⟨HOr.out.keep HB5.out⟩, HDr, ⟨HQ5.out q' (Nat.le_add_right _ _)⟩, ⟨blk_below HYr.out HB5.out⟩⟩
        · obtain ⟨ei, hei⟩ : ∃ ei : Int, ei = (e2 : Int) := ⟨_, rfl⟩
          have HNV : Aside0 (ei = nxv (nx block s pl kd)) := ⟨by rw [hn, hei]; rfl⟩
          have HE2 := Aside0.mk (nx_le hn)
          have HEI := Aside0.mk hei
          have hnn : decide (0 ≤ ei) = true := decide_eq_true (by omega)
          have HU : Aside0 (upto block (fun e => few block d (s + 1) e) s pl (kd + 1) = min (upto block (fun e => few block d (s + 1) e) s pl kd) (few block d (s + 1) e2 + if kd = 0 then 0 else 1)) := ⟨by simp only [upto, hn]⟩
          clear hn hei
          have HSI := Aside0.mk (wr_one si s HES.out (by have := HNW.out; omega))
          obtain ⟨ti, hti⟩ : ∃ ti : Int, ti = (if kd = 0 then 0 else 1 : Int) := ⟨_, rfl⟩
          have HT : Aside0 (impl_toInt.f (decide (0 < x)) = some ti) := ⟨by rw [hti]; exact tI_ok x kd HX.out⟩
          have HTI : Aside0 (ti = ((if kd = 0 then 0 else 1 : Nat) : Int)) := ⟨by rw [hti]; split <;> rfl⟩
          clear hti
          go_wp2_with (first
            | (go_at_call 47; (with_reducible refine (next_calls_v block n A c g m s pl kd _ _ _ ei _ HES.out HEP.out HX.out HNV.out hgr.out HCr.out hc HLL.out HNW.out.2.2.2.1 HPL.out HKB.out.1 HBb.out).mono ?_); rintro e w5 ⟨rfl, hb5⟩; have HB5 := Aside0.mk hb5; clear hb5; have hcall := Aside0.mk (IH.out (s + 1) e2 q' D' w5 (wrap64 (si + 1)) ei HSI.out HEI.out HNW.out.2.2.2.2 HE2.out (below_then HBr.out HBr.out.size HB5.out) (blk_below hgr.out HB5.out) (HOr.out.keep HB5.out) HDr.out HQ6.out))
            | (go_at_call 46; (with_reducible refine hcall.out.mono ?_); rintro e w6 ⟨q2, D2, fi, rfl, hfi, hb6, hk6, ho6, hd6, hq6⟩; have HFI := Aside0.mk hfi; have HB6 := Aside0.mk hb6; have HK6 := Aside0.mk hk6; have HO6 := Aside0.mk ho6; have HD6 := Aside0.mk hd6; have HQ2 := Aside0.mk hq6; clear hb6 hk6 ho6 hd6 hq6 hfi; obtain ⟨yi, hyi⟩ : ∃ yi : Int, wrap64 (fi + ti) = yi := ⟨_, rfl⟩; have HYI := Aside0.mk hyi)
            | (go_at_call 42; (with_reducible refine (impl_toInt.calls _ ti _ HT.out).mono ?_); rintro e w7 ⟨rfl, ⟨nd7, rfl⟩⟩))
          · rename_i hmin
            have HYU : Aside0 (yi = ((upto block (fun e => few block d (s + 1) e) s pl (kd + 1) : Nat) : Int)) := ⟨by
              have h1 := HYI.out
              rw [wr_add fi ti _ _ HFI.out HTI.out (few_le _ _ _ _) (by split <;> omega)] at h1
              have h2 := HU0.out
              rw [HU.out, ← h1]
              congr 1
              refine (Nat.min_eq_right ?_).symm
              omega⟩
            have HY7 : Aside0 (w6.heap[w.heap.size]? = some (.cells #[.int .i64 si, .int .i64 pi] 88 (0, 0))) := ⟨KeepBut.blk HK6.out (blk_below HYr.out HB5.out) HNE.out (by simp)⟩
            go_roundg k1
            case measure => exact Nat.lt_succ_self _
            case rel => exact ⟨kd + 1, q2, D2, _, _, rfl, rfl, ⟨HKB.out.2⟩, HXS, HYU, ⟨pw_below_drewN HB6.out _⟩, ⟨keep_drewN (KeepBut.trans (KeepBut.trans HKr.out (KeepBut.of_below HB5.out _ none) (.inl rfl)) HK6.out (.inl rfl)) _⟩, ⟨HO6.out⟩, HD6, ⟨HQ5.out q2 HQ2.out⟩, ⟨HY7.out⟩⟩
          · rename_i hmin
            have HYU : Aside0 (u = ((upto block (fun e => few block d (s + 1) e) s pl (kd + 1) : Nat) : Int)) := ⟨by
              have h1 := HYI.out
              rw [wr_add fi ti _ _ HFI.out HTI.out (few_le _ _ _ _) (by split <;> omega)] at h1
              have h2 := HU0.out
              rw [HU.out, h2]
              congr 1
              refine (Nat.min_eq_left ?_).symm
              omega⟩
            have HY7 : Aside0 (w6.heap[w.heap.size]? = some (.cells #[.int .i64 si, .int .i64 pi] 88 (0, 0))) := ⟨KeepBut.blk HK6.out (blk_below HYr.out HB5.out) HNE.out (by simp)⟩
            go_roundg k1
            case measure => exact Nat.lt_succ_self _
            case rel => exact ⟨kd + 1, q2, D2, _, _, rfl, rfl, ⟨HKB.out.2⟩, HXS, HYU, ⟨pw_below_drewN HB6.out _⟩, ⟨keep_drewN (KeepBut.trans (KeepBut.trans HKr.out (KeepBut.of_below HB5.out _ none) (.inl rfl)) HK6.out (.inl rfl)) _⟩, ⟨HO6.out⟩, HD6, ⟨HQ5.out q2 HQ2.out⟩, ⟨HY7.out⟩⟩

theorem fewest_calls (block : List Int) (N : Nat) (A : Option Addr) (c g m : Nat) (w0 : World) (hC : Kd.C (Kd.int .i64) w0 A block.length block) (hc : block.length ≤ c) (hl : block.length ≤ 1000) (hb : ∀ j : Nat, j < block.length → -100 ≤ rd block j ∧ rd block j ≤ 100) (hN : N ≤ 100) (hg0 : w0.heap.size ≤ g) (hm0 : w0.heap.size ≤ m) (hgm : g ≠ m) (n : Int) (hn : n = (N : Int)) (P : Nat → Nat) (M : Nat) (HP : Aside0 (∀ d, P (d + 1) = 6 * P d ∧ 1 ≤ P d)) (HM : Aside0 (M ≤ 1000000000000)) (d : Nat) :
    ∀ (s pl q : Nat) (D : DM) (w : World) (si pi : Int), si = (s : Int) → pi = (pl : Int) → s + d = N → pl ≤ block.length → Below w0.heap.size w0 w → w.heap[g]? = some (.cells #[.int .i64 n, .slice A block.length c, .map (some m)] 65 (0, 0)) → OM w m q D → Known block N D → q + P d ≤ M →
    Calls Try.prog 46 #[.pointer (some ⟨g, 0, none⟩), .int .i64 si, .int .i64 pi] w (FewAns block N w0 m d s pl q P w) := by
  induction d with
  | zero => exact fun s pl q D w si pi es ep hd hpl hB hg hO hK hq => fewest_base block N A c g m w0 hC hc n hn P HP s pl q D w si pi es ep hd hB hg hO hK
  | succ d ih => exact fun s pl q D w si pi es ep hd hpl hB hg hO hK hq => fewest_step block N A c g m w0 hC hc hl hb hN hg0 hm0 hgm n hn P M HP HM d ih s pl q D w si pi es ep hd hpl hB hg hO hK hq
end Go.Proofs.Ythfegojffgblmaa.X
