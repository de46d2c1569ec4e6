/- FnExplained: for every code the answer is true: the best explanation leaves the block, and only the right block needs no fault; program and reference agree. No conditions. -/
import Derived.Test.YthfegojffgblmaaX12
import Derived.Test.YthfegojffgblmaaPDraw
import Derived.Test.YthfegojffgblmaaPureBooks
namespace Go.Proofs.Ythfegojffgblmaa.Pure
open Go.RowKit Go.Proofs.Ythfegojffgblmaa.X Go.Proofs.YthfegojffgblmaaW.PrintWords Go.Proofs.YthfegojffgblmaaW.PrintLast
set_option linter.unusedVariables false
set_option linter.unusedSimpArgs false

theorem spart_len (a b c : Int) : ∃ l, spec_l14Part.f a b c = some l ∧ l.length ≤ 2 := by
  unfold spec_l14Part.f
  split
  · exact ⟨_, rfl, by simp⟩
  split
  · exact ⟨_, rfl, by simp⟩
  split
  · exact ⟨_, rfl, by simp⟩
  split
  · exact ⟨_, rfl, by simp⟩
  exact ⟨_, rfl, by simp⟩
theorem draw_loop (c : List Int) (n : Int) (hn : 1 ≤ n ∧ n ≤ 6) (d : Nat) : ∀ (k i : Nat) (x5 : List Int) (a s : Int), (i : Int) + d = n → d < k → x5.length ≤ 2 * i → St c a s → ∃ n' bl a' s', spec_l14DrawBlock.l0 k n x5 (i : Int) c a s = some (n', bl, a', s') ∧ bl.length ≤ 40 := by
  induction d with
  | zero =>
    intro k i x5 a s h hk hx hs
    obtain ⟨k, rfl⟩ : ∃ m, k = m + 1 := ⟨k - 1, by omega⟩
    obtain ⟨r, a1, s1, e1, hs1, _⟩ := next_ok hs 20
    simp only [spec_l14DrawBlock.l0]
    rw [if_neg (by omega), e1, Option.bind_some]
    simp only
    by_cases c0 : r = 0
    · rw [if_pos c0]
      obtain ⟨p, a2, s2, e2, hs2, _⟩ := pick_ok hs1 ([0, n, wrap64 (n + 1), wrap64 (-n), wrap64 ((wrap64 (-n)) - 1)] : List Int) (by simp) (by simp)
      rw [e2, Option.bind_some, if_pos (by omega)]
      exact ⟨_, _, _, _, rfl, by simp; omega⟩
    · rw [if_neg c0]
      by_cases c1 : r = 1
      · rw [if_pos c1, if_pos (by omega)]
        exact ⟨_, _, _, _, rfl, by simp; omega⟩
      · rw [if_neg c1]
        by_cases c2 : r = 2
        · rw [if_pos c2]
          obtain ⟨p, a2, s2, e2, hs2, _⟩ := pick_ok hs1 ([0, wrap64 (n + 1), 13] : List Int) (by simp) (by simp)
          rw [e2, Option.bind_some]
          exact ⟨_, _, _, _, rfl, by show x5.length ≤ 40; omega⟩
        · rw [if_neg c2]
          exact ⟨_, _, _, _, rfl, by show x5.length ≤ 40; omega⟩
  | succ d ih =>
    intro k i x5 a s h hk hx hs
    obtain ⟨k, rfl⟩ : ∃ m, k = m + 1 := ⟨k - 1, by omega⟩
    obtain ⟨r, a1, s1, e1, hs1, _⟩ := next_ok hs 10
    obtain ⟨r2, a2, s2, e2, hs2, _⟩ := next_ok hs1 n
    obtain ⟨l, hl, hl2⟩ := spart_len (i : Int) (mx 0 (wrap64 (r - 5))) r2
    simp only [spec_l14DrawBlock.l0]
    rw [if_pos (by omega), e1, Option.bind_some]
    simp only
    rw [e2, Option.bind_some]
    simp only
    rw [hl, Option.bind_some, if_pos (by omega), sw (by omega) (by omega)]
    exact ih k (i + 1) _ _ _ (by omega) (by omega) (by simp; omega) hs2
theorem draw_ok (c : List Int) (hb : ∀ i, 0 ≤ rd c i ∧ rd c i ≤ 255) (hl : (c.length : Int) ≤ 140737488351232) (k : Nat) (hk : 100 < k) : ∃ n bl, spec_DrawExplainBlock.f k c = some (n, bl) ∧ bl.length ≤ 40 := by
  obtain ⟨s, e, hs⟩ := from_ok c hb hl
  obtain ⟨r, a1, s1, e1, hs1, h0, h1, _⟩ := next_ok hs 6
  have h1 := h1 (by omega)
  have w1 : wrap64 (1 + r) = 1 + r := sw (by omega) (by omega)
  obtain ⟨n', bl, a', s', e2, h2⟩ := draw_loop c (1 + r) (by omega) (1 + r).toNat k 0 [] a1 s1 (by omega) (by omega) (by simp) hs1
  rw [show ((0 : Nat) : Int) = 0 from rfl] at e2
  unfold spec_DrawExplainBlock.f spec_l14DrawBlock.f
  rw [e k (by omega), Option.bind_some]
  simp only
  rw [e1, Option.bind_some]
  simp only
  rw [w1, e2, Option.bind_some]
  exact ⟨n', bl, rfl, h2⟩

theorem likes_loop (a : List Int) (hl : a.length ≤ 2000000) (d : Nat) : ∀ (k i : Nat), i + d = a.length → d < k → laws_likeInts.l0 k a a (i : Int) = some true := by
  induction d with
  | zero =>
    intro k i hi hk
    obtain ⟨k, rfl⟩ : ∃ m, k = m + 1 := ⟨k - 1, by omega⟩
    simp only [laws_likeInts.l0]
    rw [if_neg (by omega)]
  | succ d ih =>
    intro k i hi hk
    obtain ⟨k, rfl⟩ : ∃ m, k = m + 1 := ⟨k - 1, by omega⟩
    simp only [laws_likeInts.l0]
    rw [if_pos (by omega), if_pos (by omega), if_pos (by omega), if_pos trivial, sw (by omega) (by omega)]
    exact ih k (i + 1) (by omega) (by omega)
theorem likes_self (a : List Int) (hl : a.length ≤ 2000000) (k : Nat) (hk : a.length < k) : laws_likeInts.f k a a = some true := by
  unfold laws_likeInts.f
  rw [if_pos rfl]
  exact likes_loop a hl a.length k 0 (by omega) hk

-- the law's own loop
theorem law_loop (b : List Int) (N : Nat) (K P : Nat → Nat) (hp : IsPath b N K P) (h1 : 1 ≤ N) (hN : N ≤ 12) (hb : ∀ x ∈ b, -(N : Int) ≤ x ∧ x ≤ N) (hbl : b.length ≤ 40) (kinds : List Int) (hk : kinds = (List.range N).map (fun i => (K i : Int))) (three : Int) (h3 : (cnt kinds = 0) ↔ three = 4) (t : Nat) :
    ∀ (k s : Nat), s + t = N → 2 * t + 100 < k → laws_FnExplained.l0 k (N : Int) b kinds ((cnt kinds : Nat) : Int) three (fls b K P s) ((P s : Nat) : Int) ((cnt ((List.range s).map (fun i => (K i : Int))) : Nat) : Int) (s : Int) = some true := by
  have hkl : kinds.length = N := by rw [hk]; simp
  induction t with
  | zero =>
    intro k s hs hkk
    obtain ⟨k, rfl⟩ : ∃ m, k = m + 1 := ⟨k - 1, by omega⟩
    obtain rfl : s = N := by omega
    simp only [laws_FnExplained.l0]
    rw [if_neg (by omega), books_is hp h1 hN hb, Option.bind_some]
    simp only
    rw [if_pos trivial, if_pos (by simp), if_pos (by simp), show rd_L1 [b] 0 = b from rfl, likes_self b (by omega) k (by omega), Option.bind_some, if_pos rfl, ← hk, if_pos rfl]
    congr 1
    rw [beq_iff_eq, Bool.eq_iff_iff, beq_iff_eq, beq_iff_eq, ← h3]
    omega
  | succ t ih =>
    intro k s hs hkk
    obtain ⟨k, rfl⟩ : ∃ m, k = m + 2 := ⟨k - 2, by omega⟩
    have hsN : s < N := by omega
    have hst := hp.step s hsN
    obtain ⟨p1, p2, p3, p4⟩ := nx_take hst.2
    have hks : rd kinds s = (K s : Int) := by
      rw [rd_at kinds s (by omega)]
      simp [hk]
    have hlen := fls_len b K P s
    have hcl : cnt ((List.range s).map (fun i => (K i : Int))) ≤ s := by
      have := cnt_le ((List.range s).map (fun i => (K i : Int)))
      simpa using this
    have hcs : cnt ((List.range (s + 1)).map (fun i => (K i : Int))) = cnt ((List.range s).map (fun i => (K i : Int))) + if K s = 0 then 0 else 1 := by
      rw [List.range_succ, List.map_append, cnt_append]
      congr 1
      simp only [List.map_cons, List.map_nil, cnt]
      by_cases c : K s = 0
      · rw [if_pos c, if_pos (by omega)]
      · rw [if_neg c, if_neg (by omega)]
    have hP : P s ≤ 40 := by omega
    have hPl : P (s + 1) = P s + (if K s = 2 then 2 else if K s = 1 then 0 else 1) := by
      rw [p1]
      congr 1
      unfold pt
      by_cases c1 : K s = 1
      · rw [if_pos c1, if_neg (by omega), if_pos c1]; rfl
      · rw [if_neg c1]
        by_cases c2 : K s = 2
        · rw [if_pos c2, if_pos c2]; rfl
        · rw [if_neg c2, if_neg c2, if_neg c1]
          split
          · rfl
          · split <;> rfl
    have hnext := ih k (s + 1) (by omega) (by omega)
    have hfl : fls b K P (s + 1) = fls b K P s ++ (if K s = 0 then [] else [flt b K P s]) := rfl
    rw [hcs, hPl, hfl] at hnext
    have W1 : Aside0 (wrap64 ((s : Int) + 1) = ((s + 1 : Nat) : Int)) := ⟨by rw [sw (by omega) (by omega)]; omega⟩
    -- what the second half makes of a fault
    have hj2 : ∀ o : Int, (K s ≠ 0 → (⟨0, s, K s, o⟩ : S54) = flt b K P s) → laws_FnExplained.j2 (k + 1) (N : Int) b kinds ((cnt kinds : Nat) : Int) three (fls b K P s) ((P s : Nat) : Int) ((cnt ((List.range s).map (fun i => (K i : Int))) : Nat) : Int) (s : Int) 0 (s : Int) (K s : Int) o = some true := by
      intro o ho
      have W2 : Aside0 (wrap64 (((cnt ((List.range s).map (fun i => (K i : Int))) : Nat) : Int) + 1) = ((cnt ((List.range s).map (fun i => (K i : Int))) + 1 : Nat) : Int)) := ⟨by rw [sw (by omega) (by omega)]; omega⟩
      simp only [laws_FnExplained.j2]
      rw [if_pos (by omega), if_pos (by omega), hks, W1.out, W2.out]
      by_cases c2 : K s = 2
      · rw [if_pos c2, if_neg (show ¬ K s = 0 by omega), if_neg (show ¬ K s = 0 by omega)] at hnext
        rw [if_pos (by omega), if_neg (by omega), if_pos (by omega), ho (by omega), sw (by omega) (by omega)]
        exact hnext
      · rw [if_neg c2] at hnext
        rw [if_neg (show ¬ (K s : Int) = 2 by omega)]
        by_cases c1 : K s = 1
        · rw [if_pos c1, if_neg (show ¬ K s = 0 by omega), if_neg (show ¬ K s = 0 by omega)] at hnext
          rw [if_pos (by omega), if_neg (by omega), if_pos (by omega), ho (by omega)]
          exact hnext
        · rw [if_neg c1] at hnext
          rw [if_neg (show ¬ (K s : Int) = 1 by omega), sw (x := (P s : Int) + 1) (by omega) (by omega)]
          by_cases c0 : K s = 0
          · rw [if_pos c0, if_pos c0, List.append_nil] at hnext
            rw [if_pos (by omega)]
            exact hnext
          · rw [if_neg c0, if_neg c0] at hnext
            rw [if_neg (show ¬ (K s : Int) = 0 by omega), if_pos (by omega), ho c0]
            exact hnext
    simp only [laws_FnExplained.l0]
    rw [if_pos (by omega), if_pos (by omega), if_pos (by omega), hks]
    by_cases c4 : K s = 4
    · have h6 := p4 c4
      have hr := rd_in hb (by omega) (P s)
      rw [if_pos (by omega), if_pos (by omega), if_pos (by omega), sw (by omega) (by omega)]
      exact hj2 _ (fun _ => by simp [flt, c4])
    · rw [if_neg (by omega)]
      exact hj2 _ (fun _ => by simp [flt, c4])

theorem count_loop (l : List Int) (x7 : Int) (hv : ∀ x ∈ l, 0 ≤ x ∧ x ≤ 4) (hl : l.length ≤ 1000) (d : Nat) : ∀ (k i c : Nat), i + d = l.length → d < k → c ≤ i → impl_CountFaults.l0 k x7 (c : Int) l (l.length : Int) (i : Int) = some (((c + cnt (l.drop i) : Nat) : Int), x7) := by
  induction d with
  | zero =>
    intro k i c hi hk hc
    obtain ⟨k, rfl⟩ : ∃ m, k = m + 1 := ⟨k - 1, by omega⟩
    simp only [impl_CountFaults.l0]
    rw [if_neg (by omega), List.drop_eq_nil_of_le (by omega)]
    simp [cnt]
  | succ d ih =>
    intro k i c hi hk hc
    obtain ⟨k, rfl⟩ : ∃ m, k = m + 1 := ⟨k - 1, by omega⟩
    simp only [impl_CountFaults.l0]
    have hil : i < l.length := by omega
    have w1 : wrap64 ((i : Int) + 1) = ((i + 1 : Nat) : Int) := by unfold wrap64; omega
    have hx := hv l[i] (List.getElem_mem hil)
    rw [if_pos (by omega), if_pos (by omega), if_pos (by omega), w1, rd_at l i hil, List.drop_eq_getElem_cons hil]
    obtain ⟨x, hx_⟩ : ∃ x, x = l[i] := ⟨_, rfl⟩
    rw [← hx_] at hx ⊢
    have ht : impl_toInt.f (decide (x > 0)) = some ((if x = 0 then 0 else 1 : Nat) : Int) := by
      unfold impl_toInt.f
      by_cases h0 : x = 0
      · subst h0; simp
      · rw [decide_eq_true (by omega), if_neg h0]; rfl
    rw [ht, Option.bind_some]
    have hm : wrap64 ((c : Int) + ((if x = 0 then 0 else 1 : Nat) : Int)) = ((c + (if x = 0 then 0 else 1) : Nat) : Int) := by
      by_cases h0 : x = 0
      · rw [if_pos h0, sw (by omega) (by omega)]; omega
      · rw [if_neg h0, sw (by omega) (by omega)]; omega
    rw [hm, ih k (i + 1) _ (by omega) (by omega) (by split <;> omega)]
    simp only [cnt]
    congr 2
    congr 1
    omega
theorem counts (a0 : Int) (l1 : List Int) (k : Nat) (hk : 2000 < k) (r : List Int × Int) (hs : spec_ExplainBlock.f k a0 l1 = some r) (hi : impl_ExplainBlock.f a0 l1 = some r) (h100 : r.1.length ≤ 100) (hv : ∀ x ∈ r.1, 0 ≤ x ∧ x ≤ 4) (hne : r.2 ≠ 0 → r.1 = []) :
    impl_CountFaults.f k a0 l1 = some (((cnt r.1 : Nat) : Int), r.2) ∧ spec_CountFaults.f k a0 l1 = some (((cnt r.1 : Nat) : Int), r.2) := by
  unfold spec_CountFaults.f impl_CountFaults.f
  rw [hs, hi]
  simp only [Option.bind_some]
  have hcl := count_loop r.1 r.2 hv (by omega) r.1.length k 0 0 (by omega) (by omega) (Nat.le_refl _)
  rw [show ((0 : Nat) : Int) = 0 from rfl, Nat.zero_add, List.drop_zero] at hcl
  rw [hcl]
  refine ⟨rfl, ?_⟩
  by_cases h0 : r.2 = 0
  · rw [if_pos h0, kinds_ok r.1 hv (by omega) k (by omega), h0]
    rfl
  · rw [if_neg h0, hne h0]
    rfl
theorem FnExplained : laws_FnExplained.Pure := by
  intro l0 hmax _ hbytes
  obtain ⟨M, hM⟩ : ∃ M, M = 10000 := ⟨_, rfl⟩
  refine ⟨M + 1, ?_⟩
  unfold laws_FnExplained.f laws_big.f
  rw [Option.bind_some]
  by_cases hbig : (l0.length : Int) > 4096
  · rw [if_pos (decide_eq_true hbig)]
  rw [if_neg (by simpa using hbig)]
  obtain ⟨n, bl, hd, hbl⟩ := draw_ok l0 (bytes_of hbytes) (by omega) (M + 1) (by omega)
  obtain ⟨r, hs, hi, h100, hv, hne, heq⟩ := blocks n bl (by omega) (M + 1) (by omega)
  obtain ⟨v, hf1, hf2, hf3⟩ := first_is n bl (by omega) (M + 1) (by omega)
  obtain ⟨hc1, hc2⟩ := counts n bl (M + 1) (by omega) r hs hi h100 hv hne
  have hlk := likes_self r.1 (by omega) (M + 1) (by omega)
  rw [hd, Option.bind_some]
  simp only
  rw [hi, Option.bind_some, hs, Option.bind_some, hc1, Option.bind_some, hc2, Option.bind_some, hf1, Option.bind_some, hf2, Option.bind_some, if_pos rfl, hlk, Option.bind_some, if_pos rfl]
  simp only [if_true]
  simp only [laws_FnExplained.j0]
  rw [if_neg (by simp)]
  by_cases h0 : r.2 = 0
  · rw [if_pos h0]
    obtain ⟨hg, hf, hb, hcnt, hlen⟩ := heq h0
    obtain ⟨g1, g2, g3, g4⟩ := gate_facts hg
    have hg2 := hg.2.2.1
    have hg0 := hg.1
    have hf3' := hf3 hg
    obtain ⟨N, hN⟩ : ∃ N, N = n.toNat := ⟨_, rfl⟩
    rw [← hN] at g1 g2 hf hb hcnt hlen hf3'
    subst g1
    obtain ⟨K, P, p1, p2, p3, p4⟩ := path bl N 0 0 hf (fun _ _ _ _ _ => trivial) (by omega)
    have hp : IsPath bl N K P := ⟨fun i hi => by have := p1 i hi; rwa [Nat.zero_add] at this, p2, p3⟩
    rw [← hb] at p4
    have h12 : ∀ x ∈ bl, -12 ≤ x ∧ x ≤ 12 := fun x hx => by have := hg2 x hx; omega
    have hiff : cnt r.1 = 0 ↔ v.2 = 4 := by
      rw [hf3']
      constructor
      · intro h
        rw [p4] at h
        exact right_when hp g2 h12 (cnt_zero h)
      · intro h
        rw [hcnt, h]
        exact few_right N N 0 (by omega)
    have := law_loop bl N K P hp (by omega) g2 hg2 hbl r.1 p4 v.2 hiff N M 0 (by omega) (by omega)
    rw [p2] at this
    exact this
  · rw [if_neg h0]
end Go.Proofs.Ythfegojffgblmaa.Pure
