/- Thread paths: the reference tells the same paths apart, and the plain path is one of them. Plain laws of the printed functions. No conditions. -/
import Derived.Test.YtkcbihfhbojckaaPureThreadsA
namespace Go.Proofs.Ytkcbihfhbojckaa.Pure
open Go.RowKit Go.Proofs.Ytkcbihfhbojckaa.X Go.Proofs.YtkcbihfhbojckaaW.PrintWords Go.Proofs.YtkcbihfhbojckaaW.PrintLast
set_option linter.unusedVariables false
set_option linter.unusedSimpArgs false

theorem has_loop (l : List Int) (v : Int) (hl : l.length ≤ 100) (d : Nat) : ∀ (k i : Nat), i + d = l.length → d < k →
    ∃ b, spec_l01Has.l0 k l v (i : Int) = some b ∧ (b = true ↔ ∃ j : Nat, i ≤ j ∧ j < l.length ∧ rd l j = v) := by
  induction d with
  | zero =>
    intro k i hi hk
    obtain ⟨k, rfl⟩ : ∃ m, k = m + 1 := ⟨k - 1, by omega⟩
    simp only [spec_l01Has.l0]
    rw [if_neg (by omega)]
    refine ⟨false, rfl, by simp; intro j a b; omega⟩
  | succ d ih =>
    intro k i hi hk
    obtain ⟨k, rfl⟩ : ∃ m, k = m + 1 := ⟨k - 1, by omega⟩
    simp only [spec_l01Has.l0]
    rw [if_pos (by omega), if_pos (by omega)]
    by_cases c : rd l i = v
    · rw [if_pos c]
      exact ⟨true, rfl, by simp; exact ⟨i, by omega, by omega, c⟩⟩
    · rw [if_neg c, w64 (n := (i : Int) + 1) (by omega) (by omega), show ((i : Int) + 1) = ((i + 1 : Nat) : Int) from by omega]
      obtain ⟨b, e, hb⟩ := ih k (i + 1) (by omega) (by omega)
      refine ⟨b, e, hb.trans ?_⟩
      constructor
      · rintro ⟨j, a, b, c⟩; exact ⟨j, by omega, b, c⟩
      · rintro ⟨j, a, b, ej⟩
        refine ⟨j, ?_, b, ej⟩
        by_cases hj : j = i
        · rw [hj] at ej; exact absurd ej c
        · omega
theorem has_ok (l : List Int) (v : Int) (hl : l.length ≤ 100) (k : Nat) (hk : l.length < k) : ∃ b, spec_l01Has.f k l v = some b ∧ (b = true ↔ ∃ j : Nat, j < l.length ∧ rd l j = v) := by
  obtain ⟨b, e, hb⟩ := has_loop l v hl l.length k 0 (by omega) hk
  refine ⟨b, e, hb.trans ?_⟩
  simp

theorem spec_sect (n m : Nat) (p : List S69) (hn0 : 2 ≤ n) (hn : n ≤ 12) (hm : m ≤ 40) (hp : p.length = n * m) (s : Nat) (hs0 : s < m) (B : Nat) (b : Bool)
    (IH : ∀ K, B ≤ K → spec_IsThreadPath.l0 K n m p ((s + 1 : Nat) : Int) = some b) (d : Nat) : ∀ (k i : Nat), i + d = n → B + d + 80 ≤ k →
    ∃ c, spec_IsThreadPath.l1 k n m p s (hs n p s i) i = some c ∧ (c = true ↔ (∀ j : Nat, i ≤ j → j < n → ((P p (s * n + j)).f0 = s ∧ (P p (s * n + j)).f2 = (Int.tmod (j : Int) 2 == 0)) ∧ (0 ≤ (P p (s * n + j)).f1 ∧ (P p (s * n + j)).f1 ≤ (n : Int) - 1) ∧ ∀ j' : Nat, j' < j → (P p (s * n + j')).f1 ≠ (P p (s * n + j)).f1) ∧ (0 < s * n → (P p (s * n - 1)).f1 = (P p (s * n)).f1) ∧ b = true) := by
  induction d with
  | zero =>
    intro k i hi hk
    obtain ⟨k, rfl⟩ : ∃ m, k = m + 1 := ⟨k - 1, by omega⟩
    simp only [spec_IsThreadPath.l1]
    rw [if_neg (by omega), w64 (n := (s : Int) + 1) (by omega) (by omega)]
    obtain ⟨_, x2, x3⟩ := ix s n 0 m hs0 (by omega) hm hn
    rw [Nat.add_zero] at x2 x3
    have x4 : wrap64 ((s : Int) * (n : Int)) = ((s * n : Nat) : Int) := by
      rw [show ((s : Int) * (n : Int)) = ((s * n : Nat) : Int) from by push_cast; rfl, w64 (by omega) (by omega)]
    rw [x4]
    clear x4
    have vac : (∀ j : Nat, i ≤ j → j < n → ((P p (s * n + j)).f0 = s ∧ (P p (s * n + j)).f2 = (Int.tmod (j : Int) 2 == 0)) ∧ (0 ≤ (P p (s * n + j)).f1 ∧ (P p (s * n + j)).f1 ≤ (n : Int) - 1) ∧ ∀ j' : Nat, j' < j → (P p (s * n + j')).f1 ≠ (P p (s * n + j)).f1) := fun j a b => by omega
    have e := IH k (by omega)
    rw [show ((s + 1 : Nat) : Int) = (s : Int) + 1 from by omega] at e
    by_cases c1 : (s : Int) > 0
    · have c1' : 0 < s * n := Nat.mul_pos (by omega) (by omega)
      rw [if_pos c1, if_pos (by omega), if_pos (by omega), w64 (n := ((s * n : Nat) : Int) - 1) (by omega) (by omega), if_pos (by omega), if_pos (by omega), show ((s * n : Nat) : Int) - 1 = ((s * n - 1 : Nat) : Int) from by omega, rdT, rdT]
      by_cases c2 : (P p (s * n)).f1 = (P p (s * n - 1)).f1
      · rw [if_pos c2]
        refine ⟨b, e, ?_⟩
        exact ⟨fun h => ⟨vac, fun _ => c2.symm, h⟩, fun h => h.2.2⟩
      · rw [if_neg c2]
        refine ⟨false, rfl, ?_⟩
        constructor
        · intro h; simp at h
        · intro h; exact absurd (h.2.1 c1').symm c2
    · rw [if_neg c1]
      refine ⟨b, e, ?_⟩
      have : s = 0 := by omega
      exact ⟨fun h => ⟨vac, fun h => by rw [this] at h; simp at h, h⟩, fun h => h.2.2⟩
  | succ d ih =>
    intro k i hi hk
    obtain ⟨k, rfl⟩ : ∃ m, k = m + 1 := ⟨k - 1, by omega⟩
    simp only [spec_IsThreadPath.l1]
    obtain ⟨x1, x2, x3⟩ := ix s n i m hs0 (by omega) hm hn
    rw [if_pos (by omega), x1, rdT]
    rw [if_pos (by omega), if_pos (by omega)]
    obtain ⟨c, e, hc⟩ := ih k (i + 1) (by omega) (by omega)
    rw [hs_succ, show ((i + 1 : Nat) : Int) = (i : Int) + 1 from by omega] at e
    have hl8 : (hs n p s i).length < 17592186044416 := by rw [hs_len]; omega
    rw [w64 (n := (i : Int) + 1) (by omega) (by omega)]
    simp only [if_pos hl8]
    rw [e, w64 (n := (n : Int) - 1) (by omega) (by omega), in_spec]
    simp only [Option.bind_some]
    obtain ⟨q, eq, hq⟩ := has_ok (hs n p s i) (P p (s * n + i)).f1 (by rw [hs_len]; omega) k (by rw [hs_len]; omega)
    rw [hs_len] at hq
    rw [eq]
    simp only [Option.bind_some]
    by_cases c1 : (P p (s * n + i)).f0 = s
    · rw [if_pos c1]
      by_cases c2 : 0 ≤ (P p (s * n + i)).f1 ∧ (P p (s * n + i)).f1 ≤ (n : Int) - 1
      · rw [decide_eq_true c2, if_pos rfl]
        by_cases c3 : q = true
        · rw [if_pos c3]
          refine ⟨false, rfl, ?_⟩
          constructor
          · intro h; simp at h
          · intro h
            obtain ⟨j, hj, ej⟩ := hq.1 c3
            rw [rd_hs n p s i j hj] at ej
            exact absurd ej ((h.1 i (Nat.le_refl _) (by omega)).2.2 j hj)
        · rw [if_neg c3]
          by_cases c4 : (P p (s * n + i)).f2 = (Int.tmod (i : Int) 2 == 0)
          · rw [if_neg (by rw [c4]; simp)]
            refine ⟨c, rfl, hc.trans ?_⟩
            constructor
            · rintro ⟨h1, h2⟩
              refine ⟨fun j a b => ?_, h2⟩
              by_cases hj : j = i
              · subst hj
                refine ⟨⟨c1, c4⟩, c2, fun j' a' e' => c3 (hq.2 ⟨j', a', ?_⟩)⟩
                rw [rd_hs n p s j j' a']
                exact e'
              · exact h1 j (by omega) b
            · rintro ⟨h1, h2⟩
              exact ⟨fun j a b => h1 j (by omega) b, h2⟩
          · rw [if_pos (by simp [c4])]
            refine ⟨false, rfl, ?_⟩
            constructor
            · intro h; simp at h
            · intro h; exact absurd (h.1 i (Nat.le_refl _) (by omega)).1.2 c4
      · rw [decide_eq_false c2, if_neg (by simp)]
        refine ⟨false, rfl, ?_⟩
        constructor
        · intro h; simp at h
        · intro h; exact absurd (h.1 i (Nat.le_refl _) (by omega)).2.1 c2
    · rw [if_neg c1]
      refine ⟨false, rfl, ?_⟩
      constructor
      · intro h; simp at h
      · intro h; exact absurd (h.1 i (Nat.le_refl _) (by omega)).1.1 c1

theorem spec_path (n m : Nat) (p : List S69) (hn0 : 2 ≤ n) (hn : n ≤ 12) (hm : m ≤ 40) (hp : p.length = n * m) (d : Nat) : ∀ s : Nat, s + d = m →
    ∃ b, (∀ k, d * 100 + 1 ≤ k → spec_IsThreadPath.l0 k n m p (s : Int) = some b) ∧ (b = true ↔ ∀ t : Nat, s ≤ t → t < m → Sect n p t) := by
  induction d with
  | zero =>
    intro s hs0
    refine ⟨true, fun k hk => ?_, by simp; omega⟩
    obtain ⟨k, rfl⟩ : ∃ m, k = m + 1 := ⟨k - 1, by omega⟩
    simp only [spec_IsThreadPath.l0]
    rw [if_neg (by omega)]
  | succ d ih =>
    intro s hs0
    obtain ⟨b, e, hb⟩ := ih (s + 1) (by omega)
    obtain ⟨c, e1, hc⟩ := spec_sect n m p hn0 hn hm hp s (by omega) (d * 100 + 1) b e n (d * 100 + n + 81) 0 (by omega) (by omega)
    refine ⟨c, fun k hk => ?_, hc.trans ?_⟩
    · obtain ⟨k, rfl⟩ : ∃ m, k = m + 1 := ⟨k - 1, by omega⟩
      simp only [spec_IsThreadPath.l0]
      rw [if_pos (by omega)]
      exact at_rounds (g := fun k => spec_IsThreadPath.l1 k n m p s (([] : List Int)) 0) (fun k => (spec_IsThreadPath.mono_l k).2.2 n m p s [] 0) (show d * 100 + n + 81 ≤ k by omega) e1
    · constructor
      · rintro ⟨h1, h2, h3⟩ t ht hm'
        by_cases hts : t = s
        · subst hts
          exact ⟨fun i hi => (h1 i (by omega) hi).1, h2, fun i hi => (h1 i (by omega) hi).2.1, fun i hi => (h1 i (by omega) hi).2.2⟩
        · exact hb.1 h3 t (by omega) hm'
      · intro h
        have hS := h s (Nat.le_refl _) (by omega)
        exact ⟨fun j _ hj => ⟨hS.lab j hj, hS.rng j hj, hS.inj j hj⟩, hS.link, hb.2 fun t a b => h t (by omega) b⟩

/-- A thread path of n holes and m sections. -/
structure Path (n m : Nat) (p : List S69) : Prop where
  len : p.length = n * m
  sect : ∀ t : Nat, t < m → Sect n p t

def Sewn (n m : Int) : Prop := (2 ≤ n ∧ n ≤ 12) ∧ 1 ≤ m ∧ m ≤ 40
theorem sewn_impl (n m : Int) : ∃ b, impl_isSewn.f n m = some b ∧ (b = true ↔ Sewn n m) := by
  unfold impl_isSewn.f Sewn
  rw [in_impl, in_impl]
  simp only [Option.bind_some]
  by_cases c : 2 ≤ n ∧ n ≤ 12
  · rw [decide_eq_true c, if_pos rfl]
    exact ⟨_, rfl, by simp; omega⟩
  · rw [decide_eq_false c, if_neg (by simp)]
    exact ⟨_, rfl, by simp; omega⟩
theorem sewn_spec (n m : Int) : ∃ b, spec_l16Fits.f n m = some b ∧ (b = true ↔ Sewn n m) := by
  unfold spec_l16Fits.f Sewn
  rw [in_spec, in_spec]
  simp only [Option.bind_some]
  by_cases c : 2 ≤ n ∧ n ≤ 12
  · rw [decide_eq_true c, if_pos rfl]
    exact ⟨_, rfl, by simp; omega⟩
  · rw [decide_eq_false c, if_neg (by simp)]
    exact ⟨_, rfl, by simp; omega⟩

theorem is_path (n m : Int) (p : List S69) : ∃ b, (∀ k, 5000 < k → impl_IsThreadPath.f k n m p = some b) ∧ (∀ k, 5000 < k → spec_IsThreadPath.f k n m p = some b) ∧
    (b = true ↔ Sewn n m ∧ n.tmod 2 ≠ 1 ∧ Path n.toNat m.toNat p) := by
  obtain ⟨b1, e1, h1⟩ := sewn_impl n m
  obtain ⟨b2, e2, h2⟩ := sewn_spec n m
  by_cases c1 : Sewn n m
  · obtain rfl := h1.2 c1
    obtain rfl := h2.2 c1
    by_cases c2 : n.tmod 2 = 1
    · refine ⟨false, fun k hk => ?_, fun k hk => ?_, ?_⟩
      · obtain ⟨k, rfl⟩ : ∃ m, k = m + 1 := ⟨k - 1, by omega⟩
        unfold impl_IsThreadPath.f
        rw [e1]
        simp only [Option.bind_some, if_true, if_pos c2, impl_IsThreadPath.j0]
      · obtain ⟨k, rfl⟩ : ∃ m, k = m + 1 := ⟨k - 1, by omega⟩
        unfold spec_IsThreadPath.f
        rw [e2]
        simp only [Option.bind_some, if_true, if_pos c2, spec_IsThreadPath.j0]
      · simp [c2]
    · obtain ⟨N, hN⟩ : ∃ N : Nat, n = N := ⟨n.toNat, by have := c1.1.1; omega⟩
      obtain ⟨M, hM⟩ : ∃ N : Nat, m = N := ⟨m.toNat, by have := c1.2.1; omega⟩
      have c1' := c1
      unfold Sewn at c1'
      have hNM : N * M ≤ 12 * 40 := Nat.mul_le_mul (by omega) (by omega)
      have hw : wrap64 (n * m) = ((N * M : Nat) : Int) := by
        rw [hN, hM, show ((N : Int) * (M : Int)) = ((N * M : Nat) : Int) from by push_cast; rfl, w64 (by omega) (by omega)]
      by_cases c3 : p.length = N * M
      · obtain ⟨b, f1, g1⟩ := impl_path N M p (by omega) (by omega) (by omega) c3 M 0 (by omega)
        obtain ⟨b', f2, g2⟩ := spec_path N M p (by omega) (by omega) (by omega) c3 M 0 (by omega)
        have hbb : b' = b := by
          rw [Bool.eq_iff_iff]
          exact g2.trans g1.symm
        subst hbb
        refine ⟨b', fun k hk => ?_, fun k hk => ?_, ?_⟩
        · obtain ⟨k, rfl⟩ : ∃ m, k = m + 1 := ⟨k - 1, by omega⟩
          unfold impl_IsThreadPath.f impl_Stitch.f
          rw [e1, hw, c3]
          simp only [Option.bind_some, if_true, if_neg c2, impl_IsThreadPath.j0, bne_self_eq_false]
          rw [if_neg (by simp), hN, hM]
          exact f1 k (by omega)
        · obtain ⟨k, rfl⟩ : ∃ m, k = m + 1 := ⟨k - 1, by omega⟩
          unfold spec_IsThreadPath.f
          rw [e2, hw, c3]
          simp only [Option.bind_some, if_true, if_neg c2, spec_IsThreadPath.j0, bne_self_eq_false]
          rw [if_neg (by simp), hN, hM]
          exact f2 k (by omega)
        · rw [g1, hN, hM]
          simp only [Int.toNat_natCast]
          rw [hN, hM] at c1
          constructor
          · exact fun h => ⟨c1, by rw [← hN]; exact c2, c3, fun t ht => h t (by omega) ht⟩
          · exact fun h t _ ht => h.2.2.sect t ht
      · have c4 : ((p.length : Int) != ((N * M : Nat) : Int)) = true := by
          rw [bne_iff_ne]
          omega
        refine ⟨false, fun k hk => ?_, fun k hk => ?_, ?_⟩
        · obtain ⟨k, rfl⟩ : ∃ m, k = m + 1 := ⟨k - 1, by omega⟩
          unfold impl_IsThreadPath.f impl_Stitch.f
          rw [e1, hw]
          simp only [Option.bind_some, if_true, if_neg c2, impl_IsThreadPath.j0, c4]
        · obtain ⟨k, rfl⟩ : ∃ m, k = m + 1 := ⟨k - 1, by omega⟩
          unfold spec_IsThreadPath.f
          rw [e2, hw]
          simp only [Option.bind_some, if_true, if_neg c2, spec_IsThreadPath.j0, c4]
        · constructor
          · intro h; simp at h
          · intro h
            have := h.2.2.len
            rw [hN, hM] at this
            simp only [Int.toNat_natCast] at this
            exact absurd this c3
  · have hb1 : b1 = false := by
      rw [← Bool.not_eq_true, h1]; exact c1
    have hb2 : b2 = false := by
      rw [← Bool.not_eq_true, h2]; exact c1
    subst hb1 hb2
    refine ⟨false, fun k hk => ?_, fun k hk => ?_, ?_⟩
    · obtain ⟨k, rfl⟩ : ∃ m, k = m + 1 := ⟨k - 1, by omega⟩
      unfold impl_IsThreadPath.f
      rw [e1]
      simp [impl_IsThreadPath.j0]
    · obtain ⟨k, rfl⟩ : ∃ m, k = m + 1 := ⟨k - 1, by omega⟩
      unfold spec_IsThreadPath.f
      rw [e2]
      simp [spec_IsThreadPath.j0]
    · simp [c1]

-- the plain path
def hol (n s i : Nat) : Int := if Int.tmod (s : Int) 2 = 1 then (n : Int) - 1 - i else i
def pg (n j : Nat) : S69 := ⟨((j / n : Nat) : Int), hol n (j / n) (j % n), Int.tmod ((j % n : Nat) : Int) 2 == 0⟩
def pl (n j : Nat) : List S69 := (List.range j).map (pg n)
theorem pl_len (n j : Nat) : (pl n j).length = j := by simp [pl]
theorem pl_succ (n j : Nat) : pl n (j + 1) = pl n j ++ [pg n j] := by simp [pl, List.range_succ]
theorem P_pl (n j i : Nat) (h : i < j) : P (pl n j) i = pg n i := by
  unfold P pl
  simp [List.getD_eq_getElem?_getD, List.getElem?_map, List.getElem?_range, h]
theorem pg_at (n s i : Nat) (h : i < n) : pg n (s * n + i) = ⟨(s : Int), hol n s i, Int.tmod (i : Int) 2 == 0⟩ := by
  unfold pg
  have h1 : (s * n + i) / n = s := by rw [Nat.mul_comm, Nat.mul_add_div (by omega), Nat.div_eq_of_lt h, Nat.add_zero]
  have h2 : (s * n + i) % n = i := by rw [Nat.mul_comm, Nat.mul_add_mod, Nat.mod_eq_of_lt h]
  rw [h1, h2]

theorem impl_plain_sect (n m : Nat) (hn : n ≤ 12) (hm : m ≤ 40) (s : Nat) (hs0 : s < m) (B : Nat) (r : List S69)
    (IH : ∀ K, B ≤ K → impl_plainPath.l0 K n (pl n ((s + 1) * n)) m ((s + 1 : Nat) : Int) = some r) (d : Nat) : ∀ (k i : Nat), i + d = n → B + d + 2 ≤ k →
    impl_plainPath.l1 k n (pl n (s * n + i)) s m s n i = some r := by
  induction d with
  | zero =>
    intro k i hi hk
    obtain ⟨k, rfl⟩ : ∃ m, k = m + 1 := ⟨k - 1, by omega⟩
    simp only [impl_plainPath.l1]
    rw [if_neg (by omega), w64 (n := (s : Int) + 1) (by omega) (by omega), show i = n from by omega, ← Nat.succ_mul]
    exact IH k (by omega)
  | succ d ih =>
    intro k i hi hk
    obtain ⟨k, rfl⟩ : ∃ m, k = m + 1 := ⟨k - 1, by omega⟩
    simp only [impl_plainPath.l1]
    obtain ⟨x1, x2, x3⟩ := ix s n i m hs0 (by omega) hm hn
    have e := ih k (i + 1) (by omega) (by omega)
    rw [← Nat.add_assoc, pl_succ, pg_at n s i (by omega), show ((i + 1 : Nat) : Int) = (i : Int) + 1 from by omega] at e
    rw [if_pos (by omega), w64 (n := (i : Int) + 1) (by omega) (by omega), w64 (n := (n : Int) - 1) (by omega) (by omega), w64 (n := (n : Int) - 1 - i) (by omega) (by omega)]
    have hl : (pl n (s * n + i)).length < 5864062014805 := by rw [pl_len]; omega
    by_cases c : Int.tmod (s : Int) 2 = 1
    · rw [if_pos c, if_pos hl]
      simp only [hol, if_pos c] at e
      exact e
    · rw [if_neg c, if_pos hl]
      simp only [hol, if_neg c] at e
      exact e
theorem spec_plain_sect (n m : Nat) (hn : n ≤ 12) (hm : m ≤ 40) (s : Nat) (hs0 : s < m) (B : Nat) (r : List S69)
    (IH : ∀ K, B ≤ K → spec_l16Plain.l0 K n m (pl n ((s + 1) * n)) ((s + 1 : Nat) : Int) = some r) (d : Nat) : ∀ (k i : Nat), i + d = n → B + d + 2 ≤ k →
    spec_l16Plain.l1 k n m (pl n (s * n + i)) s i = some r := by
  induction d with
  | zero =>
    intro k i hi hk
    obtain ⟨k, rfl⟩ : ∃ m, k = m + 1 := ⟨k - 1, by omega⟩
    simp only [spec_l16Plain.l1]
    rw [if_neg (by omega), w64 (n := (s : Int) + 1) (by omega) (by omega), show i = n from by omega, ← Nat.succ_mul]
    exact IH k (by omega)
  | succ d ih =>
    intro k i hi hk
    obtain ⟨k, rfl⟩ : ∃ m, k = m + 1 := ⟨k - 1, by omega⟩
    simp only [spec_l16Plain.l1]
    obtain ⟨x1, x2, x3⟩ := ix s n i m hs0 (by omega) hm hn
    have e := ih k (i + 1) (by omega) (by omega)
    rw [← Nat.add_assoc, pl_succ, pg_at n s i (by omega), show ((i + 1 : Nat) : Int) = (i : Int) + 1 from by omega] at e
    rw [if_pos (by omega), w64 (n := (i : Int) + 1) (by omega) (by omega), w64 (n := (n : Int) - 1) (by omega) (by omega), w64 (n := (n : Int) - 1 - i) (by omega) (by omega)]
    have hl : (pl n (s * n + i)).length < 5864062014805 := by rw [pl_len]; omega
    by_cases c : Int.tmod (s : Int) 2 = 1
    · rw [if_pos c, if_pos hl]
      simp only [hol, if_pos c] at e
      exact e
    · rw [if_neg c, if_pos hl]
      simp only [hol, if_neg c] at e
      exact e
theorem impl_plain (n m : Nat) (hn : n ≤ 12) (hm : m ≤ 40) (d : Nat) : ∀ s : Nat, s + d = m → ∀ k, d * 100 + 1 ≤ k → impl_plainPath.l0 k n (pl n (s * n)) m (s : Int) = some (pl n (m * n)) := by
  induction d with
  | zero =>
    intro s hs0 k hk
    obtain ⟨k, rfl⟩ : ∃ m, k = m + 1 := ⟨k - 1, by omega⟩
    simp only [impl_plainPath.l0]
    rw [if_neg (by omega), show s = m from by omega]
  | succ d ih =>
    intro s hs0 k hk
    obtain ⟨k, rfl⟩ : ∃ m, k = m + 1 := ⟨k - 1, by omega⟩
    simp only [impl_plainPath.l0]
    rw [if_pos (by omega)]
    exact impl_plain_sect n m hn hm s (by omega) (d * 100 + 1) _ (fun K hK => ih (s + 1) (by omega) K hK) n k 0 (by omega) (by omega)
theorem spec_plain (n m : Nat) (hn : n ≤ 12) (hm : m ≤ 40) (d : Nat) : ∀ s : Nat, s + d = m → ∀ k, d * 100 + 1 ≤ k → spec_l16Plain.l0 k n m (pl n (s * n)) (s : Int) = some (pl n (m * n)) := by
  induction d with
  | zero =>
    intro s hs0 k hk
    obtain ⟨k, rfl⟩ : ∃ m, k = m + 1 := ⟨k - 1, by omega⟩
    simp only [spec_l16Plain.l0]
    rw [if_neg (by omega), show s = m from by omega]
  | succ d ih =>
    intro s hs0 k hk
    obtain ⟨k, rfl⟩ : ∃ m, k = m + 1 := ⟨k - 1, by omega⟩
    simp only [spec_l16Plain.l0]
    rw [if_pos (by omega)]
    exact spec_plain_sect n m hn hm s (by omega) (d * 100 + 1) _ (fun K hK => ih (s + 1) (by omega) K hK) n k 0 (by omega) (by omega)

theorem hol_rng (n s i : Nat) (h : i < n) : 0 ≤ hol n s i ∧ hol n s i ≤ (n : Int) - 1 := by
  unfold hol; split <;> omega
theorem plain_path (n m : Nat) (hn0 : 2 ≤ n) : Path n m (pl n (m * n)) := by
  refine ⟨by rw [pl_len, Nat.mul_comm], fun t ht => ?_⟩
  have h1 : (t + 1) * n ≤ m * n := Nat.mul_le_mul_right n ht
  rw [Nat.succ_mul] at h1
  have at_ : ∀ i, i < n → P (pl n (m * n)) (t * n + i) = ⟨(t : Int), hol n t i, Int.tmod (i : Int) 2 == 0⟩ := fun i hi => by
    rw [P_pl _ _ _ (by omega), pg_at n t i hi]
  refine ⟨fun i hi => by rw [at_ i hi]; exact ⟨rfl, rfl⟩, fun h0 => ?_, fun i hi => by rw [at_ i hi]; exact hol_rng n t i hi, fun i hi j hj => ?_⟩
  · have e1 := at_ 0 (by omega)
    rw [Nat.add_zero] at e1
    rw [e1]
    obtain ⟨u, rfl⟩ : ∃ u, t = u + 1 := ⟨t - 1, by
      have : t ≠ 0 := by rintro rfl; simp at h0
      omega⟩
    have e2 : (u + 1) * n - 1 = u * n + (n - 1) := by rw [Nat.succ_mul]; omega
    rw [e2, P_pl _ _ _ (by rw [Nat.succ_mul] at h1; omega), pg_at n u (n - 1) (by omega)]
    simp only [hol]
    have a1 : Int.tmod (u : Int) 2 = (u : Int) % 2 := Int.tmod_eq_emod_of_nonneg (by omega)
    have a2 : Int.tmod ((u + 1 : Nat) : Int) 2 = ((u + 1 : Nat) : Int) % 2 := Int.tmod_eq_emod_of_nonneg (by omega)
    rw [a1, a2]
    split <;> split <;> omega
  · rw [at_ i hi, at_ j (by omega)]
    simp only [hol]
    split <;> omega
end Go.Proofs.Ytkcbihfhbojckaa.Pure
