/- FnThreads: for every code the answer is true: the plain path is a thread path, no path is shorter than its links, program and reference agree. No conditions. -/
import Derived.Test.YtkcbihfhbojckaaX12
import Derived.Test.YtkcbihfhbojckaaPureThreadsC
namespace Go.Proofs.Ytkcbihfhbojckaa.Pure
open Go.RowKit Go.Proofs.Ytkcbihfhbojckaa.X Go.Proofs.YtkcbihfhbojckaaW.PrintWords Go.Proofs.YtkcbihfhbojckaaW.PrintLast Go.Proofs.YtkcbihfhbojckaaW.PrintMore
set_option linter.unusedVariables false

theorem Sm_succ (l : List Int) (p : List S69) (j : Nat) (h : j ≠ 0) : Sm l p (j + 1) = Sm l p j + dst l p j := by
  simp only [Sm, if_neg h]
theorem Sm_one (l : List Int) (p : List S69) : Sm l p 1 = 0 := by simp [Sm]

-- two holes: every path is as long as the plain one
theorem two_sum {l : List Int} {m : Nat} {p : List S69} (hH : Holes l) (hl : l.length = 2) (h0 : ∀ s, s < m → Sect l.length p s) (s : Nat) (hs : s ≤ m) : Sm l p (2 * s) = s * (rd l 1 - rd l 0) := by
  have h := h0
  rw [hl] at h
  clear h0
  induction s with
  | zero => simp [Sm]
  | succ s ih =>
    have ih := ih (by omega)
    have hS := h s (by omega)
    have l0 := (hS.lab 0 (by omega)).1
    have l1 := (hS.lab 1 (by omega)).1
    have r0 := hS.rng 0 (by omega)
    have r1 := hS.rng 1 (by omega)
    have ne := hS.inj 1 (by omega) 0 (by omega)
    rw [show s * 2 + 0 = 2 * s from by omega] at l0 r0 ne
    rw [show s * 2 + 1 = 2 * s + 1 from by omega] at l1 r1 ne
    have d1 : dst l p (2 * s + 1) = rd l 1 - rd l 0 := by
      unfold dst gap
      rw [Nat.add_sub_cancel, l0, l1, if_pos rfl, mx_abs]
      have up := hH.2.2.2 1 (by omega) (by omega)
      rw [show (1 : Int) - 1 = 0 from rfl] at up
      rcases (show (P p (2 * s)).f1 = 0 ∧ (P p (2 * s + 1)).f1 = 1 ∨ (P p (2 * s)).f1 = 1 ∧ (P p (2 * s + 1)).f1 = 0 by omega) with ⟨a, b⟩ | ⟨a, b⟩
      · rw [a, b]; split <;> omega
      · rw [a, b]; split <;> omega
    have d0 : Sm l p (2 * s + 1) = Sm l p (2 * s) := by
      by_cases c : s = 0
      · subst c; simp [Sm]
      · rw [Sm_succ _ _ _ (by omega)]
        have l2 := ((h (s - 1) (by omega)).lab 1 (by omega)).1
        rw [show (s - 1) * 2 + 1 = 2 * s - 1 from by omega] at l2
        unfold dst
        rw [l0, l2, if_neg (by omega)]
        omega
    rw [show 2 * (s + 1) = 2 * s + 1 + 1 from by omega, Sm_succ _ _ _ (by omega), d0, ih, d1]
    push_cast
    rw [Int.add_mul]
    omega

-- the plain path's way through a section
theorem dst_pl {l : List Int} {m : Nat} (hH : Holes l) (s i : Nat) (h1 : i + 1 < l.length) (h2 : s * l.length + (i + 1) < m * l.length) :
    dst l (pl l.length (m * l.length)) (s * l.length + (i + 1)) = if Int.tmod (s : Int) 2 = 1 then rd l ((l.length : Int) - 1 - i) - rd l ((l.length : Int) - 1 - ((i + 1 : Nat) : Int)) else rd l ((i + 1 : Nat) : Int) - rd l i := by
  have up := hH.2.2.2 ((i + 1 : Nat) : Int) (by omega) (by omega)
  rw [show ((i + 1 : Nat) : Int) - 1 = (i : Int) from by omega] at up
  have up2 := hH.2.2.2 ((l.length : Int) - 1 - i) (by omega) (by omega)
  rw [show (l.length : Int) - 1 - i - 1 = (l.length : Int) - 1 - ((i + 1 : Nat) : Int) from by omega] at up2
  unfold dst gap
  rw [show s * l.length + (i + 1) - 1 = s * l.length + i from by omega, P_pl _ _ _ h2, P_pl _ _ _ (by omega), pg_at _ _ _ h1, pg_at _ _ _ (by omega)]
  obtain ⟨x, hx⟩ : ∃ x, x = hol l.length s (i + 1) := ⟨_, rfl⟩
  obtain ⟨y, hy⟩ : ∃ y, y = hol l.length s i := ⟨_, rfl⟩
  rw [← hx, ← hy, if_pos rfl]
  show mx (rd l x - rd l y) (-(rd l x - rd l y)) = _
  rw [mx_abs]
  unfold hol at hx hy
  by_cases c : Int.tmod (s : Int) 2 = 1
  · rw [if_pos c] at hx hy
    subst hx hy
    rw [if_pos c]
    split <;> omega
  · rw [if_neg c] at hx hy
    subst hx hy
    rw [if_neg c]
    split <;> omega
theorem plain_sum {l : List Int} {m : Nat} (hH : Holes l) (s : Nat) : ∀ i : Nat, i < l.length → s * l.length + i < m * l.length → 
    Sm l (pl l.length (m * l.length)) (s * l.length + i + 1) = s * (rd l ((l.length : Int) - 1) - rd l 0) + (if Int.tmod (s : Int) 2 = 1 then rd l ((l.length : Int) - 1) - rd l ((l.length : Int) - 1 - i) else rd l i - rd l 0) := by
  have n2 := hH.1
  induction s with
  | zero =>
    intro i
    induction i with
    | zero =>
      intro _ _
      simp [Sm]
    | succ i ih =>
      intro h1 h2
      have ih := ih (by omega) (by omega)
      rw [Sm_succ _ _ _ (by omega), dst_pl hH 0 i h1 h2, ← Nat.add_assoc, ih]
      split <;> omega
  | succ s ihs =>
    intro i
    have hq : (s + 1) * l.length = s * l.length + l.length := Nat.succ_mul _ _
    induction i with
    | zero =>
      intro _ h2
      have ih := ihs (l.length - 1) (by omega) (by omega)
      rw [show s * l.length + (l.length - 1) + 1 = (s + 1) * l.length from by omega] at ih
      rw [Nat.add_zero] at h2 ⊢
      rw [Sm_succ _ _ _ (by omega), ih]
      have d0 : dst l (pl l.length (m * l.length)) ((s + 1) * l.length) = 0 := by
        have g1 : (pg l.length ((s + 1) * l.length)).f0 = ((s + 1 : Nat) : Int) := by
          have := pg_at l.length (s + 1) 0 (by omega)
          rw [Nat.add_zero] at this
          rw [this]
        unfold dst
        rw [P_pl _ _ _ h2, P_pl _ _ _ (by omega), show (s + 1) * l.length - 1 = s * l.length + (l.length - 1) from by omega, pg_at _ _ _ (by omega), g1]
        rw [if_neg (by show ¬ ((s + 1 : Nat) : Int) = (s : Int); omega)]
      rw [d0]
      have c1 : ((l.length - 1 : Nat) : Int) = (l.length : Int) - 1 := by omega
      rw [c1, Int.sub_self]
      have c2 : (((s + 1 : Nat) : Int) * (rd l ((l.length : Int) - 1) - rd l 0)) = (s : Int) * (rd l ((l.length : Int) - 1) - rd l 0) + (rd l ((l.length : Int) - 1) - rd l 0) := by push_cast; rw [Int.add_mul]; omega
      rw [c2, show ((0 : Nat) : Int) = 0 from rfl, Int.sub_zero]
      split <;> split <;> omega
    | succ i ih =>
      intro h1 h2
      have ih := ih (by omega) (by omega)
      rw [Sm_succ _ _ _ (by omega), dst_pl hH (s + 1) i h1 h2, ← Nat.add_assoc, ih]
      split <;> omega
theorem plain_all {l : List Int} {m : Nat} (hH : Holes l) (hm : 1 ≤ m) : Sm l (pl l.length (m * l.length)) (l.length * m) = m * (rd l ((l.length : Int) - 1) - rd l 0) := by
  have n2 := hH.1
  obtain ⟨u, rfl⟩ : ∃ u, m = u + 1 := ⟨m - 1, by omega⟩
  have hq : (u + 1) * l.length = u * l.length + l.length := Nat.succ_mul _ _
  have := plain_sum (m := u + 1) hH u (l.length - 1) (by omega) (by omega)
  rw [show u * l.length + (l.length - 1) + 1 = l.length * (u + 1) from by rw [Nat.mul_comm l.length]; omega, show ((l.length - 1 : Nat) : Int) = (l.length : Int) - 1 from by omega, Int.sub_self] at this
  rw [this]
  push_cast
  rw [Int.add_mul]
  split <;> omega

theorem likes (a : List S69) (ha : a.length ≤ 1000000) (d : Nat) : ∀ k i : Nat, i + d = a.length → d < k → laws_likeStitches9.l0 k a a (i : Int) = some true := by
  induction d with
  | zero =>
    intro k i hi hk
    obtain ⟨k, rfl⟩ : ∃ m, k = m + 1 := ⟨k - 1, by omega⟩
    simp only [laws_likeStitches9.l0]
    rw [if_neg (by omega)]
  | succ d ih =>
    intro k i hi hk
    obtain ⟨k, rfl⟩ : ∃ m, k = m + 1 := ⟨k - 1, by omega⟩
    simp only [laws_likeStitches9.l0]
    rw [if_pos (by omega), if_pos (by omega), if_pos (by omega), if_neg (by simp), w64 (n := (i : Int) + 1) (by omega) (by omega)]
    exact ih k (i + 1) (by omega) (by omega)

-- the draws
theorem draw_size (c : List Int) (a s : Int) (hs : St c a s) : ∃ n m a' s', spec_l16DrawSize.f c a s = some (n, m, a', s') ∧ St c a' s' := by
  obtain ⟨r1, a1, s1, e1, hs1, _, _, _⟩ := next_ok hs 16
  unfold spec_l16DrawSize.f
  rw [e1]
  simp only [Option.bind_some]
  by_cases c0 : r1 = 0
  · rw [if_pos c0]
    obtain ⟨r2, a2, s2, e2, hs2, _⟩ := pick_ok hs1 [1, 2, 12, 13] (by simp) (by simp)
    obtain ⟨r3, a3, s3, e3, hs3, _⟩ := pick_ok hs2 [0, 1, 40, 41] (by simp) (by simp)
    rw [e2]
    simp only [Option.bind_some]
    rw [e3]
    exact ⟨_, _, _, _, rfl, hs3⟩
  · rw [if_neg c0]
    obtain ⟨r2, a2, s2, e2, hs2, _, _, _⟩ := next_ok hs1 7
    obtain ⟨r3, a3, s3, e3, hs3, _, _, _⟩ := next_ok hs2 6
    rw [e2]
    simp only [Option.bind_some]
    rw [e3]
    exact ⟨_, _, _, _, rfl, hs3⟩
theorem draw_link (c : List Int) (a s : Int) (hs : St c a s) : ∃ n a' s', spec_l16DrawLink.f c a s = some (n, a', s') ∧ St c a' s' := by
  obtain ⟨r1, a1, s1, e1, hs1, _, _, _⟩ := next_ok hs 24
  unfold spec_l16DrawLink.f
  rw [e1]
  simp only [Option.bind_some]
  by_cases c0 : r1 = 0
  · rw [if_pos c0]
    obtain ⟨r2, a2, s2, e2, hs2, _⟩ := pick_ok hs1 [-1, 0, 1000000000, 1000000001] (by simp) (by simp)
    rw [e2]
    exact ⟨_, _, _, rfl, hs2⟩
  · rw [if_neg c0]
    obtain ⟨r2, a2, s2, e2, hs2, _, _, _⟩ := next_ok hs1 60
    rw [e2]
    exact ⟨_, _, _, rfl, hs2⟩
theorem draw_of_loop (c : List Int) (n : Nat) (hn : n ≤ 100) (d : Nat) : ∀ (k i : Nat) (out : List Int) (a s : Int), out.length = i → i + d = n → d < k → St c a s →
    ∃ q a' s', spec_l01DrawOf.l0 k c n out i a s = some (q, a', s') ∧ St c a' s' ∧ q.length = n := by
  induction d with
  | zero =>
    intro k i out a s ho hi hk hs
    obtain ⟨k, rfl⟩ : ∃ m, k = m + 1 := ⟨k - 1, by omega⟩
    simp only [spec_l01DrawOf.l0]
    rw [if_neg (by omega)]
    exact ⟨_, _, _, rfl, hs, by omega⟩
  | succ d ih =>
    intro k i out a s ho hi hk hs
    obtain ⟨k, rfl⟩ : ∃ m, k = m + 1 := ⟨k - 1, by omega⟩
    simp only [spec_l01DrawOf.l0]
    rw [w64 (n := (i : Int) + 1) (by omega) (by omega), if_pos (by omega)]
    obtain ⟨t, a1, s1, e1, hs1, t0, t1, t2⟩ := next_ok hs ((i : Int) + 1)
    rw [e1]
    simp only [Option.bind_some]
    have ht : t ≤ (out.length : Int) := by
      by_cases h1 : (1 : Int) < (i : Int) + 1
      · have := t1 h1; omega
      · have := t2 (by omega); omega
    rw [if_pos t0, if_pos ht, if_pos (by omega)]
    exact ih k (i + 1) _ a1 s1 (by simp; omega) (by omega) (by omega) hs1
theorem draw_of (c : List Int) (n : Nat) (hn : n ≤ 100) (a s : Int) (hs : St c a s) (k : Nat) (hk : 101 < k) : ∃ q a' s', spec_l01DrawOf.f k c a s n = some (q, a', s') ∧ St c a' s' ∧ q.length = n := by
  unfold spec_l01DrawOf.f
  exact draw_of_loop c n hn n k 0 [] a s rfl (by omega) (by omega) hs

theorem path_l2 (c : List Int) (n m : Nat) (hn : n ≤ 12) (hm : m ≤ 40) (sec : Nat) (hsec : sec < m) (B : Nat)
    (IH : ∀ (K : Nat) (x7 : List S69) (x8 a s : Int), B ≤ K → St c a s → 0 < x7.length → x7.length ≤ 13 * (sec + 1) → ∃ p a' s', spec_l16DrawPath.l0 K n m x7 x8 ((sec + 1 : Nat) : Int) c a s = some (p, a', s') ∧ St c a' s' ∧ p.length ≤ 1000)
    (x10 : List Int) (h10 : 1 ≤ x10.length) (h10' : x10.length ≤ 13) (d : Nat) : ∀ (k i : Nat) (x7 : List S69) (a s : Int), i + d = x10.length → B + d + 1 ≤ k → St c a s → (0 < i → 0 < x7.length) → x7.length ≤ 13 * sec + i →
    ∃ p a' s', spec_l16DrawPath.l2 k n m x7 sec x10 i c a s = some (p, a', s') ∧ St c a' s' ∧ p.length ≤ 1000 := by
  induction d with
  | zero =>
    intro k i x7 a s hi hk hs h7 h7'
    obtain ⟨k, rfl⟩ : ∃ m, k = m + 1 := ⟨k - 1, by omega⟩
    simp only [spec_l16DrawPath.l2]
    rw [if_neg (by omega), w64 (n := (x10.length : Int) - 1) (by omega) (by omega), if_pos (by omega), if_pos (by omega), w64 (n := (sec : Int) + 1) (by omega) (by omega)]
    exact IH k x7 _ a s (by omega) hs (h7 (by omega)) (by omega)
  | succ d ih =>
    intro k i x7 a s hi hk hs h7 h7'
    obtain ⟨k, rfl⟩ : ∃ m, k = m + 1 := ⟨k - 1, by omega⟩
    simp only [spec_l16DrawPath.l2]
    rw [if_pos (by omega), if_pos (by omega), if_pos (by omega), w64 (n := (i : Int) + 1) (by omega) (by omega)]
    exact ih k (i + 1) _ a s (by omega) (by omega) hs (fun _ => by simp) (by simp; omega)
theorem path_l1 (c : List Int) (n m : Nat) (hn : n ≤ 12) (hm : m ≤ 40) (sec : Nat) (hsec : sec < m) (B : Nat)
    (IH : ∀ (K : Nat) (x7 : List S69) (x8 a s : Int), B ≤ K → St c a s → 0 < x7.length → x7.length ≤ 13 * (sec + 1) → ∃ p a' s', spec_l16DrawPath.l0 K n m x7 x8 ((sec + 1 : Nat) : Int) c a s = some (p, a', s') ∧ St c a' s' ∧ p.length ≤ 1000)
    (x7 : List S69) (h7 : x7.length ≤ 13 * sec) (x8 : Int) (x11 : List Int) (h11 : x11.length = n) (d : Nat) : ∀ (k i : Nat) (x10 : List Int) (a s : Int), i + d = n → B + d + 20 ≤ k → St c a s → 1 ≤ x10.length → x10.length ≤ 1 + i →
    ∃ p a' s', spec_l16DrawPath.l1 k n m x7 x8 sec x10 x11 i c a s = some (p, a', s') ∧ St c a' s' ∧ p.length ≤ 1000 := by
  induction d with
  | zero =>
    intro k i x10 a s hi hk hs h1 h2
    obtain ⟨k, rfl⟩ : ∃ m, k = m + 1 := ⟨k - 1, by omega⟩
    simp only [spec_l16DrawPath.l1]
    rw [if_neg (by omega)]
    exact path_l2 c n m hn hm sec hsec B IH x10 h1 (by omega) x10.length k 0 x7 a s (by omega) (by omega) hs (fun h => by omega) (by omega)
  | succ d ih =>
    intro k i x10 a s hi hk hs h1 h2
    obtain ⟨k, rfl⟩ : ∃ m, k = m + 1 := ⟨k - 1, by omega⟩
    simp only [spec_l16DrawPath.l1]
    rw [if_pos (by omega), if_pos (by omega), w64 (n := (i : Int) + 1) (by omega) (by omega)]
    by_cases e : rd x11 i = x8
    · rw [if_pos e]
      exact ih k (i + 1) x10 a s (by omega) (by omega) hs h1 (by omega)
    · rw [if_neg e, if_pos (by omega)]
      exact ih k (i + 1) _ a s (by omega) (by omega) hs (by simp) (by simp; omega)
theorem path_l0 (c : List Int) (n m : Nat) (hn : n ≤ 12) (hm : m ≤ 40) (d : Nat) : ∀ (k sec : Nat) (x7 : List S69) (x8 a s : Int), sec + d = m → d * 200 + 200 ≤ k → St c a s → (d = 0 → 0 < x7.length) → x7.length ≤ 13 * sec →
    ∃ p a' s', spec_l16DrawPath.l0 k n m x7 x8 sec c a s = some (p, a', s') ∧ St c a' s' ∧ p.length ≤ 1000 := by
  induction d with
  | zero =>
    intro k sec x7 x8 a s hsec hk hs h7 h7'
    obtain ⟨k, rfl⟩ : ∃ m, k = m + 1 := ⟨k - 1, by omega⟩
    have h7 := h7 rfl
    simp only [spec_l16DrawPath.l0]
    rw [if_neg (by omega), w64 (n := (n : Int) + 1) (by omega) (by omega), w64 (n := (m : Int) + 1) (by omega) (by omega)]
    obtain ⟨t, a1, s1, e1, hs1, t0, t1, t2⟩ := next_ok hs (x7.length : Int)
    have ht : t < (x7.length : Int) := by
      by_cases h1 : (1 : Int) < x7.length
      · exact t1 h1
      · have := t2 (by omega); omega
    rw [e1]
    simp only [Option.bind_some]
    obtain ⟨u, a2, s2, e2, hs2, _, _, _⟩ := next_ok hs1 16
    rw [e2]
    simp only [Option.bind_some]
    obtain ⟨u3, a3, s3, e3, hs3, _, _, _⟩ := next_ok hs2 ((n : Int) + 1)
    obtain ⟨u4, a4, s4, e4, hs4, _, _, _⟩ := next_ok hs2 ((m : Int) + 1)
    rw [e3, e4]
    simp only [Option.bind_some, if_pos t0, if_pos ht, if_pos (Int.le_of_lt ht)]
    split
    · exact ⟨_, _, _, rfl, hs3, by simp; omega⟩
    · split
      · exact ⟨_, _, _, rfl, hs2, by simp; omega⟩
      · split
        · exact ⟨_, _, _, rfl, hs4, by simp; omega⟩
        · split
          · exact ⟨_, _, _, rfl, hs2, by simp; omega⟩
          · exact ⟨_, _, _, rfl, hs2, by omega⟩
  | succ d ih =>
    intro k sec x7 x8 a s hsec hk hs h7 h7'
    obtain ⟨k, rfl⟩ : ∃ m, k = m + 1 := ⟨k - 1, by omega⟩
    simp only [spec_l16DrawPath.l0]
    rw [if_pos (by omega)]
    obtain ⟨q, a1, s1, e1, hs1, hq⟩ := draw_of c n (by omega) a s hs k (by omega)
    rw [e1]
    simp only [Option.bind_some]
    exact path_l1 c n m hn hm sec (by omega) (d * 200 + 200) (fun K y7 y8 b t hK hb hy hy' => ih K (sec + 1) y7 y8 b t (by omega) hK hb (fun _ => hy) (by omega)) x7 h7' x8 q hq n k 0 [x8] a1 s1 (by omega) (by omega) hs1 (by simp) (by simp)
theorem draw_path (c : List Int) (n m : Int) (a s : Int) (hs : St c a s) : ∃ p a' s', (∀ k, 9000 < k → spec_l16DrawPath.f k c a s n m = some (p, a', s')) ∧ St c a' s' ∧ p.length ≤ 1000 := by
  obtain ⟨b, e, hb⟩ := sewn_spec n m
  by_cases hc : b = true
  · have hS := hb.1 hc
    unfold Sewn at hS
    obtain ⟨N, rfl⟩ : ∃ N : Nat, n = N := ⟨n.toNat, by omega⟩
    obtain ⟨M, rfl⟩ : ∃ N : Nat, m = N := ⟨m.toNat, by omega⟩
    obtain ⟨r1, a1, s1, e1, hs1, _, _, _⟩ := next_ok hs (N : Int)
    obtain ⟨K, hK⟩ : ∃ K : Nat, K = 8300 := ⟨_, rfl⟩
    obtain ⟨p, a', s', e2, h2, h3⟩ := path_l0 c N M (by omega) (by omega) M K 0 [] r1 a1 s1 (by omega) (by omega) hs1 (by omega) (by simp)
    refine ⟨p, a', s', fun k hk => ?_, h2, h3⟩
    refine at_rounds (g := fun k => spec_l16DrawPath.f k c a s N M) (fun k => spec_l16DrawPath.mono c a s N M k) (show K ≤ k by omega) ?_
    show spec_l16DrawPath.f K c a s N M = _
    unfold spec_l16DrawPath.f
    rw [e, hc]
    simp only [Option.bind_some, if_true]
    rw [e1]
    simp only [Option.bind_some]
    exact e2
  · refine ⟨[], a, s, fun k hk => ?_, hs, by simp⟩
    unfold spec_l16DrawPath.f
    rw [e]
    simp only [Option.bind_some, if_neg hc]

theorem plain_paths (n m : Int) : ∃ p c, (∀ k, 5000 < k → impl_PlainPath.f k n m = some (p, c)) ∧ (∀ k, 5000 < k → spec_PlainPath.f k n m = some (p, c)) ∧ p.length ≤ 1000 ∧
    (c = 0 → Sewn n m ∧ n.tmod 2 ≠ 1 ∧ p = pl n.toNat (m.toNat * n.toNat) ∧ (p.length : Int) = wrap64 (n * m)) := by
  obtain ⟨b1, e1, h1⟩ := sewn_impl n m
  obtain ⟨b2, e2, h2⟩ := sewn_spec n m
  by_cases c1 : Sewn n m
  · obtain rfl := h1.2 c1
    obtain rfl := h2.2 c1
    by_cases c2 : n.tmod 2 = 1
    · refine ⟨[], 5, fun k hk => ?_, fun k hk => ?_, by simp, by simp⟩
      · unfold impl_PlainPath.f
        rw [e1]
        simp only [Option.bind_some, if_true, if_pos c2]
      · unfold spec_PlainPath.f
        rw [e2]
        simp only [Option.bind_some, if_true, if_pos c2]
    · have c1' := c1
      unfold Sewn at c1'
      obtain ⟨N, rfl⟩ : ∃ N : Nat, n = N := ⟨n.toNat, by omega⟩
      obtain ⟨M, rfl⟩ : ∃ N : Nat, m = N := ⟨m.toNat, by omega⟩
      have hNM : M * N ≤ 40 * 12 := Nat.mul_le_mul (by omega) (by omega)
      have hw : wrap64 ((N : Int) * M) = ((M * N : Nat) : Int) := by
        rw [show ((N : Int) * (M : Int)) = ((M * N : Nat) : Int) from by push_cast; rw [Int.mul_comm], w64 (by omega) (by omega)]
      refine ⟨pl N (M * N), 0, fun k hk => ?_, fun k hk => ?_, by rw [pl_len]; omega, fun _ => ⟨c1, c2, by simp, by rw [pl_len, hw]⟩⟩
      · unfold impl_PlainPath.f impl_plainPath.f
        rw [e1]
        simp only [Option.bind_some, if_true, if_neg c2]
        have := impl_plain N M (by omega) (by omega) M 0 (by omega) k (by omega)
        rw [Nat.zero_mul] at this
        rw [show (([] : List S69)) = pl N 0 from rfl, show (0 : Int) = ((0 : Nat) : Int) from rfl, this]
        rfl
      · unfold spec_PlainPath.f spec_l16Plain.f
        rw [e2]
        simp only [Option.bind_some, if_true, if_neg c2]
        have := spec_plain N M (by omega) (by omega) M 0 (by omega) k (by omega)
        rw [Nat.zero_mul] at this
        rw [show (([] : List S69)) = pl N 0 from rfl, show (0 : Int) = ((0 : Nat) : Int) from rfl, this]
        rfl
  · have hb1 : b1 = false := by rw [← Bool.not_eq_true, h1]; exact c1
    have hb2 : b2 = false := by rw [← Bool.not_eq_true, h2]; exact c1
    subst hb1 hb2
    refine ⟨[], 2, fun k hk => ?_, fun k hk => ?_, by simp, by simp⟩
    · unfold impl_PlainPath.f
      rw [e1]
      simp
    · unfold spec_PlainPath.f
      rw [e2]
      simp

/-- What the law says last. -/
theorem tail_ok (k : Nat) (hk : 5000 < k) (n m : Int) (p : List S69) (c : Int) (hc : c = 0 → Sewn n m ∧ n.tmod 2 ≠ 1 ∧ p = pl n.toNat (m.toNat * n.toNat) ∧ (p.length : Int) = wrap64 (n * m)) :
    (if c = 0 then ((impl_IsThreadPath.f k n m p).bind fun t => (if t = true then (some ((p.length : Int) == (wrap64 (n * m)))) else (some false))) else (some true)) = some true := by
  by_cases c0 : c = 0
  · rw [if_pos c0]
    obtain ⟨h1, h2, rfl, h4⟩ := hc c0
    obtain ⟨b, e1, _, hb⟩ := is_path n m (pl n.toNat (m.toNat * n.toNat))
    have : b = true := hb.2 ⟨h1, h2, plain_path _ _ (by have := h1.1.1; omega)⟩
    rw [e1 k hk, this]
    simp only [Option.bind_some, if_true]
    rw [← h4]
    simp
  · rw [if_neg c0]

theorem FnThreads : laws_FnThreads.Pure := by
  intro c hm hl hw
  have hb := bytes_of hw
  refine ⟨20000, ?_⟩
  unfold laws_FnThreads.f laws_big.f
  simp only [Option.bind_some]
  by_cases h4 : (c.length : Int) > 4096
  · rw [decide_eq_true h4, if_pos rfl]
  rw [decide_eq_false h4, if_neg (by simp)]
  obtain ⟨s, e0, hs⟩ := from_ok c hb (by omega)
  -- plain path
  obtain ⟨n1, m1, a1, s1, d1, hs1⟩ := draw_size c 0 s hs
  have g1 : spec_DrawPlainPath.f 20000 c = some (n1, m1) := by
    unfold spec_DrawPlainPath.f
    rw [e0 20000 (by omega)]
    simp only [Option.bind_some]
    rw [d1]
    rfl
  obtain ⟨p1, c1, i1, j1, l1, t1⟩ := plain_paths n1 m1
  -- is thread path
  obtain ⟨p2, a2, s2, d2, hs2, l2⟩ := draw_path c n1 m1 a1 s1 hs1
  have g2 : spec_DrawIsThreadPath.f 20000 c = some (n1, m1, p2) := by
    unfold spec_DrawIsThreadPath.f
    rw [e0 20000 (by omega)]
    simp only [Option.bind_some]
    rw [d1]
    simp only [Option.bind_some]
    rw [d2 20000 (by omega)]
    rfl
  obtain ⟨b2, i2, j2, t2⟩ := is_path n1 m1 p2
  -- path length
  obtain ⟨h3, a3, s3, d3, hs3, l3, l3'⟩ := draw_holes c 0 s hs
  obtain ⟨n4, m4, a4, s4, d4, hs4⟩ := draw_size c a3 s3 hs3
  obtain ⟨p4, a5, s5, d5, hs5, l5⟩ := draw_path c (h3.length : Int) m4 a4 s4 hs4
  obtain ⟨k4, a6, s6, d6, hs6⟩ := draw_link c a5 s5 hs5
  have g3 : spec_DrawPathLength.f 20000 c = some (h3, m4, p4, k4) := by
    unfold spec_DrawPathLength.f
    rw [e0 20000 (by omega)]
    simp only [Option.bind_some]
    rw [d3 20000 (by omega)]
    simp only [Option.bind_some]
    rw [d4]
    simp only [Option.bind_some]
    rw [d5 20000 (by omega)]
    simp only [Option.bind_some]
    rw [d6]
    rfl
  obtain ⟨v3, c3, i3, j3, t3, _⟩ := path_length h3 m4 k4 p4 (by omega)
  -- plain length
  obtain ⟨h7, a7, s7, d7, hs7, l7, l7'⟩ := draw_holes c a1 s1 hs1
  obtain ⟨k8, a8, s8, d8, hs8⟩ := draw_link c a7 s7 hs7
  have g4 : spec_DrawPlainLength.f 20000 c = some (h7, m1, k8) := by
    unfold spec_DrawPlainLength.f
    rw [e0 20000 (by omega)]
    simp only [Option.bind_some]
    rw [d1]
    simp only [Option.bind_some]
    rw [d7 20000 (by omega)]
    simp only [Option.bind_some]
    rw [d8]
    rfl
  obtain ⟨v4, c4, i4, j4, t4, t4'⟩ := plain_length h7 m1 k8 (by omega)
  obtain ⟨v5, c5, i5, j5, t5, t5'⟩ := plain_length h3 m4 k4 (by omega)
  rw [g1]
  simp only [Option.bind_some]
  rw [i1 20000 (by omega), j1 20000 (by omega)]
  simp only [Option.bind_some]
  rw [g2]
  simp only [Option.bind_some]
  rw [g3]
  simp only [Option.bind_some]
  rw [i3 20000 (by omega), j3 20000 (by omega)]
  simp only [Option.bind_some]
  rw [g4]
  simp only [Option.bind_some]
  rw [i4 20000 (by omega), j4 20000 (by omega)]
  simp only [Option.bind_some, if_true]
  have hlike : laws_likeStitches9.f 20000 p1 p1 = some true := by
    unfold laws_likeStitches9.f
    rw [if_pos rfl]
    exact likes p1 (by omega) p1.length 20000 0 (by omega) (by omega)
  rw [hlike]
  simp only [Option.bind_some, if_true]
  rw [i2 20000 (by omega), j2 20000 (by omega)]
  simp only [Option.bind_some, bne_self_eq_false, Bool.false_eq_true, if_false]
  have last : ∀ k, 6000 < k → (if c4 = 0 then (if 0 ≤ (wrap64 ((h7.length : Int) - 1)) then (if (wrap64 ((h7.length : Int) - 1)) < (h7.length : Int) then (if 0 < (h7.length : Int) then (if v4 = (wrap64 ((wrap64 (m1 * (wrap64 ((rd h7 (wrap64 ((h7.length : Int) - 1))) - (rd h7 0))))) + (wrap64 ((wrap64 (m1 - 1)) * k8)))) then (if c1 = 0 then ((impl_IsThreadPath.f k n1 m1 p1).bind fun t612 => (if t612 = true then (some ((p1.length : Int) == (wrap64 (n1 * m1)))) else (some false))) else (some true)) else (some false)) else (none)) else (none)) else (none)) else (if c1 = 0 then ((impl_IsThreadPath.f k n1 m1 p1).bind fun t613 => (if t613 = true then (some ((p1.length : Int) == (wrap64 (n1 * m1)))) else (some false))) else (some true))) = some true := by
    intro k hk
    by_cases c40 : c4 = 0
    · rw [if_pos c40]
      obtain ⟨hL, hev⟩ := t4 c40
      obtain ⟨_, rfl⟩ := t4' hL hev
      have hH := areH_true.1 hL.1
      have hP : Path h7.length m1.toNat (pl h7.length (m1.toNat * h7.length)) := plain_path _ _ hH.1
      obtain ⟨_, _, w3, w4, w5⟩ := path_value hL hP
      rw [plain_all hH (by have := hL.2.1.1; omega)]
      have hm1 : ((m1.toNat : Nat) : Int) = m1 := by have := hL.2.1.1; omega
      rw [hm1, w64 (n := (h7.length : Int) - 1) (by omega) (by omega)]
      have r0 := holes_rd hH 0 (by omega) (by omega)
      have r1 := holes_rd hH ((h7.length : Int) - 1) (by omega) (by omega)
      have r2 := holes_le hH (h7.length - 1) 0 ((h7.length : Int) - 1) (by omega) (by omega) (by omega)
      have hm2 := hL.2.1
      have q0 : 0 ≤ m1 * (rd h7 ((h7.length : Int) - 1) - rd h7 0) := Int.mul_nonneg (by omega) (by omega)
      have q1 : m1 * (rd h7 ((h7.length : Int) - 1) - rd h7 0) ≤ 40 * (rd h7 ((h7.length : Int) - 1) - rd h7 0) := Int.mul_le_mul_of_nonneg_right (by omega) (by omega)
      rw [w3, w64 (n := rd h7 ((h7.length : Int) - 1) - rd h7 0) (by omega) (by omega), w64 (n := m1 * (rd h7 ((h7.length : Int) - 1) - rd h7 0)) (by omega) (by omega), w64 (by omega) (by omega), if_pos (by omega), if_pos (by omega), if_pos (by omega), if_pos (by omega)]
      exact tail_ok k (by omega) n1 m1 p1 c1 t1
    · rw [if_neg c40]
      exact tail_ok k (by omega) n1 m1 p1 c1 t1
  have mid : ∀ b : Bool, b = false → laws_FnThreads.j1 19999 n1 m1 p1 c1 h7 m1 k8 v4 c4 b = some true := by
    rintro b rfl
    simp only [laws_FnThreads.j1, Bool.false_eq_true, if_false]
    exact last 19998 (by omega)
  show laws_FnThreads.j0 20000 n1 m1 p1 c1 h3 m4 k4 v3 c3 h7 m1 k8 v4 c4 false = some true
  simp only [laws_FnThreads.j0, Bool.false_eq_true, if_false]
  by_cases c30 : c3 = 0
  · rw [if_pos c30]
    obtain ⟨hL, hev, hP, rfl⟩ := t3 c30
    obtain ⟨rfl, rfl⟩ := t5' hL hev
    rw [i5 19999 (by omega)]
    simp only [Option.bind_some, if_true]
    have hH := areH_true.1 hL.1
    obtain ⟨_, _, w3, w4, w5⟩ := path_value hL hP
    have hSm := Sm_ok hH hP (h3.length * m4.toNat) (Nat.le_refl _)
    rw [w3, if_neg (by omega)]
    by_cases h2 : (h3.length : Int) = 2
    · rw [if_pos h2]
      refine mid _ ?_
      have h2' : h3.length = 2 := by omega
      have x1 := two_sum hH h2' hP.sect m4.toNat (Nat.le_refl _)
      have x2 := two_sum hH h2' (plain_path h3.length m4.toNat hH.1).sect m4.toNat (Nat.le_refl _)
      rw [show 2 * m4.toNat = h3.length * m4.toNat from by rw [show h3.length = 2 from by omega]] at x1 x2
      rw [x1, x2]
      simp
    · rw [if_neg h2]
      exact mid _ rfl
  · rw [if_neg c30]
    exact last 19999 (by omega)
end Go.Proofs.Ytkcbihfhbojckaa.Pure
