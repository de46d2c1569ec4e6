/- Thread paths: program and reference tell the same paths apart: those whose sections hold every hole once, labelled in order and linked. Plain laws of the printed functions. No conditions. -/
import Derived.Test.YtkcbihfhbojckaaX9
import Derived.Test.YtkcbihfhbojckaaPureHoles
namespace Go.Proofs.Ytkcbihfhbojckaa.Pure
open Go.RowKit Go.Proofs.Ytkcbihfhbojckaa.X Go.Proofs.YtkcbihfhbojckaaW.PrintWords Go.Proofs.YtkcbihfhbojckaaW.PrintLast
set_option linter.unusedVariables false
set_option linter.unusedSimpArgs false

def P (p : List S69) (j : Nat) : S69 := p.getD j z69
theorem rdT (p : List S69) (j : Nat) : rd_T69 p (j : Int) = P p j := by simp [rd_T69, P]

/-- What a section of a path must be. -/
structure Sect (n : Nat) (p : List S69) (s : Nat) : Prop where
  lab : ∀ i : Nat, i < n → (P p (s * n + i)).f0 = s ∧ (P p (s * n + i)).f2 = (Int.tmod (i : Int) 2 == 0)
  link : 0 < s * n → (P p (s * n - 1)).f1 = (P p (s * n)).f1
  rng : ∀ i : Nat, i < n → 0 ≤ (P p (s * n + i)).f1 ∧ (P p (s * n + i)).f1 ≤ (n : Int) - 1
  inj : ∀ i : Nat, i < n → ∀ j : Nat, j < i → (P p (s * n + j)).f1 ≠ (P p (s * n + i)).f1

def hs (n : Nat) (p : List S69) (s i : Nat) : List Int := (List.range i).map fun j => (P p (s * n + j)).f1
theorem hs_len (n : Nat) (p : List S69) (s i : Nat) : (hs n p s i).length = i := by simp [hs]
theorem hs_succ (n : Nat) (p : List S69) (s i : Nat) : hs n p s (i + 1) = hs n p s i ++ [(P p (s * n + i)).f1] := by simp [hs, List.range_succ]
theorem rd_hs (n : Nat) (p : List S69) (s i j : Nat) (h : j < i) : rd (hs n p s i) (j : Int) = (P p (s * n + j)).f1 := by
  unfold rd hs
  simp [List.getD_eq_getElem?_getD, List.getElem?_map, List.getElem?_range, h]

theorem order_loop (l : List Int) (hl : l.length ≤ 64) (d : Nat) : ∀ (k i : Nat) (marks : List Bool), marks.length = l.length → i + d = l.length → d < k →
    ∃ b, impl_IsOrder.l0 k l marks l (l.length : Int) (i : Int) = some b ∧ (b = true ↔ ∀ j : Nat, i ≤ j → j < l.length → (0 ≤ rd l j ∧ rd l j ≤ (l.length : Int) - 1) ∧ marks.getD (rd l j).toNat false = false ∧ ∀ j' : Nat, i ≤ j' → j' < j → rd l j' ≠ rd l j) := by
  induction d with
  | zero =>
    intro k i marks hm hi hk
    obtain ⟨k, rfl⟩ : ∃ m, k = m + 1 := ⟨k - 1, by omega⟩
    simp only [impl_IsOrder.l0]
    rw [if_neg (by omega)]
    exact ⟨true, rfl, by simp; omega⟩
  | succ d ih =>
    intro k i marks hm hi hk
    obtain ⟨k, rfl⟩ : ∃ m, k = m + 1 := ⟨k - 1, by omega⟩
    simp only [impl_IsOrder.l0]
    rw [if_pos (by omega), if_pos (by omega), if_pos (by omega)]
    simp only [impl_length_int64.f, Option.bind_some]
    rw [w64 (n := (l.length : Int) - 1) (by omega) (by omega), in_impl]
    simp only [Option.bind_some]
    obtain ⟨v, hv⟩ : ∃ v, v = rd l i := ⟨_, rfl⟩
    rw [← hv]
    by_cases c1 : 0 ≤ v ∧ v ≤ (l.length : Int) - 1
    · rw [decide_eq_true c1, if_pos rfl, if_pos c1.1, if_pos (by omega)]
      by_cases c2 : rdOf false marks v = true
      · rw [if_pos c2]
        refine ⟨false, rfl, ?_⟩
        constructor
        · intro h; simp at h
        · intro h
          have := (h i (Nat.le_refl _) (by omega)).2.1
          rw [← hv] at this
          unfold rdOf at c2
          rw [this] at c2
          simp at c2
      · rw [if_neg c2, w64 (n := (i : Int) + 1) (by omega) (by omega)]
        obtain ⟨b, e, hb⟩ := ih k (i + 1) (marks.set v.toNat true) (by simp [hm]) (by omega) (by omega)
        refine ⟨b, by rw [show ((i : Int) + 1) = ((i + 1 : Nat) : Int) from by omega]; exact e, hb.trans ?_⟩
        have c2' : marks.getD v.toNat false = false := by
          unfold rdOf at c2
          simpa using c2
        have hset : ∀ u : Nat, (marks.set v.toNat true).getD u false = if u = v.toNat then true else marks.getD u false := by
          intro u
          rw [List.getD_eq_getElem?_getD, List.getD_eq_getElem?_getD, List.getElem?_set]
          by_cases hu : v.toNat = u
          · subst hu
            rw [if_pos rfl, if_pos (by omega), if_pos rfl]
            rfl
          · rw [if_neg hu, if_neg (fun e => hu e.symm)]
        constructor
        · intro h j h1 h2
          by_cases hj : j = i
          · subst hj
            rw [← hv]
            exact ⟨c1, c2', fun j' a b => by omega⟩
          · obtain ⟨g1, g2, g3⟩ := h j (by omega) h2
            rw [hset] at g2
            by_cases hu : (rd l j).toNat = v.toNat
            · rw [if_pos hu] at g2; simp at g2
            · rw [if_neg hu] at g2
              refine ⟨g1, g2, fun j' a b => ?_⟩
              by_cases hj' : j' = i
              · subst hj'
                intro e
                rw [← hv] at e
                exact hu (by rw [e])
              · exact g3 j' (by omega) b
        · intro h j h1 h2
          obtain ⟨g1, g2, g3⟩ := h j (by omega) h2
          have g4 := g3 i (Nat.le_refl _) (by omega)
          rw [← hv] at g4
          refine ⟨g1, ?_, fun j' a b => g3 j' (by omega) b⟩
          rw [hset, if_neg (by omega)]
          exact g2
    · rw [decide_eq_false c1, if_neg (by simp)]
      refine ⟨false, rfl, ?_⟩
      constructor
      · intro h; simp at h
      · intro h
        have := (h i (Nat.le_refl _) (by omega)).1
        rw [← hv] at this
        exact absurd this c1

theorem order_ok (l : List Int) (hl : l.length ≤ 64) (k : Nat) (hk : 70 < k) : ∃ b, impl_IsOrder.f k l = some b ∧ (b = true ↔ ∀ j : Nat, j < l.length → (0 ≤ rd l j ∧ rd l j ≤ (l.length : Int) - 1) ∧ ∀ j' : Nat, j' < j → rd l j' ≠ rd l j) := by
  unfold impl_IsOrder.f
  rw [if_neg (by omega), if_pos (by omega), if_pos (by omega)]
  obtain ⟨b, e, hb⟩ := order_loop l hl l.length k 0 (List.replicate ((l.length : Int) : Int).toNat false) (by simp) (by omega) (by omega)
  refine ⟨b, e, hb.trans ?_⟩
  constructor
  · intro h j h1
    obtain ⟨g1, _, g3⟩ := h j (by omega) h1
    exact ⟨g1, fun j' a => g3 j' (by omega) a⟩
  · intro h j _ h1
    obtain ⟨g1, g3⟩ := h j h1
    refine ⟨g1, ?_, fun j' _ a => g3 j' a⟩
    rw [List.getD_eq_getElem?_getD, List.getElem?_replicate]
    split <;> rfl

theorem ix (s n i m : Nat) (hs : s < m) (hi : i < n) (hm : m ≤ 40) (hn : n ≤ 12) : wrap64 ((wrap64 ((s : Int) * (n : Int))) + (i : Int)) = ((s * n + i : Nat) : Int) ∧ s * n + i < n * m ∧ s * n + i < 500 := by
  have h1 : (s + 1) * n ≤ m * n := Nat.mul_le_mul_right n hs
  have h2 : m * n ≤ 40 * 12 := Nat.mul_le_mul hm hn
  rw [Nat.succ_mul] at h1
  rw [Nat.mul_comm n m]
  have h3 : ((s : Int) * (n : Int)) = ((s * n : Nat) : Int) := by push_cast; rfl
  rw [h3]
  generalize s * n = q at *
  generalize m * n = r at *
  rw [w64 (n := (q : Int)) (by omega) (by omega), w64 (by omega) (by omega)]
  omega

theorem impl_sect (n m : Nat) (p : List S69) (hn : n ≤ 12) (hm : m ≤ 40) (hp : p.length = n * m) (s : Nat) (hs0 : s < m) (B : Nat) (b : Bool)
    (IH : ∀ K, B ≤ K → impl_IsThreadPath.l0 K n p m ((s + 1 : Nat) : Int) = some b) (d : Nat) : ∀ (k i : Nat), i + d = n → B + d + 80 ≤ k →
    ∃ c, impl_IsThreadPath.l1 k n p s (hs n p s i) m s n i = some c ∧ (c = true ↔ (∀ j : Nat, i ≤ j → j < n → (P p (s * n + j)).f0 = s ∧ (P p (s * n + j)).f2 = (Int.tmod (j : Int) 2 == 0)) ∧ (i = 0 → d ≠ 0 → 0 < s * n → (P p (s * n - 1)).f1 = (P p (s * n)).f1) ∧ (∀ j : Nat, j < n → (0 ≤ (P p (s * n + j)).f1 ∧ (P p (s * n + j)).f1 ≤ (n : Int) - 1) ∧ ∀ j' : Nat, j' < j → (P p (s * n + j')).f1 ≠ (P p (s * n + j)).f1) ∧ b = true) := by
  induction d with
  | zero =>
    intro k i hi hk
    obtain ⟨k, rfl⟩ : ∃ m, k = m + 1 := ⟨k - 1, by omega⟩
    simp only [impl_IsThreadPath.l1]
    rw [if_neg (by omega)]
    obtain ⟨c, e, hc⟩ := order_ok (hs n p s i) (by rw [hs_len]; omega) k (by omega)
    rw [e]
    simp only [Option.bind_some]
    rw [hs_len] at hc
    have hc' : c = true ↔ ∀ j : Nat, j < n → (0 ≤ (P p (s * n + j)).f1 ∧ (P p (s * n + j)).f1 ≤ (n : Int) - 1) ∧ ∀ j' : Nat, j' < j → (P p (s * n + j')).f1 ≠ (P p (s * n + j)).f1 := by
      refine hc.trans ?_
      constructor
      · intro h j hj
        obtain ⟨g1, g2⟩ := h j (by omega)
        rw [rd_hs n p s i j (by omega)] at g1
        refine ⟨by omega, fun j' a => ?_⟩
        have g3 := g2 j' a
        rwa [rd_hs n p s i j (by omega), rd_hs n p s i j' (by omega)] at g3
      · intro h j hj
        obtain ⟨g1, g2⟩ := h j (by omega)
        rw [rd_hs n p s i j (by omega)]
        refine ⟨by omega, fun j' a => ?_⟩
        rw [rd_hs n p s i j' (by omega)]
        exact g2 j' a
    by_cases c1 : c = true
    · rw [if_pos c1, w64 (n := (s : Int) + 1) (by omega) (by omega)]
      refine ⟨b, IH k (by omega), ?_⟩
      constructor
      · intro h
        exact ⟨fun j a b => by omega, fun _ h => absurd rfl h, hc'.1 c1, h⟩
      · intro h; exact h.2.2.2
    · rw [if_neg c1]
      refine ⟨false, rfl, ?_⟩
      constructor
      · intro h; simp at h
      · intro h; exact absurd (hc'.2 h.2.2.1) c1
  | succ d ih =>
    intro k i hi hk
    obtain ⟨k, rfl⟩ : ∃ m, k = m + 1 := ⟨k - 1, by omega⟩
    simp only [impl_IsThreadPath.l1]
    obtain ⟨x1, x2, x3⟩ := ix s n i m hs0 (by omega) hm hn
    rw [if_pos (by omega), x1, rdT]
    rw [if_pos (by omega), if_pos (by omega)]
    obtain ⟨c, e, hc⟩ := ih k (i + 1) (by omega) (by omega)
    rw [hs_succ, show ((i + 1 : Nat) : Int) = (i : Int) + 1 from by omega] at e
    have hl8 : (hs n p s i).length < 17592186044416 := by rw [hs_len]; omega
    rw [w64 (n := (i : Int) + 1) (by omega) (by omega)]
    simp only [if_pos hl8]
    rw [e]
    by_cases c1 : (P p (s * n + i)).f0 = s
    · rw [if_pos c1]
      by_cases c2 : (P p (s * n + i)).f2 = (Int.tmod (i : Int) 2 == 0)
      · rw [if_neg (by rw [c2]; simp)]
        have all : (∀ j : Nat, i ≤ j → j < n → (P p (s * n + j)).f0 = s ∧ (P p (s * n + j)).f2 = (Int.tmod (j : Int) 2 == 0)) ↔ (∀ j : Nat, i + 1 ≤ j → j < n → (P p (s * n + j)).f0 = s ∧ (P p (s * n + j)).f2 = (Int.tmod (j : Int) 2 == 0)) := by
          constructor
          · exact fun h j a b => h j (by omega) b
          · intro h j a b
            by_cases hj : j = i
            · subst hj; exact ⟨c1, c2⟩
            · exact h j (by omega) b
        by_cases c3 : (i : Int) = 0
        · obtain rfl : i = 0 := by omega
          rw [if_pos c3]
          by_cases c4 : 0 < s * n
          · rw [if_pos (by omega), w64 (n := ((s * n + 0 : Nat) : Int) - 1) (by omega) (by omega), if_pos (by omega), if_pos (by omega), show ((s * n + 0 : Nat) : Int) - 1 = ((s * n - 1 : Nat) : Int) from by omega, rdT]
            by_cases c5 : (P p (s * n - 1)).f1 = (P p (s * n + 0)).f1
            · rw [if_pos c5]
              refine ⟨c, rfl, hc.trans ?_⟩
              rw [all]
              constructor
              · exact fun h => ⟨h.1, fun _ _ _ => c5, h.2.2⟩
              · exact fun h => ⟨h.1, fun h => by omega, h.2.2⟩
            · rw [if_neg c5]
              refine ⟨false, rfl, ?_⟩
              constructor
              · intro h; simp at h
              · intro h; exact absurd (h.2.1 rfl (by omega) c4) c5
          · rw [if_neg (by omega)]
            refine ⟨c, rfl, hc.trans ?_⟩
            rw [all]
            constructor
            · exact fun h => ⟨h.1, fun _ _ h => absurd h c4, h.2.2⟩
            · exact fun h => ⟨h.1, fun h => by omega, h.2.2⟩
        · rw [if_neg c3]
          refine ⟨c, rfl, hc.trans ?_⟩
          rw [all]
          constructor
          · exact fun h => ⟨h.1, fun h => by omega, h.2.2⟩
          · exact fun h => ⟨h.1, fun h => by omega, h.2.2⟩
      · rw [if_pos (by simp [c2])]
        refine ⟨false, rfl, ?_⟩
        constructor
        · intro h; simp at h
        · intro h; exact absurd (h.1 i (Nat.le_refl _) (by omega)).2 c2
    · rw [if_neg c1]
      refine ⟨false, rfl, ?_⟩
      constructor
      · intro h; simp at h
      · intro h; exact absurd (h.1 i (Nat.le_refl _) (by omega)).1 c1

theorem impl_path (n m : Nat) (p : List S69) (hn0 : 2 ≤ n) (hn : n ≤ 12) (hm : m ≤ 40) (hp : p.length = n * m) (d : Nat) : ∀ s : Nat, s + d = m →
    ∃ b, (∀ k, d * 100 + 1 ≤ k → impl_IsThreadPath.l0 k n p m (s : Int) = some b) ∧ (b = true ↔ ∀ t : Nat, s ≤ t → t < m → Sect n p t) := by
  induction d with
  | zero =>
    intro s hs0
    refine ⟨true, fun k hk => ?_, by simp; omega⟩
    obtain ⟨k, rfl⟩ : ∃ m, k = m + 1 := ⟨k - 1, by omega⟩
    simp only [impl_IsThreadPath.l0]
    rw [if_neg (by omega)]
  | succ d ih =>
    intro s hs0
    obtain ⟨b, e, hb⟩ := ih (s + 1) (by omega)
    obtain ⟨c, e1, hc⟩ := impl_sect n m p hn hm hp s (by omega) (d * 100 + 1) b e n (d * 100 + n + 81) 0 (by omega) (by omega)
    refine ⟨c, fun k hk => ?_, hc.trans ?_⟩
    · obtain ⟨k, rfl⟩ : ∃ m, k = m + 1 := ⟨k - 1, by omega⟩
      simp only [impl_IsThreadPath.l0]
      rw [if_pos (by omega)]
      exact at_rounds (g := fun k => impl_IsThreadPath.l1 k n p s (([] : List Int)) m s n 0) (fun k => (impl_IsThreadPath.mono_l k).2.2 n p s [] m s n 0) (show d * 100 + n + 81 ≤ k by omega) e1
    · constructor
      · rintro ⟨h1, h2, h3, h4⟩ t ht hm'
        by_cases hts : t = s
        · subst hts
          exact ⟨fun i hi => h1 i (by omega) hi, fun h => h2 rfl (by omega) h, fun i hi => (h3 i hi).1, fun i hi => (h3 i hi).2⟩
        · exact hb.1 h4 t (by omega) hm'
      · intro h
        have hS := h s (Nat.le_refl _) (by omega)
        exact ⟨fun j _ hj => hS.lab j hj, fun _ _ h => hS.link h, fun j hj => ⟨hS.rng j hj, hS.inj j hj⟩, hb.2 fun t a b => h t (by omega) b⟩
end Go.Proofs.Ytkcbihfhbojckaa.Pure
