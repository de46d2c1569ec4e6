/- Thread paths: how long a path is: program and reference add up the same. Plain laws of the printed functions. No conditions. -/
import Derived.Test.YtkcbihfhbojckaaX11
import Derived.Test.YtkcbihfhbojckaaPureThreadsB
namespace Go.Proofs.Ytkcbihfhbojckaa.Pure
open Go.RowKit Go.Proofs.Ytkcbihfhbojckaa.X Go.Proofs.YtkcbihfhbojckaaW.PrintWords Go.Proofs.YtkcbihfhbojckaaW.PrintLast Go.Proofs.YtkcbihfhbojckaaW.PrintMore
set_option linter.unusedVariables false

def Leg (l : List Int) (m link : Int) : Prop := areH l = true ∧ (1 ≤ m ∧ m ≤ 40) ∧ 0 ≤ link ∧ link ≤ 1000000000
noncomputable instance (l : List Int) (m link : Int) : Decidable (Leg l m link) := by unfold Leg; infer_instance
theorem check_leg (l : List Int) (m link : Int) (hl : l.length ≤ 100) (k : Nat) (hk : 300 < k) :
    (¬ Leg l m link → impl_checkThread.f k l m link = some 2) ∧ (Leg l m link → (l.length : Int) % 2 = 1 → impl_checkThread.f k l m link = some 5) ∧ (Leg l m link → (l.length : Int) % 2 ≠ 1 → impl_checkThread.f k l m link = some 0) := by
  obtain ⟨k', rfl⟩ : ∃ m, k = m + 1 := ⟨k - 1, by omega⟩
  unfold impl_checkThread.f impl_isLength.f
  rw [impl_are l (by omega) _ (by omega), in_impl, in_impl]
  simp only [Option.bind_some, impl_checkThread.j0]
  unfold Leg
  by_cases c1 : areH l = true
  · by_cases c2 : 1 ≤ m ∧ m ≤ 40
    · by_cases c3 : 0 ≤ link ∧ link ≤ 1000000000
      · refine ⟨fun h => absurd ⟨c1, c2, c3⟩ h, fun _ h => ?_, fun _ h => ?_⟩
        · rw [if_pos c1, decide_eq_true c2, if_pos rfl, decide_eq_true c3, if_neg (by simp), if_pos h]
        · rw [if_pos c1, decide_eq_true c2, if_pos rfl, decide_eq_true c3, if_neg (by simp), if_neg h]
      · refine ⟨fun _ => ?_, fun h => absurd h.2.2 c3, fun h => absurd h.2.2 c3⟩
        rw [if_pos c1, decide_eq_true c2, if_pos rfl, decide_eq_false c3, if_pos (by simp)]
    · refine ⟨fun _ => ?_, fun h => absurd h.2.1 c2, fun h => absurd h.2.1 c2⟩
      rw [if_pos c1, decide_eq_false c2, if_neg (by simp), if_pos (by simp)]
  · refine ⟨fun _ => ?_, fun h => absurd h.1 c1, fun h => absurd h.1 c1⟩
    rw [if_neg c1, if_pos (by simp)]

-- the sum of the ways within sections
def gap (l : List Int) (p : List S69) (j : Nat) : Int := mx (rd l (P p j).f1 - rd l (P p (j - 1)).f1) (-(rd l (P p j).f1 - rd l (P p (j - 1)).f1))
def dst (l : List Int) (p : List S69) (j : Nat) : Int := if (P p j).f0 = (P p (j - 1)).f0 then gap l p j else 0
def Sm (l : List Int) (p : List S69) : Nat → Int
  | 0 => 0
  | j + 1 => Sm l p j + (if j = 0 then 0 else dst l p j)

theorem in_path {n m : Nat} {p : List S69} (h : Path n m p) (hn0 : 2 ≤ n) (j : Nat) (hj : j < n * m) : j / n < m ∧ j % n < n ∧ (P p j).f0 = ((j / n : Nat) : Int) ∧ 0 ≤ (P p j).f1 ∧ (P p j).f1 ≤ (n : Int) - 1 := by
  have h1 : j / n < m := Nat.div_lt_of_lt_mul hj
  have h2 : j % n < n := Nat.mod_lt _ (by omega)
  have h3 : j / n * n + j % n = j := Nat.div_add_mod' j n
  have hS := h.sect (j / n) h1
  have a := hS.lab (j % n) h2
  have b := hS.rng (j % n) h2
  rw [h3] at a b
  exact ⟨h1, h2, a.1, b⟩
theorem holes_rd {l : List Int} (hH : Holes l) (i : Int) (h0 : 0 ≤ i) (h1 : i ≤ (l.length : Int) - 1) : 0 ≤ rd l i ∧ rd l i ≤ 20000 := hH.2.2.1 i h0 (by omega)
theorem mx_abs (a : Int) : mx a (-a) = if a < 0 then -a else a := by
  unfold mx; split <;> split <;> omega
theorem gap_ok {l : List Int} {m : Nat} {p : List S69} (hH : Holes l) (h : Path l.length m p) (j : Nat) (h0 : 0 < j) (hj : j < l.length * m) : 0 ≤ gap l p j ∧ gap l p j ≤ 20000 ∧
    mx (wrap64 (rd l (P p j).f1 - rd l (P p (j - 1)).f1)) (wrap64 (-(wrap64 (rd l (P p j).f1 - rd l (P p (j - 1)).f1)))) = gap l p j := by
  have a := in_path h hH.1 j hj
  have b := in_path h hH.1 (j - 1) (by omega)
  have c := holes_rd hH (P p j).f1 a.2.2.2.1 a.2.2.2.2
  have d := holes_rd hH (P p (j - 1)).f1 b.2.2.2.1 b.2.2.2.2
  unfold gap
  generalize rd l (P p j).f1 = x at *
  generalize rd l (P p (j - 1)).f1 = y at *
  rw [w64 (n := x - y) (by omega) (by omega), w64 (n := -(x - y)) (by omega) (by omega), mx_abs]
  split <;> omega
theorem dst_ok {l : List Int} {m : Nat} {p : List S69} (hH : Holes l) (h : Path l.length m p) (j : Nat) (h0 : 0 < j) (hj : j < l.length * m) : 0 ≤ dst l p j ∧ dst l p j ≤ 20000 := by
  have := gap_ok hH h j h0 hj
  unfold dst; split <;> omega
theorem Sm_ok {l : List Int} {m : Nat} {p : List S69} (hH : Holes l) (h : Path l.length m p) (j : Nat) (hj : j ≤ l.length * m) : 0 ≤ Sm l p j ∧ Sm l p j ≤ 20000 * j := by
  induction j with
  | zero => simp [Sm]
  | succ j ih =>
    have ih := ih (by omega)
    simp only [Sm]
    by_cases c : j = 0
    · subst c; simp [Sm]
    · rw [if_neg c]
      have := dst_ok hH h j (by omega) (by omega)
      push_cast
      omega

theorem impl_len_loop {l : List Int} {m : Nat} {p : List S69} (hH : Holes l) (h : Path l.length m p) (hm : m ≤ 40) (base : Int) (hb0 : 0 ≤ base) (hb1 : base ≤ 40000000000) (d : Nat) : ∀ (k j : Nat), 1 ≤ j → j + d = l.length * m → d < k →
    impl_PathLength.l0 k l p (base + Sm l p j) (j : Int) = some (base + Sm l p (l.length * m), 0) := by
  have hnm : l.length * m ≤ 12 * 40 := Nat.mul_le_mul hH.2.1 hm
  have hlen := h.len
  induction d with
  | zero =>
    intro k j h1 hj hk
    obtain ⟨k, rfl⟩ : ∃ m, k = m + 1 := ⟨k - 1, by omega⟩
    simp only [impl_PathLength.l0]
    rw [if_neg (by omega), show j = l.length * m from by omega]
  | succ d ih =>
    intro k j h1 hj hk
    obtain ⟨k, rfl⟩ : ∃ m, k = m + 1 := ⟨k - 1, by omega⟩
    simp only [impl_PathLength.l0]
    have e := ih k (j + 1) (by omega) (by omega) (by omega)
    have a := in_path h hH.1 j (by omega)
    have b := in_path h hH.1 (j - 1) (by omega)
    obtain ⟨g0, g1, g2⟩ := gap_ok hH h j (by omega) (by omega)
    have s := Sm_ok hH h j (by omega)
    rw [if_pos (by omega), w64 (n := (j : Int) - 1) (by omega) (by omega), if_pos (by omega), if_pos (by omega), if_pos (by omega), show (j : Int) - 1 = ((j - 1 : Nat) : Int) from by omega, rdT, rdT, w64 (n := (j : Int) + 1) (by omega) (by omega)]
    simp only [Sm, if_neg (show ¬ j = 0 by omega), dst] at e
    rw [show ((j + 1 : Nat) : Int) = (j : Int) + 1 from by omega] at e
    by_cases c : (P p (j - 1)).f0 = (P p j).f0
    · rw [if_pos c, if_pos a.2.2.2.1, if_pos (by omega), if_pos b.2.2.2.1, if_pos (by omega), g2, w64 (n := base + Sm l p j + gap l p j) (by omega) (by omega)]
      rw [if_pos c.symm, ← Int.add_assoc] at e
      exact e
    · rw [if_neg c]
      rw [if_neg (fun h => c h.symm), Int.add_zero] at e
      exact e

theorem step_div (n j : Nat) (hn : 0 < n) (hj : 0 < j) : (j / n = (j - 1) / n ∧ j % n ≠ 0) ∨ (j / n = (j - 1) / n + 1 ∧ j % n = 0) := by
  obtain ⟨i, rfl⟩ : ∃ i, j = i + 1 := ⟨j - 1, by omega⟩
  simp only [Nat.add_sub_cancel]
  have h3 := Nat.div_add_mod i n
  have h2 : i % n < n := Nat.mod_lt _ hn
  by_cases c : i % n + 1 < n
  · left
    have e : i + 1 = n * (i / n) + (i % n + 1) := by omega
    rw [e, Nat.mul_add_div hn, Nat.div_eq_of_lt c, Nat.mul_add_mod, Nat.mod_eq_of_lt c]
    omega
  · right
    have e : i + 1 = n * (i / n + 1) := by rw [Nat.mul_add]; omega
    rw [e, Nat.mul_div_cancel_left _ hn, Nat.mul_mod_right]
    omega

theorem spec_len_loop {l : List Int} {m : Nat} {p : List S69} (hH : Holes l) (h : Path l.length m p) (hm : m ≤ 40) (link : Int) (hb0 : 0 ≤ link) (hb1 : link ≤ 1000000000) (d : Nat) : ∀ (k j : Nat), 1 ≤ j → j + d = l.length * m → d < k →
    spec_l16Length.l0 k l p link (Sm l p j + (((j - 1) / l.length : Nat) : Int) * link) (j : Int) = some (Sm l p (l.length * m) + (((l.length * m - 1) / l.length : Nat) : Int) * link) := by
  have hnm : l.length * m ≤ 12 * 40 := Nat.mul_le_mul hH.2.1 hm
  have hlen := h.len
  induction d with
  | zero =>
    intro k j h1 hj hk
    obtain ⟨k, rfl⟩ : ∃ m, k = m + 1 := ⟨k - 1, by omega⟩
    simp only [spec_l16Length.l0]
    rw [if_neg (by omega), show j = l.length * m from by omega]
  | succ d ih =>
    intro k j h1 hj hk
    obtain ⟨k, rfl⟩ : ∃ m, k = m + 1 := ⟨k - 1, by omega⟩
    simp only [spec_l16Length.l0]
    have e := ih k (j + 1) (by omega) (by omega) (by omega)
    have a := in_path h hH.1 j (by omega)
    have b := in_path h hH.1 (j - 1) (by omega)
    obtain ⟨g0, g1, g2⟩ := gap_ok hH h j (by omega) (by omega)
    have s := Sm_ok hH h j (by omega)
    have sd := step_div l.length j (by have := hH.1; omega) (by omega)
    have hq : ((((j - 1) / l.length : Nat) : Int) * link) ≤ 40 * 1000000000 ∧ 0 ≤ ((((j - 1) / l.length : Nat) : Int) * link) := by
      have hb := b.1
      constructor
      · have h1 : ((((j - 1) / l.length : Nat) : Int) * link) ≤ 40 * link := Int.mul_le_mul_of_nonneg_right (by omega) hb0
        omega
      · exact Int.mul_nonneg (Int.natCast_nonneg _) hb0
    rw [if_pos (by omega), if_pos (by omega), rdT, if_pos a.2.2.2.1, if_pos (by omega), w64 (n := (j : Int) - 1) (by omega) (by omega), if_pos (by omega), if_pos (by omega), show (j : Int) - 1 = ((j - 1 : Nat) : Int) from by omega, rdT, if_pos b.2.2.2.1, if_pos (by omega), w64 (n := (j : Int) + 1) (by omega) (by omega)]
    simp only [Sm, if_neg (show ¬ j = 0 by omega), dst, Nat.add_sub_cancel] at e
    rw [show ((j + 1 : Nat) : Int) = (j : Int) + 1 from by omega] at e
    by_cases c : (P p j).f0 = (P p (j - 1)).f0
    · rw [if_pos c, g2, w64 (n := Sm l p j + (((j - 1) / l.length : Nat) : Int) * link + gap l p j) (by generalize ((((j - 1) / l.length : Nat) : Int) * link) = y at hq ⊢; omega) (by generalize ((((j - 1) / l.length : Nat) : Int) * link) = y at hq ⊢; omega)]
      rw [if_pos c] at e
      have hd : j / l.length = (j - 1) / l.length := by
        have h1 := a.2.2.1; have h2 := b.2.2.1; omega
      rw [hd] at e
      rw [← e]
      congr 1
      omega
    · rw [if_neg c, w64 (n := Sm l p j + (((j - 1) / l.length : Nat) : Int) * link + link) (by generalize ((((j - 1) / l.length : Nat) : Int) * link) = y at hq ⊢; omega) (by generalize ((((j - 1) / l.length : Nat) : Int) * link) = y at hq ⊢; omega)]
      rw [if_neg c, Int.add_zero] at e
      have hd : j / l.length = (j - 1) / l.length + 1 := by
        have h1 := a.2.2.1; have h2 := b.2.2.1
        rcases sd with sd | sd
        · exact absurd (by rw [h1, h2, sd.1]) c
        · exact sd.1
      rw [hd] at e
      rw [← e]
      congr 1
      push_cast
      rw [Int.add_mul]
      omega

theorem last_sect (n m : Nat) (hn : 2 ≤ n) (hm : 1 ≤ m) : (n * m - 1) / n = m - 1 := by
  obtain ⟨u, rfl⟩ : ∃ u, m = u + 1 := ⟨m - 1, by omega⟩
  rw [Nat.mul_add, show n * u + n * 1 - 1 = n * u + (n - 1) from by omega, Nat.mul_add_div (by omega), Nat.div_eq_of_lt (by omega)]
  omega

theorem path_value {l : List Int} {m : Int} {link : Int} {p : List S69} (hL : Leg l m link) (h : Path l.length m.toNat p) :
    (∀ k, 5000 < k → impl_PathLength.l0 k l p (wrap64 ((wrap64 (m - 1)) * link)) 1 = some ((m - 1) * link + Sm l p (l.length * m.toNat), 0)) ∧ (∀ k, 5000 < k → spec_l16Length.f k l p link = some ((m - 1) * link + Sm l p (l.length * m.toNat))) ∧
    wrap64 ((wrap64 (m - 1)) * link) = (m - 1) * link ∧ 0 ≤ (m - 1) * link ∧ (m - 1) * link ≤ 40000000000 := by
  have hH := areH_true.1 hL.1
  obtain ⟨_, ⟨m0, m1⟩, k0, k1⟩ := hL
  obtain ⟨M, rfl⟩ : ∃ M : Nat, m = M := ⟨m.toNat, by omega⟩
  simp only [Int.toNat_natCast] at *
  have hw1 : wrap64 ((M : Int) - 1) = (M : Int) - 1 := w64 (by omega) (by omega)
  have hp0 : 0 ≤ ((M : Int) - 1) * link := Int.mul_nonneg (by omega) k0
  have hp1 : ((M : Int) - 1) * link ≤ 40 * link := Int.mul_le_mul_of_nonneg_right (by omega) k0
  have hw2 : wrap64 (((M : Int) - 1) * link) = ((M : Int) - 1) * link := w64 (by omega) (by omega)
  have hnm : l.length * M ≤ 12 * 40 := Nat.mul_le_mul hH.2.1 (by omega)
  have hnm1 : 2 * 1 ≤ l.length * M := Nat.mul_le_mul hH.1 (by omega)
  rw [hw1, hw2]
  have s1 : Sm l p 1 = 0 := by simp [Sm]
  refine ⟨fun k hk => ?_, fun k hk => ?_, rfl, hp0, by omega⟩
  · have := impl_len_loop hH h (by omega) (((M : Int) - 1) * link) hp0 (by omega) (l.length * M - 1) k 1 (by omega) (by omega) (by omega)
    rw [s1, Int.add_zero] at this
    exact this
  · have := spec_len_loop hH h (by omega) link k0 k1 (l.length * M - 1) k 1 (by omega) (by omega) (by omega)
    rw [s1, last_sect _ _ hH.1 (by omega)] at this
    unfold spec_l16Length.f
    simp at this
    rw [this, show ((M - 1 : Nat) : Int) = (M : Int) - 1 from by omega]
    congr 1
    omega

theorem tm2 (n : Nat) : Int.tmod (n : Int) 2 = (n : Int) % 2 := Int.tmod_eq_emod_of_nonneg (by omega)
theorem leg_sewn {l : List Int} {m link : Int} (hL : Leg l m link) : Sewn (l.length : Int) m := by
  have hH := areH_true.1 hL.1
  exact ⟨⟨by have := hH.1; omega, by have := hH.2.1; omega⟩, hL.2.1⟩

theorem spec_gate (l : List Int) (m link : Int) (hl : l.length ≤ 100) (k : Nat) (hk : 300 < k) {α : Type} (j0 : Bool → Option α) :
    ((spec_AreHoles.f k l).bind fun t527 => (if t527 = true then ((spec_l16Fits.f (l.length : Int) m).bind fun t528 => (if t528 = true then ((spec_l01In.f link 0 1000000000).bind fun t529 => (j0 (!t529))) else (j0 true))) else (j0 true))) = j0 (decide (¬ Leg l m link)) := by
  rw [spec_are l (by omega) _ (by omega), in_spec]
  simp only [Option.bind_some]
  obtain ⟨b2, e2, h2⟩ := sewn_spec (l.length : Int) m
  rw [e2]
  simp only [Option.bind_some]
  by_cases c1 : areH l = true
  · rw [if_pos c1]
    have hH := areH_true.1 c1
    by_cases c2 : 1 ≤ m ∧ m ≤ 40
    · have : b2 = true := h2.2 ⟨⟨by have := hH.1; omega, by have := hH.2.1; omega⟩, c2⟩
      rw [if_pos this]
      by_cases c3 : 0 ≤ link ∧ link ≤ 1000000000
      · have hL : Leg l m link := ⟨c1, c2, c3⟩
        rw [decide_eq_true c3, decide_eq_false (fun h => h hL)]
        rfl
      · rw [decide_eq_false c3, decide_eq_true (show ¬ Leg l m link from fun h => c3 h.2.2)]
        rfl
    · have : ¬ b2 = true := fun h => c2 (h2.1 h).2
      rw [if_neg this, decide_eq_true (show ¬ Leg l m link from fun h => c2 h.2.1)]
  · rw [if_neg c1, decide_eq_true (show ¬ Leg l m link from fun h => c1 h.1)]

theorem path_length (l : List Int) (m link : Int) (p : List S69) (hl : l.length ≤ 100) : ∃ v c, (∀ k, 6000 < k → impl_PathLength.f k l m p link = some (v, c)) ∧ (∀ k, 6000 < k → spec_PathLength.f k l m p link = some (v, c)) ∧
    (c = 0 → Leg l m link ∧ (l.length : Int) % 2 ≠ 1 ∧ Path l.length m.toNat p ∧ v = (m - 1) * link + Sm l p (l.length * m.toNat)) ∧
    (Leg l m link → (l.length : Int) % 2 ≠ 1 → Path l.length m.toNat p → c = 0 ∧ v = (m - 1) * link + Sm l p (l.length * m.toNat)) := by
  have hs : ∀ k, 300 < k → spec_PathLength.f k l m p link = spec_PathLength.j0 k l m p link (l.length : Int) (decide (¬ Leg l m link)) := fun k hk => by
    unfold spec_PathLength.f
    exact spec_gate l m link hl k hk (fun b => spec_PathLength.j0 k l m p link (l.length : Int) b)
  by_cases cL : Leg l m link
  · by_cases c2 : (l.length : Int) % 2 = 1
    · refine ⟨0, 5, fun k hk => ?_, fun k hk => ?_, by simp, fun _ h => absurd c2 h⟩
      · unfold impl_PathLength.f
        rw [(check_leg l m link hl k (by omega)).2.1 cL c2]
        simp
      · rw [hs k (by omega), decide_eq_false (fun h => h cL)]
        obtain ⟨k, rfl⟩ : ∃ m, k = m + 1 := ⟨k - 1, by omega⟩
        simp only [spec_PathLength.j0]
        rw [if_neg (by simp), tm2, if_pos c2]
    · obtain ⟨b, e1, e2, hb⟩ := is_path (l.length : Int) m p
      rw [tm2, Int.toNat_natCast] at hb
      by_cases c3 : Path l.length m.toNat p
      · have hbt := hb.2 ⟨leg_sewn cL, c2, c3⟩
        obtain ⟨v1, v2, v3, _, _⟩ := path_value cL c3
        refine ⟨_, 0, fun k hk => ?_, fun k hk => ?_, fun _ => ⟨cL, c2, c3, rfl⟩, fun _ _ _ => ⟨rfl, rfl⟩⟩
        · unfold impl_PathLength.f
          rw [(check_leg l m link hl k (by omega)).2.2 cL c2]
          simp only [Option.bind_some, if_true, impl_length_int64.f]
          rw [e1 k (by omega)]
          simp only [Option.bind_some]
          rw [if_pos hbt]
          exact v1 k (by omega)
        · rw [hs k (by omega), decide_eq_false (fun h => h cL)]
          obtain ⟨k, rfl⟩ : ∃ m, k = m + 1 := ⟨k - 1, by omega⟩
          simp only [spec_PathLength.j0]
          rw [if_neg (by simp), tm2, if_neg c2, e2 k (by omega)]
          simp only [Option.bind_some]
          rw [if_pos hbt, v2 k (by omega)]
          rfl
      · have hbf : ¬ b = true := fun h => c3 (hb.1 h).2.2
        refine ⟨0, 2, fun k hk => ?_, fun k hk => ?_, by simp, fun _ _ h => absurd h c3⟩
        · unfold impl_PathLength.f
          rw [(check_leg l m link hl k (by omega)).2.2 cL c2]
          simp only [Option.bind_some, if_true, impl_length_int64.f]
          rw [e1 k (by omega)]
          simp only [Option.bind_some]
          rw [if_neg hbf]
        · rw [hs k (by omega), decide_eq_false (fun h => h cL)]
          obtain ⟨k, rfl⟩ : ∃ m, k = m + 1 := ⟨k - 1, by omega⟩
          simp only [spec_PathLength.j0]
          rw [if_neg (by simp), tm2, if_neg c2, e2 k (by omega)]
          simp only [Option.bind_some]
          rw [if_neg hbf]
  · refine ⟨0, 2, fun k hk => ?_, fun k hk => ?_, by simp, fun h => absurd h cL⟩
    · unfold impl_PathLength.f
      rw [(check_leg l m link hl k (by omega)).1 cL]
      simp
    · rw [hs k (by omega), decide_eq_true cL]
      obtain ⟨k, rfl⟩ : ∃ m, k = m + 1 := ⟨k - 1, by omega⟩
      simp only [spec_PathLength.j0]
      rw [if_pos trivial]

theorem plain_length (l : List Int) (m link : Int) (hl : l.length ≤ 100) : ∃ v c, (∀ k, 6000 < k → impl_PlainLength.f k l m link = some (v, c)) ∧ (∀ k, 6000 < k → spec_PlainLength.f k l m link = some (v, c)) ∧
    (c = 0 → Leg l m link ∧ (l.length : Int) % 2 ≠ 1) ∧ (Leg l m link → (l.length : Int) % 2 ≠ 1 → c = 0 ∧ v = (m - 1) * link + Sm l (pl l.length (m.toNat * l.length)) (l.length * m.toNat)) := by
  have hs : ∀ k, 300 < k → spec_PlainLength.f k l m link = spec_PlainLength.j0 k l m link (l.length : Int) (decide (¬ Leg l m link)) := fun k hk => by
    unfold spec_PlainLength.f
    exact spec_gate l m link hl k hk (fun b => spec_PlainLength.j0 k l m link (l.length : Int) b)
  by_cases cL : Leg l m link
  · by_cases c2 : (l.length : Int) % 2 = 1
    · refine ⟨0, 5, fun k hk => ?_, fun k hk => ?_, by simp, fun _ h => absurd c2 h⟩
      · unfold impl_PlainLength.f
        rw [(check_leg l m link hl k (by omega)).2.1 cL c2]
        simp
      · rw [hs k (by omega), decide_eq_false (fun h => h cL)]
        obtain ⟨k, rfl⟩ : ∃ m, k = m + 1 := ⟨k - 1, by omega⟩
        simp only [spec_PlainLength.j0]
        rw [if_neg (by simp), tm2, if_pos c2]
    · have hH := areH_true.1 cL.1
      obtain ⟨M, hM⟩ : ∃ M : Nat, m = M := ⟨m.toNat, by have := cL.2.1.1; omega⟩
      have hMt : m.toNat = M := by omega
      have c3 : Path l.length m.toNat (pl l.length (m.toNat * l.length)) := plain_path _ _ hH.1
      obtain ⟨v, c, e1, e2, _, e4⟩ := path_length l m link (pl l.length (m.toNat * l.length)) hl
      obtain ⟨rfl, rfl⟩ := e4 cL c2 c3
      obtain ⟨v1, v2, v3, _, _⟩ := path_value cL c3
      have pi : ∀ k, 5000 < k → impl_plainPath.f k (l.length : Int) m = some (pl l.length (m.toNat * l.length)) := fun k hk => by
        have := impl_plain l.length M hH.2.1 (by have := cL.2.1.2; omega) M 0 (by omega) k (by have := cL.2.1.2; omega)
        unfold impl_plainPath.f
        rw [hMt, hM]
        simpa [pl] using this
      have ps : ∀ k, 5000 < k → spec_l16Plain.f k (l.length : Int) m = some (pl l.length (m.toNat * l.length)) := fun k hk => by
        have := spec_plain l.length M hH.2.1 (by have := cL.2.1.2; omega) M 0 (by omega) k (by have := cL.2.1.2; omega)
        unfold spec_l16Plain.f
        rw [hMt, hM]
        simpa [pl] using this
      refine ⟨_, 0, fun k hk => ?_, fun k hk => ?_, fun _ => ⟨cL, c2⟩, fun _ _ => ⟨rfl, rfl⟩⟩
      · unfold impl_PlainLength.f
        rw [(check_leg l m link hl k (by omega)).2.2 cL c2]
        simp only [Option.bind_some, if_true, impl_length_int64.f]
        rw [pi k (by omega)]
        simp only [Option.bind_some]
        rw [e1 k (by omega)]
        rfl
      · rw [hs k (by omega), decide_eq_false (fun h => h cL)]
        obtain ⟨k, rfl⟩ : ∃ m, k = m + 1 := ⟨k - 1, by omega⟩
        simp only [spec_PlainLength.j0]
        rw [if_neg (by simp), tm2, if_neg c2, ps k (by omega)]
        simp only [Option.bind_some]
        rw [v2 k (by omega)]
        rfl
  · refine ⟨0, 2, fun k hk => ?_, fun k hk => ?_, by simp, fun h => absurd h cL⟩
    · unfold impl_PlainLength.f
      rw [(check_leg l m link hl k (by omega)).1 cL]
      simp
    · rw [hs k (by omega), decide_eq_true cL]
      obtain ⟨k, rfl⟩ : ∃ m, k = m + 1 := ⟨k - 1, by omega⟩
      simp only [spec_PlainLength.j0]
      rw [if_pos trivial]
end Go.Proofs.Ytkcbihfhbojckaa.Pure
