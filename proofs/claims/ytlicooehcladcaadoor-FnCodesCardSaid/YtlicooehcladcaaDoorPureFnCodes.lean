/- FnCodes: for every code the answer is true: a code with one wrong digit, or with two different neighbouring digits exchanged, is no code; program and reference agree. -/
import Derived.Test.YtlicooehcladcaaDoorX7
import Derived.Test.YtlicooehcladcaaDoorPDraw
import Derived.Test.YtlicooehcladcaaDoorPureRead
import Derived.Test.YtlicooehcladcaaDoorPureCodeT
namespace Go.Proofs.YtlicooehcladcaaDoor.Pure
open Go.RowKit Go.Proofs.YtlicooehcladcaaDoor.X Go.Proofs.YtlicooehcladcaaDoorW.PrintWords Go.Proofs.YtlicooehcladcaaDoorW.PrintLast
set_option linter.unusedVariables false
set_option linter.unusedSimpArgs false
theorem sw {x : Int} (h1 : -1000000000000 ≤ x) (h2 : x ≤ 1000000000000) : wrap64 x = x := by unfold wrap64; omega
-- a code made
theorem make_loop (x5 : Int) (h0 : 0 ≤ x5) (h1 : x5 ≤ 9999900) (d : Nat) : ∀ (k : Nat) (x6 : Int), x6 + (d : Int) = 97 → 1 ≤ x6 → d < k → (∀ y, 1 ≤ y → y < x6 → (x5 + y) % 97 ≠ 1) →
    ∃ r, spec_l15Make.l0 k x5 x6 = some (x5 + r) ∧ 1 ≤ r ∧ r ≤ 97 ∧ (x5 + r) % 97 = 1 := by
  induction d with
  | zero =>
    intro k x6 hx h0 hk hn
    obtain ⟨k, rfl⟩ : ∃ m, k = m + 1 := ⟨k - 1, by omega⟩
    simp only [spec_l15Make.l0]
    rw [if_neg (by omega), sw (by omega) (by omega)]
    refine ⟨97, rfl, by omega, by omega, ?_⟩
    have := hn ((1 - x5) % 97)
    by_cases c : (1 - x5) % 97 = 0
    · omega
    · exact absurd (show (x5 + (1 - x5) % 97) % 97 = 1 by omega) (this (by omega) (by omega))
  | succ d ih =>
    intro k x6 hx h0 hk hn
    obtain ⟨k, rfl⟩ : ∃ m, k = m + 1 := ⟨k - 1, by omega⟩
    simp only [spec_l15Make.l0, spec_l15Remainder.f, Option.bind_some]
    rw [if_pos (by omega), sw (x := x5 + x6) (by omega) (by omega), Int.tmod_eq_emod_of_nonneg (by omega)]
    split
    · rename_i c
      exact ⟨x6, rfl, by omega, by omega, c⟩
    · rename_i c
      rw [sw (x := x6 + 1) (by omega) (by omega)]
      refine ih k (x6 + 1) (by omega) (by omega) (by omega) fun y h1 h2 => ?_
      by_cases cy : y = x6
      · rw [cy]; exact c
      · exact hn y h1 (by omega)
theorem make_is (a b : Int) (ha : 0 ≤ a ∧ a ≤ 999) (hb : 0 ≤ b ∧ b ≤ 99) (k : Nat) (hk : 100 ≤ k) : ∃ r, spec_l15Make.f k a b = some (a * 10000 + b * 100 + r) ∧ 1 ≤ r ∧ r ≤ 97 ∧ (a * 10000 + b * 100 + r) % 97 = 1 := by
  unfold spec_l15Make.f
  rw [sw (x := a * 100) (by omega) (by omega), sw (x := a * 100 + b) (by omega) (by omega), sw (by omega) (by omega), show (a * 100 + b) * 100 = a * 10000 + b * 100 by omega]
  exact make_loop _ (by omega) (by omega) 96 k 1 (by omega) (by omega) (by omega) (fun y h1 h2 => by omega)
theorem code_of (a b : Int) (k : Nat) (hk : 101 ≤ k) : ∃ r : Int × Int, spec_CodeOf.f k a b = some r ∧ impl_CodeOf.f k a b = some r ∧ (r.2 = 0 → codeB r.1 = true ∧ r.1 / 10000 = a ∧ r.1 / 100 % 100 = b) := by
  obtain ⟨k, rfl⟩ : ∃ m, k = m + 1 := ⟨k - 1, by omega⟩
  unfold spec_CodeOf.f impl_CodeOf.f spec_l01In.f impl_inRange.f
  by_cases h : (0 ≤ a ∧ a ≤ 999) ∧ (0 ≤ b ∧ b ≤ 99)
  · obtain ⟨ha, hb⟩ := h
    obtain ⟨r, hr, r1, r2, r3⟩ := make_is a b ha hb (k + 1) (by omega)
    have a1 : a ≥ 0 := ha.1
    have b1 : b ≥ 0 := hb.1
    simp only [if_pos ha.1, if_pos hb.1, if_pos a1, if_pos b1, decide_eq_true ha.2, decide_eq_true hb.2, Option.bind_some, if_true, hr, impl_CodeOf.j0, Bool.not_true, Bool.false_eq_true, if_false]
    refine ⟨_, rfl, ?_, fun _ => ⟨show codeB (a * 10000 + b * 100 + r) = true from decide_eq_true ⟨by omega, by omega, r3, by clear r3; omega, by clear r3; omega⟩, show (a * 10000 + b * 100 + r) / 10000 = a by clear r3; omega, show (a * 10000 + b * 100 + r) / 100 % 100 = b by clear r3; omega⟩⟩
    rw [sw (x := a * 10000) (by omega) (by omega), sw (x := b * 100) (by omega) (by omega), sw (x := a * 10000 + b * 100) (by omega) (by omega), Int.tmod_eq_emod_of_nonneg (a := a * 10000 + b * 100) (by omega), sw (x := 98 - _) (by omega) (by omega), Int.tmod_eq_emod_of_nonneg (by omega)]
    split
    · rw [sw (by omega) (by omega)]
      congr 2
      omega
    · rw [sw (by omega) (by omega)]
      congr 2
      omega
  · refine ⟨(0, 2), ?_, ?_, fun h => by cases h⟩
    · by_cases ha : a ≥ 0
      · rw [if_pos ha]
        simp only [Option.bind_some]
        by_cases ha2 : a ≤ 999
        · rw [if_pos (decide_eq_true ha2)]
          by_cases hb : b ≥ 0
          · rw [if_pos hb]
            simp only [Option.bind_some]
            have : ¬ b ≤ 99 := fun q => h ⟨⟨ha, ha2⟩, hb, q⟩
            rw [if_neg (by rw [decide_eq_false this]; decide)]
          · rw [if_neg hb]
            simp only [Option.bind_some]
            rw [if_neg (by decide)]
        · rw [if_neg (by rw [decide_eq_false ha2]; decide)]
      · rw [if_neg ha]
        simp only [Option.bind_some]
        rw [if_neg (by decide)]
    · by_cases ha : 0 ≤ a
      · rw [if_pos ha]
        simp only [Option.bind_some]
        by_cases ha2 : a ≤ 999
        · rw [if_pos (decide_eq_true ha2)]
          by_cases hb : 0 ≤ b
          · rw [if_pos hb]
            simp only [Option.bind_some]
            have : ¬ b ≤ 99 := fun q => h ⟨⟨ha, ha2⟩, hb, q⟩
            rw [decide_eq_false this]
            simp only [impl_CodeOf.j0]
            rfl
          · rw [if_neg hb]
            simp only [Option.bind_some, impl_CodeOf.j0]
            rfl
        · rw [if_neg (by rw [decide_eq_false ha2]; decide)]
          simp only [impl_CodeOf.j0]
          rfl
      · rw [if_neg ha]
        simp only [Option.bind_some]
        rw [if_neg (by decide)]
        simp only [impl_CodeOf.j0]
        rfl
-- wrong digits
def Pw (p : Int) : Prop := p = 1 ∨ p = 10 ∨ p = 100 ∨ p = 1000 ∨ p = 10000 ∨ p = 100000 ∨ p = 1000000
theorem no_code {n p x : Int} (hn : codeB n = true) (hp : Pw p) (h0 : -9 ≤ x) (h1 : x ≤ 9) (hx : x ≠ 0) : codeB (n + x * p) = false ∧ codeB (n + x * p + -x * p * 10) = false := by
  have h := of_decide_eq_true hn
  rcases hp with rfl | rfl | rfl | rfl | rfl | rfl | rfl <;> exact ⟨decide_eq_false (fun q => by omega), decide_eq_false (fun q => by omega)⟩
theorem xp_is {p x : Int} (hp : Pw p) (h0 : -9 ≤ x) (h1 : x ≤ 9) : -9000000 ≤ x * p ∧ x * p ≤ 9000000 ∧ -9000000 ≤ -x * p ∧ -x * p ≤ 9000000 := by
  rcases hp with rfl | rfl | rfl | rfl | rfl | rfl | rfl <;> omega
theorem wrong_is {n p x : Int} (hn : 0 ≤ n ∧ n ≤ 9999999) (hp : Pw p) (h0 : -9 ≤ x) (h1 : x ≤ 9) : wrap64 (n + wrap64 (wrap64 x * p)) = n + x * p := by
  obtain ⟨b1, b2, b3, b4⟩ := xp_is hp h0 h1
  rw [sw (x := x) (by omega) (by omega), sw (x := x * p) (by omega) (by omega), sw (x := n + x * p) (by omega) (by omega)]
theorem swap_is {n p x y : Int} (hn : 0 ≤ n ∧ n ≤ 9999999) (hp : Pw p) (h0 : -9 ≤ x) (h1 : x ≤ 9) (hy : y = -x) : wrap64 (wrap64 (n + wrap64 (wrap64 x * p)) + wrap64 (wrap64 (wrap64 y * p) * 10)) = n + x * p + -x * p * 10 := by
  subst hy
  obtain ⟨b1, b2, b3, b4⟩ := xp_is hp h0 h1
  rw [wrong_is hn hp h0 h1, sw (x := -x) (by omega) (by omega), sw (x := -x * p) (by omega) (by omega), sw (x := -x * p * 10) (by omega) (by omega), sw (x := n + x * p + -x * p * 10) (by omega) (by omega)]
theorem dg_is {n p : Int} (hn : 0 ≤ n ∧ n ≤ 9999999) (hp : Pw p) : 0 ≤ Int.tmod (wrap64 (Int.tdiv n p)) 10 ∧ Int.tmod (wrap64 (Int.tdiv n p)) 10 ≤ 9 ∧ 0 ≤ wrap64 (Int.tdiv n p) ∧ wrap64 (Int.tdiv n p) ≤ 9999999 := by
  have h : 0 ≤ Int.tdiv n p ∧ Int.tdiv n p ≤ 9999999 := by
    rw [Int.tdiv_eq_ediv_of_nonneg hn.1]
    rcases hp with rfl | rfl | rfl | rfl | rfl | rfl | rfl <;> omega
  rw [sw (x := Int.tdiv n p) (by omega) (by omega), Int.tmod_eq_emod_of_nonneg h.1]
  omega
theorem nx_is {q : Int} (h : 0 ≤ q ∧ q ≤ 9999999) : 0 ≤ Int.tmod (wrap64 (Int.tdiv q 10)) 10 ∧ Int.tmod (wrap64 (Int.tdiv q 10)) 10 ≤ 9 := by
  rw [Int.tdiv_eq_ediv_of_nonneg h.1, sw (by omega) (by omega), Int.tmod_eq_emod_of_nonneg (by omega)]
  omega
theorem l1_loop (n p x28 dg : Int) (hc : codeB n = true) (hp : Pw p) (hd : 0 ≤ dg ∧ dg ≤ 9) (k : Nat) : ∀ (m : Nat) (e : Int), e + (m : Int) = 10 → 0 ≤ e → laws_FnCodes.l1 (k + 1 + m) n p x28 dg e = laws_FnCodes.l1 (k + 1) n p x28 dg 10
  | 0, e, h, h0 => by rw [show e = 10 by omega, Nat.add_zero]
  | m + 1, e, h, h0 => by
    have hn := of_decide_eq_true hc
    have ih := l1_loop n p x28 dg hc hp hd k m (e + 1) (by omega) (by omega)
    rw [show k + 1 + (m + 1) = (k + 1 + m) + 1 by omega, laws_FnCodes.l1, if_pos (by omega), sw (x := e + 1) (by omega) (by omega)]
    by_cases c : e = dg
    · rw [if_pos c, ih]
    · rw [if_neg c, wrong_is (x := e - dg) ⟨hn.1, hn.2.1⟩ hp (by omega) (by omega), code_impl, (no_code (x := e - dg) hc hp (by omega) (by omega) (by omega)).1]
      simp only [Option.bind_some, Bool.false_eq_true, if_false]
      exact ih
theorem l0_step (n p d : Int) (hc : codeB n = true) (hp : Pw p) (hd : 0 ≤ d ∧ d < 7) (k : Nat) : laws_FnCodes.l0 (k + 12) n p d = laws_FnCodes.l0 k n (wrap64 (10 * p)) (wrap64 (d + 1)) := by
  have hn := of_decide_eq_true hc
  have hp0 : p ≠ 0 := by rcases hp with rfl | rfl | rfl | rfl | rfl | rfl | rfl <;> decide
  obtain ⟨d0, d1, q0, q1⟩ := dg_is (n := n) (p := p) ⟨hn.1, hn.2.1⟩ hp
  obtain ⟨x0, x1⟩ := nx_is (q := wrap64 (Int.tdiv n p)) ⟨q0, q1⟩
  rw [laws_FnCodes.l0, if_pos (by omega), if_neg hp0]
  have := l1_loop n p d _ hc hp ⟨d0, d1⟩ k 10 0 (by omega) (by omega)
  rw [show k + 11 = k + 1 + 10 by omega, this, laws_FnCodes.l1, if_neg (by omega), if_neg hp0]
  split
  · split
    · rfl
    · rename_i c
      rw [swap_is ⟨hn.1, hn.2.1⟩ hp (by omega) (by omega) (by omega), code_impl, (no_code hc hp (by omega) (by omega) (by omega)).2]
      simp only [Option.bind_some, Bool.false_eq_true, if_false]
  · rfl
theorem wrong_none (n : Int) (hc : codeB n = true) (k : Nat) : laws_FnCodes.l0 (k + 85) n 1 0 = some true := by
  rw [l0_step n 1 0 hc (by simp [Pw]) (by omega) (k + 73), show wrap64 (10 * 1) = 10 by unfold wrap64; omega, show wrap64 (0 + 1) = 1 by unfold wrap64; omega]
  rw [l0_step n 10 1 hc (by simp [Pw]) (by omega) (k + 61), show wrap64 (10 * 10) = 100 by unfold wrap64; omega, show wrap64 (1 + 1) = 2 by unfold wrap64; omega]
  rw [l0_step n 100 2 hc (by simp [Pw]) (by omega) (k + 49), show wrap64 (10 * 100) = 1000 by unfold wrap64; omega, show wrap64 (2 + 1) = 3 by unfold wrap64; omega]
  rw [l0_step n 1000 3 hc (by simp [Pw]) (by omega) (k + 37), show wrap64 (10 * 1000) = 10000 by unfold wrap64; omega, show wrap64 (3 + 1) = 4 by unfold wrap64; omega]
  rw [l0_step n 10000 4 hc (by simp [Pw]) (by omega) (k + 25), show wrap64 (10 * 10000) = 100000 by unfold wrap64; omega, show wrap64 (4 + 1) = 5 by unfold wrap64; omega]
  rw [l0_step n 100000 5 hc (by simp [Pw]) (by omega) (k + 13), show wrap64 (10 * 100000) = 1000000 by unfold wrap64; omega, show wrap64 (5 + 1) = 6 by unfold wrap64; omega]
  rw [l0_step n 1000000 6 hc (by simp [Pw]) (by omega) (k + 1), show wrap64 (10 * 1000000) = 10000000 by unfold wrap64; omega, show wrap64 (6 + 1) = 7 by unfold wrap64; omega]
  rfl
-- the draws
theorem number_any (l : List Int) (h : l.length = 7) (k : Nat) (hk : 9 ≤ k) : ∃ r, spec_l15Number.f k l = some r := by
  have s : ∀ (d : Nat) (k : Nat) (x i : Int), i + (d : Int) = 7 → 0 ≤ i → d < k → ∃ r, spec_l15Number.l0 k l x i = some r := by
    intro d
    induction d with
    | zero =>
      intro k x i hi h0 hk
      obtain ⟨k, rfl⟩ : ∃ m, k = m + 1 := ⟨k - 1, by omega⟩
      simp only [spec_l15Number.l0]
      rw [if_neg (by omega)]
      exact ⟨_, rfl⟩
    | succ d ih =>
      intro k x i hi h0 hk
      obtain ⟨k, rfl⟩ : ∃ m, k = m + 1 := ⟨k - 1, by omega⟩
      simp only [spec_l15Number.l0]
      rw [if_pos (by omega), if_pos h0, sw (x := i + 1) (by omega) (by omega)]
      exact ih k _ (i + 1) (by omega) (by omega) (by omega)
  exact s 7 k 0 0 (by omega) (by omega) (by omega)
theorem digits_k (n : Int) (h0 : 0 ≤ n) (h1 : n ≤ 9999999) (k : Nat) (hk : 9 ≤ k) : spec_l15Digits.f k n = some (digs n) := by
  obtain ⟨k, rfl⟩ : ∃ m, k = m + 9 := ⟨k - 9, by omega⟩
  exact digits_is k n h0 h1
theorem make_draw {c : List Int} {a s : Int} (h : St c a s) (k : Nat) (hk : 120 ≤ k) : ∃ r1 a1 s1 r2 a2 s2 m, spec_l01Next.f c a s 1000 = some (r1, a1, s1) ∧ spec_l01Next.f c a1 s1 100 = some (r2, a2, s2) ∧ spec_l15Make.f k r1 r2 = some m ∧ St c a2 s2 ∧ 0 ≤ m ∧ m ≤ 9999999 := by
  obtain ⟨r1, a1, s1, e1, h1, l1, u1, _⟩ := next_ok h 1000
  obtain ⟨r2, a2, s2, e2, h2, l2, u2, _⟩ := next_ok h1 100
  have u1 := u1 (by omega)
  have u2 := u2 (by omega)
  obtain ⟨r, em, m1, m2, _⟩ := make_is r1 r2 ⟨by omega, by omega⟩ ⟨by omega, by omega⟩ k (by omega)
  exact ⟨r1, a1, s1, r2, a2, s2, _, e1, e2, em, h2, by omega, by omega⟩
theorem code_draw {c : List Int} {a s : Int} (h : St c a s) (k : Nat) (hk : 120 ≤ k) : ∃ r a' s', spec_l15DrawCode.f k c a s = some (r, a', s') := by
  obtain ⟨r1, a1, s1, r2, a2, s2, m, e1, e2, em, h2, m0, m1⟩ := make_draw h k hk
  obtain ⟨r3, a3, s3, e3, h3, _⟩ := next_ok h2 5
  unfold spec_l15DrawCode.f
  rw [e1, Option.bind_some, e2, Option.bind_some, em, Option.bind_some, e3, Option.bind_some]
  simp only
  by_cases c0 : r3 = 0
  · rw [if_pos c0, digits_k m m0 m1 k (by omega), Option.bind_some]
    obtain ⟨r4, a4, s4, e4, h4, l4, u4, _⟩ := next_ok h3 7
    obtain ⟨r5, a5, s5, e5, h5, _⟩ := next_ok h4 10
    have u4 := u4 (by omega)
    have hl : (digs m).length = 7 := rfl
    obtain ⟨q, eq⟩ := number_any ((digs m).set r4.toNat r5) (by rw [List.length_set]; exact hl) k (by omega)
    rw [e4, Option.bind_some, e5, Option.bind_some, if_pos l4, if_pos (by omega), eq, Option.bind_some]
    exact ⟨_, _, _, rfl⟩
  · rw [if_neg c0]
    by_cases c1 : r3 = 1
    · rw [if_pos c1]
      obtain ⟨r4, a4, s4, e4, h4, _⟩ := next_ok h3 6
      rw [e4, Option.bind_some]
      simp only
      by_cases c2 : r4 = 0
      · rw [if_pos c2]
        obtain ⟨p, a5, s5, e5, h5, _⟩ := pick_ok h4 ([(-1), 0, 1, 9999999, 10000000, 98] : List Int) (by simp) (by simp)
        rw [e5, Option.bind_some]
        exact ⟨_, _, _, rfl⟩
      · rw [if_neg c2]
        exact ⟨_, _, _, rfl⟩
    · rw [if_neg c1]
      exact ⟨_, _, _, rfl⟩
theorem damage_ok {c : List Int} {a s : Int} (h : St c a s) (t : ByteArray) (ht : t.size ≤ 1000) : ∃ r a' s', spec_l01Damage.f c a s t = some (r, a', s') ∧ r.size ≤ 3000 := by
  obtain ⟨r1, a1, s1, e1, h1, l1, u1, v1⟩ := next_ok h (wrap64 ((t.size : Int) + 1))
  obtain ⟨r2, a2, s2, e2, h2, l2, u2, _⟩ := next_ok h1 8
  have hw : wrap64 ((t.size : Int) + 1) = (t.size : Int) + 1 := sw (by omega) (by omega)
  have hr : r1 ≤ (t.size : Int) := by
    rw [hw] at u1 v1
    by_cases q : 1 < (t.size : Int) + 1
    · have := u1 q; omega
    · have := v1 (by omega); omega
  unfold spec_l01Damage.f
  rw [e1, Option.bind_some, e2, Option.bind_some]
  simp only
  have x1 : (t.extract 0 r1.toNat).size ≤ 1000 := by rw [ByteArray.size_extract]; omega
  split
  · exact ⟨_, _, _, rfl, by omega⟩
  · split
    · simp only [Option.bind_some]
      obtain ⟨r3, a3, s3, e3, h3, l3, u3, _⟩ := next_ok h2 8
      have u3 := u3 (by omega)
      rw [e3, Option.bind_some]
      simp only
      have x2 : (t.extract r1.toNat t.size).size ≤ 1000 := by rw [ByteArray.size_extract]; omega
      have x3 : ∀ i : Int, 0 ≤ i → i < 8 → (rdOf ByteArray.empty ([(⟨#[48]⟩ : ByteArray), (⟨#[49]⟩ : ByteArray), (⟨#[32]⟩ : ByteArray), (⟨#[45]⟩ : ByteArray), (⟨#[46]⟩ : ByteArray), (⟨#[44]⟩ : ByteArray), (⟨#[10]⟩ : ByteArray), (⟨#[120]⟩ : ByteArray)] : List ByteArray) i).size ≤ 1 := fun i i0 i1 => by
        obtain ⟨j, rfl⟩ := Int.eq_ofNat_of_zero_le i0
        match j, i1 with
        | 0, _ => exact Nat.le_refl _
        | 1, _ => exact Nat.le_refl _
        | 2, _ => exact Nat.le_refl _
        | 3, _ => exact Nat.le_refl _
        | 4, _ => exact Nat.le_refl _
        | 5, _ => exact Nat.le_refl _
        | 6, _ => exact Nat.le_refl _
        | 7, _ => exact Nat.le_refl _
        | j + 8, h => omega
      have x4 := x3 r3 l3 u3
      rw [if_pos l3, if_pos (by simpa using u3), if_pos (by omega), if_pos (by rw [ByteArray.size_append]; omega)]
      exact ⟨_, _, _, rfl, by rw [ByteArray.size_append, ByteArray.size_append]; omega⟩
    · split
      · split
        · rename_i q
          have x2 : (t.extract (wrap64 (r1 + 1)).toNat t.size).size ≤ 1000 := by rw [ByteArray.size_extract]; omega
          have w1 : wrap64 (r1 + 1) = r1 + 1 := sw (by omega) (by omega)
          (try rw [if_pos l1]); (try rw [if_pos hr]); rw [if_pos (by omega), if_pos (by omega), if_pos (by omega)]
          exact ⟨_, _, _, rfl, by rw [ByteArray.size_append]; omega⟩
        · exact ⟨_, _, _, rfl, by omega⟩
      · exact ⟨_, _, _, rfl, by omega⟩
theorem text_draw {c : List Int} {a s : Int} (h : St c a s) (hf : ∀ k, 64 < k → spec_l01From.f k c = some (c, a, s)) (k : Nat) (hk : 200 ≤ k) : ∃ t, spec_DrawReadCode.f k c = some t ∧ t.size ≤ 3000 := by
  obtain ⟨r1, a1, s1, r2, a2, s2, m, e1, e2, em, h2, m0, m1⟩ := make_draw h k (by omega)
  obtain ⟨r3, a3, s3, e3, h3, _⟩ := next_ok h2 3
  have hj : spec_l01Join.f k (digs m) ⟨#[]⟩ = some ⟨(txt m).toArray⟩ := by
    obtain ⟨k, rfl⟩ : ∃ q, k = q + 10 := ⟨k - 10, by omega⟩
    exact join_is k m m0 m1
  have hz : (⟨(txt m).toArray⟩ : ByteArray).size = 7 := rfl
  unfold spec_DrawReadCode.f
  rw [hf k (by omega), Option.bind_some, e1, Option.bind_some, e2, Option.bind_some, em, Option.bind_some, digits_k m m0 m1 k (by omega), Option.bind_some, hj, Option.bind_some, e3, Option.bind_some]
  simp only
  split
  · obtain ⟨r, a', s', e, hr⟩ := damage_ok h3 (⟨(txt m).toArray⟩ : ByteArray) (by omega)
    rw [e]
    exact ⟨_, rfl, hr⟩
  · exact ⟨_, rfl, by omega⟩
theorem codeOf_draw {c : List Int} {a s : Int} (h : St c a s) (hf : ∀ k, 64 < k → spec_l01From.f k c = some (c, a, s)) (k : Nat) (hk : 200 ≤ k) : ∃ r, spec_DrawCodeOf.f k c = some r := by
  obtain ⟨r1, a1, s1, e1, h1, _⟩ := next_ok h 12
  unfold spec_DrawCodeOf.f
  rw [hf k (by omega), Option.bind_some, e1, Option.bind_some]
  simp only
  split
  · obtain ⟨p, a2, s2, e2, h2, _⟩ := pick_ok h1 ([(-1), 0, 999, 1000] : List Int) (by simp) (by simp)
    obtain ⟨q, a3, s3, e3, h3, _⟩ := pick_ok h2 ([(-1), 0, 99, 100] : List Int) (by simp) (by simp)
    rw [e2, Option.bind_some, e3]
    exact ⟨_, rfl⟩
  · obtain ⟨p, a2, s2, e2, h2, _⟩ := next_ok h1 1000
    obtain ⟨q, a3, s3, e3, h3, _⟩ := next_ok h2 100
    rw [e2, Option.bind_some, e3]
    exact ⟨_, rfl⟩
theorem partsOf_draw {c : List Int} {a s : Int} (h : St c a s) (hf : ∀ k, 64 < k → spec_l01From.f k c = some (c, a, s)) (k : Nat) (hk : 200 ≤ k) : ∃ r, spec_DrawPartsOfCode.f k c = some r := by
  obtain ⟨r, a', s', e⟩ := code_draw h k (by omega)
  unfold spec_DrawPartsOfCode.f
  rw [hf k (by omega), Option.bind_some, e]
  exact ⟨_, rfl⟩
-- both sides
def partsF (n : Int) : Int × Int × Int := if codeB n = true then (n / 10000, n / 100 % 100, 0) else (0, 0, 1)
theorem parts_both (n : Int) : impl_PartsOfCode.f n = some (partsF n) ∧ spec_PartsOfCode.f n = some (partsF n) := by
  unfold impl_PartsOfCode.f spec_PartsOfCode.f partsF
  rw [code_impl, code_spec]
  simp only [Option.bind_some]
  by_cases c : codeB n = true
  · have h := of_decide_eq_true c
    rw [if_pos c, if_pos c, Int.tdiv_eq_ediv_of_nonneg h.1, Int.tdiv_eq_ediv_of_nonneg h.1, sw (by omega) (by omega), sw (by omega) (by omega), Int.tmod_eq_emod_of_nonneg (by omega)]
    exact ⟨rfl, rfl⟩
  · rw [if_neg c, if_neg c]
    exact ⟨rfl, rfl⟩
theorem read_back (n : Int) (hc : codeB n = true) : readR (codeTxt n) = (n, true) := by
  have h := of_decide_eq_true hc
  obtain ⟨t1, t2, t3⟩ := txt_dig n h.1 h.2.1
  unfold readR codeTxt
  rw [if_pos hc]
  show (if (txt n).length = 7 ∧ (txt n).all isDig = true ∧ codeB (valI (txt n)) = true then (valI (txt n), true) else (0, false)) = (n, true)
  rw [t3, if_pos ⟨t1, t2, hc⟩]
theorem read_text (s : ByteArray) (h : (readR s).2 = true) : (codeTxt (readR s).1).toList = s.toList := by
  unfold readR at h ⊢
  by_cases c : s.data.toList.length = 7 ∧ s.data.toList.all isDig = true ∧ codeB (valI s.data.toList) = true
  · rw [if_pos c]
    unfold codeTxt
    rw [if_pos c.2.2, mk_list, (txt_val c.1 c.2.1).2.2, Lib.toList_data]
  · rw [if_neg c] at h
    cases h
theorem size_text (n : Int) : (codeTxt n).size ≤ 7 := by
  unfold codeTxt
  split
  · exact Nat.le_refl _
  · exact Nat.zero_le _
theorem codes_end (k : Nat) (j s : Int) (r : Int × Int) (h : r.2 = 0 → codeB r.1 = true ∧ r.1 / 10000 = j ∧ r.1 / 100 % 100 = s) : laws_FnCodes.j0 (k + 90) j s r.1 r.2 false = some true := by
  simp only [laws_FnCodes.j0, Bool.false_eq_true, if_false]
  by_cases c : r.2 = 0
  · obtain ⟨hc, h1, h2⟩ := h c
    have hp : partsF r.1 = (j, s, 0) := by unfold partsF; rw [if_pos hc, h1, h2]
    rw [if_pos c, (parts_both r.1).1, code_text_impl, hp]
    simp only [Option.bind_some]
    rw [read_impl _ (by have := size_text r.1; omega), read_back _ hc]
    simp only [Option.bind_some, if_true, laws_FnCodes.j1]
    rw [show (r.1 != r.1) = false by simp, if_neg (by decide)]
    exact wrong_none r.1 hc (k + 3)
  · rw [if_neg c]
theorem FnCodes : laws_FnCodes.Pure := fun l hl hl2 hb => by
  obtain ⟨s, hf, hs⟩ := from_ok l (bytes_of hb) (by omega)
  obtain ⟨d, hd⟩ := codeOf_draw hs hf 1000 (by omega)
  obtain ⟨r, r1, r2, r3⟩ := code_of d.1 d.2 1000 (by omega)
  obtain ⟨p, hp⟩ := partsOf_draw hs hf 1000 (by omega)
  obtain ⟨t, ht, hz⟩ := text_draw hs hf 1000 (by omega)
  refine ⟨1000, ?_⟩
  unfold laws_FnCodes.f laws_big.f
  rw [Option.bind_some]
  by_cases cb : decide ((l.length : Int) > 4096) = true
  · rw [if_pos cb]
  · have e := codes_end 910 d.1 d.2 r r3
    rw [if_neg cb, hd, Option.bind_some, r2, Option.bind_some, r1, Option.bind_some, hp, Option.bind_some, (parts_both p).1, (parts_both p).2, Option.bind_some, Option.bind_some, code_text_impl, Option.bind_some, ht, Option.bind_some, read_impl t (by omega), read_spec 980 t, Option.bind_some, Option.bind_some]
    rw [if_pos rfl, if_pos rfl, if_pos rfl, if_pos rfl, if_pos rfl, code_text 990 p, Option.bind_some, if_pos rfl, if_neg (by simp), if_pos rfl, code_impl, Option.bind_some]
    rw [if_neg (by unfold partsF; cases codeB p <;> simp)]
    by_cases c : (readR t).2 = true
    · rw [if_pos c, code_text_impl, Option.bind_some]
      rw [show ((codeTxt (readR t).1).toList != t.toList) = false by rw [read_text t c]; simp]
      exact e
    · rw [if_neg c]
      exact e
end Go.Proofs.YtlicooehcladcaaDoor.Pure
