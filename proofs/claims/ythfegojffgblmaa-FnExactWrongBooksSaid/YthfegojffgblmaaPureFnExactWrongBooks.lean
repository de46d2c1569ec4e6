/- FnExactWrongBooks: for all arguments the answer is true: the program's WrongBooks answers as the reference's, in memory of its own. No conditions. -/
import Derived.Test.YthfegojffgblmaaX8
import Derived.Test.YthfegojffgblmaaPureWrong
import Derived.Test.YthfegojffgblmaaPureMarks
namespace Go.Proofs.Ythfegojffgblmaa.Pure
open Go.RowKit Go.Proofs.Ythfegojffgblmaa.X Go.Proofs.YthfegojffgblmaaW.PrintWords Go.Proofs.YthfegojffgblmaaW.PrintLast
set_option linter.unusedVariables false
set_option linter.unusedSimpArgs false

def conv (x : S71) : S54 := ⟨x.f0, x.f1, x.f2, x.f3⟩
theorem rd71 (l : List S71) (i : Nat) (h : i < l.length) : rd_T71 l i = l[i] := by
  unfold rd_T71
  simp [List.getD_eq_getElem?_getD, List.getElem?_eq_getElem h]
theorem fcopy_loop (l : List S71) (hl : l.length ≤ 2000000) (d : Nat) : ∀ (k i : Nat) (x3 : List S54), i + d = l.length → d < k → x3.length = l.length → (∀ j : Nat, j < i → x3[j]? = (l.map conv)[j]?) → laws_toFaultS.l0 k l x3 (i : Int) = some (l.map conv) := by
  induction d with
  | zero =>
    intro k i x3 hi hk hlen h
    obtain ⟨k, rfl⟩ : ∃ m, k = m + 1 := ⟨k - 1, by omega⟩
    simp only [laws_toFaultS.l0]
    rw [if_neg (by omega)]
    congr 1
    apply List.ext_getElem?
    intro j
    by_cases hj : j < i
    · exact h j hj
    · rw [List.getElem?_eq_none (by omega), List.getElem?_eq_none (by simp; omega)]
  | succ d ih =>
    intro k i x3 hi hk hlen h
    obtain ⟨k, rfl⟩ : ∃ m, k = m + 1 := ⟨k - 1, by omega⟩
    have hil : i < l.length := by omega
    simp only [laws_toFaultS.l0, laws_toFault.f, Option.bind_some]
    rw [if_pos (by omega), if_pos (by omega), if_pos (by omega), rd71 l i hil, Int.toNat_natCast, sw (by omega) (by omega)]
    refine ih k (i + 1) _ (by omega) (by omega) (by simp [hlen]) (fun j hj => ?_)
    by_cases hji : j = i
    · subst hji
      rw [List.getElem?_set_self (by omega), List.getElem?_map, List.getElem?_eq_getElem hil]
      rfl
    · rw [List.getElem?_set_ne (by omega)]
      exact h j (by omega)
theorem fcopy_ok (l : List S71) (hl : l.length ≤ 2000000) (k : Nat) (hk : l.length < k) : laws_toFaultS.f k l = some (l.map conv) := by
  unfold laws_toFaultS.f
  rw [if_pos (by omega), if_pos (by omega), Int.toNat_natCast]
  have := fcopy_loop l hl l.length k 0 (List.replicate l.length z54) (by omega) hk (by simp) (fun j hj => by omega)
  simpa using this
theorem feqs_loop (a : List S54) (hl : a.length ≤ 2000000) (d : Nat) : ∀ (k i : Nat), i + d = a.length → d < k → laws_eqFaultS.l0 k a a (i : Int) = some true := by
  induction d with
  | zero =>
    intro k i hi hk
    obtain ⟨k, rfl⟩ : ∃ m, k = m + 1 := ⟨k - 1, by omega⟩
    simp only [laws_eqFaultS.l0]
    rw [if_neg (by omega)]
  | succ d ih =>
    intro k i hi hk
    obtain ⟨k, rfl⟩ : ∃ m, k = m + 1 := ⟨k - 1, by omega⟩
    have he : ∀ a b c e : Int, laws_eqFault.f a b c e a b c e = some true := by
      intro a b c e
      unfold laws_eqFault.f
      simp
    simp only [laws_eqFaultS.l0]
    rw [if_pos (by omega), if_pos (by omega), if_pos (by omega), he, Option.bind_some, if_pos rfl, sw (by omega) (by omega)]
    exact ih k (i + 1) (by omega) (by omega)
theorem feqs_self (a : List S54) (hl : a.length ≤ 2000000) (k : Nat) (hk : a.length < k) : laws_eqFaultS.f k a a = some true := by
  unfold laws_eqFaultS.f
  rw [if_pos rfl]
  exact feqs_loop a hl a.length k 0 (by omega) hk
theorem fmark_loop (n : Nat) (hl : n ≤ 2000000) (d : Nat) : ∀ (k i : Nat) (x : List S54) (c : Int), i + d = n → d < k → x.length = n → c = 1 + 4 * (i : Int) → ∃ s, laws_markFaultS.l0 k x c (i : Int) = some (1 + 4 * (n : Int), s) := by
  induction d with
  | zero =>
    intro k i x c hi hk hlen hc
    obtain ⟨k, rfl⟩ : ∃ m, k = m + 1 := ⟨k - 1, by omega⟩
    obtain rfl : i = n := by omega
    simp only [laws_markFaultS.l0]
    rw [if_neg (by omega), hc]
    exact ⟨x, rfl⟩
  | succ d ih =>
    intro k i x c hi hk hlen hc
    obtain ⟨k, rfl⟩ : ∃ m, k = m + 1 := ⟨k - 1, by omega⟩
    simp only [laws_markFaultS.l0, Option.bind_some]
    rw [if_pos (by omega), if_pos (by omega), sw (x := c + 1) (by omega) (by omega), sw (x := c + 1 + 1) (by omega) (by omega), sw (x := c + 1 + 1 + 1) (by omega) (by omega), sw (x := c + 1 + 1 + 1 + 1) (by omega) (by omega), sw (x := (i : Int) + 1) (by omega) (by omega)]
    exact ih k (i + 1) _ _ (by omega) (by omega) (by simp [hlen]) (by omega)
theorem fmark_ok (l : List S54) (hl : l.length ≤ 2000000) (k : Nat) (hk : l.length < k) : ∃ s, laws_markFaultS.f k l 1 = some (1 + 4 * (l.length : Int), s) :=
  fmark_loop l.length hl l.length k 0 l 1 (by omega) hk rfl (by omega)

theorem FnExactWrongBooks : ∀ (a0 a1 : Int) (l2 : List S71), l2.length ≤ 9223372036854775807 → ∃ k, laws_FnExactWrongBooks.f k a0 a1 l2 = some true := by
  intro a0 a1 l2 hmax
  obtain ⟨K, hK⟩ : ∃ K, K = 3000000 := ⟨_, rfl⟩
  refine ⟨K + 3, ?_⟩
  unfold laws_FnExactWrongBooks.f laws_szFaultS.f
  have hw : wrap64 (1048576 - (l2.length : Int)) = 1048576 - (l2.length : Int) := by unfold wrap64; omega
  rw [hw]
  by_cases hl : 1048576 - (l2.length : Int) < 0
  · rw [if_pos hl, Option.bind_some, if_pos (by omega)]
  rw [if_neg hl, Option.bind_some, if_neg hl]
  clear hw
  obtain ⟨l, hlm⟩ : ∃ l, l = l2.map conv := ⟨_, rfl⟩
  have hll : l.length = l2.length := by rw [hlm]; simp
  have hcp : ∀ k, l2.length < k → laws_toFaultS.f k l2 = some l := fun k hk => by rw [hlm]; exact fcopy_ok l2 (by omega) k hk
  obtain ⟨r, hs, hi, h40⟩ := wrong_both a0 a1 l (K + 3) (by omega) (by omega)
  obtain ⟨r', hs', hi', h40'⟩ := wrong_both a0 a1 l (K + 1) (by omega) (by omega)
  have hrr : r' = r := by
    have hm : impl_WrongBooks.f (K + 3) a0 a1 l = some r' := at_rounds (fun k => impl_WrongBooks.mono a0 a1 l k) (show K + 1 ≤ K + 3 by omega) hi'
    rw [hi] at hm
    exact (Option.some.inj hm).symm
  subst hrr
  rw [hcp (K + 3) (by omega), Option.bind_some, hs, Option.bind_some, Option.bind_some, hi, Option.bind_some, eqs_self r'.1 (by omega) (K + 3) (by omega), Option.bind_some, if_pos rfl]
  simp only [laws_FnExactWrongBooks.j0]
  rw [if_neg (by simp), hcp (K + 2) (by omega), Option.bind_some, feqs_self l (by omega) (K + 2) (by omega), Option.bind_some, if_pos rfl]
  obtain ⟨s1, e1⟩ := fmark_ok l (by omega) (K + 2) (by omega)
  rw [e1, Option.bind_some]
  simp only
  rw [if_neg (by omega), eqs_self r'.1 (by omega) (K + 2) (by omega), Option.bind_some, if_pos rfl]
  simp only [laws_FnExactWrongBooks.j1]
  obtain ⟨s2, e2, hs2, hm2⟩ := mark_ok r'.1 1 (by omega) (by omega) (K + 1) (by omega)
  have hh := held_ok s2 1 (by omega) (by omega) (fun j hj => hm2 j (by omega)) (K + 1) (by omega)
  rw [if_neg (by simp), e2, Option.bind_some]
  simp only
  rw [hh, Option.bind_some, if_neg (by omega), if_pos (by omega), hcp (K + 1) (by omega), Option.bind_some, hi', Option.bind_some, eqs_self r'.1 (by omega) (K + 1) (by omega), Option.bind_some, if_pos rfl]
  simp only [laws_FnExactWrongBooks.j2]
  have hh0 := held_ok s2 1 (by omega) (by omega) (fun j hj => hm2 j (by omega)) K (by omega)
  rw [if_neg (by simp), hh0, Option.bind_some, if_neg (by omega), if_pos (by omega)]
end Go.Proofs.Ythfegojffgblmaa.Pure
