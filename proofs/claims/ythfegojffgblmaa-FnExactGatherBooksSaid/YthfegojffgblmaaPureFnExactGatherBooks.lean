/- FnExactGatherBooks: for all arguments the answer is true: the program's GatherBooks answers as the reference's, in memory of its own. No conditions. -/
import Derived.Test.YthfegojffgblmaaX9
import Derived.Test.YthfegojffgblmaaPureGather
import Derived.Test.YthfegojffgblmaaPureMarks
namespace Go.Proofs.Ythfegojffgblmaa.Pure
open Go.RowKit Go.Proofs.Ythfegojffgblmaa.X Go.Proofs.YthfegojffgblmaaW.PrintWords Go.Proofs.YthfegojffgblmaaW.PrintLast
set_option linter.unusedVariables false
set_option linter.unusedSimpArgs false

def conv (x : S71) : S54 := ⟨x.f0, x.f1, x.f2, x.f3⟩
theorem rd71 (l : List S71) (i : Nat) (h : i < l.length) : rd_T71 l i = l[i] := by
  unfold rd_T71
  simp [List.getD_eq_getElem?_getD, List.getElem?_eq_getElem h]
theorem fcopy_loop (l : List S71) (hl : l.length ≤ 2000000) (d : Nat) : ∀ (k i : Nat) (x3 : List S54), i + d = l.length → d < k → x3.length = l.length → (∀ j : Nat, j < i → x3[j]? = (l.map conv)[j]?) → laws_toFaultS.l0 k l x3 (i : Int) = some (l.map conv) := by
  induction d with
  | zero =>
    intro k i x3 hi hk hlen h
    obtain ⟨k, rfl⟩ : ∃ m, k = m + 1 := ⟨k - 1, by omega⟩
    simp only [laws_toFaultS.l0]
    rw [if_neg (by omega)]
    congr 1
    apply List.ext_getElem?
    intro j
    by_cases hj : j < i
    · exact h j hj
    · rw [List.getElem?_eq_none (by omega), List.getElem?_eq_none (by simp; omega)]
  | succ d ih =>
    intro k i x3 hi hk hlen h
    obtain ⟨k, rfl⟩ : ∃ m, k = m + 1 := ⟨k - 1, by omega⟩
    have hil : i < l.length := by omega
    simp only [laws_toFaultS.l0, laws_toFault.f, Option.bind_some]
    rw [if_pos (by omega), if_pos (by omega), if_pos (by omega), rd71 l i hil, Int.toNat_natCast, sw (by omega) (by omega)]
    refine ih k (i + 1) _ (by omega) (by omega) (by simp [hlen]) (fun j hj => ?_)
    by_cases hji : j = i
    · subst hji
      rw [List.getElem?_set_self (by omega), List.getElem?_map, List.getElem?_eq_getElem hil]
      rfl
    · rw [List.getElem?_set_ne (by omega)]
      exact h j (by omega)
theorem fcopy_ok (l : List S71) (hl : l.length ≤ 2000000) (k : Nat) (hk : l.length < k) : laws_toFaultS.f k l = some (l.map conv) := by
  unfold laws_toFaultS.f
  rw [if_pos (by omega), if_pos (by omega), Int.toNat_natCast]
  have := fcopy_loop l hl l.length k 0 (List.replicate l.length z54) (by omega) hk (by simp) (fun j hj => by omega)
  simpa using this
theorem feqs_loop (a : List S54) (hl : a.length ≤ 2000000) (d : Nat) : ∀ (k i : Nat), i + d = a.length → d < k → laws_eqFaultS.l0 k a a (i : Int) = some true := by
  induction d with
  | zero =>
    intro k i hi hk
    obtain ⟨k, rfl⟩ : ∃ m, k = m + 1 := ⟨k - 1, by omega⟩
    simp only [laws_eqFaultS.l0]
    rw [if_neg (by omega)]
  | succ d ih =>
    intro k i hi hk
    obtain ⟨k, rfl⟩ : ∃ m, k = m + 1 := ⟨k - 1, by omega⟩
    have he : ∀ a b c e : Int, laws_eqFault.f a b c e a b c e = some true := by
      intro a b c e
      unfold laws_eqFault.f
      simp
    simp only [laws_eqFaultS.l0]
    rw [if_pos (by omega), if_pos (by omega), if_pos (by omega), he, Option.bind_some, if_pos rfl, sw (by omega) (by omega)]
    exact ih k (i + 1) (by omega) (by omega)
theorem feqs_self (a : List S54) (hl : a.length ≤ 2000000) (k : Nat) (hk : a.length < k) : laws_eqFaultS.f k a a = some true := by
  unfold laws_eqFaultS.f
  rw [if_pos rfl]
  exact feqs_loop a hl a.length k 0 (by omega) hk
theorem fmark_loop (n : Nat) (hl : n ≤ 2000000) (d : Nat) : ∀ (k i : Nat) (x : List S54) (c : Int), i + d = n → d < k → x.length = n → c = 1 + 4 * (i : Int) → ∃ s, laws_markFaultS.l0 k x c (i : Int) = some (1 + 4 * (n : Int), s) := by
  induction d with
  | zero =>
    intro k i x c hi hk hlen hc
    obtain ⟨k, rfl⟩ : ∃ m, k = m + 1 := ⟨k - 1, by omega⟩
    obtain rfl : i = n := by omega
    simp only [laws_markFaultS.l0]
    rw [if_neg (by omega), hc]
    exact ⟨x, rfl⟩
  | succ d ih =>
    intro k i x c hi hk hlen hc
    obtain ⟨k, rfl⟩ : ∃ m, k = m + 1 := ⟨k - 1, by omega⟩
    simp only [laws_markFaultS.l0, Option.bind_some]
    rw [if_pos (by omega), if_pos (by omega), sw (x := c + 1) (by omega) (by omega), sw (x := c + 1 + 1) (by omega) (by omega), sw (x := c + 1 + 1 + 1) (by omega) (by omega), sw (x := c + 1 + 1 + 1 + 1) (by omega) (by omega), sw (x := (i : Int) + 1) (by omega) (by omega)]
    exact ih k (i + 1) _ _ (by omega) (by omega) (by simp [hlen]) (by omega)
theorem fmark_ok (l : List S54) (hl : l.length ≤ 2000000) (k : Nat) (hk : l.length < k) : ∃ s, laws_markFaultS.f k l 1 = some (1 + 4 * (l.length : Int), s) :=
  fmark_loop l.length hl l.length k 0 l 1 (by omega) hk rfl (by omega)


theorem rdLn (l : List (List Int)) (i : Nat) (h : i < l.length) : rd_L3 l (i : Int) = l[i] := by
  unfold rd_L3
  simp [List.getD_eq_getElem?_getD, List.getElem?_eq_getElem h]
theorem geqs_loop (a : List (List Int)) (hl : a.length ≤ 40) (hr : ∀ x ∈ a, x.length ≤ 24) (d : Nat) : ∀ (k i : Nat), i + d = a.length → d + 30 < k → laws_eqInt64SS.l0 k a a (i : Int) = some true := by
  induction d with
  | zero =>
    intro k i hi hk
    obtain ⟨k, rfl⟩ : ∃ m, k = m + 1 := ⟨k - 1, by omega⟩
    simp only [laws_eqInt64SS.l0]
    rw [if_neg (by omega)]
  | succ d ih =>
    intro k i hi hk
    obtain ⟨k, rfl⟩ : ∃ m, k = m + 1 := ⟨k - 1, by omega⟩
    have hil : i < a.length := by omega
    have hx := hr _ (List.getElem_mem hil)
    simp only [laws_eqInt64SS.l0]
    rw [if_pos (by omega), if_pos (by omega), if_pos (by omega), rdLn a i hil, eqs_self _ (by omega) k (by omega), Option.bind_some, if_pos rfl, sw (by omega) (by omega)]
    exact ih k (i + 1) (by omega) (by omega)
theorem geqs_self (a : List (List Int)) (hl : a.length ≤ 40) (hr : ∀ x ∈ a, x.length ≤ 24) (k : Nat) (hk : 100 ≤ k) : laws_eqInt64SS.f k a a = some true := by
  unfold laws_eqInt64SS.f
  rw [if_pos rfl]
  exact geqs_loop a hl hr a.length k 0 (by omega) (by omega)
theorem gmark_loop (n : Nat) (hn : n ≤ 40) (d : Nat) : ∀ (k i : Nat) (x : List (List Int)) (q : Int), i + d = n → d + 30 < k → x.length = n → (∀ r ∈ x, r.length ≤ 24) → 0 ≤ q → q + 24 * (d : Int) ≤ 100000 →
    ∃ q' ss, laws_markInt64SS.l0 k x q (i : Int) = some (q', ss) ∧ ss.length = n ∧ (∀ j : Nat, j < i → ss[j]? = x[j]?) ∧ 0 ≤ q' ∧ ∀ k2, d + 30 < k2 → laws_heldInt64SS.l0 k2 ss q (i : Int) = some q' := by
  induction d with
  | zero =>
    intro k i x q hi hk hlen hr h0 hq
    obtain ⟨k, rfl⟩ : ∃ m, k = m + 1 := ⟨k - 1, by omega⟩
    simp only [laws_markInt64SS.l0]
    rw [if_neg (by omega)]
    refine ⟨q, x, rfl, hlen, fun j _ => rfl, h0, fun k2 hk2 => ?_⟩
    obtain ⟨k2, rfl⟩ : ∃ m, k2 = m + 1 := ⟨k2 - 1, by omega⟩
    simp only [laws_heldInt64SS.l0]
    rw [if_neg (by omega)]
  | succ d ih =>
    intro k i x q hi hk hlen hr h0 hq
    obtain ⟨k, rfl⟩ : ∃ m, k = m + 1 := ⟨k - 1, by omega⟩
    have hil : i < x.length := by omega
    have hx := hr _ (List.getElem_mem hil)
    obtain ⟨s, e1, hs, hm⟩ := mark_ok x[i] q (by omega) (by omega) k (by omega)
    simp only [laws_markInt64SS.l0]
    have hg : x.getD i [] = x[i] := by simp [List.getD_eq_getElem?_getD, List.getElem?_eq_getElem hil]
    rw [if_pos (by omega), if_pos (by omega), Int.toNat_natCast, hg, e1, Option.bind_some, sw (by omega) (by omega)]
    obtain ⟨q', ss, e2, hsl, hss, hq', hh⟩ := ih k (i + 1) (x.set i s) (q + x[i].length) (by omega) (by omega) (by simp [hlen]) (fun r hr' => by
      rcases List.mem_or_eq_of_mem_set hr' with h | h
      · exact hr r h
      · rw [h]; omega) (by omega) (by omega)
    refine ⟨q', ss, by simpa using e2, hsl, fun j hj => ?_, hq', fun k2 hk2 => ?_⟩
    · rw [hss j (by omega), List.getElem?_set_ne (by omega)]
    · obtain ⟨k2, rfl⟩ : ∃ m, k2 = m + 1 := ⟨k2 - 1, by omega⟩
      have hsi : ss[i]? = some s := by rw [hss i (by omega), List.getElem?_set_self hil]
      obtain ⟨hi2, hsi2⟩ := List.getElem?_eq_some_iff.1 hsi
      simp only [laws_heldInt64SS.l0]
      rw [if_pos (by omega), if_pos (by omega), rdLn ss i hi2, hsi2, held_ok s q (by omega) (by omega) (fun j hj => hm j (by omega)) k2 (by omega), Option.bind_some, if_neg (by omega), sw (by omega) (by omega), hs]
      exact hh k2 (by omega)
theorem gmark_ok (x : List (List Int)) (hl : x.length ≤ 40) (hr : ∀ r ∈ x, r.length ≤ 24) (k : Nat) (hk : 100 ≤ k) :
    ∃ q' ss, laws_markInt64SS.f k x 1 = some (q', ss) ∧ 0 ≤ q' ∧ ∀ k2, 100 ≤ k2 → laws_heldInt64SS.f k2 ss 1 = some q' := by
  obtain ⟨q', ss, e, _, _, h0, hh⟩ := gmark_loop x.length hl x.length k 0 x 1 (by omega) (by omega) rfl hr (by omega) (by omega)
  exact ⟨q', ss, e, h0, fun k2 hk2 => hh k2 (by omega)⟩

theorem FnExactGatherBooks : ∀ (a0 a1 : Int) (l2 : List S71), l2.length ≤ 9223372036854775807 → ∃ k, laws_FnExactGatherBooks.f k a0 a1 l2 = some true := by
  intro a0 a1 l2 hmax
  obtain ⟨K, hK⟩ : ∃ K, K = 3000000 := ⟨_, rfl⟩
  refine ⟨K + 3, ?_⟩
  unfold laws_FnExactGatherBooks.f laws_szFaultS.f
  have hw : wrap64 (1048576 - (l2.length : Int)) = 1048576 - (l2.length : Int) := by unfold wrap64; omega
  rw [hw]
  by_cases hl : 1048576 - (l2.length : Int) < 0
  · rw [if_pos hl, Option.bind_some, if_pos (by omega)]
  rw [if_neg hl, Option.bind_some, if_neg hl]
  clear hw
  obtain ⟨l, hlm⟩ : ∃ l, l = l2.map conv := ⟨_, rfl⟩
  have hll : l.length = l2.length := by rw [hlm]; simp
  have hcp : ∀ k, l2.length < k → laws_toFaultS.f k l2 = some l := fun k hk => by rw [hlm]; exact fcopy_ok l2 (by omega) k hk
  obtain ⟨r, hs, hi, h40, h24⟩ := gather_both a0 a1 l (K + 3) (by omega) (by omega)
  rw [hcp (K + 3) (by omega), Option.bind_some, hs, Option.bind_some, Option.bind_some, hi, Option.bind_some, geqs_self r.1 h40 h24 (K + 3) (by omega), Option.bind_some, if_pos rfl]
  simp only [laws_FnExactGatherBooks.j0]
  rw [if_neg (by simp), hcp (K + 2) (by omega), Option.bind_some, feqs_self l (by omega) (K + 2) (by omega), Option.bind_some, if_pos rfl]
  obtain ⟨s1, e1⟩ := fmark_ok l (by omega) (K + 2) (by omega)
  rw [e1, Option.bind_some]
  simp only
  rw [if_neg (by omega), geqs_self r.1 h40 h24 (K + 2) (by omega), Option.bind_some, if_pos rfl]
  simp only [laws_FnExactGatherBooks.j1]
  obtain ⟨q', s2, e2, h0, hh⟩ := gmark_ok r.1 h40 h24 (K + 1) (by omega)
  rw [if_neg (by simp), e2, Option.bind_some]
  simp only
  rw [hh (K + 1) (by omega), Option.bind_some, if_neg (by omega), if_pos rfl, hcp (K + 1) (by omega), Option.bind_some, hi, Option.bind_some, geqs_self r.1 h40 h24 (K + 1) (by omega), Option.bind_some, if_pos rfl]
  simp only [laws_FnExactGatherBooks.j2]
  rw [if_neg (by simp), hh K (by omega), Option.bind_some, if_neg (by omega), if_pos rfl]
end Go.Proofs.Ythfegojffgblmaa.Pure
