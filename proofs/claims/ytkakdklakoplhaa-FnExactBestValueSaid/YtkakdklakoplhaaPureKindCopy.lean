/- Lists of kinds, copied and compared. No conditions but the list's length. -/
import Derived.Test.YtkakdklakoplhaaX2
import Derived.Test.YtkakdklakoplhaaX4
import Derived.Test.YtkakdklakoplhaaPureKinds
namespace Go.Proofs.Ytkakdklakoplhaa.Pure
open Go.RowKit Go.Proofs.Ytkakdklakoplhaa.X Go.Proofs.YtkakdklakoplhaaW.PrintWords Go.Proofs.YtkakdklakoplhaaW.PrintLast
set_option linter.unusedVariables false
set_option linter.unusedSimpArgs false

def kconv (x : S37) : S35 := ⟨x.f0, x.f1, x.f2⟩
theorem rdLK (l : List S37) (i : Nat) (h : i < l.length) : rd_T37 l i = l[i] := by
  unfold rd_T37
  simp [List.getD_eq_getElem?_getD, List.getElem?_eq_getElem h]
theorem kcopy_loop (l : List S37) (hl : l.length ≤ 2000000) (d : Nat) : ∀ (k i : Nat) (x3 : List S35), i + d = l.length → d < k → x3.length = l.length → (∀ j : Nat, j < i → x3[j]? = (l.map kconv)[j]?) → laws_toKindS.l0 k l x3 (i : Int) = some (l.map kconv) := by
  induction d with
  | zero =>
    intro k i x3 hi hk hlen h
    obtain ⟨k, rfl⟩ : ∃ m, k = m + 1 := ⟨k - 1, by omega⟩
    simp only [laws_toKindS.l0]
    rw [if_neg (by omega)]
    congr 1
    apply List.ext_getElem?
    intro j
    by_cases hj : j < i
    · exact h j hj
    · rw [List.getElem?_eq_none (by omega), List.getElem?_eq_none (by simp; omega)]
  | succ d ih =>
    intro k i x3 hi hk hlen h
    obtain ⟨k, rfl⟩ : ∃ m, k = m + 1 := ⟨k - 1, by omega⟩
    have hil : i < l.length := by omega
    simp only [laws_toKindS.l0, laws_toKind.f, Option.bind_some]
    rw [if_pos (by omega), if_pos (by omega), if_pos (by omega), rdLK l i hil, Int.toNat_natCast, sw (by omega) (by omega)]
    refine ih k (i + 1) _ (by omega) (by omega) (by simp [hlen]) (fun j hj => ?_)
    by_cases hji : j = i
    · subst hji
      rw [List.getElem?_set_self (by omega), List.getElem?_map, List.getElem?_eq_getElem hil]
      rfl
    · rw [List.getElem?_set_ne (by omega)]
      exact h j (by omega)
theorem kcopy_ok (l : List S37) (hl : l.length ≤ 2000000) (k : Nat) (hk : l.length < k) : laws_toKindS.f k l = some (l.map kconv) := by
  unfold laws_toKindS.f
  rw [if_pos (by omega), if_pos (by omega), Int.toNat_natCast]
  have := kcopy_loop l hl l.length k 0 (List.replicate l.length z35) (by omega) hk (by simp) (fun j hj => by omega)
  simpa using this
theorem keqs_loop (a : List S35) (hl : a.length ≤ 2000000) (d : Nat) : ∀ (k i : Nat), i + d = a.length → d < k → laws_eqKindS.l0 k a a (i : Int) = some true := by
  induction d with
  | zero =>
    intro k i hi hk
    obtain ⟨k, rfl⟩ : ∃ m, k = m + 1 := ⟨k - 1, by omega⟩
    simp only [laws_eqKindS.l0]
    rw [if_neg (by omega)]
  | succ d ih =>
    intro k i hi hk
    obtain ⟨k, rfl⟩ : ∃ m, k = m + 1 := ⟨k - 1, by omega⟩
    have he : ∀ a b c : Int, laws_eqKind.f a b c a b c = some true := by
      intro a b c
      unfold laws_eqKind.f
      simp
    simp only [laws_eqKindS.l0]
    rw [if_pos (by omega), if_pos (by omega), if_pos (by omega), he, Option.bind_some, if_pos rfl, sw (by omega) (by omega)]
    exact ih k (i + 1) (by omega) (by omega)
theorem keqs_self (a : List S35) (hl : a.length ≤ 2000000) (k : Nat) (hk : a.length < k) : laws_eqKindS.f k a a = some true := by
  unfold laws_eqKindS.f
  rw [if_pos rfl]
  exact keqs_loop a hl a.length k 0 (by omega) hk
end Go.Proofs.Ytkakdklakoplhaa.Pure
