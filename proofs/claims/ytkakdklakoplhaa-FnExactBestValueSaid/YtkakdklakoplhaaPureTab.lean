/- The best values of all sheets: the table that both programs fill. No program in sight. -/
import Derived.Test.YtkakdklakoplhaaX0
namespace Go.Proofs.Ytkakdklakoplhaa.X
open Go.RowKit Go.Proofs.YtkakdklakoplhaaW.PrintWords Go.Proofs.YtkakdklakoplhaaW.PrintLast
set_option linter.unusedVariables false

/-- The best of the first n kinds that fit. -/
def kTo (l : List S35) (w h : Int) : Nat → Int
  | 0 => 0
  | n + 1 => if (rd_T35 l (n : Int)).f0 ≤ w ∧ (rd_T35 l (n : Int)).f1 ≤ h then mx (kTo l w h n) (rd_T35 l (n : Int)).f2 else kTo l w h n
/-- .. or of two sheets, cut upright at 1 to n .. -/
def xTo (T : Nat → Nat → Int) (w h : Nat) (b : Int) : Nat → Int
  | 0 => b
  | n + 1 => mx (xTo T w h b n) (wrap64 (T (n + 1) h + T (w - (n + 1)) h))
/-- .. or across. -/
def yTo (T : Nat → Nat → Int) (w h : Nat) (b : Int) : Nat → Int
  | 0 => b
  | n + 1 => mx (yTo T w h b n) (wrap64 (T w (n + 1) + T w (h - (n + 1))))
def cellOf (T : Nat → Nat → Int) (l : List S35) (w h : Nat) : Int := yTo T w h (xTo T w h (kTo l (w : Int) (h : Int) l.length) (w - 1)) (h - 1)
def tabN (l : List S35) : Nat → Nat → Nat → Int
  | 0, _, _ => 0
  | n + 1, w, h => if w = 0 ∨ h = 0 then 0 else cellOf (tabN l n) l w h
def tab (l : List S35) (w h : Nat) : Int := tabN l (w + h) w h
theorem xTo_congr {T T' : Nat → Nat → Int} {w h : Nat} {b : Int} : ∀ n, n < w → (∀ x, 1 ≤ x → x < w → T x h = T' x h) → xTo T w h b n = xTo T' w h b n
  | 0, _, _ => rfl
  | n + 1, hn, e => by
    simp only [xTo]
    rw [xTo_congr n (by omega) e, e (n + 1) (by omega) hn, e (w - (n + 1)) (by omega) (by omega)]
theorem yTo_congr {T T' : Nat → Nat → Int} {w h : Nat} {b : Int} : ∀ n, n < h → (∀ y, 1 ≤ y → y < h → T w y = T' w y) → yTo T w h b n = yTo T' w h b n
  | 0, _, _ => rfl
  | n + 1, hn, e => by
    simp only [yTo]
    rw [yTo_congr n (by omega) e, e (n + 1) (by omega) hn, e (h - (n + 1)) (by omega) (by omega)]
theorem cellOf_congr {T T' : Nat → Nat → Int} (l : List S35) {w h : Nat} (hw : 1 ≤ w) (hh : 1 ≤ h) (ex : ∀ x, 1 ≤ x → x < w → T x h = T' x h) (ey : ∀ y, 1 ≤ y → y < h → T w y = T' w y) : cellOf T l w h = cellOf T' l w h := by
  unfold cellOf
  rw [xTo_congr (w - 1) (by omega) ex, yTo_congr (h - 1) (by omega) ey]
theorem tabN_enough (l : List S35) : ∀ n m w h, w + h ≤ n → w + h ≤ m → tabN l n w h = tabN l m w h
  | 0, 0, _, _, _, _ => rfl
  | 0, m + 1, w, h, h1, _ => by
    obtain rfl : w = 0 := by omega
    simp [tabN]
  | n + 1, 0, w, h, _, h2 => by
    obtain rfl : w = 0 := by omega
    simp [tabN]
  | n + 1, m + 1, w, h, h1, h2 => by
    simp only [tabN]
    split
    · rfl
    · exact cellOf_congr l (by omega) (by omega) (fun x a b => tabN_enough l n m x h (by omega) (by omega)) (fun y a b => tabN_enough l n m w y (by omega) (by omega))
theorem tab_zero (l : List S35) (w h : Nat) (h0 : w = 0 ∨ h = 0) : tab l w h = 0 := by
  unfold tab
  cases hn : w + h with
  | zero => rfl
  | succ n => simp only [tabN]; rw [if_pos h0]
theorem tab_eq (l : List S35) (w h : Nat) (hw : 1 ≤ w) (hh : 1 ≤ h) : tab l w h = cellOf (tab l) l w h := by
  obtain ⟨n, hn⟩ : ∃ n, w + h = n + 1 := ⟨w + h - 1, by omega⟩
  unfold tab
  rw [hn]
  simp only [tabN]
  rw [if_neg (by omega)]
  exact cellOf_congr l hw hh (fun x a b => tabN_enough l n (x + h) x h (by omega) (by omega)) (fun y a b => tabN_enough l n (w + y) w y (by omega) (by omega))
end Go.Proofs.Ytkakdklakoplhaa.X
