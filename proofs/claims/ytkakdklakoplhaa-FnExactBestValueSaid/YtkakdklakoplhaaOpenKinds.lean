/- A slice of structs of three whole numbers, opened at every index. No conditions. -/
import Derived.Test.YtkakdklakoplhaaX0
import Derived.Deep.Slices
import Derived.ChangeSame
import Derived.RowKit
namespace Go.Proofs.Ytkakdklakoplhaa.X
open Go.ChangeShapes Go.WideShapes Go.Deep Go.RowKit Go.Proofs.YtkakdklakoplhaaW.PrintWords Go.Proofs.YtkakdklakoplhaaW.PrintLast Go.Proofs.YtkakdklakoplhaaW.PrintMore
section
variable {H : Type} {enc : TypeId × Value → H} {P : Program} {w : World} {base : Nat} {spare : Nat → Bool} {held : Bool}
/-- A slice of structs of three whole numbers, opened. -/
theorem open_kinds {t e : TypeId} {f0 f1 f2 : Field} {fuel : Nat} {cs : List Value} {x : DataW H × List MemPlace} (ht : P.underlying t = some (.slice e)) (he : P.underlying e = some (.struct #[f0, f1, f2]))
    (ce : P.cellsOf e = 3) (o0 : f0.offset = 0) (o1 : f1.offset = 1) (o2 : f2.offset = 2) (c0 : P.cellsOf f0.type = 1) (c1 : P.cellsOf f1.type = 1) (c2 : P.cellsOf f2.type = 1)
    (u0 : P.underlying f0.type = some (.int .i64)) (u1 : P.underlying f1.type = some (.int .i64)) (u2 : P.underlying f2.type = some (.int .i64))
    (h : DataW.trod enc P w base spare held fuel t cs = some x) :
    cs = [.slice none 0 0] ∨
    ∃ (a : Addr) (len cap : Nat) (q : Nat → Int × Int × Int), cs = [.slice (some a) len cap] ∧ len ≤ cap ∧ cap ≤ maxLen ∧
      ∀ i, i < len → w.cell? (a.add (i * 3)) = some (.int .i64 (q i).1) ∧ w.cell? (a.add (i * 3 + 1)) = some (.int .i64 (q i).2.1) ∧ w.cell? (a.add (i * 3 + 2)) = some (.int .i64 (q i).2.2) := by
  rcases open_slice ht h with h0 | ⟨a, len, cap, m, n, D, Pl, rfl, hb, hl, hm, hmm, rfl, hx⟩
  · exact Or.inl h0.1
  right
  have hlm : len ≤ m := by rw [hmm]; split <;> omega
  have each : ∀ i, i < len → ∃ q : Int × Int × Int, w.cell? (a.add (i * 3)) = some (.int .i64 q.1) ∧ w.cell? (a.add (i * 3 + 1)) = some (.int .i64 q.2.1) ∧ w.cell? (a.add (i * 3 + 2)) = some (.int .i64 q.2.2) := by
    intro i hi
    obtain ⟨cs', h1, h2⟩ := hx i (by omega)
    rw [ce] at h1
    obtain ⟨_, hlen, hcell⟩ := World.cells?_some h1
    obtain ⟨xs, k, hk, hxy, _, hxl, hf⟩ := DataW.trod_struct he h2
    match xs, hxl, cs', hlen with
    | [y0, y1, y2], _, [v0, v1, v2], _ =>
      have g0 := hf 0 f0 rfl
      have g1 := hf 1 f1 rfl
      have g2 := hf 2 f2 rfl
      simp [o0, o1, o2, c0, c1, c2] at g0 g1 g2
      have e0 := hcell 0 (by omega)
      have e1 := hcell 1 (by omega)
      have e2 := hcell 2 (by omega)
      rw [Go.Deep.add_add] at e0 e1 e2
      obtain ⟨m0, r0, _, _⟩ := DataW.trod_int u0 g0
      obtain ⟨m1, r1, _, _⟩ := DataW.trod_int u1 g1
      obtain ⟨m2, r2, _, _⟩ := DataW.trod_int u2 g2
      simp at r0 r1 r2
      subst r0 r1 r2
      exact ⟨(m0, m1, m2), by simpa using e0, by simpa using e1, by simpa using e2⟩
  obtain ⟨q, hq⟩ := choose_lt each
  exact ⟨a, len, cap, q, rfl, hl, hm, hq⟩
end
/-- A slice of structs of three whole numbers, as the print's rows want it. -/
theorem kinds_row {w : World} {a : Addr} {len cap : Nat} {q : Nat → Int × Int × Int} (hl : len ≤ cap) (hm : cap ≤ maxLen)
    (hq : ∀ i, i < len → w.cell? (a.add (i * 3)) = some (.int .i64 (q i).1) ∧ w.cell? (a.add (i * 3 + 1)) = some (.int .i64 (q i).2.1) ∧ w.cell? (a.add (i * 3 + 2)) = some (.int .i64 (q i).2.2)) :
    ∃ l : List S37, l.length = len ∧ Kd.C k37 w (some a) l.length l := by
  refine ⟨(List.range len).map fun i => ⟨(q i).1, (q i).2.1, (q i).2.2⟩, by simp, ?_⟩
  refine ⟨rfl, by simp [maxLen] at hm ⊢; omega, fun _ => ⟨a, rfl, fun j p hj => ?_⟩⟩
  obtain ⟨hjl, hp⟩ := List.getElem?_eq_some_iff.1 hj
  have hjl' : j < len := by simpa using hjl
  simp only [List.getElem_map, List.getElem_range] at hp
  subst hp
  obtain ⟨h0, h1, h2⟩ := hq j hjl'
  refine ⟨_, rfl, k37_mk w _, fun i u hu => ?_⟩
  show w.cell? (a.add (j * 3 + i)) = some u
  match i, hu with
  | 0, hu => simp at hu; rw [← hu]; simpa using h0
  | 1, hu => simp at hu; rw [← hu]; exact h1
  | 2, hu => simp at hu; rw [← hu]; exact h2
  | n + 3, hu => simp at hu
end Go.Proofs.Ytkakdklakoplhaa.X
