/- Blocks from faults: the path of a best explanation, its faults, and what they leave. No conditions but the line's bounds. -/
import Derived.Test.YthfegojffgblmaaX8
import Derived.Test.YthfegojffgblmaaX10
import Derived.Test.YthfegojffgblmaaX10
import Derived.Test.YthfegojffgblmaaX11
import Derived.Test.YthfegojffgblmaaPureBlocks
import Derived.Test.YthfegojffgblmaaEAreFaults
import Derived.Test.YthfegojffgblmaaEGather
namespace Go.Proofs.Ythfegojffgblmaa.Pure
open Go.RowKit Go.Proofs.Ythfegojffgblmaa.X Go.Proofs.YthfegojffgblmaaW.PrintWords Go.Proofs.YthfegojffgblmaaW.PrintLast
set_option linter.unusedVariables false
set_option linter.unusedSimpArgs false

theorem hit_some {b : List Int} {F : Nat → Nat} {s pl L i e : Nat} (h : hit b F s pl L i = some e) : nx b s pl i = some e ∧ F e + (if i = 0 then 0 else 1) = L := by
  unfold hit at h
  rcases hn : nx b s pl i with _ | e2
  · rw [hn] at h; cases h
  · rw [hn] at h
    simp only at h
    by_cases c : F e2 + (if i = 0 then 0 else 1) = L
    · rw [if_pos c] at h
      cases h
      exact ⟨rfl, c⟩
    · rw [if_neg c] at h
      cases h
-- the path of an explanation
theorem path (b : List Int) (d : Nat) : ∀ (s pl : Nat), few b d s pl < 1000000000 → (∀ (d' s' e : Nat), s' + d' = s + d → few b d' s' e < 1000000000 → True) → pl ≤ b.length →
    ∃ (K P : Nat → Nat), (∀ i, i < d → K i ≤ 4 ∧ nx b (s + i) (P i) (K i) = some (P (i + 1))) ∧ P 0 = pl ∧ P d = b.length ∧ build b d s pl (few b d s pl) = (List.range d).map (fun i => (K i : Int)) := by
  induction d with
  | zero =>
    intro s pl hf _ hpl
    refine ⟨fun _ => 0, fun _ => pl, fun i hi => absurd hi (by omega), rfl, ?_, by simp [build]⟩
    by_cases c : pl = b.length
    · exact c
    · have : few b 0 s pl = 1000000000 := by simp [few, c]
      omega
  | succ d ih =>
    intro s pl hf _ hpl
    -- a kind that keeps to the fewest
    have hmin : ∀ kd, upto b (fun e => few b d (s + 1) e) s pl kd < 1000000000 → ∃ j e, j < kd ∧ nx b s pl j = some e ∧ few b d (s + 1) e + (if j = 0 then 0 else 1) = upto b (fun e => few b d (s + 1) e) s pl kd := by
      intro kd
      induction kd with
      | zero => intro h; simp [upto] at h
      | succ kd ihk =>
        intro h
        rcases hn : nx b s pl kd with _ | e
        · have hu : upto b (fun e => few b d (s + 1) e) s pl (kd + 1) = upto b (fun e => few b d (s + 1) e) s pl kd := by simp only [upto, hn]
          rw [hu] at h ⊢
          obtain ⟨j, e, h1, h2, h3⟩ := ihk h
          exact ⟨j, e, by omega, h2, h3⟩
        · have hu : upto b (fun e => few b d (s + 1) e) s pl (kd + 1) = min (upto b (fun e => few b d (s + 1) e) s pl kd) (few b d (s + 1) e + if kd = 0 then 0 else 1) := by simp only [upto, hn]
          by_cases c : upto b (fun e => few b d (s + 1) e) s pl kd ≤ few b d (s + 1) e + if kd = 0 then 0 else 1
          · rw [Nat.min_eq_left c] at hu
            rw [hu] at h ⊢
            obtain ⟨j, e, h1, h2, h3⟩ := ihk h
            exact ⟨j, e, by omega, h2, h3⟩
          · rw [Nat.min_eq_right (by omega)] at hu
            rw [hu]
            exact ⟨kd, e, by omega, hn, rfl⟩
    have hfew : few b (d + 1) s pl = upto b (fun e => few b d (s + 1) e) s pl 5 := rfl
    obtain ⟨j0, e0, hj0, hn0, hv0⟩ := hmin 5 (by rw [← hfew]; exact hf)
    -- the first of them
    have hfirst : ∀ j, (∃ e, nx b s pl j = some e ∧ few b d (s + 1) e + (if j = 0 then 0 else 1) = few b (d + 1) s pl) → ∃ i e, i ≤ j ∧ hit b (fun e => few b d (s + 1) e) s pl (few b (d + 1) s pl) i = some e ∧ ∀ i', i' < i → hit b (fun e => few b d (s + 1) e) s pl (few b (d + 1) s pl) i' = none := by
      intro j
      induction j using Nat.strongRecOn with
      | ind j ihj =>
        rintro ⟨e, h1, h2⟩
        by_cases c : ∃ i', i' < j ∧ ∃ e', hit b (fun e => few b d (s + 1) e) s pl (few b (d + 1) s pl) i' = some e'
        · obtain ⟨i', hi', e', he'⟩ := c
          have : ∃ e, nx b s pl i' = some e ∧ few b d (s + 1) e + (if i' = 0 then 0 else 1) = few b (d + 1) s pl := ⟨e', hit_some he'⟩
          obtain ⟨i, e3, h3, h4, h5⟩ := ihj i' hi' this
          exact ⟨i, e3, by omega, h4, h5⟩
        · refine ⟨j, e, Nat.le_refl _, ?_, fun i' hi' => ?_⟩
          · unfold hit
            rw [h1]
            simp only
            rw [if_pos h2]
          · rcases hh : hit b (fun e => few b d (s + 1) e) s pl (few b (d + 1) s pl) i' with _ | e'
            · rfl
            · exact absurd ⟨i', hi', e', hh⟩ c
    obtain ⟨kd, e, hkd, hhit, hno⟩ := hfirst j0 ⟨e0, hn0, by rw [hfew]; exact hv0⟩
    have hkn : nx b s pl kd = some e ∧ few b d (s + 1) e + (if kd = 0 then 0 else 1) = few b (d + 1) s pl := hit_some hhit
    obtain ⟨K, P, h1, h2, h3, h4⟩ := ih (s + 1) e (by omega) (fun _ _ _ _ _ => trivial) (nx_le hkn.1)
    refine ⟨fun i => match i with | 0 => kd | i + 1 => K i, fun i => match i with | 0 => pl | i + 1 => P i, fun i hi => ?_, rfl, h3, ?_⟩
    · cases i with
      | zero => exact ⟨show kd ≤ 4 by omega, by show nx b (s + 0) pl kd = some (P 0); rw [h2, Nat.add_zero]; exact hkn.1⟩
      | succ i =>
        have := h1 i (by omega)
        rw [show s + (i + 1) = s + 1 + i by omega]
        exact this
    · rw [build_some (pick_first hhit hno 5 0 (by omega) (by omega)), show few b (d + 1) s pl - (if kd = 0 then 0 else 1) = few b d (s + 1) e by omega, h4, List.range_succ_eq_map]
      simp

-- what a step takes
theorem nx_take {b : List Int} {s pl kd e : Nat} (h : nx b s pl kd = some e) : e = pl + (pt s kd (rd b pl - 1)).length ∧ pt s kd (rd b pl - 1) = (b.drop pl).take (pt s kd (rd b pl - 1)).length ∧ e ≤ b.length ∧ (kd = 4 → pl < b.length ∧ 1 ≤ rd b pl ∧ rd b pl ≠ (s : Int) + 1) := by
  have g : ∀ l : List Int, nxg b pl l = some e → e = pl + l.length ∧ l = (b.drop pl).take l.length ∧ e ≤ b.length := by
    intro l hl
    unfold nxg at hl
    split at hl
    · rename_i hh
      cases hl
      exact ⟨rfl, hh.2, hh.1⟩
    · cases hl
  unfold nx at h
  by_cases h4 : kd = 4
  · subst h4
    rw [if_pos rfl] at h
    split at h
    · cases h
    · rename_i hc
      obtain ⟨h1, h2, h3⟩ := g _ h
      refine ⟨h1, h2, h3, fun _ => ?_⟩
      have : pt s 4 (rd b pl - 1) = [rd b pl] := by unfold pt; simp
      rw [this] at h1
      simp at h1
      omega
  · rw [if_neg h4] at h
    have hp : pt s kd (-1) = pt s kd (rd b pl - 1) := by unfold pt; simp only [if_neg h4]
    rw [hp] at h
    obtain ⟨h1, h2, h3⟩ := g _ h
    exact ⟨h1, h2, h3, fun h => absurd h h4⟩

-- the faults of a path
def flt (b : List Int) (K P : Nat → Nat) (st : Nat) : S54 := ⟨0, st, K st, if K st = 4 then rd b (P st) - 1 else 0⟩
def fls (b : List Int) (K P : Nat → Nat) : Nat → List S54
  | 0 => []
  | s + 1 => fls b K P s ++ (if K s = 0 then [] else [flt b K P s])
theorem mem_fls {b : List Int} {K P : Nat → Nat} {f : S54} : ∀ {s : Nat}, f ∈ fls b K P s ↔ ∃ st, st < s ∧ K st ≠ 0 ∧ f = flt b K P st
  | 0 => by simp [fls]
  | s + 1 => by
    simp only [fls, List.mem_append, mem_fls (s := s)]
    constructor
    · rintro (⟨st, h1, h2, h3⟩ | h)
      · exact ⟨st, by omega, h2, h3⟩
      · by_cases c : K s = 0
        · rw [if_pos c] at h; simp at h
        · rw [if_neg c] at h
          exact ⟨s, by omega, c, by simpa using h⟩
    · rintro ⟨st, h1, h2, h3⟩
      by_cases c : st = s
      · subst c
        right
        rw [if_neg h2]
        simp [h3]
      · exact .inl ⟨st, by omega, h2, h3⟩
theorem fls_len (b : List Int) (K P : Nat → Nat) : ∀ s, (fls b K P s).length ≤ s
  | 0 => Nat.le_refl _
  | s + 1 => by
    have := fls_len b K P s
    simp only [fls, List.length_append]
    split <;> simp <;> omega
theorem fls_pair (b : List Int) (K P : Nat → Nat) : ∀ s, (fls b K P s).Pairwise (fun x y => x.f1 < y.f1)
  | 0 => by simp [fls]
  | s + 1 => by
    simp only [fls]
    rw [List.pairwise_append]
    refine ⟨fls_pair b K P s, by split <;> simp, fun x hx y hy => ?_⟩
    obtain ⟨st, h1, _, rfl⟩ := mem_fls.1 hx
    by_cases c : K s = 0
    · rw [if_pos c] at hy; simp at hy
    · rw [if_neg c] at hy
      simp at hy
      subst hy
      simp only [flt]
      omega
/-- Stations, their kinds and their places. -/
structure IsPath (b : List Int) (N : Nat) (K P : Nat → Nat) : Prop where
  step : ∀ i, i < N → K i ≤ 4 ∧ nx b i (P i) (K i) = some (P (i + 1))
  at0 : P 0 = 0
  atN : P N = b.length
theorem idx_cases {α : Type} (p : α → Bool) : ∀ (l : List α) (i : Int), (idxFrom p l i = -1 ∧ ∀ x ∈ l, p x = false) ∨ ∃ j : Nat, ∃ h : j < l.length, idxFrom p l i = i + j ∧ p l[j] = true
  | [], i => .inl ⟨rfl, by simp⟩
  | x :: xs, i => by
    simp only [idxFrom]
    by_cases c : p x = true
    · rw [if_pos c]
      exact .inr ⟨0, by simp, by simp, by simpa using c⟩
    · rw [if_neg c]
      rcases idx_cases p xs (i + 1) with ⟨h1, h2⟩ | ⟨j, h1, h2, h3⟩
      · exact .inl ⟨h1, by intro y hy; rcases List.mem_cons.1 hy with rfl | hy; simpa using c; exact h2 y hy⟩
      · exact .inr ⟨j + 1, by simp; omega, by rw [h2]; omega, by simpa using h3⟩
theorem pt_other {s kd : Nat} {o o' : Int} (h : kd ≠ 4) : pt s kd o = pt s kd o' := by unfold pt; simp only [if_neg h]
theorem rd_in {l : List Int} {lo hi : Int} (h : ∀ x ∈ l, lo ≤ x ∧ x ≤ hi) (h0 : lo ≤ 0 ∧ 0 ≤ hi) (i : Nat) : lo ≤ rd l i ∧ rd l i ≤ hi := by
  by_cases c : i < l.length
  · rw [rd_at l i c]
    exact h _ (List.getElem_mem c)
  · unfold rd
    rw [List.getD_eq_getElem?_getD, List.getElem?_eq_none (by simpa using c)]
    exact h0
theorem stat_is {b : List Int} {N : Nat} {K P : Nat → Nat} (hp : IsPath b N K P) (hN : N ≤ 12) (hb : ∀ x ∈ b, -12 ≤ x ∧ x ≤ 12) (st : Nat) (hst : st < N) : stat (fls b K P N) 0 st = pt st (K st) (rd b (P st) - 1) := by
  have hr := rd_in hb (by omega) (P st)
  unfold stat
  rcases idx_cases (hereF 0 st) (fls b K P N) 0 with ⟨h1, h2⟩ | ⟨j, hj, h1, h2⟩
  · rw [h1, if_pos (by omega)]
    have hk : K st = 0 := by
      by_cases c : K st = 0
      · exact c
      · have := h2 (flt b K P st) (mem_fls.2 ⟨st, hst, c, rfl⟩)
        simp [hereF, flt] at this
    rw [hk, sw (by omega) (by omega)]
    unfold pt
    simp
  · rw [h1, if_neg (by omega), show (0 : Int) + (j : Int) = (j : Int) by omega]
    have hg : rd_T54 (fls b K P N) (j : Int) = (fls b K P N)[j] := by unfold rd_T54; simp [List.getD_eq_getElem?_getD, List.getElem?_eq_getElem hj]
    rw [hg]
    obtain ⟨st', h3, h4, h5⟩ := mem_fls.1 (List.getElem_mem hj)
    rw [h5] at h2 ⊢
    unfold hereF at h2
    rw [Bool.and_eq_true] at h2
    have h6 : (st' : Int) = (st : Int) := of_decide_eq_true h2.2
    have : st' = st := by omega
    subst this
    simp only [flt]
    by_cases c4 : K st' = 4
    · rw [if_pos c4, left_pt st' (K st') _ (by omega) (by omega)]
      rfl
    · rw [if_neg c4, left_pt st' (K st') 0 (by omega) (by omega)]
      exact pt_other c4
theorem blockTo_is {b : List Int} {N : Nat} {K P : Nat → Nat} (hp : IsPath b N K P) (hN : N ≤ 12) (hb : ∀ x ∈ b, -12 ≤ x ∧ x ≤ 12) : ∀ s, s ≤ N → blockTo (fls b K P N) 0 s = b.take (P s)
  | 0, _ => by simp [blockTo, hp.at0]
  | s + 1, h => by
    obtain ⟨h1, h2, h3, h4⟩ := nx_take (hp.step s (by omega)).2
    simp only [blockTo]
    rw [blockTo_is hp hN hb s (by omega), stat_is hp hN hb s (by omega), h1, List.take_add]
    rw [← h2]
theorem books_is {b : List Int} {N : Nat} {K P : Nat → Nat} (hp : IsPath b N K P) (h1 : 1 ≤ N) (hN : N ≤ 12) (hb : ∀ x ∈ b, -(N : Int) ≤ x ∧ x ≤ N) : impl_GatherBooks.f (N : Int) 1 (fls b K P N) = some ([b], 0) := by
  have hb' : ∀ x ∈ b, -12 ≤ x ∧ x ≤ 12 := fun x hx => by have := hb x hx; omega
  have hlen := fls_len b K P N
  have hline : impl_isLine.f (N : Int) 1 = some true := by
    rw [isLine_is]
    simp
    omega
  have hall : (List.range (fls b K P N).length).all (okAt (N : Int) 1 (fls b K P N)) = true := by
    rw [List.all_eq_true]
    intro i hi
    have hi := List.mem_range.1 hi
    have hg : rd_T54 (fls b K P N) (i : Int) = (fls b K P N)[i] := by unfold rd_T54; simp [List.getD_eq_getElem?_getD, List.getElem?_eq_getElem hi]
    unfold okAt
    rw [hg, Bool.and_eq_true]
    constructor
    · obtain ⟨st, h3, h4, h5⟩ := mem_fls.1 (List.getElem_mem hi)
      rw [h5]
      have hk := (hp.step st h3)
      have hr := rd_in hb (by omega) (P st)
      have w1 : wrap64 ((1 : Int) - 1) = 0 := by rw [sw (by omega) (by omega)]; rfl
      have w2 : wrap64 ((N : Int) - 1) = (N : Int) - 1 := sw (by omega) (by omega)
      by_cases c4 : K st = 4
      · have h6 := (nx_take hk.2).2.2.2 c4
        have e : flt b K P st = ⟨0, st, 4, rd b (P st) - 1⟩ := by simp [flt, c4]
        rw [e]
        unfold okF
        rw [w1, w2]
        simp
        omega
      · have e : flt b K P st = ⟨0, st, K st, 0⟩ := by simp [flt, c4]
        rw [e]
        unfold okF
        rw [w1, w2]
        have c4' : ¬ (K st : Int) = 4 := by omega
        simp [c4']
        omega
    · rw [Bool.not_eq_true', List.any_eq_false]
      intro x hx
      obtain ⟨j, hj, rfl⟩ := List.getElem_of_mem hx
      have hj' : j < i := by have := List.length_take (i := i) (l := fls b K P N); omega
      rw [List.getElem_take]
      have := (List.pairwise_iff_getElem.1 (fls_pair b K P N)) j i (by omega) hi hj'
      unfold sameF
      simp
      intro _
      omega
  have hare : impl_AreFaults.f (N : Int) 1 (fls b K P N) = some true := by
    unfold impl_AreFaults.f
    rw [hall]
    simp
    omega
  unfold impl_GatherBooks.f impl_checkFaults.f
  rw [hline, Option.bind_some, if_pos rfl, hare, Option.bind_some, if_pos rfl, Option.bind_some, if_pos rfl]
  unfold impl_gather.f
  rw [if_pos (by omega), Option.bind_some]
  congr 2
  show booksTo (fls b K P N) N 1 = [b]
  simp only [booksTo, List.nil_append]
  congr 1
  show blockTo (fls b K P N) ((0 : Nat) : Int) N = b
  rw [show ((0 : Nat) : Int) = 0 from rfl, blockTo_is hp hN hb' N (Nat.le_refl _), hp.atN, List.take_length]

-- the right block
def rbTo : Nat → List Int
  | 0 => []
  | s + 1 => rbTo s ++ [(s : Int) + 1]
theorem rbTo_len : ∀ s, (rbTo s).length = s
  | 0 => rfl
  | s + 1 => by simp [rbTo, rbTo_len s]
theorem rbTo_at : ∀ (s i : Nat), i < s → rd (rbTo s) i = (i : Int) + 1
  | 0, i, h => absurd h (by omega)
  | s + 1, i, h => by
    rw [rd_at _ i (by rw [rbTo_len]; exact h)]
    simp only [rbTo]
    by_cases c : i < s
    · rw [List.getElem_append_left (by rw [rbTo_len]; exact c), ← rd_at _ i (by rw [rbTo_len]; exact c)]
      exact rbTo_at s i c
    · obtain rfl : i = s := by omega
      rw [List.getElem_append_right (by rw [rbTo_len]; omega)]
      simp [rbTo_len]
theorem right_loop (N : Nat) (hN : N ≤ 100) (d : Nat) : ∀ (k s : Nat), s + d = N → d < k → impl_rightBlock.l0 k (rbTo s) (N : Int) (s : Int) = some (rbTo N) := by
  induction d with
  | zero =>
    intro k s h hk
    obtain ⟨k, rfl⟩ : ∃ m, k = m + 1 := ⟨k - 1, by omega⟩
    simp only [impl_rightBlock.l0]
    rw [if_neg (by omega), show s = N by omega]
  | succ d ih =>
    intro k s h hk
    obtain ⟨k, rfl⟩ : ∃ m, k = m + 1 := ⟨k - 1, by omega⟩
    simp only [impl_rightBlock.l0]
    rw [if_pos (by omega), if_pos (by rw [rbTo_len]; omega), sw (by omega) (by omega)]
    exact ih k (s + 1) (by omega) (by omega)
theorem sblock_loop (N : Nat) (hN : N ≤ 100) (d : Nat) : ∀ (k s : Nat), s + d = N → 2 * d + 2 < k → spec_l14Block.l0 k (N : Int) 0 [] (rbTo s) (s : Int) = some (rbTo N) := by
  induction d with
  | zero =>
    intro k s h hk
    obtain ⟨k, rfl⟩ : ∃ m, k = m + 1 := ⟨k - 1, by omega⟩
    simp only [spec_l14Block.l0]
    rw [if_neg (by omega), show s = N by omega]
  | succ d ih =>
    intro k s h hk
    obtain ⟨k, rfl⟩ : ∃ m, k = m + 2 := ⟨k - 2, by omega⟩
    simp only [spec_l14Block.l0]
    have hp : spec_l14Part.f (s : Int) 0 0 = some [(s : Int) + 1] := by
      unfold spec_l14Part.f
      rw [if_neg (by omega), if_neg (by omega), if_neg (by omega), if_neg (by omega), sw (by omega) (by omega)]
    rw [if_pos (by omega), hp, Option.bind_some]
    simp only [spec_l14Block.l1]
    rw [if_neg (by simp), if_pos (by rw [rbTo_len]; simp; omega), sw (by omega) (by omega)]
    exact ih k (s + 1) (by omega) (by omega)
theorem diff_loop (b r : List Int) (m : Nat) (hm : m ≤ 200) (hb : b.length ≤ m) (hr : r.length ≤ m) (d : Nat) (hmx : m = b.length ∨ m = r.length) : ∀ (k i : Nat), i + d = m → 2 * d + 2 < k → ∃ v : Int × Int, impl_FirstDifference.l0 k b r (m : Int) (i : Int) = some v ∧ spec_FirstDifference.l0 k b r (i : Int) = some v ∧ (v.2 = 0 ∨ v.2 = 4) ∧
    (v.2 = 4 ↔ ∀ j : Nat, i ≤ j → j < m → j < b.length ∧ j < r.length ∧ rd b j = rd r j) := by
  induction d with
  | zero =>
    intro k i h hk
    obtain ⟨k, rfl⟩ : ∃ q, k = q + 2 := ⟨k - 2, by omega⟩
    refine ⟨(0, 4), ?_, ?_, .inr rfl, by constructor; intro _ j h1 h2; omega; intro _; rfl⟩
    · simp only [impl_FirstDifference.l0]
      rw [if_neg (by omega)]
    · simp only [spec_FirstDifference.l0]
      rw [if_neg (by omega)]
      simp only [spec_FirstDifference.j1]
      rw [if_neg (by simp; omega)]
  | succ d ih =>
    intro k i h hk
    obtain ⟨k, rfl⟩ : ∃ q, k = q + 2 := ⟨k - 2, by omega⟩
    have hsp : spec_FirstDifference.l0 (k + 2) b r (i : Int) = spec_FirstDifference.j1 (k + 1) b r (i : Int) true := by
      simp only [spec_FirstDifference.l0]
      by_cases c : (i : Int) < (r.length : Int)
      · rw [if_pos c]
      · rw [if_neg c, decide_eq_true (show (i : Int) < (b.length : Int) by omega)]
    rw [hsp]
    by_cases hc : i < b.length ∧ i < r.length
    · have hI : impl_FirstDifference.l0 (k + 2) b r (m : Int) (i : Int) = if rd b i = rd r i then impl_FirstDifference.l0 (k + 1) b r (m : Int) (wrap64 ((i : Int) + 1)) else some ((i : Int), 0) := by
        simp only [impl_FirstDifference.l0]
        rw [if_pos (by omega), if_neg (by omega), if_neg (by omega), if_pos (by omega), if_pos (by omega), if_pos (by omega)]
      have hS : spec_FirstDifference.j1 (k + 1) b r (i : Int) true = if rd r i = rd b i then spec_FirstDifference.l0 k b r (wrap64 ((i : Int) + 1)) else some ((i : Int), 0) := by
        simp only [spec_FirstDifference.j1]
        rw [if_pos trivial, if_neg (by omega), if_neg (by omega), if_pos (by omega), if_pos (by omega), if_pos (by omega)]
      rw [hI, hS]
      by_cases ce : rd b i = rd r i
      · rw [if_pos ce, if_pos ce.symm, sw (by omega) (by omega)]
        obtain ⟨v, h1, h2, h3, h4⟩ := ih (k + 1) (i + 1) (by omega) (by omega)
        obtain ⟨v', h1', h2', h3', h4'⟩ := ih k (i + 1) (by omega) (by omega)
        have hvv : v = v' := by
          have := spec_FirstDifference.mono_l k
          have hmono : spec_FirstDifference.l0 (k + 1) b r ((i + 1 : Nat) : Int) = some v' := this.1 _ _ _ _ h2'
          rw [h2] at hmono
          exact Option.some.inj hmono
        refine ⟨v, h1, by rw [hvv]; exact h2', h3, h4.trans ⟨fun h j h5 h6 => ?_, fun h j h5 h6 => h j (by omega) h6⟩⟩
        by_cases hj : j = i
        · subst hj; exact ⟨by omega, by omega, ce⟩
        · exact h j (by omega) h6
      · rw [if_neg ce, if_neg (fun h => ce h.symm)]
        exact ⟨(i, 0), rfl, rfl, .inl rfl, by constructor; intro h; simp at h; intro h; exact absurd (h i (Nat.le_refl _) (by omega)).2.2 ce⟩
    simp only [impl_FirstDifference.l0, spec_FirstDifference.j1]
    rw [if_pos (by omega), if_pos trivial]
    by_cases cr : r.length ≤ i
    · refine ⟨(i, 0), ?_, by rw [if_pos (by omega)], .inl rfl, by constructor; intro h; simp at h; intro h; have := h i (Nat.le_refl _) (by omega); omega⟩
      by_cases cb : b.length ≤ i
      · rw [if_pos (by omega)]
      · rw [if_neg (by omega), if_pos (by omega)]
    · by_cases cb : b.length ≤ i
      · exact ⟨(i, 0), by rw [if_pos (by omega)], by rw [if_neg (by omega), if_pos (by omega)], .inl rfl, by constructor; intro h; simp at h; intro h; have := h i (Nat.le_refl _) (by omega); omega⟩
      · omega
theorem first_is (a0 : Int) (l1 : List Int) (hl : l1.length ≤ 2000000) (k : Nat) (hk : l1.length + 6000 < k) : ∃ v : Int × Int, impl_FirstDifference.f k a0 l1 = some v ∧ spec_FirstDifference.f k a0 l1 = some v ∧ (Gate a0 l1 → (v.2 = 4 ↔ l1 = rbTo a0.toNat)) := by
  obtain ⟨t1, e1, h1⟩ := fits_is a0 l1 hl k (by omega)
  obtain ⟨t2, e2, h2⟩ := isBlock_is a0 l1 k (by omega)
  obtain rfl : t1 = t2 := by rw [Bool.eq_iff_iff, h1, h2]
  unfold impl_FirstDifference.f spec_FirstDifference.f
  rw [e1, e2, Option.bind_some, Option.bind_some]
  by_cases ht : t1 = true
  · rw [if_pos ht, if_pos ht]
    obtain ⟨g1, g2, g3, g4⟩ := gate_facts (h1.1 ht)
    obtain ⟨N, hN⟩ : ∃ N, N = a0.toNat := ⟨_, rfl⟩
    rw [← hN] at g1 g2 ⊢
    subst g1
    have hr := right_loop N (by omega) N k 0 (by omega) (by omega)
    have hs := sblock_loop N (by omega) N k 0 (by omega) (by omega)
    unfold impl_rightBlock.f spec_l14Block.f
    rw [show ((0 : Nat) : Int) = 0 from rfl] at hr hs
    rw [show ([] : List Int) = rbTo 0 from rfl, hr, hs, Option.bind_some, Option.bind_some]
    have hrl := rbTo_len N
    obtain ⟨m, hm⟩ : ∃ m : Nat, m = max l1.length (rbTo N).length := ⟨_, rfl⟩
    have hmx : mx (l1.length : Int) ((rbTo N).length : Int) = (m : Int) := by unfold mx; split <;> omega
    rw [hmx]
    obtain ⟨v, h3, h4, h5, h6⟩ := diff_loop l1 (rbTo N) m (by omega) (by omega) (by omega) m (by omega) k 0 (by omega) (by omega)
    rw [show ((0 : Nat) : Int) = 0 from rfl] at h3 h4
    refine ⟨v, h3, h4, fun _ => h6.trans ⟨fun h => ?_, fun h => ?_⟩⟩
    · have hlen : l1.length = (rbTo N).length := by
        by_cases c : l1.length < (rbTo N).length
        · have := h l1.length (by omega) (by omega); omega
        · by_cases c2 : (rbTo N).length < l1.length
          · have := h (rbTo N).length (by omega) (by omega); omega
          · omega
      exact rd_ext' hlen (fun j hj => (h j (by omega) (by omega)).2.2)
    · intro j _ hj
      rw [← h] at hm ⊢
      exact ⟨by omega, by omega, rfl⟩
  · rw [if_neg ht, if_neg ht]
    exact ⟨(0, 2), rfl, rfl, fun h => absurd (h1.2 h) ht⟩
theorem few_right (N : Nat) (d : Nat) : ∀ s, s + d = N → few (rbTo N) d s s = 0 := by
  have hrl := rbTo_len N
  induction d with
  | zero => intro s h; simp only [few]; rw [if_pos (by omega)]
  | succ d ih =>
    intro s h
    have hn : nx (rbTo N) s s 0 = some (s + 1) := by
      unfold nx
      rw [if_neg (by omega)]
      unfold nxg
      have hp : pt s 0 (-1) = [(s : Int) + 1] := by unfold pt; simp
      rw [hp]
      have ht : ((rbTo N).drop s).take 1 = [(s : Int) + 1] := by
        rw [List.drop_eq_getElem_cons (by omega)]
        simp only [List.take_succ_cons, List.take_zero]
        rw [← rd_at _ s (by omega), rbTo_at N s (by omega)]
      rw [if_pos ⟨by simp; omega, by simp [ht]⟩]
      rfl
    have := upto_min (F := fun e => few (rbTo N) d (s + 1) e) (show 0 < 5 by omega) hn
    simp only [if_true] at this
    rw [ih (s + 1) (by omega)] at this
    show upto (rbTo N) (fun e => few (rbTo N) d (s + 1) e) s s 5 = 0
    omega
theorem cnt_append (a c : List Int) : cnt (a ++ c) = cnt a + cnt c := by
  induction a with
  | nil => simp [cnt]
  | cons x t ih => simp only [List.cons_append, cnt, ih]; omega
theorem right_when {b : List Int} {N : Nat} {K P : Nat → Nat} (hp : IsPath b N K P) (hN : N ≤ 12) (hb : ∀ x ∈ b, -12 ≤ x ∧ x ≤ 12) (h0 : ∀ i, i < N → K i = 0) : b = rbTo N := by
  have hf : ∀ s, s ≤ N → fls b K P s = [] := by
    intro s
    induction s with
    | zero => intro _; rfl
    | succ s ih => intro h; simp only [fls]; rw [ih (by omega), if_pos (h0 s (by omega))]; rfl
  have h1 := blockTo_is hp hN hb N (Nat.le_refl _)
  rw [hp.atN, List.take_length, hf N (Nat.le_refl _)] at h1
  rw [← h1]
  have : ∀ s, s ≤ N → blockTo [] 0 s = rbTo s := by
    intro s
    induction s with
    | zero => intro _; rfl
    | succ s ih =>
      intro h
      simp only [blockTo, rbTo]
      rw [ih (by omega)]
      congr 1
      unfold stat
      rw [if_pos (by simp [idxFrom]), sw (by omega) (by omega)]
  exact this N (Nat.le_refl _)
theorem cnt_zero {K : Nat → Nat} : ∀ {N : Nat}, cnt ((List.range N).map (fun i => (K i : Int))) = 0 → ∀ i, i < N → K i = 0
  | 0, _, i, hi => absurd hi (by omega)
  | N + 1, h, i, hi => by
    rw [List.range_succ, List.map_append, cnt_append] at h
    have h2 : cnt (List.map (fun i => (K i : Int)) [N]) = 0 := by omega
    simp only [List.map_cons, List.map_nil, cnt] at h2
    by_cases c : i = N
    · subst c
      by_cases c0 : (K i : Int) = 0
      · omega
      · rw [if_neg c0] at h2; omega
    · exact cnt_zero (N := N) (by omega) i (by omega)
end Go.Proofs.Ythfegojffgblmaa.Pure
