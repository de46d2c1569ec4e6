import Derived.Test.YtlicooehcladcaaDoorX4
import Derived.Test.YtlicooehcladcaaDoorX4
/- The draws: numbers that follow from a code: they never fail, and lie in their ranges. Plain laws of the printed functions. -/
namespace Go.Proofs.YtlicooehcladcaaDoor.Pure
open Go.RowKit Go.Proofs.YtlicooehcladcaaDoor.X Go.Proofs.YtlicooehcladcaaDoorW.PrintWords Go.Proofs.YtlicooehcladcaaDoorW.PrintLast

theorem w64 {n : Int} (h0 : -9223372036854775808 ≤ n) (h1 : n ≤ 9223372036854775807) : wrap64 n = n := by unfold wrap64; omega

/-- A source that draws go by: the code's bytes, the place, the seed. -/
structure St (c : List Int) (a s : Int) : Prop where
  byte : ∀ i, 0 ≤ rd c i ∧ rd c i ≤ 255
  len : (c.length : Int) ≤ 140737488351232
  at0 : 0 ≤ a
  at1 : a ≤ c.length
  s0 : 0 ≤ s
  s1 : s ≤ 2147483646

theorem tmod_lo {x n : Int} (h0 : 0 ≤ x) (hn : 0 < n) : 0 ≤ x.tmod n ∧ x.tmod n < n := by
  rw [Int.tmod_eq_emod_of_nonneg h0]
  exact ⟨Int.emod_nonneg _ (by omega), Int.emod_lt_of_pos _ hn⟩

theorem next_ok {c : List Int} {a s : Int} (h : St c a s) (n : Int) :
    ∃ r a' s', spec_l01Next.f c a s n = some (r, a', s') ∧ St c a' s' ∧ 0 ≤ r ∧ (1 < n → r < n) ∧ (n ≤ 1 → r = 0) := by
  have hb := h.byte
  have h1 := h.at0
  have h2 := h.at1
  have h3 := h.len
  have h4 := h.s0
  have h5 := h.s1
  unfold spec_l01Next.f
  by_cases hn : n ≤ 1
  · rw [if_pos hn]
    exact ⟨0, a, s, rfl, h, by omega, by omega, fun _ => rfl⟩
  · rw [if_neg hn]
    obtain ⟨t, ht⟩ : ∃ t, t = (wrap64 (wrap64 (s * 48271) + 61)).tmod 2147483647 := ⟨_, rfl⟩
    have e1 : wrap64 (wrap64 (s * 48271) + 61) = s * 48271 + 61 := by rw [w64 (n := s * 48271) (by omega) (by omega), w64 (by omega) (by omega)]
    have ht0 : 0 ≤ t ∧ t < 2147483647 := by rw [ht, e1]; exact tmod_lo (by omega) (by omega)
    have hd : 0 ≤ t.tdiv 31 ∧ t.tdiv 31 ≤ 2147483647 := by rw [Int.tdiv_eq_ediv_of_nonneg ht0.1]; omega
    simp only [← ht]
    have hs : ∀ a' : Int, 0 ≤ a' → a' ≤ c.length → St c a' t := fun a' x y => ⟨hb, h3, x, y, ht0.1, by omega⟩
    by_cases ha : a < (c.length : Int)
    · rw [if_pos ha, if_pos h1]
      have ea : wrap64 (a + 1) = a + 1 := w64 (by omega) (by omega)
      have ea' : wrap64 (a + 1 - 1) = a := by rw [show a + 1 - 1 = a from by omega]; exact w64 (by omega) (by omega)
      have hx := hb a
      have e2 : wrap64 (rd c a) = rd c a := w64 (by omega) (by omega)
      have e3 : wrap64 (wrap64 (t.tdiv 31) + wrap64 (rd c a)) = t.tdiv 31 + rd c a := by rw [e2, w64 (n := t.tdiv 31) (by omega) (by omega), w64 (by omega) (by omega)]
      have m1 := tmod_lo (x := t.tdiv 31 + rd c a) (n := n) (by omega) (by omega)
      have m2 := tmod_lo (x := rd c a) (n := n) (by omega) (by omega)
      rw [ea, ea', e3, e2]
      by_cases hc : n ≤ 256
      · rw [if_pos hc]
        by_cases he : (a + 1).tmod 2 = 0
        · rw [if_pos he, if_pos h1, if_pos ha, if_neg (by omega)]
          exact ⟨_, _, _, rfl, hs _ (by omega) (by omega), m2.1, fun _ => m2.2, fun h => absurd h hn⟩
        · rw [if_neg he, if_neg (by omega)]
          exact ⟨_, _, _, rfl, hs _ (by omega) (by omega), m1.1, fun _ => m1.2, fun h => absurd h hn⟩
      · rw [if_neg hc, if_neg (by omega)]
        exact ⟨_, _, _, rfl, hs _ (by omega) (by omega), m1.1, fun _ => m1.2, fun h => absurd h hn⟩
    · rw [if_neg ha, if_neg (by omega)]
      have e3 : wrap64 (t.tdiv 31) = t.tdiv 31 := w64 (by omega) (by omega)
      have m1 := tmod_lo (x := t.tdiv 31) (n := n) (by omega) (by omega)
      rw [e3]
      exact ⟨_, _, _, rfl, hs _ (by omega) (by omega), m1.1, fun _ => m1.2, fun h => absurd h hn⟩

theorem pick_ok {c : List Int} {a s : Int} (h : St c a s) (l : List Int) (hl : 0 < l.length) (hm : l.length ≤ 140737488351232) :
    ∃ r a' s', spec_l01Pick.f c a s l = some (r, a', s') ∧ St c a' s' ∧ r ∈ l := by
  obtain ⟨r, a', s', e, hs, r0, r1, r2⟩ := next_ok h (l.length : Int)
  unfold spec_l01Pick.f
  rw [e]
  simp only [Option.bind_some]
  have hr : r < (l.length : Int) := by
    by_cases h1 : (1 : Int) < l.length
    · exact r1 h1
    · have := r2 (by omega); omega
  rw [if_pos r0, if_pos hr]
  refine ⟨_, _, _, rfl, hs, ?_⟩
  unfold rd
  rw [List.getD_eq_getElem?_getD, List.getElem?_eq_getElem (by omega)]
  exact List.getElem_mem _

theorem from_loop (c : List Int) (hb : ∀ i, 0 ≤ rd c i ∧ rd c i ≤ 255) (_hl : (c.length : Int) ≤ 140737488351232) (d : Nat) : ∀ (k : Nat) (i s : Int), 0 ≤ i → i ≤ 64 → 64 - i = d → 0 ≤ s → s ≤ 2147483646 → d < k →
    ∃ s', spec_l01From.l0 k c i c 0 s = some (c, 0, s') ∧ 0 ≤ s' ∧ s' ≤ 2147483646 := by
  induction d with
  | zero =>
    intro k i s h0 h1 hd s0 s1 hk
    obtain ⟨k, rfl⟩ : ∃ m, k = m + 1 := ⟨k - 1, by omega⟩
    simp only [spec_l01From.l0]
    by_cases hi : i < (c.length : Int)
    · rw [if_pos hi, if_neg (by omega)]; exact ⟨s, rfl, s0, s1⟩
    · rw [if_neg hi]; exact ⟨s, rfl, s0, s1⟩
  | succ d ih =>
    intro k i s h0 h1 hd s0 s1 hk
    obtain ⟨k, rfl⟩ : ∃ m, k = m + 1 := ⟨k - 1, by omega⟩
    simp only [spec_l01From.l0]
    by_cases hi : i < (c.length : Int)
    · rw [if_pos hi, if_pos (by omega), if_pos h0]
      have hx := hb i
      have e : wrap64 (wrap64 (s * 71) + wrap64 (rd c i)) = s * 71 + rd c i := by
        rw [w64 (n := s * 71) (by omega) (by omega), w64 (n := rd c i) (by omega) (by omega), w64 (by omega) (by omega)]
      have m := tmod_lo (x := s * 71 + rd c i) (n := 2147483647) (by omega) (by omega)
      rw [e, w64 (n := i + 1) (by omega) (by omega)]
      exact ih k (i + 1) _ (by omega) (by omega) (by omega) m.1 (by omega) (by omega)
    · rw [if_neg hi]; exact ⟨s, rfl, s0, s1⟩

theorem from_ok (c : List Int) (hb : ∀ i, 0 ≤ rd c i ∧ rd c i ≤ 255) (hl : (c.length : Int) ≤ 140737488351232) : ∃ s, (∀ k, 64 < k → spec_l01From.f k c = some (c, 0, s)) ∧ St c 0 s := by
  obtain ⟨s, e, s0, s1⟩ := from_loop c hb hl 64 65 0 88007 (by omega) (by omega) (by omega) (by omega) (by omega) (by omega)
  refine ⟨s, fun k hk => ?_, ⟨hb, hl, by omega, by omega, s0, s1⟩⟩
  exact at_rounds (fun k => spec_l01From.mono c k) (show 65 ≤ k by omega) (by unfold spec_l01From.f; exact e)

theorem bytes_of {c : List Int} (h : ∀ x ∈ c, (Lit.int .u8 x).wf = true) : ∀ i, 0 ≤ rd c i ∧ rd c i ≤ 255 := by
  intro i
  unfold rd
  rw [List.getD_eq_getElem?_getD]
  by_cases hi : i.toNat < c.length
  · rw [List.getElem?_eq_getElem hi]
    have := h _ (List.getElem_mem hi)
    simp only [Option.getD_some]
    simp [Lit.wf, IntKind.min, IntKind.max, IntKind.signed, IntKind.bits] at this
    omega
  · rw [List.getElem?_eq_none (by omega)]
    simp
end Go.Proofs.YtlicooehcladcaaDoor.Pure
