/- A code read: seven digits that are a code; on both sides. -/
import Derived.Test.YtlicooehcladcaaDoorX3
import Derived.Test.YtlicooehcladcaaDoorEReadCode
import Derived.Test.YtlicooehcladcaaDoorPureSeven
import Derived.Lib.ParseIntBCases
namespace Go.Proofs.YtlicooehcladcaaDoor.Pure
open Go.RowKit Go.Proofs.YtlicooehcladcaaDoor.X Go.Proofs.YtlicooehcladcaaDoorW.PrintWords Go.Proofs.YtlicooehcladcaaDoorW.PrintLast
set_option linter.unusedVariables false
set_option linter.unusedSimpArgs false
def isDig (c : UInt8) : Bool := decide (48 ≤ c.toNat ∧ c.toNat ≤ 57)
def dv (c : UInt8) : Int := (c.toNat : Int) - 48
/-- The number that the digits tell. -/
def valI (l : List UInt8) : Int := l.foldl (fun a c => 10 * a + dv c) 0
def readR (s : ByteArray) : Int × Bool := if s.data.toList.length = 7 ∧ s.data.toList.all isDig = true ∧ codeB (valI s.data.toList) = true then (valI s.data.toList, true) else (0, false)
theorem dv_dig (c : UInt8) (h : isDig c = true) : 0 ≤ dv c ∧ dv c ≤ 9 := by
  have := of_decide_eq_true h
  unfold dv
  omega
theorem dv_ch (c : UInt8) (h : isDig c = true) : UInt8.ofNat (48 + (dv c).toNat) = c := by
  have := of_decide_eq_true h
  unfold dv
  rw [show 48 + ((c.toNat : Int) - 48).toNat = c.toNat by omega]
  exact UInt8.ofNat_toNat
theorem dig_ch (y : Int) (h0 : 0 ≤ y) (h1 : y ≤ 9) : isDig (UInt8.ofNat (48 + y.toNat)) = true := by
  unfold isDig
  have : (UInt8.ofNat (48 + y.toNat)).toNat = 48 + y.toNat := by rw [UInt8.toNat_ofNat']; omega
  exact decide_eq_true (by omega)
theorem seven_cases {l : List UInt8} (h : l.length = 7) : ∃ a b c d e f g, l = [a, b, c, d, e, f, g] := by
  match l, h with
  | [a, b, c, d, e, f, g], _ => exact ⟨a, b, c, d, e, f, g, rfl⟩
theorem txt_val {l : List UInt8} (h : l.length = 7) (hd : l.all isDig = true) : 0 ≤ valI l ∧ valI l ≤ 9999999 ∧ txt (valI l) = l := by
  obtain ⟨a, b, c, d, e, f, g, rfl⟩ := seven_cases h
  simp only [List.all_cons, List.all_nil, Bool.and_true, Bool.and_eq_true] at hd
  obtain ⟨ha, hb, hc, hd, he, hf, hg⟩ := hd
  have va := dv_dig a ha; have vb := dv_dig b hb; have vc := dv_dig c hc; have vd := dv_dig d hd; have ve := dv_dig e he; have vf := dv_dig f hf; have vg := dv_dig g hg
  have hv : valI [a, b, c, d, e, f, g] = 10 * (10 * (10 * (10 * (10 * (10 * (10 * 0 + dv a) + dv b) + dv c) + dv d) + dv e) + dv f) + dv g := rfl
  rw [hv]
  refine ⟨by omega, by omega, ?_⟩
  unfold txt digs
  simp only [List.map_cons, List.map_nil]
  have ee : ∀ A B C D E F G : Int, 0 ≤ A ∧ A ≤ 9 → 0 ≤ B ∧ B ≤ 9 → 0 ≤ C ∧ C ≤ 9 → 0 ≤ D ∧ D ≤ 9 → 0 ≤ E ∧ E ≤ 9 → 0 ≤ F ∧ F ≤ 9 → 0 ≤ G ∧ G ≤ 9 → ∀ V, V = 10 * (10 * (10 * (10 * (10 * (10 * (10 * 0 + A) + B) + C) + D) + E) + F) + G →
      V / 1000000 % 10 = A ∧ V / 100000 % 10 = B ∧ V / 10000 % 10 = C ∧ V / 1000 % 10 = D ∧ V / 100 % 10 = E ∧ V / 10 % 10 = F ∧ V % 10 = G := fun A B C D E F G hA hB hC hD hE hF hG V hV => by
    refine ⟨?_, ?_, ?_, ?_, ?_, ?_, ?_⟩ <;> omega
  obtain ⟨e1, e2, e3, e4, e5, e6, e7⟩ := ee _ _ _ _ _ _ _ va vb vc vd ve vf vg _ rfl
  rw [e1, e2, e3, e4, e5, e6, e7, dv_ch a ha, dv_ch b hb, dv_ch c hc, dv_ch d hd, dv_ch e he, dv_ch f hf, dv_ch g hg]
theorem dv_of (y : Int) (h0 : 0 ≤ y) (h1 : y ≤ 9) : dv (UInt8.ofNat (48 + y.toNat)) = y := by
  unfold dv
  have : (UInt8.ofNat (48 + y.toNat)).toNat = 48 + y.toNat := by rw [UInt8.toNat_ofNat']; omega
  rw [this]
  omega
theorem txt_dig (n : Int) (h0 : 0 ≤ n) (h1 : n ≤ 9999999) : (txt n).length = 7 ∧ (txt n).all isDig = true ∧ valI (txt n) = n := by
  refine ⟨rfl, ?_, ?_⟩
  · unfold txt digs
    simp only [List.map_cons, List.map_nil, List.all_cons, List.all_nil, Bool.and_true, Bool.and_eq_true]
    refine ⟨?_, ?_, ?_, ?_, ?_, ?_, ?_⟩ <;> exact dig_ch _ (by omega) (by omega)
  · show 10 * (10 * (10 * (10 * (10 * (10 * (10 * 0 + dv _) + dv _) + dv _) + dv _) + dv _) + dv _) + dv _ = n
    rw [dv_of _ (by omega) (by omega), dv_of _ (by omega) (by omega), dv_of _ (by omega) (by omega), dv_of _ (by omega) (by omega), dv_of _ (by omega) (by omega), dv_of _ (by omega) (by omega), dv_of _ (by omega) (by omega)]
    omega
theorem parse_step (M acc : Nat) (c : UInt8) (r : List UInt8) (hM : 18446744073709551615 ≤ M) (hc : isDig c = true) (ha : acc ≤ 999999) : Lib.parseUintM M acc (c :: r) = Lib.parseUintM M (acc * 10 + (c.toNat - 48)) r := by
  have := of_decide_eq_true hc
  rw [Lib.parseUintM, if_pos this, if_neg (by omega), if_neg (by omega)]
theorem parse_is {l : List UInt8} (h : l.length = 7) (hd : l.all isDig = true) : Lib.parseIntB 64 l = .ok (valI l) := by
  obtain ⟨a, b, c, d, e, f, g, rfl⟩ := seven_cases h
  simp only [List.all_cons, List.all_nil, Bool.and_true, Bool.and_eq_true] at hd
  obtain ⟨ha, hb, hc, hd, he, hf, hg⟩ := hd
  have va := of_decide_eq_true ha; have vb := of_decide_eq_true hb; have vc := of_decide_eq_true hc; have vd := of_decide_eq_true hd; have ve := of_decide_eq_true he; have vf := of_decide_eq_true hf; have vg := of_decide_eq_true hg
  rw [Lib.parseIntB_plain 64 a _ (by omega) (by omega)]
  have hu : Lib.parseUintB 64 [a, b, c, d, e, f, g] = .ok (((((((0 * 10 + (a.toNat - 48)) * 10 + (b.toNat - 48)) * 10 + (c.toNat - 48)) * 10 + (d.toNat - 48)) * 10 + (e.toNat - 48)) * 10 + (f.toNat - 48)) * 10 + (g.toNat - 48)) := by
    unfold Lib.parseUintB
    rw [if_neg (by simp)]
    rw [parse_step _ _ a _ (by decide) ha (by omega), parse_step _ _ b _ (by decide) hb (by omega), parse_step _ _ c _ (by decide) hc (by omega), parse_step _ _ d _ (by decide) hd (by omega), parse_step _ _ e _ (by decide) he (by omega), parse_step _ _ f _ (by decide) hf (by omega), parse_step _ _ g _ (by decide) hg (by omega)]
    rfl
  rw [hu]
  have hv : valI [a, b, c, d, e, f, g] = 10 * (10 * (10 * (10 * (10 * (10 * (10 * 0 + dv a) + dv b) + dv c) + dv d) + dv e) + dv f) + dv g := rfl
  rw [hv]
  unfold dv Lib.signlessC
  simp only []
  rw [if_neg (by simp; omega)]
  congr 1
  omega
theorem mk_list (l : List UInt8) : (⟨l.toArray⟩ : ByteArray).toList = l := by rw [Lib.toList_data]
theorem read_impl (s : ByteArray) (hs : s.size ≤ 281474976710656) : impl_ReadCode.f s = some (readR s) := by
  unfold impl_ReadCode.f readR
  rw [if_pos hs, Lib.toList_data]
  by_cases h : s.data.toList.length = 7 ∧ s.data.toList.all isDig = true
  · rw [parse_is h.1 h.2]
    obtain ⟨h0, h1, ht⟩ := txt_val h.1 h.2
    simp only [okOf]
    rw [code_text_impl]
    simp only [Option.bind_some]
    unfold codeTxt
    by_cases c : codeB (valI s.data.toList) = true
    · rw [if_pos c, mk_list, ht, if_pos rfl, if_pos ⟨h.1, h.2, c⟩]
    · rw [if_neg c, show (⟨#[]⟩ : ByteArray) = ⟨([] : List UInt8).toArray⟩ from rfl, mk_list, if_neg (fun q => by rw [← q] at h; cases h.1), if_neg (fun q => c q.2.2)]
  · rw [if_neg (fun q => h ⟨q.1, q.2.1⟩)]
    cases hp : Lib.parseIntB 64 s.data.toList with
    | ok v =>
      simp only [okOf]
      rw [code_text_impl]
      simp only [Option.bind_some]
      unfold codeTxt
      by_cases c : codeB v = true
      · have hh := of_decide_eq_true c
        obtain ⟨t1, t2, _⟩ := txt_dig v hh.1 hh.2.1
        rw [if_pos c, mk_list, if_neg (fun q => h (by rw [← q]; exact ⟨t1, t2⟩))]
      · rw [if_neg c, show (⟨#[]⟩ : ByteArray) = ⟨([] : List UInt8).toArray⟩ from rfl, mk_list, if_neg (fun q => by rw [← q] at hp; cases hp)]
    | _ => rfl
theorem bt_is {s : ByteArray} {pre suf : List UInt8} {c : UInt8} (h : s.data.toList = pre ++ c :: suf) : bt s (pre.length : Int) = (c.toNat : Int) := by
  have h1 : s.data.toList[pre.length]? = some c := by rw [h]; simp
  have hl : pre.length < s.size := by
    have : s.data.toList.length = s.size := rfl
    rw [← this, h]
    simp
  unfold bt
  rw [dif_pos (by omega)]
  congr 2
  have h2 : s.data[pre.length]? = some c := by rw [← Array.getElem?_toList]; exact h1
  have h3 : s.data[pre.length]'hl = c := by rw [Array.getElem?_eq_getElem hl] at h2; exact Option.some.inj h2
  exact h3
theorem number_is (k : Nat) {l : List UInt8} (h : l.length = 7) (hd : l.all isDig = true) : spec_l15Number.f (k + 9) (l.map dv) = some (valI l) := by
  obtain ⟨a, b, c, d, e, f, g, rfl⟩ := seven_cases h
  simp only [List.all_cons, List.all_nil, Bool.and_true, Bool.and_eq_true] at hd
  obtain ⟨ha, hb, hc, hd, he, hf, hg⟩ := hd
  have va := dv_dig a ha; have vb := dv_dig b hb; have vc := dv_dig c hc; have vd := dv_dig d hd; have ve := dv_dig e he; have vf := dv_dig f hf; have vg := dv_dig g hg
  have s : ∀ (k : Nat) (l : List Int) (i : Nat) (x y : Int), l.length = 7 → i < 7 → rd l (i : Int) = y → 0 ≤ x → x ≤ 999999 → 0 ≤ y ∧ y ≤ 9 → spec_l15Number.l0 (k + 1) l x (i : Int) = spec_l15Number.l0 k l (10 * x + y) ((i + 1 : Nat) : Int) := fun k l i x y hl hi hr h0 h1 hy => by
    simp only [spec_l15Number.l0]
    rw [if_pos (by omega), if_pos (by omega), hr]
    congr 1
    · unfold wrap64; omega
    · unfold wrap64; omega
  unfold spec_l15Number.f
  simp only [List.map_cons, List.map_nil]
  rw [show (0 : Int) = ((0 : Nat) : Int) from rfl]
  rw [s (k + 8) _ 0 _ (dv a) rfl (by omega) rfl (by omega) (by omega) va, s (k + 7) _ 1 _ (dv b) rfl (by omega) rfl (by omega) (by omega) vb, s (k + 6) _ 2 _ (dv c) rfl (by omega) rfl (by omega) (by omega) vc, s (k + 5) _ 3 _ (dv d) rfl (by omega) rfl (by omega) (by omega) vd, s (k + 4) _ 4 _ (dv e) rfl (by omega) rfl (by omega) (by omega) ve, s (k + 3) _ 5 _ (dv f) rfl (by omega) rfl (by omega) (by omega) vf, s (k + 2) _ 6 _ (dv g) rfl (by omega) rfl (by omega) (by omega) vg]
  simp only [spec_l15Number.l0]
  rw [if_neg (by simp)]
  rfl
theorem read_loop (s : ByteArray) : ∀ (suf pre : List UInt8) (k : Nat), s.data.toList = pre ++ suf → s.size = 7 → pre.all isDig = true → spec_ReadCode.l0 (k + suf.length + 10) s (pre.map dv) (pre.length : Int) = some (if suf.all isDig = true then (if codeB (valI s.data.toList) = true then (valI s.data.toList, true) else (0, false)) else (0, false))
  | [], pre, k, h, h7, hp => by
    have hl : pre.length = 7 := by
      have : s.data.toList.length = s.size := rfl
      rw [h, List.append_nil] at this
      omega
    rw [List.append_nil] at h
    rw [List.length_nil, Nat.add_zero, spec_ReadCode.l0, if_neg (by omega), number_is k hl hp, ← h]
    simp only [Option.bind_some, code_spec, List.all_nil, if_true]
    split <;> rfl
  | c :: suf, pre, k, h, h7, hp => by
    have hl : pre.length + (suf.length + 1) = 7 := by
      have : s.data.toList.length = s.size := rfl
      rw [h, List.length_append, List.length_cons] at this
      omega
    rw [List.length_cons, show k + (suf.length + 1) + 10 = (k + suf.length + 10) + 1 by omega, spec_ReadCode.l0, if_pos (by omega), if_pos (by omega), bt_is h]
    by_cases hc : isDig c = true
    · have hcv := of_decide_eq_true hc
      rw [if_neg (by omega), if_neg (by omega), if_pos (by simp; omega), show (((c.toNat : Int) - 48) % 256) = dv c by unfold dv; omega, show wrap64 ((pre.length : Int) + 1) = ((pre ++ [c]).length : Int) by simp; unfold wrap64; omega]
      have := read_loop s suf (pre ++ [c]) k (by rw [h]; simp) h7 (by simp [hp, hc])
      rw [List.map_append, List.map_cons, List.map_nil] at this
      rw [this, List.all_cons, hc, Bool.true_and]
    · rw [List.all_cons, Bool.eq_false_iff.mpr hc, Bool.false_and]
      have hcv : ¬ (48 ≤ c.toNat ∧ c.toNat ≤ 57) := fun q => hc (decide_eq_true q)
      by_cases h1 : (c.toNat : Int) < 48
      · rw [if_pos h1]; rfl
      · rw [if_neg h1, if_pos (by omega)]; rfl
theorem read_spec (k : Nat) (s : ByteArray) : spec_ReadCode.f (k + 20) s = some (readR s) := by
  unfold spec_ReadCode.f readR
  have hl : s.data.toList.length = s.size := rfl
  by_cases h : s.size = 7
  · rw [if_pos (by omega)]
    have := read_loop s s.data.toList [] (k + 3) rfl h rfl
    rw [show k + 3 + s.data.toList.length + 10 = k + 20 by omega] at this
    rw [show spec_ReadCode.l0 (k + 20) s [] 0 = _ from this]
    by_cases hd : s.data.toList.all isDig = true
    · by_cases hc : codeB (valI s.data.toList) = true
      · rw [if_pos hd, if_pos hc, if_pos ⟨by omega, hd, hc⟩]
      · rw [if_pos hd, if_neg hc, if_neg (fun q => hc q.2.2)]
    · rw [if_neg hd, if_neg (fun q => hd q.2.1)]
  · rw [if_neg (by omega), if_neg (fun q => h (by omega))]
end Go.Proofs.YtlicooehcladcaaDoor.Pure
