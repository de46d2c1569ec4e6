/- impl.BestCode walked: the reads are counted in a map, the map is ranged over in whatever order. No conditions. -/
import Derived.Test.YtlicooehcladcaaX12
import Derived.Test.YtlicooehcladcaaX2
import Derived.Maps.OwnOps
import Derived.Maps.RangeWalk
import Derived.Maps.Views
namespace Go.Proofs.Ytlicooehcladcaa.X
open Go.RowKit Go.Maps Go.Proofs.YtlicooehcladcaaW.PrintWords Go.Proofs.YtlicooehcladcaaW.PrintLast Go.Proofs.YtlicooehcladcaaW.PrintMore
set_option linter.unusedVariables false
set_option linter.unusedSimpArgs false

def codeB (m : Int) : Bool := (impl_IsCode.f m).getD false
theorem codeB_eq (m : Int) : impl_IsCode.f m = some (codeB m) := by
  have : ∃ r, impl_IsCode.f m = some r := by
    unfold impl_IsCode.f impl_inRange.f
    repeat' (first | split | (simp only [Option.bind_some]; done) | (exact ⟨_, rfl⟩) | simp only [Option.bind_some])
  obtain ⟨r, hr⟩ := this
  unfold codeB
  rw [hr]
  rfl
def many (l : List Int) (x : Int) : Int := (l.count x : Int)
/-- The best code of those gone through so far, by the counts in the whole list. -/
def bestStep (l : List Int) (s : Int × Int) (x : Int) : Int × Int := if codeB x = true ∧ (many l x > s.2 ∨ many l x = s.2 ∧ x < s.1) then (x, many l x) else s
def bestF (l : List Int) : Int × Int := l.foldl (bestStep l) (0, 0)
def impl_BestCode.f (l0 : List Int) : Option (Int × Int × Int) := (impl_areReads.f l0).bind fun t => if t = true then (if (bestF l0).2 = 0 then some (0, 0, 4) else some ((bestF l0).1, (bestF l0).2, 0)) else some (0, 0, 2)

/-- What (b, m) says of the codes that S holds. -/
def Best (l : List Int) (S : Int → Prop) (b m : Int) : Prop := (∀ x, codeB x = true → x ∈ l → S x → many l x < m ∨ many l x = m ∧ b ≤ x) ∧ ((m = 0 ∧ b = 0) ∨ (codeB b = true ∧ b ∈ l ∧ m = many l b))
theorem many_pos {l : List Int} {x : Int} (h : x ∈ l) : 1 ≤ many l x := by
  have := List.count_pos_iff.2 h
  unfold many
  omega
theorem Best.none (l : List Int) (S : Int → Prop) (h : ∀ x, codeB x = true → x ∈ l → ¬ S x) : Best l S 0 0 := ⟨fun x h1 h2 h3 => absurd h3 (h x h1 h2), .inl ⟨rfl, rfl⟩⟩
theorem Best.take {l : List Int} {S S' : Int → Prop} {b m x : Int} (h : Best l S b m) (hx : codeB x = true) (hl : x ∈ l) (hb : many l x > m ∨ many l x = m ∧ x < b) (hS : ∀ y, S' y → S y ∨ y = x) : Best l S' x (many l x) := by
  refine ⟨fun y h1 h2 h3 => ?_, .inr ⟨hx, hl, rfl⟩⟩
  rcases hS y h3 with h4 | rfl
  · rcases h.1 y h1 h2 h4 with h5 | h5 <;> rcases hb with h6 | h6
    · exact .inl (by omega)
    · exact .inl (by omega)
    · exact .inl (by omega)
    · exact .inr ⟨by omega, by omega⟩
  · exact .inr ⟨rfl, Int.le_refl _⟩
theorem Best.skip {l : List Int} {S S' : Int → Prop} {b m x : Int} (h : Best l S b m) (hb : codeB x = true → ¬ (many l x > m ∨ many l x = m ∧ x < b)) (hS : ∀ y, S' y → S y ∨ y = x) : Best l S' b m := by
  refine ⟨fun y h1 h2 h3 => ?_, h.2⟩
  rcases hS y h3 with h4 | rfl
  · exact h.1 y h1 h2 h4
  · have := hb h1
    rcases Int.lt_trichotomy (many l y) m with h5 | h5 | h5
    · exact .inl h5
    · exact .inr ⟨h5, by have : ¬ y < b := fun h6 => this (.inr ⟨h5, h6⟩); omega⟩
    · exact absurd (.inl h5) this
theorem Best.unique {l : List Int} {b m b' m' : Int} (h : Best l (fun _ => True) b m) (h' : Best l (fun _ => True) b' m') : b = b' ∧ m = m' := by
  obtain ⟨h1, h2⟩ := h
  obtain ⟨h3, h4⟩ := h'
  rcases h2 with ⟨rfl, rfl⟩ | ⟨c1, c2, rfl⟩ <;> rcases h4 with ⟨rfl, rfl⟩ | ⟨c3, c4, rfl⟩
  · exact ⟨rfl, rfl⟩
  · have := many_pos c4
    rcases h1 b' c3 c4 trivial with h | h <;> omega
  · have := many_pos c2
    rcases h3 b c1 c2 trivial with h | h <;> omega
  · have e1 := h1 b' c3 c4 trivial
    have e2 := h3 b c1 c2 trivial
    omega
theorem foldl_best (l : List Int) : ∀ (xs : List Int) (S : Int → Prop) (s : Int × Int), (∀ x ∈ xs, x ∈ l) → Best l S s.1 s.2 → Best l (fun x => S x ∨ x ∈ xs) (xs.foldl (bestStep l) s).1 (xs.foldl (bestStep l) s).2
  | [], S, s, _, h => by simpa using h
  | x :: xs, S, s, hx, h => by
    rw [List.foldl_cons]
    have h1 : Best l (fun y => S y ∨ y = x) (bestStep l s x).1 (bestStep l s x).2 := by
      unfold bestStep
      by_cases c : codeB x = true ∧ (many l x > s.2 ∨ many l x = s.2 ∧ x < s.1)
      · rw [if_pos c]
        exact h.take c.1 (hx x (by simp)) c.2 (fun y hy => hy)
      · rw [if_neg c]
        exact h.skip (fun hc hb => c ⟨hc, hb⟩) (fun y hy => hy)
    have h2 := foldl_best l xs _ _ (fun y hy => hx y (by simp [hy])) h1
    refine ⟨fun y a1 a2 a3 => h2.1 y a1 a2 ?_, h2.2⟩
    rcases a3 with a3 | a3
    · exact .inl (.inl a3)
    · rcases List.mem_cons.1 a3 with a3 | a3
      · exact .inl (.inr a3)
      · exact .inr a3
theorem bestF_best (l : List Int) : Best l (fun _ => True) (bestF l).1 (bestF l).2 := by
  have h := foldl_best l l (fun _ => False) (0, 0) (fun _ h => h) (Best.none l _ (fun _ _ _ h => h))
  exact ⟨fun x h1 h2 _ => h.1 x h1 h2 (.inr h2), h.2⟩

/-- The map behind the first i reads. -/
def tally (l : List Int) : Nat → DataW Unit
  | 0 => .map []
  | i + 1 => if codeB (l.getD i 0) = true then (tally l i).put (.int .i64 (l.getD i 0)) (.lit (.int .i64 (many (l.take (i + 1)) (l.getD i 0)))) else tally l i
theorem tally_map (l : List Int) : ∀ i, IsMap (tally l i)
  | 0 => isMap_empty
  | i + 1 => by
    simp only [tally]
    split
    · exact (tally_map l i).put _ _
    · exact tally_map l i
theorem take_next (l : List Int) (i : Nat) (h : i < l.length) : l.take (i + 1) = l.take i ++ [l.getD i 0] := by
  rw [List.take_add_one, List.getElem?_eq_getElem h, List.getD_eq_getElem?_getD, List.getElem?_eq_getElem h]
  rfl
theorem lit_ne {x y : Int} (h : x ≠ y) : (Lit.int .i64 x) ≠ Lit.int .i64 y := fun e => h (by injection e)
theorem tally_at (l : List Int) (x : Int) (hx : codeB x = true) : ∀ i, i ≤ l.length → (tally l i).atKey (.int .i64 x) (.lit (.int .i64 0)) = .lit (.int .i64 (many (l.take i) x))
  | 0, _ => rfl
  | i + 1, h => by
    have ih := tally_at l x hx i (by omega)
    simp only [tally]
    by_cases c : codeB (l.getD i 0) = true
    · rw [if_pos c]
      by_cases e : l.getD i 0 = x
      · rw [e, atKey_put_same (k := .int .i64 x) (tally_map l i) trivial]
      · rw [atKey_put_other (lit_ne (fun h => e h.symm)), ih, take_next l i (by omega)]
        unfold many
        rw [List.count_append, List.count_singleton, show (l.getD i 0 == x) = false from beq_eq_false_iff_ne.mpr e]
        simp
    · rw [if_neg c, ih, take_next l i (by omega)]
      have e : l.getD i 0 ≠ x := fun h => c (by rw [h]; exact hx)
      unfold many
      rw [List.count_append, List.count_singleton, show (l.getD i 0 == x) = false from beq_eq_false_iff_ne.mpr e]
      simp
theorem tally_has (l : List Int) (x : Int) : ∀ i, i ≤ l.length → (Maps.has (tally l i) (.int .i64 x) = true ↔ codeB x = true ∧ x ∈ l.take i)
  | 0, _ => by simp [tally, Maps.has]
  | i + 1, h => by
    have ih := tally_has l x i (by omega)
    rw [take_next l i (by omega)]
    have hm := tally_map l i
    simp only [tally, List.mem_append, List.mem_singleton]
    generalize l.getD i 0 = y
    by_cases c : codeB y = true
    · rw [if_pos c]
      by_cases e : x = y
      · subst e
        rw [has_put_same (k := .int .i64 x) hm trivial]
        exact ⟨fun _ => ⟨c, .inr rfl⟩, fun _ => rfl⟩
      · rw [has_put_other (lit_ne e), ih]
        exact ⟨fun ⟨h1, h2⟩ => ⟨h1, .inl h2⟩, fun ⟨h1, h2⟩ => ⟨h1, h2.resolve_right e⟩⟩
    · rw [if_neg c, ih]
      exact ⟨fun ⟨h1, h2⟩ => ⟨h1, .inl h2⟩, fun ⟨h1, h2⟩ => ⟨h1, h2.resolve_right (fun e => c (by rw [← e]; exact h1))⟩⟩
theorem law2 : Keyed Try.prog 2 := int_keyed Try.underlying2
theorem zero2 (w : World) : (zeroValue 2).run Try.prog w = .ok (.int .i64 0) w := by kernel_rfl
/-- Those that have been gone through: they are in the map and no longer to come. -/
def Gone (l : List Int) (left : Lit → Bool) (x : Int) : Prop := left (.int .i64 x) = false

set_option maxHeartbeats 8000000 in
set_option maxRecDepth 100000 in
theorem impl_BestCode.calls (A0 : Option Addr) (c0 : Nat) (l0 : List Int) (r1 : Int) (r2 : Int) (r3 : Int) (w : World) (hr0 : Kd.C (Kd.int .i64) w A0 l0.length l0) (hc0 : l0.length ≤ c0) (h : impl_BestCode.f l0 = some (r1, r2, r3)) :
    Calls Try.prog 15 #[.slice A0 l0.length c0] w fun e w' => e = .returned (.tuple #[.int .i64 r1, .int .i64 r2, .int .i64 r3]) ∧ Below w.heap.size w w' := by
  unfold impl_BestCode.f at h
  obtain ⟨t, ht, h⟩ := Option.bind_eq_some_iff.1 h
  have HT := Aside0.mk ht
  have HC := Aside0.mk hr0
  have HCC := Aside0.mk hc0
  cases t with
  | false =>
    rw [if_neg (by simp)] at h
    simp only [Option.some.injEq, Prod.mk.injEq] at h
    obtain ⟨rfl, rfl, rfl⟩ := h
    clear ht hr0 hc0
    go_enter Try.func15, Try.ntmps15
    go_wp2_with (go_at_call 32; (with_reducible refine (impl_areReads.calls A0 c0 l0 false _ ?side1 ?side2 HT.out).mono ?_); (case side1 => exact HC.out); (case side2 => exact HCC.out); rintro e w1 ⟨rfl, hb⟩; have HB1 := Aside0.mk hb; clear hb)
    go_ret3
    exact ⟨rfl, HB1.out⟩
  | true =>
    rw [if_pos rfl] at h
    have HRES := Aside0.mk h
    have hrange : l0.length ≤ 200 ∧ ∀ x ∈ l0, 0 ≤ x ∧ x ≤ 9999999 := by
      unfold impl_areReads.f at ht
      by_cases c : (l0.length : Int) ≤ 200
      · rw [if_pos c] at ht
        unfold impl_allIn.f at ht
        simp only [Option.bind_some, Option.some.injEq, List.all_eq_true, Bool.and_eq_true, decide_eq_true_eq] at ht
        exact ⟨by omega, ht⟩
      · rw [if_neg c] at ht
        simp at ht
    have HLEN := Aside0.mk hrange.1
    have HRNG := Aside0.mk hrange.2
    clear ht hr0 hc0 h hrange
    have hmm := @run_makeMap Try.prog
    go_enter Try.func15, Try.ntmps15
    go_upto_region 3 with (go_at_call 32; (with_reducible refine (impl_areReads.calls A0 c0 l0 true _ ?side1 ?side2 HT.out).mono ?_); (case side1 => exact HC.out); (case side2 => exact HCC.out); rintro e w1 ⟨rfl, hb⟩; have HB1 := Aside0.mk hb; clear hb)
    have HC1 := Aside0.mk (Kd.C_below HC.out HB1.out)
    go_wp2
    go_loopg [18] l0.length (fun kq v18 w' => ∃ (i : Nat) (y : Int), v18 = .int .i64 y ∧ Aside0 (i + kq = l0.length) ∧ Aside0 (y = (i : Int)) ∧ Aside0 (∃ n, n ≤ i ∧ w'.ownsMap Try.prog 2 (plainElem Try.prog 2) w1.heap.size n (tally l0 i)) ∧ Aside0 (Below w1.heap.size w1 w'))
    case atStart => exact ⟨0, 0, rfl, ⟨Nat.zero_add _⟩, ⟨rfl⟩, ⟨0, Nat.le_refl _, World.ownsMap_made _ _ _ _⟩, ⟨(Below.refl _ _).alloc (Nat.le_refl _) _⟩⟩
    case round =>
      obtain ⟨i, y, rfl, HI, HY, HO, HB⟩ := hrel
      cases gk with
      | succ k1 =>
        have hcy : decide (y < (l0.length : Int)) = true := decide_eq_true (by have := HI.out; have := HY.out; omega)
        have HYS : Aside0 (wrap64 (y + 1) = ((i + 1 : Nat) : Int)) := ⟨by have := HY.out; have := HI.out; have := HLEN.out; unfold wrap64; omega⟩
        have hi : i < l0.length := by have := HI.out; omega
        obtain ⟨ad, hA, hc⟩ := Kd.at_int (Kd.C_below HC1.out HB.out) y (by have := HY.out; omega) (by have := HY.out; omega)
        subst hA
        have py := eq_true (show 0 ≤ y by have := HY.out; omega)
        have qy := eq_true (show y < (l0.length : Int) by have := HY.out; omega)
        obtain ⟨x, hx⟩ : ∃ x, x = l0.getD i 0 := ⟨_, rfl⟩
        have hrd : rd l0 y = x := by rw [hx, HY.out]; rfl
        rw [hrd] at hc
        have hxm : x ∈ l0 := by rw [hx, List.getD_eq_getElem?_getD, List.getElem?_eq_getElem hi]; exact List.getElem_mem hi
        have hwf : (Lit.int .i64 x).wf = true := WalkArith.wf_i64 (by have := HRNG.out x hxm; omega)
        have HKEY := Aside0.mk (show keyOf Try.prog 2 (.int .i64 x) = some (.int .i64 x) from keyOf_int_mk Try.underlying2 hwf)
        have HIC := Aside0.mk (codeB_eq x)
        by_cases c2 : codeB x = true
        · have HST : Aside0 (tally l0 (i + 1) = (tally l0 i).put (.int .i64 x) (.lit (.int .i64 (many (l0.take (i + 1)) x)))) := ⟨by simp only [tally]; rw [← hx, if_pos c2]⟩
          have HTA := Aside0.mk (tally_at l0 x c2 i (by omega))
          have HMS : Aside0 (wrap64 (many (l0.take i) x + 1) = many (l0.take (i + 1)) x) := ⟨by
            rw [take_next l0 i hi, ← hx]
            unfold many
            rw [List.count_append, List.count_singleton]
            have h1 : (l0.take i).count x ≤ (l0.take i).length := List.count_le_length
            have h2 := HLEN.out
            rw [List.length_take] at h1
            simp
            unfold wrap64
            omega⟩
          have HIC1 := Aside0.mk (show impl_IsCode.f x = some true by rw [HIC.out, c2])
          obtain ⟨n, hn, hown⟩ := HO.out
          have HN : Aside0 (n ≤ i) := ⟨hn⟩
          have HNM : Aside0 (n < maxLen) := ⟨by have := HLEN.out; unfold maxLen; omega⟩
          have HOWN := Aside0.mk hown
          clear hrd hx hxm hwf c2 hi hn hown
          go_wp2_with (first
            | (go_at_call 19; (with_reducible refine (impl_IsCode.calls x true _ HIC1.out).mono ?_); rintro e w5 ⟨rfl, ⟨nd, rfl⟩⟩; have HB5 := Aside0.mk (pw_below_drewN HB.out nd); have HOWN5 := Aside0.mk (show (wr.drewN nd).ownsMap Try.prog 2 (plainElem Try.prog 2) w1.heap.size n (tally l0 i) from HOWN.out))
            | (at_lookup; refine wpList_lookup_own_int _ rfl _ _ 50 rfl 2 2 .i64 law2 Try.underlying50 Try.underlying2 (zero2 _) w1.heap.size n _ rfl HOWN5.out _ _ rfl HKEY.out ?_; intro c hat hwc; have HCE : Aside0 (wrap64 (c + 1) = many (l0.take (i + 1)) x) := ⟨by { have e1 := hat.symm.trans HTA.out; injection e1 with e1; injection e1 with _ e1; rw [e1]; exact HMS.out }⟩; clear hat hwc)
            | (at_mapUpdate; refine wpList_mapUpdate_own _ rfl _ _ _ 50 rfl 2 2 law2 Try.underlying50 _ w1.heap.size n _ rfl HOWN5.out HNM.out _ _ _ rfl rfl HKEY.out _ [] (plainElem_int Try.underlying2 (wrap64_wf _)) ?_; intro w6 hown6 hgrow6; have HO6 : Aside0 (∃ n, n ≤ i + 1 ∧ w6.ownsMap Try.prog 2 (plainElem Try.prog 2) w1.heap.size n (tally l0 (i + 1))) := ⟨n + 1, Nat.succ_le_succ HN.out, by rw [HST.out, ← HCE.out]; exact hown6⟩; have HB6 := Aside0.mk (HB5.out.grown hgrow6 HB5.out.size (fun j hj => by cases hj; exact Nat.le_refl _)); clear hown6 hgrow6))
          go_roundg k1
          case measure => exact Nat.lt_succ_self _
          case rel => exact ⟨i + 1, _, rfl, ⟨by have := HI.out; omega⟩, HYS, HO6, HB6⟩
        · have HST : Aside0 (tally l0 (i + 1) = tally l0 i) := ⟨by simp only [tally]; rw [← hx, if_neg c2]⟩
          have HIC1 := Aside0.mk (show impl_IsCode.f x = some false by rw [HIC.out]; simpa using c2)
          clear hrd hx hxm hwf c2 hi
          go_wp2_with (go_at_call 19; (with_reducible refine (impl_IsCode.calls x false _ HIC1.out).mono ?_); rintro e w5 ⟨rfl, ⟨nd, rfl⟩⟩; have HB5 := Aside0.mk (pw_below_drewN HB.out nd); have HO5 : Aside0 (∃ n, n ≤ i + 1 ∧ (wr.drewN nd).ownsMap Try.prog 2 (plainElem Try.prog 2) w1.heap.size n (tally l0 (i + 1))) := ⟨by { obtain ⟨n, hn, hown⟩ := HO.out; exact ⟨n, by omega, by rw [HST.out]; exact hown⟩ }⟩)
          go_roundg k1
          case measure => exact Nat.lt_succ_self _
          case rel => exact ⟨i + 1, _, rfl, ⟨by have := HI.out; omega⟩, HYS, HO5, HB5⟩
      | zero =>
        have hcy : decide (y < (l0.length : Int)) = false := decide_eq_false (by have := HI.out; have := HY.out; omega)
        have hil : i = l0.length := by have := HI.out; omega
        obtain ⟨n, hn, hown⟩ := HO.out
        have HOWN := Aside0.mk (show wr.ownsMap Try.prog 2 (plainElem Try.prog 2) w1.heap.size n (tally l0 l0.length) by rw [← hil]; exact hown)
        obtain ⟨D, hD⟩ : ∃ D, D = tally l0 l0.length := ⟨_, rfl⟩
        have HAT : Aside0 (∀ x, codeB x = true → D.atKey (.int .i64 x) (.lit (.int .i64 0)) = .lit (.int .i64 (many l0 x))) := ⟨fun x hx => by rw [hD, tally_at l0 x hx l0.length (Nat.le_refl _), List.take_length]⟩
        have HHAS : Aside0 (∀ x, Maps.has D (.int .i64 x) = true ↔ codeB x = true ∧ x ∈ l0) := ⟨fun x => by rw [hD, tally_has l0 x l0.length (Nat.le_refl _), List.take_length]⟩
        rw [← hD] at HOWN
        clear hD hn hown HO hil
        have HBr := Aside0.mk (below_then HB1.out HB1.out.size HB.out)
        have HBw0 := Aside0.mk HBr.out.size
        obtain ⟨Bm, hBm⟩ : ∃ Bm, Bm = w1.heap.size := ⟨_, rfl⟩
        rw [← hBm] at HOWN
        have HBM := Aside0.mk hBm
        clear hBm
        go_wp2_with (first
          | (at_range; refine wpList_range_own _ rfl _ 50 rfl 2 2 law2 Try.underlying50 _ Bm n _ (by rw [HBM.out]; rfl) HOWN.out ?_; intro w7 hrg7 hg7 hs7; have HRG := Aside0.mk hrg7; have HB7 := Aside0.mk (HBr.out.grown hg7 HBr.out.size (fun j hj => by cases hj)); clear hrg7 hg7 hs7))
        go_frame
        obtain ⟨Rm, hRm⟩ : ∃ Rm, Rm = wr.heap.size := ⟨_, rfl⟩
        rw [← hRm] at HRG ⊢
        have HRM := Aside0.mk hRm
        clear hRm
        go_loopw [8, 9] (fun v8 v9 wx => ∃ (left : Lit → Bool) (cnt : Nat) (b m : Int), v8 = .int .i64 b ∧ v9 = .int .i64 m ∧ Aside0 (wx.ranges Try.prog 2 (plainElem Try.prog 2) Bm Rm n D left cnt) ∧ Aside0 (∀ x, left (.int .i64 x) = true → Maps.has D (.int .i64 x) = true) ∧ Aside0 (Best l0 (Gone l0 left) b m) ∧ Aside0 (Below w.heap.size w wx)) (fun _ _ wx => wx.rangeLeft Bm Rm)
        case atStart => exact ⟨_, _, 0, 0, rfl, rfl, HRG, ⟨fun _ h => h⟩, ⟨Best.none l0 _ (fun x h1 h2 h3 => by have := (HHAS.out x).2 ⟨h1, h2⟩; unfold Gone at h3; rw [h3] at this; cases this)⟩, HB7⟩
        case round =>
          clear HRG HB7 HOWN HB HBr
          obtain ⟨left, cnt, b, m, rfl, rfl, HRG, HLF, HBEST, HB⟩ := hrel
          go_wp2_with (first
            | (at_next; refine wpList_next_ranges_ii _ rfl _ rfl 2 2 .i64 .i64 law2 Try.underlying2 Try.underlying2 Bm Rm n _ _ _ rfl HRG.out ?_ ?_))
          · intro hc0 hl0
            have hu := Best.unique (⟨fun x h1 h2 _ => HBEST.out.1 x h1 h2 (hl0 _), HBEST.out.2⟩ : Best l0 (fun _ => True) b m) (bestF_best l0)
            have HR := HRES.out
            rw [← hu.1, ← hu.2] at HR
            clear hu hc0 hl0
            by_cases cm : m = 0
            · rw [if_pos cm] at HR
              have cmb : (m == 0) = true := beq_iff_eq.mpr cm
              clear cm
              simp only [Option.some.injEq, Prod.mk.injEq] at HR
              obtain ⟨rfl, rfl, rfl⟩ := HR
              go_wp2
              go_ret3
              exact ⟨rfl, HB.out⟩
            · rw [if_neg cm] at HR
              have cmb : (m == 0) = false := beq_eq_false_iff_ne.mpr cm
              clear cm
              simp only [Option.some.injEq, Prod.mk.injEq] at HR
              obtain ⟨rfl, rfl, rfl⟩ := HR
              go_wp2
              go_ret3
              exact ⟨rfl, HB.out⟩
          · intro x c w8 cnt1 hwx hwc hlx hat hrg1 hlt hg1 hs1 hen
            have hin := (HHAS.out x).1 (HLF.out x hlx)
            have hcx : c = many l0 x := by
              have e1 := (hat (.lit (.int .i64 0))).symm.trans (HAT.out x hin.1)
              injection e1 with e1
              injection e1
            have HRG1 := Aside0.mk hrg1
            have HLT := Aside0.mk hlt
            have HB8 := Aside0.mk (HB.out.grown hg1 HB.out.size (fun j hj => by cases hj; first | exact HBw0.out | (rw [HRM.out]; exact HBw0.out)))
            have HL1 : Aside0 (∀ z, (fun z : Lit => left z && !z.sameKey (.int .i64 x)) (.int .i64 z) = true → Maps.has D (.int .i64 z) = true) := ⟨fun z hz => HLF.out z (by simp at hz; exact hz.1)⟩
            have HGS : Aside0 (∀ z, Gone l0 (fun z : Lit => left z && !z.sameKey (.int .i64 x)) z → Gone l0 left z ∨ z = x) := ⟨fun z hz => by
              unfold Gone at hz ⊢
              cases hz2 : left (.int .i64 z) with
              | false => exact .inl rfl
              | true =>
                simp only [hz2, Bool.true_and, Bool.not_eq_false'] at hz
                right
                simpa [Lit.sameKey] using hz⟩
            have HIN := Aside0.mk hin
            have HCX := Aside0.mk hcx
            clear hwx hwc hlx hat hrg1 hlt hg1 hs1 hin hcx
            by_cases t1 : c > m
            · have t1b : decide (c > m) = true := decide_eq_true t1
              have HB9 : Aside0 (Best l0 (Gone l0 (fun z : Lit => left z && !z.sameKey (.int .i64 x))) x c) := ⟨by rw [HCX.out]; exact HBEST.out.take HIN.out.1 HIN.out.2 (.inl (by rw [← HCX.out]; exact t1)) HGS.out⟩
              clear t1
              go_wp2
              go_roundw
              case rel => first | exact ⟨_, cnt1, x, c, rfl, rfl, HRG1, HL1, HB9, HB8⟩ | exact ⟨_, ⟨cnt1, HRG1⟩, HL1, HB9, HB8⟩
              case measure => rw [HRG1.out.left_eq, HRG.out.left_eq]; exact HLT.out
            · have t1b : decide (c > m) = false := decide_eq_false t1
              by_cases t2 : c = m
              · have t2b : (c == m) = true := beq_iff_eq.mpr t2
                by_cases t3 : x < b
                · have t3b : decide (x < b) = true := decide_eq_true t3
                  have HB9 : Aside0 (Best l0 (Gone l0 (fun z : Lit => left z && !z.sameKey (.int .i64 x))) x c) := ⟨by rw [HCX.out]; exact HBEST.out.take HIN.out.1 HIN.out.2 (.inr ⟨by rw [← HCX.out]; exact t2, t3⟩) HGS.out⟩
                  clear t1 t2 t3
                  go_wp2
                  go_roundw
                  case rel => first | exact ⟨_, cnt1, x, c, rfl, rfl, HRG1, HL1, HB9, HB8⟩ | exact ⟨_, ⟨cnt1, HRG1⟩, HL1, HB9, HB8⟩
                  case measure => rw [HRG1.out.left_eq, HRG.out.left_eq]; exact HLT.out
                · have t3b : decide (x < b) = false := decide_eq_false t3
                  have HB9 : Aside0 (Best l0 (Gone l0 (fun z : Lit => left z && !z.sameKey (.int .i64 x))) b m) := ⟨HBEST.out.skip (fun _ h => by rw [← HCX.out] at h; rcases h with h | h; exact t1 h; exact t3 h.2) HGS.out⟩
                  clear t1 t2 t3
                  go_wp2
                  go_roundw
                  case rel => first | exact ⟨_, cnt1, b, m, rfl, rfl, HRG1, HL1, HB9, HB8⟩ | exact ⟨_, ⟨cnt1, HRG1⟩, HL1, HB9, HB8⟩
                  case measure => rw [HRG1.out.left_eq, HRG.out.left_eq]; exact HLT.out
              · have t2b : (c == m) = false := beq_eq_false_iff_ne.mpr t2
                have HB9 : Aside0 (Best l0 (Gone l0 (fun z : Lit => left z && !z.sameKey (.int .i64 x))) b m) := ⟨HBEST.out.skip (fun _ h => by rw [← HCX.out] at h; rcases h with h | h; exact t1 h; exact t2 h.1) HGS.out⟩
                clear t1 t2
                go_wp2
                go_roundw
                case rel => first | exact ⟨_, cnt1, b, m, rfl, rfl, HRG1, HL1, HB9, HB8⟩ | exact ⟨_, ⟨cnt1, HRG1⟩, HL1, HB9, HB8⟩
                case measure => rw [HRG1.out.left_eq, HRG.out.left_eq]; exact HLT.out
end Go.Proofs.Ytlicooehcladcaa.X
