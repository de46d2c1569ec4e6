/- The reference's explanation is the program's: both give, station by station, the first kind that keeps to the fewest faults. No conditions but the block's bounds. -/
import Derived.Test.YthfegojffgblmaaX4
import Derived.Test.YthfegojffgblmaaEExplain
namespace Go.Proofs.Ythfegojffgblmaa.Pure
open Go.RowKit Go.Proofs.Ythfegojffgblmaa.X Go.Proofs.YthfegojffgblmaaW.PrintWords Go.Proofs.YthfegojffgblmaaW.PrintLast
set_option linter.unusedVariables false
set_option linter.unusedSimpArgs false

theorem sw {x : Int} (h1 : -1000000000000 ≤ x) (h2 : x ≤ 1000000000000) : wrap64 x = x := by unfold wrap64; omega

theorem same_loop (a b : List Int) (hab : a.length = b.length) (hl : a.length ≤ 1000000) (d : Nat) : ∀ (k i : Nat), i + d = a.length → d < k → ∃ q, spec_l01Same.l0 k a b (i : Int) = some q ∧ (q = true ↔ ∀ j : Nat, i ≤ j → j < a.length → rd a j = rd b j) := by
  induction d with
  | zero =>
    intro k i hi hk
    obtain ⟨k, rfl⟩ : ∃ m, k = m + 1 := ⟨k - 1, by omega⟩
    simp only [spec_l01Same.l0]
    rw [if_neg (by omega)]
    exact ⟨true, rfl, by simp; intro j h1 h2; omega⟩
  | succ d ih =>
    intro k i hi hk
    obtain ⟨k, rfl⟩ : ∃ m, k = m + 1 := ⟨k - 1, by omega⟩
    simp only [spec_l01Same.l0]
    have w1 : wrap64 ((i : Int) + 1) = ((i + 1 : Nat) : Int) := by unfold wrap64; omega
    rw [if_pos (by omega), if_pos (by omega), if_pos (by omega), w1]
    by_cases c : rd a i = rd b i
    · rw [if_pos c]
      obtain ⟨q, e, hq⟩ := ih k (i + 1) (by omega) (by omega)
      refine ⟨q, e, hq.trans ⟨fun h j h1 h2 => ?_, fun h j h1 h2 => h j (by omega) h2⟩⟩
      by_cases hj : j = i
      · rw [hj]; exact c
      · exact h j (by omega) h2
    · rw [if_neg c]
      refine ⟨false, rfl, ?_⟩
      constructor
      · intro h; simp at h
      · intro h; exact absurd (h i (Nat.le_refl _) (by omega)) c
theorem rd_ext' {a b : List Int} (hab : a.length = b.length) (h : ∀ j : Nat, j < a.length → rd a j = rd b j) : a = b := by
  apply List.ext_getElem hab
  intro j h1 h2
  have := h j h1
  unfold rd at this
  simpa [List.getD_eq_getElem?_getD, h1, h2] using this
theorem same_ok (a b : List Int) (hl : a.length ≤ 1000000) (k : Nat) (hk : a.length < k) : spec_l01Same.f k a b = some (decide (a = b)) := by
  unfold spec_l01Same.f
  by_cases hab : a.length = b.length
  · rw [if_pos (by omega)]
    obtain ⟨q, e, hq⟩ := same_loop a b hab hl a.length k 0 (by omega) hk
    rw [show ((0 : Nat) : Int) = 0 from rfl] at e
    rw [e]
    congr 1
    rw [Bool.eq_iff_iff, hq]
    simp only [decide_eq_true_eq]
    exact ⟨fun h => rd_ext' hab (fun j hj => h j (by omega) hj), fun h => by rw [h]; intro j _ _; rfl⟩
  · rw [if_neg (by omega), decide_eq_false (fun h => hab (by rw [h]))]

def cnt : List Int → Nat
  | [] => 0
  | x :: t => (if x = 0 then 0 else 1) + cnt t
theorem cnt_le (l : List Int) : cnt l ≤ l.length := by
  induction l with
  | nil => exact Nat.le_refl _
  | cons x t ih => simp only [cnt, List.length_cons]; split <;> omega
theorem rd_at (l : List Int) (i : Nat) (h : i < l.length) : rd l i = l[i] := by
  unfold rd
  simp [List.getD_eq_getElem?_getD, h]
theorem kinds_loop (l : List Int) (hv : ∀ x ∈ l, 0 ≤ x ∧ x ≤ 4) (hl : l.length ≤ 1000) (d : Nat) : ∀ (k i c : Nat), i + d = l.length → d < k → c ≤ i → spec_l14Kinds.l0 k l (c : Int) (i : Int) = some ((c + cnt (l.drop i) : Nat) : Int) := by
  induction d with
  | zero =>
    intro k i c hi hk hc
    obtain ⟨k, rfl⟩ : ∃ m, k = m + 1 := ⟨k - 1, by omega⟩
    simp only [spec_l14Kinds.l0]
    rw [if_neg (by omega), List.drop_eq_nil_of_le (by omega)]
    simp [cnt]
  | succ d ih =>
    intro k i c hi hk hc
    obtain ⟨k, rfl⟩ : ∃ m, k = m + 1 := ⟨k - 1, by omega⟩
    simp only [spec_l14Kinds.l0]
    have hil : i < l.length := by omega
    have w1 : wrap64 ((i : Int) + 1) = ((i + 1 : Nat) : Int) := by unfold wrap64; omega
    have hx := hv l[i] (List.getElem_mem hil)
    rw [if_pos (by omega), if_pos (by omega), w1, rd_at l i hil, List.drop_eq_getElem_cons hil]
    obtain ⟨x, hx_⟩ : ∃ x, x = l[i] := ⟨_, rfl⟩
    rw [← hx_] at hx ⊢
    have hm : wrap64 ((c : Int) + mn 1 x) = ((c + (if x = 0 then 0 else 1) : Nat) : Int) := by
      by_cases h0 : x = 0
      · subst h0
        rw [if_pos rfl, show mn 1 0 = 0 from by unfold mn; simp, sw (by omega) (by omega)]
        omega
      · rw [if_neg h0, show mn 1 x = 1 from by unfold mn; split <;> omega, sw (by omega) (by omega)]
        omega
    rw [hm, ih k (i + 1) _ (by omega) (by omega) (by split <;> omega)]
    simp only [cnt]
    congr 2
    omega
theorem kinds_ok (l : List Int) (hv : ∀ x ∈ l, 0 ≤ x ∧ x ≤ 4) (hl : l.length ≤ 1000) (k : Nat) (hk : l.length < k) : spec_l14Kinds.f k l = some ((cnt l : Nat) : Int) := by
  unfold spec_l14Kinds.f
  have := kinds_loop l hv hl l.length k 0 0 (by omega) hk (Nat.le_refl _)
  simpa using this

-- a step of the reference
theorem j2_none {b l : List Int} {pl : Nat} (h : nxg b pl l = none) (hpl : pl ≤ b.length) (hl : l.length ≤ 2) (k : Nat) (hk : 5 ≤ k) (x0 x1 : Int) (x8 : List Int) (x9 : Bool) (x10 : Int) :
    spec_l14Explain.j2 (k + 2) x0 x1 (b.drop pl) x8 x9 x10 l = spec_l14Explain.l0 k x0 x1 (b.drop pl) x8 x9 (wrap64 (x10 + 1)) := by
  have hd : (b.drop pl).length = b.length - pl := List.length_drop
  simp only [spec_l14Explain.j2]
  by_cases c : (l.length : Int) > ((b.drop pl).length : Int)
  · rw [if_pos c]
    simp only [spec_l14Explain.j3]
    rw [if_pos trivial]
  · rw [if_neg c, if_pos (by omega), if_pos (by omega), Int.toNat_natCast, same_ok l _ (by omega) (k + 1) (by omega)]
    have hne : ¬ l = (b.drop pl).take l.length := fun he => by
      unfold nxg at h
      rw [if_pos ⟨by omega, he⟩] at h
      cases h
    rw [decide_eq_false hne, Option.bind_some]
    simp only [spec_l14Explain.j3]
    first | rw [if_pos trivial] | rw [if_pos (by simp)]
theorem j2_some {b l : List Int} {pl e : Nat} (h : nxg b pl l = some e) (hpl : pl ≤ b.length) (hl : l.length ≤ 2) (k : Nat) (hk : 5 ≤ k) (x0 x1 : Int) (x8 : List Int) (x9 : Bool) (x10 : Int) (R : List Int) (F : Bool)
    (hf : spec_l14Explain.f k x0 (wrap64 (x1 + 1)) (b.drop e) = some (R, F)) (hR : R.length ≤ 1000) :
    spec_l14Explain.j2 (k + 2) x0 x1 (b.drop pl) x8 x9 x10 l = if F = true then (if x9 = true then ((spec_l14Kinds.f k (x10 :: R)).bind fun t155 => ((spec_l14Kinds.f k x8).bind fun t156 => (if t155 < t156 then (spec_l14Explain.l0 k x0 x1 (b.drop pl) (x10 :: R) true (wrap64 (x10 + 1))) else (spec_l14Explain.l0 k x0 x1 (b.drop pl) x8 x9 (wrap64 (x10 + 1)))))) else spec_l14Explain.l0 k x0 x1 (b.drop pl) (x10 :: R) true (wrap64 (x10 + 1))) else spec_l14Explain.l0 k x0 x1 (b.drop pl) x8 x9 (wrap64 (x10 + 1)) := by
  have hd : (b.drop pl).length = b.length - pl := List.length_drop
  unfold nxg at h
  split at h
  · rename_i hh
    obtain ⟨h1, h2⟩ := hh
    cases h
    simp only [spec_l14Explain.j2]
    rw [if_neg (by omega), if_pos (by omega), if_pos (by omega), Int.toNat_natCast, same_ok l _ (by omega) (k + 1) (by omega), decide_eq_true h2, Option.bind_some]
    simp only [spec_l14Explain.j3]
    rw [if_neg (by simp), if_pos (by omega), if_pos (by omega), Int.toNat_natCast, List.drop_drop, hf]
    simp only [Option.bind_some]
    cases F with
    | false => simp
    | true =>
      rw [if_pos rfl, if_pos rfl, if_pos (by simp; omega)]
      rfl
  · cases h

theorem part_is (s kd : Nat) (o : Int) (hk : kd ≤ 3) (hs : s ≤ 100) : spec_l14Part.f (s : Int) (kd : Int) 0 = some (pt s kd o) := by
  unfold spec_l14Part.f pt
  have w1 : wrap64 ((s : Int) + 1) = (s : Int) + 1 := sw (by omega) (by omega)
  have w2 : wrap64 (-((s : Int) + 1)) = -((s : Int) + 1) := sw (by omega) (by omega)
  rw [w1, w2]
  by_cases h1 : kd = 1
  · rw [if_pos h1, if_pos (by omega)]
  rw [if_neg h1, if_neg (by omega)]
  by_cases h2 : kd = 2
  · rw [if_pos h2, if_pos (by omega)]
  rw [if_neg h2, if_neg (by omega)]
  by_cases h3 : kd = 3
  · rw [if_pos h3, if_pos (by omega)]
  rw [if_neg h3, if_neg (by omega), if_neg (by omega), if_neg (by omega)]

/-- What a kind makes of the best so far. -/
def upd (b : List Int) (d s pl kd : Nat) (B : List Int) (fd : Bool) : List Int × Bool := match nx b s pl kd with
  | none => (B, fd)
  | some e => if few b d (s + 1) e < 1000000000 then (if fd = true then (if cnt ((kd : Int) :: build b d (s + 1) e (few b d (s + 1) e)) < cnt B then ((kd : Int) :: build b d (s + 1) e (few b d (s + 1) e), true) else (B, fd)) else ((kd : Int) :: build b d (s + 1) e (few b d (s + 1) e), true)) else (B, fd)
/-- What is known of the stations behind. -/
def Rest (b : List Int) (N : Nat) (d s K : Nat) : Prop := ∀ e k : Nat, e ≤ b.length → K ≤ k → ∃ R, spec_l14Explain.f k (N : Int) ((s : Nat) : Int) (b.drop e) = some (R, decide (few b d s e < 1000000000)) ∧ R.length ≤ 200 ∧
  (few b d s e < 1000000000 → R = build b d s e (few b d s e) ∧ cnt R = few b d s e ∧ (∀ x ∈ R, 0 ≤ x ∧ x ≤ 4) ∧ R.length = d)

theorem l0_step (b : List Int) (N d s pl kd K : Nat) (hb : b.length ≤ 100) (hs : s ≤ 100) (hd : d ≤ 100) (hpl : pl ≤ b.length) (hkd : kd ≤ 4) (hf : Rest b N d (s + 1) K) (B : List Int) (fd : Bool) (hB : (∀ x ∈ B, 0 ≤ x ∧ x ≤ 4) ∧ B.length ≤ 200) (k : Nat) (hk : K + 300 ≤ k) :
    ∃ k', k ≤ k' + 4 ∧ spec_l14Explain.l0 k (N : Int) (s : Int) (b.drop pl) B fd (kd : Int) = spec_l14Explain.l0 k' (N : Int) (s : Int) (b.drop pl) (upd b d s pl kd B fd).1 (upd b d s pl kd B fd).2 ((kd + 1 : Nat) : Int) := by
  have hdl : (b.drop pl).length = b.length - pl := List.length_drop
  have wk : wrap64 ((kd : Int) + 1) = ((kd + 1 : Nat) : Int) := by rw [sw (by omega) (by omega)]; omega
  have ws : wrap64 ((s : Int) + 1) = ((s + 1 : Nat) : Int) := by rw [sw (by omega) (by omega)]; omega
  obtain ⟨k, rfl⟩ : ∃ m, k = m + 4 := ⟨k - 4, by omega⟩
  -- what j2 makes of a part
  have hj : ∀ l : List Int, l.length ≤ 2 → nx b s pl kd = nxg b pl l → spec_l14Explain.j2 (k + 2) (N : Int) (s : Int) (b.drop pl) B fd (kd : Int) l = spec_l14Explain.l0 k (N : Int) (s : Int) (b.drop pl) (upd b d s pl kd B fd).1 (upd b d s pl kd B fd).2 ((kd + 1 : Nat) : Int) := by
    intro l hl hnx
    rcases hg : nxg b pl l with _ | e
    · rw [j2_none hg hpl hl k (by omega), wk]
      unfold upd
      rw [hnx, hg]
    · obtain ⟨R, hR, hRl, hR2⟩ := hf e k (nx_le (hnx.trans hg)) (by omega)
      rw [← ws] at hR
      rw [j2_some hg hpl hl k (by omega) _ _ _ _ _ R _ hR (by omega), wk]
      unfold upd
      rw [hnx, hg]
      simp only
      by_cases hfe : few b d (s + 1) e < 1000000000
      · obtain ⟨rfl, hc, hv, hlen⟩ := hR2 hfe
        rw [if_pos (decide_eq_true hfe), if_pos hfe]
        cases fd with
        | false => simp
        | true =>
          simp only [if_true]
          rw [kinds_ok _ (by intro x hx; rcases List.mem_cons.1 hx with rfl | hx; omega; exact hv x hx) (by simp; omega) k (by simp; omega), kinds_ok B hB.1 (by omega) k (by omega)]
          simp only [Option.bind_some]
          by_cases hcc : cnt ((kd : Int) :: build b d (s + 1) e (few b d (s + 1) e)) < cnt B
          · rw [if_pos (by omega), if_pos hcc]
          · rw [if_neg (by omega), if_neg hcc]
      · rw [if_neg (by simp; omega), if_neg hfe]
  simp only [spec_l14Explain.l0]
  rw [if_pos (by omega)]
  by_cases h4 : kd = 4
  · subst h4
    have hp4 : spec_l14Part.f (s : Int) ((4 : Nat) : Int) 0 = some [wrap64 (0 + 1)] := by
      unfold spec_l14Part.f
      rw [if_neg (by omega), if_neg (by omega), if_neg (by omega), if_pos (by omega)]
    rw [hp4, Option.bind_some, if_pos (by omega)]
    have hoff : ∀ (x11 : List Int), nx b s pl 4 = none → ∃ k', k + 4 ≤ k' + 4 ∧ spec_l14Explain.j1 (k + 3) (N : Int) (s : Int) (b.drop pl) B fd ((4 : Nat) : Int) x11 false = spec_l14Explain.l0 k' (N : Int) (s : Int) (b.drop pl) (upd b d s pl 4 B fd).1 (upd b d s pl 4 B fd).2 ((4 + 1 : Nat) : Int) := by
      intro x11 hnone
      refine ⟨k + 2, by omega, ?_⟩
      simp only [spec_l14Explain.j1]
      rw [if_neg (by simp), if_pos (by omega), wk]
      unfold upd
      rw [hnone]
    by_cases hpe : pl = b.length
    · rw [if_neg (by omega)]
      exact hoff _ (by unfold nx; rw [if_pos rfl, if_pos (.inl hpe)])
    · have hrd : rd (b.drop pl) 0 = rd b pl := by
        unfold rd
        simp [List.getD_eq_getElem?_getD]
      rw [if_pos (by omega), if_pos (by omega), hrd]
      by_cases hr : rd b pl > 0
      · rw [if_pos hr, ws]
        by_cases hrs : rd b pl = ((s + 1 : Nat) : Int)
        · rw [show (rd b pl != ((s + 1 : Nat) : Int)) = false from by simp [hrs]]
          exact hoff _ (by unfold nx; rw [if_pos rfl, if_pos (.inr (.inr (by omega)))])
        · rw [show (rd b pl != ((s + 1 : Nat) : Int)) = true from by simpa using hrs]
          refine ⟨k, by omega, ?_⟩
          simp only [spec_l14Explain.j1]
          rw [if_pos trivial, if_pos (by omega), hrd]
          refine hj _ (by simp) ?_
          unfold nx
          rw [if_pos rfl, if_neg (by omega)]
          congr 1
          unfold pt
          simp
      · rw [if_neg hr]
        exact hoff _ (by unfold nx; rw [if_pos rfl, if_pos (.inr (.inl (by omega)))])
  · rw [part_is s kd (-1) (by omega) hs, Option.bind_some, if_neg (by omega)]
    refine ⟨k, by omega, ?_⟩
    simp only [spec_l14Explain.j1]
    rw [if_neg (by simp), if_neg (by omega)]
    refine hj _ (pt_len _ _ _) ?_
    unfold nx
    rw [if_neg h4]

-- what upto keeps
theorem upto_min {b : List Int} {F : Nat → Nat} {s pl : Nat} : ∀ {kd i e : Nat}, i < kd → nx b s pl i = some e → upto b F s pl kd ≤ F e + (if i = 0 then 0 else 1)
  | 0, i, e, h, _ => absurd h (by omega)
  | kd + 1, i, e, h, hn => by
    simp only [upto]
    by_cases c : i = kd
    · subst c
      rw [hn]
      exact Nat.min_le_right _ _
    · have := upto_min (F := F) (show i < kd by omega) hn
      split
      · exact this
      · exact Nat.le_trans (Nat.min_le_left _ _) this
theorem upto_big {b : List Int} {F : Nat → Nat} {s pl : Nat} (h : ∀ i e : Nat, nx b s pl i = some e → 1000000000 ≤ F e) : ∀ kd, 1000000000 ≤ upto b F s pl kd
  | 0 => Nat.le_refl _
  | kd + 1 => by
    have := upto_big h kd
    simp only [upto]
    split
    · exact this
    · rename_i e he
      have := h kd e he
      omega
theorem nx_two {b : List Int} {s pl kd e : Nat} (h : nx b s pl kd = some e) : e ≤ pl + 2 := by
  have g : ∀ l : List Int, l.length ≤ 2 → nxg b pl l = some e → e ≤ pl + 2 := by
    intro l h2 hl
    unfold nxg at hl
    split at hl
    · cases hl
      omega
    · cases hl
  unfold nx at h
  split at h
  · split at h
    · cases h
    · exact g _ (pt_len _ _ _) h
  · exact g _ (pt_len _ _ _) h
theorem few_long (b : List Int) : ∀ (d s pl : Nat), 2 * d + pl < b.length → 1000000000 ≤ few b d s pl
  | 0, s, pl, h => by
    simp only [few]
    rw [if_neg (by omega)]
    exact Nat.le_refl _
  | d + 1, s, pl, h => by
    simp only [few]
    refine upto_big (fun i e he => ?_) 5
    have := nx_two he
    exact few_long b d (s + 1) e (by omega)
theorem pick_first {b : List Int} {F : Nat → Nat} {s pl L j e : Nat} (hj : hit b F s pl L j = some e) (hno : ∀ i, i < j → hit b F s pl L i = none) : ∀ (t kd : Nat), kd ≤ j → j < kd + t → pickF b F s pl L t kd = some (j, e)
  | 0, kd, h1, h2 => absurd h2 (by omega)
  | t + 1, kd, h1, h2 => by
    simp only [pickF]
    by_cases c : kd = j
    · subst c
      rw [hj]
    · rw [hno kd (by omega)]
      exact pick_first hj hno t (kd + 1) (by omega) (by omega)

/-- The best so far is the first kind that keeps to the fewest so far. -/
def Inv (b : List Int) (d s pl kd : Nat) (B : List Int) (fd : Bool) : Prop :=
  fd = decide (upto b (fun e => few b d (s + 1) e) s pl kd < 1000000000) ∧ B.length ≤ 200 ∧ (∀ x ∈ B, 0 ≤ x ∧ x ≤ 4) ∧
  (fd = true → ∃ j e, j < kd ∧ nx b s pl j = some e ∧ few b d (s + 1) e < 1000000000 ∧ few b d (s + 1) e + (if j = 0 then 0 else 1) = upto b (fun e => few b d (s + 1) e) s pl kd ∧ B = (j : Int) :: build b d (s + 1) e (few b d (s + 1) e) ∧
    cnt B = upto b (fun e => few b d (s + 1) e) s pl kd ∧ B.length = d + 1 ∧ ∀ i, i < j → hit b (fun e => few b d (s + 1) e) s pl (upto b (fun e => few b d (s + 1) e) s pl kd) i = none)
theorem hit_none {b : List Int} {F : Nat → Nat} {s pl L kd i : Nat} (hi : i < kd) (hL : L < upto b F s pl kd) : hit b F s pl L i = none := by
  unfold hit
  rcases hn : nx b s pl i with _ | e
  · rfl
  · have := upto_min (F := F) hi hn
    simp only
    rw [if_neg (by omega)]
theorem Inv.step {b : List Int} {N d s pl kd K : Nat} {B : List Int} {fd : Bool} (h : Inv b d s pl kd B fd) (hd : d ≤ 100) (hkd : kd ≤ 4) (hf : Rest b N d (s + 1) K) :
    Inv b d s pl (kd + 1) (upd b d s pl kd B fd).1 (upd b d s pl kd B fd).2 := by
  obtain ⟨h1, h2, h3, h4⟩ := h
  have hup := upto_le b (fun e => few b d (s + 1) e) s pl kd
  rcases hn : nx b s pl kd with _ | e
  · have hu : upto b (fun e => few b d (s + 1) e) s pl (kd + 1) = upto b (fun e => few b d (s + 1) e) s pl kd := by simp only [upto, hn]
    have hupd : upd b d s pl kd B fd = (B, fd) := by unfold upd; rw [hn]
    rw [hupd]
    refine ⟨by rw [hu]; exact h1, h2, h3, fun hfd => ?_⟩
    obtain ⟨j, e, hj, h5, h6, h7, h8, h9, h10, h11⟩ := h4 hfd
    rw [hu]
    exact ⟨j, e, by omega, h5, h6, h7, h8, h9, h10, h11⟩
  · have hu : upto b (fun e => few b d (s + 1) e) s pl (kd + 1) = min (upto b (fun e => few b d (s + 1) e) s pl kd) (few b d (s + 1) e + if kd = 0 then 0 else 1) := by simp only [upto, hn]
    obtain ⟨R, hR, hRl, hR2⟩ := hf e K (nx_le hn) (Nat.le_refl _)
    by_cases hfe : few b d (s + 1) e < 1000000000
    · obtain ⟨hRR, hc, hv, hlen⟩ := hR2 hfe
      subst hRR
      have hfd_ : few b d (s + 1) e ≤ d := by have h_ := cnt_le (build b d (s + 1) e (few b d (s + 1) e)); omega
      obtain ⟨y, hy⟩ : ∃ y, y = (kd : Int) :: build b d (s + 1) e (few b d (s + 1) e) := ⟨_, rfl⟩
      have hyc : cnt y = few b d (s + 1) e + if kd = 0 then 0 else 1 := by
        rw [hy]
        simp only [cnt, hc]
        by_cases k0 : kd = 0
        · rw [if_pos k0, if_pos (by omega)]; omega
        · rw [if_neg k0, if_neg (by omega)]; omega
      have hyl : y.length = d + 1 := by rw [hy]; simp [hlen]
      have hyv : ∀ x ∈ y, 0 ≤ x ∧ x ≤ 4 := by
        rw [hy]
        intro x hx
        rcases List.mem_cons.1 hx with rfl | hx
        · omega
        · exact hv x hx
      have hnew : few b d (s + 1) e + (if kd = 0 then 0 else 1) < upto b (fun e => few b d (s + 1) e) s pl kd → Inv b d s pl (kd + 1) y true := by
        intro hlt
        have hu' : upto b (fun e => few b d (s + 1) e) s pl (kd + 1) = few b d (s + 1) e + if kd = 0 then 0 else 1 := by rw [hu]; exact Nat.min_eq_right (Nat.le_of_lt hlt)
        have hlt9 : few b d (s + 1) e + (if kd = 0 then 0 else 1) < 1000000000 := by omega
        refine ⟨by rw [hu']; exact (decide_eq_true hlt9).symm, by omega, hyv, fun _ => ⟨kd, e, by omega, hn, hfe, hu'.symm, hy, by rw [hu']; exact hyc, hyl, fun i hi => ?_⟩⟩
        rw [hu']
        exact hit_none hi hlt
      have hold : fd = true → ¬ few b d (s + 1) e + (if kd = 0 then 0 else 1) < upto b (fun e => few b d (s + 1) e) s pl kd → Inv b d s pl (kd + 1) B fd := by
        intro hfd hge
        have hu' : upto b (fun e => few b d (s + 1) e) s pl (kd + 1) = upto b (fun e => few b d (s + 1) e) s pl kd := by rw [hu]; exact Nat.min_eq_left (by omega)
        refine ⟨by rw [hu']; exact h1, h2, h3, fun hfd => ?_⟩
        obtain ⟨j, e', hj, h5, h6, h7, h8, h9, h10, h11⟩ := h4 hfd
        rw [hu']
        exact ⟨j, e', by omega, h5, h6, h7, h8, h9, h10, h11⟩
      have hupd : upd b d s pl kd B fd = if fd = true then (if cnt y < cnt B then (y, true) else (B, fd)) else (y, true) := by unfold upd; rw [hn]; simp only; rw [if_pos hfe, ← hy]
      rw [hupd]
      cases hfd : fd with
      | false =>
        rw [if_neg (by simp)]
        refine hnew ?_
        rw [hfd] at h1
        have := of_decide_eq_false h1.symm
        split <;> omega
      | true =>
        rw [if_pos rfl]
        obtain ⟨j, e', hj, h5, h6, h7, h8, h9, h10, h11⟩ := h4 hfd
        by_cases hcc : cnt y < cnt B
        · rw [if_pos hcc]
          exact hnew (by omega)
        · rw [if_neg hcc]
          have := hold hfd (by omega)
          rwa [hfd] at this
    · have hu' : upto b (fun e => few b d (s + 1) e) s pl (kd + 1) = upto b (fun e => few b d (s + 1) e) s pl kd := by rw [hu]; exact Nat.min_eq_left (by omega)
      have hupd : upd b d s pl kd B fd = (B, fd) := by unfold upd; rw [hn]; simp only; rw [if_neg hfe]
      rw [hupd]
      refine ⟨by rw [hu']; exact h1, h2, h3, fun hfd => ?_⟩
      obtain ⟨j, e', hj, h5, h6, h7, h8, h9, h10, h11⟩ := h4 hfd
      rw [hu']
      exact ⟨j, e', by omega, h5, h6, h7, h8, h9, h10, h11⟩

theorem l0_all (b : List Int) (N d s pl K : Nat) (hb : b.length ≤ 100) (hs : s ≤ 100) (hd : d ≤ 100) (hpl : pl ≤ b.length) (hf : Rest b N d (s + 1) K) (t : Nat) : ∀ (kd : Nat) (B : List Int) (fd : Bool) (k : Nat), kd + t = 5 → Inv b d s pl kd B fd → K + 305 + 4 * t ≤ k →
    ∃ B' fd', spec_l14Explain.l0 k (N : Int) (s : Int) (b.drop pl) B fd (kd : Int) = some (B', fd') ∧ Inv b d s pl 5 B' fd' := by
  induction t with
  | zero =>
    intro kd B fd k hk hI hkk
    obtain rfl : kd = 5 := by omega
    obtain ⟨k, rfl⟩ : ∃ m, k = m + 1 := ⟨k - 1, by omega⟩
    simp only [spec_l14Explain.l0]
    rw [if_neg (by omega)]
    exact ⟨B, fd, rfl, hI⟩
  | succ t ih =>
    intro kd B fd k hk hI hkk
    obtain ⟨k', hk', e⟩ := l0_step b N d s pl kd K hb hs hd hpl (by omega) hf B fd ⟨hI.2.2.1, hI.2.1⟩ k (by omega)
    rw [e]
    exact ih (kd + 1) _ _ k' (by omega) (hI.step hd (by omega) hf) (by omega)

theorem rest_all (b : List Int) (N : Nat) (hb : b.length ≤ 100) (hN : N ≤ 100) (d : Nat) : ∀ s, s + d = N → Rest b N d s (400 * (d + 1)) := by
  induction d with
  | zero =>
    intro s hs e k he hk
    obtain ⟨k, rfl⟩ : ∃ m, k = m + 1 := ⟨k - 1, by omega⟩
    have hdl : (b.drop e).length = b.length - e := List.length_drop
    refine ⟨[], ?_, by simp, fun hlt => ?_⟩
    · simp only [spec_l14Explain.f]
      rw [if_pos (by omega)]
      congr 2
      by_cases c : e = b.length
      · rw [show few b 0 s e = 0 from by simp [few, c]]
        simp; omega
      · rw [show few b 0 s e = 1000000000 from by simp [few, c]]
        simp; omega
    · by_cases c : e = b.length
      · have hz : few b 0 s e = 0 := by simp [few, c]
        rw [hz]
        simp [build, cnt]
      · have hz : few b 0 s e = 1000000000 := by simp [few, c]
        omega
  | succ d ih =>
    intro s hs e k he hk
    obtain ⟨k, rfl⟩ : ∃ m, k = m + 1 := ⟨k - 1, by omega⟩
    have hdl : (b.drop e).length = b.length - e := List.length_drop
    simp only [spec_l14Explain.f]
    have w1 : wrap64 ((N : Int) - (s : Int)) = (N : Int) - (s : Int) := sw (by omega) (by omega)
    rw [if_neg (by omega), w1, sw (by omega) (by omega)]
    by_cases hl : ((b.drop e).length : Int) > 2 * ((N : Int) - (s : Int))
    · rw [if_pos hl]
      have := few_long b (d + 1) s e (by omega)
      exact ⟨[], by rw [decide_eq_false (by omega)], by simp, fun h => by omega⟩
    · rw [if_neg hl]
      obtain ⟨B', fd', e', hI⟩ := l0_all b N d s e (400 * (d + 1)) hb (by omega) (by omega) he (ih (s + 1) (by omega)) 5 0 [] false k (by omega) ⟨by simp [upto], by simp, by simp, by simp⟩ (by omega)
      rw [show ((0 : Nat) : Int) = 0 from rfl] at e'
      rw [e']
      obtain ⟨h1, h2, h3, h4⟩ := hI
      have hfew : few b (d + 1) s e = upto b (fun e => few b d (s + 1) e) s e 5 := rfl
      rw [← hfew] at h1 h4
      refine ⟨B', by rw [h1], h2, fun hlt => ?_⟩
      · obtain ⟨j, e2, hj, h5, h6, h7, h8, h9, h10, h11⟩ := h4 (by rw [h1]; exact decide_eq_true hlt)
        have hhit : hit b (fun e => few b d (s + 1) e) s e (few b (d + 1) s e) j = some e2 := by
          unfold hit
          rw [h5]
          simp only
          rw [if_pos h7]
        refine ⟨?_, h9, h3, h10⟩
        rw [build_some (pick_first hhit h11 5 0 (by omega) (by omega)), h8]
        congr 2
        omega
end Go.Proofs.Ythfegojffgblmaa.Pure
