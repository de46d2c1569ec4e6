/- spec.NearCodes walked: every code that differs in one digit is put into the list at its place. No conditions. -/
import Derived.Test.YtlicooehcladcaaX1
import Derived.Test.YtlicooehcladcaaX1
import Derived.Test.YtlicooehcladcaaX1
import Derived.Test.YtlicooehcladcaaX1
import Derived.Test.YtlicooehcladcaaX1
import Derived.Test.YtlicooehcladcaaPureSort
namespace Go.Proofs.Ytlicooehcladcaa.X
open Go.RowKit Go.Proofs.YtlicooehcladcaaW.PrintWords Go.Proofs.YtlicooehcladcaaW.PrintLast Go.Proofs.YtlicooehcladcaaW.PrintMore
set_option linter.unusedVariables false
set_option linter.unusedSimpArgs false

def numS (l : List Int) : Int := (spec_l15Number.f 9 l).getD 0
theorem number_some (l : List Int) (hl : l.length ≤ 100) (d : Nat) : ∀ (k i : Nat) (x : Int), i + d = l.length → d < k → ∃ r, spec_l15Number.l0 k l x (i : Int) = some r := by
  induction d with
  | zero =>
    intro k i x hi hk
    obtain ⟨k, rfl⟩ : ∃ m, k = m + 1 := ⟨k - 1, by omega⟩
    simp only [spec_l15Number.l0]
    rw [if_neg (by omega)]
    exact ⟨_, rfl⟩
  | succ d ih =>
    intro k i x hi hk
    obtain ⟨k, rfl⟩ : ∃ m, k = m + 1 := ⟨k - 1, by omega⟩
    simp only [spec_l15Number.l0]
    have w1 : wrap64 ((i : Int) + 1) = ((i + 1 : Nat) : Int) := by unfold wrap64; omega
    rw [if_pos (by omega), if_pos (by omega), w1]
    exact ih k (i + 1) _ (by omega) (by omega)
theorem numS_eq (l : List Int) (h : l.length = 7) : spec_l15Number.f 9 l = some (numS l) := by
  obtain ⟨r, hr⟩ := number_some l (by omega) 7 9 0 0 (by omega) (by omega)
  unfold numS
  have : spec_l15Number.f 9 l = some r := hr
  rw [this]
  rfl
def codeS (m : Int) : Bool := (spec_IsCode.f m).getD false
theorem codeS_eq (m : Int) : spec_IsCode.f m = some (codeS m) := by
  have : ∃ r, spec_IsCode.f m = some r := by
    unfold spec_IsCode.f spec_l01In.f spec_l15Remainder.f
    repeat' (first | split | (simp only [Option.bind_some]; done) | (exact ⟨_, rfl⟩) | simp only [Option.bind_some])
  obtain ⟨r, hr⟩ := this
  unfold codeS
  rw [hr]
  rfl
def digS (n : Int) : List Int := (spec_l15Digits.f 9 n).getD []
theorem digits_some (d : Nat) : ∀ (k : Nat) (n i : Int) (x : List Int), x.length = 7 → i + 1 = (d : Int) → d ≤ 7 → d < k → ∃ r, spec_l15Digits.l0 k n x i = some r ∧ r.length = 7 := by
  induction d with
  | zero =>
    intro k n i x hx hi h7 hk
    obtain ⟨k, rfl⟩ : ∃ m, k = m + 1 := ⟨k - 1, by omega⟩
    simp only [spec_l15Digits.l0]
    rw [if_neg (by omega)]
    exact ⟨x, rfl, hx⟩
  | succ d ih =>
    intro k n i x hx hi h7 hk
    obtain ⟨k, rfl⟩ : ∃ m, k = m + 1 := ⟨k - 1, by omega⟩
    simp only [spec_l15Digits.l0]
    have w1 : wrap64 (i - 1) = i - 1 := by unfold wrap64; omega
    rw [if_pos (by omega), if_pos (by omega), if_pos (by omega), w1]
    exact ih k _ _ _ (by simpa using hx) (by omega) (by omega) (by omega)
theorem digS_eq (n : Int) : spec_l15Digits.f 9 n = some (digS n) ∧ (digS n).length = 7 := by
  obtain ⟨r, hr, hl⟩ := digits_some 7 9 n 6 (List.replicate 7 0) (by simp) (by omega) (by omega) (by omega)
  have : spec_l15Digits.f 9 n = some r := by
    unfold spec_l15Digits.f
    rw [if_pos (by omega)]
    exact hr
  unfold digS
  rw [this]
  exact ⟨rfl, hl⟩
def nearOne (D : List Int) (n : Int) (i d : Nat) (out : List Int) : List Int :=
  if numS (D.set i (d : Int)) = n then out else if codeS (numS (D.set i (d : Int))) = true then Pure.ins out (numS (D.set i (d : Int))) else out
def nearIn (D : List Int) (n : Int) (i : Nat) (out : List Int) : Nat → List Int
  | 0 => out
  | d + 1 => nearOne D n i d (nearIn D n i out d)
def nearTo (D : List Int) (n : Int) : Nat → List Int
  | 0 => []
  | i + 1 => nearIn D n i (nearTo D n i) 10
theorem nearOne_len (D : List Int) (n : Int) (i d : Nat) (out : List Int) : (nearOne D n i d out).length ≤ out.length + 1 := by
  unfold nearOne
  split
  · omega
  · split
    · have := (Pure.ins_perm out (numS (D.set i (d : Int)))).length_eq
      rw [this]
      simp
    · omega
theorem nearIn_len (D : List Int) (n : Int) (i : Nat) (out : List Int) : ∀ d, (nearIn D n i out d).length ≤ out.length + d
  | 0 => Nat.le_refl _
  | d + 1 => by
    have := nearIn_len D n i out d
    have := nearOne_len D n i d (nearIn D n i out d)
    simp only [nearIn]
    omega
theorem nearTo_len (D : List Int) (n : Int) : ∀ i, (nearTo D n i).length ≤ 10 * i
  | 0 => Nat.le_refl _
  | i + 1 => by
    have := nearTo_len D n i
    have := nearIn_len D n i (nearTo D n i) 10
    simp only [nearTo]
    omega
def spec_NearCodes.f (a0 : Int) : Option (List Int × Int) := if 0 ≤ a0 ∧ a0 ≤ 9999999 then some (nearTo (digS a0) a0 7, 0) else some ([], 2)
theorem own_all (ys : List Int) (h : ys.length < 8796093022207) : spec_l01Own.f ys = some ys := by
  unfold spec_l01Own.f
  simp
  omega
theorem tw_len (m : Int) : ∀ (out : List Int) (j : Nat), j ≤ out.length → (∀ (t : Nat) (h : t < out.length), t < j → out[t] < m) → (∀ h : j < out.length, ¬ out[j] < m) → (out.takeWhile (fun x => decide (x < m))).length = j
  | [], j, hj, _, _ => by simp at hj; simp [hj]
  | a :: out, 0, hj, h1, h2 => by
    have := h2 (by simp)
    simp at this
    rw [List.takeWhile_cons]
    simp [show ¬ a < m by omega]
  | a :: out, j + 1, hj, h1, h2 => by
    have h0 := h1 0 (by simp) (by omega)
    simp at h0
    rw [List.takeWhile_cons]
    simp only [h0, decide_true, if_true, List.length_cons]
    rw [tw_len m out j (by simpa using hj) (fun t ht htj => by have := h1 (t + 1) (by simpa using ht) (by omega); simpa using this) (fun h => by have := h2 (by simpa using h); simpa using this)]
theorem tw_le (m : Int) : ∀ (out : List Int), (out.takeWhile (fun x => decide (x < m))).length ≤ out.length
  | [] => by simp
  | a :: out => by
    have := tw_le m out
    rw [List.takeWhile_cons]
    split <;> simp <;> omega
theorem tw_lt (m : Int) : ∀ (out : List Int) (j : Nat) (h : j < out.length), j < (out.takeWhile (fun x => decide (x < m))).length → out[j] < m
  | [], j, h, _ => by simp at h
  | a :: out, j, h, hj => by
    rw [List.takeWhile_cons] at hj
    by_cases c : a < m
    · simp only [c, decide_true, if_true, List.length_cons] at hj
      cases j with
      | zero => simpa using c
      | succ j => exact tw_lt m out j (by simpa using h) (by omega)
    · simp [c] at hj
theorem tw_ge (m : Int) : ∀ (out : List Int) (h : (out.takeWhile (fun x => decide (x < m))).length < out.length), ¬ out[(out.takeWhile (fun x => decide (x < m))).length] < m
  | [], h => by simp at h
  | a :: out, h => by
    by_cases c : a < m
    · have e : ((a :: out).takeWhile (fun x => decide (x < m))) = a :: out.takeWhile (fun x => decide (x < m)) := by rw [List.takeWhile_cons]; simp [c]
      have := tw_ge m out (by rw [e] at h; simpa using h)
      simpa [e] using this
    · have e : ((a :: out).takeWhile (fun x => decide (x < m))) = [] := by rw [List.takeWhile_cons]; simp [c]
      simpa [e] using c
theorem ins_at (out : List Int) (m : Int) : Pure.ins out m = out.take (out.takeWhile (fun x => decide (x < m))).length ++ [m] ++ out.drop (out.takeWhile (fun x => decide (x < m))).length := by
  have h : out.takeWhile (fun x => decide (x < m)) ++ out.dropWhile (fun x => decide (x < m)) = out := List.takeWhile_append_dropWhile
  obtain ⟨p, hp⟩ : ∃ p, p = out.takeWhile (fun x => decide (x < m)) := ⟨_, rfl⟩
  obtain ⟨q, hq⟩ : ∃ q, q = out.dropWhile (fun x => decide (x < m)) := ⟨_, rfl⟩
  unfold Pure.ins
  rw [← hp, ← hq]
  rw [← hp, ← hq] at h
  rw [← h, List.take_left, List.drop_left]

theorem in_false (a0 : Int) (h : ¬(0 ≤ a0 ∧ a0 ≤ 9999999)) : Aside0 (spec_l01In.f a0 0 9999999 = some false) := by
  constructor
  unfold spec_l01In.f
  by_cases c : a0 ≥ 0
  · rw [if_pos c, decide_eq_false (by omega)]
  · rw [if_neg c]
set_option maxHeartbeats 8000000 in
set_option maxRecDepth 100000 in
theorem spec_NearCodes.calls (a0 : Int) (r1 : List Int) (r2 : Int) (w : World) (h : spec_NearCodes.f a0 = some (r1, r2)) :
    Calls Try.prog 5 #[.int .i64 a0] w fun e w' => ∃ v0_ : Value, e = .returned (.tuple #[v0_, .int .i64 r2]) ∧ Kd.R (Kd.int .i64) 2 w' w.heap.size (fun _ => True) v0_ r1 ∧ Below w.heap.size w w' := by
  unfold spec_NearCodes.f at h
  by_cases hin : 0 ≤ a0 ∧ a0 ≤ 9999999
  case neg =>
    rw [if_neg hin] at h
    simp only [Option.some.injEq, Prod.mk.injEq] at h
    obtain ⟨rfl, rfl⟩ := h
    have HI := in_false a0 hin
    clear hin
    go_enter Try.func5, Try.ntmps5
    go_wp2_with (go_at_call 20; (with_reducible refine (spec_l01In.calls a0 0 9999999 false _ HI.out).mono ?_); rintro e w' ⟨rfl, ⟨nd, rfl⟩⟩)
    go_ret2
    exact ⟨_, rfl, Kd.R_nil _ _ _ _ _, pw_below_drewN (Below.refl _ _) _⟩
  case pos =>
    rw [if_pos hin] at h
    simp only [Option.some.injEq, Prod.mk.injEq] at h
    obtain ⟨hr1, rfl⟩ := h
    have HI : Aside0 (spec_l01In.f a0 0 9999999 = some true) := ⟨by unfold spec_l01In.f; rw [if_pos (by omega), decide_eq_true (by omega)]⟩
    obtain ⟨D, hD⟩ : ∃ D, D = digS a0 := ⟨_, rfl⟩
    have HD0 := Aside0.mk (show spec_l15Digits.f 9 a0 = some D by rw [hD]; exact (digS_eq a0).1)
    have HDL := Aside0.mk (show D.length = 7 by rw [hD]; exact (digS_eq a0).2)
    rw [← hD] at hr1
    have HR1 := Aside0.mk hr1
    clear hr1 hD hin
    obtain ⟨ii, hii, hi0, hi1, hi2⟩ := info_parts info2
    go_enter Try.func5, Try.ntmps5
    go_upto_region 4 with (first | (go_at_call 20; (with_reducible refine (spec_l01In.calls a0 0 9999999 true _ HI.out).mono ?_); rintro e w1 ⟨rfl, hd1⟩; have HB1 := Aside0.mk hd1.below; clear hd1) | (go_at_call 21; (with_reducible refine (spec_l15Digits.calls 9 a0 D _ HD0.out).mono ?_); rintro e w2 ⟨v15, rfl, hv, hb⟩; have HV := Aside0.mk hv; have HB2 := Aside0.mk (below_then HB1.out HB1.out.size hb); clear hb hv))
    obtain ⟨A4, c4, rfl, hc4, hCD⟩ := Kd.R_reads HV.out
    have HC4 := Aside0.mk hc4
    have HCD := Aside0.mk hCD
    clear hc4 hCD HV HB1
    go_wp2
    go_loopg [5, 6] 7 (fun kq v5 v6 w' => ∃ (i : Nat) (y : Int), v6 = .int .i64 y ∧ Aside0 (i + kq = 7) ∧ Aside0 (y = (i : Int)) ∧ Aside0 (Kd.R (Kd.int .i64) 2 w' w2.heap.size (fun _ => True) v5 (nearTo D a0 i)) ∧ Aside0 (Below w2.heap.size w2 w'))
    case atStart => exact ⟨0, 0, rfl, ⟨rfl⟩, ⟨rfl⟩, ⟨Kd.R_of_own (World.ownsRow_lit (base := w2.heap.size) (e := 2) (size := 1) w2 #[] 0 (Nat.le_refl _) (by simp [maxLen]) rfl) (fun _ _ => trivial)⟩, ⟨below_alloc (Below.refl _ _) _⟩⟩
    case round =>
      obtain ⟨i, y, rfl, HI7, HY, HO, HB⟩ := hrel
      cases gk with
      | zero =>
        have hcy : decide (y < (D.length : Int)) = false := decide_eq_false (by have := HI7.out; have := HY.out; have := HDL.out; omega)
        have HEQ : Aside0 (nearTo D a0 i = r1) := ⟨by rw [← HR1.out]; congr 1; have := HI7.out; omega⟩
        go_wp2
        go_ret2
        exact ⟨_, rfl, by rw [← HEQ.out]; exact Kd.R_lower HO.out HB2.out.size, below_then HB2.out HB2.out.size HB.out⟩
      | succ k1 =>
        have hcy : decide (y < (D.length : Int)) = true := decide_eq_true (by have := HI7.out; have := HY.out; have := HDL.out; omega)
        have HYS1 : Aside0 (wrap64 (y + 1) = ((i + 1 : Nat) : Int)) := ⟨by have := HY.out; have := HI7.out; unfold wrap64; omega⟩
        have py := eq_true (show 0 ≤ y by have := HY.out; omega)
        have qy := eq_true (show y < (D.length : Int) by have := HI7.out; have := HY.out; have := HDL.out; omega)
        go_wp2
        go_loopg [5, 7] 10 (fun kq v5 v7 w' => ∃ (d : Nat) (x : Int), v7 = .int .i64 x ∧ Aside0 (d + kq = 10) ∧ Aside0 (x = (d : Int)) ∧ Aside0 (Kd.R (Kd.int .i64) 2 w' w2.heap.size (fun _ => True) v5 (nearIn D a0 i (nearTo D a0 i) d)) ∧ Aside0 (Below w2.heap.size w2 w'))
        case atStart => exact ⟨0, 0, rfl, ⟨rfl⟩, ⟨rfl⟩, HO, HB⟩
        case round =>
          clear HO HB
          obtain ⟨d, x, rfl, HD10, HX, HO, HB⟩ := hrel
          cases gk with
          | zero =>
            have hcx : decide (x < 10) = false := decide_eq_false (by have := HD10.out; have := HX.out; omega)
            have HEQ : Aside0 (nearIn D a0 i (nearTo D a0 i) d = nearTo D a0 (i + 1)) := ⟨by simp only [nearTo]; congr 1; have := HD10.out; omega⟩
            go_wp2
            go_roundg k1
            case measure => exact Nat.lt_succ_self _
            case rel => exact ⟨i + 1, _, rfl, ⟨by have := HI7.out; omega⟩, HYS1, ⟨by rw [← HEQ.out]; exact HO.out⟩, HB⟩
          | succ k2 =>
            have hcx : decide (x < 10) = true := decide_eq_true (by have := HD10.out; have := HX.out; omega)
            have HXS1 : Aside0 (wrap64 (x + 1) = ((d + 1 : Nat) : Int)) := ⟨by have := HX.out; have := HD10.out; unfold wrap64; omega⟩
            have HD11 : Aside0 (d + 1 + k2 = 10) := ⟨by have := HD10.out; omega⟩
            obtain ⟨L, hL⟩ : ∃ L, L = nearIn D a0 i (nearTo D a0 i) d := ⟨_, rfl⟩
            have HLL : Aside0 (L.length ≤ 100) := ⟨by have h1 := nearIn_len D a0 i (nearTo D a0 i) d; have h2 := nearTo_len D a0 i; have := HI7.out; have := HD10.out; rw [← hL] at h1; omega⟩
            obtain ⟨m, hm⟩ : ∃ m, m = numS (D.set i (d : Int)) := ⟨_, rfl⟩
            have HST : Aside0 (nearIn D a0 i (nearTo D a0 i) (d + 1) = if m = a0 then L else if codeS m = true then Pure.ins L m else L) := ⟨by simp only [nearIn, nearOne]; rw [← hL, ← hm]⟩
            rw [← hL] at HO
            clear hL
            obtain ⟨A5, c5, rfl, hle, _⟩ := Kd.R_reads HO.out
            have HLE := Aside0.mk hle
            have HOWN0 : Aside0 (spec_l01Own.f D = some D) := ⟨own_all D (by have := HDL.out; omega)⟩
            obtain ⟨E, hE⟩ : ∃ E, E = D.set y.toNat x := ⟨_, rfl⟩
            have HEL : Aside0 (E.length = D.length) := ⟨by rw [hE]; simp⟩
            have HEN : Aside0 (spec_l15Number.f 9 E = some m) := ⟨by have h1 : y.toNat = i := by { have := HY.out; omega }; have h2 : E = D.set i (d : Int) := by { rw [hE, h1, HX.out] }; rw [hm, ← h2]; exact numS_eq E (by rw [HEL.out]; exact HDL.out)⟩
            have HE := Aside0.mk hE
            have HIC := Aside0.mk (codeS_eq m)
            clear hm hle hE
            go_upto_region 12 with (go_at_call 22; (with_reducible refine (spec_l01Own.calls A4 c4 D D _ ?side1 ?side2 HOWN0.out).mono ?_); (case side1 => exact (Kd.C_below HCD.out HB.out)); (case side2 => exact HC4.out); rintro e w5 ⟨v28, rfl, hv, hb⟩; have HV := Aside0.mk hv; have HB5 := Aside0.mk hb; clear hv hb)
            obtain ⟨go, co, eo, gb, gl, cl, HG⟩ := Kd.R_form HV.out (by have := HDL.out; omega)
            subst eo
            have GB := Aside0.mk gb
            clear gb gl HG
            obtain ⟨hx0, hf0⟩ := Kd.R_celln 0 HV.out y (of_eq_true py) (of_eq_true qy)
            have HP := Kd.R_putg HV.out y x
            go_upto_region 13 with ((with_reducible refine gate_store (t := 2) (p := 32) rfl ?_); refine store_event (t := 2) (p := 32) (v := ?vo_w8) (w1 := (w5.setCell ⟨go, (y : Int).toNat, none⟩ (.int .i64 x))) ?hg ?ho ?hn ?hr ?_; (case ho => rfl); (case hg => rfl); (case hn => rfl); (case hr => first | (go_simp; done) | (go_simp; rfl)); intro w8 hw; have HV8 := Aside0.mk (show Kd.R (Kd.int .i64) 2 w8 wr.heap.size (fun _ => True) (.slice (some ⟨go, 0, none⟩) D.length co) E from by rw [hw, HE.out]; exact HP.1); have HB8 := Aside0.mk (show Below wr.heap.size wr w8 from by rw [hw]; exact below_set HB5.out GB.out); clear hw HP hx0 hf0)
            have HNC : Aside0 (Calls Try.prog 23 #[.slice (some ⟨go, 0, none⟩) D.length co] w8 fun e w' => e = .returned (.int .i64 m) ∧ Drawn0 w8 w') := ⟨by have h1 := spec_l15Number.calls 9 (some ⟨go, 0, none⟩) co E m w8 (Kd.R_reads' HV8.out).2.2 (by have := (Kd.R_reads' HV8.out).2.1; have := HEL.out; omega) HEN.out; rwa [HEL.out] at h1⟩
            have HO8 := Aside0.mk (Kd.R_below HO.out HB8.out)
            have HB80 := Aside0.mk (below_then HB.out HB.out.size HB8.out)
            clear HO HB HB5 HV HV8 HB8 HE HEN
            by_cases c1 : m = a0
            · have c1b : (m == a0) = true := beq_iff_eq.mpr c1
              have HEQ : Aside0 (nearIn D a0 i (nearTo D a0 i) (d + 1) = L) := ⟨by rw [HST.out, if_pos c1]⟩
              clear c1
              go_wp2_with (go_at_call 23; (with_reducible refine HNC.out.mono ?_); rintro e w9 ⟨rfl, hd⟩; have HO9 := Aside0.mk (Kd.R_below HO8.out hd.below); have HB9 := Aside0.mk (below_then HB80.out HB80.out.size hd.below); clear hd)
              go_roundg k2
              case measure => exact Nat.lt_succ_self _
              case rel => exact ⟨d + 1, _, rfl, HD11, HXS1, ⟨by rw [HEQ.out]; exact HO9.out⟩, HB9⟩
            · have c1b : (m == a0) = false := beq_eq_false_iff_ne.mpr c1
              by_cases c2 : codeS m = true
              · have HEQ : Aside0 (nearIn D a0 i (nearTo D a0 i) (d + 1) = Pure.ins L m) := ⟨by rw [HST.out, if_neg c1, if_pos c2]⟩
                have HIC1 := Aside0.mk (show spec_IsCode.f m = some true by rw [HIC.out, c2])
                clear c1 c2
                go_upto_block 4 with (first
                  | (go_at_call 23; (with_reducible refine HNC.out.mono ?_); rintro e w9 ⟨rfl, hd⟩; have HO9 := Aside0.mk (Kd.R_below HO8.out hd.below); have HB9 := Aside0.mk (below_then HB80.out HB80.out.size hd.below); clear hd)
                  | (go_at_call 24; (with_reducible refine (spec_IsCode.calls m true _ HIC1.out).mono ?_); rintro e w10 ⟨rfl, hd⟩; have HO10 := Aside0.mk (Kd.R_below HO9.out hd.below); have HB10 := Aside0.mk (below_then HB9.out HB9.out.size hd.below); clear hd HO9 HB9))
                obtain ⟨at_, hat⟩ : ∃ at_, at_ = (L.takeWhile (fun x => decide (x < m))).length := ⟨_, rfl⟩
                have HATL : Aside0 (at_ ≤ L.length) := ⟨by rw [hat]; exact tw_le m L⟩
                have HAT := Aside0.mk hat
                clear hat
                have HCL := Aside0.mk (Kd.R_reads' HO10.out).2.2
                go_cut [10] (fun v10 wc => v10 = .int .i64 (at_ : Int) ∧ wc = w10)
                case first =>
                  go_wp2_with (fail)
                  go_loopg [10] at_ (fun kq v10 w' => ∃ (j : Nat) (z : Int), v10 = .int .i64 z ∧ Aside0 (j + kq = at_) ∧ Aside0 (z = (j : Int)) ∧ w' = w10)
                  case atStart => exact ⟨0, 0, rfl, ⟨by omega⟩, ⟨rfl⟩, rfl⟩
                  case round =>
                    obtain ⟨j, z, rfl, HJ, HZ, rfl⟩ := hrel
                    cases gk with
                    | zero =>
                      have HZA : Aside0 (z = (at_ : Int)) := ⟨by have := HJ.out; have := HZ.out; omega⟩
                      by_cases hlt : at_ < L.length
                      · have hz1 : decide (z < (L.length : Int)) = true := decide_eq_true (by have := HZA.out; omega)
                        obtain ⟨ad, hA, hc⟩ := Kd.at_int HCL.out z (by have := HZA.out; omega) (by have := HZA.out; omega)
                        subst hA
                        have pz := eq_true (show 0 ≤ z by have := HZA.out; omega)
                        have qz := eq_true (show z < (L.length : Int) by have := HZA.out; omega)
                        have hz2 : decide (rd L z < m) = false := decide_eq_false (by
                          have h1 := tw_ge m L (by rw [← HAT.out]; exact hlt)
                          rw [HZA.out]
                          unfold rd
                          simp only [Int.toNat_natCast, List.getD_eq_getElem?_getD, List.getElem?_eq_getElem hlt, Option.getD_some]
                          simpa only [← HAT.out] using h1)
                        clear hlt
                        go_wp2
                        go_meet
                        case rel => exact ⟨by rw [HZA.out], rfl⟩
                      · have hz1 : decide (z < (L.length : Int)) = false := decide_eq_false (by have := HZA.out; omega)
                        clear hlt
                        go_wp2
                        go_meet
                        case rel => exact ⟨by rw [HZA.out], rfl⟩
                    | succ k3 =>
                      have hlt : j < L.length := by have := HJ.out; have := HATL.out; omega
                      have hz1 : decide (z < (L.length : Int)) = true := decide_eq_true (by have := HZ.out; omega)
                      obtain ⟨ad, hA, hc⟩ := Kd.at_int HCL.out z (by have := HZ.out; omega) (by have := HZ.out; omega)
                      subst hA
                      have pz := eq_true (show 0 ≤ z by have := HZ.out; omega)
                      have qz := eq_true (show z < (L.length : Int) by have := HZ.out; omega)
                      have hz2 : decide (rd L z < m) = true := decide_eq_true (by
                        have h1 := tw_lt m L j hlt (by rw [← HAT.out]; have := HJ.out; omega)
                        rw [HZ.out]
                        unfold rd
                        simp only [Int.toNat_natCast, List.getD_eq_getElem?_getD, List.getElem?_eq_getElem hlt, Option.getD_some]
                        exact h1)
                      have HZS : Aside0 (wrap64 (z + 1) = ((j + 1 : Nat) : Int)) := ⟨by have := HZ.out; have := HLL.out; unfold wrap64; omega⟩
                      clear hlt
                      go_wp2
                      go_roundg k3
                      case measure => exact Nat.lt_succ_self _
                      case rel => exact ⟨j + 1, _, rfl, ⟨by have := HJ.out; omega⟩, HZS, rfl⟩
                case rest =>
                  obtain ⟨rfl, rfl⟩ := hcut
                  have c2 : 0 ≤ (at_ : Int) := by omega
                  have c3 : (at_ : Int) ≤ (L.length : Int) := by have := HATL.out; omega
                  obtain ⟨ys, hys⟩ : ∃ ys, ys = L.take at_ := ⟨_, rfl⟩
                  obtain ⟨zs, hzs⟩ : ∃ zs, zs = L.drop at_ := ⟨_, rfl⟩
                  have hly : ys.length = at_ := by rw [hys, List.length_take]; omega
                  have hlz : zs.length = L.length - at_ := by rw [hzs, List.length_drop]
                  have HINS : Aside0 (Pure.ins L m = ys ++ [m] ++ zs) := ⟨by rw [ins_at, ← HAT.out, hys, hzs]⟩
                  have htake : ∀ W : World, (Instr.slice 22 (.slice A5 L.length c5) none (some (.int .i64 (at_ : Int))) none).run Try.prog W = .ok (.slice A5 ys.length c5) W := by
                    rw [hly]
                    have h1 := @cut_to Try.prog 22 2 .i64 _ Try.underlying22 hii A5 L.length c5 (at_ : Int) c2 c3 HLE.out
                    simpa only [Int.toNat_natCast] using h1
                  obtain ⟨A', hA'⟩ : ∃ A', A' = (if c5 = at_ then A5 else A5.map (·.add (at_ * 1))) := ⟨_, rfl⟩
                  have hdrop : ∀ W : World, (Instr.slice 22 (.slice A5 L.length c5) (some (.int .i64 (at_ : Int))) none none).run Try.prog W = .ok (.slice A' zs.length (c5 - at_)) W := by
                    rw [hlz, hA']
                    have h1 := @cut_from Try.prog 22 2 .i64 _ Try.underlying22 hii 1 hi1 A5 L.length c5 (at_ : Int) c2 c3
                    simpa only [Int.toNat_natCast] using h1
                  have HYC : Aside0 (ys.length ≤ c5) := ⟨by have := HLE.out; omega⟩
                  have HLY : Aside0 (ys.length < 8796093022207) := ⟨by have := HLL.out; omega⟩
                  have HLZ : Aside0 (zs.length < 8796093022207) := ⟨by have := HLL.out; omega⟩
                  have HOWN := Aside0.mk (own_all ys HLY.out)
                  have HYS : Aside0 (Kd.C (Kd.int .i64) wc.drew A5 ys.length ys) := ⟨by rw [hys]; have h1 := Kd.C_take (Kd.C_drew HCL.out) HATL.out; exact h1⟩
                  have HZS : Aside0 (Kd.C (Kd.int .i64) wc.drew A' zs.length zs) := ⟨by rw [hzs, hA']; have h1 := Kd.C_drop (Kd.C_drew HCL.out) HATL.out HLE.out; exact h1⟩
                  have HB6 : Aside0 (Below w2.heap.size w2 wc.drew) := ⟨below_drew1 HB10.out⟩
                  clear hys hzs hly hlz hA' c2 c3
                  go_wp2
                  refine start_ (n := 12) (S := fun w' => True) (ds := []) #[false, false, false, false, false, false, false, false, false, false, false, false] (by kernel_rfl) rfl rfl trivial (fun hHeld => ?_)
                  generalize wc.drew = w6 at HB6 HYS HZS ⊢
                  refine pure_ (i := 0) (N := some 57) (v := ?_) (a' := ?_) #[true, false, false, false, false, false, false, false, false, false, false, false] rfl rfl (by kernel_rfl) (fun _ _ _ h => h) (Or.inl ⟨by rfl, ?_⟩) ?_ ?_
                  rotate_left
                  · intro w'
                    go_simp
                    with_reducible rfl
                  rotate_left
                  · simp only [Act.put, List.setIfInBounds_toArray, List.set_cons_zero, List.set_cons_succ, i64_w, i32_w]
                    rfl
                  refine pure_ (i := 1) (N := some 58) (v := ?_) (a' := ?_) #[true, true, false, false, false, false, false, false, false, false, false, false] rfl rfl (by kernel_rfl) (fun _ _ _ h => h) (Or.inl ⟨by rfl, ?_⟩) ?_ ?_
                  rotate_left
                  · intro w'
                    go_simp
                    with_reducible rfl
                  rotate_left
                  · simp only [Act.put, List.setIfInBounds_toArray, List.set_cons_zero, List.set_cons_succ, i64_w, i32_w]
                    rfl
                  refine pure_ (i := 2) (N := some 59) (v := ?_) (a' := ?_) #[true, true, true, false, false, false, false, false, false, false, false, false] rfl rfl (by kernel_rfl) (fun _ _ _ h => h) (Or.inl ⟨by rfl, ?_⟩) ?_ ?_
                  rotate_left
                  · intro w'
                    go_simp
                    with_reducible rfl
                  rotate_left
                  · simp only [Act.put, List.setIfInBounds_toArray, List.set_cons_zero, List.set_cons_succ, i64_w, i32_w]
                    rfl
                  refine pure_ (i := 4) (N := some 61) (v := ?_) (a' := ?_) #[true, true, true, false, true, false, false, false, false, false, false, false] rfl rfl (by kernel_rfl) (fun _ _ _ h => h) (Or.inl ⟨by rfl, ?_⟩) ?_ ?_
                  rotate_left
                  · intro w'
                    go_simp
                    with_reducible rfl
                  rotate_left
                  · simp only [Act.put, List.setIfInBounds_toArray, List.set_cons_zero, List.set_cons_succ, i64_w, i32_w]
                    rfl
                  refine pure_ (i := 7) (N := some 64) (v := ?_) (a' := ?_) #[true, true, true, false, true, false, false, true, false, false, false, false] rfl rfl (by kernel_rfl) (fun _ _ _ h => h) (Or.inl ⟨by rfl, ?_⟩) ?_ ?_
                  rotate_left
                  · intro w'
                    go_simp
                    with_reducible rfl
                  rotate_left
                  · simp only [Act.put, List.setIfInBounds_toArray, List.set_cons_zero, List.set_cons_succ, i64_w, i32_w]
                    rfl
                  refine pure_ (i := 8) (N := some 65) (v := ?_) (a' := ?_) #[true, true, true, false, true, false, false, true, true, false, false, false] rfl rfl (by kernel_rfl) (fun _ _ _ h => h) (Or.inl ⟨by rfl, ?_⟩) ?_ ?_
                  rotate_left
                  · intro w'
                    go_simp
                    with_reducible rfl
                  rotate_left
                  · simp only [Act.put, List.setIfInBounds_toArray, List.set_cons_zero, List.set_cons_succ, i64_w, i32_w]
                    rfl
                  refine pure_ (i := 9) (N := some 66) (v := ?_) (a' := ?_) #[true, true, true, false, true, false, false, true, true, true, false, false] rfl rfl (by kernel_rfl) (fun _ _ _ h => h) (Or.inl ⟨by rfl, ?_⟩) ?_ ?_
                  rotate_left
                  · intro w'
                    go_simp
                    with_reducible rfl
                  rotate_left
                  · simp only [Act.put, List.setIfInBounds_toArray, List.set_cons_zero, List.set_cons_succ, i64_w, i32_w]
                    rfl
                  refine join_ (σ := Value × Nat) 3 #[true, true, true, true, true, true, false, true, true, true, false, false] (fun s => [(60, s.1), (62, .slice (some ⟨s.2, 0, none⟩) 1 1)]) (fun s w' => Kd.R (Kd.int .i64) 2 w' w6.heap.size (fun _ => True) s.1 ys ∧ w'.heap[s.2]? = some (.cells #[.int .i64 m] 2 (0, 0)) ∧ some s.2 ≠ s.1.ownBlock ∧ w6.heap.size ≤ s.2 ∧ Below w6.heap.size w6 w') ?_ ?_
                  rotate_left
                  · intro hCont
                    refine two_ (i := 3) (j := 5) (Ni := some 60) (Nj := some 62) #[true, true, true, true, true, false, false, true, true, true, false, false] #[true, true, true, false, true, true, false, true, true, true, false, false] rfl rfl rfl rfl (by kernel_rfl) (by decide) (by decide) (fun K hK => ?_) (fun K hK => ?_)
                    · skip
                      refine goes_ Try.func22 (by kernel_rfl) rfl #[.slice A5 ys.length c5] (by rfl) rfl rfl (by simp only [List.map_toArray, List.map_cons, List.map_nil]; rfl) ?_
                      with_reducible refine (spec_l01Own.calls _ _ ys ys _ ?side1 ?side2 HOWN.out).mono ?_
                      case side1 => exact HYS.out
                      case side2 => exact HYC.out
                      rintro e w71 ⟨v60, rfl, hv, hb⟩
                      refine ⟨_, rfl, ?_⟩
                      refine hK.out _ _ trivial (fun hHeld => ?_)
                      clear hK K
                      refine norm_ (a' := ?_) ?_ ?_
                      rotate_left
                      · show Act.put _ (some 60) _ = _
                        simp only [Act.put, List.setIfInBounds_toArray, List.set_cons_zero, List.set_cons_succ, i64_w, i32_w]
                        rfl
                      refine one_ (i := 5) (N := some 62) #[true, true, true, true, true, true, false, true, true, true, false, false] rfl rfl (by kernel_rfl) (by decide) (fun K hK => ?_)
                      refine value_ (w1 := ?_) (v := ?_) (by rfl) rfl ?_ ?_
                      rotate_left 2
                      · go_simp
                        constructor
                        · rfl
                        · rfl
                      refine hK.out _ _ trivial (fun hHeld => ?_)
                      clear hK K
                      refine norm_ (a' := ?_) ?_ ?_
                      rotate_left
                      · show Act.put _ (some 62) _ = _
                        simp only [Act.put, List.setIfInBounds_toArray, List.set_cons_zero, List.set_cons_succ, i64_w, i32_w]
                        rfl
                      exact norm_ (by simp only [putAll, Act.put, List.setIfInBounds_toArray, List.set_cons_zero, List.set_cons_succ]) (hCont ⟨v60, w71.heap.size⟩ _ ⟨Kd.R_alloc hv _, blk_new _ _, fun e_ => by have := (Kd.R_bound hv).1 _ e_.symm; omega, hb.size, below_alloc hb _⟩)
                    · skip
                      refine value_ (w1 := ?_) (v := ?_) (by rfl) rfl ?_ ?_
                      rotate_left 2
                      · go_simp
                        constructor
                        · rfl
                        · rfl
                      refine hK.out _ _ trivial (fun hHeld => ?_)
                      clear hK K
                      refine norm_ (a' := ?_) ?_ ?_
                      rotate_left
                      · show Act.put _ (some 62) _ = _
                        simp only [Act.put, List.setIfInBounds_toArray, List.set_cons_zero, List.set_cons_succ, i64_w, i32_w]
                        rfl
                      refine one_ (i := 3) (N := some 60) #[true, true, true, true, true, true, false, true, true, true, false, false] rfl rfl (by kernel_rfl) (by decide) (fun K hK => ?_)
                      refine goes_ Try.func22 (by kernel_rfl) rfl #[.slice A5 ys.length c5] (by rfl) rfl rfl (by simp only [List.map_toArray, List.map_cons, List.map_nil]; rfl) ?_
                      with_reducible refine (spec_l01Own.calls _ _ ys ys _ ?side1 ?side2 HOWN.out).mono ?_
                      case side1 => exact Kd.C_alloc HYS.out _
                      case side2 => exact HYC.out
                      rintro e w72 ⟨v60, rfl, hv, hb⟩
                      refine ⟨_, rfl, ?_⟩
                      refine hK.out _ _ trivial (fun hHeld => ?_)
                      clear hK K
                      refine norm_ (a' := ?_) ?_ ?_
                      rotate_left
                      · show Act.put _ (some 60) _ = _
                        simp only [Act.put, List.setIfInBounds_toArray, List.set_cons_zero, List.set_cons_succ, i64_w, i32_w]
                        rfl
                      exact norm_ (by simp only [putAll, Act.put, List.setIfInBounds_toArray, List.set_cons_zero, List.set_cons_succ]) (hCont ⟨v60, w6.heap.size⟩ _ ⟨Kd.R_lower hv (by simp), blk_below (blk_new _ _) hb, fun e_ => by have := (Kd.R_bound hv).1 _ e_.symm; simp at this; omega, Nat.le_refl _, below_then (below_alloc (Below.refl _ _) _) (by simp) hb⟩)
                  rintro ⟨v60, b62⟩ w7 ⟨hv, hb, hne, hge, hB7⟩
                  have hHeld : True := trivial
                  refine norm_ (a' := ?_) ?_ ?_
                  rotate_left
                  · simp only [putAll, Act.put, List.setIfInBounds_toArray, List.set_cons_zero, List.set_cons_succ]
                    rfl
                  refine one_ (i := 6) (N := some 63) #[true, true, true, true, true, true, true, true, true, true, false, false] rfl rfl (by kernel_rfl) (by decide) (fun K hK => ?_)
                  refine Kd.R_append_rows_step (Kd.int .i64) (w0 := w6) w6.heap.size (by rfl) (.tmp 60) (.tmp 62) 22 2 (.int .i64 0) 8 rfl Try.underlying22 info2 rfl (by decide) (by omega) v60 ys [m] _ _ _ (fun _ => True) (fun _ => False) rfl rfl ?aO ?aR (fun _ _ h => h) (fun _ h => h.elim) ?aF ?aB ?aS ?aL ?_
                  case aO => exact hv
                  case aR => exact (Kd.C_of_reads (enc := Value.int .i64) (d := (0 : Int)) (h1 := fun _ => rfl) (xs := [m]) ⟨rfl, by simp, fun _ => ⟨_, rfl, fun j hj => by obtain rfl : j = 0 := (by omega); exact (by simpa [Addr.add] using (blk_cell hb 0))⟩⟩)
                  case aF => exact fun _ _ => trivial
                  case aB => exact hB7
                  case aS => exact hB7.size
                  case aL => have := HLY.out; have := HLZ.out; simp; omega
                  intro v63 w8 hv8 hB8 _ _
                  refine hK.out _ _ trivial (fun hHeld => ?_)
                  clear hK K
                  refine norm_ (a' := ?_) ?_ ?_
                  rotate_left
                  · show Act.put _ (some 63) _ = _
                    simp only [Act.put, List.setIfInBounds_toArray, List.set_cons_zero, List.set_cons_succ, i64_w, i32_w]
                    rfl
                  refine one_ (i := 10) (N := some 67) #[true, true, true, true, true, true, true, true, true, true, true, false] rfl rfl (by kernel_rfl) (by decide) (fun K hK => ?_)
                  refine Kd.R_append_rows_step (Kd.int .i64) (w0 := w6) w6.heap.size (by rfl) (.tmp 63) (.tmp 66) 22 2 (.int .i64 0) 8 rfl Try.underlying22 info2 rfl (by decide) (by omega) v63 (ys ++ [m]) zs _ _ _ (fun _ => True) (fun _ => False) rfl rfl ?aO ?aR (fun _ _ h => h) (fun _ h => h.elim) ?aF ?aB ?aS ?aL ?_
                  case aO => exact hv8
                  case aR => exact (Kd.C_below HZS.out hB8)
                  case aF => exact fun _ _ => trivial
                  case aB => exact hB8
                  case aS => exact hB8.size
                  case aL => have := HLY.out; have := HLZ.out; simp; omega
                  intro v67 w9 hv9 hB9 _ _
                  refine hK.out _ _ trivial (fun hHeld => ?_)
                  clear hK K
                  refine norm_ (a' := ?_) ?_ ?_
                  rotate_left
                  · show Act.put _ (some 67) _ = _
                    simp only [Act.put, List.setIfInBounds_toArray, List.set_cons_zero, List.set_cons_succ, i64_w, i32_w]
                    rfl
                  refine pure_ (i := 11) (N := some 5) (v := ?_) (a' := ?_) #[true, true, true, true, true, true, true, true, true, true, true, true] rfl rfl (by kernel_rfl) (fun _ _ _ h => h) (Or.inl ⟨by rfl, ?_⟩) ?_ ?_
                  rotate_left
                  · intro w'
                    go_simp
                    with_reducible rfl
                  rotate_left
                  · simp only [Act.put, List.setIfInBounds_toArray, List.set_cons_zero, List.set_cons_succ, i64_w, i32_w]
                    rfl
                  refine done_ (by kernel_rfl) ?_
                  go_wp2
                  go_roundg k2
                  case measure => exact Nat.lt_succ_self _
                  case rel => exact ⟨d + 1, _, rfl, HD11, HXS1, ⟨by rw [HEQ.out, HINS.out]; exact Kd.R_lower hv9 HB6.out.size⟩, ⟨below_then HB6.out HB6.out.size hB9⟩⟩
              · have HEQ : Aside0 (nearIn D a0 i (nearTo D a0 i) (d + 1) = L) := ⟨by rw [HST.out, if_neg c1, if_neg c2]⟩
                have HIC1 := Aside0.mk (show spec_IsCode.f m = some false by rw [HIC.out]; simpa using c2)
                clear c1 c2
                go_wp2_with (first
                  | (go_at_call 23; (with_reducible refine HNC.out.mono ?_); rintro e w9 ⟨rfl, hd⟩; have HO9 := Aside0.mk (Kd.R_below HO8.out hd.below); have HB9 := Aside0.mk (below_then HB80.out HB80.out.size hd.below); clear hd)
                  | (go_at_call 24; (with_reducible refine (spec_IsCode.calls m false _ HIC1.out).mono ?_); rintro e w10 ⟨rfl, hd⟩; have HO10 := Aside0.mk (Kd.R_below HO9.out hd.below); have HB10 := Aside0.mk (below_then HB9.out HB9.out.size hd.below); clear hd HO9 HB9))
                go_roundg k2
                case measure => exact Nat.lt_succ_self _
                case rel => exact ⟨d + 1, _, rfl, HD11, HXS1, ⟨by rw [HEQ.out]; exact HO10.out⟩, HB10⟩
end Go.Proofs.Ytlicooehcladcaa.X
