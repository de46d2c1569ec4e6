/- impl.NearCodes walked: the codes that differ in one digit are collected and sorted by the library. No conditions. -/
import Derived.Test.YtlicooehcladcaaX2
import Derived.Test.YtlicooehcladcaaX2
import Derived.Test.YtlicooehcladcaaESort
namespace Go.Proofs.Ytlicooehcladcaa.X
open Go.RowKit Go.Sort Go.Proofs.YtlicooehcladcaaW.PrintWords Go.Proofs.YtlicooehcladcaaW.PrintLast Go.Proofs.YtlicooehcladcaaW.PrintMore
set_option linter.unusedVariables false
set_option linter.unusedSimpArgs false

def codeI (m : Int) : Bool := (impl_IsCode.f m).getD false
theorem codeI_eq (m : Int) : impl_IsCode.f m = some (codeI m) := by
  have : ∃ r, impl_IsCode.f m = some r := by
    unfold impl_IsCode.f impl_inRange.f
    repeat' (first | split | (simp only [Option.bind_some]; done) | (exact ⟨_, rfl⟩) | simp only [Option.bind_some])
  obtain ⟨r, hr⟩ := this
  unfold codeI
  rw [hr]
  rfl
def dgI (n p : Int) : Int := Int.tmod (wrap64 (Int.tdiv n p)) 10
def mI (n p d : Int) : Int := wrap64 (n + wrap64 (wrap64 (d - dgI n p) * p))
def candOne (n p : Int) (d : Nat) (out : List Int) : List Int := if (d : Int) = dgI n p then out else if codeI (mI n p d) = true then out ++ [mI n p d] else out
def candIn (n p : Int) (out : List Int) : Nat → List Int
  | 0 => out
  | d + 1 => candOne n p d (candIn n p out d)
def candTo (n : Int) : Nat → List Int
  | 0 => []
  | j + 1 => candIn n ((10 ^ j : Nat) : Int) (candTo n j) 10
theorem candIn_len (n p : Int) (out : List Int) : ∀ d, (candIn n p out d).length ≤ out.length + d
  | 0 => Nat.le_refl _
  | d + 1 => by
    have := candIn_len n p out d
    simp only [candIn, candOne]
    split
    · omega
    · split
      · simp; omega
      · omega
theorem candTo_len (n : Int) : ∀ j, (candTo n j).length ≤ 10 * j
  | 0 => Nat.le_refl _
  | j + 1 => by
    have := candTo_len n j
    have := candIn_len n ((10 ^ j : Nat) : Int) (candTo n j) 10
    simp only [candTo]
    omega
def impl_NearCodes.f (a0 : Int) : Option (List Int × Int) := if 0 ≤ a0 ∧ a0 ≤ 9999999 then some ((candTo a0 7).mergeSort (fun x y => decide (x ≤ y)), 0) else some ([], 2)
theorem pow_facts : ∀ j : Nat, j ≤ 7 → 1 ≤ (10 ^ j : Nat) ∧ (10 ^ j : Nat) ≤ 10000000 ∧ ((10 ^ j : Nat) < 10000000 ↔ j < 7) ∧ 10 * 10 ^ j = (10 ^ (j + 1) : Nat) := by decide
theorem ir_false (a0 : Int) (h : ¬(0 ≤ a0 ∧ a0 ≤ 9999999)) : Aside0 (impl_inRange.f a0 0 9999999 = some false) := by
  constructor
  unfold impl_inRange.f
  by_cases c : 0 ≤ a0
  · rw [if_pos c, decide_eq_false (by omega)]
  · rw [if_neg c]

set_option maxHeartbeats 8000000 in
set_option maxRecDepth 100000 in
theorem impl_NearCodes.calls (a0 : Int) (r1 : List Int) (r2 : Int) (w : World) (h : impl_NearCodes.f a0 = some (r1, r2)) :
    Calls Try.prog 6 #[.int .i64 a0] w fun e w' => ∃ v0_ : Value, e = .returned (.tuple #[v0_, .int .i64 r2]) ∧ Kd.R (Kd.int .i64) 2 w' w.heap.size (fun _ => True) v0_ r1 ∧ Below w.heap.size w w' := by
  unfold impl_NearCodes.f at h
  by_cases hin : 0 ≤ a0 ∧ a0 ≤ 9999999
  case neg =>
    rw [if_neg hin] at h
    simp only [Option.some.injEq, Prod.mk.injEq] at h
    obtain ⟨rfl, rfl⟩ := h
    have HI := ir_false a0 hin
    clear hin
    go_enter Try.func6, Try.ntmps6
    go_wp2_with (go_at_call 25; (with_reducible refine (impl_inRange.calls a0 0 9999999 false _ HI.out).mono ?_); rintro e w' ⟨rfl, ⟨nd, rfl⟩⟩)
    go_ret2
    exact ⟨_, rfl, Kd.R_nil _ _ _ _ _, pw_below_drewN (Below.refl _ _) _⟩
  case pos =>
    rw [if_pos hin] at h
    simp only [Option.some.injEq, Prod.mk.injEq] at h
    obtain ⟨hr1, rfl⟩ := h
    have HI : Aside0 (impl_inRange.f a0 0 9999999 = some true) := ⟨by unfold impl_inRange.f; rw [if_pos hin.1, decide_eq_true hin.2]⟩
    have HR1 := Aside0.mk hr1
    clear hr1 hin
    go_enter Try.func6, Try.ntmps6
    go_upto_region 3 with (go_at_call 25; (with_reducible refine (impl_inRange.calls a0 0 9999999 true _ HI.out).mono ?_); rintro e w2 ⟨rfl, hd⟩; have HB2 := Aside0.mk hd.below; clear hd)
    go_wp2
    go_loopg [4, 5] 7 (fun kq v4 v5 w' => ∃ (j : Nat) (p : Int), v5 = .int .i64 p ∧ Aside0 (j + kq = 7) ∧ Aside0 (p = ((10 ^ j : Nat) : Int)) ∧ Aside0 (Kd.R (Kd.int .i64) 2 w' w2.heap.size (fun _ => True) v4 (candTo a0 j)) ∧ Aside0 (Below w2.heap.size w2 w'))
    case atStart => exact ⟨0, 1, rfl, ⟨rfl⟩, ⟨rfl⟩, ⟨Kd.R_of_own (World.ownsRow_lit (base := w2.heap.size) (e := 2) (size := 1) w2 #[] 0 (Nat.le_refl _) (by simp [maxLen]) rfl) (fun _ _ => trivial)⟩, ⟨below_alloc (Below.refl _ _) _⟩⟩
    case round =>
      obtain ⟨j, p, rfl, HJ, HP, HO, HB⟩ := hrel
      have HPF := Aside0.mk (pow_facts j (by have := HJ.out; omega))
      cases gk with
      | zero =>
        have hcp : decide (p < 10000000) = false := decide_eq_false (by have := HJ.out; have := HP.out; have := HPF.out.2.2.1; omega)
        have HEQ : Aside0 ((candTo a0 j).mergeSort (fun x y => decide (x ≤ y)) = r1) := ⟨by rw [← HR1.out]; congr 2; have := HJ.out; omega⟩
        have HLL : Aside0 ((candTo a0 j).length ≤ 100) := ⟨by have h1 := candTo_len a0 j; have := HJ.out; omega⟩
        obtain ⟨xs, hxs⟩ : ∃ xs, xs = candTo a0 j := ⟨_, rfl⟩
        rw [← hxs] at HEQ HLL HO
        have hown := Kd.own_of_R HO.out
        clear hxs
        rcases hown.2 with ⟨hnil, hx0⟩ | ⟨g, cap, cur, hv, hbase, hb, h1, h2, h3, h4⟩
        · subst hnil
          have hxe : xs = [] := by have := hown.1; simpa [encs] using hx0
          subst hxe
          clear hown hx0
          go_wp2_with (go_at_call 26; (with_reducible refine (sort_none _ _ _).mono ?_); rintro e w5 ⟨rfl, rfl⟩)
          go_ret2
          exact ⟨_, rfl, by rw [← HEQ.out, List.mergeSort_nil]; exact Kd.R_nil _ _ _ _ _, below_then HB2.out HB2.out.size HB.out⟩
        · subst hv
          have HH := Aside0.mk (holds_of_blockI (ss := xs) hb (by simpa [encs] using h4))
          have HG := Aside0.mk (show g < wr.heap.size from blk_lt hb)
          have hts : (xs.mergeSort (fun x y => decide (x ≤ y))).length = xs.length := List.length_mergeSort xs
          have HOWN : Aside0 (∀ n os, (grow (putRow (Value.int .i64) (Sort.ahead wr n) g 0 (xs.mergeSort fun x y => decide (x ≤ y)).toArray) os).ownsRow w2.heap.size 2 1 (.slice (some ⟨g, 0, none⟩) xs.length cap) xs.length ((xs.mergeSort fun x y => decide (x ≤ y)).map (Value.int .i64))) := ⟨fun n os => ownsRow_sortedI hts hbase hb h1 h2 h3⟩
          have HBASE := Aside0.mk hbase
          clear hown hb h1 h2 h3 h4 hbase
          go_wp2_with (go_at_call 26; (with_reducible refine (sort_ints g 0 cap xs wr HH.out HG.out (by have := HLL.out; omega)).mono ?_); rintro e w5 ⟨rfl, n, os, rfl⟩)
          go_ret2
          refine ⟨_, rfl, ?_, below_then HB2.out HB2.out.size (HB.out.grown (grownBy_sortedI _) HB.out.size (fun k_ hk_ => by cases hk_; exact HBASE.out))⟩
          have h5 := HOWN.out n os
          rw [← hts] at h5 ⊢
          rw [← HEQ.out]
          exact Kd.R_lower (Kd.R_of_own h5 (fun _ _ => trivial)) HB2.out.size
      | succ k1 =>
        have hcp : decide (p < 10000000) = true := decide_eq_true (by have := HJ.out; have := HP.out; have := HPF.out.2.2.1; omega)
        have hp0 : ¬ p = 0 := by have := HP.out; have := HPF.out.1; omega
        have HPS1 : Aside0 (wrap64 (p * 10) = ((10 ^ (j + 1) : Nat) : Int)) := ⟨by rw [← HPF.out.2.2.2]; have := HP.out; have := HPF.out.2.1; have := HPF.out.1; rw [HP.out]; unfold wrap64; omega⟩
        have HPP : Aside0 (∀ out : List Int, candIn a0 p out 10 = candIn a0 ((10 ^ j : Nat) : Int) out 10) := ⟨fun out => by rw [HP.out]⟩
        obtain ⟨g, hg⟩ : ∃ g, Int.tmod (wrap64 (Int.tdiv a0 p)) 10 = g := ⟨_, rfl⟩
        have HG0 : Aside0 (dgI a0 p = g) := ⟨hg⟩
        go_wp2
        clear hg
        go_loopg [4, 21] 10 (fun kq v4 v21 w' => ∃ (d : Nat) (x : Int), v21 = .int .i64 x ∧ Aside0 (d + kq = 10) ∧ Aside0 (x = (d : Int)) ∧ Aside0 (Kd.R (Kd.int .i64) 2 w' w2.heap.size (fun _ => True) v4 (candIn a0 p (candTo a0 j) d)) ∧ Aside0 (Below w2.heap.size w2 w'))
        case atStart => exact ⟨0, 0, rfl, ⟨rfl⟩, ⟨rfl⟩, HO, HB⟩
        case round =>
          clear HO HB
          obtain ⟨d, x, rfl, HD10, HX, HO, HB⟩ := hrel
          cases gk with
          | zero =>
            have hcx : decide (x < 10) = false := decide_eq_false (by have := HD10.out; have := HX.out; omega)
            have HEQ : Aside0 (candIn a0 p (candTo a0 j) d = candTo a0 (j + 1)) := ⟨by simp only [candTo]; rw [← HPP.out]; congr 1; have := HD10.out; omega⟩
            go_wp2
            go_roundg k1
            case measure => exact Nat.lt_succ_self _
            case rel => exact ⟨j + 1, _, rfl, ⟨by have := HJ.out; omega⟩, HPS1, ⟨by rw [← HEQ.out]; exact HO.out⟩, HB⟩
          | succ k2 =>
            have hcx : decide (x < 10) = true := decide_eq_true (by have := HD10.out; have := HX.out; omega)
            have HXS1 : Aside0 (wrap64 (x + 1) = ((d + 1 : Nat) : Int)) := ⟨by have := HX.out; have := HD10.out; unfold wrap64; omega⟩
            have HD11 : Aside0 (d + 1 + k2 = 10) := ⟨by have := HD10.out; omega⟩
            obtain ⟨L, hL⟩ : ∃ L, L = candIn a0 p (candTo a0 j) d := ⟨_, rfl⟩
            have HLL : Aside0 (L.length ≤ 100) := ⟨by have h1 := candIn_len a0 p (candTo a0 j) d; have h2 := candTo_len a0 j; have := HJ.out; have := HD10.out; rw [← hL] at h1; omega⟩
            obtain ⟨m, hm⟩ : ∃ m, wrap64 (a0 + wrap64 (wrap64 (x - g) * p)) = m := ⟨_, rfl⟩
            have HMM : Aside0 (mI a0 p (d : Int) = m) := ⟨by unfold mI; rw [HG0.out, ← HX.out]; exact hm⟩
            have HST : Aside0 (candIn a0 p (candTo a0 j) (d + 1) = if x = g then L else if codeI m = true then L ++ [m] else L) := ⟨by simp only [candIn, candOne]; rw [← hL, HG0.out, HMM.out, HX.out]⟩
            rw [← hL] at HO
            have HIC := Aside0.mk (codeI_eq m)
            clear hL
            by_cases c1 : x = g
            · have c1b : (x != g) = false := bne_eq_false_iff_eq.mpr c1
              have HEQ : Aside0 (candIn a0 p (candTo a0 j) (d + 1) = L) := ⟨by rw [HST.out, if_pos c1]⟩
              clear c1
              go_wp2
              clear hm
              go_roundg k2
              case measure => exact Nat.lt_succ_self _
              case rel => exact ⟨d + 1, _, rfl, HD11, HXS1, ⟨by rw [HEQ.out]; exact HO.out⟩, HB⟩
            · have c1b : (x != g) = true := bne_iff_ne.mpr c1
              by_cases c2 : codeI m = true
              · have HEQ : Aside0 (candIn a0 p (candTo a0 j) (d + 1) = L ++ [m]) := ⟨by rw [HST.out, if_neg c1, if_pos c2]⟩
                have HIC1 := Aside0.mk (show impl_IsCode.f m = some true by rw [HIC.out, c2])
                clear c1 c2
                go_wp2_with (first
                  | (go_at_call 19; (with_reducible refine (impl_IsCode.calls m true _ HIC1.out).mono ?_); rintro e w5 ⟨rfl, hd⟩; have HO5 := Aside0.mk (Kd.R_below HO.out hd.below); have HB5 := Aside0.mk (below_then HB.out HB.out.size hd.below); clear hd)
                  | ((with_reducible refine gate_builtin (b := .append) (xs := #[.tmp 38, .tmp 40]) rfl ?_); at_builtin; refine Kd.R_append (Kd.int .i64) (w0 := w2) w2.heap.size rfl (.tmp 38) (.tmp 40) 22 2 (.int .i64 0) 8 rfl Try.underlying22 info2 rfl (by decide) (by omega) u4 L m [.int .i64 m] (fun _ => True) (fun _ => False) rfl rfl ?aP (fun _ hk => hk.elim) ?aF ?aO ?aB ?aS ?aL ?_; (case aP => exact rfl); (case aF => exact fun _ _ => trivial); (case aO => exact (by (with_reducible repeat (first | apply Kd.R_alloc | apply Kd.R_drewN | apply Kd.R_drew)); exact HO5.out)); (case aB => exact (by repeat (first | (with_reducible first | exact HB5.out | apply below_alloc | apply pw_below_drewN | apply below_drew1) | exact HB5.out))); (case aS => exact HB5.out.size); (case aL => have := HLL.out; omega); intro v373 w9 ho hb hg hat; have HO9 := Aside0.mk ho; have HB9 := Aside0.mk hb; clear ho hb hg hat))
                clear hm
                go_roundg k2
                case measure => exact Nat.lt_succ_self _
                case rel => exact ⟨d + 1, _, rfl, HD11, HXS1, ⟨by rw [HEQ.out]; exact HO9.out⟩, HB9⟩
              · have HEQ : Aside0 (candIn a0 p (candTo a0 j) (d + 1) = L) := ⟨by rw [HST.out, if_neg c1, if_neg c2]⟩
                have HIC1 := Aside0.mk (show impl_IsCode.f m = some false by rw [HIC.out]; simpa using c2)
                clear c1 c2
                go_wp2_with (go_at_call 19; (with_reducible refine (impl_IsCode.calls m false _ HIC1.out).mono ?_); rintro e w5 ⟨rfl, hd⟩; have HO5 := Aside0.mk (Kd.R_below HO.out hd.below); have HB5 := Aside0.mk (below_then HB.out HB.out.size hd.below); clear hd)
                clear hm
                go_roundg k2
                case measure => exact Nat.lt_succ_self _
                case rel => exact ⟨d + 1, _, rfl, HD11, HXS1, ⟨by rw [HEQ.out]; exact HO5.out⟩, HB5⟩
end Go.Proofs.Ytlicooehcladcaa.X
