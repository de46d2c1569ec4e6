/- impl.valuesOf walked: the table of the best values, filled in an array. Conditions: sides at most 40. -/
import Derived.Test.YtkakdklakoplhaaEKinds
import Derived.Test.YtkakdklakoplhaaPureTab
namespace Go.Proofs.Ytkakdklakoplhaa.X
open Go.RowKit Go.Proofs.YtkakdklakoplhaaW.PrintWords Go.Proofs.YtkakdklakoplhaaW.PrintLast Go.Proofs.YtkakdklakoplhaaW.PrintMore
set_option linter.unusedVariables false
set_option linter.unusedSimpArgs false

/-- What the array's cells hold behind w full columns and h cells of the next. -/
def TabAt (W : World) (g : Nat) (V : Nat → Nat → Int) : Prop := ∀ x y, x ≤ 40 → y ≤ 40 → W.cell? ⟨g, x * 41 + y, none⟩ = some (.int .i64 (V x y)) ∧ W.frozen? ⟨g, x * 41 + y, none⟩ = false
def vUpto (l : List S35) (H w h : Nat) (x y : Nat) : Int := if 1 ≤ y ∧ y ≤ H ∧ (x < w ∨ x = w ∧ y < h) then tab l x y else 0

theorem TabAt.below {W W' : World} {g : Nat} {V : Nat → Nat → Int} (h : TabAt W g V) (hb : Below W.heap.size W W') : TabAt W' g V := fun x y hx hy => by
  obtain ⟨h1, h2⟩ := h x y hx hy
  refine ⟨pw_cell_below hb h1, ?_⟩
  have hlt := World.block_lt_of_cell? W _ h1
  have e := hb.block g hlt
  simpa [World.frozen?, e] using h2
theorem TabAt.alloc {W : World} {g : Nat} {V : Nat → Nat → Int} (h : TabAt W g V) (o : Obj) : TabAt (W.alloc o) g V := h.below (below_alloc (Below.refl _ _) o)
theorem TabAt.drewN {W : World} {g : Nat} {V : Nat → Nat → Int} (h : TabAt W g V) (n : Nat) : TabAt (W.drewN n) g V := h
theorem TabAt.at_ {W : World} {g : Nat} {V : Nat → Nat → Int} (h : TabAt W g V) (x y : Int) (hx : 0 ≤ x ∧ x ≤ 40) (hy : 0 ≤ y ∧ y ≤ 40) {v : Int} (hv : V x.toNat y.toNat = v) : W.cell? ⟨g, x.toNat * 41 + y.toNat, none⟩ = some (.int .i64 v) := by
  rw [← hv]
  exact (h x.toNat y.toNat (by omega) (by omega)).1
theorem TabAt.put {W : World} {g : Nat} {l : List S35} {M a b : Nat} (h : TabAt W g (vUpto l M a b)) (hb1 : 1 ≤ b) (hbM : b ≤ M) (ha : a ≤ 40) (hb : b ≤ 40) : TabAt (W.setCell ⟨g, a * 41 + b, none⟩ (.int .i64 (tab l a b))) g (vUpto l M a (b + 1)) := fun x y hx hy => by
  obtain ⟨h1, h2⟩ := h x y hx hy
  refine ⟨?_, by rw [World.frozen?_setCell]; exact h2⟩
  by_cases c : x = a ∧ y = b
  · obtain ⟨rfl, rfl⟩ := c
    have e : vUpto l M x (y + 1) x y = tab l x y := by unfold vUpto; rw [if_pos (by omega)]
    rw [e]
    exact (by apply World.cell?_setCell_same; exact h1)
  · have e : vUpto l M a (b + 1) x y = vUpto l M a b x y := by
      unfold vUpto
      by_cases c2 : 1 ≤ y ∧ y ≤ M ∧ (x < a ∨ x = a ∧ y < b)
      · rw [if_pos c2, if_pos (by omega)]
      · rw [if_neg c2, if_neg (by omega)]
    rw [e, ← h1]
    apply World.cell?_setCell_other
    intro he
    injection he with _ he _
    omega
theorem vUpto_done (l : List S35) (H w h x y : Nat) (hy : 1 ≤ y ∧ y ≤ H) (hx : x < w ∨ x = w ∧ y < h) : vUpto l H w h x y = tab l x y := by
  unfold vUpto
  rw [if_pos ⟨hy.1, hy.2, hx⟩]
theorem xTo_next (T : Nat → Nat → Int) (w h : Nat) (b : Int) (c : Nat) (hc : 1 ≤ c) : xTo T w h b c = mx (xTo T w h b (c - 1)) (wrap64 (T c h + T (w - c) h)) := by
  obtain ⟨n, rfl⟩ : ∃ n, c = n + 1 := ⟨c - 1, by omega⟩
  rfl
theorem yTo_next (T : Nat → Nat → Int) (w h : Nat) (b : Int) (c : Nat) (hc : 1 ≤ c) : yTo T w h b c = mx (yTo T w h b (c - 1)) (wrap64 (T w c + T w (h - c))) := by
  obtain ⟨n, rfl⟩ : ∃ n, c = n + 1 := ⟨c - 1, by omega⟩
  rfl
def bigZ : Array Value := Array.replicate 1681 (.int .i64 0)
theorem bigZ_zero (w : World) : Sem.run Try.prog (zeroValue 46) w = .ok (.agg bigZ) w := by kernel_rfl

set_option maxHeartbeats 8000000 in
set_option maxRecDepth 100000 in
theorem impl_valuesOf.calls (wide high : Int) (A2 : Option Addr) (c2 : Nat) (l2 : List S35) (w : World) (hr2 : Kd.C k35 w A2 l2.length l2) (hc2 : l2.length ≤ c2) (hw : 0 ≤ wide ∧ wide ≤ 40) (hh : 0 ≤ high ∧ high ≤ 40) (hl : l2.length ≤ 100) :
    Calls Try.prog 13 #[.int .i64 wide, .int .i64 high, .slice A2 l2.length c2] w fun e w' => ∃ g, e = .returned (.pointer (some ⟨g, 0, none⟩)) ∧ w.heap.size ≤ g ∧ TabAt w' g (vUpto l2 high.toNat (wide.toNat + 1) 0) ∧ Below w.heap.size w w' := by
  have hu := Try.underlying35
  have HR := Aside0.mk hr2
  have HC := Aside0.mk hc2
  have HLL := Aside0.mk hl
  obtain ⟨N, hN⟩ : ∃ N, N = wide.toNat := ⟨_, rfl⟩
  obtain ⟨M, hM⟩ : ∃ M, M = high.toNat := ⟨_, rfl⟩
  rw [← hN, ← hM]
  have HN : Aside0 (wide = (N : Int) ∧ N ≤ 40) := ⟨by omega⟩
  have HM : Aside0 (high = (M : Int) ∧ M ≤ 40) := ⟨by omega⟩
  clear hr2 hc2 hl hw hh hN hM
  have hbz := bigZ_zero
  go_enter Try.func13, Try.ntmps13
  go_upto_region 2 with (fail)
  obtain ⟨W1, hW1⟩ : ∃ W1, W1 = w.alloc (Obj.cells bigZ 46) := ⟨_, rfl⟩
  have HB1 : Aside0 (Below w.heap.size w W1) := ⟨by rw [hW1]; exact below_alloc (Below.refl _ _) _⟩
  have HT1 : Aside0 (TabAt W1 w.heap.size (vUpto l2 M 1 0)) := ⟨by
    intro x y hx hy
    have h0 : vUpto l2 M 1 0 x y = 0 := by
      unfold vUpto
      split
      · rename_i h
        exact tab_zero l2 x y (by omega)
      · rfl
    rw [h0, hW1]
    have hb := blk_new w (Obj.cells bigZ 46)
    exact ⟨by rw [blk_cell hb]; unfold bigZ; rw [Array.getElem?_replicate, if_pos (by omega)], blk_frozen hb _⟩⟩
  have HG : Aside0 (w.heap.size ≤ w.heap.size) := ⟨Nat.le_refl _⟩
  rw [← hW1]
  clear hW1 hbz
  obtain ⟨g, hg⟩ : ∃ g, g = w.heap.size := ⟨_, rfl⟩
  rw [← hg] at HT1 ⊢
  have HGW : Aside0 (w.heap.size ≤ g) := ⟨by omega⟩
  clear hg HG
  go_wp2
  go_loopg [8] N (fun kq v8 w' => ∃ (a : Nat) (x : Int), v8 = .int .i64 x ∧ Aside0 (a + kq = N + 1) ∧ Aside0 (x = (a : Int)) ∧ Aside0 (1 ≤ a) ∧ Aside0 (TabAt w' g (vUpto l2 M a 0)) ∧ Aside0 (Below w.heap.size w w'))
  case atStart => exact ⟨1, 1, rfl, ⟨by omega⟩, ⟨rfl⟩, ⟨Nat.le_refl _⟩, HT1, HB1⟩
  case round =>
    clear HT1 HB1
    obtain ⟨a, x, rfl, HA, HX, HA1, HT, HB⟩ := hrel
    cases gk with
    | zero =>
      have hcx : decide (x ≤ wide) = false := decide_eq_false (by have := HA.out; have := HX.out; have := HN.out; omega)
      have HEQ : Aside0 (a = N + 1) := ⟨by have := HA.out; omega⟩
      go_wp2
      go_ret
      exact ⟨g, rfl, HGW.out, by rw [← HEQ.out]; exact HT.out, HB.out⟩
    | succ k1 =>
      have hcx : decide (x ≤ wide) = true := decide_eq_true (by have := HA.out; have := HX.out; have := HN.out; omega)
      have HXS : Aside0 (wrap64 (x + 1) = ((a + 1 : Nat) : Int)) := ⟨by have := HA.out; have := HX.out; have := HN.out; unfold wrap64; omega⟩
      have HA40 : Aside0 (a ≤ 40) := ⟨by have := HA.out; have := HN.out; omega⟩
      go_wp2
      go_loopg [9] M (fun kq v9 w' => ∃ (b : Nat) (y : Int), v9 = .int .i64 y ∧ Aside0 (b + kq = M + 1) ∧ Aside0 (y = (b : Int)) ∧ Aside0 (1 ≤ b) ∧ Aside0 (TabAt w' g (vUpto l2 M a b)) ∧ Aside0 (Below w.heap.size w w'))
      case atStart => exact ⟨1, 1, rfl, ⟨by omega⟩, ⟨rfl⟩, ⟨Nat.le_refl _⟩, ⟨by
        have e : vUpto l2 M a 1 = vUpto l2 M a 0 := by
          funext p q
          unfold vUpto
          by_cases c : 1 ≤ q ∧ q ≤ M ∧ (p < a ∨ p = a ∧ q < 0)
          · rw [if_pos c, if_pos (by omega)]
          · rw [if_neg c, if_neg (by omega)]
        rw [e]; exact HT.out⟩, HB⟩
      case round =>
        clear HT HB
        obtain ⟨b, y, rfl, HBK, HY, HB1, HT, HB⟩ := hrel
        cases gk with
        | zero =>
          have hcy : decide (y ≤ high) = false := decide_eq_false (by have := HBK.out; have := HY.out; have := HM.out; omega)
          have HEQ : Aside0 (vUpto l2 M a b = vUpto l2 M (a + 1) 0) := ⟨by
            have hb : b = M + 1 := by have := HBK.out; omega
            funext p q
            unfold vUpto
            by_cases c : 1 ≤ q ∧ q ≤ M ∧ (p < a ∨ p = a ∧ q < b)
            · rw [if_pos c, if_pos (by omega)]
            · rw [if_neg c, if_neg (by omega)]⟩
          go_wp2
          go_roundg k1
          case measure => exact Nat.lt_succ_self _
          case rel => exact ⟨a + 1, _, rfl, ⟨by have := HA.out; omega⟩, HXS, ⟨Nat.le_add_left 1 a⟩, ⟨by rw [← HEQ.out]; exact HT.out⟩, HB⟩
        | succ k2 =>
          have hcy : decide (y ≤ high) = true := decide_eq_true (by have := HBK.out; have := HY.out; have := HM.out; omega)
          have HYS : Aside0 (wrap64 (y + 1) = ((b + 1 : Nat) : Int)) := ⟨by have := HBK.out; have := HY.out; have := HM.out; unfold wrap64; omega⟩
          have HB40 : Aside0 (b ≤ M) := ⟨by have := HBK.out; omega⟩
          obtain ⟨V, hV⟩ : ∃ V, V = vUpto l2 M a b := ⟨_, rfl⟩
          rw [← hV] at HT
          have HV := Aside0.mk hV
          clear hV
          go_wp2
          go_loopg [10, 29] l2.length (fun kq v10 v29 w' => ∃ (i : Nat) (z best : Int), v10 = .int .i64 best ∧ v29 = .int .i64 z ∧ Aside0 (i + kq = l2.length) ∧ Aside0 (z = (i : Int)) ∧ Aside0 (best = kTo l2 x y i) ∧ Aside0 (TabAt w' g V) ∧ Aside0 (Below w.heap.size w w'))
          case atStart => exact ⟨0, 0, 0, rfl, rfl, ⟨Nat.zero_add _⟩, ⟨rfl⟩, ⟨rfl⟩, HT, HB⟩
          case round =>
            clear HT HB
            obtain ⟨i, z, best, rfl, rfl, HI, HZ, HBE, HT, HB⟩ := hrel
            cases gk with
            | succ k3 =>
              have hcz : decide (z < (l2.length : Int)) = true := decide_eq_true (by have := HI.out; have := HZ.out; omega)
              have HZS : Aside0 (wrap64 (z + 1) = ((i + 1 : Nat) : Int)) := ⟨by have := HI.out; have := HZ.out; have := HLL.out; unfold wrap64; omega⟩
              have pz := eq_true (show 0 ≤ z by have := HZ.out; omega)
              have qz := eq_true (show z < (l2.length : Int) by have := HI.out; have := HZ.out; omega)
              obtain ⟨ad, hA2, hz0, hz1, hz2⟩ := at_T35 (Kd.C_below HR.out HB.out) z (of_eq_true pz) (of_eq_true qz)
              obtain ⟨kk, hkk⟩ : ∃ kk, kk = rd_T35 l2 z := ⟨_, rfl⟩
              rw [← hkk] at hz0 hz1 hz2
              have HKK : Aside0 (rd_T35 l2 (i : Int) = kk) := ⟨by rw [hkk, HZ.out]⟩
              have HA2 := Aside0.mk hA2
              subst hA2
              clear hkk
              by_cases f1 : kk.f0 ≤ x
              · have f1b := decide_eq_true f1
                by_cases f2 : kk.f1 ≤ y
                · have f2b := decide_eq_true f2
                  obtain ⟨mm, hmm⟩ : ∃ mm, (if best < kk.f2 then kk.f2 else best) = mm := ⟨_, rfl⟩
                  have HK1 : Aside0 (mm = kTo l2 x y (i + 1)) := ⟨by simp only [kTo]; rw [HKK.out, if_pos ⟨f1, f2⟩, ← HBE.out, ← hmm]; rfl⟩
                  clear f1 f2
                  go_wp2
                  clear hmm
                  go_roundg k3
                  case measure => exact Nat.lt_succ_self _
                  case rel => exact ⟨i + 1, _, mm, rfl, rfl, ⟨by have := HI.out; omega⟩, HZS, HK1, ⟨HT.out.alloc _⟩, ⟨below_alloc HB.out _⟩⟩
                · have f2b := decide_eq_false f2
                  have HK1 : Aside0 (best = kTo l2 x y (i + 1)) := ⟨by simp only [kTo]; rw [HKK.out, if_neg (fun h => f2 h.2), ← HBE.out]⟩
                  clear f1 f2
                  go_wp2
                  go_roundg k3
                  case measure => exact Nat.lt_succ_self _
                  case rel => exact ⟨i + 1, _, best, rfl, rfl, ⟨by have := HI.out; omega⟩, HZS, HK1, ⟨HT.out.alloc _⟩, ⟨below_alloc HB.out _⟩⟩
              · have f1b := decide_eq_false f1
                have HK1 : Aside0 (best = kTo l2 x y (i + 1)) := ⟨by simp only [kTo]; rw [HKK.out, if_neg (fun h => f1 h.1), ← HBE.out]⟩
                clear f1
                go_wp2
                go_roundg k3
                case measure => exact Nat.lt_succ_self _
                case rel => exact ⟨i + 1, _, best, rfl, rfl, ⟨by have := HI.out; omega⟩, HZS, HK1, ⟨HT.out.alloc _⟩, ⟨below_alloc HB.out _⟩⟩
            | zero =>
              have hcz : decide (z < (l2.length : Int)) = false := decide_eq_false (by have := HI.out; have := HZ.out; omega)
              have HK0 : Aside0 (best = kTo l2 (a : Int) (b : Int) l2.length) := ⟨by rw [HBE.out, HX.out, HY.out]; congr 1; have := HI.out; omega⟩
              obtain ⟨K0, hK0⟩ : ∃ K0, K0 = kTo l2 (a : Int) (b : Int) l2.length := ⟨_, rfl⟩
              have HKK0 := Aside0.mk hK0
              rw [← hK0] at HK0
              clear hK0 HBE
              go_wp2
              go_loopg [10, 13] (a - 1) (fun kq v10 v13 w' => ∃ (c : Nat) (z best : Int), v10 = .int .i64 best ∧ v13 = .int .i64 z ∧ Aside0 (c + kq = a) ∧ Aside0 (z = (c : Int)) ∧ Aside0 (1 ≤ c) ∧ Aside0 (best = xTo (tab l2) a b K0 (c - 1)) ∧ Aside0 (TabAt w' g V) ∧ Aside0 (Below w.heap.size w w'))
              case atStart => exact ⟨1, 1, best, rfl, rfl, ⟨by have := HA1.out; omega⟩, ⟨rfl⟩, ⟨Nat.le_refl _⟩, ⟨by rw [HK0.out]; rfl⟩, HT, HB⟩
              case round =>
                clear HT HB HK0
                obtain ⟨c, z, best, rfl, rfl, HCK, HZ, HC1, HBE, HT, HB⟩ := hrel
                cases gk with
                | succ k4 =>
                  have hcz : decide (z < x) = true := decide_eq_true (by have := HCK.out; have := HZ.out; have := HX.out; omega)
                  have HZS : Aside0 (wrap64 (z + 1) = ((c + 1 : Nat) : Int)) := ⟨by have := HCK.out; have := HZ.out; have := HA40.out; unfold wrap64; omega⟩
                  have hsub : wrap64 (x - z) = ((a - c : Nat) : Int) := by have := HCK.out; have := HZ.out; have := HX.out; have := HA40.out; unfold wrap64; omega
                  obtain ⟨p, hp⟩ : ∃ p : Int, p = ((a - c : Nat) : Int) := ⟨_, rfl⟩
                  rw [← hp] at hsub
                  go_upto_region 18 with (fail)
                  have z0 := eq_true (show 0 ≤ z by have := HZ.out; omega)
                  have z1 := eq_true (show z < 41 by have := HCK.out; have := HZ.out; have := HA40.out; omega)
                  have y0 := eq_true (show 0 ≤ y by have := HY.out; omega)
                  have y1 := eq_true (show y < 41 by have := HY.out; have := HB40.out; have := HM.out; omega)
                  have p0 := eq_true (show 0 ≤ p by omega)
                  have p1 := eq_true (show p < 41 by have := HCK.out; have := HA40.out; omega)
                  obtain ⟨t1, ht1⟩ : ∃ t1, V z.toNat y.toNat = t1 := ⟨_, rfl⟩
                  obtain ⟨t2, ht2⟩ : ∃ t2, V p.toNat y.toNat = t2 := ⟨_, rfl⟩
                  have hc1 := HT.out.at_ z y ⟨of_eq_true z0, by have := of_eq_true z1; omega⟩ ⟨of_eq_true y0, by have := of_eq_true y1; omega⟩ ht1
                  have hc2 := HT.out.at_ p y ⟨of_eq_true p0, by have := of_eq_true p1; omega⟩ ⟨of_eq_true y0, by have := of_eq_true y1; omega⟩ ht2
                  obtain ⟨s, hs⟩ : ∃ s, wrap64 (t1 + t2) = s := ⟨_, rfl⟩
                  obtain ⟨mm, hmm⟩ : ∃ mm, (if best < s then s else best) = mm := ⟨_, rfl⟩
                  have HK1 : Aside0 (mm = xTo (tab l2) a b K0 (c + 1 - 1)) := ⟨by
                    rw [show c + 1 - 1 = c by omega, xTo_next _ _ _ _ c HC1.out, ← HBE.out, ← hmm, ← hs, ← ht1, ← ht2, HV.out]
                    have e1 : z.toNat = c := by have := HZ.out; omega
                    have e2 : y.toNat = b := by have := HY.out; omega
                    have e3 : p.toNat = a - c := by omega
                    have := HC1.out
                    have := HCK.out
                    have := HB1.out
                    have := HB40.out
                    rw [e1, e2, e3, vUpto_done l2 M a b c b (by omega) (by omega), vUpto_done l2 M a b (a - c) b (by omega) (by omega)]
                    rfl⟩
                  clear ht1 ht2 hp
                  go_quiet (fail)
                  go_wp2
                  clear hs hmm hsub hc1 hc2
                  go_roundg k4
                  case measure => exact Nat.lt_succ_self _
                  case rel => exact ⟨c + 1, _, mm, rfl, rfl, ⟨by have := HCK.out; omega⟩, HZS, ⟨Nat.le_add_left 1 c⟩, HK1, ⟨HT.out.drewN _⟩, ⟨pw_below_drewN HB.out _⟩⟩
                | zero =>
                  have hcz : decide (z < x) = false := decide_eq_false (by have := HCK.out; have := HZ.out; have := HX.out; omega)
                  obtain ⟨X0, hX0⟩ : ∃ X0, X0 = xTo (tab l2) a b K0 (a - 1) := ⟨_, rfl⟩
                  have HX0 : Aside0 (best = X0) := ⟨by rw [HBE.out, hX0]; congr 2; have := HCK.out; omega⟩
                  have HXX0 := Aside0.mk hX0
                  clear hX0 HBE
                  go_wp2
                  go_loopg [10, 14] (b - 1) (fun kq v10 v14 w' => ∃ (c : Nat) (z best : Int), v10 = .int .i64 best ∧ v14 = .int .i64 z ∧ Aside0 (c + kq = b) ∧ Aside0 (z = (c : Int)) ∧ Aside0 (1 ≤ c) ∧ Aside0 (best = yTo (tab l2) a b X0 (c - 1)) ∧ Aside0 (TabAt w' g V) ∧ Aside0 (Below w.heap.size w w'))
                  case atStart => exact ⟨1, 1, best, rfl, rfl, ⟨by have := HB1.out; omega⟩, ⟨rfl⟩, ⟨Nat.le_refl _⟩, ⟨by rw [HX0.out]; rfl⟩, HT, HB⟩
                  case round =>
                    clear HT HB HX0
                    obtain ⟨c, z, best, rfl, rfl, HCK, HZ, HC1, HBE, HT, HB⟩ := hrel
                    cases gk with
                    | succ k5 =>
                      have hcz : decide (z < y) = true := decide_eq_true (by have := HCK.out; have := HZ.out; have := HY.out; omega)
                      have HZS : Aside0 (wrap64 (z + 1) = ((c + 1 : Nat) : Int)) := ⟨by have := HCK.out; have := HZ.out; have := HB40.out; have := HM.out; unfold wrap64; omega⟩
                      have hsub : wrap64 (y - z) = ((b - c : Nat) : Int) := by have := HCK.out; have := HZ.out; have := HY.out; have := HB40.out; have := HM.out; unfold wrap64; omega
                      obtain ⟨p, hp⟩ : ∃ p : Int, p = ((b - c : Nat) : Int) := ⟨_, rfl⟩
                      rw [← hp] at hsub
                      go_upto_region 22 with (fail)
                      have z0 := eq_true (show 0 ≤ z by have := HZ.out; omega)
                      have z1 := eq_true (show z < 41 by have := HCK.out; have := HZ.out; have := HB40.out; have := HM.out; omega)
                      have x0 := eq_true (show 0 ≤ x by have := HX.out; omega)
                      have x1 := eq_true (show x < 41 by have := HX.out; have := HA40.out; omega)
                      have p0 := eq_true (show 0 ≤ p by omega)
                      have p1 := eq_true (show p < 41 by have := HCK.out; have := HB40.out; have := HM.out; omega)
                      obtain ⟨t1, ht1⟩ : ∃ t1, V x.toNat z.toNat = t1 := ⟨_, rfl⟩
                      obtain ⟨t2, ht2⟩ : ∃ t2, V x.toNat p.toNat = t2 := ⟨_, rfl⟩
                      have hc1 := HT.out.at_ x z ⟨of_eq_true x0, by have := of_eq_true x1; omega⟩ ⟨of_eq_true z0, by have := of_eq_true z1; omega⟩ ht1
                      have hc2 := HT.out.at_ x p ⟨of_eq_true x0, by have := of_eq_true x1; omega⟩ ⟨of_eq_true p0, by have := of_eq_true p1; omega⟩ ht2
                      obtain ⟨s, hs⟩ : ∃ s, wrap64 (t1 + t2) = s := ⟨_, rfl⟩
                      obtain ⟨mm, hmm⟩ : ∃ mm, (if best < s then s else best) = mm := ⟨_, rfl⟩
                      have HK1 : Aside0 (mm = yTo (tab l2) a b X0 (c + 1 - 1)) := ⟨by
                        rw [show c + 1 - 1 = c by omega, yTo_next _ _ _ _ c HC1.out, ← HBE.out, ← hmm, ← hs, ← ht1, ← ht2, HV.out]
                        have e1 : z.toNat = c := by have := HZ.out; omega
                        have e2 : x.toNat = a := by have := HX.out; omega
                        have e3 : p.toNat = b - c := by omega
                        have := HC1.out
                        have := HCK.out
                        have := HB40.out
                        rw [e1, e2, e3, vUpto_done l2 M a b a c (by omega) (by omega), vUpto_done l2 M a b a (b - c) (by omega) (by omega)]
                        rfl⟩
                      clear ht1 ht2 hp
                      go_quiet (fail)
                      go_wp2
                      clear hs hmm hsub hc1 hc2
                      go_roundg k5
                      case measure => exact Nat.lt_succ_self _
                      case rel => exact ⟨c + 1, _, mm, rfl, rfl, ⟨by have := HCK.out; omega⟩, HZS, ⟨Nat.le_add_left 1 c⟩, HK1, ⟨HT.out.drewN _⟩, ⟨pw_below_drewN HB.out _⟩⟩
                    | zero =>
                      have hcz : decide (z < y) = false := decide_eq_false (by have := HCK.out; have := HZ.out; have := HY.out; omega)
                      have HVAL : Aside0 (best = tab l2 a b) := ⟨by
                        rw [tab_eq l2 a b HA1.out HB1.out]
                        unfold cellOf
                        rw [← HKK0.out, ← HXX0.out, HBE.out]
                        congr 1
                        have := HCK.out
                        omega⟩
                      have x0 := eq_true (show 0 ≤ x by have := HX.out; omega)
                      have x1 := eq_true (show x < 41 by have := HX.out; have := HA40.out; omega)
                      have y0 := eq_true (show 0 ≤ y by have := HY.out; omega)
                      have y1 := eq_true (show y < 41 by have := HY.out; have := HB40.out; have := HM.out; omega)
                      have hold := HT.out x.toNat y.toNat (by have := HX.out; have := HA40.out; omega) (by have := HY.out; have := HB40.out; have := HM.out; omega)
                      obtain ⟨hold1, hold2⟩ := hold
                      have HTN : Aside0 (∀ W' : World, W' = wr.setCell ⟨g, x.toNat * 41 + y.toNat, none⟩ (.int .i64 best) → TabAt W' g (vUpto l2 M a (b + 1))) := ⟨fun W' hW' => by
                        have hT := HT.out
                        rw [HV.out] at hT
                        have e1 : x.toNat = a := by have := HX.out; omega
                        have e2 : y.toNat = b := by have := HY.out; omega
                        rw [hW', e1, e2, HVAL.out]
                        exact hT.put HB1.out HB40.out HA40.out (by have h1_ := HM.out; have h2_ := HB40.out; omega)⟩
                      have HGE : Aside0 (w.heap.size ≤ g) := ⟨HGW.out⟩
                      go_wp2_with ((with_reducible refine gate_store (t := 2) (p := 102) rfl ?_); refine store_event (t := 2) (p := 102) (v := ?vo_w8) (w1 := (wr.setCell ⟨g, x.toNat * 41 + y.toNat, none⟩ (.int .i64 best))) ?hg ?ho ?hn ?hr ?_; (case ho => rfl); (case hg => rfl); (case hn => rfl); (case hr => first | (go_simp; done) | (go_simp; rfl)); intro w8 hw; have HT8 := Aside0.mk (HTN.out w8 hw); have HB8 := Aside0.mk (show Below w.heap.size w w8 from by rw [hw]; exact below_set HB.out HGE.out); clear hw)
                      clear hold1 hold2
                      go_roundg k2
                      case measure => exact Nat.lt_succ_self _
                      case rel => exact ⟨b + 1, _, rfl, ⟨by have := HBK.out; omega⟩, HYS, ⟨Nat.le_add_left 1 b⟩, HT8, HB8⟩
end Go.Proofs.Ytkakdklakoplhaa.X
