/- laws.markInt64SS walked: the rows of a list of lists of the call's own are marked in place. No conditions. -/
import Derived.Test.YthfegojffgblmaaX7
namespace Go.Proofs.Ythfegojffgblmaa.X
open Go.RowKit Go.Proofs.YthfegojffgblmaaW.PrintWords Go.Proofs.YthfegojffgblmaaW.PrintLast Go.Proofs.YthfegojffgblmaaW.PrintMore
set_option linter.unusedVariables false
set_option linter.unusedSimpArgs false

def laws_markInt64SS.l0 : Nat → List (List Int) → Int → Int → Option (Int × List (List Int))
  | 0, _, _, _ => none
  | k + 1, x0, x1, x5 => if x5 < (x0.length : Int) then (if 0 ≤ x5 then ((laws_markInt64S.f k (x0.getD x5.toNat []) x1).bind fun t => laws_markInt64SS.l0 k (x0.set x5.toNat t.2) t.1 (wrap64 (x5 + 1))) else none) else some (x1, x0)
def laws_markInt64SS.f (k : Nat) (l0 : List (List Int)) (a1 : Int) : Option (Int × List (List Int)) := laws_markInt64SS.l0 k l0 a1 0
theorem laws_markInt64SS.mono_l : ∀ k x0 x1 x5, LeO (laws_markInt64SS.l0 k x0 x1 x5) (laws_markInt64SS.l0 (k + 1) x0 x1 x5)
  | 0, x0, x1, x5 => fun r h => by simp [laws_markInt64SS.l0] at h
  | k + 1, x0, x1, x5 => by
    have ih := laws_markInt64SS.mono_l k
    unfold laws_markInt64SS.l0
    exact LeO.ite (LeO.ite (LeO.bind (laws_markInt64S.mono _ _ _) fun _ => ih _ _ _) (LeO.refl _)) (LeO.refl _)
theorem laws_markInt64SS.mono : ∀ a0 a1 k, LeO (laws_markInt64SS.f k a0 a1) (laws_markInt64SS.f (k + 1) a0 a1) := fun a0 a1 k => laws_markInt64SS.mono_l k a0 a1 0
/-- A row of the list is lent to a call that writes it. -/
theorem S_lent {e g n cap : Nat} {W : World} {base : Nat} {ok : Nat → Prop} {xs : List (List Int)} (h : Kd.S (Kd.slice 2 (Kd.int .i64)) e W base ok (.slice (some ⟨g, 0, none⟩) n cap) xs) (i : Int) (h0 : 0 ≤ i) (h1 : i < n) :
    ∃ (oki : Nat → Prop) (v : Value), Kd.R (Kd.int .i64) 2 W base oki v (xs.getD i.toNat []) ∧ W.cell? ⟨g, i.toNat, none⟩ = some v ∧ (∀ k, oki k → ok k) ∧
      ∀ (W1 : World) (ok1 : Nat → Prop) (ys : List Int), Kd.R (Kd.int .i64) 2 W1 base ok1 v ys → Kept W W1 oki → Kd.S (Kd.slice 2 (Kd.int .i64)) e W1 base ok (.slice (some ⟨g, 0, none⟩) n cap) (xs.set i.toNat ys) := by
  obtain ⟨oki, c, hcl, hM, hcc, hoki, hH⟩ := Kd.S_lend h [] i h0 h1
  obtain ⟨v, rfl, hR⟩ := hM
  refine ⟨oki, v, hR, ?_, fun k hk => (hoki k hk).1, fun W1 ok1 ys hR1 hk => ?_⟩
  · have := hcc 0 v rfl
    simpa [Kd.slice] using this
  · have h3 := Kd.H_kept hH hk (fun k _ hn hs => hn hs)
    exact Kd.H_back h3 (x' := ys) (okp := fun k => some k = v.ownBlock) ⟨v, rfl, Kd.R_tight rfl hR1⟩ (fun k hk => hR.1 k hk.symm)

set_option maxHeartbeats 8000000 in
set_option maxRecDepth 100000 in
theorem laws_markInt64SS.calls (k : Nat) (P0_ : Nat → Prop) (u9000_ : Value) (l0 : List (List Int)) (a1 : Int) (r1 : Int) (r2 : List (List Int)) (w0 w : World) (hB : Below w0.heap.size w0 w) (ho0 : Kd.S (Kd.slice 2 (Kd.int .i64)) 22 w w0.heap.size P0_ u9000_ l0) (h : laws_markInt64SS.f k l0 a1 = some (r1, r2)) :
    Calls Try.prog 24 #[u9000_, .int .i64 a1] w fun e w' => e = .returned (.int .i64 r1) ∧ Kd.S (Kd.slice 2 (Kd.int .i64)) 22 w' w0.heap.size P0_ u9000_ r2 ∧ Below w0.heap.size w0 w' ∧ Kept w w' (fun k_ => P0_ k_) := by
  have HO0 := Aside0.mk ho0
  have HK := Aside0.mk (Kept.refl w (fun k_ => P0_ k_))
  have HB := Aside0.mk hB
  have H' := Aside0.mk (show laws_markInt64SS.l0 k l0 a1 0 = some (r1, r2) from h)
  clear hB ho0 h
  go_enter Try.func24, Try.ntmps24
  go_wp2
  go_loopg [1, 5] k (fun kq v1 v5 w' => ∃ (x0 : List (List Int)) (x1 : Int) (x5 : Int), v1 = .int .i64 x1 ∧ v5 = .int .i64 x5 ∧ Aside0 (laws_markInt64SS.l0 kq x0 x1 x5 = some (r1, r2)) ∧ Aside0 (kq ≤ k) ∧ Aside0 (Kd.S (Kd.slice 2 (Kd.int .i64)) 22 w' w0.heap.size P0_ u9000_ x0) ∧ Aside0 (Kept w w' (fun k_ => P0_ k_)) ∧ Aside0 (Below w0.heap.size w0 w'))
  case atStart => exact ⟨l0, a1, 0, rfl, rfl, H', ⟨Nat.le_refl _⟩, HO0, HK, HB⟩
  case round =>
    clear H' HO0 HK HB
    obtain ⟨x0, x1, x5, rfl, rfl, HA, HK1, HO, HK, HB⟩ := hrel
    cases gk with
    | zero => exact absurd HA.out (by simp [laws_markInt64SS.l0])
    | succ k1 =>
      have H := HA.out
      clear HA
      simp only [laws_markInt64SS.l0] at H
      by_cases c1 : x5 < (x0.length : Int)
      · rw [if_pos c1] at H
        by_cases c2 : 0 ≤ x5
        · rw [if_pos c2] at H
          have c1b := decide_eq_true c1
          have c2b := decide_eq_true c2
          obtain ⟨⟨t1, t2⟩, h1, H⟩ := Option.bind_eq_some_iff.1 H
          have HN := Aside0.mk h1
          have H' := Aside0.mk H
          clear H h1
          obtain ⟨go, co, eo, gb, gl, cl, HG⟩ := Kd.S_form HO.out (by omega)
          subst eo
          obtain ⟨oki, v, hR, hcell, hoki, hback⟩ := S_lent HO.out x5 c2 c1
          have HR := Aside0.mk hR
          have HBACK := Aside0.mk hback
          have HOKI := Aside0.mk hoki
          have p5 := eq_true c2
          have q5 := eq_true c1
          clear gb gl HG hR hback hoki c1 c2
          go_wp2_with (go_at_call 15; (with_reducible refine (laws_markInt64S.calls k1 oki v _ x1 t1 t2 w0 _ ?side1 ?side2 HN.out).mono ?_); (case side1 => exact HB.out); (case side2 => exact HR.out); rintro e w5 ⟨rfl, hr, hb, hk⟩; have HO5 := Aside0.mk (HBACK.out _ _ _ hr hk); have HB5 := Aside0.mk hb; have HK5 := Aside0.mk (HK.out.then_ hk (fun k_ hk_ => .inl (HOKI.out k_ hk_))); clear hr hb hk)
          go_roundg k1
          case measure => have := HK1.out; omega
          case rel => exact ⟨_, t1, _, rfl, rfl, H', ⟨by have := HK1.out; omega⟩, HO5, HK5, HB5⟩
        · rw [if_neg c2] at H
          exact absurd H (by simp)
      · rw [if_neg c1] at H
        have c1b := decide_eq_false c1
        clear c1
        simp only [Option.some.injEq, Prod.mk.injEq] at H
        obtain ⟨rfl, rfl⟩ := H
        obtain ⟨Ao, co, eo⟩ := Kd.S_slice HO.out
        subst eo
        go_wp2
        go_ret
        exact ⟨rfl, HO.out, HB.out, HK.out⟩
/-- Two lists, one elder than the other's call: their blocks are told apart by a number. -/
theorem two_apart {e base : Nat} {W W1 : World} {ok8 ok : Nat → Prop} {u v : Value} {xs ys : List (List Int)} (h8 : Kd.S (Kd.slice 2 (Kd.int .i64)) e W base ok8 u xs) (ho : Kd.S (Kd.slice 2 (Kd.int .i64)) e W1 W.heap.size ok v ys) (hb : Below W.heap.size W W1) (hle : base ≤ W.heap.size) :
    ∃ B, Kd.S (Kd.slice 2 (Kd.int .i64)) e W1 base (fun k => k < B) u xs ∧ Kd.S (Kd.slice 2 (Kd.int .i64)) e W1 base (fun k => B ≤ k) v ys :=
  ⟨W.heap.size, Kd.S_mono (Kd.S_old h8 hb) (fun _ hk => hk.2), Kd.S_lower (Kd.S_mono (Kd.S_bound ho) (fun _ hk => hk.2.1)) hle⟩
end Go.Proofs.Ythfegojffgblmaa.X
