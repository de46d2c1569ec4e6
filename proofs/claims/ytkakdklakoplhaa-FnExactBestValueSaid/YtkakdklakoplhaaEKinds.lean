/- slices.IndexFunc and slices.ContainsFunc over kinds of pieces, at a closure, walked; impl.IsCatalogue. No conditions. -/
import Derived.Test.YtkakdklakoplhaaX2
import Derived.Test.YtkakdklakoplhaaEIdx
namespace Go.Proofs.Ytkakdklakoplhaa.X
open Go.RowKit Go.Shelf Go.Proofs.YtkakdklakoplhaaW.PrintWords Go.Proofs.YtkakdklakoplhaaW.PrintLast Go.Proofs.YtkakdklakoplhaaW.PrintMore
set_option linter.unusedVariables false
set_option linter.unusedSimpArgs false

abbrev kv (x : S35) : Value := .agg #[.int .i64 x.f0, .int .i64 x.f1, .int .i64 x.f2]
set_option maxRecDepth 100000 in
set_option maxHeartbeats 4000000 in
theorem indexKinds (g : Nat) (lb : Array Value) (p : S35 → Bool) (w : World) (A0 : Option Addr) (c0 : Nat) (l0 : List S35) (hr0 : Kd.C k35 w A0 l0.length l0)
    (eg : ∀ (args : Array Value) (W : World), (callFunc g args).run Try.prog W = .ok (.enter g args) W)
    (hp : ∀ x W, Below w.heap.size w W → Calls Try.prog g (#[kv x] ++ lb) W fun e W' => e = .returned (.bool (p x)) ∧ Below W.heap.size W W') :
    Calls Try.prog 23 #[.slice A0 l0.length c0, .func (.func g) #[] lb] w fun e w' => e = .returned (.int .i64 (idxFrom p l0 0)) ∧ Below w.heap.size w w' := by
  have hu35 := Try.underlying35
  have HR := Aside0.mk hr0
  have hmax := Kd.C_max hr0
  have HP := Aside0.mk hp
  clear hr0 hp
  go_enter Try.func23, Try.ntmps23
  go_wp2
  go_loopw [5, 8] (fun u c wr => ∃ j : Nat, j ≤ l0.length ∧ c = .int .i64 j ∧ Aside0 (idxFrom p l0 0 = idxFrom p (l0.drop j) j) ∧ Aside0 (Below w.heap.size w wr)) (fun _ c _ => l0.length - (intOf c).toNat)
  case atStart => exact ⟨0, Nat.zero_le _, rfl, ⟨rfl⟩, ⟨Below.refl _ _⟩⟩
  case round =>
    obtain ⟨j, hj, rfl, HI, HB⟩ := hrel
    by_cases hlt : j < l0.length
    · obtain ⟨ad, rfl, hx0, hx1, hx2⟩ := at_T35 (Kd.C_below HR.out HB.out) (j : Int) (by omega) (by omega)
      rw [Int.toNat_natCast] at hx0 hx1 hx2
      obtain ⟨x, hx⟩ : ∃ x, x = l0[j] := ⟨_, rfl⟩
      have hrd : rd_T35 l0 j = x := by rw [hx]; unfold rd_T35; simp [List.getD_eq_getElem?_getD, List.getElem?_eq_getElem hlt]
      rw [hrd] at hx0 hx1 hx2
      have HX := Aside0.mk hx
      clear hx hrd
      have HL := Aside0.mk hlt
      by_cases hpx : p x = true
      · go_wp2_with (with_reducible refine (HP.out x wr HB.out).mono ?_; rw [hpx]; rintro e w1 ⟨rfl, hb⟩; have HB1 := Aside0.mk (below_then HB.out (below_size HB.out) hb); clear hb)
        go_ret
        exact ⟨by rw [HI.out, idxFrom_hit p l0 j HL.out _ (by rw [← HX.out]; exact hpx)]; rfl, HB1.out⟩
      · have hpx' : p x = false := by simpa using hpx
        clear hpx
        go_wp2_with (with_reducible refine (HP.out x wr HB.out).mono ?_; rw [hpx']; rintro e w1 ⟨rfl, hb⟩; have HB1 := Aside0.mk (below_then HB.out (below_size HB.out) hb); clear hb)
        go_roundw
        case rel => exact ⟨j + 1, by omega, by go_num, ⟨by rw [HI.out, idxFrom_step p l0 j HL.out _ (by rw [← HX.out]; exact hpx')]; rfl⟩, HB1⟩
        case measure => simp [intOf]; omega
    · obtain rfl : j = l0.length := by omega
      go_wp2
      go_ret
      exact ⟨by rw [HI.out]; simp [idxFrom], HB.out⟩

theorem containsKinds (g : Nat) (lb : Array Value) (p : S35 → Bool) (w : World) (A0 : Option Addr) (c0 : Nat) (l0 : List S35) (hr0 : Kd.C k35 w A0 l0.length l0)
    (eg : ∀ (args : Array Value) (W : World), (callFunc g args).run Try.prog W = .ok (.enter g args) W)
    (hp : ∀ x W, Below w.heap.size w W → Calls Try.prog g (#[kv x] ++ lb) W fun e W' => e = .returned (.bool (p x)) ∧ Below W.heap.size W W') :
    Calls Try.prog 21 #[.slice A0 l0.length c0, .func (.func g) #[] lb] w fun e w' => e = .returned (.bool (l0.any p)) ∧ Below w.heap.size w w' := by
  have HC := Aside0.mk (indexKinds g lb p w A0 c0 l0 hr0 eg hp)
  have HG := Aside0.mk (idxFrom_ge p l0 0 (Int.le_refl 0))
  clear hr0 eg hp
  obtain ⟨i, hi⟩ : ∃ i, i = idxFrom p l0 0 := ⟨_, rfl⟩
  rw [← hi] at HC HG
  clear hi
  by_cases h : 0 ≤ i
  · have h' := decide_eq_true h
    go_enter Try.func21, Try.ntmps21
    go_wp2_with (go_at_call 23; (with_reducible refine HC.out.mono ?_); rintro e w1 ⟨rfl, hb⟩; have HB1 := Aside0.mk hb; clear hb)
    go_ret
    exact ⟨by rw [HG.out.1 h]; rfl, HB1.out⟩
  · have h' := decide_eq_false h
    go_enter Try.func21, Try.ntmps21
    go_wp2_with (go_at_call 23; (with_reducible refine HC.out.mono ?_); rintro e w1 ⟨rfl, hb⟩; have HB1 := Aside0.mk hb; clear hb)
    go_ret
    exact ⟨by rw [show l0.any p = false from by cases hq : l0.any p with | false => rfl | true => exact absurd (HG.out.2 hq) (by omega)]; rfl, HB1.out⟩

theorem inR_is (x lo hi : Int) : impl_inRange.f x lo hi = some (decide (lo ≤ x) && decide (x ≤ hi)) := by
  unfold impl_inRange.f
  by_cases h : lo ≤ x
  · rw [if_pos h]; simp [h]
  · rw [if_neg h]; simp [h]
/-- A kind of pieces whose sides and value are in range. -/
def okK (x : S35) : Bool := (decide (1 ≤ x.f0) && decide (x.f0 ≤ 40)) && ((decide (1 ≤ x.f1) && decide (x.f1 ≤ 40)) && (decide (0 ≤ x.f2) && decide (x.f2 ≤ 1000)))
theorem kind_out (W : World) (x : S35) :
    Calls Try.prog 22 #[kv x] W fun e W' => e = .returned (.bool (!okK x)) ∧ Below W.heap.size W W' := by
  have hu := Try.underlying35
  have H0 := Aside0.mk (inR_is x.f0 1 40)
  have H1 := Aside0.mk (inR_is x.f1 1 40)
  have H2 := Aside0.mk (inR_is x.f2 0 1000)
  unfold okK
  obtain ⟨b0, hb0⟩ : ∃ b, b = (decide (1 ≤ x.f0) && decide (x.f0 ≤ 40)) := ⟨_, rfl⟩
  obtain ⟨b1, hb1⟩ : ∃ b, b = (decide (1 ≤ x.f1) && decide (x.f1 ≤ 40)) := ⟨_, rfl⟩
  obtain ⟨b2, hb2⟩ : ∃ b, b = (decide (0 ≤ x.f2) && decide (x.f2 ≤ 1000)) := ⟨_, rfl⟩
  rw [← hb0] at H0 ⊢
  rw [← hb1] at H1 ⊢
  rw [← hb2] at H2 ⊢
  clear hb0 hb1 hb2
  cases b0 <;> cases b1 <;> cases b2 <;>
    (go_enter Try.func22, Try.ntmps22
     go_wp2_with (first
      | (go_at_call 18; (with_reducible first | refine (impl_inRange.calls x.f0 1 40 _ _ H0.out).mono ?_ | refine (impl_inRange.calls x.f1 1 40 _ _ H1.out).mono ?_ | refine (impl_inRange.calls x.f2 0 1000 _ _ H2.out).mono ?_); rintro e w1 ⟨rfl, ⟨nd, rfl⟩⟩))
     go_ret
     exact ⟨rfl, by repeat (first | exact Below.refl _ _ | apply below_alloc | apply pw_below_drewN)⟩)
def catOk (l0 : List S35) : Bool := (decide (1 ≤ (l0.length : Int)) && decide ((l0.length : Int) ≤ 6)) && l0.all okK
def impl_IsCatalogue.f (l0 : List S35) : Option Bool := some (catOk l0)
set_option maxRecDepth 100000 in
theorem impl_IsCatalogue.calls (A0 : Option Addr) (c0 : Nat) (l0 : List S35) (r : Bool) (w : World) (hr0 : Kd.C k35 w A0 l0.length l0) (hc0 : l0.length ≤ c0) (h : impl_IsCatalogue.f l0 = some r) :
    Calls Try.prog 17 #[.slice A0 l0.length c0] w fun e w' => e = .returned (.bool r) ∧ Below w.heap.size w w' := by
  unfold impl_IsCatalogue.f catOk at h
  have hr := Option.some.inj h
  have HC := Aside0.mk hr0
  have HR := Aside0.mk (inR_is (l0.length : Int) 1 6)
  obtain ⟨b0, hb0⟩ : ∃ b, b = (decide (1 ≤ (l0.length : Int)) && decide ((l0.length : Int) ≤ 6)) := ⟨_, rfl⟩
  rw [← hb0] at HR hr
  have HK := Aside0.mk (containsKinds 22 #[] (fun x => !okK x) w A0 c0 l0 hr0 (enters_of Try.func22 (by kernel_rfl) rfl) (fun x W _ => kind_out W x))
  have HKn : ∀ n : Nat, Aside0 (Calls Try.prog 21 #[.slice A0 l0.length c0, .func (.func 22) #[] #[]] (w.drewN n) fun e w' => e = .returned (.bool (l0.any fun x => !okK x)) ∧ Below (w.drewN n).heap.size (w.drewN n) w') := fun n => ⟨containsKinds 22 #[] (fun x => !okK x) (w.drewN n) A0 c0 l0 (Kd.C_drewN hr0 n) (enters_of Try.func22 (by kernel_rfl) rfl) (fun x W _ => kind_out W x)⟩
  have hany : (l0.any fun x => !okK x) = !l0.all okK := by rw [List.not_all_eq_any_not]
  obtain ⟨b1, hb1⟩ : ∃ b, b = l0.all okK := ⟨_, rfl⟩
  rw [← hb1] at hr hany
  rw [hany] at HK
  have HK2 : ∀ n : Nat, Aside0 (Calls Try.prog 21 #[.slice A0 l0.length c0, .func (.func 22) #[] #[]] (w.drewN n) fun e w' => e = .returned (.bool (!b1)) ∧ Below (w.drewN n).heap.size (w.drewN n) w') := fun n => ⟨by have := (HKn n).out; rwa [hany] at this⟩
  clear hr0 hb0 hb1 h hany HKn HK
  have HRS := Aside0.mk hr
  clear hr
  cases b0 with
  | false =>
    go_enter Try.func17, Try.ntmps17
    go_wp2_with (first
      | (go_at_call 18; (with_reducible refine (impl_inRange.calls (l0.length : Int) 1 6 _ _ HR.out).mono ?_); rintro e w1 ⟨rfl, ⟨nd, rfl⟩⟩)
      | go_in)
    go_ret
    exact ⟨by rw [← HRS.out]; rfl, pw_below_drewN (Below.refl _ _) _⟩
  | true =>
    cases b1 with
    | false =>
      go_enter Try.func17, Try.ntmps17
      go_wp2_with (first
        | (go_at_call 18; (with_reducible refine (impl_inRange.calls (l0.length : Int) 1 6 _ _ HR.out).mono ?_); rintro e w1 ⟨rfl, ⟨nd, rfl⟩⟩)
        | (go_at_call 21; (with_reducible refine (HK2 nd).out.mono ?_); rintro e w2 ⟨rfl, hb⟩; have HB2 := Aside0.mk hb; clear hb)
        | go_in)
      go_ret
      exact ⟨by rw [← HRS.out]; rfl, below_step (pw_below_drewN (Below.refl _ _) _) HB2.out⟩
    | true =>
      go_enter Try.func17, Try.ntmps17
      go_wp2_with (first
        | (go_at_call 18; (with_reducible refine (impl_inRange.calls (l0.length : Int) 1 6 _ _ HR.out).mono ?_); rintro e w1 ⟨rfl, ⟨nd, rfl⟩⟩)
        | (go_at_call 21; (with_reducible refine (HK2 nd).out.mono ?_); rintro e w2 ⟨rfl, hb⟩; have HB2 := Aside0.mk hb; clear hb)
        | go_in)
      go_ret
      exact ⟨by rw [← HRS.out]; rfl, below_step (pw_below_drewN (Below.refl _ _) _) HB2.out⟩
end Go.Proofs.Ytkakdklakoplhaa.X
