/- impl.ReadCode walked. The table that FormatInt reads, the two errors of ParseInt: conditions (LaidT, LaidE). -/
import Derived.Test.YtlicooehcladcaaDoorEParse
import Derived.Test.YtlicooehcladcaaDoorECodeText
import Derived.Lib.IfaceNeq
namespace Go.Proofs.YtlicooehcladcaaDoor.X
open Go.RowKit Go.Sort Go.Proofs.YtlicooehcladcaaDoorW.PrintWords Go.Proofs.YtlicooehcladcaaDoorW.PrintLast Go.Proofs.YtlicooehcladcaaDoorW.PrintMore
set_option linter.unusedVariables false
set_option linter.unusedSimpArgs false

def okOf : Lib.NumEnd Int → Option Int
  | .ok v => some v
  | _ => none
def impl_ReadCode.f (a0 : ByteArray) : Option (Int × Bool) := if a0.size ≤ 281474976710656 then (match okOf (Lib.parseIntB 64 a0.data.toList) with
  | some v => (impl_CodeText.f v).bind fun t => if t.toList = a0.toList then some (v, true) else some (0, false)
  | none => some (0, false)) else none
set_option maxHeartbeats 4000000 in
set_option maxRecDepth 100000 in
theorem impl_ReadCode.walk (a0 : ByteArray) (r : Int × Bool) (w : World) (h : impl_ReadCode.f a0 = some r) (ht : LaidT w) (he : LaidE w) :
    Calls Tryd.prog 9 #[.string a0] w fun e w' => e = .returned (.tuple #[.int .i64 r.1, .bool r.2]) ∧ Below w.heap.size w w' := by
  unfold impl_ReadCode.f at h
  by_cases hs : a0.size ≤ 281474976710656
  case neg => rw [if_neg hs] at h; cases h
  rw [if_pos hs] at h
  have hht := Aside0.mk ht
  have hhe := Aside0.mk he
  have HH := Aside0.mk h
  clear ht he h
  go_enter Tryd.func9, Tryd.ntmps9
  go_wp2_with (go_at_call 24; (with_reducible refine (parse_int a0 hs _ hhe.out).mono ?_); rintro e w5 ⟨v, ev, rfl, hv, hb5⟩)
  rcases hv with ⟨rfl, hv⟩ | ⟨⟨N, rfl⟩, hv⟩
  · have H2 := Aside0.mk HH.out
    rw [hv] at H2
    obtain ⟨t, H3, H4⟩ := Option.bind_eq_some_iff.mp (show (impl_CodeText.f v).bind _ = some r from H2.out)
    clear H2
    have e1 : ∀ w, (eqGuard .neq 41 (.tmp 11) (.const .nilIface) .nilIface .nilIface).run Tryd.prog w = .ok () w := fun w => by kernel_rfl
    have e2 : ∀ w, (binOp .neq 41 .nilIface .nilIface).run Tryd.prog w = .ok (.bool false) w := fun w => by kernel_rfl
    simp only [e1, e2, Result.andThen]
    have hA := Aside0.mk H3
    clear H3 e1 e2
    by_cases c4 : t.toList = a0.toList
    · rw [if_pos c4] at H4
      have c4b0 : (t.toList == a0.toList) = true := beq_iff_eq.mpr c4
      have c4b1 : (t.toList != a0.toList) = false := bne_eq_false_iff_eq.mpr c4
      clear c4
      obtain rfl := Option.some.inj H4
      go_wp2_with (go_at_call 7; (with_reducible refine (impl_CodeText.calls v t _ hA.out ?sidet).mono ?_); (case sidet => exact laidT_below hht.out (by repeat (first | (with_reducible first | exact hb5 | apply below_alloc | apply pw_below_drewN | apply below_drew1) | exact hb5))); rintro e w6 ⟨rfl, hb6⟩)
      go_ret2
      exact ⟨rfl, below_step hb5 hb6⟩
    · rw [if_neg c4] at H4
      have c4b0 : (t.toList == a0.toList) = false := beq_eq_false_iff_ne.mpr c4
      have c4b1 : (t.toList != a0.toList) = true := bne_iff_ne.mpr c4
      clear c4
      obtain rfl := Option.some.inj H4
      go_wp2_with (go_at_call 7; (with_reducible refine (impl_CodeText.calls v t _ hA.out ?sidet).mono ?_); (case sidet => exact laidT_below hht.out (by repeat (first | (with_reducible first | exact hb5 | apply below_alloc | apply pw_below_drewN | apply below_drew1) | exact hb5))); rintro e w6 ⟨rfl, hb6⟩)
      go_ret2
      exact ⟨rfl, below_step hb5 hb6⟩
  · have H2 := HH.out
    have H3 : okOf (Lib.parseIntB 64 a0.data.toList) = none := by
      cases hp : Lib.parseIntB 64 a0.data.toList with
      | ok v => exact absurd hp (hv v)
      | _ => rfl
    rw [H3] at H2
    obtain rfl := Option.some.inj H2
    have e1 : ∀ w, (eqGuard .neq 41 (.tmp 11) (.const .nilIface) (.iface (parL_ren.t 168) (.pointer (some ⟨N, 0, none⟩))) .nilIface).run Tryd.prog w = .ok () w := fun w => by kernel_rfl
    have e2 : ∀ w, (binOp .neq 41 (.iface (parL_ren.t 168) (.pointer (some ⟨N, 0, none⟩))) .nilIface).run Tryd.prog w = .ok (.bool true) w := fun w => by kernel_rfl
    simp only [e1, e2, Result.andThen]
    go_wp2_with (fail)
    go_ret2
    exact ⟨rfl, hb5⟩
theorem impl_ReadCode.calls (a0 : ByteArray) (r0 : Int) (r1 : Bool) (w : World) (h : impl_ReadCode.f a0 = some (r0, r1)) (ht : LaidT w) (he : LaidE w) :
    Calls Tryd.prog 9 #[.string a0] w fun e w' => e = .returned (.tuple #[.int .i64 r0, .bool r1]) ∧ Below w.heap.size w w' := impl_ReadCode.walk a0 (r0, r1) w h ht he
end Go.Proofs.YtlicooehcladcaaDoor.X
