/-
  The walk of the law HtmlUnits: it returns true and leaves what was there as it was. Conditions: none.
-/
import Derived.Test.YtpphhnfpingghaaHtml
import Derived.Deep.RegionWith
import Derived.Lib.Bytes
namespace Go.Proofs.Ytpphhnfpingghaa.Html
open Go.RowKit Go.Proofs.YtpphhnfpingghaaW.PrintWords Go.Proofs.YtpphhnfpingghaaW.PrintLast Go.Proofs.YtpphhnfpingghaaW.PrintMore Go.Proofs.Ytpphhnfpingghaa.PHtmlUnits
set_option linter.unusedVariables false
set_option linter.unusedSimpArgs false

def refM (a : Int) : ByteArray := (bobbinref03_Unit.f a).getD ByteArray.empty
theorem ref_some (a : Int) : bobbinref03_Unit.f a = some (refM a) := by
  unfold refM bobbinref03_Unit.f
  repeat' split
  all_goals rfl
theorem ref_is (a : Int) : strOfNums (unitM a) = refM a := by
  unfold refM bobbinref03_Unit.f unitM
  repeat' split
  all_goals rfl
theorem ref_same (a : Int) : ((strOfNums (unitM a)).toList == (refM a).toList) = true := by rw [ref_is, beq_self_eq_true]

set_option maxHeartbeats 8000000 in
set_option maxRecDepth 100000 in
theorem units.calls (r : Bool) (w : World) (_ : ((strOfNums (unitM 0)).toList == (refM 0).toList) = true) : Calls Try.prog 3 #[] w fun e w' => e = .returned (.bool true) ∧ Below w.heap.size w w' := by
  have HB := Aside0.mk (Below.refl w.heap.size w)
  go_enter Try.func3, Try.ntmps3
  go_wp2
  go_loopg [1] 256 (fun m v1 w' => ∃ i : Int, v1 = .int .i64 i ∧ Aside0 (0 ≤ i ∧ i + m = 256) ∧ Aside0 (Below w.heap.size w w'))
  case atStart => exact ⟨0, rfl, ⟨by omega⟩, HB⟩
  case round =>
    clear HB
    obtain ⟨i, rfl, HK, HB⟩ := hrel
    cases gk with
    | zero =>
      have c0b : decide (i < 256) = false := decide_eq_false (by have := HK.out; omega)
      go_wp2
      go_ret
      exact ⟨rfl, HB.out⟩
    | succ m =>
      have c0b : decide (i < 256) = true := decide_eq_true (by have := HK.out; omega)
      have e8 : IntKind.u8.wrap i = i := by have := HK.out; simp [IntKind.wrap, IntKind.signed, IntKind.bits]; omega
      have hsame := ref_same i
      go_wp2_with fail
      go_region_with (first
        | (go_at_call 12; refine (unit_calls i _).mono ?_; rintro e w2 ⟨A2, c2, rfl, hl2, hr2, hb2⟩; have HR2 := Aside0.mk hr2; have hcvA := Kd.C_string (P := Try.prog) (A := A2) (c := c2) Try.underlying22 Try.underlying5 Try.underlying9 hr2; have HB2 := Aside0.mk (below_step (below_drew1 HB.out) hb2); clear hl2 hr2 hb2)
        | (go_at_call 13; refine (bobbinref03_Unit.calls i (refM i) _ (ref_some i)).mono ?_; rintro e w3 ⟨rfl, hb3⟩; have hcvB := Kd.C_string (P := Try.prog) (A := A2) (c := c2) Try.underlying22 Try.underlying5 Try.underlying9 (Kd.C_below HR2.out hb3); have HB3 := Aside0.mk (below_step HB2.out hb3); clear hb3))
      all_goals
        go_wp2_with fail
        go_roundg m
        case measure => omega
        case rel => exact ⟨_, rfl, ⟨by have := HK.out; unfold wrap64; omega⟩, HB3⟩
end Go.Proofs.Ytpphhnfpingghaa.Html
