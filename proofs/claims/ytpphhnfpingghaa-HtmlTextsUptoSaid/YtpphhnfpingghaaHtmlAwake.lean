/-
  The call of bobbinlaw03.awake: it answers true. Conditions: none.
-/
import Derived.Test.YtpphhnfpingghaaHtml
import Derived.Lib.SlBytesConst
import Derived.Lib.SmallJoins
namespace Go.Proofs.Ytpphhnfpingghaa.Html
open Go.RowKit Go.Proofs.YtpphhnfpingghaaW.PrintWords Go.Proofs.YtpphhnfpingghaaW.PrintLast Go.Proofs.YtpphhnfpingghaaW.PrintMore Go.Proofs.Ytpphhnfpingghaa.PHtmlUnits
set_option linter.unusedVariables false
set_option linter.unusedSimpArgs false

theorem awake_text : textM [60] = [38, 108, 116, 59] := by decide
theorem awake_says : ((strOfNums [38, 108, 116, 59]).toList == ([38, 108, 116, 59] : List UInt8)) = true := by decide +kernel
theorem reads_one (w : World) (e : TypeId) (fr : Nat × Nat) (x : Int) : Kd.C (Kd.int .u8) (w.alloc (.cells #[.int .u8 x] e fr)) (some ⟨w.heap.size, 0, none⟩) ([x] : List Int).length [x] := by
  refine Kd.C_of_reads (d := (0 : Int)) (h1 := fun _ => rfl) (show ReadsInt _ .u8 _ _ _ from ⟨rfl, by simp, fun _ => ⟨_, rfl, fun j hj => ?_⟩⟩)
  obtain rfl : j = 0 := by simpa using hj
  rw [add_plain, World.cell?_alloc_mark]
  rfl

set_option maxHeartbeats 8000000 in
set_option maxRecDepth 100000 in
theorem awake_calls (w : World) : Calls Try.prog 19 #[] w fun e w' => e = .returned (.bool true) ∧ Below w.heap.size w w' := by
  have kc := fun (w : World) (C : Array Value) (n c : Nat) => Lib.run_convert_bytes_const (P := Try.prog) w 22 5 C n c Try.underlying22 Try.underlying5
  go_enter Try.func19, Try.ntmps19
  go_wp2_with (go_at_call 20; refine (text_calls _ 1 [60] _ (reads_one w 5 _ 60) (Nat.le_refl _) (by rw [awake_text]; decide)).mono ?_; rintro e w2 ⟨v2, rfl, hr2, hb2⟩; rw [awake_text] at hr2; have hcv := own_string (P := Try.prog) Try.underlying22 Try.underlying5 Try.underlying9 (Kd.own_of_R hr2); have HB2 := Aside0.mk (below_step (below_alloc (Below.refl w.heap.size w) _) hb2); clear hr2 hb2)
  go_ret
  exact ⟨congrArg (fun b => Ending.returned (.bool b)) awake_says, HB2.out⟩
end Go.Proofs.Ytpphhnfpingghaa.Html
