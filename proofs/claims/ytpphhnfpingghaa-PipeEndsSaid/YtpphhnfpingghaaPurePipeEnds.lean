/- The plain law of PipeEnds: what the functions compute answers as the statement says. Conditions: as the theorem says. -/
import Derived.Test.YtpphhnfpingghaaOpen
import Derived.Test.YtpphhnfpingghaaQPipeEndsx
namespace Go.Proofs.Ytpphhnfpingghaa.PipeEndsPure
open Go.RowKit Go.Proofs.YtpphhnfpingghaaW.PrintWords Go.Proofs.Ytpphhnfpingghaa.Open Go.Proofs.Ytpphhnfpingghaa.QPipeEnds
set_option linter.unusedVariables false
abbrev wfBytes (xs : List Int) : Prop := xs.length ≤ maxLen ∧ ∀ x ∈ xs, (Lit.int .u8 x).wf = true
abbrev bkRow (xs : List Int) : Nat := sumBy (fun _ => 1) xs + 1
abbrev wtBytes (xs : List Int) : Prop := xs.length * 1 ≤ 140737488351232 ∧ ∀ x ∈ xs, True
theorem opByte : Rdg Try.prog 5 (Kd.int .u8) (fun x => (Lit.int .u8 x).wf = true) (fun _ => 1) (fun _ => True) := op_int Try.underlying5 (by kernel_rfl)
theorem opBytes : Rdg Try.prog 22 (Kd.slice 5 (Kd.int .u8)) wfBytes bkRow wtBytes := op_slice (B := 1) opByte Try.underlying22 (by kernel_rfl) (by kernel_rfl)
theorem row_len (xs : List Int) : bkRow xs = xs.length + 1 := by
  have : ∀ l : List Int, sumBy (fun _ => 1) l = l.length := by
    intro l
    induction l with
    | nil => rfl
    | cons x r ih => simp only [sumBy, ih, List.length_cons]; omega
  rw [bkRow, this]
theorem Ev.now {α : Type} (r : α) : Ev (fun _ => some r) r := ⟨0, fun _ _ => rfl⟩
theorem Ev.eq {α : Type} {g : Nat → Option α} {r s : α} (h : Ev g r) (e : r = s) : Ev g s := e ▸ h
theorem wrap_idx {i : Nat} {n : Nat} (h : i < n) (hn : n ≤ maxLen) : wrap64 ((i : Int) + 1) = ((i + 1 : Nat) : Int) := by
  unfold wrap64 maxLen at *
  omega
theorem byte_range {x : Int} (h : (Lit.int .u8 x).wf = true) : 0 ≤ x ∧ x ≤ 255 := by
  simpa [Lit.wf, IntKind.min, IntKind.max, IntKind.signed, IntKind.bits] using h
theorem PipeEnds (a0 a1 a2 : Int) (a3 b : Bool) (_ : (Lit.int .u8 a0).wf = true) (_ : (Lit.int .i64 a1).wf = true) (_ : (Lit.int .i64 a2).wf = true) : bobbinlaw20_PipeEnds.f a0 a1 a2 a3 b = some true := by
  unfold bobbinlaw20_PipeEnds.f bobbinlaw20_awake.f pipe_Ends.f bobbinref20_Ends.f
  simp only [Option.bind_some, if_true]
  repeat' split
  all_goals decide +kernel

end Go.Proofs.Ytpphhnfpingghaa.PipeEndsPure
