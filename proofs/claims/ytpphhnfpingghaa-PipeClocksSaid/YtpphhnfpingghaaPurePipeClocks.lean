/- The plain law of PipeClocks: what the functions compute answers as the statement says. Conditions: as the theorem says. -/
import Derived.Test.YtpphhnfpingghaaOpen
import Derived.Test.YtpphhnfpingghaaWMore
namespace Go.Proofs.Ytpphhnfpingghaa.PipeClocksPure
open Go.RowKit Go.Proofs.YtpphhnfpingghaaW.PrintWords Go.Proofs.Ytpphhnfpingghaa.Open
set_option linter.unusedVariables false
abbrev wfBytes (xs : List Int) : Prop := xs.length ≤ maxLen ∧ ∀ x ∈ xs, (Lit.int .u8 x).wf = true
abbrev bkRow (xs : List Int) : Nat := sumBy (fun _ => 1) xs + 1
abbrev wtBytes (xs : List Int) : Prop := xs.length * 1 ≤ 140737488351232 ∧ ∀ x ∈ xs, True
theorem opByte : Rdg Try.prog 5 (Kd.int .u8) (fun x => (Lit.int .u8 x).wf = true) (fun _ => 1) (fun _ => True) := op_int Try.underlying5 (by kernel_rfl)
theorem opBytes : Rdg Try.prog 22 (Kd.slice 5 (Kd.int .u8)) wfBytes bkRow wtBytes := op_slice (B := 1) opByte Try.underlying22 (by kernel_rfl) (by kernel_rfl)
theorem row_len (xs : List Int) : bkRow xs = xs.length + 1 := by
  have : ∀ l : List Int, sumBy (fun _ => 1) l = l.length := by
    intro l
    induction l with
    | nil => rfl
    | cons x r ih => simp only [sumBy, ih, List.length_cons]; omega
  rw [bkRow, this]
theorem Ev.now {α : Type} (r : α) : Ev (fun _ => some r) r := ⟨0, fun _ _ => rfl⟩
theorem Ev.eq {α : Type} {g : Nat → Option α} {r s : α} (h : Ev g r) (e : r = s) : Ev g s := e ▸ h
theorem wrap_idx {i : Nat} {n : Nat} (h : i < n) (hn : n ≤ maxLen) : wrap64 ((i : Int) + 1) = ((i + 1 : Nat) : Int) := by
  unfold wrap64 maxLen at *
  omega
theorem byte_range {x : Int} (h : (Lit.int .u8 x).wf = true) : 0 ≤ x ∧ x ≤ 255 := by
  simpa [Lit.wf, IntKind.min, IntKind.max, IntKind.signed, IntKind.bits] using h
abbrev wfTicks (xs : List Int) : Prop := xs.length ≤ maxLen ∧ ∀ x ∈ xs, (Lit.int .i64 x).wf = true
abbrev wtTicks (xs : List Int) : Prop := xs.length * 8 ≤ 140737488351232 ∧ ∀ x ∈ xs, True
theorem opInt : Rdg Try.prog 3 (Kd.int .i64) (fun x => (Lit.int .i64 x).wf = true) (fun _ => 1) (fun _ => True) := op_int Try.underlying3 (by kernel_rfl)
theorem opTicks : Rdg Try.prog 47 (Kd.slice 3 (Kd.int .i64)) wfTicks bkRow wtTicks := op_slice (B := 8) opInt Try.underlying47 (by kernel_rfl) (by kernel_rfl)
theorem int_range {x : Int} (h : (Lit.int .i64 x).wf = true) : -9223372036854775808 ≤ x ∧ x ≤ 9223372036854775807 := by
  simpa [Lit.wf, IntKind.min, IntKind.max, IntKind.signed, IntKind.bits] using h
theorem PipeClocks (d : Int) (l : List Int) (hd : (Lit.int .i64 d).wf = true) (hl : wfTicks l) (_ : wtTicks l) : d ≤ 9223372036854775807 ∧ (∀ x ∈ l, x ≤ 9223372036854775807) ∧ l.length ≤ 9223372036854775807 := by
  have h := hl.1
  unfold maxLen at h
  exact ⟨(int_range hd).2, fun x hx => (int_range (hl.2 x hx)).2, h⟩

end Go.Proofs.Ytpphhnfpingghaa.PipeClocksPure
