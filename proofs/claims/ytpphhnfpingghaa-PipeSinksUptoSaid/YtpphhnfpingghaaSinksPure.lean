/- The reading of PipeSinks' argument, and the bound that its bulk gives. Conditions: as each theorem says. -/
import Derived.Test.YtpphhnfpingghaaOpen
import Derived.Test.YtpphhnfpingghaaSinks
namespace Go.Proofs.Ytpphhnfpingghaa.PipeSinksPure
open Go.RowKit Go.Proofs.YtpphhnfpingghaaW.PrintWords Go.Proofs.Ytpphhnfpingghaa.Open Go.Proofs.Ytpphhnfpingghaa.Sinks
set_option linter.unusedVariables false
abbrev wfBytes (xs : List Int) : Prop := xs.length ≤ maxLen ∧ ∀ x ∈ xs, (Lit.int .u8 x).wf = true
abbrev bkRow (xs : List Int) : Nat := sumBy (fun _ => 1) xs + 1
abbrev wtBytes (xs : List Int) : Prop := xs.length * 1 ≤ 140737488351232 ∧ ∀ x ∈ xs, True
abbrev wfOffer (x : S31) : Prop := wfBytes x.f0 ∧ (Lit.int .i64 x.f1).wf = true
abbrev bkOffer (x : S31) : Nat := bkRow x.f0 + 1 + 1
abbrev wtOffer (x : S31) : Prop := wtBytes x.f0 ∧ True
abbrev wfScript (xs : List S31) : Prop := xs.length ≤ maxLen ∧ ∀ x ∈ xs, wfOffer x
abbrev bkScript (xs : List S31) : Nat := sumBy bkOffer xs + 1
abbrev wtScript (xs : List S31) : Prop := xs.length * 32 ≤ 140737488351232 ∧ ∀ x ∈ xs, wtOffer x
theorem opByte : Rdg Try.prog 5 (Kd.int .u8) (fun x => (Lit.int .u8 x).wf = true) (fun _ => 1) (fun _ => True) := op_int Try.underlying5 (by kernel_rfl)
theorem opInt : Rdg Try.prog 3 (Kd.int .i64) (fun x => (Lit.int .i64 x).wf = true) (fun _ => 1) (fun _ => True) := op_int Try.underlying3 (by kernel_rfl)
theorem opBytes : Rdg Try.prog 22 (Kd.slice 5 (Kd.int .u8)) wfBytes bkRow wtBytes := op_slice (B := 1) opByte Try.underlying22 (by kernel_rfl) (by kernel_rfl)
theorem opOffer : Rdg Try.prog 31 k31 wfOffer bkOffer wtOffer :=
  op_struct (fun x : S31 => (x.f0, x.f1)) (fun a => ⟨a.1, a.2⟩) (fun _ => rfl) Try.underlying31 (by kernel_rfl)
    (opf_cons opBytes rfl rfl (opf_one opInt rfl))
theorem opScript : Rdg Try.prog 26 (Kd.slice 31 k31) wfScript bkScript wtScript := op_slice (B := 32) opOffer Try.underlying26 (by kernel_rfl) (by kernel_rfl)
theorem row_len (xs : List Int) : bkRow xs = xs.length + 1 := by
  have : ∀ l : List Int, sumBy (fun _ => 1) l = l.length := by
    intro l
    induction l with
    | nil => rfl
    | cons x r ih => simp only [sumBy, ih, List.length_cons]; omega
  rw [bkRow, this]
theorem script_len (l : List S31) : tot l + l.length ≤ sumBy bkOffer l := by
  induction l with
  | nil => exact Nat.le_refl _
  | cons x r ih =>
    have := row_len x.f0
    simp only [sumBy, tot, List.length_cons, bkOffer]
    omega
theorem PipeSinks (l : List S31) (hl : wfScript l) (hb : bkScript l ≤ 1048576) : tot l + l.length ≤ 1048576 := by
  have := script_len l
  unfold bkScript at hb
  omega
end Go.Proofs.Ytpphhnfpingghaa.PipeSinksPure
