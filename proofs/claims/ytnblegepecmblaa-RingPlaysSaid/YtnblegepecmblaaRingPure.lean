/- The readings of the ring laws' arguments, and the bounds that their kinds give. Conditions: as each theorem says. -/
import Derived.Test.YtnblegepecmblaaOpen
import Derived.Test.YtnblegepecmblaaWWords
namespace Go.Proofs.Ytnblegepecmblaa.RingPure
open Go.RowKit Go.Proofs.YtnblegepecmblaaW.PrintWords Go.Proofs.Ytnblegepecmblaa.Open
set_option linter.unusedVariables false
abbrev wfBytes (xs : List Int) : Prop := xs.length ≤ maxLen ∧ ∀ x ∈ xs, (Lit.int .u8 x).wf = true
abbrev bkRow (xs : List Int) : Nat := sumBy (fun _ => 1) xs + 1
abbrev wtBytes (xs : List Int) : Prop := xs.length * 1 ≤ 140737488351232 ∧ ∀ x ∈ xs, True
abbrev wfRows (xs : List (List Int)) : Prop := xs.length ≤ maxLen ∧ ∀ x ∈ xs, wfBytes x
abbrev bkRows (xs : List (List Int)) : Nat := sumBy bkRow xs + 1
abbrev wtRows (xs : List (List Int)) : Prop := xs.length * 24 ≤ 140737488351232 ∧ ∀ x ∈ xs, wtBytes x
theorem opByte : Rdg Try.prog 5 (Kd.int .u8) (fun x => (Lit.int .u8 x).wf = true) (fun _ => 1) (fun _ => True) := op_int Try.underlying5 (by kernel_rfl)
theorem opInt : Rdg Try.prog 3 (Kd.int .i64) (fun x => (Lit.int .i64 x).wf = true) (fun _ => 1) (fun _ => True) := op_int Try.underlying3 (by kernel_rfl)
theorem opBytes : Rdg Try.prog 22 (Kd.slice 5 (Kd.int .u8)) wfBytes bkRow wtBytes := op_slice (B := 1) opByte Try.underlying22 (by kernel_rfl) (by kernel_rfl)
theorem u8_bounds {x : Int} (h : (Lit.int .u8 x).wf = true) : 0 ≤ x ∧ x ≤ 255 := by
  simp [Lit.wf, IntKind.min, IntKind.max, IntKind.signed, IntKind.bits] at h
  omega
theorem i64_bounds {x : Int} (h : (Lit.int .i64 x).wf = true) : -9223372036854775808 ≤ x ∧ x ≤ 9223372036854775807 := by
  simp [Lit.wf, IntKind.min, IntKind.max, IntKind.signed, IntKind.bits] at h
  omega
theorem Refuses (a : Int) (l : List Int) (n : Int) (wa : (Lit.int .u8 a).wf = true) (wl : wfBytes l) (tl : wtBytes l) (wn : (Lit.int .i64 n).wf = true) : 0 ≤ a ∧ a ≤ 255 ∧ -9223372036854775808 ≤ n ∧ n ≤ 9223372036854775807 :=
  ⟨(u8_bounds wa).1, (u8_bounds wa).2, (i64_bounds wn).1, (i64_bounds wn).2⟩
theorem Full (a : Int) (l : List Int) (n : Int) (wa : (Lit.int .u8 a).wf = true) (wl : wfBytes l) (tl : wtBytes l) (wn : (Lit.int .u8 n).wf = true) : 0 ≤ a ∧ a ≤ 255 ∧ 0 ≤ n ∧ n ≤ 255 :=
  ⟨(u8_bounds wa).1, (u8_bounds wa).2, (u8_bounds wn).1, (u8_bounds wn).2⟩
end Go.Proofs.Ytnblegepecmblaa.RingPure
