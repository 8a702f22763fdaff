/- The readings of the ring laws' other arguments (rows of bytes, moves), and the bounds that their kinds give. Conditions: as each theorem says. -/
import Derived.Test.YtnblegepecmblaaRingPure
namespace Go.Proofs.Ytnblegepecmblaa.RingPure
open Go.RowKit Go.Proofs.YtnblegepecmblaaW.PrintWords Go.Proofs.Ytnblegepecmblaa.Open
set_option linter.unusedVariables false
theorem opRows : Rdg Try.prog 46 (Kd.slice 22 (Kd.slice 5 (Kd.int .u8))) wfRows bkRows wtRows := op_slice (B := 24) opBytes Try.underlying46 (by kernel_rfl) (by kernel_rfl)
theorem Rounds (a : Int) (l : List (List Int)) (wa : (Lit.int .u8 a).wf = true) (wl : wfRows l) (tl : wtRows l) : 0 ≤ a ∧ a ≤ 255 := u8_bounds wa
theorem Keeps (a : Int) (l : List Int) (wa : (Lit.int .u8 a).wf = true) (wl : wfBytes l) (tl : wtBytes l) : 0 ≤ a ∧ a ≤ 255 ∧ l.length ≤ 140737488351232 := ⟨(u8_bounds wa).1, (u8_bounds wa).2, by have := tl.1; omega⟩
theorem Line (a : Int) (l k : List Int) (wa : (Lit.int .u8 a).wf = true) (wl : wfBytes l) (tl : wtBytes l) (wk : wfBytes k) (tk : wtBytes k) : 0 ≤ a ∧ a ≤ 255 ∧ l.length ≤ 140737488351232 ∧ k.length ≤ 140737488351232 ∧ ∀ x ∈ k, 0 ≤ x ∧ x ≤ 255 :=
  ⟨(u8_bounds wa).1, (u8_bounds wa).2, by have := tl.1; omega, by have := tk.1; omega, fun x hx => u8_bounds (wk.2 x hx)⟩
end Go.Proofs.Ytnblegepecmblaa.RingPure
