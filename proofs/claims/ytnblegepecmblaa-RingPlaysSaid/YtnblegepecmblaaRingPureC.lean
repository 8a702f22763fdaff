/- The reading of RingPlays' argument (moves), and the bounds that the kinds give. Conditions: as each theorem says. -/
import Derived.Test.YtnblegepecmblaaRingPure
import Derived.Test.YtnblegepecmblaaRingPlays
namespace Go.Proofs.Ytnblegepecmblaa.RingPure
open Go.RowKit Go.Proofs.YtnblegepecmblaaW.PrintWords Go.Proofs.Ytnblegepecmblaa.Open Go.Proofs.Ytnblegepecmblaa.Ring
set_option linter.unusedVariables false
abbrev wfMove (x : SM) : Prop := (True ∧ (Lit.int .i64 x.f1).wf = true ∧ wfBytes x.f2)
abbrev bkMove (x : SM) : Nat := 1 + (1 + bkRow x.f2) + 1
abbrev wtMove (x : SM) : Prop := (True ∧ True ∧ wtBytes x.f2)
abbrev wfMoves (xs : List SM) : Prop := xs.length ≤ maxLen ∧ ∀ x ∈ xs, wfMove x
abbrev bkMoves (xs : List SM) : Nat := sumBy bkMove xs + 1
abbrev wtMoves (xs : List SM) : Prop := xs.length * 40 ≤ 140737488351232 ∧ ∀ x ∈ xs, wtMove x
theorem opBool : Rdg Try.prog 4 Kd.bool (fun _ => True) (fun _ => 1) (fun _ => True) := op_bool Try.underlying4 (by kernel_rfl)
theorem opMove : Rdg Try.prog 41 kM wfMove bkMove wtMove :=
  op_struct (fun x : SM => (x.f0, x.f1, x.f2)) (fun a => ⟨a.1, a.2.1, a.2.2⟩) (fun _ => rfl) Try.underlying41 (by kernel_rfl)
    (opf_cons opBool rfl rfl (opf_cons opInt rfl rfl (opf_one opBytes rfl)))
theorem opMoves : Rdg Try.prog 36 (Kd.slice 41 kM) wfMoves bkMoves wtMoves := op_slice (B := 40) opMove Try.underlying36 (by kernel_rfl) (by kernel_rfl)
theorem Plays (a : Int) (l : List SM) (wa : (Lit.int .i64 a).wf = true) (wl : wfMoves l) (tl : wtMoves l) : -9223372036854775808 ≤ a ∧ a ≤ 9223372036854775807 ∧ l.length ≤ 140737488351232 := ⟨(i64_bounds wa).1, (i64_bounds wa).2, by have := tl.1; omega⟩
end Go.Proofs.Ytnblegepecmblaa.RingPure
