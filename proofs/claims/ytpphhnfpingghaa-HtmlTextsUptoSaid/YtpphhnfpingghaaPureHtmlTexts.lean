/- The plain law of HtmlTexts: what the functions compute answers as the statement says. Conditions: as the theorem says. -/
import Derived.Test.YtpphhnfpingghaaOpen
import Derived.Test.YtpphhnfpingghaaPHtmlTextsx1
import Derived.Test.YtpphhnfpingghaaHtmlTextsWalk
namespace Go.Proofs.Ytpphhnfpingghaa.HtmlTextsPure
open Go.RowKit Go.Proofs.YtpphhnfpingghaaW.PrintWords Go.Proofs.Ytpphhnfpingghaa.Open Go.Proofs.Ytpphhnfpingghaa.PHtmlTexts
set_option linter.unusedVariables false
abbrev wfBytes (xs : List Int) : Prop := xs.length ≤ maxLen ∧ ∀ x ∈ xs, (Lit.int .u8 x).wf = true
abbrev bkRow (xs : List Int) : Nat := sumBy (fun _ => 1) xs + 1
abbrev wtBytes (xs : List Int) : Prop := xs.length * 1 ≤ 140737488351232 ∧ ∀ x ∈ xs, True
theorem opByte : Rdg Try.prog 5 (Kd.int .u8) (fun x => (Lit.int .u8 x).wf = true) (fun _ => 1) (fun _ => True) := op_int Try.underlying5 (by kernel_rfl)
theorem opBytes : Rdg Try.prog 22 (Kd.slice 5 (Kd.int .u8)) wfBytes bkRow wtBytes := op_slice (B := 1) opByte Try.underlying22 (by kernel_rfl) (by kernel_rfl)
theorem row_len (xs : List Int) : bkRow xs = xs.length + 1 := by
  have : ∀ l : List Int, sumBy (fun _ => 1) l = l.length := by
    intro l
    induction l with
    | nil => rfl
    | cons x r ih => simp only [sumBy, ih, List.length_cons]; omega
  rw [bkRow, this]
theorem Ev.now {α : Type} (r : α) : Ev (fun _ => some r) r := ⟨0, fun _ _ => rfl⟩
theorem Ev.eq {α : Type} {g : Nat → Option α} {r s : α} (h : Ev g r) (e : r = s) : Ev g s := e ▸ h
theorem wrap_idx {i : Nat} {n : Nat} (h : i < n) (hn : n ≤ maxLen) : wrap64 ((i : Int) + 1) = ((i + 1 : Nat) : Int) := by
  unfold wrap64 maxLen at *
  omega
theorem byte_range {x : Int} (h : (Lit.int .u8 x).wf = true) : 0 ≤ x ∧ x ≤ 255 := by
  simpa [Lit.wf, IntKind.min, IntKind.max, IntKind.signed, IntKind.bits] using h
theorem HtmlTexts (l : List Int) (hl : wfBytes l) (hb : bkRow l ≤ 1048576) : ∃ k, PHtmlTexts.bobbinref03_Text.f k l = some (strOfNums (Html.textM l)) ∧ l.length ≤ 1048576 := by
  rw [row_len] at hb
  obtain ⟨k, hk⟩ := HtmlTextsWalk.reftext_is l (by omega) (fun x hx => byte_range (hl.2 x hx))
  exact ⟨k, hk, by omega⟩

end Go.Proofs.Ytpphhnfpingghaa.HtmlTextsPure
