/- The plain law of HtmlSplits: what the functions compute answers as the statement says. Conditions: as the theorem says. -/
import Derived.Test.YtpphhnfpingghaaOpen
import Derived.Test.YtpphhnfpingghaaQHtmlSplitsx
namespace Go.Proofs.Ytpphhnfpingghaa.HtmlSplitsPure
open Go.RowKit Go.Proofs.YtpphhnfpingghaaW.PrintWords Go.Proofs.Ytpphhnfpingghaa.Open Go.Proofs.Ytpphhnfpingghaa.QHtmlSplits
set_option linter.unusedVariables false
abbrev wfBytes (xs : List Int) : Prop := xs.length ≤ maxLen ∧ ∀ x ∈ xs, (Lit.int .u8 x).wf = true
abbrev bkRow (xs : List Int) : Nat := sumBy (fun _ => 1) xs + 1
abbrev wtBytes (xs : List Int) : Prop := xs.length * 1 ≤ 140737488351232 ∧ ∀ x ∈ xs, True
theorem opByte : Rdg Try.prog 5 (Kd.int .u8) (fun x => (Lit.int .u8 x).wf = true) (fun _ => 1) (fun _ => True) := op_int Try.underlying5 (by kernel_rfl)
theorem opBytes : Rdg Try.prog 22 (Kd.slice 5 (Kd.int .u8)) wfBytes bkRow wtBytes := op_slice (B := 1) opByte Try.underlying22 (by kernel_rfl) (by kernel_rfl)
theorem row_len (xs : List Int) : bkRow xs = xs.length + 1 := by
  have : ∀ l : List Int, sumBy (fun _ => 1) l = l.length := by
    intro l
    induction l with
    | nil => rfl
    | cons x r ih => simp only [sumBy, ih, List.length_cons]; omega
  rw [bkRow, this]
theorem Ev.now {α : Type} (r : α) : Ev (fun _ => some r) r := ⟨0, fun _ _ => rfl⟩
theorem Ev.eq {α : Type} {g : Nat → Option α} {r s : α} (h : Ev g r) (e : r = s) : Ev g s := e ▸ h
theorem wrap_idx {i : Nat} {n : Nat} (h : i < n) (hn : n ≤ maxLen) : wrap64 ((i : Int) + 1) = ((i + 1 : Nat) : Int) := by
  unfold wrap64 maxLen at *
  omega
theorem byte_range {x : Int} (h : (Lit.int .u8 x).wf = true) : 0 ≤ x ∧ x ≤ 255 := by
  simpa [Lit.wf, IntKind.min, IntKind.max, IntKind.signed, IntKind.bits] using h
open Html

theorem textM_append (a b : List Int) : textM (a ++ b) = textM a ++ textM b := by simp [textM]
theorem text_is {l : List Int} (h : l.length ≤ 1048576) : html_Text.f l = some (textM l) := by
  unfold html_Text.f
  have := textM_len l
  rw [if_pos (by omega)]
theorem str_append (a b : List Int) : strOfNums a ++ strOfNums b = strOfNums (a ++ b) := by
  apply ByteArray.ext
  rw [ByteArray.data_append]
  simp [strOfNums]

theorem splits_loop (mine : List Int) (b : ByteArray) (hm : mine.length ≤ 1048576) (hb : (strOfNums (textM mine)).toList = b.toList) : ∀ (m j : Nat) (v : List Int), v.length ≤ 9000000 → j + m = v.length → Ev (fun k => bobbinlaw03_HtmlSplits.l0 k mine v b (j : Int)) true
  | 0, j, v, hv, hj => by
    refine Ev.step (fun k => ?_) (Ev.now true)
    simp only [bobbinlaw03_HtmlSplits.l0]
    rw [if_neg (by omega), text_is hm]
    simp [hb]
  | m + 1, j, v, hv, hj => by
    refine Ev.step (fun k => ?_) (splits_loop mine b hm hb m (j + 1) (v.set j 1) (by rw [List.length_set]; exact hv) (by rw [List.length_set]; omega))
    simp only [bobbinlaw03_HtmlSplits.l0]
    rw [if_pos (by omega), if_pos (by omega), wrap_idx (show j < v.length by omega) (by unfold maxLen; omega), Int.toNat_natCast]

theorem HtmlSplits (l : List Int) (a : Int) (hl : wfBytes l) (ha : (Lit.int .u16 a).wf = true) (hb : bkRow l ≤ 1048576) : ∃ k, bobbinlaw03_HtmlSplits.f k l a = some true := by
  refine Ev.rounds (g := fun k => bobbinlaw03_HtmlSplits.f k l a) ?_
  rw [row_len] at hb
  have ha0 : 0 ≤ a ∧ a ≤ 65535 := by simpa [Lit.wf, IntKind.min, IntKind.max, IntKind.signed, IntKind.bits] using ha
  have ew : wrap64 a = a := by unfold wrap64; omega
  have el : wrap64 ((l.length : Int) + 1) = ((l.length + 1 : Nat) : Int) := by unfold wrap64; omega
  obtain ⟨n, en⟩ : ∃ n : Nat, n = a.toNat % (l.length + 1) := ⟨_, rfl⟩
  have hnl : n < l.length + 1 := by rw [en]; exact Nat.mod_lt _ (by omega)
  have em : Int.tmod (wrap64 a) (wrap64 ((l.length : Int) + 1)) = (n : Int) := by
    rw [ew, el, Int.tmod_eq_emod_of_nonneg ha0.1, en, Int.natCast_emod, Int.toNat_of_nonneg ha0.1]
  have h1 := textM_len (l.take n)
  have h2 := textM_len (l.drop n)
  have h3 := textM_len l
  rw [List.length_take] at h1
  rw [List.length_drop] at h2
  have e : ∀ k, bobbinlaw03_HtmlSplits.f k l a = bobbinlaw03_HtmlSplits.j0 k l (textM l) (strOfNums (textM l)) false := by
    intro k
    unfold bobbinlaw03_HtmlSplits.f bobbinlaw03_awake.f
    rw [Option.bind_some, if_pos rfl, em, el, if_neg (by omega), if_pos (by rw [List.length_nil]; omega), Option.bind_some, List.nil_append, text_is (by omega), Option.bind_some, if_pos (by omega), if_pos (by omega), Int.toNat_natCast,
      text_is (show (l.take n).length ≤ 1048576 by rw [List.length_take]; omega), Option.bind_some, text_is (show (l.drop n).length ≤ 1048576 by rw [List.length_drop]; omega), Option.bind_some, if_pos (by rw [strOfNums_size, strOfNums_size]; omega),
      str_append, ← textM_append, List.take_append_drop, if_pos rfl, bne_self_eq_false]
  rw [show (fun k => bobbinlaw03_HtmlSplits.f k l a) = fun k => bobbinlaw03_HtmlSplits.j0 k l (textM l) (strOfNums (textM l)) false from funext e]
  refine Ev.step (f := fun k => bobbinlaw03_HtmlSplits.l0 k l (textM l) (strOfNums (textM l)) 0) (fun k => ?_) (splits_loop l (strOfNums (textM l)) (by omega) rfl _ 0 _ (by omega) (Nat.zero_add _))
  simp only [bobbinlaw03_HtmlSplits.j0, Bool.false_eq_true, if_false]

end Go.Proofs.Ytpphhnfpingghaa.HtmlSplitsPure
