/- The plain law of DataItems: what the printed functions compute answers as the statement says. -/
import Derived.Test.YtclanebbalgpfaaOpen
import Derived.Test.YtclanebbalgpfaaPDataGrowsx1
import Derived.Test.YtclanebbalgpfaaItemsLaw
namespace Go.Proofs.Ytclanebbalgpfaa.DataItemsPure
open Go.RowKit Go.Proofs.YtclanebbalgpfaaW.PrintWords Go.Proofs.Ytclanebbalgpfaa.Open Go.Proofs.Ytclanebbalgpfaa.PDataGrows
set_option linter.unusedVariables false
abbrev wfInts (xs : List Int) : Prop := xs.length ≤ maxLen ∧ ∀ x ∈ xs, (Lit.int .i64 x).wf = true
abbrev wfBytes (xs : List Int) : Prop := xs.length ≤ maxLen ∧ ∀ x ∈ xs, (Lit.int .u8 x).wf = true
abbrev wfChunks (xs : List (List Int)) : Prop := xs.length ≤ maxLen ∧ ∀ x ∈ xs, wfBytes x
abbrev wfNames (xs : List ByteArray) : Prop := xs.length ≤ maxLen ∧ ∀ x ∈ xs, x.size ≤ maxLen
abbrev wfDatum (x : S49) : Prop := (Lit.int .u8 x.f0).wf = true ∧ x.f1.size ≤ maxLen ∧ wfChunks x.f2 ∧ wfInts x.f3
abbrev wfData (xs : List S49) : Prop := xs.length ≤ maxLen ∧ ∀ x ∈ xs, wfDatum x
abbrev bkRow (xs : List Int) : Nat := sumBy (fun _ => 1) xs + 1
abbrev bkChunks (xs : List (List Int)) : Nat := sumBy bkRow xs + 1
abbrev bkNames (xs : List ByteArray) : Nat := sumBy (fun s => s.size + 1) xs + 1
abbrev bkDatum (x : S49) : Nat := 1 + ((x.f1.size + 1) + (bkChunks x.f2 + bkRow x.f3)) + 1
abbrev bkData (xs : List S49) : Nat := sumBy bkDatum xs + 1
abbrev wtInts (xs : List Int) : Prop := xs.length * 8 ≤ 140737488351232 ∧ ∀ x ∈ xs, True
abbrev wtBytes (xs : List Int) : Prop := xs.length * 1 ≤ 140737488351232 ∧ ∀ x ∈ xs, True
abbrev wtChunks (xs : List (List Int)) : Prop := xs.length * 24 ≤ 140737488351232 ∧ ∀ x ∈ xs, wtBytes x
abbrev wtNames (xs : List ByteArray) : Prop := xs.length * 16 ≤ 140737488351232 ∧ ∀ x ∈ xs, x.size ≤ 140737488351232
abbrev wtDatum (x : S49) : Prop := True ∧ x.f1.size ≤ 140737488351232 ∧ wtChunks x.f2 ∧ wtInts x.f3
abbrev wtData (xs : List S49) : Prop := xs.length * 72 ≤ 140737488351232 ∧ ∀ x ∈ xs, wtDatum x
theorem opInt : Rdg Try.prog 3 (Kd.int .i64) (fun x => (Lit.int .i64 x).wf = true) (fun _ => 1) (fun _ => True) := op_int Try.underlying3 (by kernel_rfl)
theorem opByte : Rdg Try.prog 5 (Kd.int .u8) (fun x => (Lit.int .u8 x).wf = true) (fun _ => 1) (fun _ => True) := op_int Try.underlying5 (by kernel_rfl)
theorem opKind : Rdg Try.prog 46 (Kd.int .u8) (fun x => (Lit.int .u8 x).wf = true) (fun _ => 1) (fun _ => True) := op_int Try.underlying46 (by kernel_rfl)
theorem opStr : Rdg Try.prog 9 Kd.string (fun a => a.size ≤ maxLen) (fun a => a.size + 1) (fun a => a.size ≤ 140737488351232) := op_string Try.underlying9 (by kernel_rfl)
theorem opBytes : Rdg Try.prog 24 (Kd.slice 5 (Kd.int .u8)) wfBytes bkRow wtBytes := op_slice (B := 1) opByte Try.underlying24 (by kernel_rfl) (by kernel_rfl)
theorem opChunks : Rdg Try.prog 47 (Kd.slice 24 (Kd.slice 5 (Kd.int .u8))) wfChunks bkChunks wtChunks := op_slice (B := 24) opBytes Try.underlying47 (by kernel_rfl) (by kernel_rfl)
theorem opKids : Rdg Try.prog 27 (Kd.slice 3 (Kd.int .i64)) wfInts bkRow wtInts := op_slice (B := 8) opInt Try.underlying27 (by kernel_rfl) (by kernel_rfl)
theorem opNames : Rdg Try.prog 37 (Kd.slice 9 Kd.string) wfNames bkNames wtNames := op_slice (B := 16) opStr Try.underlying37 (by kernel_rfl) (by kernel_rfl)
theorem opDatum : Rdg Try.prog 49 k49 wfDatum bkDatum wtDatum :=
  op_struct (fun x : S49 => (x.f0, x.f1, x.f2, x.f3)) (fun a => ⟨a.1, a.2.1, a.2.2.1, a.2.2.2⟩) (fun _ => rfl) Try.underlying49 (by kernel_rfl)
    (opf_cons opKind rfl rfl (opf_cons opStr rfl rfl (opf_cons opChunks rfl rfl (opf_one opKids rfl))))
theorem opData : Rdg Try.prog 22 (Kd.slice 49 k49) wfData bkData wtData := op_slice (B := 72) opDatum Try.underlying22 (by kernel_rfl) (by kernel_rfl)

theorem Ev.now {α : Type} (r : α) : Ev (fun _ => some r) r := ⟨0, fun _ _ => rfl⟩
theorem Ev.eq {α : Type} {g : Nat → Option α} {r s : α} (h : Ev g r) (e : r = s) : Ev g s := e ▸ h
theorem wrap_idx {i : Nat} {n : Nat} (h : i < n) (hn : n ≤ maxLen) : wrap64 ((i : Int) + 1) = ((i + 1 : Nat) : Int) := by
  unfold wrap64 maxLen at *
  omega
theorem byte_wrap {x : Int} (h : (Lit.int .u8 x).wf = true) : wrap64 x = x ∧ 0 ≤ x ∧ x ≤ 255 := by
  have : 0 ≤ x ∧ x ≤ 255 := by simpa [Lit.wf, IntKind.min, IntKind.max, IntKind.signed, IntKind.bits] using h
  unfold wrap64
  omega
theorem awake_true : Ev (fun k => bobbinlaw17_awake.f k) true := by
  refine Ev.of (fun k => bobbinlaw17_awake.mono k) (k := 10) ?_
  decide +kernel
theorem rdT_mem {d : List S49} {i : Int} (h0 : 0 ≤ i) (h1 : i < d.length) : rd_T49 d i ∈ d := by
  unfold rd_T49
  have hi : i.toNat < d.length := by omega
  rw [List.getD_eq_getElem?_getD, List.getElem?_eq_getElem hi]
  exact List.getElem_mem hi
theorem drop_rd {xs : List Int} {j : Nat} (h : j < xs.length) : xs.drop j = rd xs (j : Int) :: xs.drop (j + 1) := by
  rw [List.drop_eq_getElem_cons h]
  unfold rd
  rw [Int.toNat_natCast, List.getD_eq_getElem?_getD, List.getElem?_eq_getElem h]
  rfl

def inr (d : List S49) (i : Int) : Bool := decide (0 ≤ i) && decide (i < (d.length : Int))
theorem inr_iff {d : List S49} {i : Int} : inr d i = true ↔ 0 ≤ i ∧ i < (d.length : Int) := by simp [inr]
theorem there_eq (d : List S49) (i : Int) : data_there.f d i = some (inr d i) := by
  unfold data_there.f inr
  by_cases h : i ≥ 0
  · rw [if_pos h, decide_eq_true (show 0 ≤ i from h), Bool.true_and]
  · rw [if_neg h, decide_eq_false (show ¬ 0 ≤ i from h), Bool.false_and]
theorem DataItems (d : List S49) (i stop : Int) (hd : wfData d) (ht : wtData d) (hi : (Lit.int .i64 i).wf = true) (hs : (Lit.int .u8 stop).wf = true) :
    (∃ k, bobbinlaw17_awake.f k = some true) ∧ (Items.inr d i = true → 0 ≤ (rd_T49 d i).f0 ∧ (rd_T49 d i).f0 ≤ 255) ∧ (Items.itemsM d i).length ≤ 140737488351232 ∧ 0 ≤ stop ∧ stop ≤ 255 := by
  refine ⟨Ev.rounds awake_true, fun h => ?_, ?_, (byte_wrap hs).2.1, (byte_wrap hs).2.2⟩
  · have hb : 0 ≤ i ∧ i < (d.length : Int) := by simpa [Items.inr] using h
    exact (byte_wrap (hd.2 _ (rdT_mem hb.1 hb.2)).1).2
  · unfold Items.itemsM
    cases hl : Items.isList d i with
    | false => simp
    | true =>
      have hb : 0 ≤ i ∧ i < (d.length : Int) := by
        unfold Items.isList Items.inr at hl
        simp only [Bool.and_eq_true, decide_eq_true_eq] at hl
        exact hl.1
      have := (ht.2 _ (rdT_mem hb.1 hb.2)).2.2.2.1
      simp only [if_true]
      omega

end Go.Proofs.Ytclanebbalgpfaa.DataItemsPure
