/- The plain law of DataKeeps: what the printed functions compute answers as the statement says. -/
import Derived.Test.YtclanebbalgpfaaOpen
import Derived.Test.YtclanebbalgpfaaPDataKeepsx
namespace Go.Proofs.Ytclanebbalgpfaa.DataKeepsPure
open Go.RowKit Go.Proofs.YtclanebbalgpfaaW.PrintWords Go.Proofs.Ytclanebbalgpfaa.Open Go.Proofs.Ytclanebbalgpfaa.PDataKeeps
set_option linter.unusedVariables false
abbrev wfInts (xs : List Int) : Prop := xs.length ≤ maxLen ∧ ∀ x ∈ xs, (Lit.int .i64 x).wf = true
abbrev wfBytes (xs : List Int) : Prop := xs.length ≤ maxLen ∧ ∀ x ∈ xs, (Lit.int .u8 x).wf = true
abbrev wfChunks (xs : List (List Int)) : Prop := xs.length ≤ maxLen ∧ ∀ x ∈ xs, wfBytes x
abbrev wfNames (xs : List ByteArray) : Prop := xs.length ≤ maxLen ∧ ∀ x ∈ xs, x.size ≤ maxLen
abbrev wfDatum (x : S49) : Prop := (Lit.int .u8 x.f0).wf = true ∧ x.f1.size ≤ maxLen ∧ wfChunks x.f2 ∧ wfInts x.f3
abbrev wfData (xs : List S49) : Prop := xs.length ≤ maxLen ∧ ∀ x ∈ xs, wfDatum x
abbrev bkRow (xs : List Int) : Nat := sumBy (fun _ => 1) xs + 1
abbrev bkChunks (xs : List (List Int)) : Nat := sumBy bkRow xs + 1
abbrev bkNames (xs : List ByteArray) : Nat := sumBy (fun s => s.size + 1) xs + 1
abbrev bkDatum (x : S49) : Nat := 1 + ((x.f1.size + 1) + (bkChunks x.f2 + bkRow x.f3)) + 1
abbrev bkData (xs : List S49) : Nat := sumBy bkDatum xs + 1
abbrev wtInts (xs : List Int) : Prop := xs.length * 8 ≤ 140737488351232 ∧ ∀ x ∈ xs, True
abbrev wtBytes (xs : List Int) : Prop := xs.length * 1 ≤ 140737488351232 ∧ ∀ x ∈ xs, True
abbrev wtChunks (xs : List (List Int)) : Prop := xs.length * 24 ≤ 140737488351232 ∧ ∀ x ∈ xs, wtBytes x
abbrev wtNames (xs : List ByteArray) : Prop := xs.length * 16 ≤ 140737488351232 ∧ ∀ x ∈ xs, x.size ≤ 140737488351232
abbrev wtDatum (x : S49) : Prop := True ∧ x.f1.size ≤ 140737488351232 ∧ wtChunks x.f2 ∧ wtInts x.f3
abbrev wtData (xs : List S49) : Prop := xs.length * 72 ≤ 140737488351232 ∧ ∀ x ∈ xs, wtDatum x
theorem opInt : Rdg Try.prog 3 (Kd.int .i64) (fun x => (Lit.int .i64 x).wf = true) (fun _ => 1) (fun _ => True) := op_int Try.underlying3 (by kernel_rfl)
theorem opByte : Rdg Try.prog 5 (Kd.int .u8) (fun x => (Lit.int .u8 x).wf = true) (fun _ => 1) (fun _ => True) := op_int Try.underlying5 (by kernel_rfl)
theorem opKind : Rdg Try.prog 46 (Kd.int .u8) (fun x => (Lit.int .u8 x).wf = true) (fun _ => 1) (fun _ => True) := op_int Try.underlying46 (by kernel_rfl)
theorem opStr : Rdg Try.prog 9 Kd.string (fun a => a.size ≤ maxLen) (fun a => a.size + 1) (fun a => a.size ≤ 140737488351232) := op_string Try.underlying9 (by kernel_rfl)
theorem opBytes : Rdg Try.prog 24 (Kd.slice 5 (Kd.int .u8)) wfBytes bkRow wtBytes := op_slice (B := 1) opByte Try.underlying24 (by kernel_rfl) (by kernel_rfl)
theorem opChunks : Rdg Try.prog 47 (Kd.slice 24 (Kd.slice 5 (Kd.int .u8))) wfChunks bkChunks wtChunks := op_slice (B := 24) opBytes Try.underlying47 (by kernel_rfl) (by kernel_rfl)
theorem opKids : Rdg Try.prog 27 (Kd.slice 3 (Kd.int .i64)) wfInts bkRow wtInts := op_slice (B := 8) opInt Try.underlying27 (by kernel_rfl) (by kernel_rfl)
theorem opNames : Rdg Try.prog 37 (Kd.slice 9 Kd.string) wfNames bkNames wtNames := op_slice (B := 16) opStr Try.underlying37 (by kernel_rfl) (by kernel_rfl)
theorem opDatum : Rdg Try.prog 49 k49 wfDatum bkDatum wtDatum :=
  op_struct (fun x : S49 => (x.f0, x.f1, x.f2, x.f3)) (fun a => ⟨a.1, a.2.1, a.2.2.1, a.2.2.2⟩) (fun _ => rfl) Try.underlying49 (by kernel_rfl)
    (opf_cons opKind rfl rfl (opf_cons opStr rfl rfl (opf_cons opChunks rfl rfl (opf_one opKids rfl))))
theorem opData : Rdg Try.prog 22 (Kd.slice 49 k49) wfData bkData wtData := op_slice (B := 72) opDatum Try.underlying22 (by kernel_rfl) (by kernel_rfl)

theorem Ev.now {α : Type} (r : α) : Ev (fun _ => some r) r := ⟨0, fun _ _ => rfl⟩
theorem Ev.eq {α : Type} {g : Nat → Option α} {r s : α} (h : Ev g r) (e : r = s) : Ev g s := e ▸ h
theorem wrap_idx {i : Nat} {n : Nat} (h : i < n) (hn : n ≤ maxLen) : wrap64 ((i : Int) + 1) = ((i + 1 : Nat) : Int) := by
  unfold wrap64 maxLen at *
  omega
theorem byte_wrap {x : Int} (h : (Lit.int .u8 x).wf = true) : wrap64 x = x ∧ 0 ≤ x ∧ x ≤ 255 := by
  have : 0 ≤ x ∧ x ≤ 255 := by simpa [Lit.wf, IntKind.min, IntKind.max, IntKind.signed, IntKind.bits] using h
  unfold wrap64
  omega
theorem awake_true : Ev (fun k => bobbinlaw17_awake.f k) true := by
  refine Ev.of (fun k => bobbinlaw17_awake.mono k) (k := 10) ?_
  decide +kernel
theorem rdT_mem {d : List S49} {i : Int} (h0 : 0 ≤ i) (h1 : i < d.length) : rd_T49 d i ∈ d := by
  unfold rd_T49
  have hi : i.toNat < d.length := by omega
  rw [List.getD_eq_getElem?_getD, List.getElem?_eq_getElem hi]
  exact List.getElem_mem hi
theorem drop_rd {xs : List Int} {j : Nat} (h : j < xs.length) : xs.drop j = rd xs (j : Int) :: xs.drop (j + 1) := by
  rw [List.drop_eq_getElem_cons h]
  unfold rd
  rw [Int.toNat_natCast, List.getD_eq_getElem?_getD, List.getElem?_eq_getElem h]
  rfl

def inr (d : List S49) (i : Int) : Bool := decide (0 ≤ i) && decide (i < (d.length : Int))
theorem inr_iff {d : List S49} {i : Int} : inr d i = true ↔ 0 ≤ i ∧ i < (d.length : Int) := by simp [inr]
theorem there_eq (d : List S49) (i : Int) : data_there.f d i = some (inr d i) := by
  unfold data_there.f inr
  by_cases h : i ≥ 0
  · rw [if_pos h, decide_eq_true (show 0 ≤ i from h), Bool.true_and]
  · rw [if_neg h, decide_eq_false (show ¬ 0 ≤ i from h), Bool.false_and]

theorem row_len (xs : List Int) : bkRow xs = xs.length + 1 := by
  have : ∀ l : List Int, sumBy (fun _ => 1) l = l.length := by
    intro l
    induction l with
    | nil => rfl
    | cons x r ih => simp only [sumBy, ih, List.length_cons]; omega
  rw [bkRow, this]
theorem flat_len : ∀ (l : List (List Int)), l.flatten.length ≤ sumBy bkRow l
  | [] => Nat.le_refl _
  | x :: r => by
    have := flat_len r
    simp only [List.flatten_cons, List.length_append, sumBy, row_len]
    omega
theorem datum_len {d : List S49} {i : Int} (h0 : 0 ≤ i) (h1 : i < d.length) : (rd_T49 d i).f2.flatten.length + 2 ≤ bkData d := by
  have h := sumBy_mem (bk := bkDatum) (rdT_mem h0 h1)
  have h2 := flat_len (rd_T49 d i).f2
  unfold bkData
  have : bkDatum (rd_T49 d i) = 1 + (((rd_T49 d i).f1.size + 1) + ((sumBy bkRow (rd_T49 d i).f2 + 1) + bkRow (rd_T49 d i).f3)) + 1 := rfl
  omega
theorem drop_rows {xs : List (List Int)} {j : Nat} (h : j < xs.length) : xs.drop j = rd_L2 xs (j : Int) :: xs.drop (j + 1) := by
  rw [List.drop_eq_getElem_cons h]
  unfold rd_L2
  rw [Int.toNat_natCast, List.getD_eq_getElem?_getD, List.getElem?_eq_getElem h]
  rfl

def valueM (d : List S49) (i : Int) : List Int := if inr d i = true ∧ (rd_T49 d i).f0 = 1 then (rd_T49 d i).f2.flatten else []
theorem value_len (d : List S49) (i : Int) : (valueM d i).length ≤ bkData d := by
  unfold valueM
  split
  · rename_i h
    obtain ⟨g0, g1⟩ := inr_iff.1 h.1
    have := datum_len g0 g1
    omega
  · simp

theorem value_loop (c : List (List Int)) (hc : c.length ≤ maxLen) : ∀ (m j : Nat), j + m = c.length → ∀ acc : List Int, acc.length + (c.drop j).flatten.length < 140737488355328 →
    Ev (fun k => data_Value.l0 k acc c (c.length : Int) (j : Int)) (acc ++ (c.drop j).flatten)
  | 0, j, hj, acc, _ => by
    rw [List.drop_eq_nil_of_le (by omega)]
    exact Ev.step (fun k => by simp only [data_Value.l0]; rw [if_neg (by omega)]) (Ev.eq (Ev.now acc) (by simp))
  | m + 1, j, hj, acc, ha => by
    rw [drop_rows (by omega)] at ha ⊢
    simp only [List.flatten_cons, List.length_append] at ha
    have nxt := value_loop c hc m (j + 1) (by omega) (acc ++ rd_L2 c (j : Int)) (by rw [List.length_append]; omega)
    refine Ev.step (fun k => ?_) (Ev.eq nxt (by simp [List.append_assoc]))
    simp only [data_Value.l0]
    rw [if_pos (by omega), if_pos (by omega), if_pos (by omega), if_pos (by omega), wrap_idx (show j < c.length by omega) hc]

theorem value_is (d : List S49) (hd : wfData d) (hb : bkData d ≤ 1048576) (i : Int) : Ev (fun k => data_Value.f k d i) (valueM d i) := by
  unfold data_Value.f
  rw [there_eq]
  simp only [Option.bind_some]
  have stop : Ev (fun k => data_Value.j0 k d i true) [] := Ev.step (f := fun _ => some []) (fun k => by simp only [data_Value.j0, if_true]) (Ev.now _)
  unfold valueM
  cases hin : inr d i with
  | false =>
    simp only [Bool.false_eq_true, if_false, false_and]
    exact stop
  | true =>
    obtain ⟨g0, g1⟩ := inr_iff.1 hin
    simp only [if_true, if_pos g0, if_pos g1, true_and]
    have hl := datum_len g0 g1
    by_cases h1 : (rd_T49 d i).f0 = 1
    · have e : ((rd_T49 d i).f0 != 1) = false := by simp [h1]
      simp only [if_pos h1, e]
      refine Ev.step (fun k => ?_) (value_loop (rd_T49 d i).f2 (hd.2 _ (rdT_mem g0 g1)).2.2.1.1 _ 0 (Nat.zero_add _) [] (by simp only [List.length_nil, List.drop_zero]; omega))
      simp only [data_Value.j0, Bool.false_eq_true, if_false, if_pos g0, if_pos g1]
      rfl
    · have e : ((rd_T49 d i).f0 != 1) = true := by simp [h1]
      simp only [if_neg h1, e]
      exact stop

theorem is_eq (d : List S49) (i : Int) : bobbinref17_is.f d i = some (inr d i) := by
  unfold bobbinref17_is.f inr
  by_cases h : i ≥ 0
  · rw [if_pos h, decide_eq_true (show 0 ≤ i from h), Bool.true_and]
  · rw [if_neg h, decide_eq_false (show ¬ 0 ≤ i from h), Bool.false_and]

theorem refvalue_loop (d : List S49) (i : Int) (g0 : 0 ≤ i) (g1 : i < d.length) (hc : (rd_T49 d i).f2.length ≤ maxLen) : ∀ (m j : Nat), j + m = (rd_T49 d i).f2.length → ∀ acc : List Int, acc.length + ((rd_T49 d i).f2.drop j).flatten.length < 140737488355328 →
    Ev (fun k => bobbinref17_Value.l0 k d i acc (j : Int)) (acc ++ ((rd_T49 d i).f2.drop j).flatten)
  | 0, j, hj, acc, _ => by
    rw [List.drop_eq_nil_of_le (by omega)]
    exact Ev.step (fun k => by simp only [bobbinref17_Value.l0]; rw [if_pos g0, if_pos g1, if_neg (by omega)]) (Ev.eq (Ev.now acc) (by simp))
  | m + 1, j, hj, acc, ha => by
    rw [drop_rows (by omega)] at ha ⊢
    simp only [List.flatten_cons, List.length_append] at ha
    have nxt := refvalue_loop d i g0 g1 hc m (j + 1) (by omega) (acc ++ rd_L2 (rd_T49 d i).f2 (j : Int)) (by rw [List.length_append]; omega)
    refine Ev.step (fun k => ?_) (Ev.eq nxt (by simp [List.append_assoc]))
    simp only [bobbinref17_Value.l0]
    rw [if_pos g0, if_pos g1, if_pos (by omega), if_pos (by omega), if_pos (by omega), wrap_idx (show j < (rd_T49 d i).f2.length by omega) hc]

theorem refvalue_is (d : List S49) (hd : wfData d) (hb : bkData d ≤ 1048576) (i : Int) : Ev (fun k => bobbinref17_Value.f k d i) (valueM d i) := by
  unfold bobbinref17_Value.f
  rw [is_eq]
  simp only [Option.bind_some]
  have stop : Ev (fun k => bobbinref17_Value.j0 k d i [] false) [] := Ev.step (f := fun _ => some []) (fun k => by simp only [bobbinref17_Value.j0, Bool.false_eq_true, if_false]) (Ev.now _)
  unfold valueM
  cases hin : inr d i with
  | false =>
    simp only [Bool.false_eq_true, if_false, false_and]
    exact stop
  | true =>
    obtain ⟨g0, g1⟩ := inr_iff.1 hin
    have hx := hd.2 _ (rdT_mem g0 g1)
    obtain ⟨hw, _⟩ := byte_wrap hx.1
    simp only [if_true, if_pos g0, if_pos g1, true_and, hw]
    have hl := datum_len g0 g1
    by_cases h1 : (rd_T49 d i).f0 = 1
    · have e : ((rd_T49 d i).f0 == 1) = true := by simp [h1]
      simp only [if_pos h1, e]
      refine Ev.step (fun k => ?_) (refvalue_loop d i g0 g1 hx.2.2.1.1 _ 0 (Nat.zero_add _) [] (by simp only [List.length_nil, List.drop_zero]; omega))
      simp only [bobbinref17_Value.j0, if_true]
      rfl
    · have e : ((rd_T49 d i).f0 == 1) = false := by simp [h1]
      simp only [if_neg h1, e]
      exact stop

theorem keeps_loop (d : List S49) (hd : wfData d) (hb : bkData d ≤ 1048576) (i : Int) : ∀ (m j : Nat) (v : List Int), v.length ≤ 1048576 → j + m = v.length → Ev (fun k => bobbinlaw17_DataKeeps.l0 k d i (strOfNums (valueM d i)) v (j : Int)) true
  | 0, j, v, hv, hj => by
    refine Ev.step (f := fun k => (bobbinref17_Value.f k d i).bind fun t => if (strOfNums t).toList = (strOfNums (valueM d i)).toList then (data_Value.f k d i).bind fun u => some ((strOfNums u).toList == (strOfNums (valueM d i)).toList) else some false) (fun k => ?_) ?_
    · simp only [bobbinlaw17_DataKeeps.l0]
      rw [if_neg (by omega)]
    · refine Ev.bind (refvalue_is d hd hb i) ?_
      simp only [if_true]
      refine Ev.bind (value_is d hd hb i) ?_
      simpa using Ev.now true
  | m + 1, j, v, hv, hj => by
    refine Ev.step (fun k => ?_) (keeps_loop d hd hb i m (j + 1) (v.set j ((rd v (j : Int) + 1) % 256)) (by rw [List.length_set]; exact hv) (by rw [List.length_set]; omega))
    simp only [bobbinlaw17_DataKeeps.l0]
    rw [if_pos (by omega), if_pos (by omega), wrap_idx (show j < v.length by omega) (by unfold maxLen; omega), Int.toNat_natCast]

theorem DataKeeps (d : List S49) (i : Int) (hd : wfData d) (_ : (Lit.int .i64 i).wf = true) (hb : bkData d ≤ 1048576) : ∃ k, bobbinlaw17_DataKeeps.f k d i = some true := by
  refine Ev.rounds (g := fun k => bobbinlaw17_DataKeeps.f k d i) ?_
  unfold bobbinlaw17_DataKeeps.f
  refine Ev.bind awake_true ?_
  simp only [if_true]
  refine Ev.bind (refvalue_is d hd hb i) ?_
  refine Ev.bind (value_is d hd hb i) ?_
  exact keeps_loop d hd hb i _ 0 _ (Nat.le_trans (value_len d i) hb) (Nat.zero_add _)

end Go.Proofs.Ytclanebbalgpfaa.DataKeepsPure
