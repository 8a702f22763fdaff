/- The plain law of DataShapes: what the printed functions compute answers as the statement says. -/
import Derived.Test.YtclanebbalgpfaaOpen
import Derived.Test.YtclanebbalgpfaaPDataShapesx1
import Derived.Test.YtclanebbalgpfaaPDataShapesx2
import Derived.Test.YtclanebbalgpfaaPDataShapesx4
namespace Go.Proofs.Ytclanebbalgpfaa.DataShapesPure
open Go.RowKit Go.Proofs.YtclanebbalgpfaaW.PrintWords Go.Proofs.Ytclanebbalgpfaa.Open Go.Proofs.Ytclanebbalgpfaa.PDataShapes
set_option linter.unusedVariables false
abbrev wfInts (xs : List Int) : Prop := xs.length ≤ maxLen ∧ ∀ x ∈ xs, (Lit.int .i64 x).wf = true
abbrev wfBytes (xs : List Int) : Prop := xs.length ≤ maxLen ∧ ∀ x ∈ xs, (Lit.int .u8 x).wf = true
abbrev wfChunks (xs : List (List Int)) : Prop := xs.length ≤ maxLen ∧ ∀ x ∈ xs, wfBytes x
abbrev wfNames (xs : List ByteArray) : Prop := xs.length ≤ maxLen ∧ ∀ x ∈ xs, x.size ≤ maxLen
abbrev wfDatum (x : S49) : Prop := (Lit.int .u8 x.f0).wf = true ∧ x.f1.size ≤ maxLen ∧ wfChunks x.f2 ∧ wfInts x.f3
abbrev wfData (xs : List S49) : Prop := xs.length ≤ maxLen ∧ ∀ x ∈ xs, wfDatum x
abbrev bkRow (xs : List Int) : Nat := sumBy (fun _ => 1) xs + 1
abbrev bkChunks (xs : List (List Int)) : Nat := sumBy bkRow xs + 1
abbrev bkNames (xs : List ByteArray) : Nat := sumBy (fun s => s.size + 1) xs + 1
abbrev bkDatum (x : S49) : Nat := 1 + ((x.f1.size + 1) + (bkChunks x.f2 + bkRow x.f3)) + 1
abbrev bkData (xs : List S49) : Nat := sumBy bkDatum xs + 1
abbrev wtInts (xs : List Int) : Prop := xs.length * 8 ≤ 140737488351232 ∧ ∀ x ∈ xs, True
abbrev wtBytes (xs : List Int) : Prop := xs.length * 1 ≤ 140737488351232 ∧ ∀ x ∈ xs, True
abbrev wtChunks (xs : List (List Int)) : Prop := xs.length * 24 ≤ 140737488351232 ∧ ∀ x ∈ xs, wtBytes x
abbrev wtNames (xs : List ByteArray) : Prop := xs.length * 16 ≤ 140737488351232 ∧ ∀ x ∈ xs, x.size ≤ 140737488351232
abbrev wtDatum (x : S49) : Prop := True ∧ x.f1.size ≤ 140737488351232 ∧ wtChunks x.f2 ∧ wtInts x.f3
abbrev wtData (xs : List S49) : Prop := xs.length * 72 ≤ 140737488351232 ∧ ∀ x ∈ xs, wtDatum x
theorem opInt : Rdg Try.prog 3 (Kd.int .i64) (fun x => (Lit.int .i64 x).wf = true) (fun _ => 1) (fun _ => True) := op_int Try.underlying3 (by kernel_rfl)
theorem opByte : Rdg Try.prog 5 (Kd.int .u8) (fun x => (Lit.int .u8 x).wf = true) (fun _ => 1) (fun _ => True) := op_int Try.underlying5 (by kernel_rfl)
theorem opKind : Rdg Try.prog 46 (Kd.int .u8) (fun x => (Lit.int .u8 x).wf = true) (fun _ => 1) (fun _ => True) := op_int Try.underlying46 (by kernel_rfl)
theorem opStr : Rdg Try.prog 9 Kd.string (fun a => a.size ≤ maxLen) (fun a => a.size + 1) (fun a => a.size ≤ 140737488351232) := op_string Try.underlying9 (by kernel_rfl)
theorem opBytes : Rdg Try.prog 24 (Kd.slice 5 (Kd.int .u8)) wfBytes bkRow wtBytes := op_slice (B := 1) opByte Try.underlying24 (by kernel_rfl) (by kernel_rfl)
theorem opChunks : Rdg Try.prog 47 (Kd.slice 24 (Kd.slice 5 (Kd.int .u8))) wfChunks bkChunks wtChunks := op_slice (B := 24) opBytes Try.underlying47 (by kernel_rfl) (by kernel_rfl)
theorem opKids : Rdg Try.prog 27 (Kd.slice 3 (Kd.int .i64)) wfInts bkRow wtInts := op_slice (B := 8) opInt Try.underlying27 (by kernel_rfl) (by kernel_rfl)
theorem opNames : Rdg Try.prog 37 (Kd.slice 9 Kd.string) wfNames bkNames wtNames := op_slice (B := 16) opStr Try.underlying37 (by kernel_rfl) (by kernel_rfl)
theorem opDatum : Rdg Try.prog 49 k49 wfDatum bkDatum wtDatum :=
  op_struct (fun x : S49 => (x.f0, x.f1, x.f2, x.f3)) (fun a => ⟨a.1, a.2.1, a.2.2.1, a.2.2.2⟩) (fun _ => rfl) Try.underlying49 (by kernel_rfl)
    (opf_cons opKind rfl rfl (opf_cons opStr rfl rfl (opf_cons opChunks rfl rfl (opf_one opKids rfl))))
theorem opData : Rdg Try.prog 22 (Kd.slice 49 k49) wfData bkData wtData := op_slice (B := 72) opDatum Try.underlying22 (by kernel_rfl) (by kernel_rfl)

theorem Ev.now {α : Type} (r : α) : Ev (fun _ => some r) r := ⟨0, fun _ _ => rfl⟩
theorem Ev.eq {α : Type} {g : Nat → Option α} {r s : α} (h : Ev g r) (e : r = s) : Ev g s := e ▸ h
theorem wrap_idx {i : Nat} {n : Nat} (h : i < n) (hn : n ≤ maxLen) : wrap64 ((i : Int) + 1) = ((i + 1 : Nat) : Int) := by
  unfold wrap64 maxLen at *
  omega
theorem byte_wrap {x : Int} (h : (Lit.int .u8 x).wf = true) : wrap64 x = x ∧ 0 ≤ x ∧ x ≤ 255 := by
  have : 0 ≤ x ∧ x ≤ 255 := by simpa [Lit.wf, IntKind.min, IntKind.max, IntKind.signed, IntKind.bits] using h
  unfold wrap64
  omega
theorem awake_true : Ev (fun k => bobbinlaw17_awake.f k) true := by
  refine Ev.of (fun k => bobbinlaw17_awake.mono k) (k := 10) ?_
  decide +kernel
theorem rdT_mem {d : List S49} {i : Int} (h0 : 0 ≤ i) (h1 : i < d.length) : rd_T49 d i ∈ d := by
  unfold rd_T49
  have hi : i.toNat < d.length := by omega
  rw [List.getD_eq_getElem?_getD, List.getElem?_eq_getElem hi]
  exact List.getElem_mem hi
theorem drop_rd {xs : List Int} {j : Nat} (h : j < xs.length) : xs.drop j = rd xs (j : Int) :: xs.drop (j + 1) := by
  rw [List.drop_eq_getElem_cons h]
  unfold rd
  rw [Int.toNat_natCast, List.getD_eq_getElem?_getD, List.getElem?_eq_getElem h]
  rfl

def inr (d : List S49) (i : Int) : Bool := decide (0 ≤ i) && decide (i < (d.length : Int))
theorem inr_iff {d : List S49} {i : Int} : inr d i = true ↔ 0 ≤ i ∧ i < (d.length : Int) := by simp [inr]
theorem there_eq (d : List S49) (i : Int) : data_there.f d i = some (inr d i) := by
  unfold data_there.f inr
  by_cases h : i ≥ 0
  · rw [if_pos h, decide_eq_true (show 0 ≤ i from h), Bool.true_and]
  · rw [if_neg h, decide_eq_false (show ¬ 0 ≤ i from h), Bool.false_and]

theorem row_len (xs : List Int) : bkRow xs = xs.length + 1 := by
  have : ∀ l : List Int, sumBy (fun _ => 1) l = l.length := by
    intro l
    induction l with
    | nil => rfl
    | cons x r ih => simp only [sumBy, ih, List.length_cons]; omega
  rw [bkRow, this]
theorem flat_len : ∀ (l : List (List Int)), l.flatten.length ≤ sumBy bkRow l
  | [] => Nat.le_refl _
  | x :: r => by
    have := flat_len r
    simp only [List.flatten_cons, List.length_append, sumBy, row_len]
    omega
theorem datum_len {d : List S49} {i : Int} (h0 : 0 ≤ i) (h1 : i < d.length) : (rd_T49 d i).f2.flatten.length + 2 ≤ bkData d := by
  have h := sumBy_mem (bk := bkDatum) (rdT_mem h0 h1)
  have h2 := flat_len (rd_T49 d i).f2
  unfold bkData
  have : bkDatum (rd_T49 d i) = 1 + (((rd_T49 d i).f1.size + 1) + ((sumBy bkRow (rd_T49 d i).f2 + 1) + bkRow (rd_T49 d i).f3)) + 1 := rfl
  omega
theorem drop_rows {xs : List (List Int)} {j : Nat} (h : j < xs.length) : xs.drop j = rd_L2 xs (j : Int) :: xs.drop (j + 1) := by
  rw [List.drop_eq_getElem_cons h]
  unfold rd_L2
  rw [Int.toNat_natCast, List.getD_eq_getElem?_getD, List.getElem?_eq_getElem h]
  rfl

def valueM (d : List S49) (i : Int) : List Int := if inr d i = true ∧ (rd_T49 d i).f0 = 1 then (rd_T49 d i).f2.flatten else []
theorem value_len (d : List S49) (i : Int) : (valueM d i).length ≤ bkData d := by
  unfold valueM
  split
  · rename_i h
    obtain ⟨g0, g1⟩ := inr_iff.1 h.1
    have := datum_len g0 g1
    omega
  · simp

theorem value_loop (c : List (List Int)) (hc : c.length ≤ maxLen) : ∀ (m j : Nat), j + m = c.length → ∀ acc : List Int, acc.length + (c.drop j).flatten.length < 140737488355328 →
    Ev (fun k => data_Value.l0 k acc c (c.length : Int) (j : Int)) (acc ++ (c.drop j).flatten)
  | 0, j, hj, acc, _ => by
    rw [List.drop_eq_nil_of_le (by omega)]
    exact Ev.step (fun k => by simp only [data_Value.l0]; rw [if_neg (by omega)]) (Ev.eq (Ev.now acc) (by simp))
  | m + 1, j, hj, acc, ha => by
    rw [drop_rows (by omega)] at ha ⊢
    simp only [List.flatten_cons, List.length_append] at ha
    have nxt := value_loop c hc m (j + 1) (by omega) (acc ++ rd_L2 c (j : Int)) (by rw [List.length_append]; omega)
    refine Ev.step (fun k => ?_) (Ev.eq nxt (by simp [List.append_assoc]))
    simp only [data_Value.l0]
    rw [if_pos (by omega), if_pos (by omega), if_pos (by omega), if_pos (by omega), wrap_idx (show j < c.length by omega) hc]

theorem value_is (d : List S49) (hd : wfData d) (hb : bkData d ≤ 1048576) (i : Int) : Ev (fun k => data_Value.f k d i) (valueM d i) := by
  unfold data_Value.f
  rw [there_eq]
  simp only [Option.bind_some]
  have stop : Ev (fun k => data_Value.j0 k d i true) [] := Ev.step (f := fun _ => some []) (fun k => by simp only [data_Value.j0, if_true]) (Ev.now _)
  unfold valueM
  cases hin : inr d i with
  | false =>
    simp only [Bool.false_eq_true, if_false, false_and]
    exact stop
  | true =>
    obtain ⟨g0, g1⟩ := inr_iff.1 hin
    simp only [if_true, if_pos g0, if_pos g1, true_and]
    have hl := datum_len g0 g1
    by_cases h1 : (rd_T49 d i).f0 = 1
    · have e : ((rd_T49 d i).f0 != 1) = false := by simp [h1]
      simp only [if_pos h1, e]
      refine Ev.step (fun k => ?_) (value_loop (rd_T49 d i).f2 (hd.2 _ (rdT_mem g0 g1)).2.2.1.1 _ 0 (Nat.zero_add _) [] (by simp only [List.length_nil, List.drop_zero]; omega))
      simp only [data_Value.j0, Bool.false_eq_true, if_false, if_pos g0, if_pos g1]
      rfl
    · have e : ((rd_T49 d i).f0 != 1) = true := by simp [h1]
      simp only [if_neg h1, e]
      exact stop

theorem is_eq (d : List S49) (i : Int) : bobbinref17_is.f d i = some (inr d i) := by
  unfold bobbinref17_is.f inr
  by_cases h : i ≥ 0
  · rw [if_pos h, decide_eq_true (show 0 ≤ i from h), Bool.true_and]
  · rw [if_neg h, decide_eq_false (show ¬ 0 ≤ i from h), Bool.false_and]

theorem refvalue_loop (d : List S49) (i : Int) (g0 : 0 ≤ i) (g1 : i < d.length) (hc : (rd_T49 d i).f2.length ≤ maxLen) : ∀ (m j : Nat), j + m = (rd_T49 d i).f2.length → ∀ acc : List Int, acc.length + ((rd_T49 d i).f2.drop j).flatten.length < 140737488355328 →
    Ev (fun k => bobbinref17_Value.l0 k d i acc (j : Int)) (acc ++ ((rd_T49 d i).f2.drop j).flatten)
  | 0, j, hj, acc, _ => by
    rw [List.drop_eq_nil_of_le (by omega)]
    exact Ev.step (fun k => by simp only [bobbinref17_Value.l0]; rw [if_pos g0, if_pos g1, if_neg (by omega)]) (Ev.eq (Ev.now acc) (by simp))
  | m + 1, j, hj, acc, ha => by
    rw [drop_rows (by omega)] at ha ⊢
    simp only [List.flatten_cons, List.length_append] at ha
    have nxt := refvalue_loop d i g0 g1 hc m (j + 1) (by omega) (acc ++ rd_L2 (rd_T49 d i).f2 (j : Int)) (by rw [List.length_append]; omega)
    refine Ev.step (fun k => ?_) (Ev.eq nxt (by simp [List.append_assoc]))
    simp only [bobbinref17_Value.l0]
    rw [if_pos g0, if_pos g1, if_pos (by omega), if_pos (by omega), if_pos (by omega), wrap_idx (show j < (rd_T49 d i).f2.length by omega) hc]

theorem refvalue_is (d : List S49) (hd : wfData d) (hb : bkData d ≤ 1048576) (i : Int) : Ev (fun k => bobbinref17_Value.f k d i) (valueM d i) := by
  unfold bobbinref17_Value.f
  rw [is_eq]
  simp only [Option.bind_some]
  have stop : Ev (fun k => bobbinref17_Value.j0 k d i [] false) [] := Ev.step (f := fun _ => some []) (fun k => by simp only [bobbinref17_Value.j0, Bool.false_eq_true, if_false]) (Ev.now _)
  unfold valueM
  cases hin : inr d i with
  | false =>
    simp only [Bool.false_eq_true, if_false, false_and]
    exact stop
  | true =>
    obtain ⟨g0, g1⟩ := inr_iff.1 hin
    have hx := hd.2 _ (rdT_mem g0 g1)
    obtain ⟨hw, _⟩ := byte_wrap hx.1
    simp only [if_true, if_pos g0, if_pos g1, true_and, hw]
    have hl := datum_len g0 g1
    by_cases h1 : (rd_T49 d i).f0 = 1
    · have e : ((rd_T49 d i).f0 == 1) = true := by simp [h1]
      simp only [if_pos h1, e]
      refine Ev.step (fun k => ?_) (refvalue_loop d i g0 g1 hx.2.2.1.1 _ 0 (Nat.zero_add _) [] (by simp only [List.length_nil, List.drop_zero]; omega))
      simp only [bobbinref17_Value.j0, if_true]
      rfl
    · have e : ((rd_T49 d i).f0 == 1) = false := by simp [h1]
      simp only [if_neg h1, e]
      exact stop

def trueM (d : List S49) (i : Int) : Bool :=
  inr d i && ((decide ((rd_T49 d i).f0 = 1) && decide (0 < (rd_T49 d i).f2.flatten.length)) || ((decide ((rd_T49 d i).f0 = 2) || decide ((rd_T49 d i).f0 = 3)) && decide (0 < (rd_T49 d i).f3.length)))

theorem true_loop (d : List S49) (i : Int) (hin : inr d i = true) (hc : (rd_T49 d i).f2.length ≤ maxLen) : ∀ (m j : Nat), j + m = (rd_T49 d i).f2.length →
    Ev (fun k => data_True.l0 k d i (rd_T49 d i).f2 ((rd_T49 d i).f2.length : Int) (j : Int))
      ((decide ((rd_T49 d i).f0 = 1) && decide (0 < ((rd_T49 d i).f2.drop j).flatten.length)) || ((decide ((rd_T49 d i).f0 = 2) || decide ((rd_T49 d i).f0 = 3)) && decide (0 < (rd_T49 d i).f3.length)))
  | 0, j, hj => by
    obtain ⟨g0, g1⟩ := inr_iff.1 hin
    rw [List.drop_eq_nil_of_le (by omega)]
    by_cases c2 : (rd_T49 d i).f0 = 2
    · refine Ev.step (fun k => ?_) (Ev.eq (Ev.now (decide ((((rd_T49 d i).f3).length : Int) > 0))) (by simp [c2]))
      simp only [data_True.l0]
      rw [if_neg (by omega), if_pos g0, if_pos g1, if_pos c2]
    · by_cases c3 : (rd_T49 d i).f0 = 3
      · refine Ev.step (fun k => ?_) (Ev.eq (Ev.now (decide ((((rd_T49 d i).f3).length : Int) > 0))) (by simp [c3]))
        simp only [data_True.l0]
        rw [if_neg (by omega), if_pos g0, if_pos g1, if_neg c2, if_pos c3]
      · refine Ev.step (fun k => ?_) (Ev.eq (Ev.now false) (by simp [c2, c3]))
        simp only [data_True.l0]
        rw [if_neg (by omega), if_pos g0, if_pos g1, if_neg c2, if_neg c3]
  | m + 1, j, hj => by
    obtain ⟨g0, g1⟩ := inr_iff.1 hin
    rw [drop_rows (by omega)]
    have nxt := true_loop d i hin hc m (j + 1) (by omega)
    by_cases c1 : ((rd_L2 (rd_T49 d i).f2 (j : Int)).length : Int) > 0
    · by_cases c2 : (rd_T49 d i).f0 = 1
      · refine Ev.step (fun k => ?_) (Ev.eq (Ev.now true) ?_)
        · simp only [data_True.l0]
          rw [if_pos (by omega), if_pos (by omega), if_pos (by omega), if_pos c1, if_pos g0, if_pos g1, if_pos c2]
        · have : 0 < (rd_L2 (rd_T49 d i).f2 (j : Int)).length := by omega
          simp only [List.flatten_cons, List.length_append, c2, decide_true, Bool.true_and]
          rw [decide_eq_true (by omega), Bool.true_or]
      · refine Ev.step (fun k => ?_) (Ev.eq nxt (by simp [c2]))
        simp only [data_True.l0]
        rw [if_pos (by omega), if_pos (by omega), if_pos (by omega), if_pos c1, if_pos g0, if_pos g1, if_neg c2, wrap_idx (show j < (rd_T49 d i).f2.length by omega) hc]
    · have e : rd_L2 (rd_T49 d i).f2 (j : Int) = [] := List.eq_nil_of_length_eq_zero (by omega)
      refine Ev.step (fun k => ?_) (Ev.eq nxt (by rw [e]; rfl))
      simp only [data_True.l0]
      rw [if_pos (by omega), if_pos (by omega), if_pos (by omega), if_neg c1, wrap_idx (show j < (rd_T49 d i).f2.length by omega) hc]

theorem true_is (d : List S49) (hd : wfData d) (i : Int) : Ev (fun k => data_True.f k d i) (trueM d i) := by
  unfold data_True.f
  rw [there_eq]
  simp only [Option.bind_some]
  cases hin : inr d i with
  | false =>
    simp only [Bool.false_eq_true, if_false]
    exact Ev.eq (Ev.now false) (by simp [trueM, hin])
  | true =>
    obtain ⟨g0, g1⟩ := inr_iff.1 hin
    simp only [if_true, if_pos g0, if_pos g1]
    refine Ev.eq (true_loop d i hin (hd.2 _ (rdT_mem g0 g1)).2.2.1.1 _ 0 (Nat.zero_add _)) ?_
    unfold trueM
    rw [hin, Bool.true_and]
    rfl

theorem reftrue_is (d : List S49) (hd : wfData d) (hb : bkData d ≤ 1048576) (i : Int) : Ev (fun k => bobbinref17_True.f k d i) (trueM d i) := by
  unfold bobbinref17_True.f
  rw [is_eq]
  simp only [Option.bind_some]
  cases hin : inr d i with
  | false =>
    simp only [Bool.false_eq_true, if_false]
    exact Ev.eq (Ev.now false) (by simp [trueM, hin])
  | true =>
    obtain ⟨g0, g1⟩ := inr_iff.1 hin
    have hx := hd.2 _ (rdT_mem g0 g1)
    obtain ⟨hw, _⟩ := byte_wrap hx.1
    simp only [if_true, if_pos g0, if_pos g1, hw]
    by_cases c1 : (rd_T49 d i).f0 = 1
    · simp only [if_pos c1]
      refine Ev.bind (refvalue_is d hd hb i) ?_
      have ev : valueM d i = (rd_T49 d i).f2.flatten := by simp [valueM, hin, c1]
      rw [ev]
      have n2 : ¬ (rd_T49 d i).f0 = 2 := by omega
      have n3 : ¬ (rd_T49 d i).f0 = 3 := by omega
      simp only [if_neg n2, if_neg n3]
      by_cases c : ((rd_T49 d i).f2.flatten.length : Int) > 0
      · simp only [if_pos c]
        have c' : 0 < (rd_T49 d i).f2.flatten.length := by omega
        refine Ev.eq (Ev.now true) ?_
        simp only [trueM, hin, c1, decide_true, Bool.true_and]
        rw [decide_eq_true c', Bool.true_or]
      · simp only [if_neg c]
        have c' : ¬ 0 < (rd_T49 d i).f2.flatten.length := by omega
        refine Ev.eq (Ev.now false) ?_
        simp only [trueM, hin, decide_eq_false n2, decide_eq_false n3, Bool.or_self, Bool.false_and, Bool.or_false]
        rw [decide_eq_false c', Bool.and_false, Bool.and_false]
    · simp only [if_neg c1]
      by_cases c2 : (rd_T49 d i).f0 = 2
      · simp only [if_pos c2]
        exact Ev.eq (Ev.now _) (by simp [trueM, hin, c2])
      · simp only [if_neg c2]
        by_cases c3 : (rd_T49 d i).f0 = 3
        · simp only [if_pos c3]
          exact Ev.eq (Ev.now _) (by simp [trueM, hin, c3])
        · simp only [if_neg c3]
          exact Ev.eq (Ev.now _) (by simp [trueM, hin, c1, c2, c3])

def headM (a b : List S49) (i : Int) : Bool :=
  decide ((rd_T49 a i).f0 = (rd_T49 b i).f0) && (decide ((rd_T49 a i).f1.toList = (rd_T49 b i).f1.toList) && (decide ((rd_T49 a i).f3.length = (rd_T49 b i).f3.length) && decide (trueM a i = trueM b i)))
def sameFrom (a b : List S49) : Nat → Nat → Bool
  | 0, _ => true
  | m + 1, i => headM a b i && (decide ((rd_T49 a i).f3 = (rd_T49 b i).f3) && sameFrom a b m (i + 1))
def sameM (a b : List S49) : Bool := decide (a.length = b.length) && sameFrom a b a.length 0

theorem head_symm (a b : List S49) (i : Int) : headM a b i = headM b a i := by
  unfold headM
  rw [decide_eq_decide.2 (show (rd_T49 a i).f0 = (rd_T49 b i).f0 ↔ (rd_T49 b i).f0 = (rd_T49 a i).f0 from eq_comm), decide_eq_decide.2 (show (rd_T49 a i).f1.toList = (rd_T49 b i).f1.toList ↔ (rd_T49 b i).f1.toList = (rd_T49 a i).f1.toList from eq_comm),
    decide_eq_decide.2 (show (rd_T49 a i).f3.length = (rd_T49 b i).f3.length ↔ (rd_T49 b i).f3.length = (rd_T49 a i).f3.length from eq_comm), decide_eq_decide.2 (show trueM a i = trueM b i ↔ trueM b i = trueM a i from eq_comm)]
theorem from_symm (a b : List S49) : ∀ m i, sameFrom a b m i = sameFrom b a m i
  | 0, i => rfl
  | m + 1, i => by
    simp only [sameFrom]
    rw [head_symm, from_symm a b m, decide_eq_decide.2 (show (rd_T49 a i).f3 = (rd_T49 b i).f3 ↔ (rd_T49 b i).f3 = (rd_T49 a i).f3 from eq_comm)]
theorem same_symm (a b : List S49) : sameM a b = sameM b a := by
  unfold sameM
  by_cases h : a.length = b.length
  · rw [from_symm, h]
  · rw [decide_eq_false h, decide_eq_false (fun e => h e.symm), Bool.false_and, Bool.false_and]
theorem from_refl (a : List S49) : ∀ m i, sameFrom a a m i = true
  | 0, i => rfl
  | m + 1, i => by simp [sameFrom, headM, from_refl a m]
theorem same_refl (a : List S49) : sameM a a = true := by simp [sameM, from_refl]

theorem kids_prog (a b : List S49) (ha : wfData a) (i : Nat) (h1 : i < a.length) (h2 : i < b.length) (hl : (rd_T49 a i).f3.length = (rd_T49 b i).f3.length) (r : Bool)
    (nx : Ev (fun k => data_SameShape.l0 k a b (a.length : Int) ((i + 1 : Nat) : Int)) r) : ∀ (m j : Nat), j + m = (rd_T49 a i).f3.length →
    Ev (fun k => data_SameShape.l1 k a b (i : Int) (a.length : Int) (i : Int) (rd_T49 a i).f3 ((rd_T49 a i).f3.length : Int) (j : Int)) (decide ((rd_T49 a i).f3.drop j = (rd_T49 b i).f3.drop j) && r)
  | 0, j, hj => by
    rw [List.drop_eq_nil_of_le (by omega), List.drop_eq_nil_of_le (by omega)]
    refine Ev.step (fun k => ?_) (Ev.eq nx (by simp))
    simp only [data_SameShape.l1]
    rw [if_neg (by omega), wrap_idx h1 ha.1]
  | m + 1, j, hj => by
    have hk := (ha.2 _ (rdT_mem (d := a) (i := (i : Int)) (by omega) (by omega))).2.2.2.1
    rw [drop_rd (by omega), drop_rd (xs := (rd_T49 b i).f3) (by omega)]
    by_cases c : rd (rd_T49 a i).f3 (j : Int) = rd (rd_T49 b i).f3 (j : Int)
    · refine Ev.step (fun k => ?_) (Ev.eq (kids_prog a b ha i h1 h2 hl r nx m (j + 1) (by omega)) (by simp [c]))
      simp only [data_SameShape.l1]
      rw [if_pos (by omega), if_pos (by omega), if_pos (by omega), if_pos (by omega), if_pos (by omega), if_pos (by omega), if_pos c, wrap_idx (show j < (rd_T49 a i).f3.length by omega) hk]
    · refine Ev.step (fun k => ?_) (Ev.eq (Ev.now false) (by simp [c]))
      simp only [data_SameShape.l1]
      rw [if_pos (by omega), if_pos (by omega), if_pos (by omega), if_pos (by omega), if_pos (by omega), if_pos (by omega), if_neg c]

theorem rows_prog (a b : List S49) (ha : wfData a) (hb : wfData b) (hlen : a.length = b.length) : ∀ (m i : Nat), i + m = a.length → Ev (fun k => data_SameShape.l0 k a b (a.length : Int) (i : Int)) (sameFrom a b m i)
  | 0, i, hi => by
    refine Ev.step (fun k => ?_) (Ev.now true)
    simp only [data_SameShape.l0]
    rw [if_neg (by omega)]
  | m + 1, i, hi => by
    have nx := rows_prog a b ha hb hlen m (i + 1) (by omega)
    have bad : ∀ x : Bool, x = true → Ev (fun k => data_SameShape.j1 k a b (i : Int) (a.length : Int) (i : Int) x) false := fun x hx => by
      subst hx
      exact Ev.step (fun k => by simp only [data_SameShape.j1, if_true]) (Ev.now false)
    by_cases c1 : (rd_T49 a i).f0 = (rd_T49 b i).f0
    · by_cases c2 : (rd_T49 a i).f1.toList = (rd_T49 b i).f1.toList
      · by_cases c3 : ((rd_T49 a i).f3.length : Int) = ((rd_T49 b i).f3.length : Int)
        · refine Ev.step (f := fun k => (data_True.f k a i).bind fun t => (data_True.f k b i).bind fun u => data_SameShape.j1 k a b (i : Int) (a.length : Int) (i : Int) (t != u)) (fun k => ?_) ?_
          · simp only [data_SameShape.l0]
            rw [if_pos (by omega), if_pos (by omega), if_pos (by omega), if_pos (by omega), if_pos c1, if_pos c2, if_pos c3]
          · refine Ev.bind (true_is a ha i) ?_
            refine Ev.bind (true_is b hb i) ?_
            by_cases c4 : trueM a i = trueM b i
            · have e : (trueM a i != trueM b i) = false := by simp [c4]
              rw [e]
              have h3 : (rd_T49 a i).f3.length = (rd_T49 b i).f3.length := by omega
              refine Ev.step (fun k => ?_) (Ev.eq (kids_prog a b ha i (by omega) (by omega) h3 _ nx _ 0 (Nat.zero_add _)) ?_)
              · simp only [data_SameShape.j1, Bool.false_eq_true, if_false]
                rw [if_pos (by omega), if_pos (by omega)]
                rfl
              · simp only [sameFrom, headM, List.drop_zero, decide_eq_true c1, decide_eq_true c2, decide_eq_true h3, decide_eq_true c4, Bool.true_and]
            · refine Ev.eq (bad _ (by simpa using c4)) ?_
              simp [sameFrom, headM, c4]
        · refine Ev.step (fun k => ?_) (Ev.eq (bad true rfl) ?_)
          · simp only [data_SameShape.l0]
            rw [if_pos (by omega), if_pos (by omega), if_pos (by omega), if_pos (by omega), if_pos c1, if_pos c2, if_neg c3]
          · have h3 : ¬ (rd_T49 a i).f3.length = (rd_T49 b i).f3.length := by omega
            simp [sameFrom, headM, h3]
      · refine Ev.step (fun k => ?_) (Ev.eq (bad true rfl) ?_)
        · simp only [data_SameShape.l0]
          rw [if_pos (by omega), if_pos (by omega), if_pos (by omega), if_pos (by omega), if_pos c1, if_neg c2]
        · simp [sameFrom, headM, c2]
    · refine Ev.step (fun k => ?_) (Ev.eq (bad true rfl) ?_)
      · simp only [data_SameShape.l0]
        rw [if_pos (by omega), if_pos (by omega), if_pos (by omega), if_pos (by omega), if_neg c1]
      · simp [sameFrom, headM, c1]

theorem same_is (a b : List S49) (ha : wfData a) (hb : wfData b) : Ev (fun k => data_SameShape.f k a b) (sameM a b) := by
  unfold data_SameShape.f sameM
  by_cases h : a.length = b.length
  · simp only [if_pos (show (a.length : Int) = (b.length : Int) by omega)]
    exact Ev.eq (rows_prog a b ha hb h _ 0 (Nat.zero_add _)) (by rw [decide_eq_true h, Bool.true_and])
  · simp only [if_neg (show ¬ (a.length : Int) = (b.length : Int) by omega)]
    exact Ev.eq (Ev.now false) (by rw [decide_eq_false h, Bool.false_and])

theorem kids_ref (a b : List S49) (ha : wfData a) (i : Nat) (h1 : i < a.length) (h2 : i < b.length) (hl : (rd_T49 a i).f3.length = (rd_T49 b i).f3.length) (r : Bool)
    (nx : Ev (fun k => bobbinref17_Same.l0 k a b ((i + 1 : Nat) : Int)) r) : ∀ (m j : Nat), j + m = (rd_T49 a i).f3.length →
    Ev (fun k => bobbinref17_Same.l1 k a b (i : Int) (j : Int)) (decide ((rd_T49 a i).f3.drop j = (rd_T49 b i).f3.drop j) && r)
  | 0, j, hj => by
    rw [List.drop_eq_nil_of_le (by omega), List.drop_eq_nil_of_le (by omega)]
    refine Ev.step (fun k => ?_) (Ev.eq nx (by simp))
    simp only [bobbinref17_Same.l1]
    rw [if_pos (by omega), if_pos (by omega), if_neg (by omega), wrap_idx h1 ha.1]
  | m + 1, j, hj => by
    have hk := (ha.2 _ (rdT_mem (d := a) (i := (i : Int)) (by omega) (by omega))).2.2.2.1
    rw [drop_rd (by omega), drop_rd (xs := (rd_T49 b i).f3) (by omega)]
    by_cases c : rd (rd_T49 a i).f3 (j : Int) = rd (rd_T49 b i).f3 (j : Int)
    · refine Ev.step (fun k => ?_) (Ev.eq (kids_ref a b ha i h1 h2 hl r nx m (j + 1) (by omega)) (by simp [c]))
      simp only [bobbinref17_Same.l1]
      rw [if_pos (by omega), if_pos (by omega), if_pos (by omega), if_pos (by omega), if_pos (by omega), if_pos (by omega), if_pos c, wrap_idx (show j < (rd_T49 a i).f3.length by omega) hk]
    · refine Ev.step (fun k => ?_) (Ev.eq (Ev.now false) (by simp [c]))
      simp only [bobbinref17_Same.l1]
      rw [if_pos (by omega), if_pos (by omega), if_pos (by omega), if_pos (by omega), if_pos (by omega), if_pos (by omega), if_neg c]

theorem rows_ref (a b : List S49) (ha : wfData a) (hb : wfData b) (sa : bkData a ≤ 1048576) (sb : bkData b ≤ 1048576) (hlen : a.length = b.length) : ∀ (m i : Nat), i + m = a.length → Ev (fun k => bobbinref17_Same.l0 k a b (i : Int)) (sameFrom a b m i)
  | 0, i, hi => by
    refine Ev.step (fun k => ?_) (Ev.now true)
    simp only [bobbinref17_Same.l0]
    rw [if_neg (by omega)]
  | m + 1, i, hi => by
    have nx := rows_ref a b ha hb sa sb hlen m (i + 1) (by omega)
    have bad : ∀ x : Bool, x = true → Ev (fun k => bobbinref17_Same.j1 k a b (i : Int) x) false := fun x hx => by
      subst hx
      exact Ev.step (fun k => by simp only [bobbinref17_Same.j1, if_true]) (Ev.now false)
    by_cases c1 : (rd_T49 a i).f0 = (rd_T49 b i).f0
    · by_cases c2 : (rd_T49 a i).f1.toList = (rd_T49 b i).f1.toList
      · by_cases c3 : ((rd_T49 a i).f3.length : Int) = ((rd_T49 b i).f3.length : Int)
        · refine Ev.step (f := fun k => (bobbinref17_True.f k a i).bind fun t => (bobbinref17_True.f k b i).bind fun u => bobbinref17_Same.j1 k a b (i : Int) (t != u)) (fun k => ?_) ?_
          · simp only [bobbinref17_Same.l0]
            rw [if_pos (by omega), if_pos (by omega), if_pos (by omega), if_pos c1, if_pos c2, if_pos c3]
          · refine Ev.bind (reftrue_is a ha sa i) ?_
            refine Ev.bind (reftrue_is b hb sb i) ?_
            by_cases c4 : trueM a i = trueM b i
            · have e : (trueM a i != trueM b i) = false := by simp [c4]
              rw [e]
              have h3 : (rd_T49 a i).f3.length = (rd_T49 b i).f3.length := by omega
              refine Ev.step (fun k => ?_) (Ev.eq (kids_ref a b ha i (by omega) (by omega) h3 _ nx _ 0 (Nat.zero_add _)) ?_)
              · simp only [bobbinref17_Same.j1, Bool.false_eq_true, if_false]
                rfl
              · simp only [sameFrom, headM, List.drop_zero, decide_eq_true c1, decide_eq_true c2, decide_eq_true h3, decide_eq_true c4, Bool.true_and]
            · refine Ev.eq (bad _ (by simpa using c4)) ?_
              simp [sameFrom, headM, c4]
        · refine Ev.step (fun k => ?_) (Ev.eq (bad true rfl) ?_)
          · simp only [bobbinref17_Same.l0]
            rw [if_pos (by omega), if_pos (by omega), if_pos (by omega), if_pos c1, if_pos c2, if_neg c3]
          · have h3 : ¬ (rd_T49 a i).f3.length = (rd_T49 b i).f3.length := by omega
            simp [sameFrom, headM, h3]
      · refine Ev.step (fun k => ?_) (Ev.eq (bad true rfl) ?_)
        · simp only [bobbinref17_Same.l0]
          rw [if_pos (by omega), if_pos (by omega), if_pos (by omega), if_pos c1, if_neg c2]
        · simp [sameFrom, headM, c2]
    · refine Ev.step (fun k => ?_) (Ev.eq (bad true rfl) ?_)
      · simp only [bobbinref17_Same.l0]
        rw [if_pos (by omega), if_pos (by omega), if_pos (by omega), if_neg c1]
      · simp [sameFrom, headM, c1]

theorem refsame_is (a b : List S49) (ha : wfData a) (hb : wfData b) (sa : bkData a ≤ 1048576) (sb : bkData b ≤ 1048576) : Ev (fun k => bobbinref17_Same.f k a b) (sameM a b) := by
  unfold bobbinref17_Same.f sameM
  by_cases h : a.length = b.length
  · simp only [if_pos (show (a.length : Int) = (b.length : Int) by omega)]
    exact Ev.eq (rows_ref a b ha hb sa sb h _ 0 (Nat.zero_add _)) (by rw [decide_eq_true h, Bool.true_and])
  · simp only [if_neg (show ¬ (a.length : Int) = (b.length : Int) by omega)]
    exact Ev.eq (Ev.now false) (by rw [decide_eq_false h, Bool.false_and])

/-- What the law's call needs: at one count of rounds all its callees answer, and as the law asks. -/
def shapes (k : Nat) (a b : List S49) : Prop :=
  ∃ s : Bool, bobbinlaw17_awake.f k = some true ∧ data_SameShape.f k a b = some s ∧ bobbinref17_Same.f k a b = some s ∧ data_SameShape.f k b a = some s ∧ data_SameShape.f k a a = some true

theorem DataShapes (a b : List S49) (ha : wfData a) (hb : wfData b) (hs : bkData a + bkData b ≤ 1048576) : ∃ k, shapes k a b := by
  obtain ⟨k1, h1⟩ := awake_true
  obtain ⟨k2, h2⟩ := same_is a b ha hb
  obtain ⟨k3, h3⟩ := refsame_is a b ha hb (by omega) (by omega)
  obtain ⟨k4, h4⟩ := same_is b a hb ha
  obtain ⟨k5, h5⟩ := same_is a a ha ha
  rw [same_symm b a] at h4
  rw [same_refl] at h5
  have hk : ∃ K, k1 ≤ K ∧ k2 ≤ K ∧ k3 ≤ K ∧ k4 ≤ K ∧ k5 ≤ K := ⟨k1 + k2 + k3 + k4 + k5, by omega, by omega, by omega, by omega, by omega⟩
  obtain ⟨K, g1, g2, g3, g4, g5⟩ := hk
  exact ⟨K, sameM a b, h1 K g1, h2 K g2, h3 K g3, h4 K g4, h5 K g5⟩

end Go.Proofs.Ytclanebbalgpfaa.DataShapesPure
