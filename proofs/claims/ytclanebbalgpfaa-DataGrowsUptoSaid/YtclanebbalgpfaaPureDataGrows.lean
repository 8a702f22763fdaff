/- The plain law of DataGrows: what the printed functions compute answers as the statement says. -/
import Derived.Test.YtclanebbalgpfaaOpen
import Derived.Test.YtclanebbalgpfaaPDataGrowsx3
import Derived.Test.YtclanebbalgpfaaGrows
namespace Go.Proofs.Ytclanebbalgpfaa.DataGrowsPure
open Go.RowKit Go.Proofs.YtclanebbalgpfaaW.PrintWords Go.Proofs.Ytclanebbalgpfaa.Open Go.Proofs.Ytclanebbalgpfaa.PDataGrows
set_option linter.unusedVariables false
abbrev wfInts (xs : List Int) : Prop := xs.length ≤ maxLen ∧ ∀ x ∈ xs, (Lit.int .i64 x).wf = true
abbrev wfBytes (xs : List Int) : Prop := xs.length ≤ maxLen ∧ ∀ x ∈ xs, (Lit.int .u8 x).wf = true
abbrev wfChunks (xs : List (List Int)) : Prop := xs.length ≤ maxLen ∧ ∀ x ∈ xs, wfBytes x
abbrev wfNames (xs : List ByteArray) : Prop := xs.length ≤ maxLen ∧ ∀ x ∈ xs, x.size ≤ maxLen
abbrev wfDatum (x : S49) : Prop := (Lit.int .u8 x.f0).wf = true ∧ x.f1.size ≤ maxLen ∧ wfChunks x.f2 ∧ wfInts x.f3
abbrev wfData (xs : List S49) : Prop := xs.length ≤ maxLen ∧ ∀ x ∈ xs, wfDatum x
abbrev bkRow (xs : List Int) : Nat := sumBy (fun _ => 1) xs + 1
abbrev bkChunks (xs : List (List Int)) : Nat := sumBy bkRow xs + 1
abbrev bkNames (xs : List ByteArray) : Nat := sumBy (fun s => s.size + 1) xs + 1
abbrev bkDatum (x : S49) : Nat := 1 + ((x.f1.size + 1) + (bkChunks x.f2 + bkRow x.f3)) + 1
abbrev bkData (xs : List S49) : Nat := sumBy bkDatum xs + 1
abbrev wtInts (xs : List Int) : Prop := xs.length * 8 ≤ 140737488351232 ∧ ∀ x ∈ xs, True
abbrev wtBytes (xs : List Int) : Prop := xs.length * 1 ≤ 140737488351232 ∧ ∀ x ∈ xs, True
abbrev wtChunks (xs : List (List Int)) : Prop := xs.length * 24 ≤ 140737488351232 ∧ ∀ x ∈ xs, wtBytes x
abbrev wtNames (xs : List ByteArray) : Prop := xs.length * 16 ≤ 140737488351232 ∧ ∀ x ∈ xs, x.size ≤ 140737488351232
abbrev wtDatum (x : S49) : Prop := True ∧ x.f1.size ≤ 140737488351232 ∧ wtChunks x.f2 ∧ wtInts x.f3
abbrev wtData (xs : List S49) : Prop := xs.length * 72 ≤ 140737488351232 ∧ ∀ x ∈ xs, wtDatum x
theorem opInt : Rdg Try.prog 3 (Kd.int .i64) (fun x => (Lit.int .i64 x).wf = true) (fun _ => 1) (fun _ => True) := op_int Try.underlying3 (by kernel_rfl)
theorem opByte : Rdg Try.prog 5 (Kd.int .u8) (fun x => (Lit.int .u8 x).wf = true) (fun _ => 1) (fun _ => True) := op_int Try.underlying5 (by kernel_rfl)
theorem opKind : Rdg Try.prog 46 (Kd.int .u8) (fun x => (Lit.int .u8 x).wf = true) (fun _ => 1) (fun _ => True) := op_int Try.underlying46 (by kernel_rfl)
theorem opStr : Rdg Try.prog 9 Kd.string (fun a => a.size ≤ maxLen) (fun a => a.size + 1) (fun a => a.size ≤ 140737488351232) := op_string Try.underlying9 (by kernel_rfl)
theorem opBytes : Rdg Try.prog 24 (Kd.slice 5 (Kd.int .u8)) wfBytes bkRow wtBytes := op_slice (B := 1) opByte Try.underlying24 (by kernel_rfl) (by kernel_rfl)
theorem opChunks : Rdg Try.prog 47 (Kd.slice 24 (Kd.slice 5 (Kd.int .u8))) wfChunks bkChunks wtChunks := op_slice (B := 24) opBytes Try.underlying47 (by kernel_rfl) (by kernel_rfl)
theorem opKids : Rdg Try.prog 27 (Kd.slice 3 (Kd.int .i64)) wfInts bkRow wtInts := op_slice (B := 8) opInt Try.underlying27 (by kernel_rfl) (by kernel_rfl)
theorem opNames : Rdg Try.prog 37 (Kd.slice 9 Kd.string) wfNames bkNames wtNames := op_slice (B := 16) opStr Try.underlying37 (by kernel_rfl) (by kernel_rfl)
theorem opDatum : Rdg Try.prog 49 k49 wfDatum bkDatum wtDatum :=
  op_struct (fun x : S49 => (x.f0, x.f1, x.f2, x.f3)) (fun a => ⟨a.1, a.2.1, a.2.2.1, a.2.2.2⟩) (fun _ => rfl) Try.underlying49 (by kernel_rfl)
    (opf_cons opKind rfl rfl (opf_cons opStr rfl rfl (opf_cons opChunks rfl rfl (opf_one opKids rfl))))
theorem opData : Rdg Try.prog 22 (Kd.slice 49 k49) wfData bkData wtData := op_slice (B := 72) opDatum Try.underlying22 (by kernel_rfl) (by kernel_rfl)

theorem Ev.now {α : Type} (r : α) : Ev (fun _ => some r) r := ⟨0, fun _ _ => rfl⟩
theorem Ev.eq {α : Type} {g : Nat → Option α} {r s : α} (h : Ev g r) (e : r = s) : Ev g s := e ▸ h
theorem wrap_idx {i : Nat} {n : Nat} (h : i < n) (hn : n ≤ maxLen) : wrap64 ((i : Int) + 1) = ((i + 1 : Nat) : Int) := by
  unfold wrap64 maxLen at *
  omega
theorem byte_wrap {x : Int} (h : (Lit.int .u8 x).wf = true) : wrap64 x = x ∧ 0 ≤ x ∧ x ≤ 255 := by
  have : 0 ≤ x ∧ x ≤ 255 := by simpa [Lit.wf, IntKind.min, IntKind.max, IntKind.signed, IntKind.bits] using h
  unfold wrap64
  omega
theorem awake_true : Ev (fun k => bobbinlaw17_awake.f k) true := by
  refine Ev.of (fun k => bobbinlaw17_awake.mono k) (k := 10) ?_
  decide +kernel
theorem rdT_mem {d : List S49} {i : Int} (h0 : 0 ≤ i) (h1 : i < d.length) : rd_T49 d i ∈ d := by
  unfold rd_T49
  have hi : i.toNat < d.length := by omega
  rw [List.getD_eq_getElem?_getD, List.getElem?_eq_getElem hi]
  exact List.getElem_mem hi
theorem drop_rd {xs : List Int} {j : Nat} (h : j < xs.length) : xs.drop j = rd xs (j : Int) :: xs.drop (j + 1) := by
  rw [List.drop_eq_getElem_cons h]
  unfold rd
  rw [Int.toNat_natCast, List.getD_eq_getElem?_getD, List.getElem?_eq_getElem h]
  rfl

def inr (d : List S49) (i : Int) : Bool := decide (0 ≤ i) && decide (i < (d.length : Int))
theorem inr_iff {d : List S49} {i : Int} : inr d i = true ↔ 0 ≤ i ∧ i < (d.length : Int) := by simp [inr]
theorem there_eq (d : List S49) (i : Int) : data_there.f d i = some (inr d i) := by
  unfold data_there.f inr
  by_cases h : i ≥ 0
  · rw [if_pos h, decide_eq_true (show 0 ≤ i from h), Bool.true_and]
  · rw [if_neg h, decide_eq_false (show ¬ 0 ≤ i from h), Bool.false_and]

theorem row_len (xs : List Int) : bkRow xs = xs.length + 1 := by
  have : ∀ l : List Int, sumBy (fun _ => 1) l = l.length := by
    intro l
    induction l with
    | nil => rfl
    | cons x r ih => simp only [sumBy, ih, List.length_cons]; omega
  rw [bkRow, this]
theorem flat_len : ∀ (l : List (List Int)), l.flatten.length ≤ sumBy bkRow l
  | [] => Nat.le_refl _
  | x :: r => by
    have := flat_len r
    simp only [List.flatten_cons, List.length_append, sumBy, row_len]
    omega
theorem datum_len {d : List S49} {i : Int} (h0 : 0 ≤ i) (h1 : i < d.length) : (rd_T49 d i).f2.flatten.length + 2 ≤ bkData d := by
  have h := sumBy_mem (bk := bkDatum) (rdT_mem h0 h1)
  have h2 := flat_len (rd_T49 d i).f2
  unfold bkData
  have : bkDatum (rd_T49 d i) = 1 + (((rd_T49 d i).f1.size + 1) + ((sumBy bkRow (rd_T49 d i).f2 + 1) + bkRow (rd_T49 d i).f3)) + 1 := rfl
  omega
theorem drop_rows {xs : List (List Int)} {j : Nat} (h : j < xs.length) : xs.drop j = rd_L2 xs (j : Int) :: xs.drop (j + 1) := by
  rw [List.drop_eq_getElem_cons h]
  unfold rd_L2
  rw [Int.toNat_natCast, List.getD_eq_getElem?_getD, List.getElem?_eq_getElem h]
  rfl

def valueM (d : List S49) (i : Int) : List Int := if inr d i = true ∧ (rd_T49 d i).f0 = 1 then (rd_T49 d i).f2.flatten else []
theorem value_len (d : List S49) (i : Int) : (valueM d i).length ≤ bkData d := by
  unfold valueM
  split
  · rename_i h
    obtain ⟨g0, g1⟩ := inr_iff.1 h.1
    have := datum_len g0 g1
    omega
  · simp

theorem value_loop (c : List (List Int)) (hc : c.length ≤ maxLen) : ∀ (m j : Nat), j + m = c.length → ∀ acc : List Int, acc.length + (c.drop j).flatten.length < 140737488355328 →
    Ev (fun k => data_Value.l0 k acc c (c.length : Int) (j : Int)) (acc ++ (c.drop j).flatten)
  | 0, j, hj, acc, _ => by
    rw [List.drop_eq_nil_of_le (by omega)]
    exact Ev.step (fun k => by simp only [data_Value.l0]; rw [if_neg (by omega)]) (Ev.eq (Ev.now acc) (by simp))
  | m + 1, j, hj, acc, ha => by
    rw [drop_rows (by omega)] at ha ⊢
    simp only [List.flatten_cons, List.length_append] at ha
    have nxt := value_loop c hc m (j + 1) (by omega) (acc ++ rd_L2 c (j : Int)) (by rw [List.length_append]; omega)
    refine Ev.step (fun k => ?_) (Ev.eq nxt (by simp [List.append_assoc]))
    simp only [data_Value.l0]
    rw [if_pos (by omega), if_pos (by omega), if_pos (by omega), if_pos (by omega), wrap_idx (show j < c.length by omega) hc]

theorem value_is (d : List S49) (hd : wfData d) (hb : bkData d ≤ 100000000) (i : Int) : Ev (fun k => data_Value.f k d i) (valueM d i) := by
  unfold data_Value.f
  rw [there_eq]
  simp only [Option.bind_some]
  have stop : Ev (fun k => data_Value.j0 k d i true) [] := Ev.step (f := fun _ => some []) (fun k => by simp only [data_Value.j0, if_true]) (Ev.now _)
  unfold valueM
  cases hin : inr d i with
  | false =>
    simp only [Bool.false_eq_true, if_false, false_and]
    exact stop
  | true =>
    obtain ⟨g0, g1⟩ := inr_iff.1 hin
    simp only [if_true, if_pos g0, if_pos g1, true_and]
    have hl := datum_len g0 g1
    by_cases h1 : (rd_T49 d i).f0 = 1
    · have e : ((rd_T49 d i).f0 != 1) = false := by simp [h1]
      simp only [if_pos h1, e]
      refine Ev.step (fun k => ?_) (value_loop (rd_T49 d i).f2 (hd.2 _ (rdT_mem g0 g1)).2.2.1.1 _ 0 (Nat.zero_add _) [] (by simp only [List.length_nil, List.drop_zero]; omega))
      simp only [data_Value.j0, Bool.false_eq_true, if_false, if_pos g0, if_pos g1]
      rfl
    · have e : ((rd_T49 d i).f0 != 1) = true := by simp [h1]
      simp only [if_neg h1, e]
      exact stop

def trueM (d : List S49) (i : Int) : Bool :=
  inr d i && ((decide ((rd_T49 d i).f0 = 1) && decide (0 < (rd_T49 d i).f2.flatten.length)) || ((decide ((rd_T49 d i).f0 = 2) || decide ((rd_T49 d i).f0 = 3)) && decide (0 < (rd_T49 d i).f3.length)))

theorem true_loop (d : List S49) (i : Int) (hin : inr d i = true) (hc : (rd_T49 d i).f2.length ≤ maxLen) : ∀ (m j : Nat), j + m = (rd_T49 d i).f2.length →
    Ev (fun k => data_True.l0 k d i (rd_T49 d i).f2 ((rd_T49 d i).f2.length : Int) (j : Int))
      ((decide ((rd_T49 d i).f0 = 1) && decide (0 < ((rd_T49 d i).f2.drop j).flatten.length)) || ((decide ((rd_T49 d i).f0 = 2) || decide ((rd_T49 d i).f0 = 3)) && decide (0 < (rd_T49 d i).f3.length)))
  | 0, j, hj => by
    obtain ⟨g0, g1⟩ := inr_iff.1 hin
    rw [List.drop_eq_nil_of_le (by omega)]
    by_cases c2 : (rd_T49 d i).f0 = 2
    · refine Ev.step (fun k => ?_) (Ev.eq (Ev.now (decide ((((rd_T49 d i).f3).length : Int) > 0))) (by simp [c2]))
      simp only [data_True.l0]
      rw [if_neg (by omega), if_pos g0, if_pos g1, if_pos c2]
    · by_cases c3 : (rd_T49 d i).f0 = 3
      · refine Ev.step (fun k => ?_) (Ev.eq (Ev.now (decide ((((rd_T49 d i).f3).length : Int) > 0))) (by simp [c3]))
        simp only [data_True.l0]
        rw [if_neg (by omega), if_pos g0, if_pos g1, if_neg c2, if_pos c3]
      · refine Ev.step (fun k => ?_) (Ev.eq (Ev.now false) (by simp [c2, c3]))
        simp only [data_True.l0]
        rw [if_neg (by omega), if_pos g0, if_pos g1, if_neg c2, if_neg c3]
  | m + 1, j, hj => by
    obtain ⟨g0, g1⟩ := inr_iff.1 hin
    rw [drop_rows (by omega)]
    have nxt := true_loop d i hin hc m (j + 1) (by omega)
    by_cases c1 : ((rd_L2 (rd_T49 d i).f2 (j : Int)).length : Int) > 0
    · by_cases c2 : (rd_T49 d i).f0 = 1
      · refine Ev.step (fun k => ?_) (Ev.eq (Ev.now true) ?_)
        · simp only [data_True.l0]
          rw [if_pos (by omega), if_pos (by omega), if_pos (by omega), if_pos c1, if_pos g0, if_pos g1, if_pos c2]
        · have : 0 < (rd_L2 (rd_T49 d i).f2 (j : Int)).length := by omega
          simp only [List.flatten_cons, List.length_append, c2, decide_true, Bool.true_and]
          rw [decide_eq_true (by omega), Bool.true_or]
      · refine Ev.step (fun k => ?_) (Ev.eq nxt (by simp [c2]))
        simp only [data_True.l0]
        rw [if_pos (by omega), if_pos (by omega), if_pos (by omega), if_pos c1, if_pos g0, if_pos g1, if_neg c2, wrap_idx (show j < (rd_T49 d i).f2.length by omega) hc]
    · have e : rd_L2 (rd_T49 d i).f2 (j : Int) = [] := List.eq_nil_of_length_eq_zero (by omega)
      refine Ev.step (fun k => ?_) (Ev.eq nxt (by rw [e]; rfl))
      simp only [data_True.l0]
      rw [if_pos (by omega), if_pos (by omega), if_pos (by omega), if_neg c1, wrap_idx (show j < (rd_T49 d i).f2.length by omega) hc]

theorem true_is (d : List S49) (hd : wfData d) (i : Int) : Ev (fun k => data_True.f k d i) (trueM d i) := by
  unfold data_True.f
  rw [there_eq]
  simp only [Option.bind_some]
  cases hin : inr d i with
  | false =>
    simp only [Bool.false_eq_true, if_false]
    exact Ev.eq (Ev.now false) (by simp [trueM, hin])
  | true =>
    obtain ⟨g0, g1⟩ := inr_iff.1 hin
    simp only [if_true, if_pos g0, if_pos g1]
    refine Ev.eq (true_loop d i hin (hd.2 _ (rdT_mem g0 g1)).2.2.1.1 _ 0 (Nat.zero_add _)) ?_
    unfold trueM
    rw [hin, Bool.true_and]
    rfl

def hit (d : List S49) (name : ByteArray) (k : Int) : Bool := inr d k && decide ((rd_T49 d k).f1.toList = name.toList)
def fieldM (d : List S49) (i : Int) (name : ByteArray) : Option Int := if (rd_T49 d i).f0 = 3 then (rd_T49 d i).f3.find? (hit d name) else none
def walkM (d : List S49) : Int → List ByteArray → Option Int
  | dot, [] => some dot
  | dot, n :: ns => (fieldM d dot n).bind fun t => walkM d t ns
def findM (d : List S49) (dot : Int) (root : Bool) (names : List ByteArray) : Option Int :=
  if inr d (if root = true then 0 else dot) = true then walkM d (if root = true then 0 else dot) names else none
def res : Option Int → Int × Bool
  | some k => (k, true)
  | none => (0, false)

theorem field_loop (d : List S49) (name : ByteArray) (kids : List Int) (hk : kids.length ≤ maxLen) :
    ∀ (m j : Nat), j + m = kids.length → Ev (fun k => data_field.l0 k d name kids (kids.length : Int) (j : Int)) (res ((kids.drop j).find? (hit d name)))
  | 0, j, hj => by
    rw [List.drop_eq_nil_of_le (by omega)]
    exact Ev.step (fun k => by simp only [data_field.l0]; rw [if_neg (by omega)]; rfl) (Ev.now _)
  | m + 1, j, hj => by
    rw [drop_rd (by omega)]
    have nxt := field_loop d name kids hk m (j + 1) (by omega)
    cases hin : inr d (rd kids (j : Int)) with
    | false =>
      have hh : hit d name (rd kids (j : Int)) = false := by simp [hit, hin]
      rw [List.find?_cons_of_neg (by simp [hh])]
      refine Ev.step (fun k => ?_) nxt
      simp only [data_field.l0]
      rw [if_pos (by omega), if_pos (by omega), if_pos (by omega), there_eq, hin]
      simp only [Option.bind_some, Bool.false_eq_true, if_false]
      rw [wrap_idx (show j < kids.length by omega) hk]
    | true =>
      obtain ⟨g0, g1⟩ := inr_iff.1 hin
      by_cases hn : (rd_T49 d (rd kids (j : Int))).f1.toList = name.toList
      · have hh : hit d name (rd kids (j : Int)) = true := by simp [hit, hin, hn]
        rw [List.find?_cons_of_pos hh]
        refine Ev.step (f := fun _ => some (rd kids (j : Int), true)) (fun k => ?_) (Ev.now _)
        simp only [data_field.l0]
        rw [if_pos (by omega), if_pos (by omega), if_pos (by omega), there_eq, hin]
        simp only [Option.bind_some, if_true]
        rw [if_pos g0, if_pos g1, if_pos hn]
      · have hh : hit d name (rd kids (j : Int)) = false := by simp [hit, hin, hn]
        rw [List.find?_cons_of_neg (by simp [hh])]
        refine Ev.step (fun k => ?_) nxt
        simp only [data_field.l0]
        rw [if_pos (by omega), if_pos (by omega), if_pos (by omega), there_eq, hin]
        simp only [Option.bind_some, if_true]
        rw [if_pos g0, if_pos g1, if_neg hn, wrap_idx (show j < kids.length by omega) hk]

theorem field_is (d : List S49) (hd : wfData d) (i : Int) (hi : inr d i = true) (name : ByteArray) : Ev (fun k => data_field.f k d i name) (res (fieldM d i name)) := by
  obtain ⟨g0, g1⟩ := inr_iff.1 hi
  unfold data_field.f fieldM
  simp only [if_pos g0, if_pos g1]
  by_cases h3 : (rd_T49 d i).f0 = 3
  · simp only [if_pos h3]
    exact field_loop d name _ (hd.2 _ (rdT_mem g0 g1)).2.2.2.1 _ 0 (Nat.zero_add _)
  · simp only [if_neg h3]
    exact Ev.now _

theorem field_inr {d : List S49} {i : Int} {name : ByteArray} {t : Int} (h : fieldM d i name = some t) : inr d t = true := by
  unfold fieldM at h
  split at h
  · have := List.find?_some h
    simp only [hit, Bool.and_eq_true] at this
    exact this.1
  · cases h

theorem drop_names {xs : List ByteArray} {j : Nat} (h : j < xs.length) : xs.drop j = rdOf ByteArray.empty xs (j : Int) :: xs.drop (j + 1) := by
  rw [List.drop_eq_getElem_cons h]
  unfold rdOf
  rw [Int.toNat_natCast, List.getD_eq_getElem?_getD, List.getElem?_eq_getElem h]
  rfl

theorem find_loop (d : List S49) (hd : wfData d) (names : List ByteArray) (hn : names.length ≤ maxLen) :
    ∀ (m j : Nat), j + m = names.length → ∀ dot, inr d dot = true → Ev (fun k => data_Find.l0 k d dot names (names.length : Int) (j : Int)) (res (walkM d dot (names.drop j)))
  | 0, j, hj, dot, hdot => by
    rw [List.drop_eq_nil_of_le (by omega)]
    exact Ev.step (fun k => by simp only [data_Find.l0]; rw [if_neg (by omega)]; rfl) (Ev.now _)
  | m + 1, j, hj, dot, hdot => by
    rw [drop_names (by omega)]
    have hf := field_is d hd dot hdot (rdOf ByteArray.empty names (j : Int))
    refine Ev.step (f := fun k => (data_field.f k d dot (rdOf ByteArray.empty names (j : Int))).bind fun b => if b.2 = true then data_Find.l0 k d b.1 names (names.length : Int) ((j + 1 : Nat) : Int) else some (0, false)) (fun k => ?_) ?_
    · simp only [data_Find.l0]
      rw [if_pos (by omega), if_pos (by omega), if_pos (by omega), wrap_idx (show j < names.length by omega) hn]
    · refine Ev.bind hf ?_
      unfold walkM
      cases hF : fieldM d dot (rdOf ByteArray.empty names (j : Int)) with
      | none => exact Ev.now _
      | some t =>
        simp only [res, if_true, Option.bind_some]
        exact find_loop d hd names hn m (j + 1) (by omega) t (field_inr hF)

theorem find_is (d : List S49) (hd : wfData d) (dot : Int) (root : Bool) (names : List ByteArray) (hn : names.length ≤ maxLen) : Ev (fun k => data_Find.f k d dot root names) (res (findM d dot root names)) := by
  have body : ∀ x, Ev (fun k => data_Find.j0 k d x root names) (res (if inr d x = true then walkM d x names else none)) := by
    intro x
    cases hx : inr d x with
    | true =>
      refine Ev.step (fun k => ?_) (find_loop d hd names hn _ 0 (Nat.zero_add _) x hx)
      simp only [data_Find.j0]
      rw [there_eq, hx]
      rfl
    | false =>
      refine Ev.step (f := fun _ => some (0, false)) (fun k => ?_) (Ev.now _)
      simp only [data_Find.j0]
      rw [there_eq, hx]
      rfl
  unfold data_Find.f findM
  cases root with
  | true => simp only [if_true]; exact body 0
  | false => simp only [Bool.false_eq_true, if_false]; exact body dot

theorem walk_inr {d : List S49} : ∀ {names : List ByteArray} {dot t : Int}, inr d dot = true → walkM d dot names = some t → inr d t = true
  | [], dot, t, h, e => by
    simp only [walkM, Option.some.injEq] at e
    exact e ▸ h
  | n :: ns, dot, t, h, e => by
    simp only [walkM, Option.bind_eq_some_iff] at e
    obtain ⟨u, hu, e⟩ := e
    exact walk_inr (field_inr hu) e
theorem find_inr {d : List S49} {dot : Int} {root : Bool} {names : List ByteArray} {t : Int} (h : findM d dot root names = some t) : inr d t = true := by
  unfold findM at h
  generalize (if root = true then 0 else dot) = x at h
  split at h
  · exact walk_inr ‹_› h
  · cases h
/-! #### Check -/
def badB (x : S49) : Bool := if x.f0 > 3 then true else if x.f0 = 1 then decide ((x.f3.length : Int) > 0) else if (x.f2.length : Int) > 0 then true else if x.f0 < 2 then decide ((x.f3.length : Int) > 0) else false
def kidB (d : List S49) (i : Nat) (k : Int) : Bool := decide ((i : Int) < k) && decide (k < (d.length : Int))
def okB (d : List S49) (i : Nat) : Bool := !badB (rd_T49 d i) && (rd_T49 d i).f3.all (kidB d i)
def rowsB (d : List S49) : Nat → Nat → Bool
  | _, 0 => true
  | i, m + 1 => okB d i && rowsB d (i + 1) m
theorem rowsB_iff (d : List S49) : ∀ m i, rowsB d i m = true ↔ ∀ j, i ≤ j → j < i + m → okB d j = true
  | 0, i => ⟨fun _ j h1 h2 => by omega, fun _ => rfl⟩
  | m + 1, i => by
    rw [rowsB, Bool.and_eq_true, rowsB_iff d m (i + 1)]
    refine ⟨fun ⟨h1, h2⟩ j h3 h4 => ?_, fun h => ⟨h i (Nat.le_refl _) (by omega), fun j h3 h4 => h j (by omega) (by omega)⟩⟩
    rcases Nat.lt_or_ge i j with h5 | h5
    · exact h2 j h5 (by omega)
    · obtain rfl : i = j := by omega
      exact h1
theorem kids_run (d : List S49) (i : Nat) (hi : i < d.length) (hdl : d.length ≤ maxLen) (kids : List Int) (hk : kids.length ≤ maxLen) (r : Int) (ih : Ev (fun k => data_Check.l0 k d d (d.length : Int) ((i + 1 : Nat) : Int)) r) :
    ∀ (m j : Nat), j + m = kids.length → Ev (fun k => data_Check.l1 k d (i : Int) d (d.length : Int) (i : Int) kids (kids.length : Int) (j : Int)) (if (kids.drop j).all (kidB d i) = true then r else 9)
  | 0, j, hj => by
    rw [List.drop_eq_nil_of_le (by omega)]
    refine Ev.step (fun k => ?_) ih
    simp only [data_Check.l1]
    rw [if_neg (by omega), wrap_idx hi hdl]
  | m + 1, j, hj => by
    rw [drop_rd (by omega), List.all_cons]
    by_cases c1 : rd kids (j : Int) ≤ (i : Int)
    · have e : kidB d i (rd kids (j : Int)) = false := by simp [kidB]; omega
      rw [e, Bool.false_and]
      refine Ev.step (f := fun _ => some 9) (fun k => ?_) (Ev.now 9)
      simp only [data_Check.l1]
      rw [if_pos (by omega), if_pos (by omega), if_pos (by omega), if_pos c1]
    · by_cases c2 : rd kids (j : Int) ≥ (d.length : Int)
      · have e : kidB d i (rd kids (j : Int)) = false := by simp [kidB]; omega
        rw [e, Bool.false_and]
        refine Ev.step (f := fun _ => some 9) (fun k => ?_) (Ev.now 9)
        simp only [data_Check.l1]
        rw [if_pos (by omega), if_pos (by omega), if_pos (by omega), if_neg c1, if_pos c2]
      · have e : kidB d i (rd kids (j : Int)) = true := by simp [kidB]; omega
        rw [e, Bool.true_and]
        refine Ev.step (fun k => ?_) (kids_run d i hi hdl kids hk r ih m (j + 1) (by omega))
        simp only [data_Check.l1]
        rw [if_pos (by omega), if_pos (by omega), if_pos (by omega), if_neg c1, if_neg c2, wrap_idx (show j < kids.length by omega) hk]
theorem rows_run (d : List S49) (hd : wfData d) : ∀ (m i : Nat), i + m = d.length → Ev (fun k => data_Check.l0 k d d (d.length : Int) (i : Int)) (if rowsB d i m = true then 0 else 9)
  | 0, i, hi => Ev.step (f := fun _ => some 0) (fun k => by simp only [data_Check.l0]; rw [if_neg (by omega)]) (Ev.now 0)
  | m + 1, i, hi => by
    have hlt : i < d.length := by omega
    have hx := hd.2 _ (rdT_mem (d := d) (i := (i : Int)) (by omega) (by omega))
    have hrow := kids_run d i hlt hd.1 (rd_T49 d i).f3 hx.2.2.2.1 _ (rows_run d hd m (i + 1) (by omega)) _ 0 (Nat.zero_add _)
    rw [List.drop_zero] at hrow
    have e1 : ∀ k, data_Check.l0 (k + 1) d d (d.length : Int) (i : Int) = data_Check.j1 k d (i : Int) d (d.length : Int) (i : Int) (badB (rd_T49 d i)) (rd_T49 d i).f0 (rd_T49 d i).f1 (rd_T49 d i).f2 (rd_T49 d i).f3 := by
      intro k
      unfold badB
      simp only [data_Check.l0]
      rw [if_pos (by omega), if_pos (by omega), if_pos (by omega)]
      by_cases c1 : (rd_T49 d i).f0 > 3
      · rw [if_pos c1, if_pos c1]
      · rw [if_neg c1, if_neg c1]
        by_cases c2 : (rd_T49 d i).f0 = 1
        · rw [if_pos c2, if_pos c2, if_pos (by omega)]
        · rw [if_neg c2, if_neg c2]
          by_cases c3 : (((rd_T49 d i).f2).length : Int) > 0
          · rw [if_pos c3, if_pos c3]
          · rw [if_neg c3, if_neg c3]
            by_cases c4 : (rd_T49 d i).f0 < 2
            · rw [if_pos c4, if_pos c4]
            · rw [if_neg c4, if_neg c4]
    rw [rowsB, okB]
    refine Ev.step e1 ?_
    cases hb : badB (rd_T49 d i) with
    | true => exact Ev.step (f := fun _ => some 9) (fun k => by simp only [data_Check.j1, if_true]) (Ev.eq (Ev.now 9) (by simp))
    | false =>
      refine Ev.step (fun k => by simp only [data_Check.j1]; rw [if_neg (by simp)]; rfl) (Ev.eq hrow ?_)
      cases hk : (rd_T49 d i).f3.all (kidB d i) <;> simp
def checkM (d : List S49) : Int := if (d.length : Int) > 4096 then 2 else if (d.length : Int) = 0 then 9 else if rowsB d 0 d.length = true then 0 else 9
theorem check_is (d : List S49) (hd : wfData d) : Ev (fun k => data_Check.f k d) (checkM d) := by
  unfold data_Check.f checkM
  by_cases c1 : (d.length : Int) > 4096
  · simp only [if_pos c1]
    exact Ev.now 2
  · by_cases c2 : (d.length : Int) = 0
    · simp only [if_neg c1, if_pos c2]
      exact Ev.now 9
    · simp only [if_neg c1, if_neg c2]
      exact rows_run d hd _ 0 (Nat.zero_add _)

/-! #### One datum more -/
theorem rd_old {d : List S49} {x : S49} {i : Int} (h : inr d i = true) : rd_T49 (d ++ [x]) i = rd_T49 d i := by
  obtain ⟨h0, h1⟩ := inr_iff.1 h
  unfold rd_T49
  rw [List.getD_eq_getElem?_getD, List.getD_eq_getElem?_getD, List.getElem?_append_left (by omega)]
theorem rd_new (d : List S49) (x : S49) : rd_T49 (d ++ [x]) (d.length : Int) = x := by
  unfold rd_T49
  rw [List.getD_eq_getElem?_getD, Int.toNat_natCast, List.getElem?_append_right (Nat.le_refl _)]
  simp
theorem inr_old {d : List S49} {x : S49} {i : Int} (h : inr d i = true) : inr (d ++ [x]) i = true := by
  obtain ⟨h0, h1⟩ := inr_iff.1 h
  exact inr_iff.2 ⟨h0, by rw [List.length_append]; simp only [List.length_cons, List.length_nil]; omega⟩
theorem inr_new (d : List S49) (x : S49) : inr (d ++ [x]) (d.length : Int) = true :=
  inr_iff.2 ⟨Int.natCast_nonneg _, by rw [List.length_append]; simp only [List.length_cons, List.length_nil]; omega⟩
theorem inr_nat {d : List S49} {j : Nat} (h : j < d.length) : inr d (j : Int) = true := inr_iff.2 ⟨Int.natCast_nonneg _, by omega⟩
theorem find_same {α : Type} {f g : α → Bool} : ∀ {l : List α}, (∀ x ∈ l, f x = g x) → l.find? f = l.find? g
  | [], _ => rfl
  | x :: r, h => by
    rw [List.find?_cons, List.find?_cons, h x (List.mem_cons_self), find_same (fun y hy => h y (List.mem_cons_of_mem _ hy))]
theorem ok_kids {d : List S49} {j : Nat} (h : okB d j = true) {k : Int} (hk : k ∈ (rd_T49 d (j : Int)).f3) : inr d k = true := by
  unfold okB at h
  rw [Bool.and_eq_true] at h
  have := List.all_eq_true.1 h.2 k hk
  simp only [kidB, Bool.and_eq_true, decide_eq_true_eq] at this
  exact inr_iff.2 ⟨by omega, this.2⟩
theorem field_old {d : List S49} {x : S49} (hok : ∀ j, j < d.length → okB d j = true) {i : Int} (h : inr d i = true) (name : ByteArray) : fieldM (d ++ [x]) i name = fieldM d i name := by
  unfold fieldM
  rw [rd_old h]
  by_cases c : (rd_T49 d i).f0 = 3
  · rw [if_pos c, if_pos c]
    refine find_same fun k hk => ?_
    obtain ⟨h0, h1⟩ := inr_iff.1 h
    have hi : i = ((i.toNat : Nat) : Int) := (Int.toNat_of_nonneg h0).symm
    have hin : inr d k = true := ok_kids (hok i.toNat (by omega)) (by rw [← hi]; exact hk)
    unfold hit
    rw [inr_old hin, hin, rd_old hin]
  · rw [if_neg c, if_neg c]
theorem walk_old {d : List S49} {x : S49} (hok : ∀ j, j < d.length → okB d j = true) : ∀ (names : List ByteArray) (i : Int), inr d i = true → walkM (d ++ [x]) i names = walkM d i names
  | [], _, _ => rfl
  | n :: ns, i, h => by
    rw [walkM, walkM, field_old hok h]
    cases hf : fieldM d i n with
    | none => rfl
    | some t => exact walk_old hok ns t (field_inr hf)
theorem ok_old {d : List S49} {x : S49} {j : Nat} (hj : j < d.length) (h : okB d j = true) : okB (d ++ [x]) j = true := by
  unfold okB at h ⊢
  rw [rd_old (inr_nat hj)]
  rw [Bool.and_eq_true] at h ⊢
  refine ⟨h.1, List.all_eq_true.2 fun k hk => ?_⟩
  have := List.all_eq_true.1 h.2 k hk
  simp only [kidB, Bool.and_eq_true, decide_eq_true_eq] at this ⊢
  rw [List.length_append]
  simp only [List.length_cons, List.length_nil]
  omega
theorem check_more {d : List S49} (p : List Int) (hl : d.length < 4096) (hok : ∀ j, j < d.length → okB d j = true) : checkM (d ++ [more p]) = 0 := by
  have hlen : (d ++ [more p]).length = d.length + 1 := by rw [List.length_append]; rfl
  unfold checkM
  rw [hlen, if_neg (by omega), if_neg (by omega), if_pos]
  refine (rowsB_iff _ _ _).2 fun j _ hj => ?_
  by_cases c : j < d.length
  · exact ok_old c (hok j c)
  · obtain rfl : j = d.length := by omega
    unfold okB
    rw [rd_new]
    rfl
theorem wf_more {d : List S49} {p : List Int} (hd : wfData d) (hl : d.length < 4096) (hp : wfBytes p) : wfData (d ++ [more p]) := by
  refine ⟨by rw [List.length_append]; simp only [List.length_cons, List.length_nil, maxLen]; omega, fun x hx => ?_⟩
  rcases List.mem_append.1 hx with h | h
  · exact hd.2 x h
  · obtain rfl : x = more p := by simpa using h
    refine ⟨show (Lit.int .u8 1).wf = true by decide, show (4 : Nat) ≤ maxLen by decide, ⟨show (1 : Nat) ≤ maxLen by decide, fun y hy => ?_⟩, show (0 : Nat) ≤ maxLen by decide, fun y hy => by cases hy⟩
    obtain rfl : y = p := by simpa [more] using hy
    exact hp
theorem bk_more (d : List S49) (p : List Int) : bkData (d ++ [more p]) = bkData d + p.length + 10 := by
  have h1 : bkDatum (more p) = p.length + 10 := by
    have h3 : bkChunks (more p).f2 = bkRow p + 0 + 1 := rfl
    have h4 : bkRow (more p).f3 = 1 := rfl
    have h5 : (more p).f1.size = 4 := rfl
    have h6 := row_len p
    show 1 + (((more p).f1.size + 1) + (bkChunks (more p).f2 + bkRow (more p).f3)) + 1 = _
    rw [h3, h4, h5, h6]
    omega
  unfold bkData
  rw [sumBy_append]
  show sumBy bkDatum d + (bkDatum (more p) + 0) + 1 = _
  rw [h1]
  omega
theorem len_bulk (d : List S49) : d.length ≤ sumBy bkDatum d := by
  induction d with
  | nil => exact Nat.le_refl _
  | cons x r ih =>
    have : 1 ≤ bkDatum x := by unfold bkDatum; omega
    simp only [sumBy, List.length_cons]
    omega
theorem DataGrows (d : List S49) (i : Int) (root : Bool) (names : List ByteArray) (p : List Int) (hd : wfData d) (hi : (Lit.int .i64 i).wf = true) (hn : wfNames names) (hp : wfBytes p) (hs : bkData d + bkNames names + bkRow p ≤ 1048576) : Grows d i root names p := by
  have hpl := row_len p
  have hdl := len_bulk d
  have hbd : bkData d = sumBy bkDatum d + 1 := rfl
  refine ⟨Ev.rounds awake_true, by omega, by omega, checkM d, Ev.rounds (check_is d hd), fun hck hl => ?_⟩
  have hrows : rowsB d 0 d.length = true ∧ 0 < d.length := by
    unfold checkM at hck
    split at hck
    · cases hck
    · split at hck
      · cases hck
      · split at hck
        · exact ⟨‹_›, by omega⟩
        · cases hck
  have hok : ∀ j, j < d.length → okB d j = true := fun j hj => (rowsB_iff d _ 0).1 hrows.1 j (Nat.zero_le _) (by omega)
  have he := wf_more hd hl hp
  have hbe : bkData (d ++ [more p]) ≤ 100000000 := by rw [bk_more]; omega
  refine ⟨Ev.rounds (Ev.eq (check_is _ he) (check_more p hl hok)), Ev.rounds (Ev.eq (value_is _ he hbe _) ?_), Ev.rounds (Ev.eq (true_is _ he _) ?_), fun h0 h1 => ?_⟩
  · unfold valueM
    rw [inr_new, rd_new]
    rw [if_pos ⟨rfl, rfl⟩]
    show p ++ [] = p
    exact List.append_nil p
  · unfold trueM
    rw [inr_new, rd_new]
    have e : (more p).f2.flatten = p := List.append_nil p
    rw [e]
    simp [more]
  · have hin : inr d i = true := inr_iff.2 ⟨h0, h1⟩
    have hfind : findM (d ++ [more p]) i root names = findM d i root names := by
      unfold findM
      have hx : inr d (if root = true then 0 else i) = true := by
        cases root with
        | true => exact inr_iff.2 ⟨Int.le_refl _, by simp only [if_true]; omega⟩
        | false => exact hin
      rw [if_pos hx, if_pos (inr_old hx), walk_old hok names _ hx]
    have htrue : trueM (d ++ [more p]) i = trueM d i := by
      unfold trueM
      rw [inr_old hin, hin, rd_old hin]
    have hval : valueM (d ++ [more p]) i = valueM d i := by
      unfold valueM
      rw [inr_old hin, hin, rd_old hin]
    have f1 := find_is d hd i root names hn.1
    have f2 := find_is (d ++ [more p]) he i root names hn.1
    rw [hfind] at f2
    have t2 := true_is (d ++ [more p]) he i
    rw [htrue] at t2
    have v2 := value_is (d ++ [more p]) he hbe i
    rw [hval] at v2
    exact ⟨(res (findM d i root names)).1, (res (findM d i root names)).2, trueM d i, valueM d i, Ev.rounds f1, Ev.rounds f2, Ev.rounds (true_is d hd i), Ev.rounds t2, Ev.rounds (value_is d hd (by omega) i), Ev.rounds v2⟩

end Go.Proofs.Ytclanebbalgpfaa.DataGrowsPure
