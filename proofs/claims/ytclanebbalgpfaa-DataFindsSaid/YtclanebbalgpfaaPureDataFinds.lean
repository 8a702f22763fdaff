/- The plain law of DataFinds: what the printed functions compute answers as the statement says. -/
import Derived.Test.YtclanebbalgpfaaOpen
import Derived.Test.YtclanebbalgpfaaPDataFindsx
namespace Go.Proofs.Ytclanebbalgpfaa.DataFindsPure
open Go.RowKit Go.Proofs.YtclanebbalgpfaaW.PrintWords Go.Proofs.Ytclanebbalgpfaa.Open Go.Proofs.Ytclanebbalgpfaa.PDataFinds
set_option linter.unusedVariables false
abbrev wfInts (xs : List Int) : Prop := xs.length ≤ maxLen ∧ ∀ x ∈ xs, (Lit.int .i64 x).wf = true
abbrev wfBytes (xs : List Int) : Prop := xs.length ≤ maxLen ∧ ∀ x ∈ xs, (Lit.int .u8 x).wf = true
abbrev wfChunks (xs : List (List Int)) : Prop := xs.length ≤ maxLen ∧ ∀ x ∈ xs, wfBytes x
abbrev wfNames (xs : List ByteArray) : Prop := xs.length ≤ maxLen ∧ ∀ x ∈ xs, x.size ≤ maxLen
abbrev wfDatum (x : S49) : Prop := (Lit.int .u8 x.f0).wf = true ∧ x.f1.size ≤ maxLen ∧ wfChunks x.f2 ∧ wfInts x.f3
abbrev wfData (xs : List S49) : Prop := xs.length ≤ maxLen ∧ ∀ x ∈ xs, wfDatum x
abbrev bkRow (xs : List Int) : Nat := sumBy (fun _ => 1) xs + 1
abbrev bkChunks (xs : List (List Int)) : Nat := sumBy bkRow xs + 1
abbrev bkNames (xs : List ByteArray) : Nat := sumBy (fun s => s.size + 1) xs + 1
abbrev bkDatum (x : S49) : Nat := 1 + ((x.f1.size + 1) + (bkChunks x.f2 + bkRow x.f3)) + 1
abbrev bkData (xs : List S49) : Nat := sumBy bkDatum xs + 1
abbrev wtInts (xs : List Int) : Prop := xs.length * 8 ≤ 140737488351232 ∧ ∀ x ∈ xs, True
abbrev wtBytes (xs : List Int) : Prop := xs.length * 1 ≤ 140737488351232 ∧ ∀ x ∈ xs, True
abbrev wtChunks (xs : List (List Int)) : Prop := xs.length * 24 ≤ 140737488351232 ∧ ∀ x ∈ xs, wtBytes x
abbrev wtNames (xs : List ByteArray) : Prop := xs.length * 16 ≤ 140737488351232 ∧ ∀ x ∈ xs, x.size ≤ 140737488351232
abbrev wtDatum (x : S49) : Prop := True ∧ x.f1.size ≤ 140737488351232 ∧ wtChunks x.f2 ∧ wtInts x.f3
abbrev wtData (xs : List S49) : Prop := xs.length * 72 ≤ 140737488351232 ∧ ∀ x ∈ xs, wtDatum x
theorem opInt : Rdg Try.prog 3 (Kd.int .i64) (fun x => (Lit.int .i64 x).wf = true) (fun _ => 1) (fun _ => True) := op_int Try.underlying3 (by kernel_rfl)
theorem opByte : Rdg Try.prog 5 (Kd.int .u8) (fun x => (Lit.int .u8 x).wf = true) (fun _ => 1) (fun _ => True) := op_int Try.underlying5 (by kernel_rfl)
theorem opKind : Rdg Try.prog 46 (Kd.int .u8) (fun x => (Lit.int .u8 x).wf = true) (fun _ => 1) (fun _ => True) := op_int Try.underlying46 (by kernel_rfl)
theorem opStr : Rdg Try.prog 9 Kd.string (fun a => a.size ≤ maxLen) (fun a => a.size + 1) (fun a => a.size ≤ 140737488351232) := op_string Try.underlying9 (by kernel_rfl)
theorem opBytes : Rdg Try.prog 24 (Kd.slice 5 (Kd.int .u8)) wfBytes bkRow wtBytes := op_slice (B := 1) opByte Try.underlying24 (by kernel_rfl) (by kernel_rfl)
theorem opChunks : Rdg Try.prog 47 (Kd.slice 24 (Kd.slice 5 (Kd.int .u8))) wfChunks bkChunks wtChunks := op_slice (B := 24) opBytes Try.underlying47 (by kernel_rfl) (by kernel_rfl)
theorem opKids : Rdg Try.prog 27 (Kd.slice 3 (Kd.int .i64)) wfInts bkRow wtInts := op_slice (B := 8) opInt Try.underlying27 (by kernel_rfl) (by kernel_rfl)
theorem opNames : Rdg Try.prog 37 (Kd.slice 9 Kd.string) wfNames bkNames wtNames := op_slice (B := 16) opStr Try.underlying37 (by kernel_rfl) (by kernel_rfl)
theorem opDatum : Rdg Try.prog 49 k49 wfDatum bkDatum wtDatum :=
  op_struct (fun x : S49 => (x.f0, x.f1, x.f2, x.f3)) (fun a => ⟨a.1, a.2.1, a.2.2.1, a.2.2.2⟩) (fun _ => rfl) Try.underlying49 (by kernel_rfl)
    (opf_cons opKind rfl rfl (opf_cons opStr rfl rfl (opf_cons opChunks rfl rfl (opf_one opKids rfl))))
theorem opData : Rdg Try.prog 22 (Kd.slice 49 k49) wfData bkData wtData := op_slice (B := 72) opDatum Try.underlying22 (by kernel_rfl) (by kernel_rfl)

theorem Ev.now {α : Type} (r : α) : Ev (fun _ => some r) r := ⟨0, fun _ _ => rfl⟩
theorem Ev.eq {α : Type} {g : Nat → Option α} {r s : α} (h : Ev g r) (e : r = s) : Ev g s := e ▸ h
theorem wrap_idx {i : Nat} {n : Nat} (h : i < n) (hn : n ≤ maxLen) : wrap64 ((i : Int) + 1) = ((i + 1 : Nat) : Int) := by
  unfold wrap64 maxLen at *
  omega
theorem byte_wrap {x : Int} (h : (Lit.int .u8 x).wf = true) : wrap64 x = x ∧ 0 ≤ x ∧ x ≤ 255 := by
  have : 0 ≤ x ∧ x ≤ 255 := by simpa [Lit.wf, IntKind.min, IntKind.max, IntKind.signed, IntKind.bits] using h
  unfold wrap64
  omega
theorem awake_true : Ev (fun k => bobbinlaw17_awake.f k) true := by
  refine Ev.of (fun k => bobbinlaw17_awake.mono k) (k := 10) ?_
  decide +kernel
theorem rdT_mem {d : List S49} {i : Int} (h0 : 0 ≤ i) (h1 : i < d.length) : rd_T49 d i ∈ d := by
  unfold rd_T49
  have hi : i.toNat < d.length := by omega
  rw [List.getD_eq_getElem?_getD, List.getElem?_eq_getElem hi]
  exact List.getElem_mem hi
theorem drop_rd {xs : List Int} {j : Nat} (h : j < xs.length) : xs.drop j = rd xs (j : Int) :: xs.drop (j + 1) := by
  rw [List.drop_eq_getElem_cons h]
  unfold rd
  rw [Int.toNat_natCast, List.getD_eq_getElem?_getD, List.getElem?_eq_getElem h]
  rfl

def inr (d : List S49) (i : Int) : Bool := decide (0 ≤ i) && decide (i < (d.length : Int))
theorem inr_iff {d : List S49} {i : Int} : inr d i = true ↔ 0 ≤ i ∧ i < (d.length : Int) := by simp [inr]
theorem there_eq (d : List S49) (i : Int) : data_there.f d i = some (inr d i) := by
  unfold data_there.f inr
  by_cases h : i ≥ 0
  · rw [if_pos h, decide_eq_true (show 0 ≤ i from h), Bool.true_and]
  · rw [if_neg h, decide_eq_false (show ¬ 0 ≤ i from h), Bool.false_and]

def hit (d : List S49) (name : ByteArray) (k : Int) : Bool := inr d k && decide ((rd_T49 d k).f1.toList = name.toList)
def fieldM (d : List S49) (i : Int) (name : ByteArray) : Option Int := if (rd_T49 d i).f0 = 3 then (rd_T49 d i).f3.find? (hit d name) else none
def walkM (d : List S49) : Int → List ByteArray → Option Int
  | dot, [] => some dot
  | dot, n :: ns => (fieldM d dot n).bind fun t => walkM d t ns
def findM (d : List S49) (dot : Int) (root : Bool) (names : List ByteArray) : Option Int :=
  if inr d (if root = true then 0 else dot) = true then walkM d (if root = true then 0 else dot) names else none
def res : Option Int → Int × Bool
  | some k => (k, true)
  | none => (0, false)

theorem field_loop (d : List S49) (name : ByteArray) (kids : List Int) (hk : kids.length ≤ maxLen) :
    ∀ (m j : Nat), j + m = kids.length → Ev (fun k => data_field.l0 k d name kids (kids.length : Int) (j : Int)) (res ((kids.drop j).find? (hit d name)))
  | 0, j, hj => by
    rw [List.drop_eq_nil_of_le (by omega)]
    exact Ev.step (fun k => by simp only [data_field.l0]; rw [if_neg (by omega)]; rfl) (Ev.now _)
  | m + 1, j, hj => by
    rw [drop_rd (by omega)]
    have nxt := field_loop d name kids hk m (j + 1) (by omega)
    cases hin : inr d (rd kids (j : Int)) with
    | false =>
      have hh : hit d name (rd kids (j : Int)) = false := by simp [hit, hin]
      rw [List.find?_cons_of_neg (by simp [hh])]
      refine Ev.step (fun k => ?_) nxt
      simp only [data_field.l0]
      rw [if_pos (by omega), if_pos (by omega), if_pos (by omega), there_eq, hin]
      simp only [Option.bind_some, Bool.false_eq_true, if_false]
      rw [wrap_idx (show j < kids.length by omega) hk]
    | true =>
      obtain ⟨g0, g1⟩ := inr_iff.1 hin
      by_cases hn : (rd_T49 d (rd kids (j : Int))).f1.toList = name.toList
      · have hh : hit d name (rd kids (j : Int)) = true := by simp [hit, hin, hn]
        rw [List.find?_cons_of_pos hh]
        refine Ev.step (f := fun _ => some (rd kids (j : Int), true)) (fun k => ?_) (Ev.now _)
        simp only [data_field.l0]
        rw [if_pos (by omega), if_pos (by omega), if_pos (by omega), there_eq, hin]
        simp only [Option.bind_some, if_true]
        rw [if_pos g0, if_pos g1, if_pos hn]
      · have hh : hit d name (rd kids (j : Int)) = false := by simp [hit, hin, hn]
        rw [List.find?_cons_of_neg (by simp [hh])]
        refine Ev.step (fun k => ?_) nxt
        simp only [data_field.l0]
        rw [if_pos (by omega), if_pos (by omega), if_pos (by omega), there_eq, hin]
        simp only [Option.bind_some, if_true]
        rw [if_pos g0, if_pos g1, if_neg hn, wrap_idx (show j < kids.length by omega) hk]

theorem field_is (d : List S49) (hd : wfData d) (i : Int) (hi : inr d i = true) (name : ByteArray) : Ev (fun k => data_field.f k d i name) (res (fieldM d i name)) := by
  obtain ⟨g0, g1⟩ := inr_iff.1 hi
  unfold data_field.f fieldM
  simp only [if_pos g0, if_pos g1]
  by_cases h3 : (rd_T49 d i).f0 = 3
  · simp only [if_pos h3]
    exact field_loop d name _ (hd.2 _ (rdT_mem g0 g1)).2.2.2.1 _ 0 (Nat.zero_add _)
  · simp only [if_neg h3]
    exact Ev.now _

theorem field_inr {d : List S49} {i : Int} {name : ByteArray} {t : Int} (h : fieldM d i name = some t) : inr d t = true := by
  unfold fieldM at h
  split at h
  · have := List.find?_some h
    simp only [hit, Bool.and_eq_true] at this
    exact this.1
  · cases h

theorem drop_names {xs : List ByteArray} {j : Nat} (h : j < xs.length) : xs.drop j = rdOf ByteArray.empty xs (j : Int) :: xs.drop (j + 1) := by
  rw [List.drop_eq_getElem_cons h]
  unfold rdOf
  rw [Int.toNat_natCast, List.getD_eq_getElem?_getD, List.getElem?_eq_getElem h]
  rfl

theorem find_loop (d : List S49) (hd : wfData d) (names : List ByteArray) (hn : names.length ≤ maxLen) :
    ∀ (m j : Nat), j + m = names.length → ∀ dot, inr d dot = true → Ev (fun k => data_Find.l0 k d dot names (names.length : Int) (j : Int)) (res (walkM d dot (names.drop j)))
  | 0, j, hj, dot, hdot => by
    rw [List.drop_eq_nil_of_le (by omega)]
    exact Ev.step (fun k => by simp only [data_Find.l0]; rw [if_neg (by omega)]; rfl) (Ev.now _)
  | m + 1, j, hj, dot, hdot => by
    rw [drop_names (by omega)]
    have hf := field_is d hd dot hdot (rdOf ByteArray.empty names (j : Int))
    refine Ev.step (f := fun k => (data_field.f k d dot (rdOf ByteArray.empty names (j : Int))).bind fun b => if b.2 = true then data_Find.l0 k d b.1 names (names.length : Int) ((j + 1 : Nat) : Int) else some (0, false)) (fun k => ?_) ?_
    · simp only [data_Find.l0]
      rw [if_pos (by omega), if_pos (by omega), if_pos (by omega), wrap_idx (show j < names.length by omega) hn]
    · refine Ev.bind hf ?_
      unfold walkM
      cases hF : fieldM d dot (rdOf ByteArray.empty names (j : Int)) with
      | none => exact Ev.now _
      | some t =>
        simp only [res, if_true, Option.bind_some]
        exact find_loop d hd names hn m (j + 1) (by omega) t (field_inr hF)

theorem find_is (d : List S49) (hd : wfData d) (dot : Int) (root : Bool) (names : List ByteArray) (hn : names.length ≤ maxLen) : Ev (fun k => data_Find.f k d dot root names) (res (findM d dot root names)) := by
  have body : ∀ x, Ev (fun k => data_Find.j0 k d x root names) (res (if inr d x = true then walkM d x names else none)) := by
    intro x
    cases hx : inr d x with
    | true =>
      refine Ev.step (fun k => ?_) (find_loop d hd names hn _ 0 (Nat.zero_add _) x hx)
      simp only [data_Find.j0]
      rw [there_eq, hx]
      rfl
    | false =>
      refine Ev.step (f := fun _ => some (0, false)) (fun k => ?_) (Ev.now _)
      simp only [data_Find.j0]
      rw [there_eq, hx]
      rfl
  unfold data_Find.f findM
  cases root with
  | true => simp only [if_true]; exact body 0
  | false => simp only [Bool.false_eq_true, if_false]; exact body dot

theorem walk_inr {d : List S49} : ∀ {names : List ByteArray} {dot t : Int}, inr d dot = true → walkM d dot names = some t → inr d t = true
  | [], dot, t, h, e => by
    simp only [walkM, Option.some.injEq] at e
    exact e ▸ h
  | n :: ns, dot, t, h, e => by
    simp only [walkM, Option.bind_eq_some_iff] at e
    obtain ⟨u, hu, e⟩ := e
    exact walk_inr (field_inr hu) e
theorem find_inr {d : List S49} {dot : Int} {root : Bool} {names : List ByteArray} {t : Int} (h : findM d dot root names = some t) : inr d t = true := by
  unfold findM at h
  generalize (if root = true then 0 else dot) = x at h
  split at h
  · exact walk_inr ‹_› h
  · cases h

theorem is_eq (d : List S49) (i : Int) : bobbinref17_is.f d i = some (inr d i) := by
  unfold bobbinref17_is.f inr
  by_cases h : i ≥ 0
  · rw [if_pos h, decide_eq_true (show 0 ≤ i from h), Bool.true_and]
  · rw [if_neg h, decide_eq_false (show ¬ 0 ≤ i from h), Bool.false_and]

def num : Option Int → Int
  | some k => k
  | none => -1

theorem ref_out (d : List S49) (i : Int) (hi : inr d i = false) (j : Int) (root : Bool) (names : List ByteArray) : Ev (fun k => bobbinref17_Find.l0 k d i j root names) (-1) := by
  have stop : Ev (fun k => bobbinref17_Find.j2 k d i j false root names) (-1) := by
    refine Ev.step (f := fun _ => some (-1)) (fun k => ?_) (Ev.now _)
    simp only [bobbinref17_Find.j2, Bool.false_eq_true, if_false]
    rw [is_eq, hi]
    rfl
  refine Ev.step (fun k => ?_) stop
  simp only [bobbinref17_Find.l0]
  split
  · rw [is_eq, hi]
    rfl
  · rfl

theorem ref_loop (d : List S49) (hd : wfData d) (root : Bool) (names : List ByteArray) (hn : names.length ≤ maxLen) :
    ∀ (m j : Nat), j + m = names.length → ∀ dot, inr d dot = true → Ev (fun k => bobbinref17_Find.l0 k d dot (j : Int) root names) (num (walkM d dot (names.drop j)))
  | 0, j, hj, dot, hdot => by
    rw [List.drop_eq_nil_of_le (by omega)]
    have stop : Ev (fun k => bobbinref17_Find.j2 k d dot (j : Int) false root names) dot := by
      refine Ev.step (f := fun _ => some dot) (fun k => ?_) (Ev.now _)
      simp only [bobbinref17_Find.j2, Bool.false_eq_true, if_false]
      rw [is_eq, hdot]
      rfl
    exact Ev.step (fun k => by simp only [bobbinref17_Find.l0]; rw [if_neg (by omega)]) stop
  | m + 1, j, hj, dot, hdot => by
    rw [drop_names (by omega)]
    obtain ⟨g0, g1⟩ := inr_iff.1 hdot
    have hx := hd.2 _ (rdT_mem g0 g1)
    obtain ⟨hw, _⟩ := byte_wrap hx.1
    have hk := hx.2.2.2.1
    have kids : ∀ (m' i : Nat), i + m' = (rd_T49 d dot).f3.length → Ev (fun k => bobbinref17_Find.l1 k d dot (j : Int) (-1) (i : Int) root names)
        (num ((((rd_T49 d dot).f3.drop i).find? (hit d (rdOf ByteArray.empty names (j : Int)))).bind fun t => walkM d t (names.drop (j + 1)))) := by
      intro m'
      induction m' with
      | zero =>
        intro i hi
        rw [List.drop_eq_nil_of_le (by omega)]
        refine Ev.step (fun k => ?_) (ref_out d (-1) (by simp [inr]) ((j + 1 : Nat) : Int) root names)
        simp only [bobbinref17_Find.l1]
        rw [if_pos g0, if_pos g1, if_neg (by omega), wrap_idx (show j < names.length by omega) hn]
      | succ m' ih =>
        intro i hi
        rw [drop_rd (by omega)]
        have nxt := ih (i + 1) (by omega)
        cases hin : inr d (rd (rd_T49 d dot).f3 (i : Int)) with
        | false =>
          rw [List.find?_cons_of_neg (by simp [hit, hin])]
          refine Ev.step (fun k => ?_) nxt
          simp only [bobbinref17_Find.l1]
          rw [if_pos g0, if_pos g1, if_pos (by omega), if_pos (by omega), is_eq, hin]
          simp only [Option.bind_some, Bool.false_eq_true, if_false]
          rw [wrap_idx (show i < (rd_T49 d dot).f3.length by omega) hk]
        | true =>
          obtain ⟨e0, e1⟩ := inr_iff.1 hin
          by_cases hnm : (rd_T49 d (rd (rd_T49 d dot).f3 (i : Int))).f1.toList = (rdOf ByteArray.empty names (j : Int)).toList
          · rw [List.find?_cons_of_pos (by simp [hit, hin, hnm])]
            refine Ev.step (fun k => ?_) (ref_loop d hd root names hn m (j + 1) (by omega) _ hin)
            simp only [bobbinref17_Find.l1]
            rw [if_pos g0, if_pos g1, if_pos (by omega), if_pos (by omega), is_eq, hin]
            simp only [Option.bind_some, if_true]
            rw [if_pos e0, if_pos e1, if_pos (by omega), if_pos (by omega), if_pos hnm, wrap_idx (show j < names.length by omega) hn]
          · rw [List.find?_cons_of_neg (by simp [hit, hin, hnm])]
            refine Ev.step (fun k => ?_) nxt
            simp only [bobbinref17_Find.l1]
            rw [if_pos g0, if_pos g1, if_pos (by omega), if_pos (by omega), is_eq, hin]
            simp only [Option.bind_some, if_true]
            rw [if_pos e0, if_pos e1, if_pos (by omega), if_pos (by omega), if_neg hnm, wrap_idx (show i < (rd_T49 d dot).f3.length by omega) hk]
    have step2 : Ev (fun k => bobbinref17_Find.j2 k d dot (j : Int) true root names) (num (walkM d dot (rdOf ByteArray.empty names (j : Int) :: names.drop (j + 1)))) := by
      unfold walkM fieldM
      by_cases h3 : (rd_T49 d dot).f0 = 3
      · rw [if_pos h3]
        refine Ev.step (fun k => ?_) (kids _ 0 (Nat.zero_add _))
        simp only [bobbinref17_Find.j2, if_true]
        rw [if_pos g0, if_pos g1, hw, if_pos h3]
        rfl
      · rw [if_neg h3]
        refine Ev.step (fun k => ?_) (ref_out d (-1) (by simp [inr]) ((j + 1 : Nat) : Int) root names)
        simp only [bobbinref17_Find.j2, if_true]
        rw [if_pos g0, if_pos g1, hw, if_neg h3, wrap_idx (show j < names.length by omega) hn]
    refine Ev.step (fun k => ?_) step2
    simp only [bobbinref17_Find.l0]
    rw [if_pos (by omega), is_eq, hdot]
    rfl
  termination_by m => m

theorem ref_is (d : List S49) (hd : wfData d) (dot : Int) (root : Bool) (names : List ByteArray) (hn : names.length ≤ maxLen) : Ev (fun k => bobbinref17_Find.f k d dot root names) (num (findM d dot root names)) := by
  have body : ∀ x, Ev (fun k => bobbinref17_Find.j0 k d x root names) (num (if inr d x = true then walkM d x names else none)) := by
    intro x
    refine Ev.step (f := fun k => bobbinref17_Find.l0 k d x 0 root names) (fun k => by simp only [bobbinref17_Find.j0]) ?_
    cases hx : inr d x with
    | true => exact ref_loop d hd root names hn _ 0 (Nat.zero_add _) x hx
    | false => exact ref_out d x hx 0 root names
  unfold bobbinref17_Find.f findM
  cases root with
  | true => simp only [if_true]; exact body 0
  | false => simp only [Bool.false_eq_true, if_false]; exact body dot

theorem DataFinds (d : List S49) (dot : Int) (root : Bool) (names : List ByteArray) (hd : wfData d) (_ : wtData d) (_ : (Lit.int .i64 dot).wf = true) (hn : wfNames names) : ∃ k, bobbinlaw17_DataFinds.f k d dot root names = some true := by
  refine Ev.rounds (g := fun k => bobbinlaw17_DataFinds.f k d dot root names) ?_
  unfold bobbinlaw17_DataFinds.f
  refine Ev.bind awake_true ?_
  simp only [if_true]
  refine Ev.bind (find_is d hd dot root names hn.1) ?_
  refine Ev.bind (ref_is d hd dot root names hn.1) ?_
  cases h : findM d dot root names with
  | none => simpa [res, num] using Ev.now true
  | some t =>
    obtain ⟨g0, _⟩ := inr_iff.1 (find_inr h)
    have : ¬ t < 0 := by omega
    simpa [res, num, this] using Ev.now true

end Go.Proofs.Ytclanebbalgpfaa.DataFindsPure
