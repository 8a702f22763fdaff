/- The plain law of DataWays: what the printed functions compute answers as the statement says. -/
import Derived.Test.YtclanebbalgpfaaOpen
import Derived.Test.YtclanebbalgpfaaPDataWaysx
namespace Go.Proofs.Ytclanebbalgpfaa.DataWaysPure
open Go.RowKit Go.Proofs.YtclanebbalgpfaaW.PrintWords Go.Proofs.Ytclanebbalgpfaa.Open Go.Proofs.Ytclanebbalgpfaa.PDataWays
set_option linter.unusedVariables false
abbrev wfInts (xs : List Int) : Prop := xs.length ≤ maxLen ∧ ∀ x ∈ xs, (Lit.int .i64 x).wf = true
abbrev wfBytes (xs : List Int) : Prop := xs.length ≤ maxLen ∧ ∀ x ∈ xs, (Lit.int .u8 x).wf = true
abbrev wfChunks (xs : List (List Int)) : Prop := xs.length ≤ maxLen ∧ ∀ x ∈ xs, wfBytes x
abbrev wfNames (xs : List ByteArray) : Prop := xs.length ≤ maxLen ∧ ∀ x ∈ xs, x.size ≤ maxLen
abbrev wfDatum (x : S49) : Prop := (Lit.int .u8 x.f0).wf = true ∧ x.f1.size ≤ maxLen ∧ wfChunks x.f2 ∧ wfInts x.f3
abbrev wfData (xs : List S49) : Prop := xs.length ≤ maxLen ∧ ∀ x ∈ xs, wfDatum x
abbrev bkRow (xs : List Int) : Nat := sumBy (fun _ => 1) xs + 1
abbrev bkChunks (xs : List (List Int)) : Nat := sumBy bkRow xs + 1
abbrev bkNames (xs : List ByteArray) : Nat := sumBy (fun s => s.size + 1) xs + 1
abbrev bkDatum (x : S49) : Nat := 1 + ((x.f1.size + 1) + (bkChunks x.f2 + bkRow x.f3)) + 1
abbrev bkData (xs : List S49) : Nat := sumBy bkDatum xs + 1
abbrev wtInts (xs : List Int) : Prop := xs.length * 8 ≤ 140737488351232 ∧ ∀ x ∈ xs, True
abbrev wtBytes (xs : List Int) : Prop := xs.length * 1 ≤ 140737488351232 ∧ ∀ x ∈ xs, True
abbrev wtChunks (xs : List (List Int)) : Prop := xs.length * 24 ≤ 140737488351232 ∧ ∀ x ∈ xs, wtBytes x
abbrev wtNames (xs : List ByteArray) : Prop := xs.length * 16 ≤ 140737488351232 ∧ ∀ x ∈ xs, x.size ≤ 140737488351232
abbrev wtDatum (x : S49) : Prop := True ∧ x.f1.size ≤ 140737488351232 ∧ wtChunks x.f2 ∧ wtInts x.f3
abbrev wtData (xs : List S49) : Prop := xs.length * 72 ≤ 140737488351232 ∧ ∀ x ∈ xs, wtDatum x
theorem opInt : Rdg Try.prog 3 (Kd.int .i64) (fun x => (Lit.int .i64 x).wf = true) (fun _ => 1) (fun _ => True) := op_int Try.underlying3 (by kernel_rfl)
theorem opByte : Rdg Try.prog 5 (Kd.int .u8) (fun x => (Lit.int .u8 x).wf = true) (fun _ => 1) (fun _ => True) := op_int Try.underlying5 (by kernel_rfl)
theorem opKind : Rdg Try.prog 46 (Kd.int .u8) (fun x => (Lit.int .u8 x).wf = true) (fun _ => 1) (fun _ => True) := op_int Try.underlying46 (by kernel_rfl)
theorem opStr : Rdg Try.prog 9 Kd.string (fun a => a.size ≤ maxLen) (fun a => a.size + 1) (fun a => a.size ≤ 140737488351232) := op_string Try.underlying9 (by kernel_rfl)
theorem opBytes : Rdg Try.prog 24 (Kd.slice 5 (Kd.int .u8)) wfBytes bkRow wtBytes := op_slice (B := 1) opByte Try.underlying24 (by kernel_rfl) (by kernel_rfl)
theorem opChunks : Rdg Try.prog 47 (Kd.slice 24 (Kd.slice 5 (Kd.int .u8))) wfChunks bkChunks wtChunks := op_slice (B := 24) opBytes Try.underlying47 (by kernel_rfl) (by kernel_rfl)
theorem opKids : Rdg Try.prog 27 (Kd.slice 3 (Kd.int .i64)) wfInts bkRow wtInts := op_slice (B := 8) opInt Try.underlying27 (by kernel_rfl) (by kernel_rfl)
theorem opNames : Rdg Try.prog 37 (Kd.slice 9 Kd.string) wfNames bkNames wtNames := op_slice (B := 16) opStr Try.underlying37 (by kernel_rfl) (by kernel_rfl)
theorem opDatum : Rdg Try.prog 49 k49 wfDatum bkDatum wtDatum :=
  op_struct (fun x : S49 => (x.f0, x.f1, x.f2, x.f3)) (fun a => ⟨a.1, a.2.1, a.2.2.1, a.2.2.2⟩) (fun _ => rfl) Try.underlying49 (by kernel_rfl)
    (opf_cons opKind rfl rfl (opf_cons opStr rfl rfl (opf_cons opChunks rfl rfl (opf_one opKids rfl))))
theorem opData : Rdg Try.prog 22 (Kd.slice 49 k49) wfData bkData wtData := op_slice (B := 72) opDatum Try.underlying22 (by kernel_rfl) (by kernel_rfl)

theorem Ev.now {α : Type} (r : α) : Ev (fun _ => some r) r := ⟨0, fun _ _ => rfl⟩
theorem Ev.eq {α : Type} {g : Nat → Option α} {r s : α} (h : Ev g r) (e : r = s) : Ev g s := e ▸ h
theorem wrap_idx {i : Nat} {n : Nat} (h : i < n) (hn : n ≤ maxLen) : wrap64 ((i : Int) + 1) = ((i + 1 : Nat) : Int) := by
  unfold wrap64 maxLen at *
  omega
theorem byte_wrap {x : Int} (h : (Lit.int .u8 x).wf = true) : wrap64 x = x ∧ 0 ≤ x ∧ x ≤ 255 := by
  have : 0 ≤ x ∧ x ≤ 255 := by simpa [Lit.wf, IntKind.min, IntKind.max, IntKind.signed, IntKind.bits] using h
  unfold wrap64
  omega
theorem awake_true : Ev (fun k => bobbinlaw17_awake.f k) true := by
  refine Ev.of (fun k => bobbinlaw17_awake.mono k) (k := 10) ?_
  decide +kernel
theorem rdT_mem {d : List S49} {i : Int} (h0 : 0 ≤ i) (h1 : i < d.length) : rd_T49 d i ∈ d := by
  unfold rd_T49
  have hi : i.toNat < d.length := by omega
  rw [List.getD_eq_getElem?_getD, List.getElem?_eq_getElem hi]
  exact List.getElem_mem hi
theorem drop_rd {xs : List Int} {j : Nat} (h : j < xs.length) : xs.drop j = rd xs (j : Int) :: xs.drop (j + 1) := by
  rw [List.drop_eq_getElem_cons h]
  unfold rd
  rw [Int.toNat_natCast, List.getD_eq_getElem?_getD, List.getElem?_eq_getElem h]
  rfl

def inr (d : List S49) (i : Int) : Bool := decide (0 ≤ i) && decide (i < (d.length : Int))
theorem inr_iff {d : List S49} {i : Int} : inr d i = true ↔ 0 ≤ i ∧ i < (d.length : Int) := by simp [inr]
theorem there_eq (d : List S49) (i : Int) : data_there.f d i = some (inr d i) := by
  unfold data_there.f inr
  by_cases h : i ≥ 0
  · rw [if_pos h, decide_eq_true (show 0 ≤ i from h), Bool.true_and]
  · rw [if_neg h, decide_eq_false (show ¬ 0 ≤ i from h), Bool.false_and]

def hit (d : List S49) (name : ByteArray) (k : Int) : Bool := inr d k && decide ((rd_T49 d k).f1.toList = name.toList)
def fieldM (d : List S49) (i : Int) (name : ByteArray) : Option Int := if (rd_T49 d i).f0 = 3 then (rd_T49 d i).f3.find? (hit d name) else none
def walkM (d : List S49) : Int → List ByteArray → Option Int
  | dot, [] => some dot
  | dot, n :: ns => (fieldM d dot n).bind fun t => walkM d t ns
def findM (d : List S49) (dot : Int) (root : Bool) (names : List ByteArray) : Option Int :=
  if inr d (if root = true then 0 else dot) = true then walkM d (if root = true then 0 else dot) names else none
def res : Option Int → Int × Bool
  | some k => (k, true)
  | none => (0, false)

theorem field_loop (d : List S49) (name : ByteArray) (kids : List Int) (hk : kids.length ≤ maxLen) :
    ∀ (m j : Nat), j + m = kids.length → Ev (fun k => data_field.l0 k d name kids (kids.length : Int) (j : Int)) (res ((kids.drop j).find? (hit d name)))
  | 0, j, hj => by
    rw [List.drop_eq_nil_of_le (by omega)]
    exact Ev.step (fun k => by simp only [data_field.l0]; rw [if_neg (by omega)]; rfl) (Ev.now _)
  | m + 1, j, hj => by
    rw [drop_rd (by omega)]
    have nxt := field_loop d name kids hk m (j + 1) (by omega)
    cases hin : inr d (rd kids (j : Int)) with
    | false =>
      have hh : hit d name (rd kids (j : Int)) = false := by simp [hit, hin]
      rw [List.find?_cons_of_neg (by simp [hh])]
      refine Ev.step (fun k => ?_) nxt
      simp only [data_field.l0]
      rw [if_pos (by omega), if_pos (by omega), if_pos (by omega), there_eq, hin]
      simp only [Option.bind_some, Bool.false_eq_true, if_false]
      rw [wrap_idx (show j < kids.length by omega) hk]
    | true =>
      obtain ⟨g0, g1⟩ := inr_iff.1 hin
      by_cases hn : (rd_T49 d (rd kids (j : Int))).f1.toList = name.toList
      · have hh : hit d name (rd kids (j : Int)) = true := by simp [hit, hin, hn]
        rw [List.find?_cons_of_pos hh]
        refine Ev.step (f := fun _ => some (rd kids (j : Int), true)) (fun k => ?_) (Ev.now _)
        simp only [data_field.l0]
        rw [if_pos (by omega), if_pos (by omega), if_pos (by omega), there_eq, hin]
        simp only [Option.bind_some, if_true]
        rw [if_pos g0, if_pos g1, if_pos hn]
      · have hh : hit d name (rd kids (j : Int)) = false := by simp [hit, hin, hn]
        rw [List.find?_cons_of_neg (by simp [hh])]
        refine Ev.step (fun k => ?_) nxt
        simp only [data_field.l0]
        rw [if_pos (by omega), if_pos (by omega), if_pos (by omega), there_eq, hin]
        simp only [Option.bind_some, if_true]
        rw [if_pos g0, if_pos g1, if_neg hn, wrap_idx (show j < kids.length by omega) hk]

theorem field_is (d : List S49) (hd : wfData d) (i : Int) (hi : inr d i = true) (name : ByteArray) : Ev (fun k => data_field.f k d i name) (res (fieldM d i name)) := by
  obtain ⟨g0, g1⟩ := inr_iff.1 hi
  unfold data_field.f fieldM
  simp only [if_pos g0, if_pos g1]
  by_cases h3 : (rd_T49 d i).f0 = 3
  · simp only [if_pos h3]
    exact field_loop d name _ (hd.2 _ (rdT_mem g0 g1)).2.2.2.1 _ 0 (Nat.zero_add _)
  · simp only [if_neg h3]
    exact Ev.now _

theorem field_inr {d : List S49} {i : Int} {name : ByteArray} {t : Int} (h : fieldM d i name = some t) : inr d t = true := by
  unfold fieldM at h
  split at h
  · have := List.find?_some h
    simp only [hit, Bool.and_eq_true] at this
    exact this.1
  · cases h

theorem drop_names {xs : List ByteArray} {j : Nat} (h : j < xs.length) : xs.drop j = rdOf ByteArray.empty xs (j : Int) :: xs.drop (j + 1) := by
  rw [List.drop_eq_getElem_cons h]
  unfold rdOf
  rw [Int.toNat_natCast, List.getD_eq_getElem?_getD, List.getElem?_eq_getElem h]
  rfl

theorem find_loop (d : List S49) (hd : wfData d) (names : List ByteArray) (hn : names.length ≤ maxLen) :
    ∀ (m j : Nat), j + m = names.length → ∀ dot, inr d dot = true → Ev (fun k => data_Find.l0 k d dot names (names.length : Int) (j : Int)) (res (walkM d dot (names.drop j)))
  | 0, j, hj, dot, hdot => by
    rw [List.drop_eq_nil_of_le (by omega)]
    exact Ev.step (fun k => by simp only [data_Find.l0]; rw [if_neg (by omega)]; rfl) (Ev.now _)
  | m + 1, j, hj, dot, hdot => by
    rw [drop_names (by omega)]
    have hf := field_is d hd dot hdot (rdOf ByteArray.empty names (j : Int))
    refine Ev.step (f := fun k => (data_field.f k d dot (rdOf ByteArray.empty names (j : Int))).bind fun b => if b.2 = true then data_Find.l0 k d b.1 names (names.length : Int) ((j + 1 : Nat) : Int) else some (0, false)) (fun k => ?_) ?_
    · simp only [data_Find.l0]
      rw [if_pos (by omega), if_pos (by omega), if_pos (by omega), wrap_idx (show j < names.length by omega) hn]
    · refine Ev.bind hf ?_
      unfold walkM
      cases hF : fieldM d dot (rdOf ByteArray.empty names (j : Int)) with
      | none => exact Ev.now _
      | some t =>
        simp only [res, if_true, Option.bind_some]
        exact find_loop d hd names hn m (j + 1) (by omega) t (field_inr hF)

theorem find_is (d : List S49) (hd : wfData d) (dot : Int) (root : Bool) (names : List ByteArray) (hn : names.length ≤ maxLen) : Ev (fun k => data_Find.f k d dot root names) (res (findM d dot root names)) := by
  have body : ∀ x, Ev (fun k => data_Find.j0 k d x root names) (res (if inr d x = true then walkM d x names else none)) := by
    intro x
    cases hx : inr d x with
    | true =>
      refine Ev.step (fun k => ?_) (find_loop d hd names hn _ 0 (Nat.zero_add _) x hx)
      simp only [data_Find.j0]
      rw [there_eq, hx]
      rfl
    | false =>
      refine Ev.step (f := fun _ => some (0, false)) (fun k => ?_) (Ev.now _)
      simp only [data_Find.j0]
      rw [there_eq, hx]
      rfl
  unfold data_Find.f findM
  cases root with
  | true => simp only [if_true]; exact body 0
  | false => simp only [Bool.false_eq_true, if_false]; exact body dot

theorem walk_inr {d : List S49} : ∀ {names : List ByteArray} {dot t : Int}, inr d dot = true → walkM d dot names = some t → inr d t = true
  | [], dot, t, h, e => by
    simp only [walkM, Option.some.injEq] at e
    exact e ▸ h
  | n :: ns, dot, t, h, e => by
    simp only [walkM, Option.bind_eq_some_iff] at e
    obtain ⟨u, hu, e⟩ := e
    exact walk_inr (field_inr hu) e
theorem find_inr {d : List S49} {dot : Int} {root : Bool} {names : List ByteArray} {t : Int} (h : findM d dot root names = some t) : inr d t = true := by
  unfold findM at h
  generalize (if root = true then 0 else dot) = x at h
  split at h
  · exact walk_inr ‹_› h
  · cases h

theorem walk_append (d : List S49) : ∀ (xs ys : List ByteArray) (dot : Int), walkM d dot (xs ++ ys) = (walkM d dot xs).bind fun t => walkM d t ys
  | [], ys, dot => rfl
  | x :: xs, ys, dot => by
    simp only [List.cons_append, walkM]
    cases fieldM d dot x with
    | none => rfl
    | some t => simp only [Option.bind_some]; exact walk_append d xs ys t

theorem DataWays (d : List S49) (dot other : Int) (names : List ByteArray) (a : Int) (hd : wfData d) (_ : wtData d) (_ : (Lit.int .i64 dot).wf = true) (_ : (Lit.int .i64 other).wf = true)
    (hn : wfNames names) (hw : wtNames names) (ha : (Lit.int .u8 a).wf = true) : ∃ k, bobbinlaw17_DataWays.f k d dot other names a = some true := by
  refine Ev.rounds (g := fun k => bobbinlaw17_DataWays.f k d dot other names a) ?_
  obtain ⟨ew, ea0, ea1⟩ := byte_wrap ha
  have hl : names.length * 16 ≤ 140737488351232 := hw.1
  have el : wrap64 ((names.length : Int) + 1) = ((names.length + 1 : Nat) : Int) := by unfold wrap64; omega
  obtain ⟨n, en⟩ : ∃ n : Nat, n = a.toNat % (names.length + 1) := ⟨_, rfl⟩
  have hnl : n < names.length + 1 := by rw [en]; exact Nat.mod_lt _ (by omega)
  have em : Int.tmod (wrap64 a) (wrap64 ((names.length : Int) + 1)) = (n : Int) := by
    rw [ew, el, Int.tmod_eq_emod_of_nonneg ea0, en, Int.natCast_emod, Int.toNat_of_nonneg ea0]
  unfold bobbinlaw17_DataWays.f
  refine Ev.bind awake_true ?_
  simp only [if_true, em]
  rw [el]
  simp only [if_neg (show ¬ ((names.length + 1 : Nat) : Int) = 0 by omega), if_pos (show (0 : Int) ≤ (n : Int) by omega), if_pos (show (n : Int) ≤ (names.length : Int) by omega), Int.toNat_natCast]
  have h1 : ∀ (x : Int) (root : Bool) (l : List ByteArray), l.length ≤ names.length → Ev (fun k => data_Find.f k d x root l) (res (findM d x root l)) := fun x root l hl => find_is d hd x root l (Nat.le_trans hl hn.1)
  refine Ev.bind (h1 dot false names (Nat.le_refl _)) ?_
  refine Ev.bind (h1 dot false (names.take n) (by rw [List.length_take]; omega)) ?_
  have hsplit : findM d dot false names = (findM d dot false (names.take n)).bind fun t => findM d t false (names.drop n) := by
    unfold findM
    simp only [Bool.false_eq_true, if_false]
    cases hin : inr d dot with
    | false => rfl
    | true =>
      simp only [if_true]
      conv => lhs; rw [← List.take_append_drop n names]
      rw [walk_append]
      cases hx : walkM d dot (names.take n) with
      | none => rfl
      | some t => simp only [Option.bind_some, if_pos (walk_inr hin hx)]
  cases hf : findM d dot false (names.take n) with
  | none =>
    rw [hsplit, hf]
    simpa [res] using Ev.now true
  | some t =>
    have hin : inr d dot = true := by
      unfold findM at hf
      simp only [Bool.false_eq_true, if_false] at hf
      split at hf
      · assumption
      · cases hf
    simp only [res, if_true]
    refine Ev.bind (h1 t false (names.drop n) (by rw [List.length_drop]; omega)) ?_
    refine Ev.bind (h1 dot true names (Nat.le_refl _)) ?_
    refine Ev.bind (h1 other true names (Nat.le_refl _)) ?_
    refine Ev.bind (h1 dot false [] (Nat.zero_le _)) ?_
    have e1 : findM d dot false names = findM d t false (names.drop n) := by rw [hsplit, hf]; rfl
    have e2 : findM d dot true names = findM d other true names := by simp [findM]
    have e3 : findM d dot false [] = some dot := by simp [findM, hin, walkM]
    rw [← e1, ← e2, e3]
    simpa [res] using Ev.now true

end Go.Proofs.Ytclanebbalgpfaa.DataWaysPure
