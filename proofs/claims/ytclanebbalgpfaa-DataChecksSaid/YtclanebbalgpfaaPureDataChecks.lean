/- The plain law of DataChecks: what the printed functions compute answers as the statement says. -/
import Derived.Test.YtclanebbalgpfaaOpen
import Derived.Test.YtclanebbalgpfaaPDataChecksx
namespace Go.Proofs.Ytclanebbalgpfaa.DataChecksPure
open Go.RowKit Go.Proofs.YtclanebbalgpfaaW.PrintWords Go.Proofs.Ytclanebbalgpfaa.Open Go.Proofs.Ytclanebbalgpfaa.PDataChecks
set_option linter.unusedVariables false
abbrev wfInts (xs : List Int) : Prop := xs.length ≤ maxLen ∧ ∀ x ∈ xs, (Lit.int .i64 x).wf = true
abbrev wfBytes (xs : List Int) : Prop := xs.length ≤ maxLen ∧ ∀ x ∈ xs, (Lit.int .u8 x).wf = true
abbrev wfChunks (xs : List (List Int)) : Prop := xs.length ≤ maxLen ∧ ∀ x ∈ xs, wfBytes x
abbrev wfNames (xs : List ByteArray) : Prop := xs.length ≤ maxLen ∧ ∀ x ∈ xs, x.size ≤ maxLen
abbrev wfDatum (x : S49) : Prop := (Lit.int .u8 x.f0).wf = true ∧ x.f1.size ≤ maxLen ∧ wfChunks x.f2 ∧ wfInts x.f3
abbrev wfData (xs : List S49) : Prop := xs.length ≤ maxLen ∧ ∀ x ∈ xs, wfDatum x
abbrev bkRow (xs : List Int) : Nat := sumBy (fun _ => 1) xs + 1
abbrev bkChunks (xs : List (List Int)) : Nat := sumBy bkRow xs + 1
abbrev bkNames (xs : List ByteArray) : Nat := sumBy (fun s => s.size + 1) xs + 1
abbrev bkDatum (x : S49) : Nat := 1 + ((x.f1.size + 1) + (bkChunks x.f2 + bkRow x.f3)) + 1
abbrev bkData (xs : List S49) : Nat := sumBy bkDatum xs + 1
abbrev wtInts (xs : List Int) : Prop := xs.length * 8 ≤ 140737488351232 ∧ ∀ x ∈ xs, True
abbrev wtBytes (xs : List Int) : Prop := xs.length * 1 ≤ 140737488351232 ∧ ∀ x ∈ xs, True
abbrev wtChunks (xs : List (List Int)) : Prop := xs.length * 24 ≤ 140737488351232 ∧ ∀ x ∈ xs, wtBytes x
abbrev wtNames (xs : List ByteArray) : Prop := xs.length * 16 ≤ 140737488351232 ∧ ∀ x ∈ xs, x.size ≤ 140737488351232
abbrev wtDatum (x : S49) : Prop := True ∧ x.f1.size ≤ 140737488351232 ∧ wtChunks x.f2 ∧ wtInts x.f3
abbrev wtData (xs : List S49) : Prop := xs.length * 72 ≤ 140737488351232 ∧ ∀ x ∈ xs, wtDatum x
theorem opInt : Rdg Try.prog 3 (Kd.int .i64) (fun x => (Lit.int .i64 x).wf = true) (fun _ => 1) (fun _ => True) := op_int Try.underlying3 (by kernel_rfl)
theorem opByte : Rdg Try.prog 5 (Kd.int .u8) (fun x => (Lit.int .u8 x).wf = true) (fun _ => 1) (fun _ => True) := op_int Try.underlying5 (by kernel_rfl)
theorem opKind : Rdg Try.prog 46 (Kd.int .u8) (fun x => (Lit.int .u8 x).wf = true) (fun _ => 1) (fun _ => True) := op_int Try.underlying46 (by kernel_rfl)
theorem opStr : Rdg Try.prog 9 Kd.string (fun a => a.size ≤ maxLen) (fun a => a.size + 1) (fun a => a.size ≤ 140737488351232) := op_string Try.underlying9 (by kernel_rfl)
theorem opBytes : Rdg Try.prog 24 (Kd.slice 5 (Kd.int .u8)) wfBytes bkRow wtBytes := op_slice (B := 1) opByte Try.underlying24 (by kernel_rfl) (by kernel_rfl)
theorem opChunks : Rdg Try.prog 47 (Kd.slice 24 (Kd.slice 5 (Kd.int .u8))) wfChunks bkChunks wtChunks := op_slice (B := 24) opBytes Try.underlying47 (by kernel_rfl) (by kernel_rfl)
theorem opKids : Rdg Try.prog 27 (Kd.slice 3 (Kd.int .i64)) wfInts bkRow wtInts := op_slice (B := 8) opInt Try.underlying27 (by kernel_rfl) (by kernel_rfl)
theorem opNames : Rdg Try.prog 37 (Kd.slice 9 Kd.string) wfNames bkNames wtNames := op_slice (B := 16) opStr Try.underlying37 (by kernel_rfl) (by kernel_rfl)
theorem opDatum : Rdg Try.prog 49 k49 wfDatum bkDatum wtDatum :=
  op_struct (fun x : S49 => (x.f0, x.f1, x.f2, x.f3)) (fun a => ⟨a.1, a.2.1, a.2.2.1, a.2.2.2⟩) (fun _ => rfl) Try.underlying49 (by kernel_rfl)
    (opf_cons opKind rfl rfl (opf_cons opStr rfl rfl (opf_cons opChunks rfl rfl (opf_one opKids rfl))))
theorem opData : Rdg Try.prog 22 (Kd.slice 49 k49) wfData bkData wtData := op_slice (B := 72) opDatum Try.underlying22 (by kernel_rfl) (by kernel_rfl)

theorem Ev.now {α : Type} (r : α) : Ev (fun _ => some r) r := ⟨0, fun _ _ => rfl⟩
theorem wrap_idx {i : Nat} {n : Nat} (h : i < n) (hn : n ≤ maxLen) : wrap64 ((i : Int) + 1) = ((i + 1 : Nat) : Int) := by
  unfold wrap64 maxLen at *
  omega
theorem byte_wrap {x : Int} (h : (Lit.int .u8 x).wf = true) : wrap64 x = x ∧ 0 ≤ x := by
  have : 0 ≤ x ∧ x ≤ 255 := by simpa [Lit.wf, IntKind.min, IntKind.max, IntKind.signed, IntKind.bits] using h
  unfold wrap64
  omega

theorem awake_true : Ev (fun k => bobbinlaw17_awake.f k) true := by
  refine Ev.of (fun k => bobbinlaw17_awake.mono k) (k := 10) ?_
  decide +kernel

def Both (d : List S49) (i : Nat) : Prop := ∃ r, Ev (fun k => data_Check.l0 k d d (d.length : Int) (i : Int)) r ∧ Ev (fun k => bobbinref17_Check.l0 k d (i : Int)) r

theorem kids_both (d : List S49) (hd : wfData d) (i : Nat) (hi : i < d.length) (hk : (rd_T49 d i).f3.length ≤ maxLen) (ih : Both d (i + 1)) :
    ∀ (m j : Nat), j + m = (rd_T49 d i).f3.length → ∃ r, Ev (fun k => data_Check.l1 k d (i : Int) d (d.length : Int) (i : Int) (rd_T49 d i).f3 ((rd_T49 d i).f3.length : Int) (j : Int)) r ∧ Ev (fun k => bobbinref17_Check.l1 k d (i : Int) (j : Int)) r
  | 0, j, hj => by
    obtain ⟨r, h1, h2⟩ := ih
    refine ⟨r, Ev.step (fun k => ?_) h1, Ev.step (fun k => ?_) h2⟩
    · simp only [data_Check.l1]
      rw [if_neg (by omega), wrap_idx hi hd.1]
    · simp only [bobbinref17_Check.l1]
      rw [if_pos (by omega), if_pos (by omega), if_neg (by omega), wrap_idx hi hd.1]
  | m + 1, j, hj => by
    by_cases c1 : rd (rd_T49 d i).f3 (j : Int) ≤ (i : Int)
    · refine ⟨9, Ev.step (fun k => ?_) (Ev.now 9), Ev.step (fun k => ?_) (Ev.now 9)⟩
      · simp only [data_Check.l1]
        rw [if_pos (by omega), if_pos (by omega), if_pos (by omega), if_pos c1]
      · simp only [bobbinref17_Check.l1]
        rw [if_pos (by omega), if_pos (by omega), if_pos (by omega), if_pos (by omega), if_pos c1]
    · by_cases c2 : rd (rd_T49 d i).f3 (j : Int) ≥ (d.length : Int)
      · refine ⟨9, Ev.step (fun k => ?_) (Ev.now 9), Ev.step (fun k => ?_) (Ev.now 9)⟩
        · simp only [data_Check.l1]
          rw [if_pos (by omega), if_pos (by omega), if_pos (by omega), if_neg c1, if_pos c2]
        · simp only [bobbinref17_Check.l1]
          rw [if_pos (by omega), if_pos (by omega), if_pos (by omega), if_pos (by omega), if_neg c1, if_pos c2]
      · obtain ⟨r, h1, h2⟩ := kids_both d hd i hi hk ih m (j + 1) (by omega)
        refine ⟨r, Ev.step (fun k => ?_) h1, Ev.step (fun k => ?_) h2⟩
        · simp only [data_Check.l1]
          rw [if_pos (by omega), if_pos (by omega), if_pos (by omega), if_neg c1, if_neg c2, wrap_idx (show j < (rd_T49 d i).f3.length by omega) hk]
        · simp only [bobbinref17_Check.l1]
          rw [if_pos (by omega), if_pos (by omega), if_pos (by omega), if_pos (by omega), if_neg c1, if_neg c2, wrap_idx (show j < (rd_T49 d i).f3.length by omega) hk]

theorem rd_mem {d : List S49} {i : Nat} (hi : i < d.length) : rd_T49 d (i : Int) ∈ d := by
  unfold rd_T49
  rw [List.getD_eq_getElem?_getD, Int.toNat_natCast, List.getElem?_eq_getElem hi]
  exact List.getElem_mem hi

theorem rows_both (d : List S49) (hd : wfData d) : ∀ (m i : Nat), i + m = d.length → Both d i
  | 0, i, hi => ⟨0, Ev.step (fun k => by simp only [data_Check.l0]; rw [if_neg (by omega)]) (Ev.now 0), Ev.step (fun k => by simp only [bobbinref17_Check.l0]; rw [if_neg (by omega)]) (Ev.now 0)⟩
  | m + 1, i, hi => by
    have hlt : i < d.length := by omega
    have hx := hd.2 _ (rd_mem hlt)
    obtain ⟨hw, hw0⟩ := byte_wrap hx.1
    obtain ⟨r, h1, h2⟩ := kids_both d hd i hlt hx.2.2.2.1 (rows_both d hd m (i + 1) (by omega)) _ 0 (Nat.zero_add _)
    have bad : ∀ b : Bool, ∃ r, Ev (fun k => data_Check.j1 k d (i : Int) d (d.length : Int) (i : Int) b (rd_T49 d i).f0 (rd_T49 d i).f1 (rd_T49 d i).f2 (rd_T49 d i).f3) r ∧ Ev (fun k => bobbinref17_Check.j1 k d (i : Int) b) r := by
      intro b
      cases b with
      | true => exact ⟨9, Ev.step (fun k => by simp only [data_Check.j1, if_true]) (Ev.now 9), Ev.step (fun k => by simp only [bobbinref17_Check.j1, if_true]) (Ev.now 9)⟩
      | false => exact ⟨r, Ev.step (fun k => by simp only [data_Check.j1]; rw [if_neg (by simp)]; rfl) h1, Ev.step (fun k => by simp only [bobbinref17_Check.j1]; rw [if_neg (by simp)]; rfl) h2⟩
    have both : ∃ b : Bool, (∀ k, data_Check.l0 (k + 1) d d (d.length : Int) (i : Int) = data_Check.j1 k d (i : Int) d (d.length : Int) (i : Int) b (rd_T49 d i).f0 (rd_T49 d i).f1 (rd_T49 d i).f2 (rd_T49 d i).f3) ∧
        ∀ k, bobbinref17_Check.l0 (k + 1) d (i : Int) = bobbinref17_Check.j1 k d (i : Int) b := by
      by_cases c1 : (rd_T49 d i).f0 > 3
      · exact ⟨true, fun k => by simp only [data_Check.l0]; rw [if_pos (by omega), if_pos (by omega), if_pos (by omega), if_pos c1], fun k => by simp only [bobbinref17_Check.l0]; rw [if_pos (by omega), if_pos (by omega), hw, if_pos c1]⟩
      · by_cases c2 : (rd_T49 d i).f0 = 1
        · exact ⟨decide ((((rd_T49 d i).f3).length : Int) > 0), fun k => by simp only [data_Check.l0]; rw [if_pos (by omega), if_pos (by omega), if_pos (by omega), if_neg c1, if_pos c2, if_pos (by omega)], fun k => by simp only [bobbinref17_Check.l0]; rw [if_pos (by omega), if_pos (by omega), hw, if_neg c1, if_pos c2, if_pos (by omega)]⟩
        · by_cases c3 : (((rd_T49 d i).f2).length : Int) > 0
          · exact ⟨true, fun k => by simp only [data_Check.l0]; rw [if_pos (by omega), if_pos (by omega), if_pos (by omega), if_neg c1, if_neg c2, if_pos c3], fun k => by simp only [bobbinref17_Check.l0]; rw [if_pos (by omega), if_pos (by omega), hw, if_neg c1, if_neg c2, if_pos c3]⟩
          · by_cases c4 : (rd_T49 d i).f0 < 2
            · exact ⟨decide ((((rd_T49 d i).f3).length : Int) > 0), fun k => by simp only [data_Check.l0]; rw [if_pos (by omega), if_pos (by omega), if_pos (by omega), if_neg c1, if_neg c2, if_neg c3, if_pos c4], fun k => by simp only [bobbinref17_Check.l0]; rw [if_pos (by omega), if_pos (by omega), hw, if_neg c1, if_neg c2, if_neg c3, if_pos c4]⟩
            · exact ⟨false, fun k => by simp only [data_Check.l0]; rw [if_pos (by omega), if_pos (by omega), if_pos (by omega), if_neg c1, if_neg c2, if_neg c3, if_neg c4], fun k => by simp only [bobbinref17_Check.l0]; rw [if_pos (by omega), if_pos (by omega), hw, if_neg c1, if_neg c2, if_neg c3, if_neg c4]⟩
    obtain ⟨b, e1, e2⟩ := both
    obtain ⟨r, h1, h2⟩ := bad b
    exact ⟨r, Ev.step e1 h1, Ev.step e2 h2⟩

theorem DataChecks (d : List S49) (hd : wfData d) (_ : wtData d) : ∃ k, bobbinlaw17_DataChecks.f k d = some true := by
  refine Ev.rounds (g := fun k => bobbinlaw17_DataChecks.f k d) ?_
  have key : ∃ r, Ev (fun k => data_Check.f k d) r ∧ Ev (fun k => bobbinref17_Check.f k d) r := by
    unfold data_Check.f bobbinref17_Check.f
    by_cases c1 : (d.length : Int) > 4096
    · simp only [if_pos c1]
      exact ⟨2, Ev.now 2, Ev.now 2⟩
    · by_cases c2 : (d.length : Int) = 0
      · simp only [if_neg c1, if_pos c2]
        exact ⟨9, Ev.now 9, Ev.now 9⟩
      · simp only [if_neg c1, if_neg c2]
        exact rows_both d hd _ 0 (Nat.zero_add _)
  obtain ⟨r, h1, h2⟩ := key
  unfold bobbinlaw17_DataChecks.f
  refine Ev.bind awake_true ?_
  simp only [if_true]
  refine Ev.bind h1 ?_
  refine Ev.bind h2 ?_
  simpa using Ev.now true

end Go.Proofs.Ytclanebbalgpfaa.DataChecksPure
