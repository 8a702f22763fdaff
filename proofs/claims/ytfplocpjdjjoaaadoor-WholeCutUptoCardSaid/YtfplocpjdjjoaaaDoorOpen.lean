/-
  How an argument that comes in reads as a plain Lean value: kind by kind (whole numbers, bools, strings, slices, structs), with the bounds that the row's reach (weights) and the second form's bulk give. Conditions: none.
-/
import Derived.Test.YtfplocpjdjjoaaaDoorRows
import Derived.Test.YtfplocpjdjjoaaaDoorWWords
import Derived.Test.YtfplocpjdjjoaaaDoorWMore
import Derived.WalkKit
import Derived.ProofKit
import Derived.OpenShut
import Derived.ShutString
import Derived.ChangeOld
import Derived.Below
import Derived.SizedLaws
import Derived.ChangeArms
namespace Go.Proofs.YtfplocpjdjjoaaaDoor.Open
open Go.ChangeShapes Go.WideShapes Go.ChangeAt Go.RowKit Go.Proofs.YtfplocpjdjjoaaaDoorW.PrintWords
set_option linter.unusedVariables false

def fits (l : List Nat) : Prop := ∀ n ∈ l, n ≤ 140737488351232

/-- Type t reads as kind d: 'wf' is what each value keeps, 'bk' its bulk (at most the reading's), 'wt' what the weights give. -/
structure Rdg {α : Type} (P : Program) (t : TypeId) (d : Kd α) (wf : α → Prop) (bk : α → Nat) (wt : α → Prop) : Prop where
  sz : P.cellsOf t = d.sz
  get : ∀ {H : Type} {enc : TypeId × Value → H} {w : World} {base fuel : Nat} {spare : Nat → Bool} {held : Bool} {cs : List Value} {x : DataW H × List MemPlace},
    DataW.trod enc P w base spare held fuel t cs = some x →
    ∃ a, d.K w a cs ∧ wf a ∧ bk a ≤ Rows.uptoBulk x.1 ∧ (fits (DataW.weights P t x.1) → wt a)

theorem bulk_all_append {H : Type} (l r : List (DataW H)) : Rows.uptoBulkAll (l ++ r) = Rows.uptoBulkAll l + Rows.uptoBulkAll r := by
  induction l with
  | nil => simp [Rows.uptoBulkAll]
  | cons x l ih => simp only [List.cons_append, Rows.uptoBulkAll, ih]; omega

theorem fits_append {l r : List Nat} (h : fits (l ++ r)) : fits l ∧ fits r :=
  ⟨fun n hn => h n (List.mem_append_left _ hn), fun n hn => h n (List.mem_append_right _ hn)⟩

theorem op_int {P : Program} {t : TypeId} {k : IntKind} (ht : P.underlying t = some (.int k)) (hc : P.cellsOf t = 1) :
    Rdg P t (Kd.int k) (fun a => (Lit.int k a).wf = true) (fun _ => 1) (fun _ => True) :=
  ⟨hc, fun h => by
    obtain ⟨n, rfl, rfl, hw⟩ := DataW.trod_int ht h
    exact ⟨n, rfl, hw, by simp [Rows.uptoBulk], fun _ => trivial⟩⟩

theorem op_bool {P : Program} {t : TypeId} (ht : P.underlying t = some .bool) (hc : P.cellsOf t = 1) :
    Rdg P t Kd.bool (fun _ => True) (fun _ => 1) (fun _ => True) :=
  ⟨hc, fun h => by
    obtain ⟨b, rfl, rfl⟩ := DataW.trod_bool ht h
    exact ⟨b, rfl, trivial, by simp [Rows.uptoBulk], fun _ => trivial⟩⟩

theorem op_string {P : Program} {t : TypeId} (ht : P.underlying t = some .string) (hc : P.cellsOf t = 1) :
    Rdg P t Kd.string (fun a => a.size ≤ maxLen) (fun a => a.size + 1) (fun a => a.size ≤ 140737488351232) :=
  ⟨hc, fun h => by
    obtain ⟨s, rfl, rfl, hs⟩ := DataW.trod_string ht h
    have e : s.data.toList.length = s.size := by rw [Array.length_toList]; rfl
    refine ⟨s, rfl, hs, by simp only [Rows.uptoBulk, e]; exact Nat.le_refl _, fun hw => ?_⟩
    have := hw s.data.toList.length (by simp [DataW.weights])
    omega⟩

def sumBy {α : Type} (bk : α → Nat) : List α → Nat
  | [] => 0
  | x :: r => bk x + sumBy bk r
theorem sumBy_append {α : Type} (bk : α → Nat) (l r : List α) : sumBy bk (l ++ r) = sumBy bk l + sumBy bk r := by
  induction l with
  | nil => simp [sumBy]
  | cons x l ih => simp only [List.cons_append, sumBy, ih]; omega
theorem sumBy_mem {α : Type} {bk : α → Nat} {x : α} {l : List α} (h : x ∈ l) : bk x ≤ sumBy bk l := by
  induction l with
  | nil => cases h
  | cons y r ih =>
    simp only [sumBy]
    cases List.mem_cons.1 h with
    | inl e => subst e; omega
    | inr e => have := ih e; omega

theorem fits_all {H : Type} {P : Program} {e : TypeId} : ∀ {l : List (DataW H)}, fits (DataW.weightsAll P e l) → ∀ x ∈ l, fits (DataW.weights P e x)
  | [], _, x, h => by cases h
  | y :: r, h, x, hx => by
    simp only [DataW.weightsAll] at h
    obtain ⟨h1, h2⟩ := fits_append h
    rcases List.mem_cons.1 hx with rfl | hx
    · exact h1
    · exact fits_all h2 x hx

/-- The elements of a slice, one behind the other. -/
theorem op_rows {α : Type} {P : Program} {e : TypeId} {d : Kd α} {wf : α → Prop} {bk : α → Nat} {wt : α → Prop} (he : Rdg P e d wf bk wt) {H : Type} {enc : TypeId × Value → H} {w : World} {base fuel : Nat} {spare : Nat → Bool} {held : Bool} {A : Addr} :
    ∀ (elems : List (DataW H × List MemPlace)) (off : Nat),
      (∀ i, i < elems.length → (w.cells? base (A.add ((off + i) * P.cellsOf e)) (P.cellsOf e)).bind (DataW.trod enc P w base spare held fuel e) = elems[i]?) →
      ∃ xs : List α, xs.length = elems.length ∧ (∀ j p, xs[j]? = some p → ∃ c, c.length = d.sz ∧ d.K w p c ∧ ∀ i u, c[i]? = some u → w.cell? ((A.add ((off + j) * P.cellsOf e)).add i) = some u) ∧
        (∀ x ∈ xs, wf x) ∧ sumBy bk xs ≤ Rows.uptoBulkAll (elems.map (·.1)) ∧ ((∀ x ∈ elems, fits (DataW.weights P e x.1)) → ∀ x ∈ xs, wt x)
  | [], off, _ => ⟨[], rfl, (fun j p h => by simp at h), (fun x h => by cases h), by simp [sumBy], (fun _ x h => by cases h)⟩
  | y :: r, off, h => by
    obtain ⟨xs, hl, hc, hw, hb, ht⟩ := op_rows he r (off + 1) (fun i hi => by
      have := h (i + 1) (by simp; omega)
      rw [show off + 1 + i = off + (i + 1) by omega]
      simpa using this)
    have h0 := h 0 (by simp)
    simp only [List.getElem?_cons_zero, Option.bind_eq_some_iff] at h0
    obtain ⟨cs, hcs, hr⟩ := h0
    obtain ⟨_, hlen, hcell⟩ := World.cells?_some hcs
    obtain ⟨a, hK, ha, hba, hta⟩ := he.get hr
    refine ⟨a :: xs, by simp [hl], ?_, ?_, ?_, ?_⟩
    · intro j p hj
      cases j with
      | zero =>
        simp only [List.getElem?_cons_zero, Option.some.injEq] at hj
        subst hj
        refine ⟨cs, d.K_len hK, hK, fun i u hu => ?_⟩
        have hi : i < P.cellsOf e := by
          rw [← hlen]
          exact (List.getElem?_eq_some_iff.1 hu).1
        have := hcell i hi
        rw [this]
        exact hu
      | succ j =>
        simp only [List.getElem?_cons_succ] at hj
        obtain ⟨c, h1, h2, h3⟩ := hc j p hj
        exact ⟨c, h1, h2, fun i u hu => by rw [show off + (j + 1) = off + 1 + j by omega]; exact h3 i u hu⟩
    · intro x hx
      rcases List.mem_cons.1 hx with rfl | hx
      · exact ha
      · exact hw x hx
    · simp only [sumBy, List.map_cons, Rows.uptoBulkAll]
      omega
    · intro hf x hx
      rcases List.mem_cons.1 hx with rfl | hx
      · exact hta (hf y List.mem_cons_self)
      · exact ht (fun z hz => hf z (List.mem_cons_of_mem _ hz)) x hx

theorem addr_add_add (A : Addr) (m n : Nat) : (A.add m).add n = A.add (m + n) := by
  unfold Addr.add
  split <;> split <;> simp_all <;> omega

theorem op_slice {α : Type} {P : Program} {t e : TypeId} {d : Kd α} {wf : α → Prop} {bk : α → Nat} {wt : α → Prop} {B : Nat} (he : Rdg P e d wf bk wt) (ht : P.underlying t = some (.slice e)) (hc : P.cellsOf t = 1) (hB : P.bytesOf e = B) :
    Rdg P t (Kd.slice e d) (fun xs => xs.length ≤ maxLen ∧ ∀ x ∈ xs, wf x) (fun xs => sumBy bk xs + 1) (fun xs => xs.length * B ≤ 140737488351232 ∧ ∀ x ∈ xs, wt x) :=
  ⟨hc, fun {H enc w base fuel spare held cs x} h => by
    rcases DataW.trod_slice ht h with ⟨rfl, rfl⟩ | ⟨A, len, cap, elems, rest, n, rfl, rfl, rfl, _, hlc, hcm, hel, hget, _, _⟩
    · exact ⟨[], ⟨none, 0, rfl, Nat.le_refl _, Kd.C_nil d w⟩, ⟨Nat.zero_le _, fun x h => by cases h⟩, by simp [sumBy, Rows.uptoBulk], fun _ => ⟨by simp, fun x h => by cases h⟩⟩
    · obtain ⟨xs, hl, hcells, hw, hb, htt⟩ := op_rows he elems 0 (fun i hi => by rw [Nat.zero_add]; exact hget i (by omega))
      have hx : xs.length = len := by omega
      refine ⟨xs, ⟨some A, cap, by rw [hx], by omega, rfl, by rw [hx]; unfold maxLen at hcm; omega, fun _ => ⟨A, rfl, fun j p hj => ?_⟩⟩, ⟨by omega, hw⟩, ?_, fun hf => ⟨?_, htt ?_⟩⟩
      · obtain ⟨c, h1, h2, h3⟩ := hcells j p hj
        refine ⟨c, h1, h2, fun i u hu => ?_⟩
        have := h3 i u hu
        rw [addr_add_add, Nat.zero_add, he.sz] at this
        exact this
      · simp only [Rows.uptoBulk]
        omega
      · simp only [DataW.weights, ht] at hf
        have := hf _ List.mem_cons_self
        rw [List.length_map, List.length_map, hB] at this
        have h2 : xs.length * B ≤ (elems.length + rest.length) * B := Nat.mul_le_mul_right _ (by omega)
        omega
      · intro z hz
        simp only [DataW.weights, ht] at hf
        have h1 := (fits_append (l := [_]) hf).2
        exact fits_all (fits_append h1).1 z.1 (List.mem_map_of_mem hz)⟩

/-- The fields of a struct from the cell 'off' on. -/
structure RdgF {α : Type} (P : Program) (fs : List Field) (off : Nat) (d : Kd α) (wf : α → Prop) (bk : α → Nat) (wt : α → Prop) : Prop where
  get : ∀ {H : Type} {enc : TypeId × Value → H} {w : World} {base fuel : Nat} {spare : Nat → Bool} {held : Bool} {cs : List Value} {xs : List (DataW H × List MemPlace)},
    xs.length = fs.length → (∀ (i : Nat) (f : Field), fs[i]? = some f → DataW.trod enc P w base spare held fuel f.type ((cs.drop f.offset).take (P.cellsOf f.type)) = xs[i]?) → cs.length = off + d.sz →
    ∃ a, d.K w a (cs.drop off) ∧ wf a ∧ bk a ≤ Rows.uptoBulkAll (xs.map (·.1)) ∧ (fits (DataW.weightsEach P (fs.map (·.type)) (xs.map (·.1))) → wt a)

theorem opf_one {α : Type} {P : Program} {f : Field} {d : Kd α} {wf : α → Prop} {bk : α → Nat} {wt : α → Prop} {off : Nat} (h : Rdg P f.type d wf bk wt) (ho : f.offset = off) : RdgF P [f] off d wf bk wt :=
  ⟨fun {H enc w base fuel spare held cs xs} hl hg hc => by
    match xs, hl with
    | [y], _ =>
      have h0 := hg 0 f rfl
      rw [List.getElem?_cons_zero, ho, List.take_of_length_le (by rw [List.length_drop, h.sz]; omega)] at h0
      obtain ⟨a, hK, ha, hb, ht⟩ := h.get h0
      exact ⟨a, hK, ha, by simp only [List.map_cons, List.map_nil, Rows.uptoBulkAll]; omega, fun hf => ht (by simpa [DataW.weightsEach] using hf)⟩⟩

theorem opf_cons {α β : Type} {P : Program} {f : Field} {fs : List Field} {d : Kd α} {wf : α → Prop} {bk : α → Nat} {wt : α → Prop} {d2 : Kd β} {wf2 : β → Prop} {bk2 : β → Nat} {wt2 : β → Prop} {off off2 : Nat}
    (h : Rdg P f.type d wf bk wt) (ho : f.offset = off) (ho2 : off2 = off + d.sz) (h2 : RdgF P fs off2 d2 wf2 bk2 wt2) :
    RdgF P (f :: fs) off (Kd.pair d d2) (fun a => wf a.1 ∧ wf2 a.2) (fun a => bk a.1 + bk2 a.2) (fun a => wt a.1 ∧ wt2 a.2) :=
  ⟨fun {H enc w base fuel spare held cs xs} hl hg hc => by
    match xs, hl with
    | y :: ys, hl =>
      have hs : (Kd.pair d d2).sz = d.sz + d2.sz := rfl
      have h0 := hg 0 f rfl
      rw [List.getElem?_cons_zero, ho] at h0
      obtain ⟨a, hK, ha, hb, ht⟩ := h.get h0
      obtain ⟨b, hK2, hb2, hbk2, ht2⟩ := h2.get (xs := ys) (by simpa using hl) (fun i f' hf => by simpa using hg (i + 1) f' (by simpa using hf)) (by rw [hc, hs, ho2]; omega)
      refine ⟨(a, b), ⟨_, _, ?_, hK, hK2⟩, ⟨ha, hb2⟩, ?_, fun hf => ?_⟩
      · rw [ho2, h.sz, ← List.drop_drop, List.take_append_drop]
      · simp only [List.map_cons, Rows.uptoBulkAll]
        omega
      · simp only [List.map_cons, DataW.weightsEach] at hf
        obtain ⟨f1, f2⟩ := fits_append hf
        exact ⟨ht f1, ht2 f2⟩⟩

theorem op_struct {α β : Type} {P : Program} {t : TypeId} {fs : Array Field} {d : Kd α} {wf : α → Prop} {bk : α → Nat} {wt : α → Prop} (f : β → α) (g : α → β) (hfg : ∀ a, f (g a) = a) (ht : P.underlying t = some (.struct fs)) (hc : P.cellsOf t = d.sz)
    (h : RdgF P fs.toList 0 d wf bk wt) : Rdg P t (Kd.iso d f) (fun b => wf (f b)) (fun b => bk (f b) + 1) (fun b => wt (f b)) :=
  ⟨hc, fun {H enc w base fuel spare held cs x} hx => by
    obtain ⟨xs, n, rfl, rfl, hl, hlen, hf⟩ := DataW.trod_struct ht hx
    obtain ⟨a, hK, ha, hb, htt⟩ := h.get (by simpa using hlen) (fun i f' hf' => hf i f' (by simpa using hf')) (by rw [hl, hc, Nat.zero_add])
    refine ⟨g a, ?_, by rw [hfg]; exact ha, ?_, fun hw => by rw [hfg]; exact htt (by simpa [DataW.weights, ht] using hw)⟩
    · show d.K _ (f (g a)) cs
      rw [hfg]
      simpa using hK
    · simp only [hfg, Rows.uptoBulk]
      omega⟩

/-- Of an argument's place: its weights are among all. -/
theorem fits_of {H : Type} {P : Program} : ∀ {ts : List TypeId} {ds : List (DataW H)}, (DataW.weightsEach P ts ds).all (· ≤ reachBytes) = true → ∀ {j : Nat} {t : TypeId} {d : DataW H}, ts[j]? = some t → ds[j]? = some d → fits (DataW.weights P t d)
  | [], _, _, j, t, d, h, _ => by simp at h
  | _ :: _, [], _, j, t, d, _, h => by simp at h
  | t0 :: ts, d0 :: ds, h, j, t, d, h1, h2 => by
    simp only [DataW.weightsEach, List.all_append, Bool.and_eq_true] at h
    cases j with
    | zero =>
      simp only [List.getElem?_cons_zero, Option.some.injEq] at h1 h2
      subst h1 h2
      intro n hn
      have := List.all_eq_true.1 h.1 n hn
      exact of_decide_eq_true this
    | succ j =>
      simp only [List.getElem?_cons_succ] at h1 h2
      exact fits_of h.2 h1 h2

theorem bulk_part {H : Type} {d : DataW H} : ∀ {ds : List (DataW H)} {j : Nat}, ds[j]? = some d → Rows.uptoBulk d ≤ Rows.uptoBulkAll ds
  | [], j, h => by simp at h
  | x :: r, j, h => by
    simp only [Rows.uptoBulkAll]
    cases j with
    | zero =>
      simp only [List.getElem?_cons_zero, Option.some.injEq] at h
      subst h
      omega
    | succ j =>
      simp only [List.getElem?_cons_succ] at h
      have := bulk_part h
      omega
theorem small {H : Type} {l : List (DataW H)} (hk : Rows.uptoSmall H l = true) : Rows.uptoBulkAll l ≤ 1048576 := of_decide_eq_true hk
end Go.Proofs.YtfplocpjdjjoaaaDoor.Open
