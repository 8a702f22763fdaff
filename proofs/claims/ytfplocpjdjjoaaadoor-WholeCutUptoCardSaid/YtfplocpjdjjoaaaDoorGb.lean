/-
  How a context of markup lies in memory, and the package variable 'bad' of step.
  The small functions of step and ctx, as plain functions of the context.
  The small functions of step and ctx, as plain functions of the context.
  The functions of ctx that go by a name.
  The functions of step that go through a tag, as plain functions of the context.
  Conditions: as each theorem says.
-/
import Derived.Test.YtfplocpjdjjoaaaDoorGa
import Derived.Test.YtfplocpjdjjoaaaDoorProg
import Derived.Test.YtfplocpjdjjoaaaDoorWWords
import Derived.Test.YtfplocpjdjjoaaaDoorWMore
import Derived.WalkKit
import Derived.Deep.RegionWith
import Derived.Deep.RegionLaw
import Derived.Deep.RegionHeldLaw
import Derived.Lib.SmallJoins
import Derived.Lib.PathFns
namespace Go.Proofs.YtfplocpjdjjoaaaDoor.Ctxs
open Go Go.RowKit Go.Proofs.YtfplocpjdjjoaaaDoor.Trail Go.Proofs.YtfplocpjdjjoaaaDoorW.PrintWords
set_option linter.unusedVariables false
set_option linter.unusedSimpArgs false
def badCells : Array Value := #[.int .u8 20, .int .u8 0, .bool false, .int .u8 0, .int .u8 0, .int .u8 0, .int .u8 0, .bool false, .int .u8 0, .string (⟨#[]⟩ : ByteArray)]
def Glob (w : World) : Prop := ∃ fr, w.heap[0]? = some (.cells badCells 33 fr)
theorem glob_pos {w : World} (h : Glob w) : 0 < w.heap.size := by
  obtain ⟨fr, h⟩ := h
  exact (Array.getElem?_eq_some_iff.1 h).1
theorem glob_cell {w : World} (h : Glob w) (i : Nat) {v : Value} (hv : badCells[i]? = some v) : w.cell? ⟨0, i, none⟩ = some v := by
  obtain ⟨fr, h⟩ := h
  simp [World.cell?, h, hv]
theorem glob_cells {w : World} (h : Glob w) : w.cell? ⟨0, 0, none⟩ = some (.int .u8 20) ∧ w.cell? ⟨0, 1, none⟩ = some (.int .u8 0) ∧ w.cell? ⟨0, 2, none⟩ = some (.bool false) ∧ w.cell? ⟨0, 3, none⟩ = some (.int .u8 0) ∧ w.cell? ⟨0, 4, none⟩ = some (.int .u8 0) ∧ w.cell? ⟨0, 5, none⟩ = some (.int .u8 0) ∧ w.cell? ⟨0, 6, none⟩ = some (.int .u8 0) ∧ w.cell? ⟨0, 7, none⟩ = some (.bool false) ∧ w.cell? ⟨0, 8, none⟩ = some (.int .u8 0) ∧ w.cell? ⟨0, 9, none⟩ = some (.string (⟨#[]⟩ : ByteArray)) :=
  ⟨glob_cell h 0 rfl, glob_cell h 1 rfl, glob_cell h 2 rfl, glob_cell h 3 rfl, glob_cell h 4 rfl, glob_cell h 5 rfl, glob_cell h 6 rfl, glob_cell h 7 rfl, glob_cell h 8 rfl, glob_cell h 9 rfl⟩
def bs (l : List Nat) : ByteArray := ⟨(l.map Nat.toUInt8).toArray⟩
def cxs (c : Cx) : Array Value := #[.int .u8 (c.st : Int), .int .u8 (c.el : Int), .bool c.en, .int .u8 (c.ak : Int), .int .u8 (c.qu : Int), .int .u8 (c.pa : Int), .int .u8 (c.su : Int), .bool c.es, .int .u8 (c.da : Int), .string (bs c.nm)]
theorem alloc_last (w : World) (o : Obj) : (w.alloc o).heap[w.heap.size]? = some o := by show (w.heap.push o)[w.heap.size]? = _; simp
theorem info33 : (Tryd.prog.info? 33).map (·.size) = some 10 := by kernel_rfl
theorem alloc_at {w : World} {o : Obj} {g : Nat} (h : g = w.heap.size) : (w.alloc o).heap[g]? = some o := by rw [h]; exact alloc_last w o
theorem alloc_size (w : World) (o : Obj) : (w.alloc o).heap.size = w.heap.size + 1 := by show (w.heap.push o).size = _; simp
theorem ret_ctx {fn : Func} {R : Ending → World → Prop} {a : Act} {w : World} (g : Nat) {cs : Array Value} {p : Tmp} (h : fn.results = #[.cell p 33]) (hd : a.defers = []) (hp : a.tmps.getD p undef = .pointer (some ⟨g, 0, none⟩)) (hb : w.heap[g]? = some (.cells cs 33 (0, 0))) (hcs : cs.size = 10)
    (hR : R (.returned (.agg cs)) w) : bodyPost Tryd.prog fn R .ret a w :=
  bodyPost_ret (results_cell_row h _ _ g 33 cs (0, 0) _ hp hb Tryd.underlying33 rfl (by rw [hcs]; exact info33)) hd hR
theorem ret_ctxb {fn : Func} {R : Ending → World → Prop} {a : Act} {w : World} (g : Nat) {cs : Array Value} {p u : Tmp} {v : Value} (h : fn.results = #[.cell p 33, .tmp u]) (hd : a.defers = []) (hp : a.tmps.getD p undef = .pointer (some ⟨g, 0, none⟩)) (hv : a.tmps.getD u undef = v) (hb : w.heap[g]? = some (.cells cs 33 (0, 0))) (hcs : cs.size = 10)
    (hR : R (.returned (.tuple #[.agg cs, v])) w) : bodyPost Tryd.prog fn R .ret a w := by
  subst hv
  exact bodyPost_ret (results_ct h _ _ g 33 cs (0, 0) _ hp hb Tryd.underlying33 rfl (by rw [hcs]; exact info33)) hd hR
theorem ret_bool {a b : Bool} (h : a = b) : Ending.returned (.bool a) = .returned (.bool b) := by rw [h]
theorem ret_int {k : IntKind} {a b : Int} (h : a = b) : Ending.returned (.int k a) = .returned (.int k b) := by rw [h]
theorem ret_str {a b : ByteArray} (h : a = b) : Ending.returned (.string a) = .returned (.string b) := by rw [h]
theorem alloc_old {w : World} {o : Obj} {g : Nat} (h : g < w.heap.size) : (w.alloc o).heap[g]? = w.heap[g]? := by
  show (w.heap.push o)[g]? = _
  rw [Array.getElem?_push_lt h, Array.getElem?_eq_getElem h]
/-- What a call that answers a context says. -/
def Ret (c : Cx) (w : World) (e : Ending) (w' : World) : Prop := e = .returned (.agg (cxs c)) ∧ Below w.heap.size w w'
/-- What a call that answers a context and a bool says. -/
def RetB (c : Cx × Bool) (w : World) (e : Ending) (w' : World) : Prop := e = .returned (.tuple #[.agg (cxs c.1), .bool c.2]) ∧ Below w.heap.size w w'
theorem ret_ctx' {c : Cx} {w w' : World} {cs : Array Value} (h : cs = cxs c) (hb : Below w.heap.size w w') : Ret c w (.returned (.agg cs)) w' := ⟨by rw [h], hb⟩
theorem ret_ctxb' {c : Cx × Bool} {w w' : World} {cs : Array Value} {b : Bool} (h : cs = cxs c.1) (h2 : b = c.2) (hb : Below w.heap.size w w') : RetB c w (.returned (.tuple #[.agg cs, .bool b])) w' := ⟨by rw [h, h2], hb⟩
theorem bs_size (l : List Nat) : (bs l).size = l.length := by simp [bs, ByteArray.size]
theorem bs_append (l r : List Nat) : bs l ++ bs r = bs (l ++ r) := by
  apply ByteArray.ext
  simp [bs, ByteArray.data_append]
theorem cell_last (w : World) (C : Array Value) (t : TypeId) (g i : Nat) (hg : g = w.heap.size) : (w.alloc (.cells C t)).cell? ⟨g, i, none⟩ = C[i]? := by
  subst hg
  exact World.cell?_alloc_mark w C t (0, 0) i
theorem one_conv {V : World} {g x : Nat} (h : V.cell? ⟨g, 0, none⟩ = some (.int .u8 (x : Int))) : (convert 22 9 (.slice (some ⟨g, 0, none⟩) 1 1)).run Tryd.prog V = .ok (.string (bs [x])) V := by
  have := run_convert_bytes_arg (w := V) 22 5 Tryd.underlying22 Tryd.underlying5 g 0 1 1 [(x : Int)] rfl (fun i hi => match i, hi with | 0, _ => h) 9 Tryd.underlying9
  rw [this]
  rfl
/-- What stands behind a call that answers a context, ahead of its being laid into the block of the answer. -/
structure After (w V : World) (g : Nat) : Prop where
  bk : ∃ cs : Array Value, cs.size = 10 ∧ V.heap[g]? = some (.cells cs 33 (0, 0))
  bw : Below w.heap.size w V
  le : w.heap.size ≤ g
abbrev zeros : Array Value := #[.int .u8 0, .int .u8 0, .bool false, .int .u8 0, .int .u8 0, .int .u8 0, .int .u8 0, .bool false, .int .u8 0, .string (⟨#[]⟩ : ByteArray)]
/-- The cells of a block of a context, and that none is frozen. -/
structure Zero (w : World) (g : Nat) (v0 v1 v2 v3 v4 v5 v6 v7 v8 v9 : Value) : Prop where
  c0 : w.cell? ⟨g, 0, none⟩ = some v0
  c1 : w.cell? ⟨g, 1, none⟩ = some v1
  c2 : w.cell? ⟨g, 2, none⟩ = some v2
  c3 : w.cell? ⟨g, 3, none⟩ = some v3
  c4 : w.cell? ⟨g, 4, none⟩ = some v4
  c5 : w.cell? ⟨g, 5, none⟩ = some v5
  c6 : w.cell? ⟨g, 6, none⟩ = some v6
  c7 : w.cell? ⟨g, 7, none⟩ = some v7
  c8 : w.cell? ⟨g, 8, none⟩ = some v8
  c9 : w.cell? ⟨g, 9, none⟩ = some v9
  fr : ∀ i, w.frozen? ⟨g, i, none⟩ = false
theorem zero_of {w : World} {g : Nat} {v0 v1 v2 v3 v4 v5 v6 v7 v8 v9 : Value} (h : w.heap[g]? = some (.cells #[v0, v1, v2, v3, v4, v5, v6, v7, v8, v9] 33 (0, 0))) : Zero w g v0 v1 v2 v3 v4 v5 v6 v7 v8 v9 := by
  refine ⟨?_, ?_, ?_, ?_, ?_, ?_, ?_, ?_, ?_, ?_, fun i => Joins.unfrozen_of_block h i⟩ <;> simp [World.cell?, h]
/-- Behind a call with two blocks of one's own ahead of it, the second the answer's. -/
theorem after2 {w V : World} {A : Obj} (hb : Below ((w.alloc A).alloc (.cells zeros 33)).heap.size ((w.alloc A).alloc (.cells zeros 33)) V) :
    After w V (w.heap.size + 1) ∧ Zero V (w.heap.size + 1) (.int .u8 0) (.int .u8 0) (.bool false) (.int .u8 0) (.int .u8 0) (.int .u8 0) (.int .u8 0) (.bool false) (.int .u8 0) (.string (⟨#[]⟩ : ByteArray)) := by
  have h : V.heap[w.heap.size + 1]? = some (.cells zeros 33 (0, 0)) := (hb.block (w.heap.size + 1) (by simp)).trans (alloc_at (by simp))
  exact ⟨⟨⟨_, rfl, h⟩, (((Below.refl _ _).alloc (Nat.le_refl _) _).alloc (by simp) _).trans (hb.mono (by simp; omega)), by omega⟩, zero_of h⟩
/-- The same, and one's own context, that lies ahead of it. -/
theorem after2' {w V : World} {a0 a1 a2 a3 a4 a5 a6 a7 a8 a9 : Value} (hb : Below ((w.alloc (.cells #[a0, a1, a2, a3, a4, a5, a6, a7, a8, a9] 33)).alloc (.cells zeros 33)).heap.size ((w.alloc (.cells #[a0, a1, a2, a3, a4, a5, a6, a7, a8, a9] 33)).alloc (.cells zeros 33)) V) :
    Zero V w.heap.size a0 a1 a2 a3 a4 a5 a6 a7 a8 a9 ∧ w.heap.size + 1 < V.heap.size ∧ w.heap.size < V.heap.size := by
  have h : V.heap[w.heap.size]? = some (.cells #[a0, a1, a2, a3, a4, a5, a6, a7, a8, a9] 33 (0, 0)) := (hb.block w.heap.size (by simp; omega)).trans ((alloc_old (by simp)).trans (alloc_at rfl))
  have := hb.size
  simp at this
  exact ⟨zero_of h, by omega, by omega⟩
theorem glob_old {w : World} {A B : Obj} (h : Glob w) : Glob ((w.alloc A).alloc B) := by
  have hz := glob_pos h
  obtain ⟨fr, h⟩ := h
  exact ⟨fr, (alloc_old (by simp)).trans ((alloc_old hz).trans h)⟩
theorem setCell_size (w : World) (p : Addr) (v : Value) : (w.setCell p v).heap.size = w.heap.size := by simp [World.setCell]
/-- A context, laid into its block cell by cell. -/
theorem put10 {V : World} {g : Nat} {cs : Array Value} (hs : cs.size = 10) (h : V.heap[g]? = some (.cells cs 33 (0, 0))) (v0 v1 v2 v3 v4 v5 v6 v7 v8 v9 : Value) :
    ((((((((((V.setCell ⟨g, 0, none⟩ v0).setCell ⟨g, 1, none⟩ v1).setCell ⟨g, 2, none⟩ v2).setCell ⟨g, 3, none⟩ v3).setCell ⟨g, 4, none⟩ v4).setCell ⟨g, 5, none⟩ v5).setCell ⟨g, 6, none⟩ v6).setCell ⟨g, 7, none⟩ v7).setCell ⟨g, 8, none⟩ v8).setCell ⟨g, 9, none⟩ v9).heap[g]? = some (.cells #[v0, v1, v2, v3, v4, v5, v6, v7, v8, v9] 33 (0, 0)) := by
  obtain ⟨l⟩ := cs
  match l, hs with
  | [a0, a1, a2, a3, a4, a5, a6, a7, a8, a9], _ =>
    have h1 := Joins.block_setCell (i := 0) h v0
    have h2 := Joins.block_setCell (i := 1) h1 v1
    have h3 := Joins.block_setCell (i := 2) h2 v2
    have h4 := Joins.block_setCell (i := 3) h3 v3
    have h5 := Joins.block_setCell (i := 4) h4 v4
    have h6 := Joins.block_setCell (i := 5) h5 v5
    have h7 := Joins.block_setCell (i := 6) h6 v6
    have h8 := Joins.block_setCell (i := 7) h7 v7
    have h9 := Joins.block_setCell (i := 8) h8 v8
    have h10 := Joins.block_setCell (i := 9) h9 v9
    simpa using h10
theorem below10 {V w : World} {g : Nat} (hb : Below w.heap.size w V) (le : w.heap.size ≤ g) (v0 v1 v2 v3 v4 v5 v6 v7 v8 v9 : Value) :
    Below w.heap.size w ((((((((((V.setCell ⟨g, 0, none⟩ v0).setCell ⟨g, 1, none⟩ v1).setCell ⟨g, 2, none⟩ v2).setCell ⟨g, 3, none⟩ v3).setCell ⟨g, 4, none⟩ v4).setCell ⟨g, 5, none⟩ v5).setCell ⟨g, 6, none⟩ v6).setCell ⟨g, 7, none⟩ v7).setCell ⟨g, 8, none⟩ v8).setCell ⟨g, 9, none⟩ v9) :=
  (((((((((hb.setCell (p := ⟨g, 0, none⟩) le v0).setCell (p := ⟨g, 1, none⟩) le v1).setCell (p := ⟨g, 2, none⟩) le v2).setCell (p := ⟨g, 3, none⟩) le v3).setCell (p := ⟨g, 4, none⟩) le v4).setCell (p := ⟨g, 5, none⟩) le v5).setCell (p := ⟨g, 6, none⟩) le v6).setCell (p := ⟨g, 7, none⟩) le v7).setCell (p := ⟨g, 8, none⟩) le v8).setCell (p := ⟨g, 9, none⟩) le v9
theorem ret_put {fn : Func} {a : Act} {w V : World} {g : Nat} {p : Tmp} {c : Cx} {v0 v1 v2 v3 v4 v5 v6 v7 v8 v9 : Value} (H : After w V g) (h : fn.results = #[.cell p 33]) (hd : a.defers = []) (hp : a.tmps.getD p undef = .pointer (some ⟨g, 0, none⟩)) (hc : #[v0, v1, v2, v3, v4, v5, v6, v7, v8, v9] = cxs c) :
    bodyPost Tryd.prog fn (Ret c w) .ret a ((((((((((V.setCell ⟨g, 0, none⟩ v0).setCell ⟨g, 1, none⟩ v1).setCell ⟨g, 2, none⟩ v2).setCell ⟨g, 3, none⟩ v3).setCell ⟨g, 4, none⟩ v4).setCell ⟨g, 5, none⟩ v5).setCell ⟨g, 6, none⟩ v6).setCell ⟨g, 7, none⟩ v7).setCell ⟨g, 8, none⟩ v8).setCell ⟨g, 9, none⟩ v9) := by
  obtain ⟨⟨cs, hs, hk⟩, hw, le⟩ := H
  exact ret_ctx g h hd hp (put10 hs hk v0 v1 v2 v3 v4 v5 v6 v7 v8 v9) rfl (ret_ctx' hc (below10 hw le v0 v1 v2 v3 v4 v5 v6 v7 v8 v9))
theorem ret_putb {fn : Func} {a : Act} {w V : World} {g : Nat} {p u : Tmp} {c : Cx × Bool} {v0 v1 v2 v3 v4 v5 v6 v7 v8 v9 : Value} (H : After w V g) (h : fn.results = #[.cell p 33, .tmp u]) (hd : a.defers = []) (hp : a.tmps.getD p undef = .pointer (some ⟨g, 0, none⟩)) (hu : a.tmps.getD u undef = .bool c.2) (hc : #[v0, v1, v2, v3, v4, v5, v6, v7, v8, v9] = cxs c.1) :
    bodyPost Tryd.prog fn (RetB c w) .ret a ((((((((((V.setCell ⟨g, 0, none⟩ v0).setCell ⟨g, 1, none⟩ v1).setCell ⟨g, 2, none⟩ v2).setCell ⟨g, 3, none⟩ v3).setCell ⟨g, 4, none⟩ v4).setCell ⟨g, 5, none⟩ v5).setCell ⟨g, 6, none⟩ v6).setCell ⟨g, 7, none⟩ v7).setCell ⟨g, 8, none⟩ v8).setCell ⟨g, 9, none⟩ v9) := by
  obtain ⟨⟨cs, hs, hk⟩, hw, le⟩ := H
  exact ret_ctxb g h hd hp hu (put10 hs hk v0 v1 v2 v3 v4 v5 v6 v7 v8 v9) rfl (ret_ctxb' hc rfl (below10 hw le v0 v1 v2 v3 v4 v5 v6 v7 v8 v9))
/-- The same, a block more behind it. -/
theorem ret_putb1 {fn : Func} {a : Act} {w V : World} {g : Nat} {p u : Tmp} {c : Cx × Bool} {v0 v1 v2 v3 v4 v5 v6 v7 v8 v9 : Value} {O : Obj} (H : After w V g) (h : fn.results = #[.cell p 33, .tmp u]) (hd : a.defers = []) (hp : a.tmps.getD p undef = .pointer (some ⟨g, 0, none⟩)) (hu : a.tmps.getD u undef = .bool c.2) (hc : #[v0, v1, v2, v3, v4, v5, v6, v7, v8, v9] = cxs c.1) :
    bodyPost Tryd.prog fn (RetB c w) .ret a (((((((((((V.setCell ⟨g, 0, none⟩ v0).setCell ⟨g, 1, none⟩ v1).setCell ⟨g, 2, none⟩ v2).setCell ⟨g, 3, none⟩ v3).setCell ⟨g, 4, none⟩ v4).setCell ⟨g, 5, none⟩ v5).setCell ⟨g, 6, none⟩ v6).setCell ⟨g, 7, none⟩ v7).setCell ⟨g, 8, none⟩ v8).setCell ⟨g, 9, none⟩ v9).alloc O) := by
  obtain ⟨⟨cs, hs, hk⟩, hw, le⟩ := H
  have hq := put10 hs hk v0 v1 v2 v3 v4 v5 v6 v7 v8 v9
  have hb := below10 hw le v0 v1 v2 v3 v4 v5 v6 v7 v8 v9
  exact ret_ctxb g h hd hp hu ((alloc_old (Array.getElem?_eq_some_iff.1 hq).1).trans hq) rfl (ret_ctxb' hc rfl (hb.alloc hb.size _))
theorem ret_alloc1 {fn : Func} {a : Act} {w : World} {p : Tmp} {c : Cx} {cs : Array Value} (h : fn.results = #[.cell p 33]) (hd : a.defers = []) (hp : a.tmps.getD p undef = .pointer (some ⟨w.heap.size, 0, none⟩)) (hs : cs.size = 10) (hc : cs = cxs c) :
    bodyPost Tryd.prog fn (Ret c w) .ret a (w.alloc (.cells cs 33)) := ret_ctx w.heap.size h hd hp (alloc_at rfl) hs (ret_ctx' hc ((Below.refl _ _).alloc (Nat.le_refl _) _))
theorem ret_alloc2 {fn : Func} {a : Act} {w : World} {p : Tmp} {c : Cx} {A : Obj} {cs : Array Value} (h : fn.results = #[.cell p 33]) (hd : a.defers = []) (hp : a.tmps.getD p undef = .pointer (some ⟨w.heap.size + 1, 0, none⟩)) (hs : cs.size = 10) (hc : cs = cxs c) :
    bodyPost Tryd.prog fn (Ret c w) .ret a ((w.alloc A).alloc (.cells cs 33)) := ret_ctx (w.heap.size + 1) h hd hp (alloc_at (by simp)) hs (ret_ctx' hc (((Below.refl _ _).alloc (Nat.le_refl _) _).alloc (by simp) _))
theorem ret_alloc1x {fn : Func} {a : Act} {w : World} {p : Tmp} {c : Cx} {A : Obj} {cs : Array Value} (h : fn.results = #[.cell p 33]) (hd : a.defers = []) (hp : a.tmps.getD p undef = .pointer (some ⟨w.heap.size, 0, none⟩)) (hs : cs.size = 10) (hc : cs = cxs c) :
    bodyPost Tryd.prog fn (Ret c w) .ret a ((w.alloc (.cells cs 33)).alloc A) := ret_ctx w.heap.size h hd hp ((alloc_old (by simp)).trans (alloc_at rfl)) hs (ret_ctx' hc (((Below.refl _ _).alloc (Nat.le_refl _) _).alloc (by simp) _))
theorem ret_alloc1b {fn : Func} {a : Act} {w : World} {p u : Tmp} {c : Cx × Bool} {cs : Array Value} (h : fn.results = #[.cell p 33, .tmp u]) (hd : a.defers = []) (hp : a.tmps.getD p undef = .pointer (some ⟨w.heap.size, 0, none⟩)) (hu : a.tmps.getD u undef = .bool c.2) (hs : cs.size = 10) (hc : cs = cxs c.1) :
    bodyPost Tryd.prog fn (RetB c w) .ret a (w.alloc (.cells cs 33)) := ret_ctxb w.heap.size h hd hp hu (alloc_at rfl) hs (ret_ctxb' hc rfl ((Below.refl _ _).alloc (Nat.le_refl _) _))
theorem ret_alloc2b {fn : Func} {a : Act} {w : World} {p u : Tmp} {c : Cx × Bool} {A : Obj} {cs : Array Value} (h : fn.results = #[.cell p 33, .tmp u]) (hd : a.defers = []) (hp : a.tmps.getD p undef = .pointer (some ⟨w.heap.size + 1, 0, none⟩)) (hu : a.tmps.getD u undef = .bool c.2) (hs : cs.size = 10) (hc : cs = cxs c.1) :
    bodyPost Tryd.prog fn (RetB c w) .ret a ((w.alloc A).alloc (.cells cs 33)) := ret_ctxb (w.heap.size + 1) h hd hp hu (alloc_at (by simp)) hs (ret_ctxb' hc rfl (((Below.refl _ _).alloc (Nat.le_refl _) _).alloc (by simp) _))
theorem ret_alloc1xb {fn : Func} {a : Act} {w : World} {p u : Tmp} {c : Cx × Bool} {A : Obj} {cs : Array Value} (h : fn.results = #[.cell p 33, .tmp u]) (hd : a.defers = []) (hp : a.tmps.getD p undef = .pointer (some ⟨w.heap.size, 0, none⟩)) (hu : a.tmps.getD u undef = .bool c.2) (hs : cs.size = 10) (hc : cs = cxs c.1) :
    bodyPost Tryd.prog fn (RetB c w) .ret a ((w.alloc (.cells cs 33)).alloc A) := ret_ctxb w.heap.size h hd hp hu ((alloc_old (by simp)).trans (alloc_at rfl)) hs (ret_ctxb' hc rfl (((Below.refl _ _).alloc (Nat.le_refl _) _).alloc (by simp) _))
theorem ret_alloc3d {fn : Func} {a : Act} {w : World} {p : Tmp} {c : Cx} {A O : Obj} {cs : Array Value} (h : fn.results = #[.cell p 33]) (hd : a.defers = []) (hp : a.tmps.getD p undef = .pointer (some ⟨w.heap.size + 1, 0, none⟩)) (hs : cs.size = 10) (hc : cs = cxs c) :
    bodyPost Tryd.prog fn (Ret c w) .ret a (((w.alloc A).alloc (.cells cs 33)).alloc O).drew := ret_ctx (w.heap.size + 1) h hd hp ((alloc_old (by simp)).trans (alloc_at (by simp))) hs (ret_ctx' hc (Below.drew ((((Below.refl _ _).alloc (Nat.le_refl _) _).alloc (by simp) _).alloc (by simp; omega) _)))
theorem cast_eq (b n : Nat) : ((b : Int) = (no_index (OfNat.ofNat n) : Int)) ↔ b = OfNat.ofNat n := by
  constructor
  · intro h
    exact Int.ofNat.inj h
  · intro h
    rw [h]
    rfl
end Go.Proofs.YtfplocpjdjjoaaaDoor.Ctxs
namespace Go.Proofs.YtfplocpjdjjoaaaDoor.Ctxs
open Go Go.RowKit Go.Proofs.YtfplocpjdjjoaaaDoor.Trail Go.Proofs.YtfplocpjdjjoaaaDoorW.PrintWords
set_option linter.unusedVariables false
set_option linter.unusedSimpArgs false

set_option maxHeartbeats 800000 in
set_option maxRecDepth 100000 in
theorem letter_calls (b : Nat) (w : World) : Calls Tryd.prog 95 #[.int .u8 (b : Int)] w fun e w' => e = .returned (.bool (letter b)) ∧ w = w' := by
  go_enter Tryd.func95, Tryd.ntmps95
  go_wp2
  all_goals
    go_ret
    refine ⟨ret_bool ?_, rfl⟩
    rw [Bool.eq_iff_iff]
    simp [letter]
    try omega
set_option maxHeartbeats 800000 in
set_option maxRecDepth 100000 in
theorem small_calls (b : Nat) (w : World) : Calls Tryd.prog 96 #[.int .u8 (b : Int)] w fun e w' => e = .returned (.int .u8 (small b : Int)) ∧ w = w' := by
  go_enter Tryd.func96, Tryd.ntmps96
  go_wp2
  all_goals
    go_ret
    refine ⟨ret_int ?_, rfl⟩
    unfold small
    split <;> omega
set_option maxHeartbeats 800000 in
set_option maxRecDepth 100000 in
theorem blank_calls (b : Nat) (w : World) : Calls Tryd.prog 97 #[.int .u8 (b : Int)] w fun e w' => e = .returned (.bool (Trail.blank b)) ∧ w = w' := by
  go_enter Tryd.func97, Tryd.ntmps97
  go_wp2
  all_goals
    go_ret
    refine ⟨ret_bool ?_, rfl⟩
    rw [Bool.eq_iff_iff]
    simp [Trail.blank]
    try omega
set_option maxHeartbeats 800000 in
set_option maxRecDepth 100000 in
theorem within_calls (c : Cx) (s : Nat) (w : World) : Calls Tryd.prog 99 #[.agg (cxs c), .int .u8 (s : Int)] w (Ret (within c s) w) := by
  have hu33 := Tryd.underlying33
  obtain ⟨st, el, en, ak, qu, pa, su, es, da, nm⟩ := c
  simp only [cxs]
  go_enter Tryd.func99, Tryd.ntmps99
  go_wp2
  refine ret_ctx (w.heap.size + 1) rfl rfl rfl (alloc_at (alloc_size _ _).symm) rfl ?_
  exact ret_ctx' rfl (((Below.refl _ _).alloc (Nat.le_refl _) _).alloc (by simp) _)
set_option maxHeartbeats 800000 in
set_option maxRecDepth 100000 in
theorem closes_calls (el : Nat) (w : World) : Calls Tryd.prog 100 #[.int .u8 (el : Int)] w (Ret (closes el) w) := by
  have hu33 := Tryd.underlying33
  go_enter Tryd.func100, Tryd.ntmps100
  go_wp2
  all_goals
    clear hu33
    change bodyPost Tryd.prog Tryd.f100 _ Exit.ret _ _
    refine ret_ctx w.heap.size rfl rfl rfl (alloc_at rfl) rfl ?_
    refine ret_ctx' ?_ ((Below.refl _ _).alloc (Nat.le_refl _) _)
    try simp only [beq_iff_eq, beq_eq_false_iff_ne, ne_eq, bne_iff_ne, bne_eq_false_iff_eq] at *
    unfold closes
    repeat' split
    all_goals first
      | rfl
      | (exfalso; omega)
      | fail
set_option maxHeartbeats 800000 in
set_option maxRecDepth 100000 in
theorem text_calls (c : Cx) (b : Nat) (w : World) (hG : Glob w) : Calls Tryd.prog 128 #[.agg (cxs c), .int .u8 (b : Int)] w (Ret (text c b) w) := by
  have hu33 := Tryd.underlying33
  have hz := glob_pos hG
  obtain ⟨g0, g1, g2, g3, g4, g5, g6, g7, g8, g9⟩ := glob_cells hG
  clear hG
  obtain ⟨st, el, en, ak, qu, pa, su, es, da, nm⟩ := c
  simp only [cxs]
  go_enter Tryd.func128, Tryd.ntmps128
  go_wp2
  all_goals
    clear hu33 g0 g1 g2 g3 g4 g5 g6 g7 g8 g9
    change bodyPost Tryd.prog Tryd.f128 _ Exit.ret _ _
    refine ret_ctx (w.heap.size + 1) rfl rfl rfl (alloc_at (alloc_size _ _).symm) rfl ?_
    refine ret_ctx' ?_ (((Below.refl _ _).alloc (Nat.le_refl _) _).alloc (by simp) _)
    try simp only [beq_iff_eq, beq_eq_false_iff_ne, ne_eq] at *
    try subst es
    unfold text
    dsimp only
    repeat' split
    all_goals first
      | rfl
      | (exfalso; omega)
      | (exfalso; simp_all; done)
      | fail
end Go.Proofs.YtfplocpjdjjoaaaDoor.Ctxs
namespace Go.Proofs.YtfplocpjdjjoaaaDoor.Ctxs
open Go Go.RowKit Go.Proofs.YtfplocpjdjjoaaaDoor.Trail Go.Proofs.YtfplocpjdjjoaaaDoorW.PrintWords
set_option linter.unusedVariables false
set_option linter.unusedSimpArgs false

set_option maxHeartbeats 800000 in
set_option maxRecDepth 100000 in
theorem grown_calls (c : Cx) (b : Nat) (hn : c.nm.length ≤ 1000) (w : World) (hG : Glob w) : Calls Tryd.prog 98 #[.agg (cxs c), .int .u8 (b : Int)] w (Ret (grown c b) w) := by
  have hu33 := Tryd.underlying33
  have hz := glob_pos hG
  obtain ⟨g0, g1, g2, g3, g4, g5, g6, g7, g8, g9⟩ := glob_cells hG
  clear hG
  obtain ⟨st, el, en, ak, qu, pa, su, es, da, nm⟩ := c
  dsimp only at hn
  have hl : (bs nm).size = nm.length := by simp [bs, ByteArray.size]
  by_cases h : 32 ≤ nm.length
  · have h1 : (32 : Int) ≤ ((bs nm).size : Int) := by omega
    have h2 : decide ((32 : Int) ≤ ((bs nm).size : Int)) = true := decide_eq_true h1
    simp only [cxs]
    go_enter Tryd.func98, Tryd.ntmps98
    go_wp2
    refine ret_ctx (w.heap.size + 1) rfl rfl rfl (alloc_at (alloc_size _ _).symm) rfl ?_
    refine ret_ctx' ?_ (((Below.refl _ _).alloc (Nat.le_refl _) _).alloc (by simp) _)
    unfold grown
    rw [if_pos h]
    rfl
  · have h1 : ((bs nm).size : Int) < 32 := by omega
    have h2 : decide ((32 : Int) ≤ ((bs nm).size : Int)) = false := decide_eq_false (by omega)
    have hl2 : (bs nm).size < 32 := by omega
    clear hl
    have hcv : ∀ A B, (convert 22 9 (.slice (some ⟨w.heap.size + 1 + 1, 0, none⟩) 1 1)).run Tryd.prog (((w.alloc A).alloc B).alloc (.cells #[.int .u8 (small b : Int)] 5)).drew = .ok (.string (bs [small b])) (((w.alloc A).alloc B).alloc (.cells #[.int .u8 (small b : Int)] 5)).drew := fun A B => one_conv (cell_last _ _ _ _ 0 (by simp))
    have hs1 : (bs [small b]).size = 1 := bs_size _
    have hs2 : ¬ 9223372036854775807 < (bs nm).size + 1 := by omega
    simp only [cxs]
    go_enter Tryd.func98, Tryd.ntmps98
    go_wp2
    go_region_with (go_at_call 96; refine (small_calls b _).mono ?_; rintro e w' ⟨rfl, rfl⟩)
    all_goals
      go_wp2
      refine ret_ctx (w.heap.size + 1) rfl rfl rfl ((alloc_old (by simp)).trans (alloc_at (by simp))) rfl ?_
      refine ret_ctx' ?_ (Below.drew ((((Below.refl _ _).alloc (Nat.le_refl _) _).alloc (by simp) _).alloc (by simp; omega) _))
      rw [bs_append]
      unfold grown
      rw [if_neg h]
      rfl
end Go.Proofs.YtfplocpjdjjoaaaDoor.Ctxs
namespace Go.Proofs.YtfplocpjdjjoaaaDoor.Ctxs
open Go Go.RowKit Go.Proofs.YtfplocpjdjjoaaaDoor.Trail Go.Proofs.YtfplocpjdjjoaaaDoorW.PrintWords
set_option linter.unusedVariables false
set_option linter.unusedSimpArgs false
def Small (l : List Nat) : Prop := ∀ x ∈ l, x < 256
theorem bs_list (l : List Nat) : (bs l).toList = l.map Nat.toUInt8 := by
  rw [ByteArray.toList_eq]
  simp [bs]
theorem bs_inj {l r : List Nat} (hl : Small l) (hr : Small r) (h : (bs l).toList = (bs r).toList) : l = r := by
  rw [bs_list, bs_list] at h
  induction l generalizing r with
  | nil => cases r with
    | nil => rfl
    | cons y r => simp at h
  | cons x l ih => cases r with
    | nil => simp at h
    | cons y r =>
      simp only [List.map_cons, List.cons.injEq] at h
      obtain ⟨h1, h2⟩ := h
      have hx := hl x List.mem_cons_self
      have hy := hr y List.mem_cons_self
      have : x = y := by
        have := congrArg UInt8.toNat h1
        simp only [Nat.toUInt8_eq, UInt8.toNat_ofNat'] at this
        omega
      rw [this, ih (fun z hz => hl z (List.mem_cons_of_mem _ hz)) (fun z hz => hr z (List.mem_cons_of_mem _ hz)) h2]
theorem bs_beq {l r : List Nat} (hl : Small l) (hr : Small r) : ((bs l).toList == (bs r).toList) = decide (l = r) := by
  rw [Bool.eq_iff_iff]
  simp only [beq_iff_eq, decide_eq_true_eq]
  exact ⟨bs_inj hl hr, fun h => by rw [h]⟩
theorem bs_lit {l r : List Nat} {s : List UInt8} (hl : Small l) (hr : Small r) (h : r.map Nat.toUInt8 = s) : ((bs l).toList == s) = decide (l = r) := by
  rw [← bs_beq hl hr, bs_list r, h]
theorem small_name (k : Nat) : Small (nameOf k) := by
  unfold nameOf Small
  split <;> simp
set_option maxHeartbeats 800000 in
theorem elemOf_calls (nm : List Nat) (hs : Small nm) (w : World) : Calls Tryd.prog 25 #[.string (bs nm)] w fun e w' => e = .returned (.int .u8 (Trail.elemOf nm : Int)) ∧ w = w' := by
  have e1 : ((bs nm).toList == ([116, 101, 120, 116, 97, 114, 101, 97] : List UInt8)) = decide (nm = nameOf 1) := bs_lit hs (small_name 1) rfl
  have e2 : ((bs nm).toList == ([116, 105, 116, 108, 101] : List UInt8)) = decide (nm = nameOf 2) := bs_lit hs (small_name 2) rfl
  have e3 : ((bs nm).toList == ([115, 99, 114, 105, 112, 116] : List UInt8)) = decide (nm = nameOf 3) := bs_lit hs (small_name 3) rfl
  have e4 : ((bs nm).toList == ([115, 116, 121, 108, 101] : List UInt8)) = decide (nm = nameOf 4) := bs_lit hs (small_name 4) rfl
  unfold Trail.elemOf
  by_cases h1 : nm = nameOf 1
  · rw [decide_eq_true h1] at e1
    rw [if_pos h1]
    clear h1 e2 e3 e4
    go_enter Tryd.func25, Tryd.ntmps25
    go_wp2
    go_ret
    exact ⟨rfl, rfl⟩
  · rw [decide_eq_false h1] at e1
    rw [if_neg h1]
    by_cases h2 : nm = nameOf 2
    · rw [decide_eq_true h2] at e2
      rw [if_pos h2]
      clear h1 h2 e3 e4
      go_enter Tryd.func25, Tryd.ntmps25
      go_wp2
      go_ret
      exact ⟨rfl, rfl⟩
    · rw [decide_eq_false h2] at e2
      rw [if_neg h2]
      by_cases h3 : nm = nameOf 3
      · rw [decide_eq_true h3] at e3
        rw [if_pos h3]
        clear h1 h2 h3 e4
        go_enter Tryd.func25, Tryd.ntmps25
        go_wp2
        go_ret
        exact ⟨rfl, rfl⟩
      · rw [decide_eq_false h3] at e3
        rw [if_neg h3]
        by_cases h4 : nm = nameOf 4
        · rw [decide_eq_true h4] at e4
          rw [if_pos h4]
          clear h1 h2 h3 h4
          go_enter Tryd.func25, Tryd.ntmps25
          go_wp2
          go_ret
          exact ⟨rfl, rfl⟩
        · rw [decide_eq_false h4] at e4
          rw [if_neg h4]
          clear h1 h2 h3 h4
          go_enter Tryd.func25, Tryd.ntmps25
          go_wp2
          go_ret
          exact ⟨rfl, rfl⟩
set_option maxHeartbeats 800000 in
theorem nameOf_calls (k : Nat) (w : World) : Calls Tryd.prog 52 #[.int .u8 (k : Int)] w fun e w' => e = .returned (.string (bs (nameOf k))) ∧ w = w' := by
  go_enter Tryd.func52, Tryd.ntmps52
  go_wp2
  all_goals
    go_ret
    refine ⟨ret_str ?_, rfl⟩
    try simp only [beq_iff_eq, beq_eq_false_iff_ne, ne_eq] at *
    first
      | (have hk : k = 1 := by omega
         rw [hk]; rfl)
      | (have hk : k = 2 := by omega
         rw [hk]; rfl)
      | (have hk : k = 3 := by omega
         rw [hk]; rfl)
      | (have hk : k = 4 := by omega
         rw [hk]; rfl)
      | (have hk : nameOf k = [] := by
           unfold nameOf
           split <;> first
             | rfl
             | (exfalso; omega)
         rw [hk]; rfl)
theorem prefix_bs {l r : List Nat} (hl : Small l) (hr : Small r) : (l.map Nat.toUInt8).isPrefixOf (bs r).toList = l.isPrefixOf r := by
  rw [bs_list]
  induction l generalizing r with
  | nil => rfl
  | cons x l ih => cases r with
    | nil => rfl
    | cons y r =>
      have hx := hl x List.mem_cons_self
      have hy := hr y List.mem_cons_self
      have e : (x.toUInt8 == y.toUInt8) = (x == y) := by
        rw [Bool.eq_iff_iff]
        simp only [beq_iff_eq]
        refine ⟨fun h => ?_, fun h => by rw [h]⟩
        have := congrArg UInt8.toNat h
        simp only [Nat.toUInt8_eq, UInt8.toNat_ofNat'] at this
        omega
      simp only [List.map_cons, List.isPrefixOf]
      rw [e, ih (fun z hz => hl z (List.mem_cons_of_mem _ hz)) (fun z hz => hr z (List.mem_cons_of_mem _ hz))]
theorem prefix_take (t s : List UInt8) (h : t.length ≤ s.length) : (s.take t.length == t) = t.isPrefixOf s := by
  rw [Bool.eq_iff_iff]
  simp only [beq_iff_eq, List.isPrefixOf_iff_prefix, List.prefix_iff_eq_take]
  exact eq_comm
theorem prefix_long (t s : List UInt8) (h : ¬ t.length ≤ s.length) : t.isPrefixOf s = false := by
  rw [Bool.eq_false_iff]
  intro q
  exact h (List.isPrefixOf_iff_prefix.1 q).length_le
theorem list_length (s : ByteArray) : s.toList.length = s.size := by rw [ByteArray.toList_eq, Array.length_toList]; rfl
set_option maxHeartbeats 800000 in
theorem hasPrefix_in (s t : ByteArray) (w : World) : Calls Tryd.prog 75 #[.string s, .string t] w fun e w' => e = .returned (.bool (t.toList.isPrefixOf s.toList)) ∧ w = w' := by
  by_cases h : t.size ≤ s.size
  · have c1 : decide ((t.size : Int) ≤ (s.size : Int)) = true := decide_eq_true (by omega)
    have c2 : decide (t.size ≤ s.size) = true := decide_eq_true h
    go_enter Tryd.func75, Tryd.ntmps75
    go_wp2
    go_ret
    refine ⟨ret_bool ?_, rfl⟩
    rw [← prefix_take _ _ (by rw [list_length, list_length]; exact h), list_length]
    rw [ByteArray.toList_eq, ByteArray.toList_eq s, Go.Lib.Pa.extract_upto_list]
  · have c1 : decide ((t.size : Int) ≤ (s.size : Int)) = false := decide_eq_false (by omega)
    have c2 : decide (t.size ≤ s.size) = false := decide_eq_false h
    have e := prefix_long t.toList s.toList (by rw [list_length, list_length]; exact h)
    rw [e]
    go_enter Tryd.func75, Tryd.ntmps75
    go_wp2
    go_ret
    exact ⟨rfl, rfl⟩
set_option maxHeartbeats 800000 in
theorem hasPrefix_calls (s t : ByteArray) (w : World) : Calls Tryd.prog 56 #[.string s, .string t] w fun e w' => e = .returned (.bool (t.toList.isPrefixOf s.toList)) ∧ w = w' := by
  go_enter Tryd.func56, Tryd.ntmps56
  go_wp2_with (go_at_call 75; refine (hasPrefix_in s t _).mono ?_; rintro e w' ⟨rfl, rfl⟩)
  go_ret
  exact ⟨rfl, rfl⟩
/-- What an attribute's value is, by its name. -/
def attrOf (n : List Nat) : Nat :=
  if n = [97, 99, 116, 105, 111, 110] then 1
  else if n = [98, 97, 99, 107, 103, 114, 111, 117, 110, 100] then 1
  else if n = [99, 105, 116, 101] then 1
  else if n = [100, 97, 116, 97] then 1
  else if n = [102, 111, 114, 109, 97, 99, 116, 105, 111, 110] then 1
  else if n = [104, 114, 101, 102] then 1
  else if n = [108, 111, 110, 103, 100, 101, 115, 99] then 1
  else if n = [109, 97, 110, 105, 102, 101, 115, 116] then 1
  else if n = [112, 111, 115, 116, 101, 114] then 1
  else if n = [115, 114, 99] then 1
  else if n = [120, 108, 105, 110, 107, 58, 104, 114, 101, 102] then 1
  else if n = [115, 116, 121, 108, 101] then 3
  else if n = [115, 114, 99, 100, 111, 99] then 4
  else if n = [115, 114, 99, 115, 101, 116] then 4
  else if n = [105, 109, 97, 103, 101, 115, 114, 99, 115, 101, 116] then 4
  else if n = [99, 111, 110, 116, 101, 110, 116] then 4
  else if n = [104, 116, 116, 112, 45, 101, 113, 117, 105, 118] then 4
  else if 2 < n.length ∧ [111, 110].isPrefixOf n then 2 else 0
theorem ite_le {p : Prop} [Decidable p] {a b : Nat} (ha : a ≤ 4) (hb : b ≤ 4) : (if p then a else b) ≤ 4 := by split <;> assumption
theorem attrOf_le (n : List Nat) : attrOf n ≤ 4 := by
  unfold attrOf
  iterate 17 refine ite_le (by decide) ?_
  exact ite_le (by decide) (by decide)
set_option maxHeartbeats 4000000 in
set_option maxRecDepth 100000 in
theorem attrOf_calls (nm : List Nat) (hs : Small nm) (w : World) : Calls Tryd.prog 126 #[.string (bs nm)] w fun e w' => e = .returned (.int .u8 (attrOf nm : Int)) ∧ w = w' := by
  have e0 : ((bs nm).toList == ([97, 99, 116, 105, 111, 110] : List UInt8)) = decide (nm = [97, 99, 116, 105, 111, 110]) := bs_lit hs (by unfold Small; simp) rfl
  have e1 : ((bs nm).toList == ([98, 97, 99, 107, 103, 114, 111, 117, 110, 100] : List UInt8)) = decide (nm = [98, 97, 99, 107, 103, 114, 111, 117, 110, 100]) := bs_lit hs (by unfold Small; simp) rfl
  have e2 : ((bs nm).toList == ([99, 105, 116, 101] : List UInt8)) = decide (nm = [99, 105, 116, 101]) := bs_lit hs (by unfold Small; simp) rfl
  have e3 : ((bs nm).toList == ([100, 97, 116, 97] : List UInt8)) = decide (nm = [100, 97, 116, 97]) := bs_lit hs (by unfold Small; simp) rfl
  have e4 : ((bs nm).toList == ([102, 111, 114, 109, 97, 99, 116, 105, 111, 110] : List UInt8)) = decide (nm = [102, 111, 114, 109, 97, 99, 116, 105, 111, 110]) := bs_lit hs (by unfold Small; simp) rfl
  have e5 : ((bs nm).toList == ([104, 114, 101, 102] : List UInt8)) = decide (nm = [104, 114, 101, 102]) := bs_lit hs (by unfold Small; simp) rfl
  have e6 : ((bs nm).toList == ([108, 111, 110, 103, 100, 101, 115, 99] : List UInt8)) = decide (nm = [108, 111, 110, 103, 100, 101, 115, 99]) := bs_lit hs (by unfold Small; simp) rfl
  have e7 : ((bs nm).toList == ([109, 97, 110, 105, 102, 101, 115, 116] : List UInt8)) = decide (nm = [109, 97, 110, 105, 102, 101, 115, 116]) := bs_lit hs (by unfold Small; simp) rfl
  have e8 : ((bs nm).toList == ([112, 111, 115, 116, 101, 114] : List UInt8)) = decide (nm = [112, 111, 115, 116, 101, 114]) := bs_lit hs (by unfold Small; simp) rfl
  have e9 : ((bs nm).toList == ([115, 114, 99] : List UInt8)) = decide (nm = [115, 114, 99]) := bs_lit hs (by unfold Small; simp) rfl
  have e10 : ((bs nm).toList == ([120, 108, 105, 110, 107, 58, 104, 114, 101, 102] : List UInt8)) = decide (nm = [120, 108, 105, 110, 107, 58, 104, 114, 101, 102]) := bs_lit hs (by unfold Small; simp) rfl
  have e11 : ((bs nm).toList == ([115, 116, 121, 108, 101] : List UInt8)) = decide (nm = [115, 116, 121, 108, 101]) := bs_lit hs (by unfold Small; simp) rfl
  have e12 : ((bs nm).toList == ([115, 114, 99, 100, 111, 99] : List UInt8)) = decide (nm = [115, 114, 99, 100, 111, 99]) := bs_lit hs (by unfold Small; simp) rfl
  have e13 : ((bs nm).toList == ([115, 114, 99, 115, 101, 116] : List UInt8)) = decide (nm = [115, 114, 99, 115, 101, 116]) := bs_lit hs (by unfold Small; simp) rfl
  have e14 : ((bs nm).toList == ([105, 109, 97, 103, 101, 115, 114, 99, 115, 101, 116] : List UInt8)) = decide (nm = [105, 109, 97, 103, 101, 115, 114, 99, 115, 101, 116]) := bs_lit hs (by unfold Small; simp) rfl
  have e15 : ((bs nm).toList == ([99, 111, 110, 116, 101, 110, 116] : List UInt8)) = decide (nm = [99, 111, 110, 116, 101, 110, 116]) := bs_lit hs (by unfold Small; simp) rfl
  have e16 : ((bs nm).toList == ([104, 116, 116, 112, 45, 101, 113, 117, 105, 118] : List UInt8)) = decide (nm = [104, 116, 116, 112, 45, 101, 113, 117, 105, 118]) := bs_lit hs (by unfold Small; simp) rfl
  unfold attrOf
  by_cases h0 : nm = [97, 99, 116, 105, 111, 110]
  · rw [decide_eq_true h0] at e0
    rw [if_pos h0]
    clear h0 e1 e2 e3 e4 e5 e6 e7 e8 e9 e10 e11 e12 e13 e14 e15 e16
    go_enter Tryd.func126, Tryd.ntmps126
    go_wp2
    go_ret
    exact ⟨rfl, rfl⟩
  rw [decide_eq_false h0] at e0
  rw [if_neg h0]
  clear h0
  by_cases h1 : nm = [98, 97, 99, 107, 103, 114, 111, 117, 110, 100]
  · rw [decide_eq_true h1] at e1
    rw [if_pos h1]
    clear h1 e2 e3 e4 e5 e6 e7 e8 e9 e10 e11 e12 e13 e14 e15 e16
    go_enter Tryd.func126, Tryd.ntmps126
    go_wp2
    go_ret
    exact ⟨rfl, rfl⟩
  rw [decide_eq_false h1] at e1
  rw [if_neg h1]
  clear h1
  by_cases h2 : nm = [99, 105, 116, 101]
  · rw [decide_eq_true h2] at e2
    rw [if_pos h2]
    clear h2 e3 e4 e5 e6 e7 e8 e9 e10 e11 e12 e13 e14 e15 e16
    go_enter Tryd.func126, Tryd.ntmps126
    go_wp2
    go_ret
    exact ⟨rfl, rfl⟩
  rw [decide_eq_false h2] at e2
  rw [if_neg h2]
  clear h2
  by_cases h3 : nm = [100, 97, 116, 97]
  · rw [decide_eq_true h3] at e3
    rw [if_pos h3]
    clear h3 e4 e5 e6 e7 e8 e9 e10 e11 e12 e13 e14 e15 e16
    go_enter Tryd.func126, Tryd.ntmps126
    go_wp2
    go_ret
    exact ⟨rfl, rfl⟩
  rw [decide_eq_false h3] at e3
  rw [if_neg h3]
  clear h3
  by_cases h4 : nm = [102, 111, 114, 109, 97, 99, 116, 105, 111, 110]
  · rw [decide_eq_true h4] at e4
    rw [if_pos h4]
    clear h4 e5 e6 e7 e8 e9 e10 e11 e12 e13 e14 e15 e16
    go_enter Tryd.func126, Tryd.ntmps126
    go_wp2
    go_ret
    exact ⟨rfl, rfl⟩
  rw [decide_eq_false h4] at e4
  rw [if_neg h4]
  clear h4
  by_cases h5 : nm = [104, 114, 101, 102]
  · rw [decide_eq_true h5] at e5
    rw [if_pos h5]
    clear h5 e6 e7 e8 e9 e10 e11 e12 e13 e14 e15 e16
    go_enter Tryd.func126, Tryd.ntmps126
    go_wp2
    go_ret
    exact ⟨rfl, rfl⟩
  rw [decide_eq_false h5] at e5
  rw [if_neg h5]
  clear h5
  by_cases h6 : nm = [108, 111, 110, 103, 100, 101, 115, 99]
  · rw [decide_eq_true h6] at e6
    rw [if_pos h6]
    clear h6 e7 e8 e9 e10 e11 e12 e13 e14 e15 e16
    go_enter Tryd.func126, Tryd.ntmps126
    go_wp2
    go_ret
    exact ⟨rfl, rfl⟩
  rw [decide_eq_false h6] at e6
  rw [if_neg h6]
  clear h6
  by_cases h7 : nm = [109, 97, 110, 105, 102, 101, 115, 116]
  · rw [decide_eq_true h7] at e7
    rw [if_pos h7]
    clear h7 e8 e9 e10 e11 e12 e13 e14 e15 e16
    go_enter Tryd.func126, Tryd.ntmps126
    go_wp2
    go_ret
    exact ⟨rfl, rfl⟩
  rw [decide_eq_false h7] at e7
  rw [if_neg h7]
  clear h7
  by_cases h8 : nm = [112, 111, 115, 116, 101, 114]
  · rw [decide_eq_true h8] at e8
    rw [if_pos h8]
    clear h8 e9 e10 e11 e12 e13 e14 e15 e16
    go_enter Tryd.func126, Tryd.ntmps126
    go_wp2
    go_ret
    exact ⟨rfl, rfl⟩
  rw [decide_eq_false h8] at e8
  rw [if_neg h8]
  clear h8
  by_cases h9 : nm = [115, 114, 99]
  · rw [decide_eq_true h9] at e9
    rw [if_pos h9]
    clear h9 e10 e11 e12 e13 e14 e15 e16
    go_enter Tryd.func126, Tryd.ntmps126
    go_wp2
    go_ret
    exact ⟨rfl, rfl⟩
  rw [decide_eq_false h9] at e9
  rw [if_neg h9]
  clear h9
  by_cases h10 : nm = [120, 108, 105, 110, 107, 58, 104, 114, 101, 102]
  · rw [decide_eq_true h10] at e10
    rw [if_pos h10]
    clear h10 e11 e12 e13 e14 e15 e16
    go_enter Tryd.func126, Tryd.ntmps126
    go_wp2
    go_ret
    exact ⟨rfl, rfl⟩
  rw [decide_eq_false h10] at e10
  rw [if_neg h10]
  clear h10
  by_cases h11 : nm = [115, 116, 121, 108, 101]
  · rw [decide_eq_true h11] at e11
    rw [if_pos h11]
    clear h11 e12 e13 e14 e15 e16
    go_enter Tryd.func126, Tryd.ntmps126
    go_wp2
    go_ret
    exact ⟨rfl, rfl⟩
  rw [decide_eq_false h11] at e11
  rw [if_neg h11]
  clear h11
  by_cases h12 : nm = [115, 114, 99, 100, 111, 99]
  · rw [decide_eq_true h12] at e12
    rw [if_pos h12]
    clear h12 e13 e14 e15 e16
    go_enter Tryd.func126, Tryd.ntmps126
    go_wp2
    go_ret
    exact ⟨rfl, rfl⟩
  rw [decide_eq_false h12] at e12
  rw [if_neg h12]
  clear h12
  by_cases h13 : nm = [115, 114, 99, 115, 101, 116]
  · rw [decide_eq_true h13] at e13
    rw [if_pos h13]
    clear h13 e14 e15 e16
    go_enter Tryd.func126, Tryd.ntmps126
    go_wp2
    go_ret
    exact ⟨rfl, rfl⟩
  rw [decide_eq_false h13] at e13
  rw [if_neg h13]
  clear h13
  by_cases h14 : nm = [105, 109, 97, 103, 101, 115, 114, 99, 115, 101, 116]
  · rw [decide_eq_true h14] at e14
    rw [if_pos h14]
    clear h14 e15 e16
    go_enter Tryd.func126, Tryd.ntmps126
    go_wp2
    go_ret
    exact ⟨rfl, rfl⟩
  rw [decide_eq_false h14] at e14
  rw [if_neg h14]
  clear h14
  by_cases h15 : nm = [99, 111, 110, 116, 101, 110, 116]
  · rw [decide_eq_true h15] at e15
    rw [if_pos h15]
    clear h15 e16
    go_enter Tryd.func126, Tryd.ntmps126
    go_wp2
    go_ret
    exact ⟨rfl, rfl⟩
  rw [decide_eq_false h15] at e15
  rw [if_neg h15]
  clear h15
  by_cases h16 : nm = [104, 116, 116, 112, 45, 101, 113, 117, 105, 118]
  · rw [decide_eq_true h16] at e16
    rw [if_pos h16]
    clear h16
    go_enter Tryd.func126, Tryd.ntmps126
    go_wp2
    go_ret
    exact ⟨rfl, rfl⟩
  rw [decide_eq_false h16] at e16
  rw [if_neg h16]
  clear h16
  have hl : (bs nm).size = nm.length := bs_size nm
  by_cases h : 2 < nm.length
  · have c1 : decide ((2 : Int) < ((bs nm).size : Int)) = true := decide_eq_true (by omega)
    have c2 : decide (2 < (bs nm).size) = true := decide_eq_true (by omega)
    have hp : ([111, 110] : List UInt8).isPrefixOf (bs nm).toList = [111, 110].isPrefixOf nm := prefix_bs (l := [111, 110]) (by unfold Small; simp) hs
    cases hv : ([111, 110] : List Nat).isPrefixOf nm with
    | true =>
      rw [hv] at hp
      rw [if_pos ⟨h, rfl⟩]
      clear h hl hv
      go_enter Tryd.func126, Tryd.ntmps126
      go_wp2_with (go_at_call 56; refine (hasPrefix_calls _ _ _).mono ?_; rintro e w' ⟨rfl, rfl⟩; rw [show (⟨#[111, 110]⟩ : ByteArray).toList = [111, 110] from bs_list [111, 110], hp])
      go_ret
      exact ⟨rfl, rfl⟩
    | false =>
      rw [hv] at hp
      rw [if_neg (fun q => by cases q.2)]
      clear h hl hv
      go_enter Tryd.func126, Tryd.ntmps126
      go_wp2_with (go_at_call 56; refine (hasPrefix_calls _ _ _).mono ?_; rintro e w' ⟨rfl, rfl⟩; rw [show (⟨#[111, 110]⟩ : ByteArray).toList = [111, 110] from bs_list [111, 110], hp])
      go_ret
      exact ⟨rfl, rfl⟩
  · have c1 : decide ((2 : Int) < ((bs nm).size : Int)) = false := decide_eq_false (by omega)
    have c2 : decide (2 < (bs nm).size) = false := decide_eq_false (by omega)
    rw [if_neg (fun q => h q.1)]
    clear h hl
    go_enter Tryd.func126, Tryd.ntmps126
    go_wp2
    go_ret
    exact ⟨rfl, rfl⟩
end Go.Proofs.YtfplocpjdjjoaaaDoor.Ctxs
namespace Go.Proofs.YtfplocpjdjjoaaaDoor.Ctxs
open Go Go.RowKit Go.Proofs.YtfplocpjdjjoaaaDoor.Trail Go.Proofs.YtfplocpjdjjoaaaDoorW.PrintWords
set_option linter.unusedVariables false
set_option linter.unusedSimpArgs false
theorem letter_at {n : Int} (b : Nat) (hn : n = (b : Int)) (w : World) : Calls Tryd.prog 95 #[.int .u8 n] w fun e w' => e = .returned (.bool (letter b)) ∧ w = w' := hn ▸ letter_calls b w
theorem small_at {n : Int} (b : Nat) (hn : n = (b : Int)) (w : World) : Calls Tryd.prog 96 #[.int .u8 n] w fun e w' => e = .returned (.int .u8 (small b : Int)) ∧ w = w' := hn ▸ small_calls b w
theorem blank_at {n : Int} (b : Nat) (hn : n = (b : Int)) (w : World) : Calls Tryd.prog 97 #[.int .u8 n] w fun e w' => e = .returned (.bool (Trail.blank b)) ∧ w = w' := hn ▸ blank_calls b w
set_option maxHeartbeats 4000000 in
set_option maxRecDepth 100000 in
theorem closed_calls (b : Nat) (w : World) : Calls Tryd.prog 70 #[.int .u8 (b : Int)] w (Ret (Trail.closed b) w) := by
  have hu33 := Tryd.underlying33
  have hcv : ∀ A, (convert 22 9 (.slice (some ⟨w.heap.size + 1, 0, none⟩) 1 1)).run Tryd.prog ((w.alloc A).alloc (.cells #[.int .u8 (small b : Int)] 5)) = .ok (.string (bs [small b])) ((w.alloc A).alloc (.cells #[.int .u8 (small b : Int)] 5)) := fun A => one_conv (cell_last _ _ _ _ 0 (by simp))
  obtain ⟨r, hr⟩ : ∃ r, r = Trail.closed b := ⟨_, rfl⟩
  rw [← hr]
  have HR := Aside0.mk hr
  clear hr
  go_enter Tryd.func70, Tryd.ntmps70
  go_wp2_with (first | (go_at_call 95; (with_reducible refine (letter_at b ?hn _).mono ?_); (case hn => first | rfl | omega); rintro e w1 ⟨rfl, rfl⟩) | (go_at_call 96; (with_reducible refine (small_at b ?hn _).mono ?_); (case hn => first | rfl | omega); rintro e w1 ⟨rfl, rfl⟩))
  all_goals
    clear hu33 hcv
    try simp only [cast_eq, beq_iff_eq, bne_iff_ne, Bool.eq_false_iff, ne_eq, Bool.not_eq_true', Bool.or_eq_true, Bool.and_eq_true, Decidable.not_not, decide_eq_true_eq] at *
    have hr := HR.out
    unfold Trail.closed at hr
    try dsimp only at hr
    repeat' split at hr
    all_goals first
      | contradiction
      | (exfalso; omega)
      | (subst hr; (with_reducible refine ret_alloc1x Tryd.results70 ?_ ?_ ?_ ?_) <;> rfl)
      | (subst hr; (with_reducible refine ret_alloc1 Tryd.results70 ?_ ?_ ?_ ?_) <;> rfl)
      | (exfalso; simp_all; done)
set_option maxHeartbeats 4000000 in
set_option maxRecDepth 100000 in
theorem within_lit (st el ak qu pa su da n : Int) (en es : Bool) (nm : ByteArray) (w : World) : Calls Tryd.prog 99 #[.agg #[.int .u8 st, .int .u8 el, .bool en, .int .u8 ak, .int .u8 qu, .int .u8 pa, .int .u8 su, .bool es, .int .u8 da, .string nm], .int .u8 n] w fun e w' =>
    e = .returned (.agg #[.int .u8 n, .int .u8 el, .bool en, .int .u8 0, .int .u8 0, .int .u8 0, .int .u8 0, .bool false, .int .u8 0, .string (⟨#[]⟩ : ByteArray)]) ∧ Below w.heap.size w w' := by
  have hu33 := Tryd.underlying33
  go_enter Tryd.func99, Tryd.ntmps99
  go_wp2
  exact ret_ctx (w.heap.size + 1) rfl rfl rfl (alloc_at (alloc_size _ _).symm) rfl ⟨rfl, (((Below.refl _ _).alloc (Nat.le_refl _) _).alloc (by simp) _)⟩
theorem grown_at {v : Array Value} {n : Int} (c : Cx) (hv : v = cxs c) (b : Nat) (hb : n = (b : Int)) (hn : c.nm.length ≤ 1000) (w : World) (hG : Glob w) : Calls Tryd.prog 98 #[.agg v, .int .u8 n] w (Ret (grown c b) w) := hv ▸ hb ▸ grown_calls c b hn w hG
set_option maxHeartbeats 4000000 in
set_option maxRecDepth 100000 in
theorem ends_calls (c : Cx) (w : World) : Calls Tryd.prog 103 #[.agg (cxs c)] w fun e w' => e = .returned (.bool (ends c)) ∧ Below w.heap.size w w' := by
  have hu33 := Tryd.underlying33
  obtain ⟨st, el, en, ak, qu, pa, su, es, da, nm⟩ := c
  simp only [cxs]
  go_enter Tryd.func103, Tryd.ntmps103
  go_wp2
  all_goals
    clear hu33
    go_ret
    refine ⟨ret_bool ?_, ((Below.refl _ _).alloc (Nat.le_refl _) _)⟩
    unfold ends
    rw [Bool.eq_iff_iff]
    simp
    try omega
set_option maxHeartbeats 4000000 in
set_option maxRecDepth 100000 in
theorem begun_calls (c : Cx) (b : Nat) (w : World) (hG : Glob w) : Calls Tryd.prog 101 #[.agg (cxs c), .int .u8 (b : Int)] w (RetB (Trail.begun c b) w) := by
  have hu33 := Tryd.underlying33
  have hz := glob_pos hG
  obtain ⟨g0, g1, g2, g3, g4, g5, g6, g7, g8, g9⟩ := glob_cells hG
  clear hG
  obtain ⟨st, el, en, ak, qu, pa, su, es, da, nm⟩ := c
  simp only [cxs]
  obtain ⟨r, hr⟩ : ∃ r, r = Trail.begun ⟨st, el, en, ak, qu, pa, su, es, da, nm⟩ b := ⟨_, rfl⟩
  rw [← hr]
  have HR := Aside0.mk hr
  clear hr
  go_enter Tryd.func101, Tryd.ntmps101
  go_wp2_with ((go_at_call 97; (with_reducible refine (blank_at b ?hn _).mono ?_); (case hn => first | rfl | omega); rintro e w1 ⟨rfl, rfl⟩))
  all_goals
    clear hu33 g0 g1 g2 g3 g4 g5 g6 g7 g8 g9
    try simp only [cast_eq, beq_iff_eq, bne_iff_ne, Bool.eq_false_iff, ne_eq, Bool.not_eq_true', Bool.or_eq_true, Bool.and_eq_true, Decidable.not_not, decide_eq_true_eq] at *
    have hr := HR.out
    unfold Trail.begun at hr
    try dsimp only at hr
    repeat' split at hr
    all_goals first
      | contradiction
      | (exfalso; omega)
      | (subst hr; (with_reducible refine ret_alloc2b Tryd.results101 ?_ ?_ ?_ ?_ ?_) <;> rfl)
      | (have hb : b = 34 := by omega
         subst hb; subst hr; (with_reducible refine ret_alloc2b Tryd.results101 ?_ ?_ ?_ ?_ ?_) <;> rfl)
      | (have hb : b = 39 := by omega
         subst hb; subst hr; (with_reducible refine ret_alloc2b Tryd.results101 ?_ ?_ ?_ ?_ ?_) <;> rfl)
      | (exfalso; simp_all; done)
/-- 'Trail.opened' as the code answers it. -/
def openedB (b : Nat) : Cx × Bool := if letter b then ({ st := 3, nm := [small b] }, true) else if b = 47 then ({ st := 2 }, true) else if b = 33 then ({ st := 11 }, true) else if b = 63 then ({ st := 16 }, true) else ({}, false)
theorem openedB_eq (b : Nat) : openedB b = (match Trail.opened b with | some c => (c, true) | none => ({}, false)) := by
  unfold openedB Trail.opened
  by_cases h1 : letter b = true
  · rw [if_pos h1, if_pos h1]
  · rw [if_neg h1, if_neg h1]
    by_cases h2 : b = 47
    · rw [if_pos h2, if_pos h2]
    · rw [if_neg h2, if_neg h2]
      by_cases h3 : b = 33
      · rw [if_pos h3, if_pos h3]
      · rw [if_neg h3, if_neg h3]
        by_cases h4 : b = 63
        · rw [if_pos h4, if_pos h4]
        · rw [if_neg h4, if_neg h4]
set_option maxHeartbeats 4000000 in
set_option maxRecDepth 100000 in
theorem opened_calls (b : Nat) (w : World) : Calls Tryd.prog 69 #[.int .u8 (b : Int)] w (RetB (openedB b) w) := by
  have hu33 := Tryd.underlying33
  have hcv : ∀ A, (convert 22 9 (.slice (some ⟨w.heap.size + 1, 0, none⟩) 1 1)).run Tryd.prog ((w.alloc A).alloc (.cells #[.int .u8 (small b : Int)] 5)) = .ok (.string (bs [small b])) ((w.alloc A).alloc (.cells #[.int .u8 (small b : Int)] 5)) := fun A => one_conv (cell_last _ _ _ _ 0 (by simp))
  obtain ⟨r, hr⟩ : ∃ r, r = openedB b := ⟨_, rfl⟩
  rw [← hr]
  have HR := Aside0.mk hr
  clear hr
  go_enter Tryd.func69, Tryd.ntmps69
  go_wp2_with (first | (go_at_call 95; (with_reducible refine (letter_at b ?hn _).mono ?_); (case hn => first | rfl | omega); rintro e w1 ⟨rfl, rfl⟩) | (go_at_call 96; (with_reducible refine (small_at b ?hn _).mono ?_); (case hn => first | rfl | omega); rintro e w1 ⟨rfl, rfl⟩))
  all_goals
    clear hu33 hcv
    try simp only [cast_eq, beq_iff_eq, bne_iff_ne, Bool.eq_false_iff, ne_eq, Bool.not_eq_true', Bool.or_eq_true, Bool.and_eq_true, Decidable.not_not, decide_eq_true_eq] at *
    have hr := HR.out
    unfold openedB at hr
    try dsimp only at hr
    repeat' split at hr
    all_goals first
      | contradiction
      | (exfalso; omega)
      | (subst hr; (with_reducible refine ret_alloc1xb Tryd.results69 ?_ ?_ ?_ ?_ ?_) <;> rfl)
      | (subst hr; (with_reducible refine ret_alloc1b Tryd.results69 ?_ ?_ ?_ ?_ ?_) <;> rfl)
      | (exfalso; simp_all; done)
end Go.Proofs.YtfplocpjdjjoaaaDoor.Ctxs
