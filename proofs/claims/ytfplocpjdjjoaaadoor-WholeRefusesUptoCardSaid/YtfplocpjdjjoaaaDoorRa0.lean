/-
  The node of a word, behind the nodes of a parser.
  Conditions: as each theorem says.
-/
import Derived.Test.YtfplocpjdjjoaaaDoorRb0
import Derived.Deep.RegionLaw
namespace Go.Proofs.YtfplocpjdjjoaaaDoor.Refuse
open Go Go.RowKit Go.Proofs.YtfplocpjdjjoaaaDoor.Trail Go.Proofs.YtfplocpjdjjoaaaDoor.Ctxs Go.Proofs.YtfplocpjdjjoaaaDoorW.PrintWords
set_option linter.unusedVariables false
set_option linter.unusedSimpArgs false
theorem info78 : (Tryd.prog.info? 78).map (fun i => (i.zero, i.size, i.bytes)) = some (some (.agg #[.int .u8 0, .int .i64 0, .string ⟨#[]⟩, .bool false, .slice none 0 0, .slice none 0 0, .slice none 0 0, .bool false, .int .u8 0]), 9, 120) := by kernel_rfl
/-- A node's cells. -/
abbrev nodeRow (k at_ : Int) (t : ByteArray) (A : Option Addr) (n c : Nat) : List Value := [.int .u8 k, .int .i64 at_, .string t, .bool false, .slice A n c, .slice none 0 0, .slice none 0 0, .bool false, .int .u8 0]
theorem node_one (k at_ : Int) (t : ByteArray) (A : Option Addr) (n c : Nat) : ∀ u ∈ nodeRow k at_ t A n c, u.oneCell' = true := by
  intro u hu
  simp only [nodeRow, List.mem_cons, List.not_mem_nil, or_false] at hu
  rcases hu with rfl | rfl | rfl | rfl | rfl | rfl | rfl | rfl | rfl <;> rfl
/-- A parser's cells: words, place, nodes, top. -/
abbrev parserO (wv : Value) (p : Int) (nv tv : Value) : Obj := .cells #[wv, .int .i64 p, nv, tv] 143
def Pc (W : World) (b : Nat) (v0 v1 v2 v3 : Value) : Prop :=
  W.cell? ⟨b, 0, none⟩ = some v0 ∧ W.cell? ⟨b, 1, none⟩ = some v1 ∧ W.cell? ⟨b, 2, none⟩ = some v2 ∧ W.cell? ⟨b, 3, none⟩ = some v3 ∧ W.frozen? ⟨b, 0, none⟩ = false ∧ W.frozen? ⟨b, 1, none⟩ = false ∧ W.frozen? ⟨b, 2, none⟩ = false ∧ W.frozen? ⟨b, 3, none⟩ = false
theorem pc_of {W : World} {b t : Nat} {v0 v1 v2 v3 : Value} (h : W.heap[b]? = some (.cells #[v0, v1, v2, v3] t (0, 0))) : Pc W b v0 v1 v2 v3 :=
  ⟨by simp [World.cell?, h], by simp [World.cell?, h], by simp [World.cell?, h], by simp [World.cell?, h], Joins.unfrozen_of_block h 0, Joins.unfrozen_of_block h 1, Joins.unfrozen_of_block h 2, Joins.unfrozen_of_block h 3⟩
/-- A way behind a region that is parted over orders: shown once, used by each. -/
theorem share {T : Prop} {F G : Option Addr → Nat → World → Prop} (walk : (∀ A c w, F A c w → G A c w) → T) (rest : ∀ A c w, F A c w → G A c w) : T := walk rest
/-- What stands behind a node's being made. -/
def Noded (B : Nat) (w0 W W' : World) (wv : Value) (p : Int) (nv tv : Value) (rows : List (List Value)) (row : List Value) : Prop :=
  ∃ nv', W'.heap[B]? = some (parserO wv p nv' tv) ∧ Rw 9 78 W' w0.heap.size nv' (rows ++ [row]) ∧ Below w0.heap.size w0 W' ∧ Kept W W' (fun x => x = B ∨ some x = nv.ownBlock)
theorem noded_end {B g c5 k : Nat} {w0 W w5 : World} {wv tv : Value} {p : Int} {An : Option Addr} {cn : Nat} {rows : List (List Value)} {at_ : Int} {t : ByteArray} {A : Option Addr} {n c : Nat} {O : Obj} (hb : w0.heap.size ≤ B)
    (hblk : w5.heap[B]? = some (parserO wv p (.slice An rows.length cn) tv)) (hn : Rw 9 78 w5 w0.heap.size (.slice (some ⟨g, 0, none⟩) (rows.length + 1) c5) (rows ++ [nodeRow 0 at_ t A n c])) (hb5 : Below w0.heap.size w0 w5)
    (hg : (W.alloc O).drew.grownBy w5 (Value.slice An rows.length cn).ownBlock)
    (hat : (Value.slice (some ⟨g, 0, none⟩) (rows.length + 1) c5).ownBlock = (Value.slice An rows.length cn).ownBlock ∨ ∃ b, (Value.slice (some ⟨g, 0, none⟩) (rows.length + 1) c5).ownBlock = some b ∧ (W.alloc O).drew.heap.size ≤ b) :
    Noded B w0 W ((w5.setCell ⟨B, 2, none⟩ (.slice (some ⟨g, 0, none⟩) (rows.length + 1) c5)).setCell ⟨g, rows.length * 9, none⟩ (.int .u8 (k : Int))) wv p (.slice An rows.length cn) tv rows (nodeRow (k : Int) at_ t A n c) := by
  have hne : some B ≠ some g := hn.ne hblk (by decide)
  have hn1 : Rw 9 78 (w5.setCell ⟨B, 2, none⟩ (.slice (some ⟨g, 0, none⟩) (rows.length + 1) c5)) w0.heap.size (.slice (some ⟨g, 0, none⟩) (rows.length + 1) c5) (rows ++ [nodeRow 0 at_ t A n c]) :=
    hn.same (fun k hk => Below.heap_setCell _ _ _ _ (fun h => hne (by
      have h' : k = B := h
      rw [← h', ← hk]; rfl)))
  have hn2 := hn1.put rows.length 0 (row := nodeRow 0 at_ t A n c) (by simp) (by decide) (.int .u8 (k : Int)) rfl
  have hlg : w0.heap.size ≤ g := hn.low g rfl
  refine ⟨.slice (some ⟨g, 0, none⟩) (rows.length + 1) c5, ?_, ?_, ?_, ?_⟩
  · rw [Below.heap_setCell _ _ _ _ (fun h => hne (congrArg some h))]
    exact Joins.block_setCell (i := 2) hblk _
  · have e : (rows ++ [nodeRow 0 at_ t A n c]).set rows.length ((nodeRow 0 at_ t A n c).set 0 (.int .u8 (k : Int))) = rows ++ [nodeRow (k : Int) at_ t A n c] := by
      rw [List.set_append_right _ _ (Nat.le_refl _)]
      simp
    rw [e] at hn2
    exact hn2
  · exact (hb5.setCell (p := ⟨B, 2, none⟩) hb _).setCell (p := ⟨g, rows.length * 9, none⟩) hlg _
  · have h1 : Kept W (W.alloc O).drew (fun x => x = B ∨ some x = (Value.slice An rows.length cn).ownBlock) := ((Kept.refl W _).alloc _).drew
    refine ((h1.of_grown hg (fun k hk => .inl (.inr hk.symm))).setCell (p := ⟨B, 2, none⟩) (.inl (.inl rfl)) _).setCell (p := ⟨g, rows.length * 9, none⟩) ?_ _
    rcases hat with h | ⟨b, h, hle⟩
    · exact .inl (.inr h)
    · have h' : g = b := by injection h
      refine .inr (Nat.le_trans ?_ (h' ▸ hle))
      show W.heap.size ≤ (W.alloc O).heap.size
      rw [size_alloc]; omega
set_option maxHeartbeats 8000000 in
set_option maxRecDepth 100000 in
theorem node_calls (k : Nat) (hk : k = 0 ∨ k = 1) (B : Nat) (w0 W : World) (wv nv tv : Value) (p : Int) (rows : List (List Value)) (at_ : Int) (t : ByteArray) (A : Option Addr) (n c : Nat) (d : Int) (hP : W.heap[B]? = some (parserO wv p nv tv)) (hN : Rw 9 78 W w0.heap.size nv rows) (hB : Below w0.heap.size w0 W) (hb : w0.heap.size ≤ B) (hl : (rows.length + 1) * 120 ≤ 140737488355328) :
    Calls Tryd.prog 94 #[.pointer (some ⟨B, 0, none⟩), .agg #[.int .u8 (k : Int), .int .i64 at_, .string t, .bool false, .slice A n c], .int .i64 d] W fun e W' => e = .returned (.tuple #[.int .i64 (rows.length : Int), .pointer none]) ∧ Noded B w0 W W' wv p nv tv rows (nodeRow (k : Int) at_ t A n c) := by
  obtain ⟨An, cn, rfl⟩ := hN.slice
  have hlt : B < W.heap.size := (Array.getElem?_eq_some_iff.1 hP).1
  obtain ⟨y0, y1, y2, y3, f0, f1, f2, f3⟩ := pc_of hP
  have HP := Aside0.mk hP
  have HN := Aside0.mk hN
  have HB := Aside0.mk hB
  have HBO := Aside0.mk hb
  have HL := Aside0.mk hl
  have HK := Aside0.mk hk
  clear hP hN hB hb hl hk
  go_enter Tryd.func94, Tryd.ntmps94
  go_wp2
  refine' share (F := fun A5 c5 w5 => Rw 9 78 w5 w0.heap.size (.slice A5 (rows ++ [nodeRow 0 at_ t A n c]).length c5) (rows ++ [nodeRow 0 at_ t A n c]) ∧ Below w0.heap.size w0 w5 ∧ (W.alloc (.cells #[.int .u8 (k : Int), .int .i64 at_, .string t, .bool false, .slice A n c] 139)).drew.grownBy w5 (Value.slice An rows.length cn).ownBlock ∧ ((Value.slice A5 (rows ++ [nodeRow 0 at_ t A n c]).length c5).ownBlock = (Value.slice An rows.length cn).ownBlock ∨ ∃ b, (Value.slice A5 (rows ++ [nodeRow 0 at_ t A n c]).length c5).ownBlock = some b ∧ (W.alloc (.cells #[.int .u8 (k : Int), .int .i64 at_, .string t, .bool false, .slice A n c] 139)).drew.heap.size ≤ b)) (G := _) (fun hG => ?walk) ?rest
  case walk =>
    go_region_law (first
      | (refine Kd.R_append_step (Kd.raw 9) (w0 := w0) (W := (W.alloc (.cells #[.int .u8 (k : Int), .int .i64 at_, .string t, .bool false, .slice A n c] 139)).drew) w0.heap.size (by rfl) (.tmp 22) (.tmp 30) 60 78 (.agg #[.int .u8 0, .int .i64 0, .string ⟨#[]⟩, .bool false, .slice none 0 0, .slice none 0 0, .slice none 0 0, .bool false, .int .u8 0]) 120 (by rfl) Tryd.underlying60 info78 rfl (by decide) (by decide) (.slice An rows.length cn) rows (nodeRow 0 at_ t A n c) (nodeRow 0 at_ t A n c) (fun _ => True) (fun _ => False) (by rfl) ?aX ?aP (fun _ hk => hk.elim) (fun _ _ => trivial) ?aN ?aB ?aS ?aL ?_; (case aX => show Value.slice (some ⟨W.heap.size + 1, 0, none⟩) 1 1 = Value.slice (some ⟨(W.alloc _).heap.size, 0, none⟩) 1 1; rw [size_alloc]); (case aP => exact ⟨rfl, rfl, node_one _ _ _ _ _ _⟩); (case aN => exact HN.out.below (Below.drew ((Below.refl _ _).alloc (Nat.le_refl _) _))); (case aB => exact Below.drew (HB.out.alloc HB.out.size _)); (case aS => have := HB.out.size; show w0.heap.size ≤ (W.alloc _).heap.size; rw [size_alloc]; omega); (case aL => exact HL.out); intro v5 w5 hn hb5 hg hat; obtain ⟨A5, c5, rfl⟩ := Rw.slice hn; have HN5 := Aside0.mk hn; have HB5 := Aside0.mk hb5; have HG5 := Aside0.mk hg; have HAT5 := Aside0.mk hat; obtain ⟨z0, z1, z2, z3, e0, e1, e2, e3⟩ := pc_of ((hg.block B (by show B < (W.alloc _).heap.size; rw [size_alloc]; omega) (HN.out.ne HP.out (by decide))).trans ((old_alloc hlt).trans HP.out)); clear hn hb5 hg hat))
    all_goals exact hG A5 c5 w5 ⟨HN5.out, HB5.out, HG5.out, HAT5.out⟩
  case rest =>
    intro A5 c5 w5 hF
    obtain ⟨hn5, hb5, hg5, hat5⟩ := hF
    have e5 : (rows ++ [nodeRow 0 at_ t A n c]).length = rows.length + 1 := by simp
    rw [e5] at hn5 hat5
    obtain ⟨g, cap, hs, hgb, hgl, cells, hcell⟩ := hn5.form (by simp)
    simp only [Value.slice.injEq, true_and] at hs
    obtain ⟨rfl, -, rfl⟩ := hs
    have hblk : w5.heap[B]? = some (parserO wv p (.slice An rows.length cn) tv) := ((hg5.block B (by show B < (W.alloc _).heap.size; rw [size_alloc]; omega) (HN.out.ne HP.out (by decide))).trans ((old_alloc hlt).trans HP.out))
    have hbox : w5.heap[W.heap.size]? = some (.cells #[.int .u8 (k : Int), .int .i64 at_, .string t, .bool false, .slice A n c] 139 (0, 0)) := (hg5.block W.heap.size (by show W.heap.size < (W.alloc _).heap.size; rw [size_alloc]; omega) (fun h => absurd (HN.out.lt _ h.symm) (Nat.lt_irrefl _))).trans (World.alloc_heap_new W _)
    have hBg : B ≠ g := fun h => hn5.ne hblk (by decide) (congrArg some h)
    have hXg : W.heap.size ≠ g := fun h => hn5.ne hbox (by decide) (congrArg some h)
    have hBX : B ≠ W.heap.size := by omega
    obtain ⟨-, hc5, hf5⟩ := hn5.cells rows.length (row := nodeRow 0 at_ t A n c) (by simp)
    have x0 := hc5 0 _ rfl
    have xf := hf5 0
    rw [Nat.add_zero] at x0 xf
    obtain ⟨z0, z1, z2, z3, e0, e1, e2, e3⟩ := pc_of hblk
    obtain ⟨b0, b1, b2, b3, b4, -, -, -, -, -⟩ := five_of hbox
    have hl5 : B < w5.heap.size := (Array.getElem?_eq_some_iff.1 hblk).1
    have HN5 := Aside0.mk hn5
    have HB5 := Aside0.mk hb5
    have HG5 := Aside0.mk hg5
    have HAT5 := Aside0.mk hat5
    have HBLK := Aside0.mk hblk
    clear hn5 hb5 hg5 hat5 hblk hbox hc5 hf5 hcell e5
    rcases HK.out with rfl | rfl
    · go_wp2
      refine bodyPost_ret (v := .tuple #[.int .i64 (rows.length : Int), .pointer none]) ?_ rfl ⟨rfl, noded_end (k := 0) HBO.out HBLK.out HN5.out HB5.out HG5.out HAT5.out⟩
      simp [results, Tryd.f94, go_sem]
    · go_wp2
      refine bodyPost_ret (v := .tuple #[.int .i64 (rows.length : Int), .pointer none]) ?_ rfl ⟨rfl, noded_end (k := 1) HBO.out HBLK.out HN5.out HB5.out HG5.out HAT5.out⟩
      simp [results, Tryd.f94, go_sem]
end Go.Proofs.YtfplocpjdjjoaaaDoor.Refuse
