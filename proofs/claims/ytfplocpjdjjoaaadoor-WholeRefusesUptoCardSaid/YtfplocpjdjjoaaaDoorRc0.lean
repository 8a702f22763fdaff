/-
  The nodes of a parser's words, one by one.
  A tree that shares no list with the words.
  The tree of a template with one hole.
  Conditions: as each theorem says.
-/
import Derived.Test.YtfplocpjdjjoaaaDoorRa0
import Derived.Deep.RegionHeldLaw
namespace Go.Proofs.YtfplocpjdjjoaaaDoor.Refuse
open Go Go.RowKit Go.Proofs.YtfplocpjdjjoaaaDoor.Trail Go.Proofs.YtfplocpjdjjoaaaDoor.Ctxs Go.Proofs.YtfplocpjdjjoaaaDoorW.PrintWords
set_option linter.unusedVariables false
set_option linter.unusedSimpArgs false
theorem info3 : (Tryd.prog.info? 3).map (fun i => (i.zero, i.size, i.bytes)) = some (some (.int .i64 0), 1, 8) := by kernel_rfl
theorem Rw.typed {sz e base : Nat} {W : World} {v : Value} {rows : List (List Value)} (h : Rw sz e W base v rows) : ∀ k, v.ownBlock = some k → ∃ cells, W.heap[k]? = some (.cells cells e (0, 0)) := by
  obtain ⟨inner, ho⟩ := Kd.R_own h
  exact own_typed ho
theorem Rw.apart {s1 e1 b1 s2 e2 b2 : Nat} {W : World} {v1 v2 : Value} {r1 r2 : List (List Value)} (h : Rw s1 e1 W b1 v1 r1) (h' : Rw s2 e2 W b2 v2 r2) (he : e1 ≠ e2) (k : Nat) (hk : v1.ownBlock = some k) : ¬ some k = v2.ownBlock := by
  obtain ⟨cells, hc⟩ := h.typed k hk
  exact h'.ne hc (Ne.symm he)
/-- A word: its kind, place, text and path. -/
structure Wd where
  k : Nat
  at_ : Int
  t : ByteArray
  A : Option Addr
  n : Nat
  c : Nat
abbrev Wd.row (x : Wd) : List Value := word (x.k : Int) x.at_ x.t x.A x.n x.c
abbrev Wd.node (x : Wd) : List Value := nodeRow (x.k : Int) x.at_ x.t x.A x.n x.c
/-- A word's path: none, or one name. -/
def Named (W : World) (x : Wd) : Prop := (x.A = none ∧ x.n = 0) ∨ ∃ g, x.A = some ⟨g, 0, none⟩ ∧ x.n = 1 ∧ Nm W g
theorem Named.same {W V : World} {x : Wd} (h : Named W x) (hs : ∀ g, Nm W g → V.heap[g]? = W.heap[g]?) : Named V x := by
  rcases h with h | ⟨g, h1, h2, h3⟩
  · exact .inl h
  · exact .inr ⟨g, h1, h2, h3.same (hs g h3)⟩
theorem Nm.off {W : World} {g : Nat} (h : Nm W g) {k t : Nat} {cells : Array Value} (hb : W.heap[k]? = some (.cells cells t (0, 0))) (ht : t = 143 ∨ t = 78 ∨ t = 3 ∨ t = 139) : g ≠ k := by
  obtain ⟨cur, hc, _⟩ := h
  rintro rfl
  rw [hb] at hc
  injection hc with hc
  injection hc with _ hc
  subst hc
  rcases ht with h | h | h | h <;> exact absurd h (by decide)
def lenOf : Value → Nat
  | .slice _ n _ => n
  | _ => 0
abbrev nums (j : Nat) : List (List Value) := (List.range j).map fun i : Nat => [.int .i64 (i : Int)]
theorem nums_succ (j : Nat) : nums (j + 1) = nums j ++ [[.int .i64 (j : Int)]] := by simp [nums, List.range_succ]
theorem nums_len (j : Nat) : (nums j).length = j := by simp [nums]
theorem one_num (j : Nat) : ∀ u ∈ [Value.int .i64 (j : Int)], u.oneCell' = true := by
  intro u hu
  rw [List.mem_singleton] at hu
  rw [hu]
  rfl
/-- A parser at work: at word a, p nodes made, m numbers answered. -/
structure Pst (bw B : Nat) (w0 W : World) (wv : Value) (ws : List Wd) (a p m : Nat) (ov nv : Value) : Prop where
  blk : W.heap[B]? = some (parserO wv (a : Int) nv (.slice none 0 0))
  wrd : Rw 5 139 W bw wv (ws.map Wd.row)
  nod : Rw 9 78 W w0.heap.size nv ((ws.take p).map Wd.node)
  out : Rw 1 3 W w0.heap.size ov (nums m)
  nm : ∀ x ∈ ws, Named W x
  bel : Below w0.heap.size w0 W
  low : w0.heap.size ≤ B
section
variable {bw B a p m : Nat} {w0 W V : World} {wv ov nv : Value} {ws : List Wd}
theorem Pst.lt (h : Pst bw B w0 W wv ws a p m ov nv) : B < W.heap.size := (Array.getElem?_eq_some_iff.1 h.blk).1
theorem Pst.below (h : Pst bw B w0 W wv ws a p m ov nv) (hb : Below W.heap.size W V) : Pst bw B w0 V wv ws a p m ov nv :=
  ⟨(hb.block B h.lt).trans h.blk, h.wrd.below hb, h.nod.below hb, h.out.below hb, fun x hx => (h.nm x hx).same (fun g hg => hb.block g hg.lt), below_step h.bel hb, h.low⟩
theorem Pst.next (h : Pst bw B w0 W wv ws a p m ov nv) : Pst bw B w0 (W.setCell ⟨B, 1, none⟩ (.int .i64 ((a + 1 : Nat) : Int))) wv ws (a + 1) p m ov nv := by
  have hh : ∀ k, k ≠ B → (W.setCell ⟨B, 1, none⟩ (.int .i64 ((a + 1 : Nat) : Int))).heap[k]? = W.heap[k]? := fun k hk => Below.heap_setCell _ _ _ _ hk
  refine ⟨Joins.block_setCell (i := 1) h.blk _, h.wrd.same (fun k hk => hh k ?_), h.nod.same (fun k hk => hh k ?_), h.out.same (fun k hk => hh k ?_), fun x hx => (h.nm x hx).same (fun g hg => hh g (hg.off h.blk (.inl rfl))), h.bel.setCell (p := ⟨B, 1, none⟩) h.low _, h.low⟩
  · rintro rfl; exact h.wrd.ne h.blk (by decide) hk.symm
  · rintro rfl; exact h.nod.ne h.blk (by decide) hk.symm
  · rintro rfl; exact h.out.ne h.blk (by decide) hk.symm
theorem Pst.noded (h : Pst bw B w0 W wv ws a p m ov nv) {x : Wd} (hx : ws[p]? = some x) (hn : Noded B w0 W V wv (a : Int) nv (.slice none 0 0) ((ws.take p).map Wd.node) x.node) : ∃ nv', Pst bw B w0 V wv ws a (p + 1) m ov nv' := by
  obtain ⟨nv', h1, h2, h3, h4⟩ := hn
  refine ⟨nv', h1, h.wrd.kept h4 (fun k hk => ?_), ?_, h.out.kept h4 (fun k hk => ?_), fun y hy => (h.nm y hy).same (fun g hg => h4.2 g hg.lt ?_), h3, h.low⟩
  · rintro (rfl | hq)
    · exact h.wrd.ne h.blk (by decide) hk.symm
    · exact h.wrd.apart h.nod (by decide) k hk hq
  · rw [show (ws.take (p + 1)).map Wd.node = (ws.take p).map Wd.node ++ [x.node] by rw [List.take_add_one, hx]; simp]
    exact h2
  · rintro (rfl | hq)
    · exact h.out.ne h.blk (by decide) hk.symm
    · exact h.out.apart h.nod (by decide) k hk hq
  · rintro (rfl | hq)
    · exact hg.off h.blk (.inl rfl) rfl
    · obtain ⟨cells, hc⟩ := h.nod.typed g hq.symm
      exact hg.off hc (.inr (.inl rfl)) rfl
theorem Pst.grown (h : Pst bw B w0 W wv ws a p m ov nv) {v5 : Value} (hn : Rw 1 3 V w0.heap.size v5 (nums m ++ [[.int .i64 (m : Int)]])) (hb : Below w0.heap.size w0 V) (hg : W.grownBy V ov.ownBlock) : Pst bw B w0 V wv ws a p (m + 1) v5 nv := by
  have hh : ∀ k, k < W.heap.size → ¬ some k = ov.ownBlock → V.heap[k]? = W.heap[k]? := fun k hk hne => hg.block k hk hne
  refine ⟨(hh B h.lt (h.out.ne h.blk (by decide))).trans h.blk, h.wrd.same (fun k hk => hh k (h.wrd.lt k hk) (h.wrd.apart h.out (by decide) k hk)), h.nod.same (fun k hk => hh k (h.nod.lt k hk) (h.nod.apart h.out (by decide) k hk)), nums_succ m ▸ hn, fun y hy => (h.nm y hy).same (fun g hg' => hh g hg'.lt (fun hq => ?_)), hb, h.low⟩
  obtain ⟨cells, hc⟩ := h.out.typed g hq.symm
  exact hg'.off hc (.inr (.inr (.inl rfl))) rfl
theorem node_to {v : Array Value} {i d : Int} {x : Wd} (h : Pst bw B w0 W wv ws a p m ov nv) (hx : ws[p]? = some x) (hk : x.k = 0 ∨ x.k = 1) (hl : ws.length ≤ 1000) (hi : i = ((a + 1 : Nat) : Int)) (hV : Below (W.setCell ⟨B, 1, none⟩ (.int .i64 i)).heap.size (W.setCell ⟨B, 1, none⟩ (.int .i64 i)) V) (hv : v = #[.int .u8 (x.k : Int), .int .i64 x.at_, .string x.t, .bool false, .slice x.A x.n x.c]) :
    Calls Tryd.prog 94 #[.pointer (some ⟨B, 0, none⟩), .agg v, .int .i64 d] V fun e W' => e = .returned (.tuple #[.int .i64 (p : Int), .pointer none]) ∧ ∃ nv', Pst bw B w0 W' wv ws (a + 1) (p + 1) m ov nv' := by
  subst hv hi
  have h' := h.next.below hV
  have hp : p < ws.length := (List.getElem?_eq_some_iff.1 hx).1
  have hlen : ((ws.take p).map Wd.node).length = p := by rw [List.length_map, List.length_take]; omega
  refine (node_calls x.k hk B w0 _ wv nv (.slice none 0 0) ((a + 1 : Nat) : Int) ((ws.take p).map Wd.node) x.at_ x.t x.A x.n x.c d h'.blk h'.nod h'.bel h'.low (by rw [hlen]; omega)).mono ?_
  rintro e W' ⟨rfl, hn⟩
  rw [hlen]
  exact ⟨rfl, h'.noded hx hn⟩
end
set_option maxHeartbeats 8000000 in
set_option maxRecDepth 100000 in
theorem list_calls (bw B : Nat) (w0 W : World) (wv : Value) (ws : List Wd) (hks : ∀ x ∈ ws, x.k = 0 ∨ x.k = 1) (hlen : ws.length ≤ 1000) (hP : Pst bw B w0 W wv ws 0 0 0 (.slice none 0 0) (.slice none 0 0)) :
    Calls Tryd.prog 66 #[.pointer (some ⟨B, 0, none⟩), .int .i64 0] W fun e W' => ∃ ov nv, e = .returned (.tuple #[ov, .pointer none]) ∧ Pst bw B w0 W' wv ws ws.length ws.length ws.length ov nv := by
  obtain ⟨Aw, cw, hwv⟩ := hP.wrd.slice
  rw [List.length_map] at hwv
  subst hwv
  obtain ⟨N, hN⟩ : ∃ N, N = ws.length := ⟨_, rfl⟩
  have HP := Aside0.mk hP
  have HL := Aside0.mk hlen
  have HK := Aside0.mk hks
  have HN := Aside0.mk hN
  rw [← hN]
  clear hP hlen hks hN
  go_enter Tryd.func66, Tryd.ntmps66
  go_wp2
  go_loopw [6] (fun iv wr => ∃ (j : Nat) (nv : Value), j ≤ N ∧ Pst bw B w0 wr (.slice Aw N cw) ws j j j iv nv)
    (fun iv _ => N - lenOf iv)
  case atStart => exact ⟨0, _, Nat.zero_le _, HN.out ▸ HP.out⟩
  case round =>
    obtain ⟨j, nv, hj, hst⟩ := hrel
    obtain ⟨Ao, co, ho⟩ := hst.out.slice
    have hno : (nums j).length = j := by simp [nums]
    rw [hno] at ho
    subst ho
    have HST := Aside0.mk hst
    have HJ := Aside0.mk hj
    obtain ⟨y0, y1, y2, y3, f0, f1, f2, f3⟩ := pc_of hst.blk
    have hlt : B < wr.heap.size := hst.lt
    clear hst hno
    by_cases hjn : j < N
    · have c1 : decide ((j : Int) < (N : Int)) = true := decide_eq_true (Int.ofNat_lt.2 hjn)
      have c2 : decide (j < N) = true := decide_eq_true hjn
      obtain ⟨x, hx⟩ : ∃ x, ws[j]? = some x := ⟨_, List.getElem?_eq_getElem (by have := HN.out; omega)⟩
      have hk := HK.out x (List.mem_of_getElem? hx)
      have k3 : ((x.k : Int) == 3) = false := by rw [beq_eq_false_iff_ne]; omega
      have k5 : ((x.k : Int) == 5) = false := by rw [beq_eq_false_iff_ne]; omega
      have hwr := HST.out.wrd
      obtain ⟨gw, cap, hs, -, hgl, -, -⟩ := hwr.form (by rw [List.length_map]; have := HN.out; omega)
      simp only [Value.slice.injEq] at hs
      obtain ⟨rfl, -, rfl⟩ := hs
      obtain ⟨-, hc, hf⟩ := hwr.cells j (row := x.row) (by rw [List.getElem?_map, hx]; rfl)
      have x0 := hc 0 _ rfl
      have x1 := hc 1 _ rfl
      have x2 := hc 2 _ rfl
      have x3 := hc 3 _ rfl
      have x4 := hc 4 _ rfl
      rw [Nat.add_zero] at x0
      have b1 : (0 : Int) ≤ (j : Int) ∧ (j : Int) < (N : Int) := by omega
      have HX := Aside0.mk hx
      have HKX := Aside0.mk hk
      have d6 : wrap64 ((j : Int) + 1) = ((j + 1 : Nat) : Int) := by have := HL.out; have := HN.out; unfold wrap64; omega
      have HJN := Aside0.mk (show j + 1 ≤ N from hjn)
      clear hwr hc hf hx hk hjn
      have n1 := World.new_ne wr _ y0
      have n2 := World.new_ne wr _ x0
      go_wp2
      go_region
      go_wp2
      go_region_held_law (fun W => W.cell? ⟨B, 0, none⟩ = some (.slice (some ⟨gw, 0, none⟩) N cw) ∧ W.cell? ⟨B, 1, none⟩ = some (.int .i64 (j : Int)) ∧ W.cell? ⟨gw, j * 5, none⟩ = some (.int .u8 (x.k : Int)) ∧ W.cell? ⟨gw, j * 5 + 1, none⟩ = some (.int .i64 x.at_) ∧ W.cell? ⟨gw, j * 5 + 2, none⟩ = some (.string x.t) ∧ W.cell? ⟨gw, j * 5 + 3, none⟩ = some (.bool false) ∧ W.cell? ⟨gw, j * 5 + 4, none⟩ = some (.slice x.A x.n x.c)) (go_keep) (first | fail)
      have hV : Below (wr.setCell ⟨B, 1, none⟩ (.int .i64 ((j : Int) + 1))).heap.size (wr.setCell ⟨B, 1, none⟩ (.int .i64 ((j : Int) + 1))) ((wr.setCell ⟨B, 1, none⟩ (.int .i64 ((j : Int) + 1))).alloc (.cells #[.int .u8 (x.k : Int), .int .i64 x.at_, .string x.t, .bool false, .slice x.A x.n x.c] 139)).drew.drew := Below.drew (Below.drew ((Below.refl _ _).alloc (Nat.le_refl _) _))
      have HV := Aside0.mk hV
      have hlt2 : B < wr.heap.size + 1 := by omega
      have hne2 : wr.heap.size ≠ B := by omega
      clear hV
      go_wp2_with (first
        | (go_at_call 94; (with_reducible refine (node_to HST.out HX.out HKX.out HL.out ?hi HV.out ?hv).mono ?_); (case hi => omega); (case hv => rfl); rintro e w4 ⟨rfl, nv', h4⟩; have HST4 := Aside0.mk h4; clear h4)
        | ((with_reducible refine gate_builtin (b := .append) (xs := #[.tmp 56, .tmp 58]) rfl ?_); at_builtin; refine Kd.R_append (Kd.raw 1) (w0 := w0) (W := w4) w0.heap.size rfl (.tmp 56) (.tmp 58) 61 3 (.int .i64 0) 8 rfl Tryd.underlying61 info3 rfl (by decide) (by decide) (.slice Ao j co) (nums j) [.int .i64 (j : Int)] [.int .i64 (j : Int)] (fun _ => True) (fun _ => False) rfl ?aX ?aP (fun _ hk => hk.elim) (fun _ _ => trivial) ?aN ?aB ?aS ?aL ?_; (case aX => rfl); (case aP => exact ⟨rfl, rfl, one_num j⟩); (case aN => exact HST4.out.out); (case aB => exact HST4.out.bel); (case aS => exact HST4.out.bel.size); (case aL => have := HL.out; have := HN.out; have := HJ.out; rw [nums_len]; omega); intro v5 w5 hn hb hg hat; have HST5 := Aside0.mk (HST4.out.grown hn hb hg); obtain ⟨A5, c5, rfl⟩ := Kd.R_slice hn; clear hn hb hg hat))
      go_roundw
      case rel =>
        have h5 := HST5.out
        rw [List.length_append, nums_len] at h5
        exact ⟨j + 1, nv', HJN.out, h5⟩
      case measure =>
        have := HJN.out
        show N - (j + 1) < N - j
        omega
    · have c1 : decide ((j : Int) < (N : Int)) = false := decide_eq_false (fun h => hjn (Int.ofNat_lt.1 h))
      have c2 : decide (j < N) = false := decide_eq_false hjn
      have hjN : j = N := by omega
      subst hjN
      clear hjn
      go_wp2
      go_region
      go_wp2
      refine bodyPost_ret (v := .tuple #[.slice Ao j co, .pointer none]) ?_ rfl ⟨_, nv, rfl, HST.out.below (Below.drew (Below.refl _ _))⟩
      simp [results, Tryd.f66, go_sem]
end Go.Proofs.YtfplocpjdjjoaaaDoor.Refuse
namespace Go.Proofs.YtfplocpjdjjoaaaDoor.Refuse
open Go Go.RowKit Go.Proofs.YtfplocpjdjjoaaaDoor.Trail Go.Proofs.YtfplocpjdjjoaaaDoor.Ctxs Go.Proofs.YtfplocpjdjjoaaaDoorW.PrintWords
set_option linter.unusedVariables false
set_option linter.unusedSimpArgs false
/-- A tree of words: its nodes as rows, its numbers. -/
structure Tree (base : Nat) (W : World) (nv tv : Value) (ws : List Wd) (rows : List (List Value)) : Prop where
  nod : Rw 9 78 W base nv rows
  top : Rw 1 3 W base tv (nums ws.length)
  len : rows.length = ws.length
  row : ∀ (i : Nat) (x : Wd), ws[i]? = some x → ∃ A n c, rows[i]? = some (nodeRow (x.k : Int) x.at_ x.t A n c)
theorem Tree.below {base : Nat} {W V : World} {nv tv : Value} {ws : List Wd} {rows : List (List Value)} (h : Tree base W nv tv ws rows) (hb : Below W.heap.size W V) : Tree base V nv tv ws rows :=
  ⟨h.nod.below hb, h.top.below hb, h.len, h.row⟩
/-- The names that a path says, as rows. -/
theorem Named.reads {W : World} {x : Wd} (h : Named W x) : ∃ ys : List (List Value), x.n ≤ 1 ∧ ReadsRow (fun r cs => cs = r ∧ cs.length = 1 ∧ ∀ u ∈ cs, u.oneCell' = true) 1 W x.A x.n ys := by
  rcases h with ⟨h1, h2⟩ | ⟨g, h1, h2, h3⟩
  · refine ⟨[], by omega, h2.symm, by omega, fun h => by omega⟩
  · refine ⟨[[.string sx]], by omega, by rw [h2]; rfl, by omega, fun _ => ⟨_, h1, fun j p hj => ?_⟩⟩
    have hj0 : j = 0 := by
      have := (List.getElem?_eq_some_iff.1 hj).1
      simpa using this
    subst hj0
    simp only [List.getElem?_cons_zero, Option.some.injEq] at hj
    subst hj
    refine ⟨_, rfl, ⟨rfl, rfl, fun u hu => ?_⟩, fun i u hu => ?_⟩
    · rw [List.mem_singleton] at hu
      rw [hu]
      rfl
    · have hi0 : i = 0 := by
        have := (List.getElem?_eq_some_iff.1 hu).1
        simpa using this
      subst hi0
      simp only [List.getElem?_cons_zero, Option.some.injEq] at hu
      subst hu
      exact h3.cell
/-- Copying at work: k nodes done. -/
structure Cst (T : Nat) (w0 W : World) (nv tv : Value) (ws : List Wd) (k : Nat) (rows : List (List Value)) : Prop where
  tree : Tree w0.heap.size W nv tv ws rows
  old : ∀ (i : Nat) (x : Wd), ws[i]? = some x → k ≤ i → rows[i]? = some x.node
  nm : ∀ x ∈ ws, Named W x
  box : W.heap[T]? = some (.cells #[nv, tv] 63 (0, 0))
  res : W.heap[T + 1]? = some (.cells #[.slice none 0 0, .slice none 0 0] 63 (0, 0))
  bel : Below w0.heap.size w0 W
section
variable {T k : Nat} {w0 W V : World} {nv tv : Value} {ws : List Wd} {rows : List (List Value)}
theorem Cst.below (h : Cst T w0 W nv tv ws k rows) (hb : Below W.heap.size W V) : Cst T w0 V nv tv ws k rows :=
  ⟨h.tree.below hb, h.old, fun x hx => (h.nm x hx).same (fun g hg => hb.block g hg.lt), (hb.block T (Array.getElem?_eq_some_iff.1 h.box).1).trans h.box, (hb.block (T + 1) (Array.getElem?_eq_some_iff.1 h.res).1).trans h.res, below_step h.bel hb⟩
theorem Cst.put {g n cap : Nat} (h : Cst T w0 W (.slice (some ⟨g, 0, none⟩) n cap) tv ws k rows) {x : Wd} (hx : ws[k]? = some x) (A : Option Addr) (m c : Nat) :
    ∃ rows', Cst T w0 (W.setCell ⟨g, k * 9 + 4, none⟩ (.slice A m c)) (.slice (some ⟨g, 0, none⟩) n cap) tv ws (k + 1) rows' := by
  have hr := h.old k x hx (Nat.le_refl _)
  have hk : k < rows.length := (List.getElem?_eq_some_iff.1 hr).1
  have hgT : T ≠ g := fun e => h.tree.nod.ne h.box (by decide) (congrArg some e)
  have hgR : T + 1 ≠ g := fun e => h.tree.nod.ne h.res (by decide) (congrArg some e)
  have hh : ∀ q, q ≠ g → (W.setCell ⟨g, k * 9 + 4, none⟩ (.slice A m c)).heap[q]? = W.heap[q]? := fun q hq => Below.heap_setCell _ _ _ _ hq
  refine ⟨rows.set k (x.node.set 4 (.slice A m c)), ⟨h.tree.nod.put k 4 hr (by decide) _ rfl, h.tree.top.same (fun q hq => hh q ?_), by rw [List.length_set]; exact h.tree.len, fun i y hy => ?_⟩, fun i y hy hi => ?_, fun y hy => (h.nm y hy).same (fun q hq => hh q ?_), (hh T hgT).trans h.box, (hh _ hgR).trans h.res, h.bel.setCell (p := ⟨g, k * 9 + 4, none⟩) (h.tree.nod.low g rfl) _⟩
  · rintro rfl
    exact h.tree.top.apart h.tree.nod (by decide) q hq rfl
  · by_cases e : i = k
    · subst e
      rw [hx] at hy
      injection hy with hy
      subst hy
      exact ⟨A, m, c, by rw [List.getElem?_set_self hk]; rfl⟩
    · rw [List.getElem?_set_ne (Ne.symm e)]
      exact h.tree.row i y hy
  · rw [List.getElem?_set_ne (by omega)]
    exact h.old i y hy (by omega)
  · rintro rfl
    obtain ⟨cells, hc⟩ := h.tree.nod.typed q rfl
    exact hq.off hc (.inr (.inl rfl)) rfl
end
set_option maxHeartbeats 8000000 in
set_option maxRecDepth 100000 in
theorem copied_calls (w0 W : World) (nv tv : Value) (ws : List Wd) (hlen : ws.length ≤ 1000) (hN : Rw 9 78 W w0.heap.size nv (ws.map Wd.node)) (hT : Rw 1 3 W w0.heap.size tv (nums ws.length)) (hnm : ∀ x ∈ ws, Named W x) (hB : Below w0.heap.size w0 W) (hbase : w0.heap.size ≤ W.heap.size) :
    Calls Tryd.prog 67 #[.agg #[nv, tv]] W fun e W' => ∃ rows, e = .returned (.agg #[nv, tv]) ∧ Tree w0.heap.size W' nv tv ws rows ∧ Below w0.heap.size w0 W' := by
  obtain ⟨An, cn, hnv⟩ := hN.slice
  obtain ⟨At, ct, htv⟩ := hT.slice
  rw [List.length_map] at hnv
  rw [nums_len] at htv
  subst hnv htv
  obtain ⟨N, hNN⟩ : ∃ N, N = ws.length := ⟨_, rfl⟩
  obtain ⟨T, hTT⟩ : ∃ T, T = W.heap.size := ⟨_, rfl⟩
  have h0 : Cst T w0 ((W.alloc (.cells #[.slice An ws.length cn, .slice At ws.length ct] 63)).alloc (.cells #[.slice none 0 0, .slice none 0 0] 63)) (.slice An ws.length cn) (.slice At ws.length ct) ws 0 (ws.map Wd.node) := by
    have hb : Below W.heap.size W ((W.alloc (.cells #[.slice An ws.length cn, .slice At ws.length ct] 63)).alloc (.cells #[.slice none 0 0, .slice none 0 0] 63)) := ((Below.refl _ _).alloc (Nat.le_refl _) _).alloc (by rw [size_alloc]; omega) _
    subst hTT
    refine ⟨⟨hN.below hb, hT.below hb, by simp, fun i x hx => ⟨x.A, x.n, x.c, by rw [List.getElem?_map, hx]; rfl⟩⟩, fun i x hx _ => by rw [List.getElem?_map, hx]; rfl, fun x hx => (hnm x hx).same (fun g hg => hb.block g hg.lt), ?_, ?_, below_step hB hb⟩
    · rw [old_alloc (by rw [size_alloc]; omega)]
      exact World.alloc_heap_new W _
    · have := World.alloc_heap_new (W.alloc (.cells #[.slice An ws.length cn, .slice At ws.length ct] 63)) (.cells #[.slice none 0 0, .slice none 0 0] 63)
      rw [size_alloc] at this
      exact this
  have H0 := Aside0.mk h0
  have HL := Aside0.mk hlen
  have HNN := Aside0.mk hNN
  have HBS := Aside0.mk hbase
  rw [← hNN] at H0 ⊢
  clear hN hT hnm hB h0 hlen hNN hbase
  go_enter Tryd.func67, Tryd.ntmps67
  go_wp2
  rw [← hTT]
  have HTT := Aside0.mk hTT
  clear hTT
  go_loopw [8] (fun iv wr => ∃ (k : Nat) (rows : List (List Value)), iv = .int .i64 (k : Int) ∧ k ≤ N ∧ Cst T w0 wr (.slice An N cn) (.slice At N ct) ws k rows)
    (fun iv _ => N - (intOf iv).toNat)
  case atStart => exact ⟨0, _, rfl, Nat.zero_le _, by first | exact H0.out | exact HTT.out ▸ H0.out⟩
  case round =>
    obtain ⟨k, rows, rfl, hk, hst⟩ := hrel
    have HST := Aside0.mk hst
    have y0 : wr.cell? ⟨T, 0, none⟩ = some (.slice An N cn) := by simp [World.cell?, hst.box]
    have y1 : wr.cell? ⟨T, 1, none⟩ = some (.slice At N ct) := by simp [World.cell?, hst.box]
    have z0 : wr.cell? ⟨T + 1, 0, none⟩ = some (.slice none 0 0) := by simp [World.cell?, hst.res]
    have z1 : wr.cell? ⟨T + 1, 1, none⟩ = some (.slice none 0 0) := by simp [World.cell?, hst.res]
    have zf0 : wr.frozen? ⟨T + 1, 0, none⟩ = false := Joins.unfrozen_of_block hst.res 0
    have zf1 : wr.frozen? ⟨T + 1, 1, none⟩ = false := Joins.unfrozen_of_block hst.res 1
    have hlt : T + 1 < wr.heap.size := (Array.getElem?_eq_some_iff.1 hst.res).1
    by_cases hkn : k < N
    · have c1 : decide ((k : Int) < (N : Int)) = true := decide_eq_true (Int.ofNat_lt.2 hkn)
      have c2 : decide (k < N) = true := decide_eq_true hkn
      obtain ⟨x, hx⟩ : ∃ x, ws[k]? = some x := ⟨_, List.getElem?_eq_getElem (by have := HNN.out; omega)⟩
      have hr := hst.old k x hx (Nat.le_refl _)
      obtain ⟨g, cap, hs, hgb, hgl, -, -⟩ := hst.tree.nod.form (by rw [hst.tree.len, ← HNN.out]; omega)
      simp only [Value.slice.injEq] at hs
      obtain ⟨rfl, -, rfl⟩ := hs
      obtain ⟨-, hc, hf⟩ := hst.tree.nod.cells k hr
      have x0 := hc 0 _ rfl
      have x1 := hc 1 _ rfl
      have x2 := hc 2 _ rfl
      have x3 := hc 3 _ rfl
      have x4 := hc 4 _ rfl
      have x5 := hc 5 _ rfl
      have x6 := hc 6 _ rfl
      have x7 := hc 7 _ rfl
      have x8 := hc 8 _ rfl
      have xf4 := hf 4
      rw [Nat.add_zero] at x0
      have hgT : T ≠ g := fun e => hst.tree.nod.ne hst.box (by decide) (congrArg some e)
      have hTg : g ≠ T := Ne.symm hgT
      have hgX : wr.heap.size ≠ g := by omega
      have hXg : g ≠ wr.heap.size := Ne.symm hgX
      have hTX : T ≠ wr.heap.size := by omega
      have hXT : wr.heap.size ≠ T := by omega
      obtain ⟨ys, hyl, hys⟩ := (hst.nm x (List.mem_of_getElem? hx))|>.reads
      have b1 : (0 : Int) ≤ (k : Int) ∧ (k : Int) < (N : Int) := by omega
      have HX := Aside0.mk hx
      have HYS := Aside0.mk (And.intro hyl hys)
      have d6 : wrap64 ((k : Int) + 1) = ((k + 1 : Nat) : Int) := by have := HL.out; have := HNN.out; unfold wrap64; omega
      have HKN := Aside0.mk hkn
      have HGL := Aside0.mk hgl
      clear hc hf hx hst hr hyl hys hkn hgb hgl
      go_wp2
      go_region_held_law (fun W' => W'.cell? ⟨T, 0, none⟩ = some (.slice (some ⟨g, 0, none⟩) N cn) ∧ W'.cell? ⟨wr.heap.size, 4, none⟩ = some (.slice x.A x.n x.c)) (go_keep) (first
        | (refine Kd.R_append_rows_step (Kd.raw 1) (w0 := wr) (W := (wr.alloc (.cells #[.int .u8 (x.k : Int), .int .i64 x.at_, .string x.t, .bool false, .slice x.A x.n x.c, .slice none 0 0, .slice none 0 0, .bool false, .int .u8 0] 78)).drew) wr.heap.size (by rfl) (.const (.slice none 0 0)) (.tmp 18) 74 9 (.string ⟨#[]⟩) 16 (by rfl) Tryd.underlying74 info9 rfl (by decide) (by decide) (.slice none 0 0) [] ys x.A x.n x.c (fun _ => True) (fun _ => False) (by rfl) (by rfl) ?aN ?aR (fun _ _ h => h) (fun _ h => h.elim) (fun _ _ => trivial) ?aB ?aS ?aL ?_; (case aN => exact Rw.nil 1 9 _ _); (case aR => exact HYS.out.2.imp_ (Below.drew ((Below.refl _ _).alloc (Nat.le_refl _) _)) (fun _ _ h => h)); (case aB => exact Below.drew ((Below.refl _ _).alloc (Nat.le_refl _) _)); (case aS => show wr.heap.size ≤ (wr.alloc _).heap.size; rw [size_alloc]; omega); (case aL => have := HYS.out.1; show (0 + x.n) * 16 ≤ 140737488355328; omega); intro v5 w5 hn hb5 hg hat; obtain ⟨A5, c5, rfl⟩ := Rw.slice hn; have HB5 := Aside0.mk hb5; have s0 : w5.cell? ⟨T, 0, none⟩ = some (.slice (some ⟨g, 0, none⟩) N cn) := (hb5.cell (World.block_lt_of_cell? wr _ y0)).trans y0; have s4 : w5.cell? ⟨wr.heap.size, 4, none⟩ = some (.slice x.A x.n x.c) := (hg.cell_far ⟨wr.heap.size, 4, none⟩ (by show wr.heap.size < (wr.alloc _).heap.size; rw [size_alloc]; omega) (by simp [Value.ownBlock])).trans (by simp); have s5 : w5.cell? ⟨g, k * 9 + 4, none⟩ = some (.slice x.A x.n x.c) := (hb5.cell (World.block_lt_of_cell? wr _ x4)).trans x4; have s6 : w5.frozen? ⟨g, k * 9 + 4, none⟩ = false := (World.frozen?_of_block (hb5.block g HGL.out)).trans xf4; clear hn hb5 hg hat))
      obtain ⟨rows', h5⟩ := (HST.out.below HB5.out).put HX.out A5 ys.length c5
      have H5 := Aside0.mk h5
      clear h5
      go_wp2
      go_roundw
      case rel => exact ⟨k + 1, rows', by rw [d6], HKN.out, H5.out⟩
      case measure => exact less (Nat.lt_succ_self k) HKN.out d6
    · have c1 : decide ((k : Int) < (N : Int)) = false := decide_eq_false (fun h => hkn (Int.ofNat_lt.1 h))
      have c2 : decide (k < N) = false := decide_eq_false hkn
      have p1 := Joins.block_setCell (i := 1) (Joins.block_setCell (i := 0) hst.res (.slice An N cn)) (.slice At N ct)
      have hT2 : w0.heap.size ≤ T + 1 := by have := HBS.out; have := HTT.out; omega
      have hb := (hst.bel.setCell (p := ⟨T + 1, 0, none⟩) hT2 (.slice An N cn)).setCell (p := ⟨T + 1, 1, none⟩) hT2 (.slice At N ct)
      have hh : ∀ q, q ≠ T + 1 → ((wr.setCell ⟨T + 1, 0, none⟩ (.slice An N cn)).setCell ⟨T + 1, 1, none⟩ (.slice At N ct)).heap[q]? = wr.heap[q]? := fun q hq => by rw [Below.heap_setCell _ _ _ _ hq, Below.heap_setCell _ _ _ _ hq]
      have ht : Tree w0.heap.size ((wr.setCell ⟨T + 1, 0, none⟩ (.slice An N cn)).setCell ⟨T + 1, 1, none⟩ (.slice At N ct)) (.slice An N cn) (.slice At N ct) ws rows :=
        ⟨hst.tree.nod.same (fun q hq => hh q (by rintro rfl; exact hst.tree.nod.ne hst.res (by decide) hq.symm)), hst.tree.top.same (fun q hq => hh q (by rintro rfl; exact hst.tree.top.ne hst.res (by decide) hq.symm)), hst.tree.len, hst.tree.row⟩
      have HT := Aside0.mk (And.intro ht hb)
      have P1 := Aside0.mk p1
      clear hkn hst p1 hh ht hb
      go_wp2
      have q0 : ((wr.setCell ⟨T + 1, 0, none⟩ (.slice An N cn)).setCell ⟨T + 1, 1, none⟩ (.slice At N ct)).cell? ⟨T + 1, 0, none⟩ = some (.slice An N cn) := by simp [World.cell?, P1.out]
      have q1 : ((wr.setCell ⟨T + 1, 0, none⟩ (.slice An N cn)).setCell ⟨T + 1, 1, none⟩ (.slice At N ct)).cell? ⟨T + 1, 1, none⟩ = some (.slice At N ct) := by simp [World.cell?, P1.out]
      refine bodyPost_ret (v := .agg #[.slice An N cn, .slice At N ct]) ?_ rfl ⟨rows, rfl, HT.out.1, HT.out.2⟩
      simp [results, Tryd.f67, go_sem, q0, q1]
end Go.Proofs.YtfplocpjdjjoaaaDoor.Refuse
namespace Go.Proofs.YtfplocpjdjjoaaaDoor.Refuse
open Go Go.RowKit Go.Proofs.YtfplocpjdjjoaaaDoor.Trail Go.Proofs.YtfplocpjdjjoaaaDoor.Ctxs Go.Proofs.YtfplocpjdjjoaaaDoorW.PrintWords
set_option linter.unusedVariables false
set_option linter.unusedSimpArgs false
theorem Rw.lower {sz e base base' : Nat} {W : World} {v : Value} {rows : List (List Value)} (h : Rw sz e W base v rows) (hb : base' ≤ base) : Rw sz e W base' v rows := Kd.R_lower h hb
theorem Tree.lower {base base' : Nat} {W : World} {nv tv : Value} {ws : List Wd} {rows : List (List Value)} (h : Tree base W nv tv ws rows) (hb : base' ≤ base) : Tree base' W nv tv ws rows := ⟨h.nod.lower hb, h.top.lower hb, h.len, h.row⟩
theorem copied_at {v : Array Value} (w0 W : World) (nv tv : Value) (ws : List Wd) (hv : v = #[nv, tv]) (hlen : ws.length ≤ 1000) (hN : Rw 9 78 W w0.heap.size nv (ws.map Wd.node)) (hT : Rw 1 3 W w0.heap.size tv (nums ws.length)) (hnm : ∀ x ∈ ws, Named W x) (hB : Below w0.heap.size w0 W) :
    Calls Tryd.prog 67 #[.agg v] W fun e W' => ∃ rows, e = .returned (.agg #[nv, tv]) ∧ Tree w0.heap.size W' nv tv ws rows ∧ Below w0.heap.size w0 W' := by
  subst hv
  exact copied_calls w0 W nv tv ws hlen hN hT hnm hB hB.size
theorem Pst.topped {bw B N : Nat} {w0 W : World} {wv ov nv : Value} {ws : List Wd} (h : Pst bw B w0 W wv ws N N N ov nv) (hN : N = ws.length) (u : Value) :
    Rw 9 78 (W.setCell ⟨B, 3, none⟩ u) w0.heap.size nv (ws.map Wd.node) ∧ Rw 1 3 (W.setCell ⟨B, 3, none⟩ u) w0.heap.size ov (nums ws.length) ∧ (∀ x ∈ ws, Named (W.setCell ⟨B, 3, none⟩ u) x) ∧ Below w0.heap.size w0 (W.setCell ⟨B, 3, none⟩ u) := by
  have hh : ∀ q, q ≠ B → (W.setCell ⟨B, 3, none⟩ u).heap[q]? = W.heap[q]? := fun q hq => Below.heap_setCell _ _ _ _ hq
  have hn := h.nod
  have ho := h.out
  rw [List.take_of_length_le (by omega)] at hn
  rw [hN] at ho
  refine ⟨hn.same (fun q hq => hh q ?_), ho.same (fun q hq => hh q ?_), fun x hx => (h.nm x hx).same (fun q hq => hh q (hq.off h.blk (.inl rfl))), h.bel.setCell (p := ⟨B, 3, none⟩) h.low _⟩
  · rintro rfl; exact hn.ne h.blk (by decide) hq.symm
  · rintro rfl; exact ho.ne h.blk (by decide) hq.symm
theorem heap_put2 {W : World} {R : Nat} (a b : Value) {q : Nat} (hq : q ≠ R) : ((W.setCell ⟨R, 0, none⟩ a).setCell ⟨R, 1, none⟩ b).heap[q]? = W.heap[q]? := by
  rw [Below.heap_setCell _ _ _ _ hq, Below.heap_setCell _ _ _ _ hq]
theorem Tree.res {base R : Nat} {W : World} {nv tv : Value} {ws : List Wd} {rows : List (List Value)} (h : Tree base W nv tv ws rows) (hR : R < base) (a b : Value) : Tree base ((W.setCell ⟨R, 0, none⟩ a).setCell ⟨R, 1, none⟩ b) nv tv ws rows :=
  ⟨h.nod.same (fun q hq => heap_put2 a b (by have := h.nod.low q hq; omega)), h.top.same (fun q hq => heap_put2 a b (by have := h.top.low q hq; omega)), h.len, h.row⟩
/-- Two cells of type 63. -/
def Two (W : World) (b : Nat) (v0 v1 : Value) : Prop := W.cell? ⟨b, 0, none⟩ = some v0 ∧ W.cell? ⟨b, 1, none⟩ = some v1 ∧ W.frozen? ⟨b, 0, none⟩ = false ∧ W.frozen? ⟨b, 1, none⟩ = false
theorem two_of {W : World} {b t : Nat} {v0 v1 : Value} (h : W.heap[b]? = some (.cells #[v0, v1] t (0, 0))) : Two W b v0 v1 :=
  ⟨by simp [World.cell?, h], by simp [World.cell?, h], Joins.unfrozen_of_block h 0, Joins.unfrozen_of_block h 1⟩
theorem two_put {W : World} {b t : Nat} {v0 v1 : Value} (h : W.heap[b]? = some (.cells #[v0, v1] t (0, 0))) (a c : Value) : ((W.setCell ⟨b, 0, none⟩ a).setCell ⟨b, 1, none⟩ c).heap[b]? = some (.cells #[a, c] t (0, 0)) :=
  Joins.block_setCell (i := 1) (Joins.block_setCell (i := 0) h a) c
set_option maxHeartbeats 8000000 in
set_option maxRecDepth 100000 in
theorem tree_calls (bw : Nat) (W : World) (wv : Value) (ws : List Wd) (hks : ∀ x ∈ ws, x.k = 0 ∨ x.k = 1) (hlen : ws.length ≤ 1000) (hW : Rw 5 139 W bw wv (ws.map Wd.row)) (hnm : ∀ x ∈ ws, Named W x) :
    Calls Tryd.prog 51 #[wv] W fun e W' => ∃ nv tv rows, e = .returned (.tuple #[.agg #[nv, tv], .int .i64 0, .int .i64 0]) ∧ Tree W.heap.size W' nv tv ws rows ∧ Below W.heap.size W W' := by
  obtain ⟨Aw, cw, hwv⟩ := hW.slice
  rw [List.length_map] at hwv
  subst hwv
  obtain ⟨B, hBB⟩ : ∃ B, B = W.heap.size + 1 := ⟨_, rfl⟩
  obtain ⟨N, hNN⟩ : ∃ N, N = ws.length := ⟨_, rfl⟩
  have hb0 : Below W.heap.size W ((W.alloc (.cells #[.slice none 0 0, .slice none 0 0] 63)).alloc (parserO (.slice Aw ws.length cw) 0 (.slice none 0 0) (.slice none 0 0))) := ((Below.refl _ _).alloc (Nat.le_refl _) _).alloc (by rw [size_alloc]; omega) _
  have h0 : Pst bw B (W.alloc (.cells #[.slice none 0 0, .slice none 0 0] 63)) ((W.alloc (.cells #[.slice none 0 0, .slice none 0 0] 63)).alloc (parserO (.slice Aw ws.length cw) 0 (.slice none 0 0) (.slice none 0 0))) (.slice Aw ws.length cw) ws 0 0 0 (.slice none 0 0) (.slice none 0 0) := by
    refine ⟨?_, hW.below hb0, Rw.nil _ _ _ _, Rw.nil _ _ _ _, fun x hx => (hnm x hx).same (fun g hg => hb0.block g hg.lt), (Below.refl _ _).alloc (Nat.le_refl _) _, by rw [size_alloc, hBB]; exact Nat.le_refl _⟩
    have := World.alloc_heap_new (W.alloc (.cells #[.slice none 0 0, .slice none 0 0] 63)) (parserO (.slice Aw ws.length cw) 0 (.slice none 0 0) (.slice none 0 0))
    rw [size_alloc] at this
    rw [hBB]
    exact this
  have H0 := Aside0.mk h0
  have HL := Aside0.mk hlen
  have HK := Aside0.mk hks
  have HBB := Aside0.mk hBB
  rw [← hNN] at H0 ⊢
  have HNN := Aside0.mk hNN
  clear hW hnm hb0 h0 hlen hks hBB hNN
  have c1 : decide ((N : Int) < (N : Int)) = false := decide_eq_false (by omega)
  have c2 : decide (N < N) = false := decide_eq_false (by omega)
  go_enter Tryd.func51, Tryd.ntmps51
  go_wp2_with (first
    | (go_at_call 66; rw [← HBB.out]; (with_reducible refine (list_calls bw B _ _ (.slice Aw N cw) ws HK.out HL.out H0.out).mono ?_); rintro e w1 ⟨ov, nv, rfl, h1⟩; rw [← HNN.out] at h1; obtain ⟨Ao, co, hov⟩ := h1.out.slice; obtain ⟨An, cn, hnv⟩ := h1.nod.slice; rw [nums_len] at hov; rw [List.length_map, List.length_take, ← HNN.out, Nat.min_self] at hnv; subst hov hnv; have ht1 := h1.topped HNN.out (.slice Ao N co); obtain ⟨y0, y1, y2, y3, f0, f1, f2, f3⟩ := pc_of h1.blk; have hl1 : B < w1.heap.size := h1.lt; have H1 := Aside0.mk h1; have HT1 := Aside0.mk ht1; clear h1 ht1)
    | (go_at_call 67; (with_reducible refine (copied_at (W.alloc (.cells #[.slice none 0 0, .slice none 0 0] 63)) _ (.slice An N cn) (.slice Ao N co) ws ?hv HL.out HT1.out.1 HT1.out.2.1 HT1.out.2.2.1 HT1.out.2.2.2).mono ?_); (case hv => rfl); rintro e w2 ⟨rows, rfl, ht2, hb2⟩; have hR := (hb2.block W.heap.size (by rw [size_alloc]; omega)).trans (World.alloc_heap_new W _); obtain ⟨z0, z1, zf0, zf1⟩ := two_of hR; have hl2 : W.heap.size < w2.heap.size := (Array.getElem?_eq_some_iff.1 hR).1; have HT2 := Aside0.mk ht2; have HB2 := Aside0.mk hb2; have HR := Aside0.mk hR; clear ht2 hb2 hR))
  have hr := two_put HR.out (.slice An N cn) (.slice Ao N co)
  obtain ⟨q0, q1, -, -⟩ := two_of hr
  have ht := HT2.out.res (R := W.heap.size) (by rw [size_alloc]; omega) (.slice An N cn) (.slice Ao N co)
  have hb := (((((Below.refl W.heap.size W).alloc (Nat.le_refl _) (.cells #[.slice none 0 0, .slice none 0 0] 63)).trans (HB2.out.mono (by rw [size_alloc]; omega))).setCell (p := ⟨W.heap.size, 0, none⟩) (Nat.le_refl _) (.slice An N cn)).setCell (p := ⟨W.heap.size, 1, none⟩) (Nat.le_refl _) (.slice Ao N co))
  refine bodyPost_ret (v := .tuple #[.agg #[.slice An N cn, .slice Ao N co], .int .i64 0, .int .i64 0]) ?_ rfl ⟨_, _, rows, rfl, ht.lower (by rw [size_alloc]; omega), hb⟩
  simp [results, Tryd.f51, go_sem, q0, q1]
/-- The words of a template with one hole. -/
def wsOf (l r : List Nat) (g c : Nat) : List Wd :=
  (if l = [] then [] else [⟨0, 0, bs l, none, 0, 0⟩]) ++ [⟨1, (l.length : Int), ⟨#[]⟩, some ⟨g, 0, none⟩, 1, c⟩] ++ (if r = [] then [] else [⟨0, ((l.length + 5 : Nat) : Int), bs r, none, 0, 0⟩])
theorem wsOf_words {W : World} {l r : List Nat} {rows : List (List Value)} (h : Words W l r rows) : ∃ g c, Nm W g ∧ rows = (wsOf l r g c).map Wd.row := by
  obtain ⟨g, c, hg, rfl⟩ := h
  refine ⟨g, c, hg, ?_⟩
  unfold wsOf row1 row2 row3
  split <;> split <;> rfl
theorem wsOf_mem {l r : List Nat} {g c : Nat} {x : Wd} (h : x ∈ wsOf l r g c) : (x.k = 0 ∧ x.A = none ∧ x.n = 0) ∨ (x.k = 1 ∧ x.A = some ⟨g, 0, none⟩ ∧ x.n = 1) := by
  unfold wsOf at h
  split at h <;> split at h <;> simp at h
  · rw [h]; exact .inr ⟨rfl, rfl, rfl⟩
  · rcases h with h | h
    · rw [h]; exact .inr ⟨rfl, rfl, rfl⟩
    · rw [h]; exact .inl ⟨rfl, rfl, rfl⟩
  · rcases h with h | h
    · rw [h]; exact .inl ⟨rfl, rfl, rfl⟩
    · rw [h]; exact .inr ⟨rfl, rfl, rfl⟩
  · rcases h with h | h | h
    · rw [h]; exact .inl ⟨rfl, rfl, rfl⟩
    · rw [h]; exact .inr ⟨rfl, rfl, rfl⟩
    · rw [h]; exact .inl ⟨rfl, rfl, rfl⟩
theorem wsOf_len (l r : List Nat) (g c : Nat) : (wsOf l r g c).length ≤ 3 := by
  unfold wsOf
  split <;> split <;> simp
theorem tree_at {l r : List Nat} {A : Option Addr} {n c : Nat} {rows : List (List Value)} (bw : Nat) (w1 : World) (h1 : Rw 5 139 w1 bw (.slice A n c) rows) (h2 : Words w1 l r rows) :
    Calls Tryd.prog 51 #[.slice A n c] w1 fun e W' => ∃ nv tv g cg rows2, e = .returned (.tuple #[.agg #[nv, tv], .int .i64 0, .int .i64 0]) ∧ Tree w1.heap.size W' nv tv (wsOf l r g cg) rows2 ∧ Below w1.heap.size w1 W' := by
  obtain ⟨g, cg, hg, hrows⟩ := wsOf_words h2
  refine (tree_calls bw w1 (.slice A n c) (wsOf l r g cg) (fun x hx => ?_) (by have := wsOf_len l r g cg; omega) (hrows ▸ h1) (fun x hx => ?_)).mono ?_
  · rcases wsOf_mem hx with h | h
    · exact .inl h.1
    · exact .inr h.1
  · rcases wsOf_mem hx with h | h
    · exact .inl h.2
    · exact .inr ⟨g, h.2.1, h.2.2, hg⟩
  · rintro e W' ⟨nv, tv, rows2, rfl, h, hb⟩
    exact ⟨nv, tv, g, cg, rows2, rfl, h, hb⟩
theorem allW_at {s : ByteArray} (l r : List Nat) (hs : s = bs (l ++ (hole ++ r))) (hl : Bare l) (hr : Bare r) (hlen : l.length + r.length ≤ 65000) (w : World) (hm : Mx w) :
    Calls Tryd.prog 50 #[.string s] w fun e W' => ∃ A n c rows, e = .returned (.tuple #[.slice A n c, .int .i64 0, .int .i64 0]) ∧ Rw 5 139 W' w.heap.size (.slice A n c) rows ∧ Words W' l r rows ∧ Below w.heap.size w W' := hs ▸ allW_calls l r hl hr hlen w hm
set_option maxHeartbeats 8000000 in
set_option maxRecDepth 100000 in
theorem parse_calls (s : ByteArray) (l r : List Nat) (hs : s = bs (l ++ (hole ++ r))) (hl : Bare l) (hr : Bare r) (hlen : l.length + r.length ≤ 65000) (w : World) (hm : Mx w) :
    Calls Tryd.prog 22 #[.string s] w fun e W' => ∃ nv tv g c rows, e = .returned (.tuple #[.agg #[nv, tv], .int .i64 0, .int .i64 0]) ∧ Tree w.heap.size W' nv tv (wsOf l r g c) rows ∧ Below w.heap.size w W' := by
  have HS := Aside0.mk hs
  have HLR := Aside0.mk (And.intro hl (And.intro hr hlen))
  have hb0 : Below w.heap.size w (w.alloc (.cells #[.slice none 0 0, .slice none 0 0] 63)) := (Below.refl _ _).alloc (Nat.le_refl _) _
  have HM := Aside0.mk (hm.below hb0)
  have HB0 := Aside0.mk hb0
  clear hs hl hr hlen hm hb0
  go_enter Tryd.func22, Tryd.ntmps22
  go_wp2_with (first
    | (go_at_call 50; (with_reducible refine (allW_at l r HS.out HLR.out.1 HLR.out.2.1 HLR.out.2.2 _ HM.out).mono ?_); rintro e w1 ⟨A, n, c, rows, rfl, h1, h2, h3⟩; have H1 := Aside0.mk h1; have H2 := Aside0.mk h2; have H3 := Aside0.mk h3; clear h1 h2 h3)
    | (go_at_call 51; (with_reducible refine (tree_at (w.alloc (.cells #[.slice none 0 0, .slice none 0 0] 63)).heap.size w1 H1.out H2.out).mono ?_); rintro e w2 ⟨nv, tv, g, cg, rows2, rfl, ht2, hb2⟩; obtain ⟨An, cn, hnv⟩ := ht2.nod.slice; obtain ⟨At, ct, htv⟩ := ht2.top.slice; rw [nums_len] at htv; subst hnv htv; have hlt1 : w.heap.size < w1.heap.size := (by have := H3.out.size; rw [size_alloc] at this; omega); have hR := (hb2.block w.heap.size hlt1).trans ((H3.out.block w.heap.size (by rw [size_alloc]; omega)).trans (World.alloc_heap_new w _)); obtain ⟨z0, z1, zf0, zf1⟩ := two_of hR; have hl2 : w.heap.size < w2.heap.size := (Array.getElem?_eq_some_iff.1 hR).1; have HT2 := Aside0.mk ht2; have HB2 := Aside0.mk hb2; have HR := Aside0.mk hR; have HLT := Aside0.mk hlt1; clear ht2 hb2 hR hlt1))
  have hr := two_put HR.out (.slice An rows2.length cn) (.slice At (wsOf l r g cg).length ct)
  obtain ⟨q0, q1, -, -⟩ := two_of hr
  have ht := HT2.out.res (R := w.heap.size) HLT.out (.slice An rows2.length cn) (.slice At (wsOf l r g cg).length ct)
  have hb := (((HB0.out.trans (H3.out.mono (by rw [size_alloc]; omega))).trans (HB2.out.mono (by have := HLT.out; omega))).setCell (p := ⟨w.heap.size, 0, none⟩) (Nat.le_refl _) (.slice An rows2.length cn)).setCell (p := ⟨w.heap.size, 1, none⟩) (Nat.le_refl _) (.slice At (wsOf l r g cg).length ct)
  refine bodyPost_ret (v := .tuple #[.agg #[.slice An rows2.length cn, .slice At (wsOf l r g cg).length ct], .int .i64 0, .int .i64 0]) ?_ rfl ⟨_, _, g, cg, rows2, rfl, ht.lower (by have := HLT.out; omega), hb⟩
  simp [results, Tryd.f22, go_sem, q0, q1]
end Go.Proofs.YtfplocpjdjjoaaaDoor.Refuse
