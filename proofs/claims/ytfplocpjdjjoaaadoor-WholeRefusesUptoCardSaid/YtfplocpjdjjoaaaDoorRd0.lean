/-
  The context behind a hole, as ctx.After answers it; a refused place.
  The walker through a tree: its state in memory, and a fault.
  A node, passed from a context.
  The nodes of a template with one hole, one by one.
  The fragment of a template with one hole: what it comes to.
  Conditions: as each theorem says.
-/
import Derived.Test.YtfplocpjdjjoaaaDoorHo
import Derived.Test.YtfplocpjdjjoaaaDoorGj
import Derived.Test.YtfplocpjdjjoaaaDoorRc0
import Derived.Test.YtfplocpjdjjoaaaDoorGl
import Derived.Test.YtfplocpjdjjoaaaDoorGx
import Derived.Deep.RegionHeldLaw
namespace Go.Proofs.YtfplocpjdjjoaaaDoor.Ctxs
open Go Go.RowKit Go.Proofs.YtfplocpjdjjoaaaDoor.Trail Go.Proofs.YtfplocpjdjjoaaaDoorW.PrintWords
set_option linter.unusedVariables false
set_option linter.unusedSimpArgs false
set_option maxHeartbeats 4000000 in
set_option maxRecDepth 100000 in
theorem after_calls (c : Cx) (hne : holeAt c ≠ 0) (w : World) (hG : Glob w) : Calls Tryd.prog 91 #[.agg (cxs c)] w (Ret (after c) w) := by
  have hu33 := Tryd.underlying33
  have hst := Aside0.mk (st0 c hG)
  have hz : 0 < w.heap.size := by obtain ⟨f, hf⟩ := hG; exact (Array.getElem?_eq_some_iff.1 hf).1
  have HZ := Aside0.mk hz
  obtain ⟨h, hh⟩ : ∃ h, h = holeAt c := ⟨_, rfl⟩
  have HH := Aside0.mk hh
  have f0 : ((h : Int) == 0) = false := by rw [hh, beq_eq_false_iff_ne]; omega
  have f1 : ((h : Int) != 0) = true := by rw [hh, bne_iff_ne]; omega
  have e0 : ¬ holeAt c = 0 := hne
  by_cases h4 : h = 4
  · have f4 : ((h : Int) == 4) = true := by rw [h4]; rfl
    have ea : after c = { c with pa := 2 } := by unfold after; rw [if_neg e0, if_pos (hh ▸ h4)]
    rw [ea]
    clear h4 hh hne e0 ea hG hz
    simp only [cxs] at hst ⊢
    go_enter Tryd.func91, Tryd.ntmps91
    go_wp2_with (go_at_call 20; (with_reducible refine (holeAt_at c ?hv h HH.out _).mono ?_); (case hv => rfl); rintro e w1 ⟨rfl, hb⟩; have HS1 := Aside0.mk (hst.out.step hb); clear hb; obtain ⟨⟨y0, y1, y2, y3, y4, y5, y6, y7, y8, y9, yf⟩, ⟨z0, z1, z2, z3, z4, z5, z6, z7, z8, z9, zf⟩, -, -, hlt1⟩ := (HS1.out).facts; simp only [cxs])
    (with_reducible refine ret_put (HS1.out.set (c' := { c with pa := 2 }) HZ.out 5 (.int .u8 2) rfl).after Tryd.results91 ?_ ?_ ?_) <;> rfl
  · have f4 : ((h : Int) == 4) = false := by rw [beq_eq_false_iff_ne]; omega
    have ea : after c = c := by unfold after; rw [if_neg e0, if_neg (fun q => h4 (hh.trans q))]
    rw [ea]
    clear h4 hh hne e0 ea hG hz
    simp only [cxs] at hst ⊢
    go_enter Tryd.func91, Tryd.ntmps91
    go_wp2_with (go_at_call 20; (with_reducible refine (holeAt_at c ?hv h HH.out _).mono ?_); (case hv => rfl); rintro e w1 ⟨rfl, hb⟩; have HS1 := Aside0.mk (hst.out.step hb); clear hb; obtain ⟨⟨y0, y1, y2, y3, y4, y5, y6, y7, y8, y9, yf⟩, ⟨z0, z1, z2, z3, z4, z5, z6, z7, z8, z9, zf⟩, -, -, hlt1⟩ := (HS1.out).facts; simp only [cxs])
    (with_reducible refine ret_put HS1.out.after Tryd.results91 ?_ ?_ ?_) <;> rfl
theorem after_at {v : Array Value} (c : Cx) (hv : v = cxs c) (hne : holeAt c ≠ 0) (w : World) (hG : Glob w) : Calls Tryd.prog 91 #[.agg v] w (Ret (after c) w) := hv ▸ after_calls c hne w hG
/-- What a place that takes a hole is. -/
theorem holed {c : Cx} (h : holeAt c ≠ 0) : c.st = 0 ∨ (c.st = 17 ∧ (c.el = 1 ∨ c.el = 2)) ∨ (c.st = 17 ∧ (c.su = 1 ∨ c.su = 2)) ∨ (c.st = 8 ∧ c.qu ≠ 0 ∧ (c.ak = 0 ∨ c.ak = 1)) ∨ (c.st = 8 ∧ c.qu ≠ 0 ∧ (c.ak = 2 ∨ c.ak = 3) ∧ (c.su = 1 ∨ c.su = 2)) := by
  have hq : quoted c = true → c.su = 1 ∨ c.su = 2 := fun q => by
    simp only [quoted, Bool.and_eq_true, Bool.or_eq_true, beq_iff_eq] at q
    exact q.1
  unfold holeAt at h
  by_cases h0 : c.st = 0
  · exact .inl h0
  rw [if_neg h0] at h
  by_cases h1 : c.st = 17 ∧ (c.el = 1 ∨ c.el = 2)
  · exact .inr (.inl h1)
  rw [if_neg h1] at h
  by_cases h2 : c.st = 17 ∧ c.el = 3 ∧ quoted c = true
  · exact .inr (.inr (.inl ⟨h2.1, hq h2.2.2⟩))
  rw [if_neg h2] at h
  by_cases h3 : c.st = 17 ∧ c.el = 4 ∧ quoted c = true
  · exact .inr (.inr (.inl ⟨h3.1, hq h3.2.2⟩))
  rw [if_neg h3] at h
  by_cases h4 : c.st ≠ 8 ∨ c.qu = 0
  · rw [if_pos h4] at h
    exact absurd rfl h
  rw [if_neg h4] at h
  have h8 : c.st = 8 := Decidable.byContradiction fun q => h4 (.inl q)
  have hqu : c.qu ≠ 0 := fun q => h4 (.inr q)
  by_cases h5 : c.ak = 0
  · exact .inr (.inr (.inr (.inl ⟨h8, hqu, .inl h5⟩)))
  rw [if_neg h5] at h
  by_cases h6 : c.ak = 2 ∧ quoted c = true
  · exact .inr (.inr (.inr (.inr ⟨h8, hqu, .inl h6.1, hq h6.2⟩)))
  rw [if_neg h6] at h
  by_cases h7 : c.ak = 3 ∧ quoted c = true
  · exact .inr (.inr (.inr (.inr ⟨h8, hqu, .inr h7.1, hq h7.2⟩)))
  rw [if_neg h7] at h
  by_cases h9 : c.ak ≠ 1
  · rw [if_pos h9] at h
    exact absurd rfl h
  exact .inr (.inr (.inr (.inl ⟨h8, hqu, .inr (Decidable.byContradiction h9)⟩)))
end Go.Proofs.YtfplocpjdjjoaaaDoor.Ctxs
namespace Go.Proofs.YtfplocpjdjjoaaaDoor.Refuse
open Go Go.RowKit Go.Proofs.YtfplocpjdjjoaaaDoor.Trail Go.Proofs.YtfplocpjdjjoaaaDoor.Ctxs Go.Proofs.YtfplocpjdjjoaaaDoorW.PrintWords
set_option linter.unusedVariables false
set_option linter.unusedSimpArgs false
/-- A node's cells, with how its hole escapes. -/
abbrev holeRow (k at_ : Int) (t : ByteArray) (A : Option Addr) (n c : Nat) (h : Int) : List Value := [.int .u8 k, .int .i64 at_, .string t, .bool false, .slice A n c, .slice none 0 0, .slice none 0 0, .bool false, .int .u8 h]
/-- The nodes of words. -/
def Nodes (base : Nat) (W : World) (nv : Value) (ws : List Wd) : Prop :=
  ∃ rows, Rw 9 78 W base nv rows ∧ rows.length = ws.length ∧ ∀ (i : Nat) (x : Wd), ws[i]? = some x → ∃ A n c h, rows[i]? = some (holeRow (x.k : Int) x.at_ x.t A n c h)
theorem Tree.nodes {base : Nat} {W : World} {nv tv : Value} {ws : List Wd} {rows : List (List Value)} (h : Tree base W nv tv ws rows) : Nodes base W nv ws :=
  ⟨rows, h.nod, h.len, fun i x hx => by obtain ⟨A, n, c, e⟩ := h.row i x hx; exact ⟨A, n, c, 0, e⟩⟩
/-- A walker at work. -/
structure Ist (K : Nat) (w0 W : World) (nv tv : Value) (ws : List Wd) (a e : Int) : Prop where
  blk : W.heap[K]? = some (.cells #[nv, tv, .int .i64 a, .int .i64 e] 107 (0, 0))
  nod : Nodes w0.heap.size W nv ws
  top : Rw 1 3 W w0.heap.size tv (nums ws.length)
  gl : Glob w0
  bel : Below w0.heap.size w0 W
  low : w0.heap.size ≤ K
section
variable {base K : Nat} {w0 W V : World} {nv tv : Value} {ws : List Wd} {a e : Int}
theorem Nodes.same (h : Nodes base W nv ws) (hk : ∀ q, nv.ownBlock = some q → V.heap[q]? = W.heap[q]?) : Nodes base V nv ws := by
  obtain ⟨rows, h1, h2, h3⟩ := h
  exact ⟨rows, h1.same hk, h2, h3⟩
theorem Nodes.ne (h : Nodes base W nv ws) {g t : Nat} {cells : Array Value} (hb : W.heap[g]? = some (.cells cells t (0, 0))) (ht : 78 ≠ t) : ¬ nv.ownBlock = some g := by
  obtain ⟨rows, h1, -, -⟩ := h
  exact fun q => h1.ne hb ht q.symm
theorem Nodes.lt (h : Nodes base W nv ws) : ∀ q, nv.ownBlock = some q → q < W.heap.size := by
  obtain ⟨rows, h1, -, -⟩ := h
  exact h1.lt
theorem Nodes.slice (h : Nodes base W nv ws) : ∃ A c, nv = .slice A ws.length c := by
  obtain ⟨rows, h1, h2, -⟩ := h
  rw [← h2]
  exact h1.slice
theorem Ist.lt (h : Ist K w0 W nv tv ws a e) : K < W.heap.size := (Array.getElem?_eq_some_iff.1 h.blk).1
theorem Ist.glob (h : Ist K w0 W nv tv ws a e) : Glob W := glob_below h.gl h.bel
theorem Ist.below (h : Ist K w0 W nv tv ws a e) (hb : Below W.heap.size W V) : Ist K w0 V nv tv ws a e :=
  ⟨(hb.block K h.lt).trans h.blk, h.nod.same (fun q hq => hb.block q (h.nod.lt q hq)), h.top.below hb, h.gl, below_step h.bel hb, h.low⟩
/-- Another block, of a context, was written. -/
theorem Ist.far (h : Ist K w0 W nv tv ws a e) {g : Nat} {cells : Array Value} (hg : W.heap[g]? = some (.cells cells 33 (0, 0))) (hs : ∀ q, q ≠ g → V.heap[q]? = W.heap[q]?) (hb : Below w0.heap.size w0 V) : Ist K w0 V nv tv ws a e := by
  refine ⟨(hs K ?_).trans h.blk, h.nod.same (fun q hq => hs q ?_), h.top.same (fun q hq => hs q ?_), h.gl, hb, h.low⟩
  · rintro rfl
    rw [h.blk] at hg
    injection hg with hg
    injection hg with _ hg
    exact absurd hg (by decide)
  · rintro rfl; exact h.nod.ne hg (by decide) hq
  · rintro rfl; exact h.top.ne hg (by decide) hq.symm
/-- A fault is written down. -/
theorem Ist.fault (h : Ist K w0 W nv tv ws a e) (a' e' : Int) : Ist K w0 ((W.setCell ⟨K, 2, none⟩ (.int .i64 a')).setCell ⟨K, 3, none⟩ (.int .i64 e')) nv tv ws a' e' := by
  have hh : ∀ q, q ≠ K → ((W.setCell ⟨K, 2, none⟩ (.int .i64 a')).setCell ⟨K, 3, none⟩ (.int .i64 e')).heap[q]? = W.heap[q]? := fun q hq => by rw [Below.heap_setCell _ _ _ _ hq, Below.heap_setCell _ _ _ _ hq]
  refine ⟨Joins.block_setCell (i := 3) (Joins.block_setCell (i := 2) h.blk _) _, h.nod.same (fun q hq => hh q ?_), h.top.same (fun q hq => hh q ?_), h.gl, (h.bel.setCell (p := ⟨K, 2, none⟩) h.low _).setCell (p := ⟨K, 3, none⟩) h.low _, h.low⟩
  · rintro rfl; exact h.nod.ne h.blk (by decide) hq
  · rintro rfl; exact h.top.ne h.blk (by decide) hq.symm
/-- A node's hole is written down. -/
theorem Ist.mark {g n cap : Nat} (h : Ist K w0 W (.slice (some ⟨g, 0, none⟩) n cap) tv ws a e) {k : Nat} {x : Wd} (hx : ws[k]? = some x) (m : Int) : Ist K w0 (W.setCell ⟨g, k * 9 + 8, none⟩ (.int .u8 m)) (.slice (some ⟨g, 0, none⟩) n cap) tv ws a e := by
  have hh : ∀ q, q ≠ g → (W.setCell ⟨g, k * 9 + 8, none⟩ (.int .u8 m)).heap[q]? = W.heap[q]? := fun q hq => Below.heap_setCell _ _ _ _ hq
  have hgK : K ≠ g := by
    rintro rfl
    exact h.nod.ne h.blk (by decide) rfl
  obtain ⟨rows, h1, h2, h3⟩ := h.nod
  obtain ⟨A, c1, c2, c3, hr⟩ := h3 k x hx
  have hk : k < rows.length := (List.getElem?_eq_some_iff.1 hr).1
  refine ⟨(hh K hgK).trans h.blk, ⟨_, h1.put k 8 hr (by decide) (.int .u8 m) rfl, by rw [List.length_set]; exact h2, fun i y hy => ?_⟩, h.top.same (fun q hq => hh q ?_), h.gl, h.bel.setCell (p := ⟨g, k * 9 + 8, none⟩) (h1.low g rfl) _, h.low⟩
  · by_cases q : i = k
    · subst q
      rw [hx] at hy
      injection hy with hy
      subst hy
      exact ⟨A, c1, c2, m, by rw [List.getElem?_set_self hk]; rfl⟩
    · rw [List.getElem?_set_ne (Ne.symm q)]
      exact h3 i y hy
  · rintro rfl
    exact h.top.apart h1 (by decide) q hq rfl
end
/-- A world in which a context was laid into a block. -/
theorem heap_put10 {V : World} {g q : Nat} (hq : q ≠ g) (v0 v1 v2 v3 v4 v5 v6 v7 v8 v9 : Value) :
    ((((((((((V.setCell ⟨g, 0, none⟩ v0).setCell ⟨g, 1, none⟩ v1).setCell ⟨g, 2, none⟩ v2).setCell ⟨g, 3, none⟩ v3).setCell ⟨g, 4, none⟩ v4).setCell ⟨g, 5, none⟩ v5).setCell ⟨g, 6, none⟩ v6).setCell ⟨g, 7, none⟩ v7).setCell ⟨g, 8, none⟩ v8).setCell ⟨g, 9, none⟩ v9).heap[q]? = V.heap[q]? := by
  have e : ∀ (W : World) (p : Addr) (v : Value), p.block = g → (W.setCell p v).heap[q]? = W.heap[q]? := fun W p v hp => setCell_block W p v _ (by rw [hp]; exact hq)
  rw [e _ _ _ rfl, e _ _ _ rfl, e _ _ _ rfl, e _ _ _ rfl, e _ _ _ rfl, e _ _ _ rfl, e _ _ _ rfl, e _ _ _ rfl, e _ _ _ rfl, e _ _ _ rfl]
/-- A context answered, with what holds behind its being laid into its block. -/
theorem ret_to {fn : Func} {a : Act} {V : World} {g : Nat} {p : Tmp} {c : Cx} {R : Ending → World → Prop} {cs : Array Value} {v0 v1 v2 v3 v4 v5 v6 v7 v8 v9 : Value} (hk : V.heap[g]? = some (.cells cs 33 (0, 0))) (hs : cs.size = 10) (h : fn.results = #[.cell p 33]) (hd : a.defers = []) (hp : a.tmps.getD p undef = .pointer (some ⟨g, 0, none⟩)) (hc : #[v0, v1, v2, v3, v4, v5, v6, v7, v8, v9] = cxs c)
    (hR : ∀ V' : World, V'.heap[g]? = some (.cells (cxs c) 33 (0, 0)) → (∀ q, q ≠ g → V'.heap[q]? = V.heap[q]?) → V.heap.size ≤ V'.heap.size → (∀ (w : World) (n : Nat), Below n w V → n ≤ g → Below n w V') → R (.returned (.agg (cxs c))) V') :
    bodyPost Tryd.prog fn R .ret a ((((((((((V.setCell ⟨g, 0, none⟩ v0).setCell ⟨g, 1, none⟩ v1).setCell ⟨g, 2, none⟩ v2).setCell ⟨g, 3, none⟩ v3).setCell ⟨g, 4, none⟩ v4).setCell ⟨g, 5, none⟩ v5).setCell ⟨g, 6, none⟩ v6).setCell ⟨g, 7, none⟩ v7).setCell ⟨g, 8, none⟩ v8).setCell ⟨g, 9, none⟩ v9) := by
  have h10 := put10 hs hk v0 v1 v2 v3 v4 v5 v6 v7 v8 v9
  refine ret_ctx g h hd hp h10 rfl ?_
  rw [hc] at h10 ⊢
  refine hR _ h10 (fun q hq => heap_put10 hq _ _ _ _ _ _ _ _ _ _) (by simp only [setCell_size]; exact Nat.le_refl _) (fun w n hb hn => ?_)
  exact (((((((((hb.setCell (p := ⟨g, 0, none⟩) hn v0).setCell (p := ⟨g, 1, none⟩) hn v1).setCell (p := ⟨g, 2, none⟩) hn v2).setCell (p := ⟨g, 3, none⟩) hn v3).setCell (p := ⟨g, 4, none⟩) hn v4).setCell (p := ⟨g, 5, none⟩) hn v5).setCell (p := ⟨g, 6, none⟩) hn v6).setCell (p := ⟨g, 7, none⟩) hn v7).setCell (p := ⟨g, 8, none⟩) hn v8).setCell (p := ⟨g, 9, none⟩) hn v9
set_option maxHeartbeats 4000000 in
set_option maxRecDepth 100000 in
theorem fail_calls {K : Nat} {w0 W : World} {nv tv : Value} {ws : List Wd} {a0 e0 : Int} (h : Ist K w0 W nv tv ws a0 e0) (a e : Int) :
    Calls Tryd.prog 90 #[.pointer (some ⟨K, 0, none⟩), .int .i64 a, .int .i64 e] W fun e' W' => e' = .returned (.agg (cxs bad)) ∧ Ist K w0 W' nv tv ws a e ∧ Kept W W' (fun q => q = K) := by
  obtain ⟨y0, y1, y2, y3, f0, f1, f2, f3⟩ := pc_of h.blk
  have hlt : K < W.heap.size := h.lt
  have hne : K ≠ W.heap.size := by omega
  have H := Aside0.mk h
  clear h
  go_enter Tryd.func90, Tryd.ntmps90
  go_wp2
  refine ret_ctx W.heap.size Tryd.results90 rfl rfl (alloc_at (by simp only [setCell_size])) rfl ⟨rfl, (H.out.fault a e).below ((Below.refl _ _).alloc (Nat.le_refl _) _), ?_⟩
  exact (((Kept.refl W (fun q => q = K)).setCell (p := ⟨K, 2, none⟩) (.inl rfl) _).setCell (p := ⟨K, 3, none⟩) (.inl rfl) _).alloc _
end Go.Proofs.YtfplocpjdjjoaaaDoor.Refuse
namespace Go.Proofs.YtfplocpjdjjoaaaDoor.Refuse
open Go Go.RowKit Go.Proofs.YtfplocpjdjjoaaaDoor.Trail Go.Proofs.YtfplocpjdjjoaaaDoor.Ctxs Go.Proofs.YtfplocpjdjjoaaaDoorW.PrintWords
set_option linter.unusedVariables false
set_option linter.unusedSimpArgs false
/-- What the walk reads of a node. -/
theorem Nodes.read {base : Nat} {W : World} {nv : Value} {ws : List Wd} (h : Nodes base W nv ws) {k : Nat} {x : Wd} (hx : ws[k]? = some x) :
    ∃ g cap A n c m, nv = .slice (some ⟨g, 0, none⟩) ws.length cap ∧ k < ws.length ∧ g < W.heap.size ∧ (∀ j u, (holeRow (x.k : Int) x.at_ x.t A n c m)[j]? = some u → W.cell? ⟨g, k * 9 + j, none⟩ = some u) ∧ ∀ j, W.frozen? ⟨g, k * 9 + j, none⟩ = false := by
  obtain ⟨rows, h1, h2, h3⟩ := h
  have hk : k < ws.length := (List.getElem?_eq_some_iff.1 hx).1
  obtain ⟨A, n, c, m, hr⟩ := h3 k x hx
  obtain ⟨g, cap, hs, -, hgl, -, -⟩ := h1.form (by omega)
  subst hs
  obtain ⟨-, hc, hf⟩ := h1.cells k hr
  exact ⟨g, cap, A, n, c, m, by rw [h2], hk, hgl, hc, hf⟩
theorem box_at {W V : World} {O1 O2 O3 : Obj} (hb : Below (((W.alloc O1).alloc O2).alloc O3).heap.size (((W.alloc O1).alloc O2).alloc O3) V) : V.heap[W.heap.size + 1 + 1]? = some O3 :=
  (hb.block _ (by simp only [size_alloc]; omega)).trans (by have := World.alloc_heap_new ((W.alloc O1).alloc O2) O3; simp only [size_alloc] at this; exact this)
theorem kept_end {W w1 w2 V : World} {S : Nat → Prop} (hb : Below W.heap.size W w1) (hk : Kept w1 w2 S) (hs : ∀ q, q ≠ W.heap.size + 1 → V.heap[q]? = w2.heap[q]?) (hz : w2.heap.size ≤ V.heap.size) : Kept W V S :=
  ⟨Nat.le_trans hb.size (Nat.le_trans hk.1 hz), fun i hi hn => (hs i (by omega)).trans ((hk.2 i (Nat.lt_of_lt_of_le hi hb.size) hn).trans (hb.block i hi))⟩
set_option maxHeartbeats 8000000 in
set_option maxRecDepth 100000 in
theorem node_hole_no {K : Nat} {w0 W : World} {nv tv : Value} {ws : List Wd} {a0 e0 : Int} (h : Ist K w0 W nv tv ws a0 e0) (k : Nat) (x : Wd) (hx : ws[k]? = some x) (hk : x.k = 1) (c : Cx) (hc : holeAt c = 0) :
    Calls Tryd.prog 63 #[.pointer (some ⟨K, 0, none⟩), .int .i64 (k : Int), .agg (cxs c)] W fun e' W' => e' = .returned (.agg (cxs bad)) ∧ Ist K w0 W' nv tv ws x.at_ 6 ∧ Kept W W' (fun q => q = K) := by
  obtain ⟨g, cap, A, n, c1, m, hnv, hkl, hgl, hcs, hf⟩ := h.nod.read hx
  obtain ⟨N, hN⟩ : ∃ N, N = ws.length := ⟨_, rfl⟩
  rw [← hN] at hnv hkl
  subst hnv
  rw [hk] at hcs
  obtain ⟨y0, y1, y2, y3, f0, f1, f2, f3⟩ := pc_of h.blk
  have hlt : K < W.heap.size := h.lt
  have x0 := hcs 0 _ rfl
  have x1 := hcs 1 _ rfl
  have x2 := hcs 2 _ rfl
  have x3 := hcs 3 _ rfl
  have x4 := hcs 4 _ rfl
  have x5 := hcs 5 _ rfl
  have x6 := hcs 6 _ rfl
  have x7 := hcs 7 _ rfl
  have x8 := hcs 8 _ rfl
  rw [Nat.add_zero] at x0
  have b1 : (0 : Int) ≤ (k : Int) ∧ (k : Int) < (N : Int) := by omega
  have hst := Aside0.mk (st0 c h.glob)
  have H := Aside0.mk h
  have HC := Aside0.mk hc.symm
  have hu33 := Tryd.underlying33
  clear h hcs hf hx hk hN
  simp only [cxs] at hst ⊢
  go_enter Tryd.func63, Tryd.ntmps63
  go_wp2_with (first
    | (go_at_call 20; (with_reducible refine (holeAt_at c ?hv 0 HC.out _).mono ?_); (case hv => rfl); rintro e w1 ⟨rfl, hb⟩; have hbox := box_at hb; have HS1 := Aside0.mk ((hst.out.alloc _).step hb); have b11 : w1.cell? ⟨W.heap.size + 1 + 1, 1, none⟩ = some (.int .i64 x.at_) := (by simp [World.cell?, hbox]); have hl1 : W.heap.size + 1 + 1 < w1.heap.size := (Array.getElem?_eq_some_iff.1 hbox).1; clear hb hbox)
    | (go_at_call 90; (with_reducible refine (fail_calls (H.out.below HS1.out.bw) x.at_ 6).mono ?_); rintro e w2 ⟨rfl, hi2, hk2⟩; have hans := (hk2.2 (W.heap.size + 1) HS1.out.lt (by omega)).trans HS1.out.ans; obtain ⟨z0, z1, z2, z3, z4, z5, z6, z7, z8, z9, zf⟩ := zero_of hans; have hl2 : W.heap.size + 1 < w2.heap.size := (Array.getElem?_eq_some_iff.1 hans).1; have HI2 := Aside0.mk hi2; have HK2 := Aside0.mk hk2; have HANS := Aside0.mk hans; clear hi2 hk2 hans; simp only [cxs, bad]))
  refine ret_to (c := bad) HANS.out rfl Tryd.results63 rfl rfl rfl (fun V h1 h2 h3 h4 => ⟨rfl, HI2.out.far HANS.out h2 (h4 _ _ HI2.out.bel (by have := H.out.bel.size; omega)), kept_end HS1.out.bw HK2.out h2 h3⟩)
set_option maxHeartbeats 8000000 in
set_option maxRecDepth 100000 in
theorem node_hole_ok {K : Nat} {w0 W : World} {nv tv : Value} {ws : List Wd} {a0 e0 : Int} (h : Ist K w0 W nv tv ws a0 e0) (k : Nat) (x : Wd) (hx : ws[k]? = some x) (hk : x.k = 1) (c : Cx) (hc : holeAt c ≠ 0) :
    Calls Tryd.prog 63 #[.pointer (some ⟨K, 0, none⟩), .int .i64 (k : Int), .agg (cxs c)] W fun e' W' => e' = .returned (.agg (cxs (after c))) ∧ Ist K w0 W' nv tv ws a0 e0 ∧ Kept W W' (fun q => some q = nv.ownBlock) := by
  obtain ⟨g, cap, A, n, c1, m, hnv, hkl, hgl, hcs, hf⟩ := h.nod.read hx
  obtain ⟨N, hN⟩ : ∃ N, N = ws.length := ⟨_, rfl⟩
  rw [← hN] at hnv hkl
  subst hnv
  rw [hk] at hcs
  obtain ⟨y0, y1, y2, y3, f0, f1, f2, f3⟩ := pc_of h.blk
  have hlt : K < W.heap.size := h.lt
  have x0 := hcs 0 _ rfl
  have x1 := hcs 1 _ rfl
  have x2 := hcs 2 _ rfl
  have x3 := hcs 3 _ rfl
  have x4 := hcs 4 _ rfl
  have x5 := hcs 5 _ rfl
  have x6 := hcs 6 _ rfl
  have x7 := hcs 7 _ rfl
  have x8 := hcs 8 _ rfl
  rw [Nat.add_zero] at x0
  have b1 : (0 : Int) ≤ (k : Int) ∧ (k : Int) < (N : Int) := by omega
  have f8 := hf 8
  obtain ⟨hh, hhe⟩ : ∃ hh, hh = holeAt c := ⟨_, rfl⟩
  have g0 : ((hh : Int) == 0) = false := by rw [hhe, beq_eq_false_iff_ne]; omega
  have hst := Aside0.mk (st0 c h.glob)
  have H := Aside0.mk h
  have HX := Aside0.mk hx
  have HC := Aside0.mk hc
  have HH := Aside0.mk hhe
  have HGL := Aside0.mk hgl
  have hu33 := Tryd.underlying33
  obtain ⟨d, hd⟩ : ∃ d, d = after c := ⟨_, rfl⟩
  rw [← hd]
  have HD := Aside0.mk hd
  clear h hcs hf hx hk hN hc hhe hd
  simp only [cxs] at hst ⊢
  go_enter Tryd.func63, Tryd.ntmps63
  go_wp2_with (first
    | (go_at_call 20; (with_reducible refine (holeAt_at c ?hv hh HH.out _).mono ?_); (case hv => rfl); rintro e w1 ⟨rfl, hb⟩; have HS1 := Aside0.mk ((hst.out.alloc _).step hb); have hi1 := H.out.below HS1.out.bw; have v8 := (HS1.out.bw.cell (p := ⟨g, k * 9 + 8, none⟩) HGL.out).trans x8; have vf8 := (World.frozen?_of_block (HS1.out.bw.block g HGL.out)).trans f8; obtain ⟨v0, v1, v2, v3, -, -, -, -⟩ := pc_of hi1.blk; obtain ⟨⟨u0, u1, u2, u3, u4, u5, u6, u7, u8, u9, uf⟩, -, -, -, hl1⟩ := (HS1.out).facts; have hlK : K < w1.heap.size := hi1.lt; have hlg : g < w1.heap.size := Nat.lt_of_lt_of_le HGL.out HS1.out.bw.size; have HI1 := Aside0.mk (hi1.mark HX.out (hh : Int)); have n1 : g ≠ W.heap.size := (by have := HGL.out; omega); have n2 : W.heap.size ≠ g := n1.symm; clear hb hi1)
    | (go_at_call 91; (with_reducible refine (after_at c ?hv HC.out _ HI1.out.glob).mono ?_); (case hv => rfl); rintro e w2 ⟨rfl, hb2⟩; rw [← HD.out]; have hi2 := HI1.out.below hb2; have hans := (hb2.block (W.heap.size + 1) (by rw [setCell_size]; exact HS1.out.lt)).trans ((Below.heap_setCell _ _ _ _ (by have := HGL.out; show W.heap.size + 1 ≠ g; omega)).trans HS1.out.ans); obtain ⟨z0, z1, z2, z3, z4, z5, z6, z7, z8, z9, zf⟩ := zero_of hans; have hl2 : W.heap.size + 1 < w2.heap.size := (Array.getElem?_eq_some_iff.1 hans).1; have HI2 := Aside0.mk hi2; have HK2 := Aside0.mk (((Kept.refl w1 (fun q => some q = (Value.slice (some ⟨g, 0, none⟩) N cap).ownBlock)).setCell (p := ⟨g, k * 9 + 8, none⟩) (.inl rfl) (.int .u8 (hh : Int))).below hb2); have HANS := Aside0.mk hans; clear hi2 hans hb2; simp only [cxs]))
  refine ret_to (c := d) HANS.out rfl Tryd.results63 rfl rfl rfl (fun V h1 h2 h3 h4 => ⟨rfl, HI2.out.far HANS.out h2 (h4 _ _ HI2.out.bel (by have := H.out.bel.size; omega)), kept_end HS1.out.bw HK2.out h2 h3⟩)
theorem ret_put1 {fn : Func} {a : Act} {w V : World} {g : Nat} {p : Tmp} {c : Cx} {v0 v1 v2 v3 v4 v5 v6 v7 v8 v9 : Value} {O : Obj} (H : After w V g) (h : fn.results = #[.cell p 33]) (hd : a.defers = []) (hp : a.tmps.getD p undef = .pointer (some ⟨g, 0, none⟩)) (hc : #[v0, v1, v2, v3, v4, v5, v6, v7, v8, v9] = cxs c) :
    bodyPost Tryd.prog fn (Ret c w) .ret a (((((((((((V.setCell ⟨g, 0, none⟩ v0).setCell ⟨g, 1, none⟩ v1).setCell ⟨g, 2, none⟩ v2).setCell ⟨g, 3, none⟩ v3).setCell ⟨g, 4, none⟩ v4).setCell ⟨g, 5, none⟩ v5).setCell ⟨g, 6, none⟩ v6).setCell ⟨g, 7, none⟩ v7).setCell ⟨g, 8, none⟩ v8).setCell ⟨g, 9, none⟩ v9).alloc O) := by
  obtain ⟨⟨cs, hs, hk⟩, hw, le⟩ := H
  have hq := put10 hs hk v0 v1 v2 v3 v4 v5 v6 v7 v8 v9
  have hb := below10 hw le v0 v1 v2 v3 v4 v5 v6 v7 v8 v9
  exact ret_ctx g h hd hp ((alloc_old (Array.getElem?_eq_some_iff.1 hq).1).trans hq) rfl (ret_ctx' hc (hb.alloc hb.size _))
theorem bytes_to {v : Array Value} (c : Cx) (hv : v = cxs c) (A : Option Addr) (cp n : Nat) (l : List Nat) (hnl : n = l.length) (hi : Inv c) (hl : Low c.nm) (hs : Small l) (hlen : l.length ≤ 140737488355328) (d : Cx) (j : Int) (hd : bytesAt c l 0 = (d, j)) (w : World) (hC : Kd.C (Kd.int .u8) w A l.length (l.map fun n : Nat => (n : Int))) (hG : Glob w) : Calls Tryd.prog 8 #[.agg v, .slice A n cp] w fun e w' => e = .returned (.tuple #[.agg (cxs d), .int .i64 j]) ∧ Below w.heap.size w w' := by
  have := bytes_at c hv A cp n l hnl hi hl hs hlen w hC hG
  rw [hd] at this
  exact this
set_option maxHeartbeats 8000000 in
set_option maxRecDepth 100000 in
theorem node_lit_ok {K : Nat} {w0 W : World} {nv tv : Value} {ws : List Wd} {a0 e0 : Int} (h : Ist K w0 W nv tv ws a0 e0) (k : Nat) (x : Wd) (hx : ws[k]? = some x) (hk : x.k = 0) (l : List Nat) (ht : x.t = bs l) (hsm : Small l) (hlen : l.length ≤ 70000) (c : Cx) (hi : Inv c) (hl : Low c.nm) (d : Cx) (hdj : bytesAt c l 0 = (d, -1)) :
    Calls Tryd.prog 63 #[.pointer (some ⟨K, 0, none⟩), .int .i64 (k : Int), .agg (cxs c)] W (Ret d W) := by
  obtain ⟨g, cap, A, n, c1, m, hnv, hkl, hgl, hcs, hf⟩ := h.nod.read hx
  obtain ⟨N, hN⟩ : ∃ N, N = ws.length := ⟨_, rfl⟩
  rw [← hN] at hnv hkl
  subst hnv
  rw [hk] at hcs
  obtain ⟨y0, y1, y2, y3, f0, f1, f2, f3⟩ := pc_of h.blk
  have hlt : K < W.heap.size := h.lt
  have x0 := hcs 0 _ rfl
  have x1 := hcs 1 _ rfl
  have x2 := hcs 2 _ rfl
  have x3 := hcs 3 _ rfl
  have x4 := hcs 4 _ rfl
  have x5 := hcs 5 _ rfl
  have x6 := hcs 6 _ rfl
  have x7 := hcs 7 _ rfl
  have x8 := hcs 8 _ rfl
  rw [Nat.add_zero] at x0
  have b1 : (0 : Int) ≤ (k : Int) ∧ (k : Int) < (N : Int) := by omega
  obtain ⟨L, hL⟩ : ∃ L, L = l.length := ⟨_, rfl⟩
  obtain ⟨W3, hW3⟩ : ∃ W3, W3 = ((W.alloc (.cells (cxs c) 33)).alloc (.cells zeros 33)).alloc (.cells #[.int .u8 0, .int .i64 x.at_, .string x.t, .bool false, .slice A n c1, .slice none 0 0, .slice none 0 0, .bool false, .int .u8 m] 78) := ⟨_, rfl⟩
  obtain ⟨W4, cp, hcv, hb4, hC4⟩ := conv_bytes W3 l hsm (by omega)
  have hst : St W W4 c := (hW3 ▸ (st0 c h.glob).alloc _ : St W W3 c).step hb4
  have hbox4 : W4.heap[W.heap.size + 1 + 1]? = some (.cells #[.int .u8 0, .int .i64 x.at_, .string x.t, .bool false, .slice A n c1, .slice none 0 0, .slice none 0 0, .bool false, .int .u8 m] 78 (0, 0)) := box_at (hW3 ▸ hb4)
  rw [ht] at hW3 hbox4 x2
  have hW3s : W3.heap.size = W.heap.size + 1 + 1 + 1 := by rw [hW3]; simp only [size_alloc]
  rw [hW3s] at hcv hC4
  rw [hW3, ← hL] at hcv
  have HS4 := Aside0.mk hst
  have HC4 := Aside0.mk hC4
  have HBOX4 := Aside0.mk hbox4
  have HL := Aside0.mk (And.intro hL hlen)
  have HI := Aside0.mk (And.intro hi (And.intro hl hsm))
  have H := Aside0.mk h
  have HG4 := Aside0.mk hst.gl
  have HDJ := Aside0.mk hdj
  have hu33 := Tryd.underlying33
  clear h hcs hf hx hk hN hb4 hC4 hst hbox4 hL hlen hi hl hsm hW3s ht hdj
  rw [show (Value.agg (cxs c)) = Value.agg (cxs c) from rfl]
  simp only [cxs] at hcv ⊢
  go_enter Tryd.func63, Tryd.ntmps63
  go_wp2_with (first
    | (go_at_call 8; (with_reducible refine (bytes_to c ?hv _ cp _ l HL.out.1 HI.out.1 HI.out.2.1 HI.out.2.2 (by have := HL.out.2; omega) d (-1) HDJ.out _ HC4.out HG4.out).mono ?_); (case hv => rfl); rintro e w5 ⟨rfl, hb5⟩; have HS5 := Aside0.mk (HS4.out.step hb5); obtain ⟨-, ⟨z0, z1, z2, z3, z4, z5, z6, z7, z8, z9, zf⟩, -, -, hl5⟩ := (HS5.out).facts; clear hb5; simp only [cxs]))
  (with_reducible refine ret_put1 HS5.out.after Tryd.results63 ?_ ?_ ?_) <;> rfl
set_option maxHeartbeats 8000000 in
set_option maxRecDepth 100000 in
theorem node_lit_bad {K : Nat} {w0 W : World} {nv tv : Value} {ws : List Wd} {a0 e0 : Int} (h : Ist K w0 W nv tv ws a0 e0) (k : Nat) (x : Wd) (hx : ws[k]? = some x) (hk : x.k = 0) (l : List Nat) (ht : x.t = bs l) (hsm : Small l) (hlen : l.length ≤ 70000) (c : Cx) (hi : Inv c) (hl : Low c.nm) (d : Cx) (j : Nat) (hdj : bytesAt c l 0 = (d, (j : Int))) :
    Calls Tryd.prog 63 #[.pointer (some ⟨K, 0, none⟩), .int .i64 (k : Int), .agg (cxs c)] W fun e' W' => ∃ a, e' = .returned (.agg (cxs bad)) ∧ Ist K w0 W' nv tv ws a 5 ∧ Kept W W' (fun q => q = K) := by
  obtain ⟨g, cap, A, n, c1, m, hnv, hkl, hgl, hcs, hf⟩ := h.nod.read hx
  obtain ⟨N, hN⟩ : ∃ N, N = ws.length := ⟨_, rfl⟩
  rw [← hN] at hnv hkl
  subst hnv
  rw [hk] at hcs
  obtain ⟨y0, y1, y2, y3, f0, f1, f2, f3⟩ := pc_of h.blk
  have hlt : K < W.heap.size := h.lt
  have x0 := hcs 0 _ rfl
  have x1 := hcs 1 _ rfl
  have x2 := hcs 2 _ rfl
  have x3 := hcs 3 _ rfl
  have x4 := hcs 4 _ rfl
  have x5 := hcs 5 _ rfl
  have x6 := hcs 6 _ rfl
  have x7 := hcs 7 _ rfl
  have x8 := hcs 8 _ rfl
  rw [Nat.add_zero] at x0
  have b1 : (0 : Int) ≤ (k : Int) ∧ (k : Int) < (N : Int) := by omega
  obtain ⟨L, hL⟩ : ∃ L, L = l.length := ⟨_, rfl⟩
  obtain ⟨W3, hW3⟩ : ∃ W3, W3 = ((W.alloc (.cells (cxs c) 33)).alloc (.cells zeros 33)).alloc (.cells #[.int .u8 0, .int .i64 x.at_, .string x.t, .bool false, .slice A n c1, .slice none 0 0, .slice none 0 0, .bool false, .int .u8 m] 78) := ⟨_, rfl⟩
  obtain ⟨W4, cp, hcv, hb4, hC4⟩ := conv_bytes W3 l hsm (by omega)
  have hst : St W W4 c := (hW3 ▸ (st0 c h.glob).alloc _ : St W W3 c).step hb4
  have hbox4 : W4.heap[W.heap.size + 1 + 1]? = some (.cells #[.int .u8 0, .int .i64 x.at_, .string x.t, .bool false, .slice A n c1, .slice none 0 0, .slice none 0 0, .bool false, .int .u8 m] 78 (0, 0)) := box_at (hW3 ▸ hb4)
  rw [ht] at hW3 hbox4 x2
  have hW3s : W3.heap.size = W.heap.size + 1 + 1 + 1 := by rw [hW3]; simp only [size_alloc]
  rw [hW3s] at hcv hC4
  rw [hW3, ← hL] at hcv
  have HS4 := Aside0.mk hst
  have HC4 := Aside0.mk hC4
  have HBOX4 := Aside0.mk hbox4
  have HL := Aside0.mk (And.intro hL hlen)
  have HI := Aside0.mk (And.intro hi (And.intro hl hsm))
  have H := Aside0.mk h
  have HG4 := Aside0.mk hst.gl
  have HDJ := Aside0.mk hdj
  have hu33 := Tryd.underlying33
  clear h hcs hf hx hk hN hb4 hC4 hst hbox4 hL hlen hi hl hsm hW3s ht hdj
  rw [show (Value.agg (cxs c)) = Value.agg (cxs c) from rfl]
  simp only [cxs] at hcv ⊢
  go_enter Tryd.func63, Tryd.ntmps63
  have j0 : decide ((0 : Int) ≤ (j : Int)) = true := decide_eq_true (by omega)
  go_wp2_with (first
    | (go_at_call 8; (with_reducible refine (bytes_to c ?hv _ cp _ l HL.out.1 HI.out.1 HI.out.2.1 HI.out.2.2 (by have := HL.out.2; omega) d (j : Int) HDJ.out _ HC4.out HG4.out).mono ?_); (case hv => rfl); rintro e w5 ⟨rfl, hb5⟩; have HS5 := Aside0.mk (HS4.out.step hb5); have hbox5 := (hb5.block (W.heap.size + 1 + 1) (Array.getElem?_eq_some_iff.1 HBOX4.out).1).trans HBOX4.out; have b51 : w5.cell? ⟨W.heap.size + 1 + 1, 1, none⟩ = some (.int .i64 x.at_) := (by simp [World.cell?, hbox5]); have hl5 : W.heap.size + 1 + 1 < w5.heap.size := (Array.getElem?_eq_some_iff.1 hbox5).1; clear hb5 hbox5; simp only [cxs])
    | (go_at_call 90; (with_reducible refine (fail_calls (H.out.below (HS5.out.alloc _).bw) _ 5).mono ?_); rintro e w6 ⟨rfl, hi6, hk6⟩; have hans := (hk6.2 (W.heap.size + 1) (HS5.out.alloc _).lt (by omega)).trans (HS5.out.alloc _).ans; obtain ⟨z0, z1, z2, z3, z4, z5, z6, z7, z8, z9, zf⟩ := zero_of hans; have hl6 : W.heap.size + 1 < w6.heap.size := (Array.getElem?_eq_some_iff.1 hans).1; have HI6 := Aside0.mk hi6; have HK6 := Aside0.mk hk6; have HANS := Aside0.mk hans; clear hi6 hk6 hans; simp only [cxs, bad]))
  refine ret_to (c := bad) HANS.out rfl Tryd.results63 rfl rfl rfl (fun V h1 h2 h3 h4 => ⟨_, rfl, HI6.out.far HANS.out h2 (h4 _ _ HI6.out.bel (by have := H.out.bel.size; omega)), kept_end (HS5.out.alloc _).bw HK6.out h2 h3⟩)
end Go.Proofs.YtfplocpjdjjoaaaDoor.Refuse
namespace Go.Proofs.YtfplocpjdjjoaaaDoor.Refuse
open Go Go.RowKit Go.Proofs.YtfplocpjdjjoaaaDoor.Trail Go.Proofs.YtfplocpjdjjoaaaDoor.Ctxs Go.Proofs.YtfplocpjdjjoaaaDoorW.PrintWords
set_option linter.unusedVariables false
set_option linter.unusedSimpArgs false
/-- What a template with one hole, in front of it l, comes to. -/
def Outcome (l : List Nat) (a e : Int) : Prop :=
  match steps attrOf true {} l with
  | none => e = 5
  | some d => if holeAt d = 0 then e = 6 ∧ a = (l.length : Int) else e = 0
theorem outcome_none {l : List Nat} (h : steps attrOf true {} l = none) (a : Int) : Outcome l a 5 := by unfold Outcome; rw [h]
theorem outcome_no {l : List Nat} {d : Cx} (h : steps attrOf true {} l = some d) (h0 : holeAt d = 0) : Outcome l (l.length : Int) 6 := by
  unfold Outcome; rw [h]; show (if holeAt d = 0 then _ else _); rw [if_pos h0]; exact ⟨rfl, rfl⟩
theorem outcome_ok {l : List Nat} {d : Cx} (h : steps attrOf true {} l = some d) (h0 : holeAt d ≠ 0) (a : Int) : Outcome l a 0 := by
  unfold Outcome; rw [h]; show (if holeAt d = 0 then _ else _); rw [if_neg h0]
def n1 (l : List Nat) : Nat := if l = [] then 0 else 1
/-- How far the nodes were passed, and the context there. -/
inductive Pos (l : List Nat) : Nat → Cx → Prop where
  | start : Pos l 0 {}
  | lit (d : Cx) : l ≠ [] → steps attrOf true {} l = some d → Pos l 1 d
  | hole (d : Cx) : steps attrOf true {} l = some d → holeAt d ≠ 0 → Pos l (n1 l + 1) (after d)
theorem ws_len (l r : List Nat) (g c : Nat) : (wsOf l r g c).length = n1 l + 1 + n1 r := by
  unfold wsOf n1
  split <;> split <;> rfl
theorem ws_lit {l : List Nat} (h : l ≠ []) (r : List Nat) (g c : Nat) : (wsOf l r g c)[0]? = some ⟨0, 0, bs l, none, 0, 0⟩ := by
  unfold wsOf
  rw [if_neg h]
  rfl
theorem ws_hole (l r : List Nat) (g c : Nat) : (wsOf l r g c)[n1 l]? = some ⟨1, (l.length : Int), ⟨#[]⟩, some ⟨g, 0, none⟩, 1, c⟩ := by
  unfold wsOf n1
  split <;> rfl
theorem pos_cases {l r : List Nat} {k : Nat} {c : Cx} (hr : ∀ d, steps attrOf true {} l = some d → holeAt d ≠ 0 → r = []) (h : Pos l k c) (hk : k < n1 l + 1 + n1 r) : (k = 0 ∧ l ≠ [] ∧ c = {}) ∨ (k = n1 l ∧ steps attrOf true {} l = some c) := by
  cases h with
  | start =>
    by_cases h0 : l = []
    · subst h0
      exact .inr ⟨rfl, rfl⟩
    · exact .inl ⟨rfl, h0, rfl⟩
  | lit d h0 hs => exact .inr ⟨(if_neg h0).symm, hs⟩
  | hole d hs h0 =>
    have := hr d hs h0
    subst this
    simp [n1] at hk
theorem pos_end {l r : List Nat} {k : Nat} {c : Cx} (h : Pos l k c) (hk : k = n1 l + 1 + n1 r) (a : Int) : Outcome l a 0 := by
  cases h with
  | start => omega
  | lit d h0 hs => rw [n1, if_neg h0] at hk; omega
  | hole d hs h0 => exact outcome_ok hs h0 a
/-- The walk over the nodes at work: the context in the first new block, the answer's block behind it. -/
structure Lst (K : Nat) (w0 W V : World) (nv tv : Value) (ws : List Wd) (c : Cx) (a e : Int) : Prop where
  own : V.heap[W.heap.size]? = some (.cells (cxs c) 33 (0, 0))
  ans : V.heap[W.heap.size + 1]? = some (.cells zeros 33 (0, 0))
  ist : Ist K w0 V nv tv ws a e
  kept : Kept W V (fun q => q = K ∨ some q = nv.ownBlock)
  lk : K < W.heap.size
  ln : ∀ q, some q = nv.ownBlock → q < W.heap.size
section
variable {K : Nat} {w0 W V V1 : World} {nv tv : Value} {ws : List Wd} {c d : Cx} {a e a' e' : Int}
theorem Lst.node (h : Lst K w0 W V nv tv ws c a e) (hi : Ist K w0 V1 nv tv ws a' e') (hk : Kept V V1 (fun q => q = K ∨ some q = nv.ownBlock)) : Lst K w0 W V1 nv tv ws c a' e' := by
  have l1 := (Array.getElem?_eq_some_iff.1 h.own).1
  have l2 := (Array.getElem?_eq_some_iff.1 h.ans).1
  have hn : ∀ q, W.heap.size ≤ q → ¬ (q = K ∨ some q = nv.ownBlock) := fun q hq ho => by
    rcases ho with ho | ho
    · have := h.lk; omega
    · have := h.ln q ho; omega
  exact ⟨(hk.2 _ l1 (hn _ (Nat.le_refl _))).trans h.own, (hk.2 _ l2 (hn _ (by omega))).trans h.ans, hi, ⟨Nat.le_trans h.kept.1 hk.1, fun i hi' hni => (hk.2 i (Nat.lt_of_lt_of_le hi' h.kept.1) hni).trans (h.kept.2 i hi' hni)⟩, h.lk, h.ln⟩
theorem Lst.put {v0 v1 v2 v3 v4 v5 v6 v7 v8 v9 : Value} (h : Lst K w0 W V nv tv ws c a e) (hc : #[v0, v1, v2, v3, v4, v5, v6, v7, v8, v9] = cxs d) :
    Lst K w0 W ((((((((((V.setCell ⟨W.heap.size, 0, none⟩ v0).setCell ⟨W.heap.size, 1, none⟩ v1).setCell ⟨W.heap.size, 2, none⟩ v2).setCell ⟨W.heap.size, 3, none⟩ v3).setCell ⟨W.heap.size, 4, none⟩ v4).setCell ⟨W.heap.size, 5, none⟩ v5).setCell ⟨W.heap.size, 6, none⟩ v6).setCell ⟨W.heap.size, 7, none⟩ v7).setCell ⟨W.heap.size, 8, none⟩ v8).setCell ⟨W.heap.size, 9, none⟩ v9) nv tv ws d a e := by
  have hle : w0.heap.size ≤ W.heap.size := Nat.le_trans h.ist.low (Nat.le_of_lt h.lk)
  have hh : ∀ q, q ≠ W.heap.size → ((((((((((V.setCell ⟨W.heap.size, 0, none⟩ v0).setCell ⟨W.heap.size, 1, none⟩ v1).setCell ⟨W.heap.size, 2, none⟩ v2).setCell ⟨W.heap.size, 3, none⟩ v3).setCell ⟨W.heap.size, 4, none⟩ v4).setCell ⟨W.heap.size, 5, none⟩ v5).setCell ⟨W.heap.size, 6, none⟩ v6).setCell ⟨W.heap.size, 7, none⟩ v7).setCell ⟨W.heap.size, 8, none⟩ v8).setCell ⟨W.heap.size, 9, none⟩ v9).heap[q]? = V.heap[q]? := fun q hq => heap_put10 hq _ _ _ _ _ _ _ _ _ _
  refine ⟨hc ▸ put10 rfl h.own v0 v1 v2 v3 v4 v5 v6 v7 v8 v9, (hh _ (by omega)).trans h.ans, h.ist.far h.own hh ?_, ⟨by simp only [setCell_size]; exact h.kept.1, fun i hi hn => (hh i (by omega)).trans (h.kept.2 i hi hn)⟩, h.lk, h.ln⟩
  exact (((((((((h.ist.bel.setCell (p := ⟨W.heap.size, 0, none⟩) hle v0).setCell (p := ⟨W.heap.size, 1, none⟩) hle v1).setCell (p := ⟨W.heap.size, 2, none⟩) hle v2).setCell (p := ⟨W.heap.size, 3, none⟩) hle v3).setCell (p := ⟨W.heap.size, 4, none⟩) hle v4).setCell (p := ⟨W.heap.size, 5, none⟩) hle v5).setCell (p := ⟨W.heap.size, 6, none⟩) hle v6).setCell (p := ⟨W.heap.size, 7, none⟩) hle v7).setCell (p := ⟨W.heap.size, 8, none⟩) hle v8).setCell (p := ⟨W.heap.size, 9, none⟩) hle v9
theorem lst_start (h : Ist K w0 W nv tv ws a e) (c : Cx) : Lst K w0 W ((W.alloc (.cells (cxs c) 33)).alloc (.cells zeros 33)) nv tv ws c a e :=
  have hs := st0 c h.glob
  ⟨hs.own, hs.ans, h.below hs.bw, Kept.of_below hs.bw _, h.lt, fun q hq => h.nod.lt q hq.symm⟩
theorem Lst.done {V' : World} (h : Lst K w0 W V nv tv ws c a e) (h2 : ∀ q, q ≠ W.heap.size + 1 → V'.heap[q]? = V.heap[q]?) (h3 : V.heap.size ≤ V'.heap.size) (h4 : ∀ (w : World) (n : Nat), Below n w V → n ≤ W.heap.size + 1 → Below n w V') : Ist K w0 V' nv tv ws a e ∧ Kept W V' (fun q => q = K ∨ some q = nv.ownBlock) :=
  ⟨h.ist.far h.ans h2 (h4 _ _ h.ist.bel (by have := h.ist.low; have := h.lk; omega)), ⟨Nat.le_trans h.kept.1 h3, fun i hi hn => (h2 i (by omega)).trans (h.kept.2 i hi hn)⟩⟩
/-- A literal that is taken. -/
theorem step_lit {v : Array Value} (h : Lst K w0 W V nv tv ws c a e) (k : Nat) (x : Wd) (hx : ws[k]? = some x) (hk : x.k = 0) (l : List Nat) (ht : x.t = bs l) (hsm : Small l) (hlen : l.length ≤ 70000) (hi : Inv c) (hl : Low c.nm) (hdj : bytesAt c l 0 = (d, -1)) (hv : v = cxs c) {i : Int} (hi0 : i = (k : Int)) :
    Calls Tryd.prog 63 #[.pointer (some ⟨K, 0, none⟩), .int .i64 i, .agg v] V fun e' V' => e' = .returned (.agg (cxs d)) ∧ Lst K w0 W V' nv tv ws c a e := by
  subst hv hi0
  refine (node_lit_ok h.ist k x hx hk l ht hsm hlen c hi hl d hdj).mono ?_
  rintro e' V' ⟨rfl, hb⟩
  exact ⟨rfl, h.node (h.ist.below hb) (Kept.of_below hb _)⟩
/-- A literal that is refused. -/
theorem step_bad {v : Array Value} (h : Lst K w0 W V nv tv ws c a e) (k : Nat) (x : Wd) (hx : ws[k]? = some x) (hk : x.k = 0) (l : List Nat) (ht : x.t = bs l) (hsm : Small l) (hlen : l.length ≤ 70000) (hi : Inv c) (hl : Low c.nm) (j : Nat) (hdj : bytesAt c l 0 = (d, (j : Int))) (hv : v = cxs c) {i : Int} (hi0 : i = (k : Int)) :
    Calls Tryd.prog 63 #[.pointer (some ⟨K, 0, none⟩), .int .i64 i, .agg v] V fun e' V' => ∃ a', e' = .returned (.agg (cxs bad)) ∧ Lst K w0 W V' nv tv ws c a' 5 := by
  subst hv hi0
  refine (node_lit_bad h.ist k x hx hk l ht hsm hlen c hi hl d j hdj).mono ?_
  rintro e' V' ⟨a', rfl, h1, h2⟩
  exact ⟨a', rfl, h.node h1 (h2.mono (fun q hq => .inl hq))⟩
/-- A hole that is refused. -/
theorem step_no {v : Array Value} (h : Lst K w0 W V nv tv ws c a e) (k : Nat) (x : Wd) (hx : ws[k]? = some x) (hk : x.k = 1) (hc : holeAt c = 0) (hv : v = cxs c) {i : Int} (hi0 : i = (k : Int)) :
    Calls Tryd.prog 63 #[.pointer (some ⟨K, 0, none⟩), .int .i64 i, .agg v] V fun e' V' => e' = .returned (.agg (cxs bad)) ∧ Lst K w0 W V' nv tv ws c x.at_ 6 := by
  subst hv hi0
  refine (node_hole_no h.ist k x hx hk c hc).mono ?_
  rintro e' V' ⟨rfl, h1, h2⟩
  exact ⟨rfl, h.node h1 (h2.mono (fun q hq => .inl hq))⟩
/-- A hole that is taken. -/
theorem step_hole {v : Array Value} (h : Lst K w0 W V nv tv ws c a e) (k : Nat) (x : Wd) (hx : ws[k]? = some x) (hk : x.k = 1) (hc : holeAt c ≠ 0) (hv : v = cxs c) {i : Int} (hi0 : i = (k : Int)) :
    Calls Tryd.prog 63 #[.pointer (some ⟨K, 0, none⟩), .int .i64 i, .agg v] V fun e' V' => e' = .returned (.agg (cxs (after c))) ∧ Lst K w0 W V' nv tv ws c a e := by
  subst hv hi0
  refine (node_hole_ok h.ist k x hx hk c hc).mono ?_
  rintro e' V' ⟨rfl, h1, h2⟩
  exact ⟨rfl, h.node h1 (h2.mono (fun q hq => .inr hq))⟩
end
/-- What stands behind the nodes. -/
def IPost (K : Nat) (w0 W : World) (nv tv : Value) (ws : List Wd) (l : List Nat) (e' : Ending) (W' : World) : Prop :=
  ∃ c a e, e' = .returned (.agg (cxs c)) ∧ Ist K w0 W' nv tv ws a e ∧ Outcome l a e ∧ Kept W W' (fun q => q = K ∨ some q = nv.ownBlock)
theorem inv_start : Inv {} := inv_flat 0 (by omega)
theorem low_start : Low ({} : Cx).nm := fun x hx => by cases hx
set_option maxHeartbeats 8000000 in
set_option maxRecDepth 100000 in
theorem ilist_calls {K : Nat} {w0 W : World} {nv tv : Value} {l r : List Nat} {g cg : Nat} (h : Ist K w0 W nv tv (wsOf l r g cg) 0 0) (hl : Bare l) (hlen : l.length ≤ 70000) (hr : ∀ d, steps attrOf true {} l = some d → holeAt d ≠ 0 → r = []) :
    Calls Tryd.prog 46 #[.pointer (some ⟨K, 0, none⟩), tv, .agg (cxs {})] W (IPost K w0 W nv tv (wsOf l r g cg) l) := by
  obtain ⟨At, ct, htv⟩ := h.top.slice
  rw [nums_len] at htv
  subst htv
  obtain ⟨N, hN⟩ : ∃ N, N = (wsOf l r g cg).length := ⟨_, rfl⟩
  have hNN := hN.trans (ws_len l r g cg)
  have hN3 : N ≤ 3 := hN ▸ wsOf_len l r g cg
  obtain ⟨ws, hws⟩ : ∃ ws, ws = wsOf l r g cg := ⟨_, rfl⟩
  rw [← hN, ← hws] at h ⊢
  have hK : K < W.heap.size := h.lt
  have hKW : K ≠ W.heap.size := by omega
  have hWK : W.heap.size ≠ K := by omega
  have hK1 : K ≠ W.heap.size + 1 := by omega
  have H := Aside0.mk h
  have HL := Aside0.mk (And.intro (show Small l from hl.1) hlen)
  have HR := Aside0.mk hr
  have HN := Aside0.mk (And.intro hN (And.intro hNN hws))
  have H0 := Aside0.mk (lst_start h {})
  clear h hl hlen hr hN hNN hws
  simp only [cxs] at H0 ⊢
  go_enter Tryd.func46, Tryd.ntmps46
  go_wp2
  go_loopw [11] (fun iv wr => ∃ (k : Nat) (c : Cx), iv = .int .i64 (k : Int) ∧ k ≤ N ∧ Lst K w0 W wr nv (.slice At N ct) ws c 0 0 ∧ Pos l k c)
    (fun iv _ => N - (intOf iv).toNat)
  case atStart => exact ⟨0, {}, rfl, Nat.zero_le _, H0.out, .start⟩
  case round =>
    obtain ⟨k, c, rfl, hk, hst, hpos⟩ := hrel
    have HST := Aside0.mk hst
    obtain ⟨u0, u1, u2, u3, u4, u5, u6, u7, u8, u9, uf⟩ := zero_of hst.own
    obtain ⟨z0, z1, z2, z3, z4, z5, z6, z7, z8, z9, zf⟩ := zero_of hst.ans
    have hl1 : W.heap.size + 1 < wr.heap.size := (Array.getElem?_eq_some_iff.1 hst.ans).1
    by_cases hkn : k < N
    · have c1 : decide ((k : Int) < (N : Int)) = true := decide_eq_true (Int.ofNat_lt.2 hkn)
      have c2 : decide (k < N) = true := decide_eq_true hkn
      have hcs := pos_cases HR.out hpos (by have := HN.out.2.1; omega)
      obtain ⟨gt, cap, hs, -, hgl, -, -⟩ := hst.ist.top.form (by rw [nums_len, HN.out.2.2, ← HN.out.1]; omega)
      simp only [Value.slice.injEq] at hs
      obtain ⟨rfl, -, rfl⟩ := hs
      obtain ⟨-, hc, -⟩ := hst.ist.top.cells k (row := [.int .i64 (k : Int)]) (by
        rw [HN.out.2.2, ← HN.out.1]
        simp [nums, hkn])
      have x0 := hc 0 _ rfl
      rw [Nat.mul_one, Nat.add_zero] at x0
      have b1 : (0 : Int) ≤ (k : Int) ∧ (k : Int) < (N : Int) := by omega
      have HKN := Aside0.mk hkn
      clear hkn hst hpos hc
      rcases hcs with ⟨rfl, hl0, rfl⟩ | ⟨hk1, hsc⟩
      · have hx : ws[0]? = some ⟨0, 0, bs l, none, 0, 0⟩ := by rw [HN.out.2.2]; exact ws_lit hl0 r g cg
        have HX := Aside0.mk (And.intro hx hl0)
        clear hx hl0
        cases hst : steps attrOf true {} l with
        | none =>
          have hb := bytesAt_none l {} 0 hst
          obtain ⟨j, hj⟩ : ∃ j : Nat, bytesAt {} l 0 = ((bytesAt {} l 0).1, (j : Int)) := ⟨(bytesAt {} l 0).2.toNat, by rw [Int.toNat_of_nonneg hb.2]⟩
          have HJ := Aside0.mk hj
          have HS := Aside0.mk hst
          clear hb hj hst
          go_wp2_with (first
            | (go_at_call 63; (with_reducible refine (step_bad HST.out 0 _ HX.out.1 rfl l rfl HL.out.1 HL.out.2 inv_start low_start j HJ.out ?hv ?hi).mono ?_); (case hv => rfl); (case hi => rfl); rintro e' w1 ⟨a1, rfl, h1⟩; have HL1 := Aside0.mk h1; obtain ⟨-, -, -, v3, -, -, -, vf3⟩ := pc_of h1.ist.blk; obtain ⟨t0, t1, t2, t3, t4, t5, t6, t7, t8, t9, tf⟩ := zero_of h1.own; obtain ⟨s0, s1, s2, s3, s4, s5, s6, s7, s8, s9, sf⟩ := zero_of h1.ans; have hl2 : W.heap.size + 1 < w1.heap.size := (Array.getElem?_eq_some_iff.1 h1.ans).1; clear h1; simp only [cxs]))
          have HP := Aside0.mk (HL1.out.put (d := bad) rfl)
          refine ret_to (c := bad) HP.out.ans rfl Tryd.results46 rfl rfl rfl (fun V h1 h2 h3 h4 => ?_)
          obtain ⟨i1, i2⟩ := HP.out.done h2 h3 h4
          exact ⟨bad, _, _, rfl, i1, outcome_none HS.out _, i2⟩
        | some d =>
          have HJ := Aside0.mk (bytesAt_some l {} d 0 hst)
          have HS := Aside0.mk hst
          clear hst
          go_wp2_with (first
            | (go_at_call 63; (with_reducible refine (step_lit HST.out 0 _ HX.out.1 rfl l rfl HL.out.1 HL.out.2 inv_start low_start HJ.out ?hv ?hi).mono ?_); (case hv => rfl); (case hi => rfl); rintro e' w1 ⟨rfl, h1⟩; have HL1 := Aside0.mk h1; obtain ⟨-, -, -, v3, -, -, -, vf3⟩ := pc_of h1.ist.blk; obtain ⟨t0, t1, t2, t3, t4, t5, t6, t7, t8, t9, tf⟩ := zero_of h1.own; obtain ⟨s0, s1, s2, s3, s4, s5, s6, s7, s8, s9, sf⟩ := zero_of h1.ans; have hl2 : W.heap.size + 1 < w1.heap.size := (Array.getElem?_eq_some_iff.1 h1.ans).1; clear h1; simp only [cxs]))
          go_roundw
          case rel => exact ⟨1, d, rfl, HKN.out, HL1.out.put (d := d) rfl, .lit d HX.out.2 HS.out⟩
          case measure => exact less (Nat.lt_succ_self 0) HKN.out rfl
      · have hx : ws[k]? = some ⟨1, (l.length : Int), ⟨#[]⟩, some ⟨g, 0, none⟩, 1, cg⟩ := by rw [HN.out.2.2, hk1]; exact ws_hole l r g cg
        have HX := Aside0.mk (And.intro hx hk1)
        have HS := Aside0.mk hsc
        clear hx hk1 hsc
        by_cases h0 : holeAt c = 0
        · have HZ := Aside0.mk h0
          clear h0
          go_wp2_with (first
            | (go_at_call 63; (with_reducible refine (step_no HST.out k _ HX.out.1 rfl HZ.out ?hv ?hi).mono ?_); (case hv => rfl); (case hi => rfl); rintro e' w1 ⟨rfl, h1⟩; have HL1 := Aside0.mk h1; obtain ⟨-, -, -, v3, -, -, -, vf3⟩ := pc_of h1.ist.blk; obtain ⟨t0, t1, t2, t3, t4, t5, t6, t7, t8, t9, tf⟩ := zero_of h1.own; obtain ⟨s0, s1, s2, s3, s4, s5, s6, s7, s8, s9, sf⟩ := zero_of h1.ans; have hl2 : W.heap.size + 1 < w1.heap.size := (Array.getElem?_eq_some_iff.1 h1.ans).1; clear h1; simp only [cxs]))
          have HP := Aside0.mk (HL1.out.put (d := bad) rfl)
          refine ret_to (c := bad) HP.out.ans rfl Tryd.results46 rfl rfl rfl (fun V h1 h2 h3 h4 => ?_)
          obtain ⟨i1, i2⟩ := HP.out.done h2 h3 h4
          exact ⟨bad, _, _, rfl, i1, outcome_no HS.out HZ.out, i2⟩
        · have HZ := Aside0.mk h0
          obtain ⟨d, hd⟩ : ∃ d, d = after c := ⟨_, rfl⟩
          have HD := Aside0.mk hd
          clear h0 hd
          go_wp2_with (first
            | (go_at_call 63; (with_reducible refine (step_hole HST.out k _ HX.out.1 rfl HZ.out ?hv ?hi).mono ?_); (case hv => rfl); (case hi => rfl); rintro e' w1 ⟨rfl, h1⟩; rw [← HD.out]; have HL1 := Aside0.mk h1; obtain ⟨-, -, -, v3, -, -, -, vf3⟩ := pc_of h1.ist.blk; obtain ⟨t0, t1, t2, t3, t4, t5, t6, t7, t8, t9, tf⟩ := zero_of h1.own; obtain ⟨s0, s1, s2, s3, s4, s5, s6, s7, s8, s9, sf⟩ := zero_of h1.ans; have hl2 : W.heap.size + 1 < w1.heap.size := (Array.getElem?_eq_some_iff.1 h1.ans).1; clear h1; simp only [cxs]))
          go_roundw
          case rel => exact ⟨k + 1, d, rfl, HKN.out, HL1.out.put (d := d) rfl, by rw [HX.out.2, HD.out]; exact .hole c HS.out HZ.out⟩
          case measure => exact less (Nat.lt_succ_self k) HKN.out rfl
    · have c1 : decide ((k : Int) < (N : Int)) = false := decide_eq_false (fun q => hkn (Int.ofNat_lt.1 q))
      have c2 : decide (k < N) = false := decide_eq_false hkn
      have HO := Aside0.mk (pos_end (r := r) hpos (by have := HN.out.2.1; omega) 0)
      clear hkn hst hpos
      go_wp2
      refine ret_to (c := c) HST.out.ans rfl Tryd.results46 rfl rfl rfl (fun V h1 h2 h3 h4 => ?_)
      obtain ⟨i1, i2⟩ := HST.out.done h2 h3 h4
      exact ⟨c, _, _, rfl, i1, HO.out, i2⟩
end Go.Proofs.YtfplocpjdjjoaaaDoor.Refuse
namespace Go.Proofs.YtfplocpjdjjoaaaDoor.Refuse
open Go Go.RowKit Go.Proofs.YtfplocpjdjjoaaaDoor.Trail Go.Proofs.YtfplocpjdjjoaaaDoor.Ctxs Go.Proofs.YtfplocpjdjjoaaaDoorW.PrintWords
set_option linter.unusedVariables false
set_option linter.unusedSimpArgs false
/-- A fragment at work: its own context and the two blocks of its answer. -/
structure Frm (w V : World) : Prop where
  own : V.heap[w.heap.size]? = some (.cells (cxs {}) 33 (0, 0))
  r1 : V.heap[w.heap.size + 1]? = some (.cells #[.slice none 0 0, .slice none 0 0] 63 (0, 0))
  r2 : V.heap[w.heap.size + 1 + 1]? = some (.cells zeros 33 (0, 0))
  bw : Below w.heap.size w V
theorem Frm.lt {w V : World} (h : Frm w V) : w.heap.size + 1 + 1 < V.heap.size := (Array.getElem?_eq_some_iff.1 h.r2).1
theorem Frm.step {w V V' : World} (h : Frm w V) (hb : Below V.heap.size V V') : Frm w V' :=
  ⟨(hb.block _ (by have := h.lt; omega)).trans h.own, (hb.block _ (by have := h.lt; omega)).trans h.r1, (hb.block _ h.lt).trans h.r2, h.bw.trans (hb.mono (by have := h.lt; omega))⟩
theorem frm_start (w : World) : Frm w (((w.alloc (.cells (cxs {}) 33)).alloc (.cells #[.slice none 0 0, .slice none 0 0] 63)).alloc (.cells zeros 33)) := by
  refine ⟨?_, ?_, ?_, (((Below.refl _ _).alloc (Nat.le_refl _) _).alloc (by simp only [size_alloc]; omega) _).alloc (by simp only [size_alloc]; omega) _⟩
  · rw [old_alloc (by simp only [size_alloc]; omega), old_alloc (by simp only [size_alloc]; omega)]
    exact World.alloc_heap_new w _
  · rw [old_alloc (by simp only [size_alloc]; omega)]
    have := World.alloc_heap_new (w.alloc (.cells (cxs {}) 33)) (.cells #[.slice none 0 0, .slice none 0 0] 63)
    simp only [size_alloc] at this
    exact this
  · have := World.alloc_heap_new ((w.alloc (.cells (cxs {}) 33)).alloc (.cells #[.slice none 0 0, .slice none 0 0] 63)) (.cells zeros 33)
    simp only [size_alloc] at this
    exact this
theorem ist_start {w1 w2 : World} {nv tv : Value} {ws : List Wd} {rows : List (List Value)} (ht : Tree w1.heap.size w2 nv tv ws rows) (hb : Below w1.heap.size w1 w2) (hG : Glob w1) :
    Ist (w2.heap.size + 1) w1 ((w2.alloc (.cells #[nv, tv] 63)).alloc (.cells #[nv, tv, .int .i64 0, .int .i64 0] 107)) nv tv ws 0 0 := by
  have hb2 : Below w2.heap.size w2 ((w2.alloc (.cells #[nv, tv] 63)).alloc (.cells #[nv, tv, .int .i64 0, .int .i64 0] 107)) := ((Below.refl _ _).alloc (Nat.le_refl _) _).alloc (by rw [size_alloc]; omega) _
  refine ⟨?_, (ht.below hb2).nodes, ht.top.below hb2, hG, below_step hb hb2, by have := hb.size; omega⟩
  have := World.alloc_heap_new (w2.alloc (.cells #[nv, tv] 63)) (.cells #[nv, tv, .int .i64 0, .int .i64 0] 107)
  simp only [size_alloc] at this
  exact this
theorem frm_drew {w U : World} {a b v0 v1 v2 v3 v4 v5 v6 v7 v8 v9 : Value} (f1 : U.heap[w.heap.size + 1]? = some (.cells #[a, b] 63 (0, 0))) (f2 : U.heap[w.heap.size + 1 + 1]? = some (.cells #[v0, v1, v2, v3, v4, v5, v6, v7, v8, v9] 33 (0, 0))) (hb : Below w.heap.size w U) :
    U.drew.heap[w.heap.size + 1]? = some (.cells #[a, b] 63 (0, 0)) ∧ U.drew.heap[w.heap.size + 1 + 1]? = some (.cells #[v0, v1, v2, v3, v4, v5, v6, v7, v8, v9] 33 (0, 0)) ∧ Below w.heap.size w U.drew := ⟨f1, f2, Below.drew hb⟩
theorem frm_end {w V : World} (h : Frm w V) (a b v0 v1 v2 v3 v4 v5 v6 v7 v8 v9 : Value) :
    (((((((((((((V.setCell ⟨w.heap.size + 1, 0, none⟩ a).setCell ⟨w.heap.size + 1, 1, none⟩ b).setCell ⟨w.heap.size + 1 + 1, 0, none⟩ v0).setCell ⟨w.heap.size + 1 + 1, 1, none⟩ v1).setCell ⟨w.heap.size + 1 + 1, 2, none⟩ v2).setCell ⟨w.heap.size + 1 + 1, 3, none⟩ v3).setCell ⟨w.heap.size + 1 + 1, 4, none⟩ v4).setCell ⟨w.heap.size + 1 + 1, 5, none⟩ v5).setCell ⟨w.heap.size + 1 + 1, 6, none⟩ v6).setCell ⟨w.heap.size + 1 + 1, 7, none⟩ v7).setCell ⟨w.heap.size + 1 + 1, 8, none⟩ v8).setCell ⟨w.heap.size + 1 + 1, 9, none⟩ v9).drew).heap[w.heap.size + 1]? = some (.cells #[a, b] 63 (0, 0)) ∧ (((((((((((((V.setCell ⟨w.heap.size + 1, 0, none⟩ a).setCell ⟨w.heap.size + 1, 1, none⟩ b).setCell ⟨w.heap.size + 1 + 1, 0, none⟩ v0).setCell ⟨w.heap.size + 1 + 1, 1, none⟩ v1).setCell ⟨w.heap.size + 1 + 1, 2, none⟩ v2).setCell ⟨w.heap.size + 1 + 1, 3, none⟩ v3).setCell ⟨w.heap.size + 1 + 1, 4, none⟩ v4).setCell ⟨w.heap.size + 1 + 1, 5, none⟩ v5).setCell ⟨w.heap.size + 1 + 1, 6, none⟩ v6).setCell ⟨w.heap.size + 1 + 1, 7, none⟩ v7).setCell ⟨w.heap.size + 1 + 1, 8, none⟩ v8).setCell ⟨w.heap.size + 1 + 1, 9, none⟩ v9).drew).heap[w.heap.size + 1 + 1]? = some (.cells #[v0, v1, v2, v3, v4, v5, v6, v7, v8, v9] 33 (0, 0)) ∧ Below w.heap.size w (((((((((((((V.setCell ⟨w.heap.size + 1, 0, none⟩ a).setCell ⟨w.heap.size + 1, 1, none⟩ b).setCell ⟨w.heap.size + 1 + 1, 0, none⟩ v0).setCell ⟨w.heap.size + 1 + 1, 1, none⟩ v1).setCell ⟨w.heap.size + 1 + 1, 2, none⟩ v2).setCell ⟨w.heap.size + 1 + 1, 3, none⟩ v3).setCell ⟨w.heap.size + 1 + 1, 4, none⟩ v4).setCell ⟨w.heap.size + 1 + 1, 5, none⟩ v5).setCell ⟨w.heap.size + 1 + 1, 6, none⟩ v6).setCell ⟨w.heap.size + 1 + 1, 7, none⟩ v7).setCell ⟨w.heap.size + 1 + 1, 8, none⟩ v8).setCell ⟨w.heap.size + 1 + 1, 9, none⟩ v9).drew) := by
  have e1 := two_put h.r1 a b
  have e2 : ((V.setCell ⟨w.heap.size + 1, 0, none⟩ a).setCell ⟨w.heap.size + 1, 1, none⟩ b).heap[w.heap.size + 1 + 1]? = some (.cells zeros 33 (0, 0)) := (heap_put2 a b (by omega)).trans h.r2
  have hb1 := (h.bw.setCell (p := ⟨w.heap.size + 1, 0, none⟩) (by show w.heap.size ≤ w.heap.size + 1; omega) a).setCell (p := ⟨w.heap.size + 1, 1, none⟩) (by show w.heap.size ≤ w.heap.size + 1; omega) b
  generalize ((V.setCell ⟨w.heap.size + 1, 0, none⟩ a).setCell ⟨w.heap.size + 1, 1, none⟩ b) = U at e1 e2 hb1 ⊢
  have f2 := put10 rfl e2 v0 v1 v2 v3 v4 v5 v6 v7 v8 v9
  have f1 := (heap_put10 (V := U) (g := w.heap.size + 1 + 1) (q := w.heap.size + 1) (by omega) v0 v1 v2 v3 v4 v5 v6 v7 v8 v9).trans e1
  have hb := below10 hb1 (show w.heap.size ≤ w.heap.size + 1 + 1 by omega) v0 v1 v2 v3 v4 v5 v6 v7 v8 v9
  exact frm_drew f1 f2 hb
theorem outcome_zero {l : List Nat} {a : Int} (h : Outcome l a 0) : Outcome l 0 0 := by
  unfold Outcome at h ⊢
  cases hs : steps attrOf true {} l with
  | none =>
    rw [hs] at h
    have h : (0 : Int) = 5 := h
    exact absurd h (by decide)
  | some d =>
    rw [hs] at h
    dsimp only at h ⊢
    by_cases h0 : holeAt d = 0
    · rw [if_pos h0] at h
      exact absurd h.1 (by decide)
    · rw [if_neg h0]
theorem form_at {v : Array Value} (c : Cx) (hv : v = cxs c) (hi : Inv c) (hl : Low c.nm) (w : World) : Calls Tryd.prog 9 #[.agg v] w fun e w' => e = .returned (.bool true) ∧ Below w.heap.size w w' := hv ▸ form_ok c hi hl w
theorem ilist_at {v : Array Value} {K : Nat} {w0 W : World} {nv tv : Value} {l r : List Nat} {g cg : Nat} (hv : v = cxs {}) (h : Ist K w0 W nv tv (wsOf l r g cg) 0 0) (hl : Bare l) (hlen : l.length ≤ 70000) (hr : ∀ d, steps attrOf true {} l = some d → holeAt d ≠ 0 → r = []) :
    Calls Tryd.prog 46 #[.pointer (some ⟨K, 0, none⟩), tv, .agg v] W (IPost K w0 W nv tv (wsOf l r g cg) l) := hv ▸ ilist_calls h hl hlen hr
/-- What a fragment answers. -/
def FPost (w : World) (l : List Nat) (e' : Ending) (W' : World) : Prop :=
  ∃ A1 n1 c1 A2 n2 c2 c a e, e' = .returned (.tuple #[.agg #[.slice A1 n1 c1, .slice A2 n2 c2], .agg (cxs c), .int .i64 a, .int .i64 e]) ∧ Outcome l a e ∧ Below w.heap.size w W'
set_option maxHeartbeats 8000000 in
set_option maxRecDepth 100000 in
theorem fragment_calls (s : ByteArray) (l r : List Nat) (hs : s = bs (l ++ (hole ++ r))) (hl : Bare l) (hr : Bare r) (hlen : l.length + r.length ≤ 65000) (hlast : ∀ d, steps attrOf true {} l = some d → holeAt d ≠ 0 → r = []) (w : World) (hm : Mx w) (hG : Glob w) :
    Calls Tryd.prog 19 #[.string s, .agg (cxs {})] w (FPost w l) := by
  have HS := Aside0.mk hs
  have HLR := Aside0.mk (And.intro hl (And.intro hr hlen))
  have HLA := Aside0.mk hlast
  have HMG := Aside0.mk (And.intro hm hG)
  have HF0 := Aside0.mk (frm_start w)
  have hu33 := Tryd.underlying33
  clear hs hl hr hlen hlast hm hG
  simp only [cxs] at HF0 ⊢
  go_enter Tryd.func19, Tryd.ntmps19
  go_wp2_with (first
    | (go_at_call 9; (with_reducible refine (form_at {} ?hv inv_start low_start _).mono ?_); (case hv => rfl); rintro e w1 ⟨rfl, hb⟩; have hf1 := HF0.out.step hb; obtain ⟨u0, u1, u2, u3, u4, u5, u6, u7, u8, u9, uf⟩ := zero_of hf1.own; have hl1 := hf1.lt; have hl10 : w.heap.size < w1.heap.size := (by omega); have HF1 := Aside0.mk hf1; clear hb hf1)
    | (go_at_call 22; (with_reducible refine (parse_calls _ l r HS.out HLR.out.1 HLR.out.2.1 HLR.out.2.2 _ (HMG.out.1.below HF1.out.bw)).mono ?_); rintro e w2 ⟨nv, tv, g, cg, rows, rfl, ht2, hb2⟩; obtain ⟨An, cn, hnv⟩ := ht2.nod.slice; obtain ⟨At, ct, htv⟩ := ht2.top.slice; rw [nums_len] at htv; subst hnv htv; have hf2 := HF1.out.step hb2; obtain ⟨t0, t1, t2, t3, t4, t5, t6, t7, t8, t9, tf⟩ := zero_of hf2.own; have hl2 := hf2.lt; have hl20 : w.heap.size < w2.heap.size := (by omega); have HF2 := Aside0.mk hf2; have HI := Aside0.mk (ist_start ht2 hb2 (glob_below HMG.out.2 HF1.out.bw)); clear hf2 ht2 hb2)
    | (go_at_call 46; (with_reducible refine (ilist_at ?hv HI.out HLR.out.1 (by have := HLR.out.2.2; omega) HLA.out).mono ?_); (case hv => rfl); rintro e' w4 ⟨c, a, e, rfl, hi4, ho4, hk4⟩; have hf4 := HF1.out.step hi4.bel; obtain ⟨v0, v1, v2, v3, -, -, -, -⟩ := pc_of hi4.blk; obtain ⟨r0, r1, rf0, rf1⟩ := two_of hf4.r1; obtain ⟨s0, s1, s2, s3, s4, s5, s6, s7, s8, s9, sf⟩ := zero_of hf4.r2; have hl4 := hf4.lt; have hl40 : w.heap.size + 1 < w4.heap.size := (by omega); have hlK : w2.heap.size + 1 < w4.heap.size := hi4.lt; have HI4 := Aside0.mk hi4; have HO4 := Aside0.mk ho4; have HF4 := Aside0.mk hf4; clear hi4 ho4 hk4 hf4; simp only [cxs]))
  all_goals
    obtain ⟨U, hU⟩ : ∃ U, U = w4.alloc (.cells #[.int .u8 (c.st : Int), .int .u8 (c.el : Int), .bool c.en, .int .u8 (c.ak : Int), .int .u8 (c.qu : Int), .int .u8 (c.pa : Int), .int .u8 (c.su : Int), .bool c.es, .int .u8 (c.da : Int), .string (bs c.nm)] 33) := ⟨_, rfl⟩
    rw [← hU]
    have hbU : Below w4.heap.size w4 U := hU ▸ ((Below.refl _ _).alloc (Nat.le_refl _) _)
    have hT : U.heap[w4.heap.size]? = some (.cells (cxs c) 33 (0, 0)) := hU ▸ World.alloc_heap_new w4 _
    clear hU v0 v1 v2 v3 r0 r1 rf0 rf1 s0 s1 s2 s3 s4 s5 s6 s7 s8 s9 sf
    obtain ⟨v0, v1, v2, v3, -, -, -, -⟩ := pc_of (HI4.out.below hbU).blk
    obtain ⟨r0, r1, rf0, rf1⟩ := two_of (HF4.out.step hbU).r1
    obtain ⟨s0, s1, s2, s3, s4, s5, s6, s7, s8, s9, sf⟩ := zero_of (HF4.out.step hbU).r2
    obtain ⟨o0, o1, o2, o3, o4, o5, o6, o7, o8, o9, of_⟩ := zero_of hT
    have HFU := Aside0.mk (HF4.out.step hbU)
    have hlU := (HF4.out.step hbU).lt
    clear hbU hT
    have q1 : ¬ w.heap.size = w2.heap.size := by omega
    have q2 : ¬ w.heap.size + 1 = w2.heap.size := by omega
    have q3 : ¬ w2.heap.size = w.heap.size := by omega
    have q4 : ¬ w2.heap.size = w.heap.size + 1 := by omega
    have q5 : ¬ w4.heap.size = w2.heap.size + 1 := by omega
    have q6 : ¬ w4.heap.size = w.heap.size + 1 := by omega
    have q7 : ¬ w4.heap.size = w.heap.size + 1 + 1 := by omega
    have q8 : ¬ w.heap.size + 1 = w4.heap.size := by omega
    have q9 : ¬ w.heap.size + 1 + 1 = w4.heap.size := by omega
  · go_region_held_law (fun W' => W'.cell? ⟨w2.heap.size + 1, 2, none⟩ = some (.int .i64 a) ∧ W'.cell? ⟨w2.heap.size + 1, 3, none⟩ = some (.int .i64 e)) (go_keep) (first | fail)
    go_wp2
    obtain ⟨g1, g2, g3⟩ := frm_end HFU.out (.slice none 0 0) (.slice none 0 0) (.int .u8 0) (.int .u8 0) (.bool false) (.int .u8 0) (.int .u8 0) (.int .u8 0) (.int .u8 0) (.bool false) (.int .u8 0) (.string ⟨#[]⟩)
    obtain ⟨p0, p1, -, -⟩ := two_of g1
    obtain ⟨d0, d1, d2, d3, d4, d5, d6, d7, d8, d9, -⟩ := zero_of g2
    refine bodyPost_ret (v := .tuple #[.agg #[.slice none 0 0, .slice none 0 0], .agg (cxs {}), .int .i64 a, .int .i64 e]) ?_ rfl ⟨_, _, _, _, _, _, {}, a, e, rfl, HO4.out, g3⟩
    simp [results, Tryd.f19, go_sem, cxs, p0, p1, d0, d1, d2, d3, d4, d5, d6, d7, d8, d9]
    rfl
  · have he : e = 0 := by simpa using ‹(e != 0) = false›
    subst he
    go_region_held_law (fun W' => W'.cell? ⟨w2.heap.size + 1, 0, none⟩ = some (.slice An rows.length cn) ∧ W'.cell? ⟨w2.heap.size + 1, 1, none⟩ = some (.slice At (wsOf l r g cg).length ct) ∧ W'.cell? ⟨w4.heap.size, 0, none⟩ = some (.int .u8 (c.st : Int)) ∧ W'.cell? ⟨w4.heap.size, 1, none⟩ = some (.int .u8 (c.el : Int)) ∧ W'.cell? ⟨w4.heap.size, 2, none⟩ = some (.bool c.en) ∧ W'.cell? ⟨w4.heap.size, 3, none⟩ = some (.int .u8 (c.ak : Int)) ∧ W'.cell? ⟨w4.heap.size, 4, none⟩ = some (.int .u8 (c.qu : Int)) ∧ W'.cell? ⟨w4.heap.size, 5, none⟩ = some (.int .u8 (c.pa : Int)) ∧ W'.cell? ⟨w4.heap.size, 6, none⟩ = some (.int .u8 (c.su : Int)) ∧ W'.cell? ⟨w4.heap.size, 7, none⟩ = some (.bool c.es) ∧ W'.cell? ⟨w4.heap.size, 8, none⟩ = some (.int .u8 (c.da : Int)) ∧ W'.cell? ⟨w4.heap.size, 9, none⟩ = some (.string (bs c.nm))) (go_keep) (first | fail)
    go_wp2
    obtain ⟨g1, g2, g3⟩ := frm_end HFU.out (.slice An rows.length cn) (.slice At (wsOf l r g cg).length ct) (.int .u8 (c.st : Int)) (.int .u8 (c.el : Int)) (.bool c.en) (.int .u8 (c.ak : Int)) (.int .u8 (c.qu : Int)) (.int .u8 (c.pa : Int)) (.int .u8 (c.su : Int)) (.bool c.es) (.int .u8 (c.da : Int)) (.string (bs c.nm))
    obtain ⟨p0, p1, -, -⟩ := two_of g1
    obtain ⟨d0, d1, d2, d3, d4, d5, d6, d7, d8, d9, -⟩ := zero_of g2
    refine bodyPost_ret (v := .tuple #[.agg #[.slice An rows.length cn, .slice At (wsOf l r g cg).length ct], .agg (cxs c), .int .i64 0, .int .i64 0]) ?_ rfl ⟨_, _, _, _, _, _, c, 0, 0, rfl, outcome_zero HO4.out, g3⟩
    simp [results, Tryd.f19, go_sem, cxs, p0, p1, d0, d1, d2, d3, d4, d5, d6, d7, d8, d9]
end Go.Proofs.YtfplocpjdjjoaaaDoor.Refuse
