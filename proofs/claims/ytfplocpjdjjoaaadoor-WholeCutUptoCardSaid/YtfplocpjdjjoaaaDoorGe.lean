/-
  Values of attributes, as plain functions of the context.
  A call's own context and its answer in memory; the text of an element, fed byte by byte, as a plain function of the context.
  A context that markup leads to is in form, says ctx.Form.
  The text of an element, fed byte by byte, as a plain function of the context.
  Conditions: as each theorem says.
-/
import Derived.Test.YtfplocpjdjjoaaaDoorGd
import Derived.Lib.Bytealg
import Derived.Test.YtfplocpjdjjoaaaDoorGa
import Derived.LoopTactic
import Derived.Deep.QuietTactic
import Derived.BigQuiet
namespace Go.Proofs.YtfplocpjdjjoaaaDoor.Ctxs
open Go Go.RowKit Go.Proofs.YtfplocpjdjjoaaaDoor.Trail Go.Proofs.YtfplocpjdjjoaaaDoorW.PrintWords
set_option linter.unusedVariables false
set_option linter.unusedSimpArgs false
/-- Behind a call with three blocks of one's own ahead of it, the second the answer's. -/
theorem after3 {w V : World} {A O : Obj} (hb : Below (((w.alloc A).alloc (.cells zeros 33)).alloc O).heap.size (((w.alloc A).alloc (.cells zeros 33)).alloc O) V) :
    After w V (w.heap.size + 1) ∧ Zero V (w.heap.size + 1) (.int .u8 0) (.int .u8 0) (.bool false) (.int .u8 0) (.int .u8 0) (.int .u8 0) (.int .u8 0) (.bool false) (.int .u8 0) (.string (⟨#[]⟩ : ByteArray)) := by
  have h : V.heap[w.heap.size + 1]? = some (.cells zeros 33 (0, 0)) := (hb.block (w.heap.size + 1) (by simp)).trans ((alloc_old (by simp)).trans (alloc_at (by simp)))
  exact ⟨⟨⟨_, rfl, h⟩, ((((Below.refl _ _).alloc (Nat.le_refl _) _).alloc (by simp) _).alloc (by simp; omega) _).trans (hb.mono (by simp; omega)), by omega⟩, zero_of h⟩
theorem ret_alloc3 {fn : Func} {a : Act} {w : World} {p : Tmp} {c : Cx} {A O : Obj} {cs : Array Value} (h : fn.results = #[.cell p 33]) (hd : a.defers = []) (hp : a.tmps.getD p undef = .pointer (some ⟨w.heap.size + 1, 0, none⟩)) (hs : cs.size = 10) (hc : cs = cxs c) :
    bodyPost Tryd.prog fn (Ret c w) .ret a (((w.alloc A).alloc (.cells cs 33)).alloc O) := ret_ctx (w.heap.size + 1) h hd hp ((alloc_old (by simp)).trans (alloc_at (by simp))) hs (ret_ctx' hc ((((Below.refl _ _).alloc (Nat.le_refl _) _).alloc (by simp) _).alloc (by simp; omega) _))
set_option maxHeartbeats 4000000 in
set_option maxRecDepth 100000 in
theorem ends_world (c : Cx) (w : World) : Calls Tryd.prog 103 #[.agg (cxs c)] w fun e w' => e = .returned (.bool (ends c)) ∧ w' = w.alloc (.cells (cxs c) 33) := by
  have hu33 := Tryd.underlying33
  obtain ⟨st, el, en, ak, qu, pa, su, es, da, nm⟩ := c
  unfold cxs
  dsimp only
  obtain ⟨q, hq⟩ : ∃ q, q = ends ⟨st, el, en, ak, qu, pa, su, es, da, nm⟩ := ⟨_, rfl⟩
  rw [← hq]
  have HQ := Aside0.mk hq
  clear hq
  go_enter Tryd.func103, Tryd.ntmps103
  go_wp2
  all_goals
    clear hu33
    go_ret
    refine ⟨ret_bool ?_, ?_⟩
    rotate_left
    · first
        | rfl
        | ((try simp only [cast_eq, Int.natCast_inj, beq_iff_eq, bne_iff_ne, Bool.eq_false_iff, ne_eq, Bool.not_eq_true', Bool.or_eq_true, Bool.and_eq_true, Decidable.not_not, decide_eq_true_eq] at *); subst_vars; rfl)
    rw [HQ.out]
    unfold ends
    rw [Bool.eq_iff_iff]
    simp
    try omega
theorem ends_at {v : Array Value} (c : Cx) (hv : v = cxs c) (w : World) : Calls Tryd.prog 103 #[.agg v] w fun e w' => e = .returned (.bool (ends c)) ∧ w' = w.alloc (.cells v 33) := hv ▸ ends_world c w
theorem url_at {v : Array Value} {n : Int} (c : Cx) (hv : v = cxs c) (b : Nat) (hb : n = (b : Int)) (hs : Small c.nm) (hn : c.nm.length ≤ 1000) (w : World) (hG : Glob w) : Calls Tryd.prog 105 #[.agg v, .int .u8 n] w (Ret (Trail.url c b) w) := hv ▸ hb ▸ url_calls c b hs hn w hG
set_option maxHeartbeats 4000000 in
set_option maxRecDepth 100000 in
theorem indexByte_in (s : ByteArray) (x : Int) (w : World) : Calls Tryd.prog 127 #[.string s, .int .u8 x] w fun e w' => e = .returned (.int .i64 (Lib.indexByte s.data.toList x.toNat.toUInt8)) ∧ w = w' := by
  go_enter Tryd.func127, Tryd.ntmps127
  go_wp2
  rw [run_callFunc_extern Tryd.func132 (by kernel_rfl) (by kernel_rfl) (by kernel_rfl) (e := Extern.BytealgIndexByte.indexByte) (by kernel_rfl), Lib.run_indexByteString]
  simp only [Result.andThen]
  rw [Oper.upon_value]
  go_wp2
  go_ret
  exact ⟨rfl, rfl⟩
set_option maxHeartbeats 4000000 in
set_option maxRecDepth 100000 in
theorem indexByte_calls (s : ByteArray) (x : Int) (w : World) : Calls Tryd.prog 104 #[.string s, .int .u8 x] w fun e w' => e = .returned (.int .i64 (Lib.indexByte s.data.toList x.toNat.toUInt8)) ∧ w = w' := by
  go_enter Tryd.func104, Tryd.ntmps104
  go_wp2_with (go_at_call 127; (with_reducible refine (indexByte_in _ _ _).mono ?_); rintro e w1 ⟨rfl, rfl⟩)
  go_ret
  exact ⟨rfl, rfl⟩
/-- Is it one of the bytes that no bare value has? -/
def odd (b : Nat) : Bool := b == 34 || b == 39 || b == 60 || b == 61 || b == 96
theorem odd_index (b : Nat) (hb : b < 256) : decide (0 ≤ Lib.indexByte (⟨#[34, 39, 60, 61, 96]⟩ : ByteArray).data.toList (b : Int).toNat.toUInt8) = odd b := by
  have h : (List.range 256).all (fun b => decide (0 ≤ Lib.indexByte (⟨#[34, 39, 60, 61, 96]⟩ : ByteArray).data.toList (b : Int).toNat.toUInt8) == odd b) = true := by kernel_rfl
  have := List.all_eq_true.1 h b (List.mem_range.2 hb)
  exact beq_iff_eq.1 this
/-- 'value', its tests as propositions. -/
theorem value_eq (c : Cx) (b : Nat) : Trail.value c b = if (c.qu ≠ 0 ∧ b = c.qu) ∨ (c.qu = 0 ∧ (Trail.blank b = true ∨ b = 62)) then (if ends c = false then bad else if c.qu ≠ 0 then within c 9 else if b = 62 then closes c.el else within c 4)
    else if c.qu = 0 ∧ odd b = true then bad else if c.ak = 1 then Trail.url c b else if c.ak = 2 ∨ c.ak = 3 then (if b = 38 then bad else Trail.code c b (c.ak == 2)) else c := by
  unfold Trail.value odd
  dsimp only
  congr 1
  · simp
  · congr 1
    · simp
    · congr 1
      simp
  · congr 1
    simp [or_assoc]
theorem indexByte_odd {n : Int} (b : Nat) (hn : n = (b : Int)) (hb : b < 256) (w : World) : Calls Tryd.prog 104 #[.string (⟨#[34, 39, 60, 61, 96]⟩ : ByteArray), .int .u8 n] w fun e w' => ∃ ix : Int, e = .returned (.int .i64 ix) ∧ decide (0 ≤ ix) = odd b ∧ w = w' := by
  subst hn
  exact (indexByte_calls _ _ w).mono fun _ _ ⟨h, hw⟩ => ⟨_, h, odd_index b hb, hw⟩
set_option maxHeartbeats 4000000 in
set_option maxRecDepth 100000 in
theorem value_calls (c : Cx) (b : Nat) (hb : b < 256) (hs : Small c.nm) (hn : c.nm.length ≤ 1000) (w : World) (hG : Glob w) : Calls Tryd.prog 72 #[.agg (cxs c), .int .u8 (b : Int)] w (Ret (Trail.value c b) w) := by
  have hG0 := Aside0.mk hG
  have HB := Aside0.mk hb
  clear hb
  have hu33 := Tryd.underlying33
  have hz := glob_pos hG
  obtain ⟨g0, g1, g2, g3, g4, g5, g6, g7, g8, g9⟩ := glob_cells hG
  clear hG
  obtain ⟨st, el, en, ak, qu, pa, su, es, da, nm⟩ := c
  dsimp only at hs hn
  have HS := Aside0.mk hs
  have HN := Aside0.mk hn
  clear hs hn
  simp only [cxs]
  obtain ⟨r, hr⟩ : ∃ r, r = Trail.value ⟨st, el, en, ak, qu, pa, su, es, da, nm⟩ b := ⟨_, rfl⟩
  rw [← hr]
  have HR := Aside0.mk hr
  clear hr
  go_enter Tryd.func72, Tryd.ntmps72
  go_wp2_with (first | (go_at_call 97; (with_reducible refine (blank_at b ?hn _).mono ?_); (case hn => first | rfl | omega); rintro e w1 ⟨rfl, rfl⟩) | (go_at_call 103; (with_reducible refine (ends_at ⟨st, el, en, ak, qu, pa, su, es, da, nm⟩ ?hv _).mono ?_); (case hv => first | rfl | (simp [cxs, *]; done)); rintro e w1 ⟨rfl, rfl⟩) | (go_at_call 104; (with_reducible refine (indexByte_odd b ?hn HB.out _).mono ?_); (case hn => first | rfl | omega); rintro e w1 ⟨ix, rfl, hix, rfl⟩) | (go_at_call 99; (with_reducible refine (within_lit _ _ _ _ _ _ _ _ _ _ _ _).mono ?_); rintro e w1 ⟨rfl, hb⟩; obtain ⟨HA, HZ⟩ := after3 hb; obtain ⟨z0, z1, z2, z3, z4, z5, z6, z7, z8, z9, zf⟩ := HZ; clear hb) | (go_at_call 100; (with_reducible refine (closes_at el ?hn _).mono ?_); (case hn => first | rfl | omega); rintro e w1 ⟨rfl, hb⟩; obtain ⟨HA, HZ⟩ := after3 hb; obtain ⟨z0, z1, z2, z3, z4, z5, z6, z7, z8, z9, zf⟩ := HZ; clear hb; simp only [cxs]) | (go_at_call 105; (with_reducible refine (url_at ⟨st, el, en, ak, qu, pa, su, es, da, nm⟩ ?hv b ?hn HS.out HN.out _ (glob_old hG0.out)).mono ?_); (case hv => first | rfl | (simp [cxs, *]; done)); (case hn => first | rfl | omega); rintro e w1 ⟨rfl, hb⟩; obtain ⟨HA, HZ⟩ := after2 hb; obtain ⟨z0, z1, z2, z3, z4, z5, z6, z7, z8, z9, zf⟩ := HZ; clear hb; simp only [cxs]) | (go_at_call 106; (with_reducible refine (code_at ⟨st, el, en, ak, qu, pa, su, es, da, nm⟩ ?hv b ?hn _ _ (glob_old hG0.out)).mono ?_); (case hv => first | rfl | (simp [cxs, *]; done)); (case hn => first | rfl | omega); rintro e w1 ⟨rfl, hb⟩; obtain ⟨HA, HZ⟩ := after2 hb; obtain ⟨z0, z1, z2, z3, z4, z5, z6, z7, z8, z9, zf⟩ := HZ; clear hb; simp only [cxs]))
  all_goals
    clear hu33 g0 g1 g2 g3 g4 g5 g6 g7 g8 g9
    try simp only [cast_eq, Int.natCast_inj, beq_iff_eq, bne_iff_ne, Bool.eq_false_iff, ne_eq, Bool.not_eq_true', Bool.or_eq_true, Bool.and_eq_true, Decidable.not_not, decide_eq_true_eq] at *
    have hr := HR.out
    rw [value_eq] at hr
    try dsimp only at hr
    repeat' split at hr
    all_goals first
      | contradiction
      | (exfalso; omega)
      | (subst hr; (with_reducible refine ret_put HA Tryd.results72 ?_ ?_ ?_) <;> rfl)
      | (have ha : ak = 3 := by omega
         subst ha; subst_vars; (with_reducible refine ret_put HA Tryd.results72 ?_ ?_ ?_) <;> rfl)
      | (subst hr; (with_reducible refine ret_alloc3 Tryd.results72 ?_ ?_ ?_ ?_) <;> rfl)
      | (subst hr; (with_reducible refine ret_alloc2 Tryd.results72 ?_ ?_ ?_ ?_) <;> rfl)
      | (subst_vars; (with_reducible refine ret_put HA Tryd.results72 ?_ ?_ ?_) <;> rfl)
      | (subst_vars; (with_reducible refine ret_alloc3 Tryd.results72 ?_ ?_ ?_ ?_) <;> rfl)
      | (subst_vars; (with_reducible refine ret_alloc2 Tryd.results72 ?_ ?_ ?_ ?_) <;> rfl)
      | (exfalso; simp_all; done)
end Go.Proofs.YtfplocpjdjjoaaaDoor.Ctxs
namespace Go.Proofs.YtfplocpjdjjoaaaDoor.Ctxs
open Go Go.RowKit Go.Proofs.YtfplocpjdjjoaaaDoor.Trail Go.Proofs.YtfplocpjdjjoaaaDoorW.PrintWords
set_option linter.unusedVariables false
set_option linter.unusedSimpArgs false
theorem setCell_block (W : World) (p : Addr) (v : Value) (g : Nat) (h : g ≠ p.block) : (W.setCell p v).heap[g]? = W.heap[g]? := by
  simp [World.setCell, Array.getElem?_modify, Ne.symm h]
/-- A world behind w in which one's own context c lies in the first new block, the answer's block behind it, as yet zero, and the package variable as it was laid. -/
structure St (w V : World) (c : Cx) : Prop where
  own : V.heap[w.heap.size]? = some (.cells (cxs c) 33 (0, 0))
  ans : V.heap[w.heap.size + 1]? = some (.cells zeros 33 (0, 0))
  bw : Below w.heap.size w V
  gl : Glob V
theorem glob_below {w V : World} (h : Glob w) (hb : Below w.heap.size w V) : Glob V := by
  have h0 := glob_pos h
  obtain ⟨fr, h⟩ := h
  exact ⟨fr, (hb.block 0 h0).trans h⟩
theorem st0 {w : World} (c : Cx) (h : Glob w) : St w ((w.alloc (.cells (cxs c) 33)).alloc (.cells zeros 33)) c :=
  ⟨(alloc_old (by simp)).trans (alloc_at rfl), alloc_at (by simp), (((Below.refl _ _).alloc (Nat.le_refl _) _).alloc (by simp) _), glob_old h⟩
theorem St.lt {w V : World} {c : Cx} (h : St w V c) : w.heap.size + 1 < V.heap.size := (Array.getElem?_eq_some_iff.1 h.ans).1
theorem St.step {w V V' : World} {c : Cx} (h : St w V c) (hb : Below V.heap.size V V') : St w V' c :=
  ⟨(hb.block _ (by have := h.lt; omega)).trans h.own, (hb.block _ h.lt).trans h.ans, h.bw.trans (hb.mono (by have := h.lt; omega)), glob_below h.gl hb⟩
theorem St.alloc {w V : World} {c : Cx} (h : St w V c) (O : Obj) : St w (V.alloc O) c := h.step ((Below.refl _ _).alloc (Nat.le_refl _) _)
theorem St.drew {w V : World} {c : Cx} (h : St w V c) : St w V.drew c := h.step (Below.drew (Below.refl _ _))
theorem St.after {w V : World} {c : Cx} (h : St w V c) : After w V (w.heap.size + 1) := ⟨⟨_, rfl, h.ans⟩, h.bw, by omega⟩
/-- What the walk reads of such a world. -/
structure Facts (w V : World) (c : Cx) : Prop where
  own : Zero V w.heap.size (.int .u8 (c.st : Int)) (.int .u8 (c.el : Int)) (.bool c.en) (.int .u8 (c.ak : Int)) (.int .u8 (c.qu : Int)) (.int .u8 (c.pa : Int)) (.int .u8 (c.su : Int)) (.bool c.es) (.int .u8 (c.da : Int)) (.string (bs c.nm))
  ans : Zero V (w.heap.size + 1) (.int .u8 0) (.int .u8 0) (.bool false) (.int .u8 0) (.int .u8 0) (.int .u8 0) (.int .u8 0) (.bool false) (.int .u8 0) (.string (⟨#[]⟩ : ByteArray))
  gl : Zero V 0 (.int .u8 20) (.int .u8 0) (.bool false) (.int .u8 0) (.int .u8 0) (.int .u8 0) (.int .u8 0) (.bool false) (.int .u8 0) (.string (⟨#[]⟩ : ByteArray)) ∨ True
  gc : V.cell? ⟨0, 0, none⟩ = some (.int .u8 20) ∧ V.cell? ⟨0, 1, none⟩ = some (.int .u8 0) ∧ V.cell? ⟨0, 2, none⟩ = some (.bool false) ∧ V.cell? ⟨0, 3, none⟩ = some (.int .u8 0) ∧ V.cell? ⟨0, 4, none⟩ = some (.int .u8 0) ∧ V.cell? ⟨0, 5, none⟩ = some (.int .u8 0) ∧ V.cell? ⟨0, 6, none⟩ = some (.int .u8 0) ∧ V.cell? ⟨0, 7, none⟩ = some (.bool false) ∧ V.cell? ⟨0, 8, none⟩ = some (.int .u8 0) ∧ V.cell? ⟨0, 9, none⟩ = some (.string (⟨#[]⟩ : ByteArray))
  lt : w.heap.size + 1 < V.heap.size
theorem St.facts {w V : World} {c : Cx} (h : St w V c) : Facts w V c := ⟨zero_of h.own, zero_of h.ans, .inr trivial, glob_cells h.gl, h.lt⟩
/-- One's own context, laid anew cell by cell. -/
theorem St.put {w V : World} {c c' : Cx} {v0 v1 v2 v3 v4 v5 v6 v7 v8 v9 : Value} (h : St w V c) (hz : 0 < w.heap.size) (hc : #[v0, v1, v2, v3, v4, v5, v6, v7, v8, v9] = cxs c') :
    St w ((((((((((V.setCell ⟨w.heap.size, 0, none⟩ v0).setCell ⟨w.heap.size, 1, none⟩ v1).setCell ⟨w.heap.size, 2, none⟩ v2).setCell ⟨w.heap.size, 3, none⟩ v3).setCell ⟨w.heap.size, 4, none⟩ v4).setCell ⟨w.heap.size, 5, none⟩ v5).setCell ⟨w.heap.size, 6, none⟩ v6).setCell ⟨w.heap.size, 7, none⟩ v7).setCell ⟨w.heap.size, 8, none⟩ v8).setCell ⟨w.heap.size, 9, none⟩ v9) c' := by
  refine ⟨hc ▸ put10 rfl h.own v0 v1 v2 v3 v4 v5 v6 v7 v8 v9, ?_, below10 h.bw (Nat.le_refl _) v0 v1 v2 v3 v4 v5 v6 v7 v8 v9, ?_⟩
  · have e : ∀ (W : World) (p : Addr) (v : Value), p.block = w.heap.size → (W.setCell p v).heap[w.heap.size + 1]? = W.heap[w.heap.size + 1]? := fun W p v hp => setCell_block W p v _ (by rw [hp]; omega)
    rw [e _ _ _ rfl, e _ _ _ rfl, e _ _ _ rfl, e _ _ _ rfl, e _ _ _ rfl, e _ _ _ rfl, e _ _ _ rfl, e _ _ _ rfl, e _ _ _ rfl, e _ _ _ rfl]
    exact h.ans
  · obtain ⟨fr, hg⟩ := h.gl
    refine ⟨fr, ?_⟩
    have e : ∀ (W : World) (p : Addr) (v : Value), p.block = w.heap.size → (W.setCell p v).heap[0]? = W.heap[0]? := fun W p v hp => setCell_block W p v _ (by rw [hp]; omega)
    rw [e _ _ _ rfl, e _ _ _ rfl, e _ _ _ rfl, e _ _ _ rfl, e _ _ _ rfl, e _ _ _ rfl, e _ _ _ rfl, e _ _ _ rfl, e _ _ _ rfl, e _ _ _ rfl]
    exact hg
/-- One cell of it, laid anew. -/
theorem St.set {w V : World} {c c' : Cx} (h : St w V c) (hz : 0 < w.heap.size) (i : Nat) (v : Value) (hc : (cxs c).setIfInBounds i v = cxs c') : St w (V.setCell ⟨w.heap.size, i, none⟩ v) c' := by
  refine ⟨?_, (setCell_block V ⟨w.heap.size, i, none⟩ v _ (by show w.heap.size + 1 ≠ w.heap.size; omega)).trans h.ans, h.bw.setCell (p := ⟨w.heap.size, i, none⟩) (Nat.le_refl _) v, ?_⟩
  · have := Joins.block_setCell (i := i) h.own v
    rw [this, hc]
  · obtain ⟨fr, hg⟩ := h.gl
    exact ⟨fr, (setCell_block V ⟨w.heap.size, i, none⟩ v 0 (by show 0 ≠ w.heap.size; omega)).trans hg⟩
set_option maxHeartbeats 4000000 in
set_option maxRecDepth 100000 in
theorem coded_world (c : Cx) (w : World) : Calls Tryd.prog 129 #[.agg (cxs c)] w fun e w' => e = .returned (.bool (Trail.coded c)) ∧ w' = w.alloc (.cells (cxs c) 33) := by
  have hu33 := Tryd.underlying33
  obtain ⟨st, el, en, ak, qu, pa, su, es, da, nm⟩ := c
  unfold cxs
  dsimp only
  obtain ⟨q, hq⟩ : ∃ q, q = Trail.coded ⟨st, el, en, ak, qu, pa, su, es, da, nm⟩ := ⟨_, rfl⟩
  rw [← hq]
  have HQ := Aside0.mk hq
  clear hq
  go_enter Tryd.func129, Tryd.ntmps129
  go_wp2
  all_goals
    clear hu33
    go_ret
    refine ⟨ret_bool ?_, ?_⟩
    rotate_left
    · first
        | rfl
        | ((try simp only [cast_eq, Int.natCast_inj, beq_iff_eq, bne_iff_ne, Bool.eq_false_iff, ne_eq, Bool.not_eq_true', Bool.or_eq_true, Bool.and_eq_true, Decidable.not_not, decide_eq_true_eq] at *); subst_vars; rfl)
    rw [HQ.out]
    (try simp only [cast_eq, Int.natCast_inj, beq_iff_eq, bne_iff_ne, Bool.eq_false_iff, ne_eq, Bool.not_eq_true', Bool.or_eq_true, Bool.and_eq_true, Decidable.not_not, decide_eq_true_eq] at *)
    unfold Trail.coded
    dsimp only
    rw [Bool.eq_iff_iff]
    repeat' split
    all_goals first
      | (exfalso; omega)
      | (simp; done)
      | (simp; omega)
theorem coded_at {v : Array Value} (c : Cx) (hv : v = cxs c) (w : World) : Calls Tryd.prog 129 #[.agg v] w fun e w' => e = .returned (.bool (Trail.coded c)) ∧ w' = w.alloc (.cells v 33) := hv ▸ coded_world c w
end Go.Proofs.YtfplocpjdjjoaaaDoor.Ctxs
namespace Go.Proofs.YtfplocpjdjjoaaaDoor.Ctxs
open Go Go.RowKit Go.Proofs.YtfplocpjdjjoaaaDoor.Trail Go.Proofs.YtfplocpjdjjoaaaDoorW.PrintWords
set_option linter.unusedVariables false
set_option linter.unusedSimpArgs false
/-- A name that can have been read: bytes, none of them a great letter. -/
def Low (l : List Nat) : Prop := ∀ x ∈ l, x < 256 ∧ (x < 65 ∨ 90 < x)
theorem Low.small {l : List Nat} (h : Low l) : Small l := fun x hx => (h x hx).1
theorem bs_get' {l : List Nat} {k : Nat} (h : k < (bs l).size) (hs : Small l) (hk : k < l.length) : ((bs l)[k].toNat : Int) = (l[k] : Int) := by
  have hb := hs _ (List.getElem_mem hk)
  have e : (bs l)[k] = (l[k]).toUInt8 := by
    show (bs l).data[k] = _
    simp [bs]
  rw [e]
  simp only [Nat.toUInt8_eq, UInt8.toNat_ofNat']
  omega
set_option maxHeartbeats 4000000 in
set_option maxRecDepth 100000 in
theorem formNamed (l : List Nat) (m : Nat) (hl : Low l) (h1 : 1 ≤ l.length) (h2 : l.length ≤ m) (hm : m ≤ 1000) (w : World) : Calls Tryd.prog 30 #[.string (bs l), .int .i64 (m : Int)] w fun e w' => e = .returned (.bool true) ∧ w = w' := by
  have hsz : (bs l).size = l.length := bs_size l
  have c1 : decide ((1 : Int) ≤ ((bs l).size : Int)) = true := decide_eq_true (by omega)
  have c2 : decide (((bs l).size : Int) ≤ (m : Int)) = true := decide_eq_true (by omega)
  have c3 : decide ((bs l).size ≤ m) = true := decide_eq_true (by omega)
  have c4 : decide (1 ≤ (bs l).size) = true := decide_eq_true (by omega)
  have hmx : (bs l).size ≤ 1000 := by omega
  have HL := Aside0.mk hl
  have HSZ := Aside0.mk hsz
  clear hl hsz h1 h2
  go_enter Tryd.func30, Tryd.ntmps30
  go_wp2
  go_loop [8] (fun i => ∃ k : Nat, k ≤ l.length ∧ i = .int .i64 k) (fun i => l.length - (intOf i).toNat)
  case atStart => exact ⟨0, Nat.zero_le _, rfl⟩
  case round =>
    obtain ⟨k, hk, rfl⟩ := hrel
    by_cases hlt : k < l.length
    · have hks : k < (bs l).size := by rw [HSZ.out]; exact hlt
      have hb := bs_get' hks HL.out.small hlt
      have hx := (HL.out _ (List.getElem_mem hlt)).2
      have hx2 : (((bs l)[k].toNat : Int) < 65) ∨ (90 : Int) < ((bs l)[k].toNat : Int) := by omega
      have HK := Aside0.mk hlt
      clear hx hb hk hlt
      rcases hx2 with hx2 | hx2
      · have d1 : decide ((65 : Int) ≤ ((bs l)[k].toNat : Int)) = false := decide_eq_false (by omega)
        clear hx2
        go_wp2
        go_round
        case rel => exact ⟨k + 1, HK.out, by go_num⟩
        case measure => have := HK.out; simp [intOf]; omega
      · have d1 : decide ((65 : Int) ≤ ((bs l)[k].toNat : Int)) = true := decide_eq_true (by omega)
        have d2 : decide (((bs l)[k].toNat : Int) ≤ 90) = false := decide_eq_false (by omega)
        clear hx2
        go_wp2
        go_round
        case rel => exact ⟨k + 1, HK.out, by go_num⟩
        case measure => have := HK.out; simp [intOf]; omega
    · obtain rfl : k = l.length := by omega
      have d1 : decide (l.length < (bs l).size) = false := decide_eq_false (by rw [HSZ.out]; omega)
      have d2 : decide ((l.length : Int) < ((bs l).size : Int)) = false := decide_eq_false (by rw [HSZ.out]; omega)
      clear hk hlt
      go_wp2
      go_ret
      exact ⟨rfl, rfl⟩
set_option maxHeartbeats 4000000 in
set_option maxRecDepth 100000 in
theorem formCodeW (c : Cx) (script : Bool) (h1 : script = true ∨ c.su ≠ 4) (h2 : c.es = false ∨ c.su = 1 ∨ c.su = 2) (w : World) : Calls Tryd.prog 55 #[.agg (cxs c), .bool script] w fun e w' => e = .returned (.bool true) ∧ w' = w.alloc (.cells (cxs c) 33) := by
  have hu33 := Tryd.underlying33
  have a1 : script = true ∨ (script = false ∧ ((c.su : Int) == 4) = false) := by
    cases script
    · right; refine ⟨rfl, ?_⟩
      rcases h1 with h1 | h1
      · cases h1
      · rw [beq_eq_false_iff_ne]; omega
    · left; rfl
  have a2 : c.es = false ∨ ((c.su : Int) == 1) = true ∨ (((c.su : Int) == 1) = false ∧ ((c.su : Int) == 2) = true) := by
    rcases h2 with h2 | h2 | h2
    · exact .inl h2
    · right; left; rw [beq_iff_eq]; omega
    · right; right; rw [beq_iff_eq, beq_eq_false_iff_ne]; omega
  clear h1 h2
  obtain ⟨st, el, en, ak, qu, pa, su, es, da, nm⟩ := c
  dsimp only at a1 a2
  simp only [cxs]
  rcases a1 with rfl | ⟨rfl, a1⟩ <;> rcases a2 with rfl | a2 | ⟨a2, a3⟩
  all_goals
    (try cases es)
    all_goals
      go_enter Tryd.func55, Tryd.ntmps55
      go_wp2
      all_goals
        clear hu33
        go_ret
        exact ⟨rfl, rfl⟩
theorem formCode (c : Cx) (script : Bool) (h1 : script = true ∨ c.su ≠ 4) (h2 : c.es = false ∨ c.su = 1 ∨ c.su = 2) (w : World) : Calls Tryd.prog 55 #[.agg (cxs c), .bool script] w fun e w' => e = .returned (.bool true) ∧ Below w.heap.size w w' :=
  (formCodeW c script h1 h2 w).mono fun _ _ ⟨h, hw⟩ => ⟨h, hw ▸ (Below.refl _ _).alloc (Nat.le_refl _) _⟩
end Go.Proofs.YtfplocpjdjjoaaaDoor.Ctxs
namespace Go.Proofs.YtfplocpjdjjoaaaDoor.Ctxs
open Go Go.RowKit Go.Proofs.YtfplocpjdjjoaaaDoor.Trail Go.Proofs.YtfplocpjdjjoaaaDoorW.PrintWords
set_option linter.unusedVariables false
set_option linter.unusedSimpArgs false
theorem code_same (c : Cx) (b : Nat) (s : Bool) (h : (Trail.code c b s).st ≠ 20) : (Trail.code c b s).el = c.el := by
  unfold Trail.code codeTop text at h ⊢
  repeat' split
  all_goals first
    | rfl
    | (exfalso; simp_all [bad]; done)
theorem code_el (c : Cx) (b : Nat) (s : Bool) (h : (Trail.code c b s).st ≠ 20) : (Trail.code c b s).el = c.el := by
  rcases code_flat c b s with e | ⟨-, e, -⟩
  · rw [e] at h; exact absurd rfl h
  · have := code_same c b s h
    exact this
theorem bs_get {l : List Nat} {k : Nat} (h : k < (bs l).size) (hs : Small l) (hk : k < l.length) : ((bs l)[k].toNat : Int) = (l[k] : Int) := by
  have hb := hs _ (List.getElem_mem hk)
  have e : (bs l)[k] = (l[k]).toUInt8 := by
    show (bs l).data[k] = _
    simp [bs]
  rw [e]
  simp only [Nat.toUInt8_eq, UInt8.toNat_ofNat']
  omega
set_option maxHeartbeats 4000000 in
set_option maxRecDepth 100000 in
theorem fed_calls (c : Cx) (l : List Nat) (feed : Bool) (hl : Small l) (hn : l.length ≤ 1000) (w : World) (hG : Glob w) : Calls Tryd.prog 107 #[.agg (cxs c), .string (bs l), .bool feed] w (Ret (Trail.fed c l feed) w) := by
  have hu33 := Tryd.underlying33
  have hz := glob_pos hG
  have HZ := Aside0.mk hz
  have hG0 := Aside0.mk hG
  have HL := Aside0.mk hl
  have hsz : (bs l).size = l.length := bs_size l
  have hmx : (bs l).size ≤ 1000 := by omega
  obtain ⟨c0, hc0⟩ : ∃ c0 : Cx, c0 = { c with st := 17, nm := [] } := ⟨_, rfl⟩
  have hfed : Trail.fed c l feed = if (!feed || !coded c0) = true then c0 else run c0 (c0.el == 3) l := by rw [hc0]; rfl
  have HC := Aside0.mk hc0
  obtain ⟨hc0', HC'⟩ : (cxs c0 = #[.int .u8 17, .int .u8 (c.el : Int), .bool c.en, .int .u8 (c.ak : Int), .int .u8 (c.qu : Int), .int .u8 (c.pa : Int), .int .u8 (c.su : Int), .bool c.es, .int .u8 (c.da : Int), .string (⟨#[]⟩ : ByteArray)]) ∧ True := ⟨by rw [hc0]; rfl, trivial⟩
  have HE := Aside0.mk hc0'
  clear hc0' HC' hc0
  cases hq : (!feed || !coded c0) with
  | true =>
    rw [hq] at hfed
    rw [hfed, if_pos rfl]
    clear hfed hsz hl hn hG
    cases feed with
    | false =>
      clear hq
      simp only [cxs]
      go_enter Tryd.func107, Tryd.ntmps107
      go_wp2
      clear hu33
      (with_reducible refine ret_alloc2 Tryd.results107 ?_ ?_ ?_ ?_)
      · rfl
      · rfl
      · rfl
      · exact HE.out.symm
    | true =>
      have hq' : coded c0 = false := by simpa using hq
      clear hq
      simp only [cxs]
      go_enter Tryd.func107, Tryd.ntmps107
      go_wp2_with (go_at_call 129; (with_reducible refine (coded_at c0 ?hv _).mono ?_); (case hv => exact HE.out.symm); rintro e w1 ⟨rfl, rfl⟩; rw [hq'])
      clear hu33
      (with_reducible refine ret_alloc3 Tryd.results107 ?_ ?_ ?_ ?_)
      · rfl
      · rfl
      · rfl
      · exact HE.out.symm
  | false =>
    rw [hq] at hfed
    rw [hfed, if_neg (by decide)]
    obtain ⟨rfl, hq'⟩ : feed = true ∧ coded c0 = true := by simpa using hq
    clear hq hfed
    have hst0 := st0 c0 hG
    rw [HE.out] at hst0
    have hst1 := Aside0.mk (hst0.alloc (.cells (cxs c0) 33))
    rw [HE.out] at hst1
    clear hst0
    simp only [cxs]
    clear hl hn hG
    have HSZ := Aside0.mk hsz
    clear hsz
    go_enter Tryd.func107, Tryd.ntmps107
    go_wp2_with (go_at_call 129; (with_reducible refine (coded_at c0 ?hv _).mono ?_); (case hv => exact HE.out.symm); rintro e w1 ⟨rfl, rfl⟩; rw [hq'])
    go_loopw [20] (fun iv wr => ∃ (k : Nat) (d : Cx), k ≤ l.length ∧ iv = .int .i64 k ∧ d.el = c0.el ∧ run c0 (c0.el == 3) l = run d (c0.el == 3) (l.drop k) ∧ St w wr d)
      (fun iv _ => l.length - (intOf iv).toNat)
    case atStart => exact ⟨0, c0, Nat.zero_le _, rfl, rfl, rfl, hst1.out⟩
    case round =>
      obtain ⟨k, d, hk, rfl, hel, hrun, hS⟩ := hrel
      have HS := Aside0.mk hS
      have HRUN := Aside0.mk hrun
      have HEL := Aside0.mk hel
      clear hrun hel
      obtain ⟨⟨y0, y1, y2, y3, y4, y5, y6, y7, y8, y9, yf⟩, ⟨z0, z1, z2, z3, z4, z5, z6, z7, z8, z9, zf⟩, -, ⟨g0, g1, g2, g3, g4, g5, g6, g7, g8, g9⟩, hlt⟩ := (hS).facts
      clear hS
      have HK := Aside0.mk hk
      by_cases hlt : k < l.length
      · have hks : k < (bs l).size := by rw [HSZ.out]; exact hlt
        have hb := bs_get hks HL.out hlt
        clear hk
        obtain ⟨x, hx⟩ : ∃ x, x = l[k] := ⟨_, rfl⟩
        rw [← hx] at hb
        have hdrop : l.drop k = x :: l.drop (k + 1) := by rw [hx]; exact List.drop_eq_getElem_cons hlt
        have HD := Aside0.mk hdrop
        have HB := Aside0.mk hb
        have hse : ((d.el : Int) == 3) = (c0.el == 3) := by
          rw [HEL.out, Bool.eq_iff_iff]
          simp only [beq_iff_eq]
          omega
        clear hx hdrop hb
        have HSE := Aside0.mk hse
        clear hse
        by_cases hbad : (Trail.code d x (c0.el == 3)).st = 20
        · have c1 : (((Trail.code d x (c0.el == 3)).st : Int) == 20) = true := by rw [hbad]; rfl
          have c2 : ((Trail.code d x (c0.el == 3)).st : Int) = 20 := by rw [hbad]; rfl
          have HBAD := Aside0.mk hbad
          clear hbad
          go_wp2
          go_region_with (go_at_call 106; (with_reducible refine (code_at d ?hv x ?hn _ _ HS.out.drew.gl).mono ?_); (case hv => rfl); (case hn => exact HB.out); rintro e w1 ⟨rfl, hb⟩; have HS1 := Aside0.mk (HS.out.drew.step hb); clear hb; obtain ⟨⟨y0, y1, y2, y3, y4, y5, y6, y7, y8, y9, yf⟩, ⟨z0, z1, z2, z3, z4, z5, z6, z7, z8, z9, zf⟩, -, ⟨g0, g1, g2, g3, g4, g5, g6, g7, g8, g9⟩, hlt1⟩ := (HS1.out).facts; rw [HSE.out]; simp only [cxs])
          all_goals
            go_wp2
            have e : run c0 (c0.el == 3) l = bad := by rw [HRUN.out, HD.out, run]; exact if_pos HBAD.out
            rw [e]
            (with_reducible refine ret_put (V := _) ?_ Tryd.results107 ?_ ?_ ?_)
            rotate_left
            · rfl
            · rfl
            · rfl
            · exact St.after (St.put (c' := Trail.code d x (c0.el == 3)) HS1.out HZ.out (by unfold cxs; rw [HBAD.out]; rfl))
        · have c1 : (((Trail.code d x (c0.el == 3)).st : Int) == 20) = false := by rw [beq_eq_false_iff_ne]; omega
          have c2 : ¬ ((Trail.code d x (c0.el == 3)).st : Int) = 20 := by omega
          have HBAD := Aside0.mk hbad
          clear hbad
          go_wp2
          go_region_with (go_at_call 106; (with_reducible refine (code_at d ?hv x ?hn _ _ HS.out.drew.gl).mono ?_); (case hv => rfl); (case hn => exact HB.out); rintro e w1 ⟨rfl, hb⟩; have HS1 := Aside0.mk (HS.out.drew.step hb); clear hb; obtain ⟨⟨y0, y1, y2, y3, y4, y5, y6, y7, y8, y9, yf⟩, ⟨z0, z1, z2, z3, z4, z5, z6, z7, z8, z9, zf⟩, -, ⟨g0, g1, g2, g3, g4, g5, g6, g7, g8, g9⟩, hlt1⟩ := (HS1.out).facts; rw [HSE.out]; simp only [cxs])
          all_goals
            go_wp2
            go_roundw
            case rel => exact ⟨k + 1, Trail.code d x (c0.el == 3), by omega, by go_num, (code_el d x _ HBAD.out).trans HEL.out, (by rw [HRUN.out, HD.out, run]; exact if_neg HBAD.out), St.put (c' := Trail.code d x (c0.el == 3)) HS1.out HZ.out rfl⟩
            case measure => simp [intOf]; omega
      · obtain rfl : k = l.length := by omega
        have c1 : decide (l.length < (bs l).size) = false := decide_eq_false (by rw [HSZ.out]; omega)
        have c2 : decide ((l.length : Int) < ((bs l).size : Int)) = false := decide_eq_false (by rw [HSZ.out]; omega)
        go_wp2
        have e : run c0 (c0.el == 3) l = d := by rw [HRUN.out, List.drop_length]; rfl
        rw [e]
        (with_reducible refine ret_put HS.out.after Tryd.results107 ?_ ?_ ?_) <;> rfl
end Go.Proofs.YtfplocpjdjjoaaaDoor.Ctxs
