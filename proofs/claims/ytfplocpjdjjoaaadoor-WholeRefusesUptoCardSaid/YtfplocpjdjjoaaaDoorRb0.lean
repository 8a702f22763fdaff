/-
  A way of one name, as lex.Way and lex.action answer it.
  An action's word, where the action is one name.
  Rows of cells; where a hole stands in a text.
  The words of a template, handed on one by one.
  Conditions: as each theorem says.
-/
import Derived.Test.YtfplocpjdjjoaaaDoorGb
import Derived.Test.YtfplocpjdjjoaaaDoorSh
import Derived.RangeFuncNested
import Derived.RangeFuncBound
import Derived.RangeFuncCalls
import Derived.RangeFuncLeaves
import Derived.RangeFuncBox
import Derived.Shelf.Abstract
import Derived.Shelf.RegionOpen
import Derived.OwnWalkIn
import Derived.TacticsInMore
import Derived.LoopNIn
import Derived.LoopIn
import Derived.LoopTactic
import Derived.RangeFuncFrom
import Derived.BigQuiet
import Derived.Lib.IndexMore
namespace Go.Proofs.YtfplocpjdjjoaaaDoor.Refuse
open Go Go.RowKit Go.Shelf Go.Proofs.YtfplocpjdjjoaaaDoor.Trail Go.Proofs.YtfplocpjdjjoaaaDoor.Ctxs Go.Proofs.YtfplocpjdjjoaaaDoorW.PrintWords
attribute [local go_sem] Oper.semAt_some
set_option linter.unusedVariables false
set_option linter.unusedSimpArgs false
/-- The name x. -/
abbrev sx : ByteArray := ⟨#[120]⟩
set_option maxHeartbeats 4000000 in
set_option maxRecDepth 100000 in
theorem nameX_calls (w : World) : Calls Tryd.prog 151 #[.string sx] w fun e w' => e = .returned (.bool true) ∧ w = w' := by
  go_enter Tryd.func151, Tryd.ntmps151
  go_wp2
  go_loopw [7] (fun iv wr => ∃ k : Nat, k ≤ 1 ∧ iv = .int .i64 k ∧ wr = w)
    (fun iv _ => 1 - (intOf iv).toNat)
  case atStart => exact ⟨0, by omega, rfl, rfl⟩
  case round =>
    obtain ⟨k, hk, rfl, rfl⟩ := hrel
    by_cases hlt : k < 1
    · obtain rfl : k = 0 := by omega
      go_wp2
      go_roundw
      case rel => exact ⟨1, by omega, rfl, by first | rfl | trivial⟩
      case measure => simp [intOf]
    · obtain rfl : k = 1 := by omega
      go_wp2
      go_ret
      exact ⟨rfl, by first | rfl | trivial⟩
set_option maxHeartbeats 4000000 in
set_option maxRecDepth 100000 in
theorem splitSeq_calls (w : World) : Calls Tryd.prog 166 #[.string sx, .string ⟨#[46]⟩, .int .i64 0] w fun e w' => e = .returned (.func (.func 177) #[] #[.pointer (some ⟨w.heap.size + 1, 0, none⟩), .pointer (some ⟨w.heap.size, 0, none⟩), .pointer (some ⟨w.heap.size + 1 + 1, 0, none⟩)]) ∧ w' = ((w.alloc (.cells #[.string sx] 9)).alloc (.cells #[.string ⟨#[46]⟩] 9)).alloc (.cells #[.int .i64 0] 3) := by
  go_enter Tryd.func166, Tryd.ntmps166
  go_wp2
  go_ret
  exact ⟨rfl, rfl⟩
set_option maxHeartbeats 4000000 in
set_option maxRecDepth 100000 in
theorem SplitSeq_calls (w : World) : Calls Tryd.prog 150 #[.string sx, .string ⟨#[46]⟩] w fun e w' => e = .returned (.func (.func 177) #[] #[.pointer (some ⟨w.heap.size + 1, 0, none⟩), .pointer (some ⟨w.heap.size, 0, none⟩), .pointer (some ⟨w.heap.size + 1 + 1, 0, none⟩)]) ∧ w' = ((w.alloc (.cells #[.string sx] 9)).alloc (.cells #[.string ⟨#[46]⟩] 9)).alloc (.cells #[.int .i64 0] 3) := by
  go_enter Tryd.func150, Tryd.ntmps150
  go_wp2_with (go_at_call 166; (with_reducible refine (splitSeq_calls _).mono ?_); rintro e w1 ⟨rfl, rfl⟩)
  go_ret
  exact ⟨rfl, rfl⟩
theorem index_x : Lib.indexByte sx.data.toList 46 = -1 := by decide
set_option maxHeartbeats 4000000 in
set_option maxRecDepth 100000 in
/-- The parts of the text x, split at its dots: x by itself. -/
theorem parts_in (n : Nat) (hn : 1 ≤ n) (l B0 B1 B2 : Nat) (w0 : World) (J Jx : List Unit → World → Prop)
    (hY : ∀ pre x W, J pre W → pre.length < 1 → YieldAt Fence.wide (n - 1) Tryd.prog l #[.string sx] W fun e W' =>
      (e = .returned (.bool true) ∧ J (pre ++ [x]) W' ∧ Below w0.heap.size W W') ∨ (e = .returned (.bool false) ∧ Jx (pre ++ [x]) W'))
    (W : World) (hW : Below w0.heap.size w0 W) (h1 : W.cell? ⟨B1, 0, none⟩ = some (.string ⟨#[46]⟩)) (h0 : W.cell? ⟨B0, 0, none⟩ = some (.string sx)) (h2 : W.cell? ⟨B2, 0, none⟩ = some (.int .i64 0)) (hj : J [] W) :
    CallsIn Fence.wide n Tryd.prog 177 (#[.func (.yield l) #[] #[]] ++ #[.pointer (some ⟨B1, 0, none⟩), .pointer (some ⟨B0, 0, none⟩), .pointer (some ⟨B2, 0, none⟩)]) W fun e W' => (∃ v, e = .returned v) ∧
      ((∃ ys, ys.length = 1 ∧ J ys W') ∨ (∃ pre, pre.length ≤ 1 ∧ Jx pre W')) := by
  refine callsIn_of_wp Tryd.func177 rfl trivial ?_ rfl
  simp only [Tryd.ntmps177, List.size_toArray, List.length_cons, List.length_nil, Nat.reduceAdd, Nat.reduceSub, Array.replicate_succ, Array.replicate_zero, List.push_toArray, List.append_toArray, List.nil_append, List.cons_append]
  gi_wp2
  gi_loopw [] (fun wr => wr = W) (fun _ => 0)
  case atStart => rfl
  case round =>
    obtain rfl := hrel
    obtain ⟨fn, tmps, assign, body, hy, hR⟩ := hY [] () _ hj (by simp)
    try dsimp only at hy
    gi_wp2_with (refine ⟨trivial, ?_⟩; gi_at_call 92; refine (callsIn_wide.2 (Tryd.strings_Index_one sx 46 _)).mono ?_; rintro e w2 ⟨rfl, rfl⟩; rw [index_x])
    refine hR.mono ?_
    rintro e W3 (⟨rfl, hJ3, hk3⟩ | ⟨rfl, hJx3⟩)
    · gi_wp2
      go_end0
      exact ⟨⟨_, rfl⟩, .inl ⟨[()], rfl, hJ3⟩⟩
    · gi_wp2
      go_end0
      exact ⟨⟨_, rfl⟩, .inr ⟨[()], Nat.le_refl _, hJx3⟩⟩
theorem parts_stops (n : Nat) (hn : 1 ≤ n) (B0 B1 B2 : Nat) (w0 w : World) (hw : Below w0.heap.size w0 w) (h1 : w.cell? ⟨B1, 0, none⟩ = some (.string ⟨#[46]⟩)) (h0 : w.cell? ⟨B0, 0, none⟩ = some (.string sx)) (h2 : w.cell? ⟨B2, 0, none⟩ = some (.int .i64 0)) :
    SeqStopsK Fence.wide n Tryd.prog 177 #[.pointer (some ⟨B1, 0, none⟩), .pointer (some ⟨B0, 0, none⟩), .pointer (some ⟨B2, 0, none⟩)] (fun _ : Unit => #[Value.string sx]) (Below w0.heap.size) (fun ys => ys.length = 1) (fun pre => pre.length ≤ 1) 1 w := fun l J Jx W hW _ _ hY hj =>
  parts_in n hn l B0 B1 B2 w0 J Jx hY W (hw.trans (hW.mono hw.size)) ((hW.cell (World.block_lt_of_cell? w _ h1)).trans h1) ((hW.cell (World.block_lt_of_cell? w _ h0)).trans h0) ((hW.cell (World.block_lt_of_cell? w _ h2)).trans h2) hj
/-- The boxes of a way that is read: two answers, and the way itself. -/
structure Bx (W : World) (b : Nat) (v : Value) : Prop where
  a : W.heap[b]? = some (.cells #[.bool false, .slice none 0 0] 76 (0, 0))
  o : W.heap[b + 1]? = some (.cells #[.bool false] 4 (0, 0))
  w : W.heap[b + 2]? = some (.cells #[.bool false, v] 76 (0, 0))
theorem Bx.kept {W W' : World} {b : Nat} {v : Value} {row : Option Nat} (h : Bx W b v) (hg : W.grownBy W' row) (hr : ∀ r, row = some r → ∃ o : Obj, W.heap[r]? = some o ∧ o.isCells = false) : Bx W' b v :=
  ⟨(grownBy_keeps_cells hg hr h.a rfl).trans h.a, (grownBy_keeps_cells hg hr h.o rfl).trans h.o, (grownBy_keeps_cells hg hr h.w rfl).trans h.w⟩
theorem names_kept {W W' : World} {base k : Nat} {v : Value} {xs : List Value} {row : Option Nat} (h : W.ownsRow base 9 1 v k xs) (hg : W.grownBy W' row) (hr : ∀ r, row = some r → ∃ o : Obj, W.heap[r]? = some o ∧ o.isCells = false) : W'.ownsRow base 9 1 v k xs := by
  refine h.kept hg ?_
  rcases h.2 with ⟨rfl, _⟩ | ⟨g, cap, cur, rfl, _, hgb, _⟩
  · exact .inl rfl
  · refine .inr fun e' => ?_
    obtain ⟨o, ho, hc⟩ := hr g (by simpa [Value.ownBlock] using e'.symm)
    rw [hgb] at ho; cases ho; cases hc
theorem not_row {W : World} {B base k : Nat} {t : TypeId} {v : Value} {xs : List Value} {cs : Array Value} (h : W.heap[B]? = some (.cells cs t (0, 0))) (ht : t ≠ 9) (hr : W.ownsRow base 9 1 v k xs) : some B ≠ v.ownBlock := by
  rcases hr.2 with ⟨rfl, _⟩ | ⟨g, cap, cur, rfl, _, hgb, _⟩
  · simp [Value.ownBlock]
  · intro e'
    obtain rfl : B = g := by simpa [Value.ownBlock] using e'
    have := h.symm.trans hgb
    simp at this
    exact ht this.2
theorem Bx.appended {W w1 : World} {b n0 k m : Nat} {v v' : Value} {xs ys : List Value} {tmp : Obj} (h : Bx W b v) (hrow : W.ownsRow n0 9 1 v k xs) (hn0 : n0 ≤ W.heap.size) (hb : n0 ≤ b) (hown : w1.ownsRow n0 9 1 v' m ys) (hgrow : (W.alloc tmp).grownBy w1 v.ownBlock) :
    Bx w1 b v ∧ Bx (w1.setCell ⟨b + 2, 1, none⟩ v') b v' ∧ (w1.setCell ⟨b + 2, 1, none⟩ v').ownsRow n0 9 1 v' m ys ∧ KeepsOthers W (w1.setCell ⟨b + 2, 1, none⟩ v') ∧ Below n0 W (w1.setCell ⟨b + 2, 1, none⟩ v') := by
  have k1 : ∀ {j : Nat} {cs : Array Value} {t : TypeId}, t ≠ 9 → W.heap[j]? = some (.cells cs t (0, 0)) → w1.heap[j]? = some (.cells cs t (0, 0)) := by
    intro j cs t ht hj
    have hlt := (Array.getElem?_eq_some_iff.1 hj).1
    refine (hgrow.block j (by simp; omega) (not_row hj ht hrow)).trans ?_
    exact (Below.heap_alloc W tmp j hlt).trans hj
  have h1 : Bx w1 b v := ⟨k1 (by decide) h.a, k1 (by decide) h.o, k1 (by decide) h.w⟩
  refine ⟨h1, ⟨(Below.heap_setCell _ _ _ _ (by show b ≠ b + 2; omega)).trans h1.a, (Below.heap_setCell _ _ _ _ (by show b + 1 ≠ b + 2; omega)).trans h1.o, Joins.block_setCell (i := 1) h1.w v'⟩, ?_, ?_, ?_⟩
  · refine hown.kept (row := some (b + 2)) ⟨rfl, rfl, rfl, (KeepsWalks.setCell w1 _ v').size, fun k _ hk => Below.heap_setCell _ _ _ k (fun e => hk (by rw [e]))⟩ (.inr (not_row h1.w (by decide) hown).symm)
  · refine ((KeepsOthers.alloc W tmp).trans (KeepsOthers.of_grownBy hgrow fun j o ej hj => ?_)).trans (KeepsOthers.setCell _ _ _)
    rcases (hrow.alloc tmp).2 with ⟨rfl, _⟩ | ⟨g, cap, cur, rfl, _, hgb, _⟩
    · simp [Value.ownBlock] at ej
    · obtain rfl : g = j := by simpa [Value.ownBlock] using ej
      rw [hgb] at hj; cases hj; rfl
  · refine (((Below.refl n0 W).alloc hn0 tmp).grown hgrow (by simp; omega) fun j ej => ?_).setCell (p := ⟨b + 2, 1, none⟩) (by show n0 ≤ b + 2; omega) v'
    rcases hrow.2 with ⟨rfl, _⟩ | ⟨g, cap, cur, rfl, hb', _, _⟩
    · simp [Value.ownBlock] at ej
    · obtain rfl : g = j := by simpa [Value.ownBlock] using ej
      exact hb'
theorem info9 : (Tryd.prog.info? 9).map (fun i => (i.zero, i.size, i.bytes)) = some (some (.string ⟨#[]⟩), 1, 16) := by kernel_rfl
/-- Block g is a row of strings that begins with the name x. -/
def Nm (W : World) (g : Nat) : Prop := ∃ cur, W.heap[g]? = some (.cells cur 9 (0, 0)) ∧ cur[0]? = some (.string sx)
theorem Nm.cell {W : World} {g : Nat} (h : Nm W g) : W.cell? ⟨g, 0, none⟩ = some (.string sx) := by
  obtain ⟨cur, h, h0⟩ := h
  simp [World.cell?, h, h0]
theorem Nm.lt {W : World} {g : Nat} (h : Nm W g) : g < W.heap.size := by
  obtain ⟨cur, h, h0⟩ := h
  exact (Array.getElem?_eq_some_iff.1 h).1
theorem Nm.same {W V : World} {g : Nat} (h : Nm W g) (hv : V.heap[g]? = W.heap[g]?) : Nm V g := by
  obtain ⟨cur, h, h0⟩ := h
  exact ⟨cur, hv.trans h, h0⟩
theorem Nm.below {W V : World} {g : Nat} (h : Nm W g) (hb : Below W.heap.size W V) : Nm V g := h.same (hb.block g h.lt)
set_option maxHeartbeats 8000000 in
set_option maxRecDepth 100000 in
theorem way_calls (w : World) : Calls Tryd.prog 124 #[.string sx] w fun e w' => ∃ g c, e = .returned (.tuple #[.agg #[.bool false, .slice (some ⟨g, 0, none⟩) 1 c], .bool true]) ∧ Nm w' g ∧ w.heap.size ≤ g ∧ Below w.heap.size w w' := by
  obtain ⟨i0, hi, hz0, hz1, hz2⟩ := info_parts info9
  have hhp : Lib.hasPrefix sx.data.toList [36, 46] = false := by decide
  refine (callsIn_wide (n := 6)).1 ?_
  refine callsIn_of_wp_marks Tryd.func124 rfl trivial ?_ rfl
  simp only [Tryd.ntmps124, List.size_toArray, List.length_cons, List.length_nil, Nat.reduceAdd, Nat.reduceSub, Array.replicate_succ, Array.replicate_zero, List.push_toArray, List.append_toArray, List.nil_append, List.cons_append]
  gi_wp2_with (first
    | (refine ⟨trivial, ?_⟩; gi_at_call 56; refine (callsIn_wide.2 (hasPrefix_calls _ _ _)).mono ?_; rintro e w2 ⟨rfl, rfl⟩)
    | (refine ⟨trivial, ?_⟩; gi_at_call 150; refine (callsIn_wide.2 (SplitSeq_calls _)).mono ?_; rintro e w2 ⟨rfl, rfl⟩))
  obtain ⟨B, hB⟩ : ∃ B, B = w.heap.size := ⟨_, rfl⟩
  have HB := Aside0.mk hB
  have q1 : ∀ (V : World) (O : Obj) (k : Nat) (o : Obj), V.heap[k]? = some o → (V.alloc O).heap[k]? = some o := fun V O k o h => (Below.heap_alloc V O k (Array.getElem?_eq_some_iff.1 h).1).trans h
  have q2 : ∀ (V : World) (O : Obj) (m : Nat), m = V.heap.size → (V.alloc O).heap[m]? = some O := fun V O m h => by subst h; exact World.alloc_heap_new V O
  have e0 := q1 _ (.cells #[.int .i64 0] 3) _ _ (q1 _ (.cells #[.string ⟨#[46]⟩] 9) _ _ (q1 _ (.cells #[.string sx] 9) _ _ (q1 _ (.cells #[.bool false, .slice none 0 0] 76) _ _ (q1 _ (.cells #[.bool false] 4) _ _ (q2 w (.cells #[.bool false, .slice none 0 0] 76) B hB)))))
  have e1 := q1 _ (.cells #[.int .i64 0] 3) _ _ (q1 _ (.cells #[.string ⟨#[46]⟩] 9) _ _ (q1 _ (.cells #[.string sx] 9) _ _ (q1 _ (.cells #[.bool false, .slice none 0 0] 76) _ _ (q2 (w.alloc (.cells #[.bool false, .slice none 0 0] 76)) (.cells #[.bool false] 4) (B + 1) (by simp; omega)))))
  have e2 := q1 _ (.cells #[.int .i64 0] 3) _ _ (q1 _ (.cells #[.string ⟨#[46]⟩] 9) _ _ (q1 _ (.cells #[.string sx] 9) _ _ (q2 ((w.alloc (.cells #[.bool false, .slice none 0 0] 76)).alloc (.cells #[.bool false] 4)) (.cells #[.bool false, .slice none 0 0] 76) (B + 2) (by simp; omega))))
  have e3 := q1 _ (.cells #[.int .i64 0] 3) _ _ (q1 _ (.cells #[.string ⟨#[46]⟩] 9) _ _ (q2 (((w.alloc (.cells #[.bool false, .slice none 0 0] 76)).alloc (.cells #[.bool false] 4)).alloc (.cells #[.bool false, .slice none 0 0] 76)) (.cells #[.string sx] 9) (B + 1 + 1 + 1) (by simp; omega)))
  have e4 := q1 _ (.cells #[.int .i64 0] 3) _ _ (q2 ((((w.alloc (.cells #[.bool false, .slice none 0 0] 76)).alloc (.cells #[.bool false] 4)).alloc (.cells #[.bool false, .slice none 0 0] 76)).alloc (.cells #[.string sx] 9)) (.cells #[.string ⟨#[46]⟩] 9) (B + 1 + 1 + 1 + 1) (by simp; omega))
  have e5 := q2 (((((w.alloc (.cells #[.bool false, .slice none 0 0] 76)).alloc (.cells #[.bool false] 4)).alloc (.cells #[.bool false, .slice none 0 0] 76)).alloc (.cells #[.string sx] 9)).alloc (.cells #[.string ⟨#[46]⟩] 9)) (.cells #[.int .i64 0] 3) (B + 1 + 1 + 1 + 1 + 1) (by simp; omega)
  have HBA := Aside0.mk (((((((Below.refl w.heap.size w).alloc (Nat.le_refl _) (.cells #[.bool false, .slice none 0 0] 76)).alloc (by simp) (.cells #[.bool false] 4)).alloc (by simp; omega) (.cells #[.bool false, .slice none 0 0] 76)).alloc (by simp; omega) (.cells #[.string sx] 9)).alloc (by simp; omega) (.cells #[.string ⟨#[46]⟩] 9)).alloc (by simp; omega) (.cells #[.int .i64 0] 3))
  rw [← hB]
  have HSZ := Aside0.mk (show ((((((w.alloc (.cells #[.bool false, .slice none 0 0] 76)).alloc (.cells #[.bool false] 4)).alloc (.cells #[.bool false, .slice none 0 0] 76)).alloc (.cells #[.string sx] 9)).alloc (.cells #[.string ⟨#[46]⟩] 9)).alloc (.cells #[.int .i64 0] 3)).heap.size = B + 6 by simp; omega)
  generalize ((((((w.alloc (.cells #[.bool false, .slice none 0 0] 76)).alloc (.cells #[.bool false] 4)).alloc (.cells #[.bool false, .slice none 0 0] 76)).alloc (.cells #[.string sx] 9)).alloc (.cells #[.string ⟨#[46]⟩] 9)).alloc (.cells #[.int .i64 0] 3)) = wA at e0 e1 e2 e3 e4 e5 HBA HSZ ⊢
  have hst := parts_stops (6 - 1) (by omega) (B + 1 + 1 + 1) (B + 1 + 1 + 1 + 1) (B + 1 + 1 + 1 + 1 + 1) w wA HBA.out (by simp [World.cell?, e4]) (by simp [World.cell?, e3]) (by simp [World.cell?, e5])
  have HBX := Aside0.mk (show Bx wA B (.slice none 0 0) from ⟨e0, e1, e2⟩)
  clear e0 e1 e2 e3 e4 e5 q1 q2 hB
  refine wpIn_rangeFunc_ownG rfl (by omega) (gf := 177) (lb := #[.pointer (some ⟨B + 1 + 1 + 1 + 1, 0, none⟩), .pointer (some ⟨B + 1 + 1 + 1, 0, none⟩), .pointer (some ⟨B + 1 + 1 + 1 + 1 + 1, 0, none⟩)]) rfl trivial (enters_of Tryd.func177 (by kernel_rfl) rfl)
    hst belowK_t (belowK_b HBA.out.size) (Below.refl _ _) (fun _ => rfl)
    (fun pre W => (∃ v, Bx W B v ∧ W.ownsRow w.heap.size 9 1 v pre.length (pre.map fun _ => .string sx)) ∧ Below w.heap.size w W)
    (fun _ _ _ => False)
    (OwnFrom.and (Own.from (fun s A A' row hs hg hr => by obtain ⟨v, h1, h2⟩ := hs; exact ⟨v, h1.kept hg hr, names_kept h2 hg hr⟩) _) (ownFrom_below (Nat.le_refl _) HBA.out.size))
    (fun _ _ _ _ _ hs _ _ => hs)
    ⟨⟨_, HBX.out, World.ownsRow_nil _ _ _ _⟩, HBA.out⟩ ?a1 ?assign ?body ?done ?stop
  case assign =>
    intro l x W K hK
    gi_wp2
    exact hK
  case body =>
    rintro l pre x W ⟨⟨v, hv, hrow⟩, hb⟩ hlt
    obtain rfl : pre = [] := List.length_eq_zero_iff.1 (by omega)
    have c2 : W.cell? ⟨B + 2, 1, none⟩ = some v := by simp [World.cell?, hv.w]
    have c2' : W.cell? ⟨B + 1 + 1, 1, none⟩ = some v := c2
    have HV := Aside0.mk hv
    have HBW := Aside0.mk hb
    clear hv hb
    gi_wp2_with (first
      | (refine ⟨trivial, ?_⟩; gi_at_call 151; refine (callsIn_wide.2 (nameX_calls _)).mono ?_; rintro e w2 ⟨rfl, rfl⟩)
      | (gi_at_builtin; refine wpListIn_append_own _ rfl _ _ 74 rfl w.heap.size 9 i0 (.string ⟨#[]⟩) 1 16 Tryd.underlying74 hi hz0 hz1 hz2 rfl (by decide) _ _ _ rfl (hrow.alloc _) ⟨W.heap.size, 0, none⟩ 1 1 [.string sx] rfl rfl (cell_one_new _ _ _) (by simp [Value.oneCell']) (by simp [maxLen]) (by simp) (by have := HBW.out.size; simp; omega) ?_; intro v' w1 hown' hgrow _; obtain ⟨g', cap', rfl⟩ := ownsRow_succ hown'; obtain ⟨hv1, hv2, hr2, hk2, hb2⟩ := HV.out.appended hrow HBW.out.size (by have := HB.out; omega) hown' hgrow; have hc1 : w1.cell? ⟨B + 2, 1, none⟩ = some v := (by simp [World.cell?, hv1.w]); have hf1 : w1.frozen? ⟨B + 2, 1, none⟩ = false := Joins.unfrozen_of_block hv1.w 1; have hc1' : w1.cell? ⟨B + 1 + 1, 1, none⟩ = some v := hc1; have hf1' : w1.frozen? ⟨B + 1 + 1, 1, none⟩ = false := hf1))
    exact ⟨hk2.from _, hb2, ⟨_, hv2, by simpa using hr2⟩, HBW.out.trans hb2⟩
  case done =>
    rintro D ys W hD hlen ⟨⟨v, hv, hrow⟩, hb⟩ hK
    obtain ⟨u, rfl⟩ := List.length_eq_one_iff.1 hlen
    obtain ⟨g, cap, rfl⟩ := ownsRow_succ (k := 0) hrow
    have HROW := Aside0.mk hrow
    have HV := Aside0.mk hv
    have HBW := Aside0.mk hb
    have HK := Aside0.mk hK
    have HD := Aside0.mk hD
    have a0 : W.cell? ⟨B, 0, none⟩ = some (.bool false) := by simp [World.cell?, hv.a]
    have a1 : W.cell? ⟨B, 1, none⟩ = some (.slice none 0 0) := by simp [World.cell?, hv.a]
    have a2 : W.cell? ⟨B + 1, 0, none⟩ = some (.bool false) := by simp [World.cell?, hv.o]
    have a3 : W.cell? ⟨B + 1 + 1, 0, none⟩ = some (.bool false) := by simp [World.cell?, show W.heap[B + 1 + 1]? = _ from hv.w]
    have a4 : W.cell? ⟨B + 1 + 1, 1, none⟩ = some (.slice (some ⟨g, 0, none⟩) 1 cap) := by simp [World.cell?, show W.heap[B + 1 + 1]? = _ from hv.w]
    have f0 : W.frozen? ⟨B, 0, none⟩ = false := Joins.unfrozen_of_block hv.a 0
    have f1 : W.frozen? ⟨B, 1, none⟩ = false := Joins.unfrozen_of_block hv.a 1
    have f2 : W.frozen? ⟨B + 1, 0, none⟩ = false := Joins.unfrozen_of_block hv.o 0
    clear hv hb hK hrow hD hlen hst
    have hne : D ≠ B ∧ D ≠ B + 1 := by have h1 := HD.out; have h2 := HSZ.out; omega
    have v1 := (Below.heap_setCell (((W.setCell ⟨B, 0, none⟩ (.bool false)).setCell ⟨B, 1, none⟩ (.slice (some ⟨g, 0, none⟩) 1 cap))) ⟨B + 1, 0, none⟩ (.bool true) B (by show B ≠ B + 1; omega)).trans (Joins.block_setCell (i := 1) (Joins.block_setCell (i := 0) HV.out.a (.bool false)) (.slice (some ⟨g, 0, none⟩) 1 cap))
    have v2 := Joins.block_setCell (w := (W.setCell ⟨B, 0, none⟩ (.bool false)).setCell ⟨B, 1, none⟩ (.slice (some ⟨g, 0, none⟩) 1 cap)) (i := 0) ((Below.heap_setCell _ ⟨B, 1, none⟩ (.slice (some ⟨g, 0, none⟩) 1 cap) (B + 1) (by show B + 1 ≠ B; omega)).trans ((Below.heap_setCell _ ⟨B, 0, none⟩ (.bool false) (B + 1) (by show B + 1 ≠ B; omega)).trans HV.out.o)) (.bool true)
    have v3 := (KeepsOthers.setCell ((W.setCell ⟨B, 0, none⟩ (.bool false)).setCell ⟨B, 1, none⟩ (.slice (some ⟨g, 0, none⟩) 1 cap)) ⟨B + 1, 0, none⟩ (.bool true)).same D _ ((KeepsOthers.setCell (W.setCell ⟨B, 0, none⟩ (.bool false)) ⟨B, 1, none⟩ (.slice (some ⟨g, 0, none⟩) 1 cap)).same D _ ((KeepsOthers.setCell W ⟨B, 0, none⟩ (.bool false)).same D _ HK.out rfl) rfl) rfl
    have v4 : w.heap.size ≤ g ∧ Nm W g := by
      rcases HROW.out.2 with ⟨h, _⟩ | ⟨g', cap', cur, h, hb', hgb, _, _, _, ht⟩
      · cases h
      · cases h
        refine ⟨hb', cur, hgb, ?_⟩
        have h0 : (cur.toList.take ([u].length * 1))[0]? = some (.string sx) := by rw [ht]; rfl
        rw [List.getElem?_take] at h0
        simpa using h0
    have v5 : some g ≠ some B ∧ some g ≠ some (B + 1) := ⟨fun h => not_row HV.out.a (by decide) HROW.out (by rw [← h]; rfl), fun h => not_row HV.out.o (by decide) HROW.out (by rw [← h]; rfl)⟩
    have v6 : Nm (((W.setCell ⟨B, 0, none⟩ (.bool false)).setCell ⟨B, 1, none⟩ (.slice (some ⟨g, 0, none⟩) 1 cap)).setCell ⟨B + 1, 0, none⟩ (.bool true)) g := by
      refine v4.2.same ?_
      rw [Below.heap_setCell _ _ _ _ (fun h => v5.2 (by rw [show g = B + 1 from h])), Below.heap_setCell _ _ _ _ (fun h => v5.1 (by rw [show g = B from h])), Below.heap_setCell _ _ _ _ (fun h => v5.1 (by rw [show g = B from h]))]
    have v7 : Below w.heap.size w (((W.setCell ⟨B, 0, none⟩ (.bool false)).setCell ⟨B, 1, none⟩ (.slice (some ⟨g, 0, none⟩) 1 cap)).setCell ⟨B + 1, 0, none⟩ (.bool true)) := ((HBW.out.setCell (p := ⟨B, 0, none⟩) (by have := HB.out; show _ ≤ B; omega) _).setCell (p := ⟨B, 1, none⟩) (by have := HB.out; show _ ≤ B; omega) _).setCell (p := ⟨B + 1, 0, none⟩) (by have := HB.out; show _ ≤ B + 1; omega) _
    have HALL := Aside0.mk (And.intro v1 (And.intro v2 (And.intro v3 (And.intro v4 (And.intro v6 v7)))))
    clear v1 v2 v3 v4 v5 v6 v7
    gi_wp2
    obtain ⟨v1, v2, v3, v4, v6, v7⟩ := HALL.out
    generalize ((W.setCell ⟨B, 0, none⟩ (.bool false)).setCell ⟨B, 1, none⟩ (.slice (some ⟨g, 0, none⟩) 1 cap)).setCell ⟨B + 1, 0, none⟩ (.bool true) = V at v1 v2 v3 v6 v7 ⊢
    refine ⟨by simp, .inl ⟨_, _, rfl, run_takeDeferred v3, ?_⟩⟩
    have u1 := (World.putObj_heap_other (w := V) (o := .deferred none) (show B ≠ D from fun h => hne.1 h.symm)).trans v1
    have u2 := (World.putObj_heap_other (w := V) (o := .deferred none) (show B + 1 ≠ D from fun h => hne.2 h.symm)).trans v2
    have u6 : Nm (V.putObj D (.deferred none)) g := v6.same (World.putObj_heap_other (w := V) (o := .deferred none) (show g ≠ D from fun h => by
      obtain ⟨cur, h1, _⟩ := v6
      rw [h, v3] at h1
      cases h1))
    have u7 := v7.trans (belowK_b (w := w) (Nat.le_refl _) V D _ (.deferred none) (by have h1 := HD.out; have h2 := HBA.out.size; omega) v3 rfl rfl)
    have c0 : (V.putObj D (.deferred none)).cell? ⟨B, 0, none⟩ = some (.bool false) := by simp [World.cell?, u1]
    have c1 : (V.putObj D (.deferred none)).cell? ⟨B, 1, none⟩ = some (.slice (some ⟨g, 0, none⟩) 1 cap) := by simp [World.cell?, u1]
    have c2 : (V.putObj D (.deferred none)).cell? ⟨B + 1, 0, none⟩ = some (.bool true) := by simp [World.cell?, u2]
    refine ⟨.tuple #[.agg #[.bool false, .slice (some ⟨g, 0, none⟩) 1 cap], .bool true], ?_, g, cap, rfl, u6, v4.1, u7⟩
    simp [results, Tryd.f124, go_sem, c0, c1, c2]
  case stop =>
    rintro D c pre W _ _ h _
    exact h.elim
end Go.Proofs.YtfplocpjdjjoaaaDoor.Refuse
namespace Go.Proofs.YtfplocpjdjjoaaaDoor.Refuse
open Go Go.RowKit Go.Shelf Go.Proofs.YtfplocpjdjjoaaaDoor.Trail Go.Proofs.YtfplocpjdjjoaaaDoor.Ctxs Go.Proofs.YtfplocpjdjjoaaaDoorW.PrintWords
set_option linter.unusedVariables false
set_option linter.unusedSimpArgs false
theorem trim_x : (⟨(Lib.trimB sx.data.toList 32).toArray⟩ : ByteArray) = sx := by decide
theorem cut_if : Lib.hasPrefix sx.data.toList [105, 102, 32] = false ∧ (⟨(Lib.trimPrefix sx.data.toList [105, 102, 32]).toArray⟩ : ByteArray) = sx := by decide
theorem cut_range : Lib.hasPrefix sx.data.toList [114, 97, 110, 103, 101, 32] = false ∧ (⟨(Lib.trimPrefix sx.data.toList [114, 97, 110, 103, 101, 32]).toArray⟩ : ByteArray) = sx := by decide
theorem trimX_calls (w : World) : Calls Tryd.prog 121 #[.string sx, .string ⟨#[32]⟩] w fun e w' => e = .returned (.string sx) ∧ Below w.heap.size w w' := by
  refine (Tryd.strings_Trim_one sx 32 (by decide) w (by decide)).mono ?_
  rintro e w' ⟨rfl, h⟩
  refine ⟨by rw [trim_x], ?_⟩
  rcases h with rfl | rfl
  · exact Below.refl _ _
  · exact below_drew (Below.refl _ _)
theorem cutIf_calls (w : World) : Calls Tryd.prog 122 #[.string sx, .string ⟨#[105, 102, 32]⟩] w fun e w' => e = .returned (.tuple #[.string sx, .bool false]) ∧ w = w' := by
  refine (Tryd.strings_CutPrefix sx ⟨#[105, 102, 32]⟩ w).mono ?_
  rintro e w' ⟨rfl, rfl⟩
  exact ⟨by rw [cut_if.2, cut_if.1], rfl⟩
theorem cutRange_calls (w : World) : Calls Tryd.prog 122 #[.string sx, .string ⟨#[114, 97, 110, 103, 101, 32]⟩] w fun e w' => e = .returned (.tuple #[.string sx, .bool false]) ∧ w = w' := by
  refine (Tryd.strings_CutPrefix sx ⟨#[114, 97, 110, 103, 101, 32]⟩ w).mono ?_
  rintro e w' ⟨rfl, rfl⟩
  exact ⟨by rw [cut_range.2, cut_range.1], rfl⟩
/-- A word in memory, cell by cell. -/
def Five (W : World) (b : Nat) (v0 v1 v2 v3 v4 : Value) : Prop :=
  W.cell? ⟨b, 0, none⟩ = some v0 ∧ W.cell? ⟨b, 1, none⟩ = some v1 ∧ W.cell? ⟨b, 2, none⟩ = some v2 ∧ W.cell? ⟨b, 3, none⟩ = some v3 ∧ W.cell? ⟨b, 4, none⟩ = some v4 ∧ W.frozen? ⟨b, 0, none⟩ = false ∧ W.frozen? ⟨b, 1, none⟩ = false ∧ W.frozen? ⟨b, 2, none⟩ = false ∧ W.frozen? ⟨b, 3, none⟩ = false ∧ W.frozen? ⟨b, 4, none⟩ = false
theorem five_of {W : World} {b : Nat} {v0 v1 v2 v3 v4 : Value} (h : W.heap[b]? = some (.cells #[v0, v1, v2, v3, v4] 139 (0, 0))) : Five W b v0 v1 v2 v3 v4 :=
  ⟨by simp [World.cell?, h], by simp [World.cell?, h], by simp [World.cell?, h], by simp [World.cell?, h], by simp [World.cell?, h], Joins.unfrozen_of_block h 0, Joins.unfrozen_of_block h 1, Joins.unfrozen_of_block h 2, Joins.unfrozen_of_block h 3, Joins.unfrozen_of_block h 4⟩
abbrev word0 : Obj := .cells #[.int .u8 0, .int .i64 0, .string ⟨#[]⟩, .bool false, .slice none 0 0] 139
theorem word_alloc (w : World) : (w.alloc word0).heap[w.heap.size]? = some word0 := World.alloc_heap_new w _
theorem five_put {W : World} {b : Nat} (h : W.heap[b]? = some word0) (v0 v1 v2 v3 v4 : Value) :
    (((((W.setCell ⟨b, 0, none⟩ v0).setCell ⟨b, 1, none⟩ v1).setCell ⟨b, 2, none⟩ v2).setCell ⟨b, 3, none⟩ v3).setCell ⟨b, 4, none⟩ v4).heap[b]? = some (.cells #[v0, v1, v2, v3, v4] 139 (0, 0)) :=
  Joins.block_setCell (i := 4) (Joins.block_setCell (i := 3) (Joins.block_setCell (i := 2) (Joins.block_setCell (i := 1) (Joins.block_setCell (i := 0) h v0) v1) v2) v3) v4
theorem five_below {W V : World} {b n : Nat} (hb : Below n W V) (hn : n ≤ b) (v0 v1 v2 v3 v4 : Value) : Below n W (((((V.setCell ⟨b, 0, none⟩ v0).setCell ⟨b, 1, none⟩ v1).setCell ⟨b, 2, none⟩ v2).setCell ⟨b, 3, none⟩ v3).setCell ⟨b, 4, none⟩ v4) :=
  ((((hb.setCell (p := ⟨b, 0, none⟩) hn v0).setCell (p := ⟨b, 1, none⟩) hn v1).setCell (p := ⟨b, 2, none⟩) hn v2).setCell (p := ⟨b, 3, none⟩) hn v3).setCell (p := ⟨b, 4, none⟩) hn v4
theorem five_far {V : World} {b g : Nat} (hg : g ≠ b) (v0 v1 v2 v3 v4 : Value) : (((((V.setCell ⟨b, 0, none⟩ v0).setCell ⟨b, 1, none⟩ v1).setCell ⟨b, 2, none⟩ v2).setCell ⟨b, 3, none⟩ v3).setCell ⟨b, 4, none⟩ v4).heap[g]? = V.heap[g]? := by
  rw [Below.heap_setCell _ _ _ _ hg, Below.heap_setCell _ _ _ _ hg, Below.heap_setCell _ _ _ _ hg, Below.heap_setCell _ _ _ _ hg, Below.heap_setCell _ _ _ _ hg]
set_option maxHeartbeats 8000000 in
set_option maxRecDepth 100000 in
/-- The action x: a hole. -/
theorem action_calls (w : World) : Calls Tryd.prog 93 #[.string sx] w fun e w' => ∃ g c, e = .returned (.tuple #[.agg #[.int .u8 1, .int .i64 0, .string ⟨#[]⟩, .bool false, .slice (some ⟨g, 0, none⟩) 1 c], .bool true]) ∧ Nm w' g ∧ w.heap.size ≤ g ∧ Below w.heap.size w w' := by
  go_enter Tryd.func93, Tryd.ntmps93
  go_wp2_with (first
    | (go_at_call 121; refine (trimX_calls _).mono ?_; rintro e w1 ⟨rfl, hb1⟩; obtain ⟨B, hB⟩ : ∃ B, B = w.heap.size := ⟨_, rfl⟩; have h1 := (hb1.block B (by rw [hB]; simp)).trans (hB ▸ word_alloc w); have HB := Aside0.mk hB; have H1 := Aside0.mk h1; have HBL1 := Aside0.mk (((Below.refl w.heap.size w).alloc (Nat.le_refl _) word0).trans (hb1.mono (by simp))); rw [← hB]; clear hb1 h1 hB)
    | (go_at_call_of 122 (Value.string ⟨#[105, 102, 32]⟩); refine (cutIf_calls _).mono ?_; rintro e w2 ⟨rfl, rfl⟩)
    | (go_at_call_of 122 (Value.string ⟨#[114, 97, 110, 103, 101, 32]⟩); refine (cutRange_calls _).mono ?_; rintro e w3 ⟨rfl, rfl⟩)
    | (go_at_call 124; refine (way_calls _).mono ?_; rintro e w4 ⟨g, c, rfl, hc4, hg4, hb4⟩; have h4 := (hb4.block B (Array.getElem?_eq_some_iff.1 H1.out).1).trans H1.out; obtain ⟨y0, y1, y2, y3, y4, f0, f1, f2, f3, f4⟩ := five_of h4; have H4 := Aside0.mk h4; have hlt : B < w4.heap.size := (Array.getElem?_eq_some_iff.1 h4).1; have HBL4 := Aside0.mk (HBL1.out.trans (hb4.mono HBL1.out.size)); have HC4 := Aside0.mk hc4; have HG4 := Aside0.mk hg4; clear h4 hb4 hg4 hc4))
  have hb := (HBL4.out : Below w.heap.size w w4)
  have hle : w.heap.size ≤ B := by rw [HB.out]; exact Nat.le_refl _
  have p1 := five_put H4.out (.int .u8 1) (.int .i64 0) (.string ⟨#[]⟩) (.bool false) (.slice (some ⟨g, 0, none⟩) 1 c)
  have p2 := five_below hb hle (.int .u8 1) (.int .i64 0) (.string ⟨#[]⟩) (.bool false) (.slice (some ⟨g, 0, none⟩) 1 c)
  have hg : B < g := Nat.lt_of_lt_of_le (Array.getElem?_eq_some_iff.1 H1.out).1 HG4.out
  have p3 := HC4.out.same (five_far (V := w4) (b := B) (g := g) (by omega) (.int .u8 1) (.int .i64 0) (.string ⟨#[]⟩) (.bool false) (.slice (some ⟨g, 0, none⟩) 1 c))
  generalize ((((w4.setCell ⟨B, 0, none⟩ (.int .u8 1)).setCell ⟨B, 1, none⟩ (.int .i64 0)).setCell ⟨B, 2, none⟩ (.string ⟨#[]⟩)).setCell ⟨B, 3, none⟩ (.bool false)).setCell ⟨B, 4, none⟩ (.slice (some ⟨g, 0, none⟩) 1 c) = V at p1 p2 p3 ⊢
  have p4 := (Below.heap_alloc V (.cells #[.bool false, .slice (some ⟨g, 0, none⟩) 1 c] 76) B (Array.getElem?_eq_some_iff.1 p1).1).trans p1
  have p5 := p3.same (Below.heap_alloc V (.cells #[.bool false, .slice (some ⟨g, 0, none⟩) 1 c] 76) g p3.lt)
  have p6 := p2.alloc p2.size (.cells #[.bool false, .slice (some ⟨g, 0, none⟩) 1 c] 76)
  obtain ⟨z0, z1, z2, z3, z4, -, -, -, -, -⟩ := five_of p4
  refine bodyPost_ret (v := .tuple #[.agg #[.int .u8 1, .int .i64 0, .string ⟨#[]⟩, .bool false, .slice (some ⟨g, 0, none⟩) 1 c], .bool true]) ?_ rfl ⟨g, c, rfl, p5, by omega, p6⟩
  simp [results, Tryd.f93, go_sem, z0, z1, z2, z3, z4]
end Go.Proofs.YtfplocpjdjjoaaaDoor.Refuse
namespace Go.Proofs.YtfplocpjdjjoaaaDoor.Refuse
open Go Go.RowKit Go.Proofs.YtfplocpjdjjoaaaDoor.Trail Go.Proofs.YtfplocpjdjjoaaaDoor.Ctxs Go.Proofs.YtfplocpjdjjoaaaDoorW.PrintWords
set_option linter.unusedVariables false
set_option linter.unusedSimpArgs false
/-- A row of one's own (type e, sz cells an element), cell by cell. -/
def Rw (sz e : Nat) (W : World) (base : Nat) (v : Value) (rows : List (List Value)) : Prop := (Kd.raw sz).R e W base (fun _ => True) v rows
section
variable {sz e base : Nat} {W V : World} {v : Value} {rows : List (List Value)}
theorem Rw.nil (sz e : Nat) (W : World) (base : Nat) : Rw sz e W base (.slice none 0 0) [] := Kd.R_nil _ _ _ _ _
theorem Rw.slice (h : Rw sz e W base v rows) : ∃ A c, v = .slice A rows.length c := Kd.R_slice h
theorem Rw.form (h : Rw sz e W base v rows) (hp : 0 < rows.length) : ∃ g cap, v = .slice (some ⟨g, 0, none⟩) rows.length cap ∧ base ≤ g ∧ g < W.heap.size ∧ ∃ cells, W.heap[g]? = some (.cells cells e (0, 0)) := Kd.R_form h hp
theorem Rw.same (h : Rw sz e W base v rows) (hk : ∀ k, v.ownBlock = some k → V.heap[k]? = W.heap[k]?) : Rw sz e V base v rows := Kd.R_mono (Kd.R_step (Kd.R_tight rfl h) (fun k hk' _ => hk k hk'.symm)) (fun _ _ => trivial)
theorem Rw.lt (h : Rw sz e W base v rows) : ∀ k, v.ownBlock = some k → k < W.heap.size := Kd.R_lt h
theorem Rw.low (h : Rw sz e W base v rows) : ∀ k, v.ownBlock = some k → base ≤ k := Kd.R_base h
theorem Rw.below (h : Rw sz e W base v rows) (hb : Below W.heap.size W V) : Rw sz e V base v rows := Kd.R_below h hb
theorem Rw.ne (h : Rw sz e W base v rows) {g t : Nat} {cells : Array Value} (hb : W.heap[g]? = some (.cells cells t (0, 0))) (ht : e ≠ t) : some g ≠ v.ownBlock := Kd.R_ne h hb ht
theorem Rw.kept {S : Nat → Prop} (h : Rw sz e W base v rows) (hk : Kept W V S) (hn : ∀ k, v.ownBlock = some k → ¬ S k) : Rw sz e V base v rows := h.same (fun k hv => hk.2 k (h.lt k hv) (hn k hv))
theorem Rw.cells {g n cap : Nat} (h : Rw sz e W base (.slice (some ⟨g, 0, none⟩) n cap) rows) (i : Nat) {row : List Value} (hi : rows[i]? = some row) :
    row.length = sz ∧ (∀ j u, row[j]? = some u → W.cell? ⟨g, i * sz + j, none⟩ = some u) ∧ ∀ j, W.frozen? ⟨g, i * sz + j, none⟩ = false := by
  have hl := (List.getElem?_eq_some_iff.1 hi).1
  have hn := (Kd.R_reads' h).1
  obtain ⟨c, hcl, hM, hcc, hfr⟩ := Kd.R_elem h [] (i : Int) (Int.natCast_nonneg _) (by omega)
  rw [Int.toNat_natCast] at hM hcc hfr
  have hc : c = row := by
    have := hM.1
    rwa [List.getD_eq_getElem?_getD, hi] at this
  subst hc
  exact ⟨hcl, hcc, hfr⟩
theorem Rw.put {g n cap : Nat} (h : Rw sz e W base (.slice (some ⟨g, 0, none⟩) n cap) rows) (i j : Nat) {row : List Value} (hi : rows[i]? = some row) (hj : j < sz) (u : Value) (hu : u.oneCell' = true) :
    Rw sz e (W.setCell ⟨g, i * sz + j, none⟩ u) base (.slice (some ⟨g, 0, none⟩) n cap) (rows.set i (row.set j u)) := by
  have hl := (List.getElem?_eq_some_iff.1 hi).1
  have hn := (Kd.R_reads' h).1
  obtain ⟨c, hcl, hM, hcc, hfr⟩ := Kd.R_elem h [] (i : Int) (Int.natCast_nonneg _) (by omega)
  have hM0 := hM
  rw [Int.toNat_natCast] at hM hcc hfr
  have hc : c = row := by
    have := hM.1
    rwa [List.getD_eq_getElem?_getD, hi] at this
  subst hc
  have hcl' : c.length = sz := hcl
  have he : c.take j ++ [u] ++ c.drop (j + 1) = c.set j u := by
    rw [List.set_eq_take_append_cons_drop, if_pos (by omega)]; simp
  have := (Kd.R_seg h (i : Int) (Int.natCast_nonneg _) (by omega) (c := c) (seg := [u]) (j := j) (x' := c.set j u) (okp := fun _ => False) hcl (by rw [Int.toNat_natCast]; exact hcc) (by show j + 1 ≤ sz; omega) ⟨by simpa using he, by (have hh := congrArg List.length he; simp only [List.length_set] at hh; exact hh.trans hcl'), fun x hx => by
    have hx' : x ∈ c.set j u := by simpa [← he] using hx
    rcases List.mem_or_eq_of_mem_set hx' with h1 | h1
    · exact hM.2.2 x h1
    · exact h1 ▸ hu⟩ (fun k hk => hk.elim)).1
  rw [Int.toNat_natCast] at this
  exact this
end
/-! #### Where a hole stands -/
/-- No brace is in it. -/
def Bare (l : List Nat) : Prop := Small l ∧ ∀ x ∈ l, x ≠ 123 ∧ x ≠ 125
def hole : List Nat := [123, 123, 120, 125, 125]
theorem bs_ext (l : List Nat) : (bs l).data.toList = l.map Nat.toUInt8 := by simp [bs]
theorem bs_inj8 {x k : Nat} (hx : x < 256) (hk : k < 256) : x.toUInt8 = k.toUInt8 ↔ x = k := by
  constructor
  · intro h
    have := congrArg UInt8.toNat h
    simpa [Nat.toUInt8, Nat.mod_eq_of_lt hx, Nat.mod_eq_of_lt hk] using this
  · rintro rfl; rfl
theorem occ_bare {l : List Nat} (hl : Bare l) (rest : List UInt8) (k : Nat) (hk : k = 123 ∨ k = 125) (t : List UInt8) (j : Nat) (hj : j < l.length) : Lib.occAt (l.map Nat.toUInt8 ++ rest) (k.toUInt8 :: t) j = false := by
  unfold Lib.occAt
  have h1 : (l.map Nat.toUInt8 ++ rest).drop j = l[j].toUInt8 :: ((l.map Nat.toUInt8 ++ rest).drop (j + 1)) := by
    rw [List.drop_eq_getElem_cons (by simp; omega)]
    simp [hj]
  rw [h1]
  have hm := List.getElem_mem hj
  have h2 : k.toUInt8 ≠ l[j].toUInt8 := fun h => by
    have h3 := (bs_inj8 (by omega) (hl.1 _ hm)).1 h
    have := hl.2 _ hm
    omega
  simp [List.isPrefixOf, h2]
theorem index_open {l : List Nat} (hl : Bare l) (r : List Nat) : Lib.index (bs (l ++ (hole ++ r))).data.toList [123, 123] = (l.length : Int) := by
  rw [bs_ext, List.map_append]
  refine Lib.index_first (by simp) ?_ (fun j hj => occ_bare hl _ 123 (.inl rfl) _ j hj)
  unfold Lib.occAt
  rw [List.drop_append_of_le_length (by simp), List.drop_eq_nil_of_le (by simp), List.nil_append]
  simp [hole, List.isPrefixOf]
theorem index_bare {l : List Nat} (hl : Bare l) : Lib.index (bs l).data.toList [123, 123] = -1 := by
  rw [bs_ext]
  refine Lib.index_none (fun j hj => ?_)
  by_cases h : j < l.length
  · have := occ_bare hl [] 123 (.inl rfl) [123] j h
    rwa [List.append_nil] at this
  · unfold Lib.occAt
    rw [List.drop_eq_nil_of_le (by simp; omega)]
    rfl
theorem index_close (r : List Nat) : Lib.index (bs (hole ++ r)).data.toList [125, 125] = 3 := by
  rw [bs_ext]
  refine Lib.index_first (i := 3) (by simp [hole]) ?_ (fun j hj => ?_)
  · simp [hole, Lib.occAt, List.isPrefixOf]
  · have : j = 0 ∨ j = 1 ∨ j = 2 := by omega
    rcases this with rfl | rfl | rfl <;> simp [hole, Lib.occAt, List.isPrefixOf]
theorem bs_cut (l : List Nat) (i j : Nat) : (bs l).extract i j = bs ((l.take j).drop i) := by
  apply ByteArray.ext
  apply Array.toList_inj.1
  simp [bs, ByteArray.data_extract, List.extract_eq_take_drop, ← List.map_drop, ← List.map_take, List.drop_take]
end Go.Proofs.YtfplocpjdjjoaaaDoor.Refuse
namespace Go.Proofs.YtfplocpjdjjoaaaDoor.Refuse
open Go Go.RowKit Go.Proofs.YtfplocpjdjjoaaaDoor.Trail Go.Proofs.YtfplocpjdjjoaaaDoor.Ctxs Go.Proofs.YtfplocpjdjjoaaaDoorW.PrintWords
set_option linter.unusedVariables false
set_option linter.unusedSimpArgs false
theorem info139 : (Tryd.prog.info? 139).map (fun i => (i.zero, i.size, i.bytes)) = some (some (.agg #[.int .u8 0, .int .i64 0, .string ⟨#[]⟩, .bool false, .slice none 0 0]), 5, 64) := by kernel_rfl
theorem size_alloc (w : World) (o : Obj) : (w.alloc o).heap.size = w.heap.size + 1 := by simp
theorem old_alloc {w : World} {o : Obj} {g : Nat} (h : g < w.heap.size) : (w.alloc o).heap[g]? = w.heap[g]? := Below.heap_alloc w o g h
/-- A word's cells. -/
abbrev word (k at_ : Int) (t : ByteArray) (A : Option Addr) (n c : Nat) : List Value := [.int .u8 k, .int .i64 at_, .string t, .bool false, .slice A n c]
theorem word_one (k at_ : Int) (t : ByteArray) (A : Option Addr) (n c : Nat) : ∀ u ∈ word k at_ t A n c, u.oneCell' = true := by
  intro u hu
  simp only [word, List.mem_cons, List.not_mem_nil, or_false] at hu
  rcases hu with rfl | rfl | rfl | rfl | rfl <;> rfl
/-- What stands behind a word's being handed on. -/
def Told (O : Nat) (w0 W W' : World) (ov : Value) (rows : List (List Value)) (row : List Value) : Prop :=
  ∃ ov', W'.heap[O]? = some (.cells #[ov'] 117 (0, 0)) ∧ Rw 5 139 W' w0.heap.size ov' (rows ++ [row]) ∧ Below w0.heap.size w0 W' ∧ Kept W W' (fun k => k = O ∨ some k = ov.ownBlock)
set_option maxHeartbeats 4000000 in
set_option maxRecDepth 100000 in
theorem tellW_calls (O : Nat) (w0 W : World) (ov : Value) (rows : List (List Value)) (k at_ : Int) (t : ByteArray) (A : Option Addr) (n c : Nat) (hO : W.heap[O]? = some (.cells #[ov] 117 (0, 0))) (hN : Rw 5 139 W w0.heap.size ov rows) (hB : Below w0.heap.size w0 W) (hb : w0.heap.size ≤ O) (hl : (rows.length + 1) * 64 ≤ 140737488355328) :
    Calls Tryd.prog 65 #[.agg #[.int .u8 k, .int .i64 at_, .string t, .bool false, .slice A n c], .pointer (some ⟨O, 0, none⟩)] W fun e W' => e = .returned (.bool true) ∧ Told O w0 W W' ov rows (word k at_ t A n c) := by
  have y0 : W.cell? ⟨O, 0, none⟩ = some ov := by simp [World.cell?, hO]
  have hlt : O < W.heap.size := (Array.getElem?_eq_some_iff.1 hO).1
  have HO := Aside0.mk hO
  have HN := Aside0.mk hN
  have HB := Aside0.mk hB
  have HBO := Aside0.mk hb
  have HL := Aside0.mk hl
  clear hO hN hB hb hl
  go_enter Tryd.func65, Tryd.ntmps65
  go_wp2_with ((with_reducible refine gate_builtin (b := .append) (xs := #[.tmp 4, .tmp 6]) rfl ?_); at_builtin; refine Kd.R_append (Kd.raw 5) (w0 := w0) (W := W.alloc (.cells #[.int .u8 k, .int .i64 at_, .string t, .bool false, .slice A n c] 139)) w0.heap.size rfl (.tmp 4) (.tmp 6) 117 139 (.agg #[.int .u8 0, .int .i64 0, .string ⟨#[]⟩, .bool false, .slice none 0 0]) 64 rfl Tryd.underlying117 info139 rfl (by decide) (by decide) ov rows (word k at_ t A n c) (word k at_ t A n c) (fun _ => True) (fun _ => False) rfl ?aX ?aP (fun _ hk => hk.elim) (fun _ _ => trivial) ?aN ?aB ?aS HL.out ?_; (case aX => show Value.slice (some ⟨W.heap.size + 1, 0, none⟩) 1 1 = _; rw [size_alloc]); (case aP => exact ⟨rfl, rfl, word_one _ _ _ _ _ _⟩); (case aN => exact Kd.R_alloc HN.out _); (case aB => exact below_alloc HB.out _); (case aS => have := HB.out.size; rw [size_alloc]; omega); intro v5 w5 hn hb hg hat; obtain ⟨A5, c5, rfl⟩ := Kd.R_slice hn; have HN5 := Aside0.mk hn; have HB5 := Aside0.mk hb; have HG5 := Aside0.mk hg; have HBOX5 := Aside0.mk ((hg.block O (by rw [size_alloc]; omega) (Kd.R_ne HN.out HO.out (by decide))).trans ((old_alloc hlt).trans HO.out)); have g0 : w5.cell? ⟨O, 0, none⟩ = some ov := (by simp [World.cell?, HBOX5.out]); have gf : w5.frozen? ⟨O, 0, none⟩ = false := Joins.unfrozen_of_block HBOX5.out 0; clear hn hb hg hat)
  go_ret
  have e5 : (rows ++ [word k at_ t A n c]).length = rows.length + 1 := by simp
  have HN5' := HN5.out
  rw [e5] at HN5'
  refine ⟨rfl, .slice A5 (rows.length + 1) c5, ?_, ?_, ?_, ?_⟩
  · exact Joins.block_setCell (i := 0) HBOX5.out _
  · exact Rw.same (W := w5) HN5' (fun k hk => Below.heap_setCell _ _ _ _ (fun h => Kd.R_ne HN5' HBOX5.out (by decide) (by rw [hk, show k = O from h])))
  · exact HB5.out.setCell (p := ⟨O, 0, none⟩) HBO.out _
  · have h1 : Kept W (W.alloc (.cells #[.int .u8 k, .int .i64 at_, .string t, .bool false, .slice A n c] 139)) (fun k => k = O ∨ some k = ov.ownBlock) := (Kept.refl W _).alloc _
    exact (h1.of_grown HG5.out (fun k hk => .inl (.inr hk.symm))).setCell (p := ⟨O, 0, none⟩) (.inl (.inl rfl)) _
theorem tellW_at {v : Array Value} (O : Nat) (w0 W : World) (ov : Value) (rows : List (List Value)) (k at_ : Int) (t : ByteArray) (A : Option Addr) (n c : Nat) (hv : v = #[.int .u8 k, .int .i64 at_, .string t, .bool false, .slice A n c]) (hO : W.heap[O]? = some (.cells #[ov] 117 (0, 0))) (hN : Rw 5 139 W w0.heap.size ov rows) (hB : Below w0.heap.size w0 W) (hb : w0.heap.size ≤ O) (hl : (rows.length + 1) * 64 ≤ 140737488355328) :
    Calls Tryd.prog 65 #[.agg v, .pointer (some ⟨O, 0, none⟩)] W fun e W' => e = .returned (.bool true) ∧ Told O w0 W W' ov rows (word k at_ t A n c) := hv ▸ tellW_calls O w0 W ov rows k at_ t A n c hO hN hB hb hl
/-- The variable MaxLen of bytealg is a whole number. -/
def Mx (w : World) : Prop := ∃ m : Int, w.cell? ⟨1, 0, none⟩ = some (.int .i64 m)
theorem Mx.below {w W : World} (h : Mx w) (hb : Below w.heap.size w W) : Mx W := by
  obtain ⟨m, h⟩ := h
  exact ⟨m, (hb.cell (World.block_lt_of_cell? w _ h)).trans h⟩
theorem index_at {s sub : ByteArray} (x : List Nat) (hs : s = bs x) (hx : x.length ≤ 70000) (i : Int) (hi : Lib.index (bs x).data.toList sub.data.toList = i) (w : World) (hm : Mx w) : Calls Tryd.prog 92 #[.string s, .string sub] w fun e w' => e = .returned (.int .i64 i) ∧ w = w' := by
  obtain ⟨m, hm⟩ := hm
  subst hs
  subst hi
  refine (Tryd.strings_Index (bs x) sub m w (by rw [bs_size]; omega) hm).mono ?_
  rintro e w' ⟨rfl, rfl⟩
  exact ⟨rfl, rfl⟩
theorem action_at {s : ByteArray} (hs : s = sx) (w : World) : Calls Tryd.prog 93 #[.string s] w fun e w' => ∃ g c, e = .returned (.tuple #[.agg #[.int .u8 1, .int .i64 0, .string ⟨#[]⟩, .bool false, .slice (some ⟨g, 0, none⟩) 1 c], .bool true]) ∧ Nm w' g ∧ w.heap.size ≤ g ∧ Below w.heap.size w w' := hs ▸ action_calls w
abbrev row1 (l : List Nat) : List (List Value) := if l = [] then [] else [word 0 0 (bs l) none 0 0]
abbrev row2 (l : List Nat) (g c : Nat) : List Value := word 1 (l.length : Int) ⟨#[]⟩ (some ⟨g, 0, none⟩) 1 c
abbrev row3 (l r : List Nat) : List (List Value) := if r = [] then [] else [word 0 ((l.length + 5 : Nat) : Int) (bs r) none 0 0]
/-- The words of a text with one hole. -/
def Words (W : World) (l r : List Nat) (rows : List (List Value)) : Prop := ∃ g c, Nm W g ∧ rows = row1 l ++ [row2 l g c] ++ row3 l r
/-- How far the words were told. -/
inductive Sit (W : World) (l r : List Nat) : Nat → List (List Value) → Prop where
  | start : Sit W l r 0 []
  | lit : l ≠ [] → Sit W l r l.length (row1 l)
  | hole (g c : Nat) : Nm W g → Sit W l r (l.length + 5) (row1 l ++ [row2 l g c])
  | rest (g c : Nat) : r ≠ [] → Nm W g → Sit W l r (l.length + 5 + r.length) (row1 l ++ [row2 l g c] ++ row3 l r)
theorem Sit.le {W : World} {l r : List Nat} {k : Nat} {rows : List (List Value)} (h : Sit W l r k rows) : k ≤ l.length + 5 + r.length := by cases h <;> omega
theorem Sit.few {W : World} {l r : List Nat} {k : Nat} {rows : List (List Value)} (h : Sit W l r k rows) : rows.length ≤ 3 := by
  cases h <;> simp [row1, row3] <;> (repeat' split) <;> simp
theorem less {N a b : Nat} {x : Int} (h : a < b) (hb : a < N) (hx : x = (b : Int)) : N - (intOf (.int .i64 x)).toNat < N - (intOf (.int .i64 (a : Int))).toNat := by
  subst hx
  show N - ((b : Nat) : Int).toNat < N - ((a : Nat) : Int).toNat
  rw [Int.toNat_natCast, Int.toNat_natCast]
  omega
theorem tellW_to {v : Array Value} {V : World} (O : Nat) (w0 W : World) (ov : Value) (rows : List (List Value)) (k at_ : Int) (t : ByteArray) (A : Option Addr) (n c : Nat) (hv : v = #[.int .u8 k, .int .i64 at_, .string t, .bool false, .slice A n c]) (hV : Below W.heap.size W V) (hO : W.heap[O]? = some (.cells #[ov] 117 (0, 0))) (hN : Rw 5 139 W w0.heap.size ov rows) (hB : Below w0.heap.size w0 W) (hb : w0.heap.size ≤ O) (hl : (rows.length + 1) * 64 ≤ 140737488355328) :
    Calls Tryd.prog 65 #[.agg v, .pointer (some ⟨O, 0, none⟩)] V fun e W' => e = .returned (.bool true) ∧ Told O w0 V W' ov rows (word k at_ t A n c) ∧ ∀ g, Nm V g → Nm W' g := by
  subst hv
  have hO' := (hV.block O (Array.getElem?_eq_some_iff.1 hO).1).trans hO
  have hN' := hN.below hV
  refine (tellW_calls O w0 V ov rows k at_ t A n c hO' hN' (below_step hB hV) hb hl).mono ?_
  rintro e W' ⟨rfl, h⟩
  obtain ⟨ov', h1, h2, h3, h4⟩ := h
  refine ⟨rfl, ⟨ov', h1, h2, h3, h4⟩, fun g hg => hg.same (h4.2 g hg.lt ?_)⟩
  obtain ⟨cur, hc, _⟩ := hg
  rintro (rfl | hk)
  · rw [hO'] at hc
    injection hc with hc
    injection hc with _ hc
    exact absurd hc (by decide)
  · exact hN'.ne hc (by decide) hk
theorem sit_cases {W : World} {l r : List Nat} {k : Nat} {rows : List (List Value)} (h : Sit W l r k rows) (hk : k < l.length + 5 + r.length) : (k = 0 ∧ l ≠ [] ∧ rows = []) ∨ (k = l.length ∧ rows = row1 l) ∨ (k = l.length + 5 ∧ r ≠ [] ∧ ∃ g c, Nm W g ∧ rows = row1 l ++ [row2 l g c]) := by
  cases h with
  | start =>
    by_cases h0 : l = []
    · subst h0
      exact .inr (.inl ⟨rfl, (if_pos rfl).symm⟩)
    · exact .inl ⟨rfl, h0, rfl⟩
  | lit h0 => exact .inr (.inl ⟨rfl, rfl⟩)
  | hole g c hg =>
    refine .inr (.inr ⟨rfl, fun h0 => ?_, g, c, hg, rfl⟩)
    subst h0
    simp at hk
  | rest g c hr hg => omega
theorem sit_end {W : World} {l r : List Nat} {k : Nat} {rows : List (List Value)} (h : Sit W l r k rows) (hk : ¬ k < l.length + 5 + r.length) : Words W l r rows := by
  cases h with
  | start => omega
  | lit h0 => omega
  | hole g c hg =>
    have h0 : r = [] := List.eq_nil_of_length_eq_zero (by omega)
    exact ⟨g, c, hg, by rw [show row3 l r = [] from if_pos h0, List.append_nil]⟩
  | rest g c hr hg => exact ⟨g, c, hg, rfl⟩
theorem cut_mid (l r : List Nat) (i j : Nat) (x : List Nat) (h : ((l ++ (hole ++ r)).take j).drop i = x) : (bs (l ++ (hole ++ r))).extract i j = bs x := by rw [bs_cut, h]
theorem bare_nil : Bare [] := ⟨by simp [Small], by simp⟩
theorem index_zero (r : List Nat) : Lib.index (bs (hole ++ r)).data.toList [123, 123] = 0 := index_open bare_nil r
set_option maxHeartbeats 8000000 in
set_option maxRecDepth 100000 in
theorem words_calls (l r : List Nat) (hl : Bare l) (hr : Bare r) (hlen : l.length + r.length ≤ 65000) (O : Nat) (w0 W : World) (hm : Mx w0) (hO : W.heap[O]? = some (.cells #[.slice none 0 0] 117 (0, 0))) (hB : Below w0.heap.size w0 W) (hb : w0.heap.size ≤ O) :
    Calls Tryd.prog 64 #[.string (bs (l ++ (hole ++ r))), .func (.func 65) #[] #[.pointer (some ⟨O, 0, none⟩)]] W fun e W' => e = .returned (.int .i64 (-1)) ∧ ∃ ov rows, W'.heap[O]? = some (.cells #[ov] 117 (0, 0)) ∧ Rw 5 139 W' w0.heap.size ov rows ∧ Words W' l r rows ∧ Below w0.heap.size w0 W' := by
  obtain ⟨S, hS⟩ : ∃ S, S = bs (l ++ (hole ++ r)) := ⟨_, rfl⟩
  have hsz : S.size = l.length + 5 + r.length := by rw [hS, bs_size]; simp [hole]; omega
  rw [← hS]
  have HS := Aside0.mk hS
  have HO := Aside0.mk hO
  have HB := Aside0.mk hB
  have HBO := Aside0.mk hb
  have HLN := Aside0.mk hlen
  have HM := Aside0.mk hm
  have HLR := Aside0.mk (And.intro hl hr)
  obtain ⟨N, hN⟩ : ∃ N, N = l.length + 5 + r.length := ⟨_, rfl⟩
  rw [← hN] at hsz
  have HNN := Aside0.mk hN
  clear hS hO hB hb hlen hl hr hm hN
  go_enter Tryd.func64, Tryd.ntmps64
  go_wp2
  go_loopw [5] (fun iv wr => ∃ (k : Nat) (ov : Value) (rows : List (List Value)), iv = .int .i64 k ∧ wr.heap[O]? = some (.cells #[ov] 117 (0, 0)) ∧ Rw 5 139 wr w0.heap.size ov rows ∧ Below w0.heap.size w0 wr ∧ Sit wr l r k rows)
    (fun iv _ => N - (intOf iv).toNat)
  case atStart => exact ⟨0, _, [], rfl, HO.out, Rw.nil _ _ _ _, HB.out, .start⟩
  case round =>
    obtain ⟨k, ov, rows, rfl, hbox, hrw, hbw, hsit⟩ := hrel
    have HBOX := Aside0.mk hbox
    have HRW := Aside0.mk hrw
    have HBW := Aside0.mk hbw
    have HFEW := Aside0.mk hsit.few
    have hmx := HM.out.below hbw
    have HMX := Aside0.mk hmx
    clear hbox hrw hbw hmx
    by_cases hlt : k < N
    · have c1 : decide ((k : Int) < (N : Int)) = true := decide_eq_true (Int.ofNat_lt.2 hlt)
      have c2 : decide (k < N) = true := decide_eq_true hlt
      have HLT := Aside0.mk hlt
      have b1 : (0 : Int) ≤ (k : Int) ∧ (k : Int) ≤ (N : Int) := by omega
      have b2 : k ≤ N := by omega
      have HSIT := Aside0.mk (sit_cases hsit (HNN.out ▸ hlt))
      clear hsit hlt
      rcases HSIT.out with ⟨rfl, hq, rfl⟩ | ⟨rfl, rfl⟩ | ⟨hk5, hr0, g, c, hg, rfl⟩
      · have HQ := Aside0.mk hq
        clear hq
        have E0 := Aside0.mk (show S.extract 0 N = bs (l ++ (hole ++ r)) by rw [HS.out, bs_cut, List.drop_zero, List.take_of_length_le (by rw [HNN.out]; simp [hole]; omega)])
        have E1 := Aside0.mk (show S.extract 0 l.length = bs l by rw [HS.out, bs_cut, List.drop_zero, List.take_left])
        have hp : 0 < l.length := List.length_pos_iff.2 HQ.out
        have d1 : decide ((l.length : Int) < 0) = false := decide_eq_false (by omega)
        have d2 : decide ((0 : Int) < (l.length : Int)) = true := decide_eq_true (by omega)
        have d3 : decide (0 < l.length) = true := decide_eq_true hp
        have d4 : (0 : Int) ≤ (l.length : Int) ∧ (l.length : Int) ≤ (N : Int) := by have := HNN.out; omega
        have d5 : l.length ≤ N := by have := HNN.out; omega
        have HP := Aside0.mk hp
        have d6 : wrap64 (l.length : Int) = (l.length : Int) := by have := HLN.out; unfold wrap64; omega
        clear hp
        go_wp2_with (first
          | (go_at_call 92; (with_reducible refine (index_at (l ++ (hole ++ r)) ?hs ?hx (l.length : Int) ?hi _ HMX.out).mono ?_); (case hs => exact E0.out); (case hx => have := HLN.out; simp [hole]; omega); (case hi => exact index_open HLR.out.1 r); rintro e w2 ⟨rfl, rfl⟩)
          | (go_at_call 65; (with_reducible refine (tellW_at O w0 _ ov [] 0 0 (bs l) none 0 0 ?hv HBOX.out HRW.out HBW.out HBO.out (by simp)).mono ?_); (case hv => rw [E1.out]); rintro e w3 ⟨rfl, ov', hq1, hq2, hq3, hq4⟩; have HQ1 := Aside0.mk hq1; have HQ2 := Aside0.mk hq2; have HQ3 := Aside0.mk hq3; clear hq1 hq2 hq3 hq4))
        go_roundw
        case rel => exact ⟨l.length, ov', row1 l, by rw [d6], HQ1.out, by rw [show row1 l = [word 0 0 (bs l) none 0 0] from if_neg HQ.out]; exact HQ2.out, HQ3.out, .lit HQ.out⟩
        case measure => exact less HP.out HLT.out d6
      · have E0 := Aside0.mk (show S.extract l.length N = bs (hole ++ r) by rw [HS.out]; refine cut_mid _ _ _ _ _ ?_; rw [List.take_of_length_le (by rw [HNN.out]; simp [hole]; omega), List.drop_left])
        obtain ⟨a2, ha2⟩ : ∃ a2, a2 = l.length + 2 := ⟨_, rfl⟩
        obtain ⟨a3, ha3⟩ : ∃ a3, a3 = l.length + 3 := ⟨_, rfl⟩
        obtain ⟨a5, ha5⟩ : ∃ a5, a5 = l.length + 5 := ⟨_, rfl⟩
        have HA := Aside0.mk (And.intro ha2 (And.intro ha3 ha5))
        have E1 := Aside0.mk (show S.extract a2 a3 = sx by
          rw [HS.out, ha2, ha3]
          refine (cut_mid l r _ _ [120] ?_).trans rfl
          rw [List.take_append, List.drop_append, List.drop_eq_nil_of_le (by simp)]
          simp [hole, List.take_of_length_le])
        have d4 : (0 : Int) ≤ (a2 : Int) ∧ (a2 : Int) ≤ (a3 : Int) ∧ (a3 : Int) ≤ (N : Int) := by have := HNN.out; omega
        have d5 : a2 ≤ a3 ∧ a3 ≤ N := by have := HNN.out; omega
        have d6 : wrap64 ((l.length : Int) + 2) = (a2 : Int) := by have := HLN.out; unfold wrap64; omega
        have d7 : wrap64 ((l.length : Int) + 3) = (a3 : Int) := by have := HLN.out; unfold wrap64; omega
        have d8 : wrap64 ((l.length : Int) + 5) = (a5 : Int) := by have := HLN.out; unfold wrap64; omega
        clear ha2 ha3 ha5
        go_wp2_with (first
          | (go_at_call_of 92 (Value.string ⟨#[123, 123]⟩); (with_reducible refine (index_at (hole ++ r) ?hs ?hx 0 ?hi _ HMX.out).mono ?_); (case hs => exact E0.out); (case hx => have := HLN.out; simp [hole]; omega); (case hi => exact index_zero r); rintro e w2 ⟨rfl, rfl⟩)
          | (go_at_call_of 92 (Value.string ⟨#[125, 125]⟩); (with_reducible refine (index_at (hole ++ r) ?hs ?hx 3 ?hi _ HMX.out).mono ?_); (case hs => exact E0.out); (case hx => have := HLN.out; simp [hole]; omega); (case hi => exact index_close r); rintro e w2 ⟨rfl, rfl⟩)
          | (go_at_call 93; (with_reducible refine (action_at ?hs _).mono ?_); (case hs => exact E1.out); rintro e w4 ⟨g, c, rfl, hg4, hs4, hb4⟩; have HG4 := Aside0.mk hg4; have HB4 := Aside0.mk hb4; clear hg4 hs4 hb4)
          | (go_at_call 65; (with_reducible refine (tellW_to O w0 wr ov (row1 l) 1 (l.length : Int) ⟨#[]⟩ (some ⟨g, 0, none⟩) 1 c ?hv ?hV HBOX.out HRW.out HBW.out HBO.out ?hl).mono ?_); (case hv => rfl); (case hV => exact HB4.out.alloc HB4.out.size _); (case hl => have := HFEW.out; omega); rintro e w5 ⟨rfl, ⟨ov', hq1, hq2, hq3, hq4⟩, hq5⟩; have HQ1 := Aside0.mk hq1; have HQ2 := Aside0.mk hq2; have HQ3 := Aside0.mk hq3; have HQ5 := Aside0.mk (hq5 g (HG4.out.below ((Below.refl _ _).alloc (Nat.le_refl _) _))); clear hq1 hq2 hq3 hq4 hq5))
        go_roundw
        case rel => exact ⟨a5, ov', row1 l ++ [row2 l g c], by rw [d8], HQ1.out, HQ2.out, HQ3.out, HA.out.2.2 ▸ .hole g c HQ5.out⟩
        case measure => exact less (by have := HA.out.2.2; omega) HLT.out d8
      · have HQ := Aside0.mk hr0
        have HG := Aside0.mk hg
        have HK := Aside0.mk hk5
        have hN5 : k + r.length = N := by have := HNN.out; omega
        have hp : 0 < r.length := List.length_pos_iff.2 hr0
        have E0 := Aside0.mk (show S.extract k N = bs r by
          rw [HS.out]
          refine cut_mid _ _ _ _ _ ?_
          rw [List.take_of_length_le (by rw [HNN.out]; simp [hole]; omega), hk5, show l ++ (hole ++ r) = (l ++ hole) ++ r by simp, List.drop_left' (by simp [hole])])
        have d1 : wrap64 ((N : Int) - (k : Int)) = (r.length : Int) := by have := HLN.out; have := HNN.out; unfold wrap64; omega
        have d2 : decide ((0 : Int) < (r.length : Int)) = true := decide_eq_true (by omega)
        have d3 : decide (0 < r.length) = true := decide_eq_true hp
        have d4 : wrap64 ((k : Int) + (r.length : Int)) = (N : Int) := by have := HLN.out; have := HNN.out; unfold wrap64; omega
        have d5 : (0 : Int) ≤ (k : Int) ∧ (k : Int) ≤ (N : Int) ∧ (N : Int) ≤ (N : Int) := by omega
        have HP := Aside0.mk (And.intro hN5 hp)
        clear hk5 hr0 hg hN5 hp
        go_wp2_with (first
          | (go_at_call 92; (with_reducible refine (index_at r ?hs ?hx (-1) ?hi _ HMX.out).mono ?_); (case hs => exact E0.out); (case hx => have := HLN.out; omega); (case hi => exact index_bare HLR.out.2); rintro e w2 ⟨rfl, rfl⟩)
          | (go_at_call 65; (with_reducible refine (tellW_to O w0 wr ov (row1 l ++ [row2 l g c]) 0 (k : Int) (bs r) none 0 0 ?hv ?hV HBOX.out HRW.out HBW.out HBO.out ?hl).mono ?_); (case hv => rw [E0.out]); (case hV => exact Below.refl _ _); (case hl => have := HFEW.out; omega); rintro e w5 ⟨rfl, ⟨ov', hq1, hq2, hq3, hq4⟩, hq5⟩; have HQ1 := Aside0.mk hq1; have HQ2 := Aside0.mk hq2; have HQ3 := Aside0.mk hq3; have HQ5 := Aside0.mk (hq5 g HG.out); clear hq1 hq2 hq3 hq4 hq5))
        go_roundw
        case rel =>
          refine ⟨N, ov', row1 l ++ [row2 l g c] ++ row3 l r, by rw [d4], HQ1.out, ?_, HQ3.out, ?_⟩
          · rw [show row3 l r = [word 0 ((l.length + 5 : Nat) : Int) (bs r) none 0 0] from if_neg HQ.out, ← HK.out]
            exact HQ2.out
          · rw [HNN.out]
            exact .rest g c HQ.out HQ5.out
        case measure => exact less (by have := HP.out; omega) HLT.out d4
    · have HSIT := Aside0.mk (sit_end hsit (HNN.out ▸ hlt))
      have c1 : decide ((k : Int) < (N : Int)) = false := decide_eq_false (fun h => hlt (Int.ofNat_lt.1 h))
      have c2 : decide (k < N) = false := decide_eq_false hlt
      clear hsit hlt
      go_wp2
      go_ret
      exact ⟨rfl, ov, rows, HBOX.out, HRW.out, HSIT.out, HBW.out⟩
theorem words_at {s : ByteArray} (l r : List Nat) (hs : s = bs (l ++ (hole ++ r))) (hl : Bare l) (hr : Bare r) (hlen : l.length + r.length ≤ 65000) (O : Nat) (w0 W : World) (hm : Mx w0) (hO : W.heap[O]? = some (.cells #[.slice none 0 0] 117 (0, 0))) (hB : Below w0.heap.size w0 W) (hb : w0.heap.size ≤ O) :
    Calls Tryd.prog 64 #[.string s, .func (.func 65) #[] #[.pointer (some ⟨O, 0, none⟩)]] W fun e W' => e = .returned (.int .i64 (-1)) ∧ ∃ ov rows, W'.heap[O]? = some (.cells #[ov] 117 (0, 0)) ∧ Rw 5 139 W' w0.heap.size ov rows ∧ Words W' l r rows ∧ Below w0.heap.size w0 W' := hs ▸ words_calls l r hl hr hlen O w0 W hm hO hB hb
set_option maxHeartbeats 4000000 in
set_option maxRecDepth 100000 in
theorem allW_calls (l r : List Nat) (hl : Bare l) (hr : Bare r) (hlen : l.length + r.length ≤ 65000) (w : World) (hm : Mx w) :
    Calls Tryd.prog 50 #[.string (bs (l ++ (hole ++ r)))] w fun e W' => ∃ A n c rows, e = .returned (.tuple #[.slice A n c, .int .i64 0, .int .i64 0]) ∧ Rw 5 139 W' w.heap.size (.slice A n c) rows ∧ Words W' l r rows ∧ Below w.heap.size w W' := by
  obtain ⟨S, hS⟩ : ∃ S, S = bs (l ++ (hole ++ r)) := ⟨_, rfl⟩
  have hsz : S.size = l.length + 5 + r.length := by rw [hS, bs_size]; simp [hole]; omega
  rw [← hS]
  have HS := Aside0.mk hS
  have HLN := Aside0.mk hlen
  have HM := Aside0.mk hm
  have HLR := Aside0.mk (And.intro hl hr)
  obtain ⟨N, hN⟩ : ∃ N, N = l.length + 5 + r.length := ⟨_, rfl⟩
  rw [← hN] at hsz
  have c1 : decide ((65536 : Int) < (N : Int)) = false := decide_eq_false (by omega)
  have c2 : decide (65536 < N) = false := decide_eq_false (by omega)
  have HO := Aside0.mk (World.alloc_heap_new w (.cells #[.slice none 0 0] 117))
  clear hS hlen hl hr hm hN
  go_enter Tryd.func50, Tryd.ntmps50
  go_wp2_with (go_at_call 64; (with_reducible refine (words_at l r HS.out HLR.out.1 HLR.out.2 HLN.out w.heap.size w _ HM.out HO.out ((Below.refl _ _).alloc (Nat.le_refl _) _) (Nat.le_refl _)).mono ?_); rintro e w2 ⟨rfl, ov, rows, h1, h2, h3, h4⟩; obtain ⟨A, c, rfl⟩ := h2.slice; have y0 : w2.cell? ⟨w.heap.size, 0, none⟩ = some (.slice A rows.length c) := (by simp [World.cell?, h1]); have H2 := Aside0.mk h2; have H3 := Aside0.mk h3; have H4 := Aside0.mk h4; clear h1 h2 h3 h4)
  refine bodyPost_ret (v := .tuple #[.slice A rows.length c, .int .i64 0, .int .i64 0]) ?_ rfl ⟨A, _, c, rows, rfl, H2.out, H3.out, H4.out⟩
  simp [results, Tryd.f50, go_sem]
end Go.Proofs.YtfplocpjdjjoaaaDoor.Refuse
