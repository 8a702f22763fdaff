/-
  What stands in memory while the chunks of a value are fed: the escaper, all the bytes, the units.
  utf.Each: the characters of a clean text, each handed to a loop's body.
  A region that draws its order and only reads, inside a round of a range over a function.
  Conditions: as each theorem says.
-/
import Derived.Test.YtfplocpjdjjoaaaDoorDg
import Derived.Test.YtfplocpjdjjoaaaDoorDd
import Derived.RangeFuncNested
import Derived.RangeFuncBound
import Derived.RangeFuncCalls
import Derived.RangeFuncLeaves
import Derived.RangeFuncBox
import Derived.OwnWalkIn
import Derived.TacticsInMore
import Derived.LoopNIn
import Derived.LoopIn
import Derived.LoopTactic
import Derived.RangeFuncFrom
import Derived.BigQuiet
import Derived.Deep.QuietTactic
import Derived.OrdersIn
namespace Go.Proofs.YtfplocpjdjjoaaaDoor.Cut
open Go Go.RowKit Go.Proofs.YtfplocpjdjjoaaaDoor.Trail Go.Proofs.YtfplocpjdjjoaaaDoor.Ctxs Go.Proofs.YtfplocpjdjjoaaaDoorW.PrintWords
set_option linter.unusedVariables false
set_option linter.unusedSimpArgs false
theorem R_block {α : Type} {d : Kd α} {e base : Nat} {W : World} {ok : Nat → Prop} {v : Value} {xs : List α} (h : d.R e W base ok v xs) : ∀ q, some q = v.ownBlock → ∃ cur, W.heap[q]? = some (.cells cur e (0, 0)) := by
  obtain ⟨hok, inner, hown, hr⟩ := h
  intro q hq
  rcases hown.2 with ⟨rfl, _⟩ | ⟨g, cap, cur, rfl, _, hg, _⟩
  · cases hq
  · injection hq with hq
    subst hq
    exact ⟨cur, hg⟩
theorem Byr.block {W : World} {base : Nat} {v : Value} {l : List Nat} (h : Byr W base v l) : ∀ q, some q = v.ownBlock → ∃ cur, W.heap[q]? = some (.cells cur 5 (0, 0)) := R_block h
theorem Rw.block {W : World} {base : Nat} {v : Value} {rows : List (List Value)} (h : Rw W base v rows) : ∀ q, some q = v.ownBlock → ∃ cur, W.heap[q]? = some (.cells cur 22 (0, 0)) := R_block h
theorem blk_ne {W : World} {a b t t' : Nat} {c c' : Array Value} {f f' : Nat × Nat} (h : W.heap[a]? = some (.cells c t f)) (h' : W.heap[b]? = some (.cells c' t' f')) (ht : t ≠ t') : a ≠ b := by
  rintro rfl
  rw [h] at h'
  injection h' with h'
  injection h' with _ h'
  exact ht h'
theorem Gt.hb_at {W : World} {base k : Nat} {gp : Value} {gb hb : Option Nat} {F : List (List Nat)} (h : Gt W base gp gb hb k F) {q : Nat} (hq : some q = hb) : ∃ cells, W.heap[q]? = some (.cells cells 5 (0, 0)) := by
  rcases h with ⟨-, -, h1, h2⟩ | ⟨h4, G, hv, h1, h2, h3, h5, h6, h7, h8⟩
  · rw [h2] at hq; cases hq
  · rw [h7] at hq
    exact h6.block q hq
/-- An escaper whose blocks lie as they lay. -/
theorem Esc.moved {W V : World} {base E D k : Nat} {gb hb : Option Nat} {F : List (List Nat)} {cl : List Nat} (h : Esc W base E D gb hb k F cl) (hE : V.heap[E]? = W.heap[E]?) (hD : V.heap[D]? = W.heap[D]?) (hg : ∀ q, some q = gb ∨ some q = hb → V.heap[q]? = W.heap[q]?) (hc : ∀ cv f, W.heap[D]? = some (.cells #[cv] 127 f) → ∀ q, some q = cv.ownBlock → V.heap[q]? = W.heap[q]?) : Esc V base E D gb hb k F cl := by
  obtain ⟨gp, h1, h2⟩ := h.es
  obtain ⟨cv, h3, h4⟩ := h.dc
  exact ⟨⟨gp, hE.trans h1, h2.same hg⟩, ⟨cv, hD.trans h3, h4.same fun q e => hc cv _ h3 q e.symm⟩, h.lows, h.chr, h.small, fun cv f e => h.ap cv f (hD.symm.trans e)⟩
/-- An escaper beside a block of a type that it has not. -/
theorem Esc.beside {W V : World} {base E D k : Nat} {gb hb row : Option Nat} {F : List (List Nat)} {cl : List Nat} (h : Esc W base E D gb hb k F cl) (hK : ∀ i, i < W.heap.size → some i ≠ row → V.heap[i]? = W.heap[i]?) {t : Nat} (ht : ∀ q, some q = row → q < W.heap.size → ∃ cur, W.heap[q]? = some (.cells cur t (0, 0))) (h5 : t ≠ 5) (h99 : t ≠ 99) (h127 : t ≠ 127) (h130 : t ≠ 130) : Esc V base E D gb hb k F cl := by
  have hl := h.lt
  obtain ⟨gp, h1, h2⟩ := h.es
  obtain ⟨cv, h3, h4⟩ := h.dc
  have key : ∀ (q t' : Nat), t ≠ t' → (∃ cur, W.heap[q]? = some (Obj.cells cur t' (0, 0))) → V.heap[q]? = W.heap[q]? := by
    rintro q t' htt ⟨cur, hq⟩
    have hlt := (Array.getElem?_eq_some_iff.1 hq).1
    refine hK q hlt fun e => ?_
    obtain ⟨cur2, hq2⟩ := ht q e hlt
    exact blk_ne hq2 hq htt rfl
  refine h.moved (key E 99 h99 ⟨_, h1⟩) (key D 127 h127 ⟨_, h3⟩) (fun q hq => hq.elim (fun e => key q 130 h130 (h2.gb_at e)) (fun e => key q 5 h5 (h2.hb_at e))) (fun cv' f e q hq => key q 5 h5 ?_)
  rw [h3] at e
  injection e with e
  injection e with e
  have e' : cv = cv' := by simpa using e
  subst e'
  exact h4.block q hq
/-- A block apart from the escaper and the variables. -/
structure Sep (W : World) (E D X B : Nat) (gb hb : Option Nat) (q : Nat) : Prop where
  lt : q < W.heap.size
  ch : ¬ Ch D gb hb q
  e : q ≠ E
  x : q ≠ X
  b : q ≠ B
  b1 : q ≠ B + 1
  cv : ∀ cv f, W.heap[D]? = some (.cells #[cv] 127 f) → some q ≠ cv.ownBlock
/-- While the chunks are fed. -/
structure Lp (w W : World) (E D X B k : Nat) (gb hb : Option Nat) (ov uv : Value) (vs : List Value) (us : List (List Nat)) (done : List Nat) (F : List (List Nat)) (cl : List Nat) : Prop where
  esc : Esc W w.heap.size E D gb hb k F cl
  all : Byr W w.heap.size ov done
  box : W.heap[X]? = some (.cells #[uv] 46 (0, 0))
  uns : UnsV W w.heap.size uv vs us
  res : W.heap[B]? = some (.cells #[.bool false] 4 (0, 0))
  knd : W.heap[B + 1]? = some (.cells #[.int .u8 (k : Int)] 47 (0, 0))
  bel : Below w.heap.size w W
  low : w.heap.size ≤ B ∧ w.heap.size ≤ X
  so : ∀ q, some q = ov.ownBlock → Sep W E D X B gb hb q
  se : ∀ (i : Nat) (x : Value), vs[i]? = some x → ∀ q, some q = x.ownBlock → Sep W E D X B gb hb q
  on : ∀ q, some q = ov.ownBlock → ∀ (i : Nat) (x : Value), vs[i]? = some x → some q ≠ x.ownBlock
section
variable {w W V : World} {E D X B k : Nat} {gb hb hb' : Option Nat} {ov uv ov' : Value} {vs : List Value} {us : List (List Nat)} {done done' : List Nat} {F F' : List (List Nat)} {cl cl' : List Nat}
theorem Lp.lts (h : Lp w W E D X B k gb hb ov uv vs us done F cl) : X < W.heap.size ∧ B < W.heap.size ∧ B + 1 < W.heap.size := ⟨(Array.getElem?_eq_some_iff.1 h.box).1, (Array.getElem?_eq_some_iff.1 h.res).1, (Array.getElem?_eq_some_iff.1 h.knd).1⟩
theorem Sep.new_ (h : Lp w W E D X B k gb hb ov uv vs us done F cl) {q : Nat} (hq : W.heap.size ≤ q) (hV : q < V.heap.size) (hD : V.heap[D]? = W.heap[D]?) : Sep V E D X B gb hb q := by
  have hl := h.esc.lt
  have hx := h.lts
  refine ⟨hV, fun hc => ?_, by omega, by omega, by omega, by omega, fun cv f e e2 => ?_⟩
  · rcases hc with rfl | hc
    · omega
    · have := hl.2.2 q hc
      omega
  · obtain ⟨cv0, h3, h4⟩ := h.esc.dc
    rw [hD, h3] at e
    injection e with e
    injection e with e
    have e' : cv0 = cv := by simpa using e
    subst e'
    have := h4.lt q e2.symm
    omega
/-- All the bytes grow. -/
theorem Lp.grow (h : Lp w W E D X B k gb hb ov uv vs us done F cl) (hn : Byr V w.heap.size ov' done') (hB : Below w.heap.size w V) (hg : W.grownBy V ov.ownBlock) (hat : ov'.ownBlock = ov.ownBlock ∨ ∃ b, ov'.ownBlock = some b ∧ W.heap.size ≤ b) : Lp w V E D X B k gb hb ov' uv vs us done' F cl := by
  have hK : ∀ q, q < W.heap.size → some q ≠ ov.ownBlock → V.heap[q]? = W.heap[q]? := hg.block
  have hl := h.esc.lt
  have hx := h.lts
  have ty : ∀ (q t : Nat), 5 ≠ t → (∃ cur, W.heap[q]? = some (Obj.cells cur t (0, 0))) → V.heap[q]? = W.heap[q]? := by
    rintro q t ht ⟨cur, hq⟩
    exact hK q (Array.getElem?_eq_some_iff.1 hq).1 (h.all.ne hq ht)
  obtain ⟨gp, h1, h2⟩ := h.esc.es
  obtain ⟨cv0, h3, h4⟩ := h.esc.dc
  have hD := ty D 127 (by decide) ⟨_, h3⟩
  have sep : ∀ q, Sep W E D X B gb hb q → Sep V E D X B gb hb q := fun q s => ⟨Nat.lt_of_lt_of_le s.lt hg.size, s.ch, s.e, s.x, s.b, s.b1, fun cv f e => s.cv cv f (hD.symm.trans e)⟩
  have kel : ∀ (i : Nat) (x : Value), vs[i]? = some x → ∀ q, x.ownBlock = some q → V.heap[q]? = W.heap[q]? := fun i x hx q e => hK q (h.se i x hx q e.symm).lt fun e2 => h.on q e2 i x hx e.symm
  refine ⟨h.esc.moved (ty E 99 (by decide) ⟨_, h1⟩) hD (fun q hq => hq.elim (fun e => ty q 130 (by decide) (h2.gb_at e)) (fun e => hK q (hl.2.2 q hq) fun e2 => (h.so q e2).ch (.inr (.inr e)))) (fun cv f e q hq => ?_), hn, (ty X 46 (by decide) ⟨_, h.box⟩).trans h.box, h.uns.same hg.size (fun q e => ty q 22 (by decide) (h.uns.rw.block q e.symm)) kel, (ty B 4 (by decide) ⟨_, h.res⟩).trans h.res, (ty (B + 1) 47 (by decide) ⟨_, h.knd⟩).trans h.knd, hB, h.low, fun q e => ?_, fun i x hx q e => sep q (h.se i x hx q e), fun q e i x hx e2 => ?_⟩
  · refine hK q ?_ fun e2 => (h.so q e2).cv cv f e hq
    rw [h3] at e
    injection e with e
    injection e with e
    have e' : cv0 = cv := by simpa using e
    subst e'
    exact h4.lt q hq.symm
  · rcases hat with ha | ⟨b, ha, hb⟩
    · exact sep q (h.so q (e.trans ha))
    · rw [ha] at e
      injection e with e
      subst e
      exact Sep.new_ h hb (hn.lt q ha) hD
  · rcases hat with ha | ⟨b, ha, hb⟩
    · exact h.on q (e.trans ha) i x hx e2
    · rw [ha] at e
      injection e with e
      subst e
      have := (h.se i x hx q e2).lt
      omega
/-- The escaper's turn. -/
theorem Lp.feed (h : Lp w W E D X B k gb hb ov uv vs us done F cl) {m : Nat} (hE : Esc V w.heap.size E D gb hb' k F' cl') (hK : Kept W V (Ch D gb hb)) (hN : Nxt W hb hb') (hB : Below w.heap.size w V) (hc : ∀ cv f, V.heap[D]? = some (.cells #[cv] 127 f) → ∀ q, some q = cv.ownBlock → W.heap.size ≤ q ∧ q < m) : Lp w V E D X B k gb hb' ov uv vs us done F' cl' := by
  have hl := h.esc.lt
  have hx := h.lts
  obtain ⟨gp, h1, h2⟩ := h.esc.es
  obtain ⟨cv, h3, h4⟩ := h.esc.dc
  have ty : ∀ (q t : Nat), t ≠ 127 → t ≠ 130 → t ≠ 5 → (∃ cur, W.heap[q]? = some (Obj.cells cur t (0, 0))) → V.heap[q]? = W.heap[q]? := by
    rintro q t t1 t2 t3 ⟨cur, hq⟩
    refine hK.2 q (Array.getElem?_eq_some_iff.1 hq).1 fun e => ?_
    rcases e with rfl | e | e
    · exact blk_ne hq h3 t1 rfl
    · obtain ⟨c, hc⟩ := h2.gb_at e
      exact blk_ne hq hc t2 rfl
    · obtain ⟨c, hc⟩ := h2.hb_at e
      exact blk_ne hq hc t3 rfl
  have sep : ∀ q, Sep W E D X B gb hb q → Sep V E D X B gb hb' q := fun q s => by
    refine ⟨Nat.lt_of_lt_of_le s.lt hK.1, fun e => ?_, s.e, s.x, s.b, s.b1, fun cv f e e2 => ?_⟩
    · rcases e with e | e | e
      · exact s.ch (.inl e)
      · exact s.ch (.inr (.inl e))
      · exact hN.ne s.lt (fun e2 => s.ch (.inr (.inr e2))) e
    · have := (hc cv f e q e2).1
      have := s.lt
      omega
  refine ⟨hE, h.all.same fun q e => hK.2 q (h.so q e.symm).lt (h.so q e.symm).ch, (ty X 46 (by decide) (by decide) (by decide) ⟨_, h.box⟩).trans h.box, h.uns.same hK.1 (fun q e => ty q 22 (by decide) (by decide) (by decide) (h.uns.rw.block q e.symm)) (fun i x hx q e => hK.2 q (h.se i x hx q e.symm).lt (h.se i x hx q e.symm).ch), (ty B 4 (by decide) (by decide) (by decide) ⟨_, h.res⟩).trans h.res, (ty (B + 1) 47 (by decide) (by decide) (by decide) ⟨_, h.knd⟩).trans h.knd, hB, h.low, fun q e => sep q (h.so q e), fun i x hx q e => sep q (h.se i x hx q e), h.on⟩
/-- The new units are laid behind the others, and the row into its box. -/
theorem Lp.join {W7 : World} {v7 u2 : Value} {vs2 : List Value} {us2 : List (List Nat)} {m : Nat} (h : Lp w W E D X B k gb hb ov uv vs us done F cl) (h2 : UnsV W m u2 vs2 us2) (hm : w.heap.size ≤ m) (hch : ∀ q, Ch D gb hb q → q < m) (hcv : ∀ cv f, W.heap[D]? = some (.cells #[cv] 127 f) → ∀ q, some q = cv.ownBlock → q < m) (hlow : E < m ∧ X < m ∧ B < m ∧ B + 1 < m) (ho : ∀ q, some q = ov.ownBlock → q < m) (hu : ∀ q, some q = uv.ownBlock → q < m)
    (h1 : (Kd.raw 1).R 22 W7 w.heap.size (fun _ => True) v7 ((vs.map fun x => [x]) ++ (vs2.map fun x => [x]))) (hg : W.grownBy W7 uv.ownBlock) (hat : v7.ownBlock = uv.ownBlock ∨ ∃ b, v7.ownBlock = some b ∧ W.heap.size ≤ b) (hB : Below w.heap.size w W7) :
    W7.heap[X]? = some (.cells #[uv] 46 (0, 0)) ∧ Lp w (W7.setCell ⟨X, 0, none⟩ v7) E D X B k gb hb ov v7 (vs ++ vs2) (us ++ us2) done F cl := by
  have hl := h.esc.lt
  have hx := h.lts
  have hu7 := uns_app h.uns h2 hm (fun q e => hu q e.symm) h1 hg hat
  have hK : ∀ q, q < W.heap.size → some q ≠ uv.ownBlock → W7.heap[q]? = W.heap[q]? := hg.block
  have ty : ∀ (q t : Nat), 22 ≠ t → (∃ cur, W.heap[q]? = some (Obj.cells cur t (0, 0))) → W7.heap[q]? = W.heap[q]? := by
    rintro q t ht ⟨cur, hq⟩
    exact hK q (Array.getElem?_eq_some_iff.1 hq).1 (h.uns.rw.ne hq ht)
  have hX7 := (ty X 46 (by decide) ⟨_, h.box⟩).trans h.box
  have hh : ∀ q, q ≠ X → (W7.setCell ⟨X, 0, none⟩ v7).heap[q]? = W7.heap[q]? := fun q hq => Below.heap_setCell _ _ _ _ hq
  have hsz : (W7.setCell ⟨X, 0, none⟩ v7).heap.size = W7.heap.size := setCell_size _ _ _
  obtain ⟨gp, g1, g2⟩ := h.esc.es
  obtain ⟨cv0, g3, g4⟩ := h.esc.dc
  have tz : ∀ (q t : Nat), 22 ≠ t → 46 ≠ t → (∃ cur, W.heap[q]? = some (Obj.cells cur t (0, 0))) → (W7.setCell ⟨X, 0, none⟩ v7).heap[q]? = W.heap[q]? := by
    rintro q t ht ht2 ⟨cur, hq⟩
    exact (hh q (fun e => blk_ne h.box hq ht2 e.symm)).trans (ty q t ht ⟨cur, hq⟩)
  have hD := tz D 127 (by decide) (by decide) ⟨_, g3⟩
  have hcvx : ∀ cv f, W.heap[D]? = some (.cells #[cv] 127 f) → cv0 = cv := fun cv f e => by
    rw [g3] at e
    injection e with e
    injection e with e
    simpa using e
  have sep : ∀ q, Sep W E D X B gb hb q → Sep (W7.setCell ⟨X, 0, none⟩ v7) E D X B gb hb q := fun q s => ⟨by rw [hsz]; exact Nat.lt_of_lt_of_le s.lt hg.size, s.ch, s.e, s.x, s.b, s.b1, fun cv f e => s.cv cv f (hD.symm.trans e)⟩
  have sep2 : ∀ (i : Nat) (x : Value), vs2[i]? = some x → ∀ q, some q = x.ownBlock → Sep (W7.setCell ⟨X, 0, none⟩ v7) E D X B gb hb q := fun i x hx q e => by
    have ho2 := h2.out i x hx q e.symm
    refine ⟨by rw [hsz]; exact Nat.lt_of_lt_of_le ho2.2.1 hg.size, fun hc => ?_, by omega, by omega, by omega, by omega, fun cv f e1 e2 => ?_⟩
    · have := hch q hc
      omega
    · have := hcv cv f (hD.symm.trans e1) q e2
      omega
  refine ⟨hX7, h.esc.moved (tz E 99 (by decide) (by decide) ⟨_, g1⟩) hD (fun q hq => hq.elim (fun e => tz q 130 (by decide) (by decide) (g2.gb_at e)) (fun e => tz q 5 (by decide) (by decide) (g2.hb_at e))) (fun cv f e q hq => tz q 5 (by decide) (by decide) (g4.block q (by rw [hcvx cv f e]; exact hq))), h.all.same (fun q e => tz q 5 (by decide) (by decide) (h.all.block q e.symm)), Joins.block_setCell (i := 0) hX7 _, hu7.same (by rw [hsz]; exact Nat.le_refl _) (fun q e => hh q fun e2 => ?_) (fun i x hx q e => hh q fun e2 => ?_), (tz B 4 (by decide) (by decide) ⟨_, h.res⟩).trans h.res, (tz (B + 1) 47 (by decide) (by decide) ⟨_, h.knd⟩).trans h.knd, hB.setCell (p := ⟨X, 0, none⟩) h.low.2 _, h.low, fun q e => sep q (h.so q e), fun i x hx q e => ?_, fun q e i x hx e2 => ?_⟩
  · obtain ⟨cur, hc⟩ := hu7.rw.block q e.symm
    exact blk_ne hc hX7 (by decide) e2
  · rcases Nat.lt_or_ge i vs.length with hi | hi
    · rw [List.getElem?_append_left hi] at hx
      exact (h.se i x hx q e.symm).x e2
    · rw [List.getElem?_append_right hi] at hx
      exact (sep2 _ x hx q e.symm).x e2
  · rcases Nat.lt_or_ge i vs.length with hi | hi
    · rw [List.getElem?_append_left hi] at hx
      exact sep q (h.se i x hx q e)
    · rw [List.getElem?_append_right hi] at hx
      exact sep2 _ x hx q e
  · rcases Nat.lt_or_ge i vs.length with hi | hi
    · rw [List.getElem?_append_left hi] at hx
      exact h.on q e i x hx e2
    · rw [List.getElem?_append_right hi] at hx
      have := (h2.out _ x hx q e2.symm).1
      have := ho q e
      omega
/-- What stands in memory when the value is at its end. -/
structure Fn (w W : World) (E D X B k : Nat) (gb : Option Nat) (ov uv : Value) (vs : List Value) (us : List (List Nat)) (done : List Nat) : Prop where
  esc : Esc W w.heap.size E D gb none k [] []
  all : Byr W w.heap.size ov done
  box : W.heap[X]? = some (.cells #[uv] 46 (0, 0))
  uns : UnsV W w.heap.size uv vs us
  res : W.heap[B]? = some (.cells #[.bool false] 4 (0, 0))
  knd : W.heap[B + 1]? = some (.cells #[.int .u8 (k : Int)] 47 (0, 0))
  bel : Below w.heap.size w W
  low : w.heap.size ≤ B ∧ w.heap.size ≤ X
theorem Lp.kept6 {W6 : World} (h : Lp w W E D X B k gb hb ov uv vs us done F cl) (hK6 : Kept W W6 (Ch D gb hb)) : UnsV W6 w.heap.size uv vs us ∧ W6.heap[X]? = some (.cells #[uv] 46 (0, 0)) := by
  obtain ⟨gp, h1', h2'⟩ := h.esc.es
  obtain ⟨cv, h3, h4⟩ := h.esc.dc
  have ty6 : ∀ (q t : Nat), t ≠ 127 → t ≠ 130 → t ≠ 5 → (∃ cur, W.heap[q]? = some (Obj.cells cur t (0, 0))) → W6.heap[q]? = W.heap[q]? := by
    rintro q t t1 t2 t3 ⟨cur, hq⟩
    refine hK6.2 q (Array.getElem?_eq_some_iff.1 hq).1 fun e => ?_
    rcases e with rfl | e | e
    · exact blk_ne hq h3 t1 rfl
    · obtain ⟨c, hc⟩ := h2'.gb_at e
      exact blk_ne hq hc t2 rfl
    · obtain ⟨c, hc⟩ := h2'.hb_at e
      exact blk_ne hq hc t3 rfl
  exact ⟨h.uns.same hK6.1 (fun q e => ty6 q 22 (by decide) (by decide) (by decide) (h.uns.rw.block q e.symm)) (fun i x hx q e => hK6.2 q (h.se i x hx q e.symm).lt (h.se i x hx q e.symm).ch), (ty6 X 46 (by decide) (by decide) (by decide) ⟨_, h.box⟩).trans h.box⟩
theorem Lp.finish {W6 W7 : World} {v7 u2 : Value} {vs2 : List Value} {us2 : List (List Nat)} (h : Lp w W E D X B k gb hb ov uv vs us done F cl) (hE : Esc W6 w.heap.size E D gb none k [] []) (hK6 : Kept W W6 (Ch D gb hb)) (h2 : UnsV W6 W.heap.size u2 vs2 us2)
    (h1 : (Kd.raw 1).R 22 W7 w.heap.size (fun _ => True) v7 ((vs.map fun x => [x]) ++ (vs2.map fun x => [x]))) (hg : W6.grownBy W7 uv.ownBlock) (hat : v7.ownBlock = uv.ownBlock ∨ ∃ b, v7.ownBlock = some b ∧ W6.heap.size ≤ b) (hB : Below w.heap.size w W7) :
    W7.heap[X]? = some (.cells #[uv] 46 (0, 0)) ∧ Fn w (W7.setCell ⟨X, 0, none⟩ v7) E D X B k gb ov v7 (vs ++ vs2) (us ++ us2) done := by
  have hx := h.lts
  obtain ⟨gp, h1', h2'⟩ := h.esc.es
  obtain ⟨cv, h3, h4⟩ := h.esc.dc
  have ty6 : ∀ (q t : Nat), t ≠ 127 → t ≠ 130 → t ≠ 5 → (∃ cur, W.heap[q]? = some (Obj.cells cur t (0, 0))) → W6.heap[q]? = W.heap[q]? := by
    rintro q t t1 t2 t3 ⟨cur, hq⟩
    refine hK6.2 q (Array.getElem?_eq_some_iff.1 hq).1 fun e => ?_
    rcases e with rfl | e | e
    · exact blk_ne hq h3 t1 rfl
    · obtain ⟨c, hc⟩ := h2'.gb_at e
      exact blk_ne hq hc t2 rfl
    · obtain ⟨c, hc⟩ := h2'.hb_at e
      exact blk_ne hq hc t3 rfl
  have box6 := (ty6 X 46 (by decide) (by decide) (by decide) ⟨_, h.box⟩).trans h.box
  have res6 := (ty6 B 4 (by decide) (by decide) (by decide) ⟨_, h.res⟩).trans h.res
  have knd6 := (ty6 (B + 1) 47 (by decide) (by decide) (by decide) ⟨_, h.knd⟩).trans h.knd
  have all6 := h.all.same (V := W6) fun q e => hK6.2 q (h.so q e.symm).lt (h.so q e.symm).ch
  have uns6 := h.uns.same (V := W6) hK6.1 (fun q e => ty6 q 22 (by decide) (by decide) (by decide) (h.uns.rw.block q e.symm)) (fun i x hx q e => hK6.2 q (h.se i x hx q e.symm).lt (h.se i x hx q e.symm).ch)
  have hu7 := uns_app uns6 h2 h.bel.size (fun q e => h.uns.rw.lt q e) h1 hg hat
  have hK : ∀ q, q < W6.heap.size → some q ≠ uv.ownBlock → W7.heap[q]? = W6.heap[q]? := hg.block
  have ty : ∀ (q t : Nat), 22 ≠ t → (∃ cur, W6.heap[q]? = some (Obj.cells cur t (0, 0))) → W7.heap[q]? = W6.heap[q]? := by
    rintro q t ht ⟨cur, hq⟩
    exact hK q (Array.getElem?_eq_some_iff.1 hq).1 (uns6.rw.ne hq ht)
  have hX7 := (ty X 46 (by decide) ⟨_, box6⟩).trans box6
  have hh : ∀ q, q ≠ X → (W7.setCell ⟨X, 0, none⟩ v7).heap[q]? = W7.heap[q]? := fun q hq => Below.heap_setCell _ _ _ _ hq
  have hsz : (W7.setCell ⟨X, 0, none⟩ v7).heap.size = W7.heap.size := setCell_size _ _ _
  have tz : ∀ (q t : Nat), 22 ≠ t → 46 ≠ t → (∃ cur, W6.heap[q]? = some (Obj.cells cur t (0, 0))) → (W7.setCell ⟨X, 0, none⟩ v7).heap[q]? = W6.heap[q]? := by
    rintro q t ht ht2 ⟨cur, hq⟩
    exact (hh q (fun e => blk_ne box6 hq ht2 e.symm)).trans (ty q t ht ⟨cur, hq⟩)
  obtain ⟨gp, g1, g2⟩ := hE.es
  obtain ⟨cv0, g3, g4⟩ := hE.dc
  have hcvx : ∀ cv f, W6.heap[D]? = some (.cells #[cv] 127 f) → cv0 = cv := fun cv f e => by
    rw [g3] at e
    injection e with e
    injection e with e
    simpa using e
  refine ⟨hX7, hE.moved (tz E 99 (by decide) (by decide) ⟨_, g1⟩) (tz D 127 (by decide) (by decide) ⟨_, g3⟩) (fun q hq => hq.elim (fun e => tz q 130 (by decide) (by decide) (g2.gb_at e)) (fun e => tz q 5 (by decide) (by decide) (g2.hb_at e))) (fun cv f e q hq => tz q 5 (by decide) (by decide) (g4.block q (by rw [hcvx cv f e]; exact hq))), all6.same (fun q e => tz q 5 (by decide) (by decide) (all6.block q e.symm)), Joins.block_setCell (i := 0) hX7 _, hu7.same (by rw [hsz]; exact Nat.le_refl _) (fun q e => hh q fun e2 => ?_) (fun i x hx q e => hh q fun e2 => ?_), (tz B 4 (by decide) (by decide) ⟨_, res6⟩).trans res6, (tz (B + 1) 47 (by decide) (by decide) ⟨_, knd6⟩).trans knd6, hB.setCell (p := ⟨X, 0, none⟩) h.low.2 _, h.low⟩
  · obtain ⟨cur, hc⟩ := hu7.rw.block q e.symm
    exact blk_ne hc hX7 (by decide) e2
  · rcases Nat.lt_or_ge i vs.length with hi | hi
    · rw [List.getElem?_append_left hi] at hx
      exact (h.se i x hx q e.symm).x e2
    · rw [List.getElem?_append_right hi] at hx
      have := (h2.out _ x hx q e).1
      omega
theorem Fn.lts (h : Fn w W E D X B k gb ov uv vs us done) : B < W.heap.size ∧ X < W.heap.size := ⟨(Array.getElem?_eq_some_iff.1 h.res).1, (Array.getElem?_eq_some_iff.1 h.box).1⟩
theorem Fn.below (h : Fn w W E D X B k gb ov uv vs us done) (hb : Below W.heap.size W V) : Fn w V E D X B k gb ov uv vs us done := by
  have hl : ∀ {q : Nat} {o : Obj}, W.heap[q]? = some o → V.heap[q]? = some o := fun h => (hb.block _ (Array.getElem?_eq_some_iff.1 h).1).trans h
  exact ⟨h.esc.below hb, h.all.below hb, hl h.box, h.uns.below hb, hl h.res, hl h.knd, below_step h.bel hb, h.low⟩
end
end Go.Proofs.YtfplocpjdjjoaaaDoor.Cut
namespace Go.Proofs.YtfplocpjdjjoaaaDoor.Cut
open Go Go.RowKit Go.Proofs.YtfplocpjdjjoaaaDoor.Trail Go.Proofs.YtfplocpjdjjoaaaDoor.Ctxs Go.Proofs.YtfplocpjdjjoaaaDoorW.PrintWords
attribute [local go_sem] Oper.semAt_some
set_option linter.unusedVariables false
set_option linter.unusedSimpArgs false
/-- What the loop is handed: a place and a character. -/
abbrev Hnd := Nat × { c : List Nat // Chr c }
def encH (x : Hnd) : Array Value := #[.int .i64 (x.1 : Int), .int .i32 (val x.2.1 : Int)]
theorem grown_iterAt (w : World) (k : Nat) (s : ByteArray) (pos : Nat) : w.grownBy (w.iterAt k s pos) (some k) :=
  ⟨rfl, rfl, rfl, Nat.le_of_eq (Lib.iterAt_size _ _ _ _).symm, fun i _ hi => Lib.iterAt_other w k i s pos (fun e => hi (by rw [e]))⟩
set_option maxHeartbeats 4000000 in
set_option maxRecDepth 100000 in
theorem each_in (n : Nat) (hn : 1 ≤ n) (l T : Nat) (cs : List (List Nat)) (hcs : ∀ c ∈ cs, Chr c) (tv : Value) (W : World) (hc : W.cell? ⟨T, 0, none⟩ = some tv) (hv : Rdb W tv cs.flatten)
    (J Jx : List Hnd → World → Prop) (hJ : AbidesFrom W.heap.size J)
    (hY : ∀ pre x W1, J pre W1 → pre.length < cs.length → YieldAt Fence.wide (n - 1) Tryd.prog l (encH x) W1 fun e W' =>
      (e = .returned (.bool true) ∧ J (pre ++ [x]) W' ∧ KeepsWalks W1 W') ∨ (e = .returned (.bool false) ∧ Jx (pre ++ [x]) W'))
    (hj : J [] W) :
    CallsIn Fence.wide n Tryd.prog 45 (#[.func (.yield l) #[] #[]] ++ #[.pointer (some ⟨T, 0, none⟩)]) W fun e W' => (∃ v, e = .returned v) ∧
      ((∃ xs, xs.map (fun x : Hnd => x.2.1) = cs ∧ J xs W') ∨ (∃ pre, pre.map (fun x : Hnd => x.2.1) = cs.take pre.length ∧ Jx pre W')) := by
  obtain ⟨A, N, c0, rfl, hN⟩ : ∃ A N c, tv = .slice A N c ∧ N = cs.flatten.length := by
    obtain ⟨A, c, e, -⟩ := hv
    exact ⟨A, _, c, e, rfl⟩
  have hcv : (convert 22 9 (.slice A N c0)).run Tryd.prog W = .ok (.string (bs cs.flatten)) W := by
    obtain ⟨A', c', e, -, h2⟩ := hv
    injection e with e1 e2 e3
    subst e1 e2
    exact conv_row h2
  have hsz : (bs cs.flatten).size = cs.flatten.length := bs_size _
  have HS := Aside0.mk hsz
  have HCS := Aside0.mk hcs
  obtain ⟨S, hSx⟩ : ∃ S, S = bs cs.flatten := ⟨_, rfl⟩
  have HSX := Aside0.mk hSx
  rw [← hSx] at hcv hsz
  have HJ := Aside0.mk hJ
  have HY := Aside0.mk hY
  have HJ0 := Aside0.mk (hJ [] W _ none hj (grown_of_below ((Below.refl W.heap.size W).alloc (Nat.le_refl _) (.stringIter S 0)) none) (fun r e => by cases e))
  have hlt : T < W.heap.size := World.block_lt_of_cell? W _ hc
  clear hv hcs hSx hsz hJ hY hj hN
  refine callsIn_of_wp Tryd.func45 rfl trivial ?_ rfl
  simp only [Tryd.ntmps45, List.size_toArray, List.length_cons, List.length_nil, Nat.reduceAdd, Nat.reduceSub, Array.replicate_succ, Array.replicate_zero, List.push_toArray, List.append_toArray, List.nil_append, List.cons_append]
  gi_wp2
  gi_loopw [] (fun wr => ∃ (k : Nat) (pre : List Hnd), k ≤ cs.length ∧ wr.heap[W.heap.size]? = some (.stringIter S (place cs k)) ∧ pre.map (fun x : Hnd => x.2.1) = cs.take k ∧ J pre wr) (fun wr => S.size - wr.iterPos W.heap.size)
  case atStart => exact ⟨0, [], Nat.zero_le _, World.iter_heap W S 0, rfl, HJ0.out⟩
  case round =>
    obtain ⟨k, pre, hk, hit, hpre, hjw⟩ := hrel
    have hpos := iter_pos hit
    have HPOS := Aside0.mk hpos
    have hpl : pre.length = k := by
      have := congrArg List.length hpre
      rw [List.length_map, List.length_take] at this
      omega
    by_cases hkl : k < cs.length
    · obtain ⟨c, hcx⟩ : ∃ c, cs[k]? = some c := ⟨_, List.getElem?_eq_getElem hkl⟩
      obtain ⟨hn1, hn2⟩ := place_next cs k c hcx
      have hch := HCS.out c (List.mem_of_getElem? hcx)
      have hcp := List.length_pos_iff.2 (chr_ne hch)
      have hp : place cs k < S.size := by rw [HSX.out, HS.out]; omega
      have hdec := decode_chr (small_flat HCS.out) (place cs k) hch (place_at cs k c hcx)
      rw [← HSX.out] at hdec
      have hnx : ∀ ty, (Instr.next (.pointer (some ⟨W.heap.size, 0, none⟩)) true ty).run Tryd.prog wr = _ := fun ty => Lib.run_next_any_at wr W.heap.size S (place cs k) ty hit hp
      rw [hdec] at hnx
      dsimp only at hnx
      have hit2 := Lib.iterAt_heap wr W.heap.size S (place cs k) (place cs k + c.length) hit
      have hj2 := HJ.out pre wr _ (some W.heap.size) hjw (grown_iterAt wr W.heap.size S (place cs k + c.length)) (fun r e => by cases e; exact ⟨Nat.le_refl _, _, hit, rfl⟩)
      obtain ⟨W1, hW1⟩ : ∃ W1, W1 = wr.iterAt W.heap.size S (place cs k + c.length) := ⟨_, rfl⟩
      rw [← hW1] at hnx hit2 hj2
      obtain ⟨fn, tmps, assign, body, hy, hR⟩ := HY.out pre (place cs k, ⟨c, hch⟩) W1 hj2 (by omega)
      try dsimp only [encH] at hy
      have HIT := Aside0.mk hit2
      have HPR := Aside0.mk (And.intro hpre hpl)
      have HC := Aside0.mk (And.intro hcx hn1)
      have HKL := Aside0.mk hkl
      have HPC := Aside0.mk (And.intro hp hcp)
      clear hW1 hit hpos hpre hpl hk hkl hn1 hn2 hcp hp hdec hit2 hjw hj2 hcx
      gi_wp2
      refine hR.mono ?_
      rintro e W3 (⟨rfl, hJ3, hk3⟩ | ⟨rfl, hJx3⟩)
      · have HJ3 := Aside0.mk hJ3
        have HK3 := Aside0.mk hk3
        clear hJ3 hk3 hR hy
        gi_wp2
        have hit3 : W3.heap[W.heap.size]? = some (.stringIter S (place cs (k + 1))) := by
          rw [HC.out.2]
          exact HK3.out.same _ _ HIT.out rfl
        refine ⟨⟨k + 1, pre ++ [(place cs k, ⟨c, hch⟩)], HKL.out, hit3, ?_, HJ3.out⟩, ?_⟩
        · rw [List.map_append, HPR.out.1, List.take_add_one, HC.out.1]
          rfl
        · rw [iter_pos hit3, HPOS.out, HC.out.2]
          have := HPC.out
          omega
      · have HJ3 := Aside0.mk hJx3
        clear hJx3 hR hy
        gi_wp2
        refine bodyPost_ret (results_none rfl _ _ _) rfl ?_
        refine ⟨⟨_, rfl⟩, .inr ⟨pre ++ [(place cs k, ⟨c, hch⟩)], ?_, HJ3.out⟩⟩
        rw [List.map_append, HPR.out.1, List.length_append, HPR.out.2, List.length_singleton, List.take_add_one, HC.out.1]
        rfl
    · have hke : k = cs.length := by omega
      subst hke
      rw [List.take_length] at hpre
      rw [place_end (Nat.le_refl _)] at hit
      have hnx : ∀ ty, (Instr.next (.pointer (some ⟨W.heap.size, 0, none⟩)) true ty).run Tryd.prog wr = _ := fun ty => Lib.run_next_end_at wr W.heap.size S _ ty hit (by rw [HSX.out, HS.out]; omega)
      have HJ3 := Aside0.mk (And.intro hpre hjw)
      clear hit hpre hjw hk hkl hpos hpl
      gi_wp2
      go_end0
      exact ⟨⟨_, rfl⟩, .inl ⟨pre, HJ3.out.1, HJ3.out.2⟩⟩
theorem each_stops (n : Nat) (hn : 1 ≤ n) (T : Nat) (cs : List (List Nat)) (hcs : ∀ c ∈ cs, Chr c) (tv : Value) (w : World) (hc : w.cell? ⟨T, 0, none⟩ = some tv) (hv : Rdb w tv cs.flatten) :
    SeqStopsK Fence.wide n Tryd.prog 45 #[.pointer (some ⟨T, 0, none⟩)] encH KeepsWalks (fun xs => xs.map (fun x : Hnd => x.2.1) = cs) (fun pre => pre.map (fun x : Hnd => x.2.1) = cs.take pre.length) cs.length w := fun l J Jx W hW hJ _ hY hj =>
  each_in n hn l T cs hcs tv W ((hW.cell (World.block_lt_of_cell? w _ hc)).trans hc) (hv.below hW) J Jx hJ hY hj
set_option maxHeartbeats 4000000 in
set_option maxRecDepth 100000 in
theorem each_calls {v : Value} (p : List Nat) (hs : Small p) (hlen : p.length ≤ 10000000) (w : World) (hv : Rdb w v p) :
    Calls Tryd.prog 17 #[v] w fun e W' => ∃ T tv, e = .returned (.func (.func 45) #[] #[.pointer (some ⟨T, 0, none⟩)]) ∧ W'.cell? ⟨T, 0, none⟩ = some tv ∧ Rdb W' tv (cleanOf p).flatten ∧ Below w.heap.size w W' := by
  have HV := Aside0.mk hv
  have HP := Aside0.mk (And.intro hs hlen)
  obtain ⟨A, N, c, rfl, hN⟩ : ∃ A N c, v = .slice A N c ∧ N = p.length := by
    obtain ⟨A, c, e, -⟩ := hv
    exact ⟨A, _, c, e, rfl⟩
  clear hv hs hlen hN
  go_enter Tryd.func17, Tryd.ntmps17
  go_wp2_with (go_at_call 44; (with_reducible refine (clean_calls p HP.out.1 HP.out.2 _ HV.out).mono ?_); rintro e w1 ⟨u, rfl, hu, hb⟩; have HU := Aside0.mk hu; have HB := Aside0.mk hb; obtain ⟨A1, N1, c1, rfl, hN1⟩ : (∃ A N c, u = .slice A N c ∧ N = (cleanOf p).flatten.length) := (by obtain ⟨A, c, e⟩ := hu.slice; exact ⟨A, _, c, e, rfl⟩); clear hu hb hN1)
  go_ret
  refine ⟨w1.heap.size, _, rfl, ?_, HU.out.rdb.below ((Below.refl _ _).alloc (Nat.le_refl _) _), HB.out.alloc HB.out.size _⟩
  rw [World.cell?_alloc_at _ _ _ _ rfl]
  rfl
end Go.Proofs.YtfplocpjdjjoaaaDoor.Cut
namespace Go.Proofs.YtfplocpjdjjoaaaDoor.Cut
open Go Go.RowKit
set_option linter.unusedVariables false
set_option linter.unusedSimpArgs false
theorem below_drewN (w : World) (m : Nat) : Below w.heap.size w (w.drewN m) := ⟨rfl, rfl, rfl, Nat.le_refl _, fun _ _ => rfl⟩
section
variable {P : Program} {ops : Array Oper} {md : Region.Mode} {C : World → Prop} {l n : Nat}
theorem wpIn_of_quiet {o : Oper} {a : Act} {K : Act → Prop} {K' : Act → World → Prop} {Q' : Exit → Act → World → Prop} {w : World} (hd : ∀ c, o.op ≠ .defer c) (hw : C w) (h : ∀ a w', C w' → K a → K' a w') (hh : o.quiet P a C K) : o.wpIn (Fence.wide.inRound l) n P a w K' Q' := by
  obtain ⟨v, h1, h2⟩ := hh
  refine ⟨fun f _ => trivial, ?_⟩
  rw [Oper.semAt_eq _ _ _ hd]
  have h3 := h1 w hw
  unfold Oper.quietAt at h3
  revert h3
  generalize (execOp a.eval o).run P w = r
  intro h3
  match r, h3 with
  | .ok (.value u) w', h3 =>
    obtain ⟨rfl, rfl⟩ := h3
    exact h _ _ hw h2
  | .ok .skip w', h3 =>
    obtain ⟨rfl, rfl⟩ := h3
    exact h _ _ hw h2
  | .ok (.enter f args) w', h3 =>
    obtain ⟨rfl, h4⟩ := h3
    refine ⟨fun hx => (by cases hx), ?_⟩
    refine (callsIn_wide.2 h4).mono ?_
    rintro e w'' ⟨rfl, hC⟩
    exact h _ _ hC h2
theorem wpOpIn_of_qOp {i : Nat} {a : Act} {K : Act → Prop} {K' : Act → World → Prop} {Q' : Exit → Act → World → Prop} {w : World} (hd : ∀ o, ops[i]? = some o → ∀ c, o.op ≠ .defer c) (hw : C w) (h : ∀ a w', C w' → K a → K' a w') (hh : qOp P ops C i K a) : wpOpIn (Fence.wide.inRound l) n P ops Q' i K' a w := by
  unfold qOp at hh
  unfold wpOpIn
  split
  · rename_i ho; simp only [ho] at hh; exact h _ _ hw hh
  · rename_i o ho
    simp only [ho] at hh
    split
    · rename_i hw'; simp only [hw', if_true] at hh; exact wpIn_of_quiet (hd o ho) hw h hh
    · rename_i hw'; simp only [hw'] at hh; exact ⟨fun f _ => trivial, h _ _ hw hh⟩
theorem wpAnyIn_of_quiet (hd : ∀ (i : Nat) o, ops[i]? = some o → ∀ c, o.op ≠ .defer c) {Q : Act → Prop} {Q' : Exit → Act → World → Prop} (hQ : ∀ a w, C w → Q a → Q' .normal a w) : ∀ (fuel : Nat) (listed : Array Bool) (a : Act) (w : World), C w →
    wpAnyQ P md ops C Q fuel listed a → wpAnyIn (Fence.wide.inRound l) n P md ops Q' fuel listed a w
  | 0, _, _, _, hw, h => ⟨h.1, hQ _ _ hw h.2⟩
  | fuel + 1, _, _, _, hw, h => ⟨fun h0 => hQ _ _ hw (h.1 h0), fun i hi => wpOpIn_of_qOp (hd i) hw (fun a' w' hw' => wpAnyIn_of_quiet hd hQ fuel _ a' w' hw') (h.2 i hi)⟩
def noDefer (ops : Array Oper) : Bool := ops.all fun o => match o.op with | .defer _ => false | _ => true
theorem noDefer_spec (h : noDefer ops = true) : ∀ (i : Nat) o, ops[i]? = some o → ∀ c, o.op ≠ .defer c := by
  intro i o ho c e
  have := (Array.all_eq_true_iff_forall_mem.1 h) o (Array.mem_of_getElem? ho)
  rw [e] at this
  exact Bool.false_ne_true this
theorem wpIn_region_quiet_lit {id : Nat} {Q : Exit → Act → World → Prop} {a : Act} {w : World} {os : List Oper} (hm : P.follows .mixedOrders = true) (hB : Region.lexB .any os.toArray = true) (hd : noDefer os.toArray = true)
    (h : wpQuiet P os.toArray (fun w' => ∃ m, w' = w.drewN m) (fun a' => ∀ w', (∃ m, w' = w.drewN m) → Q .normal a' w') os a) : (Code.region id os.toArray true).wpIn (Fence.wide.inRound l) n P Q a w := by
  simp only [Region.lexB, Bool.and_eq_true] at hB
  refine wpIn_region_any hm (wpAnyIn_of_quiet (C := fun w' => ∃ m, w' = w.drewN m) (noDefer_spec hd) (Q := fun a' => ∀ w', (∃ m, w' = w.drewN m) → Q .normal a' w') (fun _ w' hw' h => h w' hw') _ _ _ _ ⟨1, rfl⟩ ?_)
  have := wpAnyQ_lex (C := fun w' => ∃ m, w' = w.drewN m) (md := .any) hB.1 os.toArray.toList 0 (Array.replicate os.toArray.size false) a (by simp) (by simpa using hB.2) (by simpa using h)
  simpa using this
end
end Go.Proofs.YtfplocpjdjjoaaaDoor.Cut
