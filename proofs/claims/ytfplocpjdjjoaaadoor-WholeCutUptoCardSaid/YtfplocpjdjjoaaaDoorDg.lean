/-
  escape.let, escape.Feed, escape.Finish.
  escape.Feed.
  escape.Finish.
  An escaper's turns under one name; escape.Held.
  Rows of units, one behind another; escape.All.
  Conditions: as each theorem says.
-/
import Derived.Test.YtfplocpjdjjoaaaDoorDf
import Derived.Deep.RegionHeldLaw
namespace Go.Proofs.YtfplocpjdjjoaaaDoor.Cut
open Go Go.RowKit Go.Proofs.YtfplocpjdjjoaaaDoor.Trail Go.Proofs.YtfplocpjdjjoaaaDoor.Ctxs Go.Proofs.YtfplocpjdjjoaaaDoorW.PrintWords
set_option linter.unusedVariables false
set_option linter.unusedSimpArgs false
/-- An escaper, its gate's pointer told. -/
structure Half (W : World) (base E D : Nat) (gp : Value) (gb hb : Option Nat) (k : Nat) (F : List (List Nat)) (cl : List Nat) : Prop where
  es : W.heap[E]? = some (.cells #[.int .u8 (k : Int), .pointer (some ⟨D, 0, none⟩), gp] 99 (0, 0))
  gt : Gt W base gp gb hb k F
  dc : Dcd W base D cl
  lows : base ≤ E ∧ base ≤ D
  chr : ∀ c ∈ F, Chr c
  small : Small cl
  ap : ∀ cv f, W.heap[D]? = some (.cells #[cv] 127 f) → ∀ q, some q = hb → some q ≠ cv.ownBlock
theorem Esc.half {W : World} {base E D k : Nat} {gb hb : Option Nat} {F : List (List Nat)} {cl : List Nat} (h : Esc W base E D gb hb k F cl) : ∃ gp, Half W base E D gp gb hb k F cl := by
  obtain ⟨gp, h1, h2⟩ := h.es
  exact ⟨gp, h1, h2, h.dc, h.lows, h.chr, h.small, h.ap⟩
section
variable {W V : World} {base E D k : Nat} {gp : Value} {gb hb hb' : Option Nat} {F F' : List (List Nat)} {cl cl' : List Nat}
theorem Half.esc (h : Half W base E D gp gb hb k F cl) : Esc W base E D gb hb k F cl := ⟨⟨gp, h.es, h.gt⟩, h.dc, h.lows, h.chr, h.small, h.ap⟩
theorem Half.below (h : Half W base E D gp gb hb k F cl) (hb' : Below W.heap.size W V) : Half V base E D gp gb hb k F cl := by
  have hl := h.esc.lt
  exact ⟨(hb'.block E hl.1).trans h.es, h.gt.same fun q hq => hb'.block q (hl.2.2 q hq), h.dc.below hb', h.lows, h.chr, h.small, fun cv f e q hq => h.ap cv f ((hb'.block D hl.2.1).symm.trans e) q hq⟩
theorem Gt.gb_at (h : Gt W base gp gb hb k F) {q : Nat} (hq : some q = gb) : ∃ cells, W.heap[q]? = some (.cells cells 130 (0, 0)) := by
  rcases h with ⟨-, -, h1, h2⟩ | ⟨h4, G, hv, h1, h2, h3, h5, h6, h7, h8⟩
  · rw [h1] at hq; cases hq
  · rw [h2] at hq
    injection hq with hq
    subst hq
    exact ⟨_, h5⟩
/-- A turn of the gate. -/
theorem Half.turn (h : Half W base E D gp gb hb k F cl) (hG : Gt V base gp gb hb' k F') (hK : Kept W V (fun q => some q = gb ∨ some q = hb)) (hN : Nxt W hb hb') (hF : ∀ c ∈ F', Chr c) : Half V base E D gp gb hb' k F' cl := by
  have hl := h.esc.lt
  have hE := h.gt.ne h.es (by decide) (by decide)
  obtain ⟨cv, h1, h2⟩ := h.dc
  have hD := h.gt.ne h1 (by decide) (by decide)
  have hD' : V.heap[D]? = some (.cells #[cv] 127 (0, 0)) := (hK.2 D hl.2.1 (fun e => e.elim hD.1 hD.2)).trans h1
  refine ⟨(hK.2 E hl.1 (fun e => e.elim hE.1 hE.2)).trans h.es, hG, ⟨cv, hD', h2.same fun q e => hK.2 q (h2.lt q e) (fun e2 => ?_)⟩, h.lows, hF, h.small, fun cv' f e q hq => ?_⟩
  · rcases e2 with e2 | e2
    · obtain ⟨cells, hc⟩ := h.gt.gb_at e2
      exact h2.ne hc (by decide) e.symm
    · exact h.ap cv _ h1 q e2 e.symm
  · rw [hD'] at e
    injection e with e
    injection e with e
    have e' : cv = cv' := by simpa using e
    subst e'
    intro e3
    exact hN.ne (h2.lt q e3.symm) (fun e4 => h.ap cv _ h1 q e4 e3) hq
/-- A turn of the decoder. -/
theorem Half.read {cv' : Value} (h : Half W base E D gp gb hb k F cl) (hD : V.heap[D]? = some (.cells #[cv'] 127 (0, 0))) (hc : Byr V base cv' cl') (hfr : ∀ q, cv'.ownBlock = some q → some q ≠ hb) (hK : Kept W V (fun q => q = D)) (hs : Small cl') : Half V base E D gp gb hb k F cl' := by
  have hl := h.esc.lt
  obtain ⟨cv, h1, h2⟩ := h.dc
  have hDn := h.gt.ne h1 (by decide) (by decide)
  have hED : E ≠ D := by
    rintro rfl
    have := h.es.symm.trans h1
    injection this with this
    injection this with _ this
    exact absurd this (by decide)
  refine ⟨(hK.2 E hl.1 hED).trans h.es, h.gt.same fun q hq => hK.2 q (hl.2.2 q hq) (fun e => ?_), ⟨cv', hD, hc⟩, h.lows, h.chr, hs, fun cv2 f e q hq => ?_⟩
  · subst e
    exact hq.elim hDn.1 hDn.2
  · rw [hD] at e
    injection e with e
    injection e with e
    have e' : cv' = cv2 := by simpa using e
    subst e'
    exact fun e3 => hfr q e3.symm hq
end
theorem text_feed {v : Value} (w0 W V : World) (hV : Below W.heap.size W V) {E D k : Nat} {gp : Value} {gb hb : Option Nat} {F : List (List Nat)} {cl : List Nat} (p : List Nat) (h : Half W w0.heap.size E D gp gb hb k F cl) (hB : Below w0.heap.size w0 W) (hv : Rdb W v p) (hs : Small p) (hlen : cl.length + p.length ≤ 100000000) :
    Calls Tryd.prog 39 #[.pointer (some ⟨D, 0, none⟩), v] V fun e W1 => ∃ u, e = .returned u ∧ Rdb W1 u (dec (cl ++ p)).1.flatten ∧ Half W1 w0.heap.size E D gp gb hb k F (dec (cl ++ p)).2 ∧ Kept W W1 (fun q => q = D) ∧ Below w0.heap.size w0 W1 ∧ (∀ cv f, W1.heap[D]? = some (.cells #[cv] 127 f) → ∀ q, some q = cv.ownBlock → W.heap.size ≤ q ∧ q < W1.heap.size) := by
  have h' := h.below hV
  have hB' := below_step hB hV
  obtain ⟨A, c, rfl, -, hC⟩ := hv.below hV
  obtain ⟨cv, h1, h2⟩ := h'.dc
  refine (feed_calls D w0 V cv cl p A c h1 h.lows.2 hB' h2 h.small hs hlen hC).mono ?_
  rintro e W1 ⟨u, cv', rfl, h3, h4, h5, h6, h7⟩
  refine ⟨u, rfl, h3.rdb, h'.read h5 (h4.lower hB'.size) (fun q e e2 => ?_) h6 (dec_rest_small (p := cl ++ p) (fun x hx => (List.mem_append.1 hx).elim (h.small x) (hs x)) _ (Nat.le_refl _)), (Kept.of_below hV (fun q => q = D)).then_ h6 (fun q hq => .inl hq), h7, fun cv2 f e q hq => ?_⟩
  · have := h4.low q e
    have := h'.gt.lt q (.inr e2)
    omega
  · rw [h5] at e
    injection e with e
    injection e with e
    have e' : cv' = cv2 := by simpa using e
    subst e'
    exact ⟨Nat.le_trans hV.size (h4.low q hq.symm), h4.lt q hq.symm⟩
set_option maxHeartbeats 4000000 in
set_option maxRecDepth 100000 in
/-- As finish_calls, and what the carried row is behind it. -/
theorem finish_more (D : Nat) (w0 W : World) (cv : Value) (cl : List Nat) (hD : W.heap[D]? = some (.cells #[cv] 127 (0, 0))) (hc : Byr W w0.heap.size cv cl) (hb : w0.heap.size ≤ D) (hB : Below w0.heap.size w0 W) :
    Calls Tryd.prog 40 #[.pointer (some ⟨D, 0, none⟩)] W fun e W' => ∃ v cv', e = .returned v ∧ Rdb W' v (fin cl).flatten ∧ W'.heap[D]? = some (.cells #[cv'] 127 (0, 0)) ∧ Byr W' w0.heap.size cv' [] ∧ (cv' = cv ∨ cv' = .slice none 0 0) ∧ Kept W W' (fun q => q = D) ∧ Below w0.heap.size w0 W' := by
  obtain ⟨Ac, cc, rfl⟩ := hc.slice
  have hlt : D < W.heap.size := (Array.getElem?_eq_some_iff.1 hD).1
  have y0 : W.cell? ⟨D, 0, none⟩ = some (.slice Ac cl.length cc) := by simp [World.cell?, hD]
  have yf : W.frozen? ⟨D, 0, none⟩ = false := Joins.unfrozen_of_block hD 0
  have hlf : D < W.heap.size + 1 := by omega
  have hDW : D ≠ W.heap.size := by omega
  have HD := Aside0.mk hD
  have HB := Aside0.mk hB
  have HC := Aside0.mk hc
  have HBD := Aside0.mk hb
  by_cases hcl : cl = []
  · subst hcl
    clear hD hB hb
    go_enter Tryd.func40, Tryd.ntmps40
    go_wp2
    go_ret
    exact ⟨_, _, rfl, (Byr.nil _ 0).rdb, HD.out, HC.out, .inl rfl, Kept.refl _ _, HB.out⟩
  · have h1 : ((cl.length : Int) == 0) = false := by rw [beq_eq_false_iff_ne]; have := List.length_pos_iff.2 hcl; omega
    have h2 : ¬ cl.length = 0 := by have := List.length_pos_iff.2 hcl; omega
    have HCL := Aside0.mk hcl
    have kc := Joins.run_convert_bytes_const_at (P := Tryd.prog) (W.setCell ⟨D, 0, none⟩ (.slice none 0 0)) 22 5 #[.int .u8 239, .int .u8 191, .int .u8 189] 3 3 W.heap.size (by rw [setCell_size]) Tryd.underlying22 Tryd.underlying5
    clear hD hB hb hcl hc
    go_enter Tryd.func40, Tryd.ntmps40
    go_wp2
    go_ret
    have hn : (W.setCell ⟨D, 0, none⟩ (.slice none 0 0)).heap.size = W.heap.size := setCell_size _ _ _
    have hnew := alloc_at (w := W.setCell ⟨D, 0, none⟩ (.slice none 0 0)) (o := .cells #[.int .u8 239, .int .u8 191, .int .u8 189] 5 (3, 4)) (g := W.heap.size) hn.symm
    have hfin : (fin cl).flatten = repl := by unfold fin; rw [if_neg HCL.out]; rfl
    rw [hfin]
    refine ⟨_, .slice none 0 0, rfl, rdb_repl hnew, ?_, Byr.nil _ _, .inr rfl, ((Kept.refl W (fun q => q = D)).setCell (p := ⟨D, 0, none⟩) (.inl rfl) _).alloc _, (HB.out.setCell (p := ⟨D, 0, none⟩) HBD.out _).alloc (by rw [hn]; exact HB.out.size) _⟩
    rw [alloc_old (by rw [hn]; exact hlt)]
    exact Joins.block_setCell (i := 0) HD.out _
theorem text_finish (w0 W V : World) (hV : Below W.heap.size W V) {E D k : Nat} {gp : Value} {gb hb : Option Nat} {F : List (List Nat)} {cl : List Nat} (h : Half W w0.heap.size E D gp gb hb k F cl) (hB : Below w0.heap.size w0 W) :
    Calls Tryd.prog 40 #[.pointer (some ⟨D, 0, none⟩)] V fun e W1 => ∃ u, e = .returned u ∧ Rdb W1 u (fin cl).flatten ∧ Half W1 w0.heap.size E D gp gb hb k F [] ∧ Kept W W1 (fun q => q = D) ∧ Below w0.heap.size w0 W1 := by
  have h' := h.below hV
  have hB' := below_step hB hV
  obtain ⟨cv, h1, h2⟩ := h'.dc
  refine (finish_more D w0 V cv cl h1 h2 h.lows.2 hB').mono ?_
  rintro e W1 ⟨u, cv', rfl, h3, h4, h5, h6, h7, h8⟩
  refine ⟨u, rfl, h3, h'.read h4 h5 (fun q e e2 => ?_) h7 small_nil, (Kept.of_below hV (fun q => q = D)).then_ h7 (fun q hq => .inl hq), h8⟩
  rcases h6 with rfl | rfl
  · exact h'.ap cv' _ h1 q e2 e.symm
  · cases e
set_option maxHeartbeats 4000000 in
set_option maxRecDepth 100000 in
theorem let_calls {v : Value} (w0 W : World) (hT : Tb w0) {E D k : Nat} {gp : Value} {gb hb : Option Nat} {F : List (List Nat)} {cl : List Nat} (cs : List (List Nat)) (h : Half W w0.heap.size E D gp gb hb k F cl) (hv : Rdb W v cs.flatten) (hcs : ∀ c ∈ cs, Chr c) (hlen : cs.flatten.length ≤ 50000000) (hB : Below w0.heap.size w0 W) :
    Calls Tryd.prog 38 #[.pointer (some ⟨E, 0, none⟩), v] W (Lets w0 W gp gb hb k F cs) := by
  have hE := h.es
  have y2 : W.cell? ⟨E, 2, none⟩ = some gp := by simp [World.cell?, hE]
  have hlt : E < W.heap.size := h.esc.lt.1
  obtain ⟨A, N, c, rfl, hN⟩ := rdb_open hv
  have HV := Aside0.mk hv
  have HB := Aside0.mk hB
  have HT := Aside0.mk hT
  have HH := Aside0.mk h
  have HC := Aside0.mk (And.intro hcs hlen)
  rcases h.gt with ⟨h4, rfl, rfl, rfl⟩ | ⟨rfl, G, hvv, rfl, rfl, hr⟩
  · have H4 := Aside0.mk h4
    clear h hE hv hcs hlen hB hT hN h4
    go_enter Tryd.func38, Tryd.ntmps38
    go_wp2
    go_ret
    exact ⟨_, none, rfl, by rw [newK, if_neg H4.out]; exact HV.out, .inl ⟨H4.out, rfl, rfl, rfl⟩, Kept.refl _ _, .inl rfl, HB.out, fun e => absurd e H4.out⟩
  · clear h hE hv hcs hlen hB hT hN hr
    go_enter Tryd.func38, Tryd.ntmps38
    go_wp2_with (go_at_call 60; (with_reducible refine (let_gate w0 W HT.out G hb F cs HH.out.gt HV.out HH.out.chr HC.out.1 HC.out.2 HB.out).mono ?_); rintro e W1 ⟨v1, hb1, rfl, hr1, hr2⟩; obtain ⟨A1, N1, c1, rfl, hN1⟩ := rdb_open hr1; have HR := Aside0.mk (And.intro hr1 hr2); clear hr1 hr2 hN1)
    go_ret
    obtain ⟨q1, q2, q3, q4, q5⟩ := HR.out.2
    exact ⟨_, _, rfl, HR.out.1, q1, q2, q3, q4, fun _ => q5 trivial⟩
end Go.Proofs.YtfplocpjdjjoaaaDoor.Cut
namespace Go.Proofs.YtfplocpjdjjoaaaDoor.Cut
open Go Go.RowKit Go.Proofs.YtfplocpjdjjoaaaDoor.Trail Go.Proofs.YtfplocpjdjjoaaaDoor.Ctxs Go.Proofs.YtfplocpjdjjoaaaDoorW.PrintWords
set_option linter.unusedVariables false
set_option linter.unusedSimpArgs false
/-- The tables that all reads. -/
def Tabs (w : World) : Prop := Tz w ∧ Tb w
theorem Tabs.below {w W : World} (h : Tabs w) (hb : Below w.heap.size w W) : Tabs W := ⟨h.1.below hb, h.2.below hb⟩
theorem let_to {v : Value} (w0 W V : World) (hV : Below W.heap.size W V) (hT : Tb w0) {E D k : Nat} {gp : Value} {gb hb : Option Nat} {F : List (List Nat)} {cl : List Nat} (cs : List (List Nat)) (h : Half W w0.heap.size E D gp gb hb k F cl) (hv : Rdb W v cs.flatten) (hcs : ∀ c ∈ cs, Chr c) (hlen : cs.flatten.length ≤ 50000000) (hB : Below w0.heap.size w0 W) :
    Calls Tryd.prog 38 #[.pointer (some ⟨E, 0, none⟩), v] V fun e W' => ∃ u hb', e = .returned u ∧ Rdb W' u (newK k F cs).flatten ∧ Half W' w0.heap.size E D gp gb hb' k (F ++ cs) cl ∧ Kept W W' (fun q => some q = gb ∨ some q = hb) ∧ Nxt W hb hb' ∧ Below w0.heap.size w0 W' ∧ (k = 4 → look (F ++ cs).flatten = 0 → u = .slice none 0 0) ∧ W'.heap[D]? = W.heap[D]? := by
  have h' := h.below hV
  refine (let_calls w0 V hT cs h' (hv.below hV) hcs hlen (below_step hB hV)).mono ?_
  rintro e W' ⟨u, hb', rfl, h1, h2, h3, h4, h5, h6⟩
  refine ⟨u, hb', rfl, h1, h'.turn h2 h3 h4 (fun c hc => (List.mem_append.1 hc).elim (h.chr c) (hcs c)), (Kept.of_below hV _).then_ h3 (fun q hq => .inl hq), h4.from_ hV.size, h5, h6, ?_⟩
  obtain ⟨cv, g1, -⟩ := h'.dc
  have hD := h'.gt.ne g1 (by decide) (by decide)
  exact (h3.2 D h'.esc.lt.2.1 (fun e => e.elim hD.1 hD.2)).trans (hV.block D h.esc.lt.2.1)
theorem units_to {v : Value} (W V : World) (hV : Below W.heap.size W V) {k : Nat} (h1 : 1 ≤ k) (h2 : k ≤ 10) (cs : List (List Nat)) (hcs : ∀ c ∈ cs, Chr c) (hl : cs.flatten.length ≤ 100000000) (hT : Tz W) (hv : Rdb W v cs.flatten) :
    Calls Tryd.prog 37 #[.int .u8 (k : Int), v] V fun e W' => ∃ u, e = .returned u ∧ Uns W' W.heap.size u (cs.map (unitOf k)) ∧ Below W.heap.size W W' := by
  obtain ⟨A, c, rfl, -, hC⟩ := hv.below hV
  refine (units_calls h1 h2 cs hcs hl V (hT.below hV) A _ c hC).mono ?_
  rintro e W' ⟨u, rfl, h3, h4⟩
  exact ⟨u, rfl, h3.lower hV.size, below_step (Below.trans (Below.refl _ _) hV) h4⟩
theorem uns_open {W : World} {base : Nat} {v : Value} {us : List (List Nat)} (h : Uns W base v us) : ∃ A N c, v = .slice A N c ∧ N = us.length := by
  obtain ⟨A, c, e⟩ := h.slice
  exact ⟨A, us.length, c, e, rfl⟩
theorem Half.cells {W : World} {base E D k : Nat} {gp : Value} {gb hb : Option Nat} {F : List (List Nat)} {cl : List Nat} (h : Half W base E D gp gb hb k F cl) : W.cell? ⟨E, 0, none⟩ = some (.int .u8 (k : Int)) ∧ W.cell? ⟨E, 1, none⟩ = some (.pointer (some ⟨D, 0, none⟩)) ∧ W.cell? ⟨E, 2, none⟩ = some gp ∧ E < W.heap.size := by
  have hE := h.es
  exact ⟨by simp [World.cell?, hE], by simp [World.cell?, hE], by simp [World.cell?, hE], h.esc.lt.1⟩
set_option maxHeartbeats 4000000 in
set_option maxRecDepth 100000 in
theorem feed_half {v : Value} (w0 W : World) (hT : Tabs w0) {E D k : Nat} (h1 : 1 ≤ k) (h2 : k ≤ 10) {gp : Value} {gb hb : Option Nat} {F : List (List Nat)} {cl : List Nat} (p : List Nat) (h : Half W w0.heap.size E D gp gb hb k F cl) (hB : Below w0.heap.size w0 W) (hv : Rdb W v p) (hs : Small p) (hlen : cl.length + p.length ≤ 10000000) (hF : F.flatten.length ≤ 40000000) :
    Calls Tryd.prog 14 #[.pointer (some ⟨E, 0, none⟩), v] W fun e W' => ∃ u hb' m, e = .returned u ∧ Uns W' m u ((newK k F (dec (cl ++ p)).1).map (unitOf k)) ∧ W.heap.size ≤ m ∧ (∀ q, Ch D gb hb' q → q < m) ∧ (∀ cv f, W'.heap[D]? = some (.cells #[cv] 127 f) → ∀ q, some q = cv.ownBlock → W.heap.size ≤ q ∧ q < m) ∧ Half W' w0.heap.size E D gp gb hb' k (F ++ (dec (cl ++ p)).1) (dec (cl ++ p)).2 ∧ Kept W W' (Ch D gb hb) ∧ Nxt W hb hb' ∧ Below w0.heap.size w0 W' := by
  obtain ⟨c0, c1, -, hlt⟩ := h.cells
  have hdl := dec_len _ (cl ++ p) (Nat.le_refl _)
  rw [List.length_append] at hdl
  obtain ⟨cs, hcs⟩ : ∃ cs, cs = (dec (cl ++ p)).1 := ⟨_, rfl⟩
  obtain ⟨cl', hcl'⟩ : ∃ cl', cl' = (dec (cl ++ p)).2 := ⟨_, rfl⟩
  rw [← hcs, ← hcl'] at hdl
  have hch : ∀ c ∈ cs, Chr c := by rw [hcs]; exact dec_chr _ _ (Nat.le_refl _)
  have hnl := newK_len k F cs
  have hle : cs.flatten.length ≤ 50000000 ∧ (newK k F cs).flatten.length ≤ 100000000 := by omega
  obtain ⟨nu, hnu⟩ : ∃ nu, nu = newK k F cs := ⟨_, rfl⟩
  have hnc : ∀ c ∈ nu, Chr c := by rw [hnu]; exact newK_chr h.chr hch
  rw [← hnu] at hle
  have HCS := Aside0.mk (And.intro hcs (And.intro hcl' hch))
  have HNU := Aside0.mk (And.intro hnu hnc)
  have HLE := Aside0.mk hle
  have HLN := Aside0.mk hlen
  have HH := Aside0.mk h
  have HB := Aside0.mk hB
  have HT1 := Aside0.mk (show Tz w0 from hT.1)
  have HT2 := Aside0.mk (show Tb w0 from hT.2)
  have HV := Aside0.mk hv
  have HS := Aside0.mk hs
  have HK := Aside0.mk (And.intro h1 h2)
  have gA : W.cell? ⟨E, 0, none⟩ = some (.int .u8 (k : Int)) ∧ W.cell? ⟨E, 1, none⟩ = some (.pointer (some ⟨D, 0, none⟩)) := ⟨c0, c1⟩
  obtain ⟨A, N, c, rfl, hN⟩ := rdb_open hv
  rw [← hcs, ← hcl', ← hnu]
  clear h hB hT hv hs hlen hF h1 h2 hdl hcs hcl' hch hnl hle hnu hnc hN
  go_enter Tryd.func14, Tryd.ntmps14
  go_wp2
  go_region_held_law (fun W' => W'.cell? ⟨E, 0, none⟩ = some (.int .u8 (k : Int)) ∧ W'.cell? ⟨E, 1, none⟩ = some (.pointer (some ⟨D, 0, none⟩))) (first | exact gD | exact gC | exact gB | exact gA) (first
    | (go_at_call 39; (with_reducible refine (text_feed w0 W _ (by first | exact Below.refl _ _ | exact Below.drew (Below.refl _ _)) p HH.out HB.out HV.out HS.out (Nat.le_trans HLN.out (by decide))).mono ?_); rintro e w1 ⟨u1, rfl, hr1, hh1, hk1, hb1, hcv1⟩; have HCV := Aside0.mk hcv1; rw [← HCS.out.1] at hr1; rw [← HCS.out.2.1] at hh1; obtain ⟨A1, N1, c1_, rfl, hN1⟩ := rdb_open hr1; have HR1 := Aside0.mk hr1; have HH1 := Aside0.mk hh1; have HK1 := Aside0.mk hk1; have HB1 := Aside0.mk hb1; have gB : w1.cell? ⟨E, 0, none⟩ = some (.int .u8 (k : Int)) ∧ w1.cell? ⟨E, 1, none⟩ = some (.pointer (some ⟨D, 0, none⟩)) := ⟨hh1.cells.1, hh1.cells.2.1⟩; clear hr1 hh1 hk1 hb1 hN1 hcv1)
    | (go_at_call 38; (with_reducible refine (let_to w0 w1 _ (by first | exact Below.refl _ _ | exact Below.drew (Below.refl _ _)) HT2.out cs HH1.out HR1.out HCS.out.2.2 HLE.out.1 HB1.out).mono ?_); rintro e w2 ⟨u2, hb2, rfl, hr2, hh2, hk2, hn2, hbl2, -, hd2⟩; have HD2 := Aside0.mk hd2; rw [← HNU.out.1] at hr2; obtain ⟨A2, N2, c2_, rfl, hN2⟩ := rdb_open hr2; have HR2 := Aside0.mk hr2; have HH2 := Aside0.mk hh2; have HK2 := Aside0.mk hk2; have HN2 := Aside0.mk hn2; have HB2 := Aside0.mk hbl2; have gC : w2.cell? ⟨E, 0, none⟩ = some (.int .u8 (k : Int)) ∧ w2.cell? ⟨E, 1, none⟩ = some (.pointer (some ⟨D, 0, none⟩)) := ⟨hh2.cells.1, hh2.cells.2.1⟩; clear hr2 hh2 hk2 hn2 hbl2 hN2 hd2)
    | (go_at_call 37; (with_reducible refine (units_to w2 _ (by first | exact Below.refl _ _ | exact Below.drew (Below.refl _ _)) HK.out.1 HK.out.2 nu HNU.out.2 HLE.out.2 (HT1.out.below HB2.out) HR2.out).mono ?_); rintro e w3 ⟨u3, rfl, hu3, hb3⟩; have HU3 := Aside0.mk hu3; have HB3 := Aside0.mk hb3; obtain ⟨A3, N3, c3_, rfl, hN3⟩ := uns_open hu3; have gD : w3.cell? ⟨E, 0, none⟩ = some (.int .u8 (k : Int)) ∧ w3.cell? ⟨E, 1, none⟩ = some (.pointer (some ⟨D, 0, none⟩)) := ⟨(HH2.out.below hb3).cells.1, (HH2.out.below hb3).cells.2.1⟩; clear hu3 hb3 hN3))
  all_goals
    go_wp2
    go_ret
    have e1 : W.heap.size ≤ w1.heap.size := HK1.out.1
    have e2 : w1.heap.size ≤ w2.heap.size := HK2.out.1
    have hlt2 := HH2.out.esc.lt
    refine ⟨_, hb2, w2.heap.size, rfl, HU3.out, Nat.le_trans e1 e2, fun q hq => hq.elim (fun e => e ▸ hlt2.2.1) (hlt2.2.2 q), fun cv f e q hq => ?_, HH2.out.below HB3.out, ((HK1.out.mono (fun q hq => .inl hq)).then_ HK2.out (fun q hq => .inl (.inr hq))).below HB3.out, HN2.out.from_ e1, below_step HB2.out HB3.out⟩
    rw [HB3.out.block D hlt2.2.1, HD2.out] at e
    have := HCV.out cv f e q hq
    exact ⟨this.1, Nat.lt_of_lt_of_le this.2 e2⟩
end Go.Proofs.YtfplocpjdjjoaaaDoor.Cut
namespace Go.Proofs.YtfplocpjdjjoaaaDoor.Cut
open Go Go.RowKit Go.Proofs.YtfplocpjdjjoaaaDoor.Trail Go.Proofs.YtfplocpjdjjoaaaDoor.Ctxs Go.Proofs.YtfplocpjdjjoaaaDoorW.PrintWords
set_option linter.unusedVariables false
set_option linter.unusedSimpArgs false
theorem rdb_empty {W V : World} {v : Value} (h : Rdb W v []) : Rdb V v [] := by
  obtain ⟨A, c, rfl, h1, h2⟩ := h
  exact ⟨A, c, rfl, h1, Kd.C_of_reads (enc := Value.int .u8) (d := (0 : Int)) (h1 := fun _ => rfl) ⟨rfl, Nat.zero_le _, fun hn => absurd hn (by simp)⟩⟩
/-- A row of bytes does not lie in a gate's block. -/
theorem rdb_kept {W V : World} {v : Value} {l : List Nat} (h : Rdb W v l) {G : Nat} {hv : Value} {n : Int} (hG : W.heap[G]? = some (.cells #[hv, .int .i64 n] 130 (0, 0))) (hs : ∀ x, hv ≠ .int .u8 x) (hK : Kept W V (fun q => q = G)) : Rdb V v l := by
  by_cases hl : l = []
  · subst hl
    exact rdb_empty h
  · refine h.same fun q e => hK.2 q (h.lt hl q e) fun e2 => ?_
    subst e2
    obtain ⟨A, c, rfl, h1, h2⟩ := h
    obtain ⟨r1, r2, r3⟩ := Kd.reads_of_C (enc := Value.int .u8) (d := (0 : Int)) (h1 := fun _ => rfl) h2
    obtain ⟨ad, ea, hc⟩ := r3 (List.length_pos_iff.2 hl)
    have h0 := hc 0 (List.length_pos_iff.2 hl)
    subst ea
    injection e with e
    have e0 : ad.add 0 = ad := by unfold Addr.add; rw [if_pos rfl]
    rw [e0] at h0
    have hsp := World.cell?_spot h0
    obtain ⟨b, o, s⟩ := ad
    dsimp only at hsp e
    subst hsp e
    simp only [World.cell?, hG] at h0
    match o with
    | 0 => simp at h0; exact hs _ h0
    | 1 => simp at h0
    | o + 2 => simp at h0
theorem append_none {P : Program} {W : World} {ops : Array Oper} {rest : List Oper} {o : Oper} {a : Act} {Q : Exit → Act → World → Prop} (hgd : o.guard = none) (s x : Operand) (t : TypeId)
    (ho : o.op = .call { callee := .builtin .append, args := #[s, x], argTypes := #[t, t] })
    (e : TypeId) (i : TypeInfo) (ht : P.underlying t = some (.slice e)) (hi : P.info? e = some i)
    (A : Option Addr) (n c : Nat) (hs : a.eval s = .slice A n c) (hnc : n ≤ c) (hx : a.eval x = .slice none 0 0)
    (h : wpList P ops Q rest (a.put o.dst (.slice A n c)) W) : wpList P ops Q (o :: rest) a W := by
  refine wpList_plain hgd fun K hK => ?_
  have hrun : (Builtin.append_ #[t, t] o.type #[.slice A n c, .slice none 0 0]).run P W = .ok (.slice A n c) W := by
    cases A <;> simp [Builtin.append_, run_underlying ht, sizeOf, typeInfo, hi, Builtin.lenOf, Builtin.firstCells, hnc, storeCells]
  unfold Oper.wp
  simp [execOp, ho, resolve, invoke, builtin, hs, hx, hrun, Result.andThen]
  exact hK _ _ h
theorem Half.reset {W : World} {base E D k : Nat} {gp : Value} {gb hb : Option Nat} {F : List (List Nat)} {cl : List Nat} (h : Half W base E D gp gb hb k F cl) (h4 : k ≠ 4) : hb = none ∧ Half W base E D gp gb none k [] cl := by
  rcases h.gt with ⟨-, h1, h2, h3⟩ | ⟨h5, -⟩
  · subst h3
    exact ⟨rfl, h.es, .inl ⟨h4, h1, h2, rfl⟩, h.dc, h.lows, fun c hc => (by cases hc), h.small, h.ap⟩
  · exact absurd h5 h4
/-- What comes out at the end. -/
def restK (k : Nat) (F : List (List Nat)) (cl : List Nat) : List (List Nat) := newK k F (fin cl) ++ lastK k (F ++ fin cl)
set_option maxHeartbeats 4000000 in
set_option maxRecDepth 100000 in
theorem finish_plain (w0 W : World) (hT : Tabs w0) {E D k : Nat} (h1 : 1 ≤ k) (h2 : k ≤ 10) (h4 : k ≠ 4) {gp : Value} {gb hb : Option Nat} {F : List (List Nat)} {cl : List Nat} (h : Half W w0.heap.size E D gp gb hb k F cl) (hB : Below w0.heap.size w0 W) :
    Calls Tryd.prog 15 #[.pointer (some ⟨E, 0, none⟩)] W fun e W' => ∃ u, e = .returned u ∧ Uns W' W.heap.size u ((restK k F cl).map (unitOf k)) ∧ Half W' w0.heap.size E D gp gb none k [] [] ∧ Kept W W' (Ch D gb hb) ∧ Below w0.heap.size w0 W' := by
  obtain ⟨c0, c1, c2, hlt⟩ := h.cells
  obtain ⟨rfl, h'⟩ := h.reset h4
  have hgp : gp = .pointer none := by
    rcases h.gt with ⟨-, h1, -, -⟩ | ⟨h5, -⟩
    · exact h1
    · exact absurd h5 h4
  subst hgp
  obtain ⟨cs, hcs⟩ : ∃ cs, cs = fin cl := ⟨_, rfl⟩
  have hch : ∀ c ∈ cs, Chr c := by rw [hcs]; exact fin_chr _
  have hfl := fin_len cl
  rw [← hcs] at hfl
  have hr : restK k F cl = cs := by unfold restK newK lastK; rw [if_neg h4, if_neg h4, List.append_nil, hcs]
  rw [hr]
  have hnk : newK k F cs = cs := by unfold newK; rw [if_neg h4]
  have HCS := Aside0.mk (And.intro hcs hch)
  have HFL := Aside0.mk (And.intro (Nat.le_trans hfl (by decide) : cs.flatten.length ≤ 50000000) (Nat.le_trans hfl (by decide) : cs.flatten.length ≤ 100000000))
  have HNK := Aside0.mk hnk
  have HH := Aside0.mk h
  have HB := Aside0.mk hB
  have HT1 := Aside0.mk (show Tz w0 from hT.1)
  have HT2 := Aside0.mk (show Tb w0 from hT.2)
  have HK := Aside0.mk (And.intro h1 h2)
  have H4 := Aside0.mk h4
  clear h hB hT h1 h2 hcs hch hfl hr hnk h' h4
  go_enter Tryd.func15, Tryd.ntmps15
  go_wp2_with (first
    | (go_at_call 40; (with_reducible refine (text_finish w0 W _ (Below.refl _ _) HH.out HB.out).mono ?_); rintro e w1 ⟨u1, rfl, hr1, hh1, hk1, hb1⟩; rw [← HCS.out.1] at hr1; obtain ⟨A1, N1, c1_, rfl, hN1⟩ := rdb_open hr1; have HR1 := Aside0.mk hr1; have HH1 := Aside0.mk hh1; have HK1 := Aside0.mk hk1; have HB1 := Aside0.mk hb1; obtain ⟨d0, d1, d2, dlt⟩ := hh1.cells; clear hr1 hh1 hk1 hb1 hN1)
    | (go_at_call 38; (with_reducible refine (let_to w0 w1 _ (Below.refl _ _) HT2.out cs HH1.out HR1.out HCS.out.2 HFL.out.1 HB1.out).mono ?_); rintro e w2 ⟨u2, hb2, rfl, hr2, hh2, hk2, hn2, hbl2, -, -⟩; rw [HNK.out] at hr2; obtain ⟨A2, N2, c2_, rfl, hN2⟩ := rdb_open hr2; have HR2 := Aside0.mk hr2; have HH2 := Aside0.mk hh2; have HK2 := Aside0.mk hk2; have HB2 := Aside0.mk hbl2; obtain ⟨b0, b1, b2, blt⟩ := hh2.cells; clear hr2 hh2 hk2 hn2 hbl2 hN2)
    | (go_at_call 37; (with_reducible refine (units_to w2 _ (Below.refl _ _) HK.out.1 HK.out.2 cs HCS.out.2 HFL.out.2 (HT1.out.below HB2.out) HR2.out).mono ?_); rintro e w3 ⟨u3, rfl, hu3, hb3⟩; have HU3 := Aside0.mk hu3; have HB3 := Aside0.mk hb3; obtain ⟨A3, N3, c3_, rfl, hN3⟩ := uns_open hu3; clear hu3 hb3 hN3))
  go_ret
  have e1 : W.heap.size ≤ w1.heap.size := HK1.out.1
  have e2 : w1.heap.size ≤ w2.heap.size := HK2.out.1
  exact ⟨_, rfl, HU3.out.lower (Nat.le_trans e1 e2), (HH2.out.reset H4.out).2.below HB3.out, ((HK1.out.mono (fun q hq => .inl hq)).then_ HK2.out (fun q hq => .inl (.inr hq))).below HB3.out, below_step HB2.out HB3.out⟩
theorem new_none {F cs : List (List Nat)} (h : look (F ++ cs).flatten = 0) : newK 4 F cs = [] := by
  have hF : look F.flatten = 0 := by
    by_cases hF : look F.flatten = 0
    · exact hF
    · rw [List.flatten_append, look_app _ _ hF] at h
      exact h
  unfold newK newG outG
  rw [if_pos rfl, if_pos hF, if_pos h]
theorem units_at {x : Int} {v : Value} (W V : World) (hV : Below W.heap.size W V) {k : Nat} (hx : x = (k : Int)) (h1 : 1 ≤ k) (h2 : k ≤ 10) (cs : List (List Nat)) (hcs : ∀ c ∈ cs, Chr c) (hl : cs.flatten.length ≤ 100000000) (hT : Tz W) (hv : Rdb W v cs.flatten) :
    Calls Tryd.prog 37 #[.int .u8 x, v] V fun e W' => ∃ u, e = .returned u ∧ Uns W' W.heap.size u (cs.map (unitOf k)) ∧ Below W.heap.size W W' := by
  subst hx
  exact units_to W V hV h1 h2 cs hcs hl hT hv
theorem append_none22 {W : World} {ops : Array Oper} {rest : List Oper} {o : Oper} {a : Act} {Q : Exit → Act → World → Prop} (hgd : o.guard = none) (s x : Operand)
    (ho : o.op = .call { callee := .builtin .append, args := #[s, x], argTypes := #[22, 22] })
    (A : Option Addr) (n c : Nat) (hs : a.eval s = .slice A n c) (hnc : n ≤ c) (hx : a.eval x = .slice none 0 0)
    (h : wpList Tryd.prog ops Q rest (a.put o.dst (.slice A n c)) W) : wpList Tryd.prog ops Q (o :: rest) a W := by
  obtain ⟨i, hi, -⟩ := Option.map_eq_some_iff.1 info5
  exact append_none hgd s x 22 ho 5 i Tryd.underlying22 hi A n c hs hnc hx h
theorem rdb_gate {W V : World} {v : Value} {l : List Nat} {base G k : Nat} {gp : Value} {hb : Option Nat} {F : List (List Nat)} (h : Rdb W v l) (hg : Gt W base gp (some G) hb k F) (hK : Kept W V (fun q => q = G)) : Rdb V v l := by
  rcases hg with ⟨-, -, h1, -⟩ | ⟨h4, G', hv, h1, h2, h3, h5, h6, h7, h8⟩
  · cases h1
  · injection h2 with h2
    subst h2
    obtain ⟨A, c, rfl⟩ := h6.slice
    exact rdb_kept h h5 (fun x e => by cases e) hK
set_option maxHeartbeats 4000000 in
set_option maxRecDepth 100000 in
theorem finish_open (w0 W : World) (hT : Tabs w0) {E D G : Nat} {hb : Option Nat} {F : List (List Nat)} {cl : List Nat} (h : Half W w0.heap.size E D (.pointer (some ⟨G, 0, none⟩)) (some G) hb 4 F cl) (hF : F.flatten.length ≤ 40000000) (hL : look (F ++ fin cl).flatten = 0) (hB : Below w0.heap.size w0 W) :
    Calls Tryd.prog 15 #[.pointer (some ⟨E, 0, none⟩)] W fun e W' => ∃ u, e = .returned u ∧ Uns W' W.heap.size u ((restK 4 F cl).map (unitOf 4)) ∧ Half W' w0.heap.size E D (.pointer (some ⟨G, 0, none⟩)) (some G) none 4 [] [] ∧ Kept W W' (Ch D (some G) hb) ∧ Below w0.heap.size w0 W' := by
  obtain ⟨c0, c1, c2, hlt⟩ := h.cells
  obtain ⟨cs, hcs⟩ : ∃ cs, cs = fin cl := ⟨_, rfl⟩
  have hch : ∀ c ∈ cs, Chr c := by rw [hcs]; exact fin_chr _
  have hfl := fin_len cl
  rw [← hcs] at hfl hL
  have hr : restK 4 F cl = F ++ cs := by
    unfold restK lastK lastG
    rw [← hcs, new_none hL, if_pos rfl, if_pos hL]
    rfl
  have hnk : newK 4 F cs = [] := new_none hL
  have hla : lastG (F ++ cs) = F ++ cs := by unfold lastG; rw [if_pos hL]
  obtain ⟨r, hre⟩ : ∃ r, r = restK 4 F cl := ⟨_, rfl⟩
  rw [← hre]
  rw [← hre] at hr
  have hlh : r.flatten.length ≤ 100000000 := by
    have := look_held hL; rw [← hr] at this; omega
  have hrc : ∀ c ∈ r, Chr c := by
    rw [hr]
    exact fun c hc => (List.mem_append.1 hc).elim (h.chr c) (hch c)
  have HR := Aside0.mk (And.intro hr (And.intro hlh hrc))
  have HL := Aside0.mk hL
  have HCS := Aside0.mk (And.intro hcs hch)
  have HFL := Aside0.mk (Nat.le_trans hfl (by decide) : cs.flatten.length ≤ 50000000)
  have HNK := Aside0.mk hnk
  have HLA := Aside0.mk hla
  have HH := Aside0.mk h
  have HB := Aside0.mk hB
  have HT1 := Aside0.mk (show Tz w0 from hT.1)
  have HT2 := Aside0.mk (show Tb w0 from hT.2)
  have HFC := Aside0.mk (show ∀ c ∈ F ++ cs, Chr c from fun c hc => (List.mem_append.1 hc).elim (h.chr c) (hch c))
  clear h hB hT hcs hch hfl hr hnk hL hF hla hlh hrc hre
  go_enter Tryd.func15, Tryd.ntmps15
  go_wp2_with (first
    | (go_at_call 40; (with_reducible refine (text_finish w0 W _ (Below.refl _ _) HH.out HB.out).mono ?_); rintro e w1 ⟨u1, rfl, hr1, hh1, hk1, hb1⟩; rw [← HCS.out.1] at hr1; obtain ⟨A1, N1, c1_, rfl, hN1⟩ := rdb_open hr1; have HR1 := Aside0.mk hr1; have HH1 := Aside0.mk hh1; have HK1 := Aside0.mk hk1; have HB1 := Aside0.mk hb1; obtain ⟨d0, d1, d2, dlt⟩ := hh1.cells; clear hr1 hh1 hk1 hb1 hN1)
    | (go_at_call 38; (with_reducible refine (let_to w0 w1 _ (Below.refl _ _) HT2.out cs HH1.out HR1.out HCS.out.2 HFL.out HB1.out).mono ?_); rintro e w2 ⟨u2, hb2, rfl, hr2, hh2, hk2, hn2, hbl2, hni, -⟩; obtain rfl := hni rfl HL.out; have HH2 := Aside0.mk hh2; have HK2 := Aside0.mk hk2; have HB2 := Aside0.mk hbl2; obtain ⟨b0, b1, b2, blt⟩ := hh2.cells; clear hr2 hh2 hk2 hn2 hbl2 hni)
    | (go_at_call 41; (with_reducible refine (fin_gate w0 w2 HT2.out G hb2 (F ++ cs) HH2.out.gt HFC.out HB2.out).mono ?_); rintro e w3 ⟨u3, rfl, hr3, hg3, hk3, hb3, -⟩; rw [HLA.out, ← HR.out.1] at hr3; have HH3 := Aside0.mk (HH2.out.turn hg3 (hk3.mono fun q hq => .inl (congrArg some hq)) (.inr (.inl rfl)) (fun c hc => by cases hc)); have HK3 := Aside0.mk hk3; have HB3 := Aside0.mk hb3; obtain ⟨A3, N3, c3_, rfl, hN3⟩ := rdb_open hr3; have HR3 := Aside0.mk hr3; have HN3 := Aside0.mk hN3; obtain ⟨f0, f1, f2, flt⟩ := HH3.out.cells; clear hr3 hg3 hk3 hb3 hN3)
    | ((with_reducible refine gate_builtin (b := .append) (xs := #[.tmp 25, .tmp 30]) rfl ?_); at_builtin; refine Kd.R_append_rows (Kd.int .u8) (w0 := w3) (W := w3) w3.heap.size rfl (.tmp 25) (.tmp 30) 22 5 (.int .u8 0) 1 rfl Tryd.underlying22 info5 rfl (by decide) (by decide) (.slice none 0 0) [] (ints r.flatten) A3 N3 c3_ (fun _ => True) (fun _ => False) rfl rfl ?aN ?aR (fun _ _ h => h) (fun _ h => h.elim) (fun _ _ => trivial) ?aB ?aS ?aL ?_; (case aN => exact Byr.nil _ _); (case aR => exact HR3.out.at_.2.2); (case aB => exact Below.refl _ _); (case aS => exact Nat.le_refl _); (case aL => have := HR.out.2.1; have := HN3.out; simp only [List.length_nil]; omega); intro v4 w4 hn4 hb4 hg4 hat4; have hn4' : Byr w4 w3.heap.size v4 r.flatten := hn4; obtain ⟨A4, N4, c4_, rfl, hN4⟩ := byr_open hn4'; have HR4 := Aside0.mk hn4'.rdb; have HB4 := Aside0.mk hb4; obtain ⟨k0, k1, k2, klt⟩ := (HH3.out.below hb4).cells; clear hn4 hb4 hg4 hat4 hn4' hN4)
    | (go_at_call 37; (with_reducible refine (units_at (k := 4) w4 _ (Below.refl _ _) ?hx (by decide) (by decide) r HR.out.2.2 HR.out.2.1 (HT1.out.below (below_step HB3.out HB4.out)) HR4.out).mono ?_); (case hx => rfl); rintro e w5 ⟨u5, rfl, hu5, hb5⟩; have HU5 := Aside0.mk hu5; have HB5 := Aside0.mk hb5; obtain ⟨A5, N5, c5_, rfl, hN5⟩ := uns_open hu5; clear hu5 hb5 hN5))
  go_ret
  have e1 : W.heap.size ≤ w1.heap.size := HK1.out.1
  have e2 : w1.heap.size ≤ w2.heap.size := HK2.out.1
  have e3 : w2.heap.size ≤ w3.heap.size := HK3.out.1
  have hB45 := below_step HB4.out HB5.out
  exact ⟨_, rfl, HU5.out.lower (by have := HB4.out.size; omega), HH3.out.below hB45, ((((HK1.out.mono (fun q hq => .inl hq)).then_ HK2.out (fun q hq => .inl (.inr hq))).then_ HK3.out (fun q hq => .inl (.inr (.inl (congrArg some hq)))))).below hB45, below_step HB3.out hB45⟩
set_option maxHeartbeats 4000000 in
set_option maxRecDepth 100000 in
theorem finish_shut (w0 W : World) (hT : Tabs w0) {E D G : Nat} {hb : Option Nat} {F : List (List Nat)} {cl : List Nat} (h : Half W w0.heap.size E D (.pointer (some ⟨G, 0, none⟩)) (some G) hb 4 F cl) (hF : F.flatten.length ≤ 40000000) (hL : look (F ++ fin cl).flatten ≠ 0) (hB : Below w0.heap.size w0 W) :
    Calls Tryd.prog 15 #[.pointer (some ⟨E, 0, none⟩)] W fun e W' => ∃ u, e = .returned u ∧ Uns W' W.heap.size u ((restK 4 F cl).map (unitOf 4)) ∧ Half W' w0.heap.size E D (.pointer (some ⟨G, 0, none⟩)) (some G) none 4 [] [] ∧ Kept W W' (Ch D (some G) hb) ∧ Below w0.heap.size w0 W' := by
  obtain ⟨c0, c1, c2, hlt⟩ := h.cells
  obtain ⟨cs, hcs⟩ : ∃ cs, cs = fin cl := ⟨_, rfl⟩
  have hch : ∀ c ∈ cs, Chr c := by rw [hcs]; exact fin_chr _
  have hfl := fin_len cl
  rw [← hcs] at hfl hL
  have hr : restK 4 F cl = newK 4 F cs := by
    unfold restK lastK lastG
    rw [← hcs, if_pos rfl, if_neg hL, List.append_nil]
  have hnk : newK 4 F cs = newK 4 F cs := rfl
  have hla : lastG (F ++ cs) = [] := by unfold lastG; rw [if_neg hL]
  obtain ⟨r, hre⟩ : ∃ r, r = restK 4 F cl := ⟨_, rfl⟩
  rw [← hre]
  rw [← hre] at hr
  have hlh : r.flatten.length ≤ 100000000 := by
    have := newK_len 4 F cs; rw [← hr] at this; omega
  have hrc : ∀ c ∈ r, Chr c := by
    rw [hr]
    exact newK_chr h.chr hch
  have HR := Aside0.mk (And.intro hr (And.intro hlh hrc))
  have HL := Aside0.mk hL
  have HCS := Aside0.mk (And.intro hcs hch)
  have HFL := Aside0.mk (Nat.le_trans hfl (by decide) : cs.flatten.length ≤ 50000000)
  have HNK := Aside0.mk hnk
  have HLA := Aside0.mk hla
  have HH := Aside0.mk h
  have HB := Aside0.mk hB
  have HT1 := Aside0.mk (show Tz w0 from hT.1)
  have HT2 := Aside0.mk (show Tb w0 from hT.2)
  have HFC := Aside0.mk (show ∀ c ∈ F ++ cs, Chr c from fun c hc => (List.mem_append.1 hc).elim (h.chr c) (hch c))
  clear h hB hT hcs hch hfl hr hnk hL hF hla hlh hrc hre
  go_enter Tryd.func15, Tryd.ntmps15
  go_wp2_with (first
    | (go_at_call 40; (with_reducible refine (text_finish w0 W _ (Below.refl _ _) HH.out HB.out).mono ?_); rintro e w1 ⟨u1, rfl, hr1, hh1, hk1, hb1⟩; rw [← HCS.out.1] at hr1; obtain ⟨A1, N1, c1_, rfl, hN1⟩ := rdb_open hr1; have HR1 := Aside0.mk hr1; have HH1 := Aside0.mk hh1; have HK1 := Aside0.mk hk1; have HB1 := Aside0.mk hb1; obtain ⟨d0, d1, d2, dlt⟩ := hh1.cells; clear hr1 hh1 hk1 hb1 hN1)
    | (go_at_call 38; (with_reducible refine (let_to w0 w1 _ (Below.refl _ _) HT2.out cs HH1.out HR1.out HCS.out.2 HFL.out HB1.out).mono ?_); rintro e w2 ⟨u2, hb2, rfl, hr2, hh2, hk2, hn2, hbl2, -, -⟩; rw [← HR.out.1] at hr2; have HH2 := Aside0.mk hh2; have HK2 := Aside0.mk hk2; have HB2 := Aside0.mk hbl2; obtain ⟨A2, N2, c2_, rfl, hN2⟩ := rdb_open hr2; have HR2 := Aside0.mk hr2; obtain ⟨b0, b1, b2, blt⟩ := hh2.cells; clear hr2 hh2 hk2 hn2 hbl2 hN2)
    | (go_at_call 41; (with_reducible refine (fin_gate w0 w2 HT2.out G hb2 (F ++ cs) HH2.out.gt HFC.out HB2.out).mono ?_); rintro e w3 ⟨u3, rfl, hr3, hg3, hk3, hb3, hni⟩; obtain rfl := hni HL.out; have HH3 := Aside0.mk (HH2.out.turn hg3 (hk3.mono fun q hq => .inl (congrArg some hq)) (.inr (.inl rfl)) (fun c hc => by cases hc)); have HR4 := Aside0.mk (rdb_gate HR2.out HH2.out.gt hk3); have HK3 := Aside0.mk hk3; have HB3 := Aside0.mk hb3; have hb4 := Below.refl w3.heap.size w3; have HB4 := Aside0.mk hb4; obtain ⟨f0, f1, f2, flt⟩ := HH3.out.cells; clear hr3 hg3 hk3 hb3 hb4 hni)
    | ((with_reducible refine gate_builtin (b := .append) (xs := #[.tmp 25, .tmp 30]) rfl ?_); at_builtin; refine append_none22 rfl (.tmp 25) (.tmp 30) rfl A2 N2 c2_ rfl HR2.out.at_.2.1 rfl ?_)
    | (go_at_call 37; (with_reducible refine (units_at (k := 4) w3 _ (Below.refl _ _) ?hx (by decide) (by decide) r HR.out.2.2 HR.out.2.1 (HT1.out.below (below_step HB3.out HB4.out)) HR4.out).mono ?_); (case hx => rfl); rintro e w5 ⟨u5, rfl, hu5, hb5⟩; have HU5 := Aside0.mk hu5; have HB5 := Aside0.mk hb5; obtain ⟨A5, N5, c5_, rfl, hN5⟩ := uns_open hu5; clear hu5 hb5 hN5))
  go_ret
  have e1 : W.heap.size ≤ w1.heap.size := HK1.out.1
  have e2 : w1.heap.size ≤ w2.heap.size := HK2.out.1
  have e3 : w2.heap.size ≤ w3.heap.size := HK3.out.1
  have hB45 := below_step HB4.out HB5.out
  exact ⟨_, rfl, HU5.out.lower (by have := HB4.out.size; omega), HH3.out.below hB45, ((((HK1.out.mono (fun q hq => .inl hq)).then_ HK2.out (fun q hq => .inl (.inr hq))).then_ HK3.out (fun q hq => .inl (.inr (.inl (congrArg some hq)))))).below hB45, below_step HB3.out hB45⟩
end Go.Proofs.YtfplocpjdjjoaaaDoor.Cut
namespace Go.Proofs.YtfplocpjdjjoaaaDoor.Cut
open Go Go.RowKit Go.Proofs.YtfplocpjdjjoaaaDoor.Trail Go.Proofs.YtfplocpjdjjoaaaDoor.Ctxs Go.Proofs.YtfplocpjdjjoaaaDoorW.PrintWords
set_option linter.unusedVariables false
set_option linter.unusedSimpArgs false
theorem feed_esc {v : Value} (w0 W V : World) (hV : Below W.heap.size W V) (hT : Tabs w0) {E D k : Nat} (h1 : 1 ≤ k) (h2 : k ≤ 10) {gb hb : Option Nat} {F : List (List Nat)} {cl : List Nat} (p : List Nat) (h : Esc W w0.heap.size E D gb hb k F cl) (hB : Below w0.heap.size w0 W) (hv : Rdb W v p) (hs : Small p) (hlen : cl.length + p.length ≤ 10000000) (hF : F.flatten.length ≤ 40000000) :
    Calls Tryd.prog 14 #[.pointer (some ⟨E, 0, none⟩), v] V fun e W' => ∃ u hb' m, e = .returned u ∧ Uns W' m u ((newK k F (dec (cl ++ p)).1).map (unitOf k)) ∧ W.heap.size ≤ m ∧ (∀ q, Ch D gb hb' q → q < m) ∧ (∀ cv f, W'.heap[D]? = some (.cells #[cv] 127 f) → ∀ q, some q = cv.ownBlock → W.heap.size ≤ q ∧ q < m) ∧ Esc W' w0.heap.size E D gb hb' k (F ++ (dec (cl ++ p)).1) (dec (cl ++ p)).2 ∧ Kept W W' (Ch D gb hb) ∧ Nxt W hb hb' ∧ Below w0.heap.size w0 W' := by
  obtain ⟨gp, h⟩ := h.half
  refine (feed_half w0 V hT h1 h2 p (h.below hV) (below_step hB hV) (hv.below hV) hs hlen hF).mono ?_
  rintro e W' ⟨u, hb', m, rfl, a, a2, a3, a4, b, c, d, f⟩
  exact ⟨u, hb', m, rfl, a, Nat.le_trans hV.size a2, a3, fun cv f e q hq => ⟨Nat.le_trans hV.size (a4 cv f e q hq).1, (a4 cv f e q hq).2⟩, b.esc, (Kept.of_below hV _).then_ c (fun q hq => .inl hq), d.from_ hV.size, f⟩
theorem finish_esc (w0 W V : World) (hV : Below W.heap.size W V) (hT : Tabs w0) {E D k : Nat} (h1 : 1 ≤ k) (h2 : k ≤ 10) {gb hb : Option Nat} {F : List (List Nat)} {cl : List Nat} (h : Esc W w0.heap.size E D gb hb k F cl) (hB : Below w0.heap.size w0 W) (hF : F.flatten.length ≤ 40000000) :
    Calls Tryd.prog 15 #[.pointer (some ⟨E, 0, none⟩)] V fun e W' => ∃ u, e = .returned u ∧ Uns W' W.heap.size u ((restK k F cl).map (unitOf k)) ∧ Esc W' w0.heap.size E D gb none k [] [] ∧ Kept W W' (Ch D gb hb) ∧ Below w0.heap.size w0 W' := by
  obtain ⟨gp, h⟩ := h.half
  have key : ∀ (P : Ending → World → Prop), Calls Tryd.prog 15 #[.pointer (some ⟨E, 0, none⟩)] V P → Calls Tryd.prog 15 #[.pointer (some ⟨E, 0, none⟩)] V P := fun _ h => h
  have h' := h.below hV
  have hB' := below_step hB hV
  by_cases h4 : k = 4
  · subst h4
    rcases h.gt with ⟨h4, -⟩ | ⟨-, G, hvv, rfl, rfl, -⟩
    · exact absurd rfl h4
    · by_cases hL : look (F ++ fin cl).flatten = 0
      · refine (finish_open w0 V hT h' hF hL hB').mono ?_
        rintro e W' ⟨u, rfl, a, b, c, d⟩
        exact ⟨u, rfl, a.lower hV.size, b.esc, (Kept.of_below hV _).then_ c (fun q hq => .inl hq), d⟩
      · refine (finish_shut w0 V hT h' hF hL hB').mono ?_
        rintro e W' ⟨u, rfl, a, b, c, d⟩
        exact ⟨u, rfl, a.lower hV.size, b.esc, (Kept.of_below hV _).then_ c (fun q hq => .inl hq), d⟩
  · refine (finish_plain w0 V hT h1 h2 h4 h' hB').mono ?_
    rintro e W' ⟨u, rfl, a, b, c, d⟩
    exact ⟨u, rfl, a.lower hV.size, b.esc, (Kept.of_below hV _).then_ c (fun q hq => .inl hq), d⟩
theorem held_gate (W V : World) (hV : Below W.heap.size W V) {base k : Nat} {gp : Value} {gb hb : Option Nat} (h : Gt W base gp gb hb k []) : Calls Tryd.prog 43 #[gp] V fun e W' => e = .returned (.int .i64 0) ∧ V = W' := by
  have h := h.same (V := V) fun q hq => hV.block q (h.lt q hq)
  rcases h with ⟨h4, rfl, rfl, rfl⟩ | ⟨rfl, G, hvv, rfl, rfl, h3, h5, h6, h7, h8⟩
  · clear h4
    go_enter Tryd.func43, Tryd.ntmps43
    go_wp2
    go_ret
    exact ⟨rfl, rfl⟩
  · obtain ⟨A, c, rfl⟩ := h6.slice
    have y0 : V.cell? ⟨G, 0, none⟩ = some (.slice A 0 c) := by simp [World.cell?, h5, look_nil]
    have hlt : G < V.heap.size := (Array.getElem?_eq_some_iff.1 h5).1
    clear h3 h5 h6 h7 h8
    go_enter Tryd.func43, Tryd.ntmps43
    go_wp2
    go_ret
    exact ⟨rfl, rfl⟩
theorem carry_to (D : Nat) (W V : World) (hV : Below W.heap.size W V) (base : Nat) (hD : Dcd W base D []) :
    Calls Tryd.prog 42 #[.pointer (some ⟨D, 0, none⟩)] V fun e W' => ∃ A c, e = .returned (.slice A 0 c) ∧ Below W.heap.size W W' := by
  refine (carry_calls D V base [] (hD.below hV) (by simp)).mono ?_
  rintro e W' ⟨v, rfl, h1, h2⟩
  obtain ⟨A, c, rfl⟩ := h1.slice
  exact ⟨A, c, rfl, below_step hV h2⟩
set_option maxHeartbeats 4000000 in
set_option maxRecDepth 100000 in
theorem held_calls (W : World) {base E D k : Nat} {gb hb : Option Nat} (h : Esc W base E D gb hb k [] []) :
    Calls Tryd.prog 16 #[.pointer (some ⟨E, 0, none⟩)] W fun e W' => e = .returned (.int .i64 0) ∧ Below W.heap.size W W' := by
  obtain ⟨gp, h⟩ := h.half
  obtain ⟨c0, c1, c2, hlt⟩ := h.cells
  have gA : W.cell? ⟨E, 1, none⟩ = some (.pointer (some ⟨D, 0, none⟩)) ∧ W.cell? ⟨E, 2, none⟩ = some gp := ⟨c1, c2⟩
  have HH := Aside0.mk h
  have HG := Aside0.mk h.gt
  have HD := Aside0.mk h.dc
  clear h
  go_enter Tryd.func16, Tryd.ntmps16
  go_wp2
  go_region_held_law (fun W' => W'.cell? ⟨E, 1, none⟩ = some (.pointer (some ⟨D, 0, none⟩)) ∧ W'.cell? ⟨E, 2, none⟩ = some gp) (first | exact gB | exact gA) (first
    | (go_at_call 42; (with_reducible refine (carry_to D W _ (by first | exact Below.refl _ _ | exact Below.drew (Below.refl _ _)) base HD.out).mono ?_); rintro e w1 ⟨A1, c1_, rfl, hb1⟩; have HB1 := Aside0.mk hb1; have gB : w1.cell? ⟨E, 1, none⟩ = some (.pointer (some ⟨D, 0, none⟩)) ∧ w1.cell? ⟨E, 2, none⟩ = some gp := ⟨(HH.out.below hb1).cells.2.1, (HH.out.below hb1).cells.2.2.1⟩; clear hb1)
    | (go_at_call 43; (with_reducible refine (held_gate W w1 (by first | exact HB1.out | exact Below.drew HB1.out) HG.out).mono ?_); rintro e w2 ⟨rfl, rfl⟩))
  all_goals
    go_wp2
    go_ret
    exact ⟨rfl, HB1.out⟩
end Go.Proofs.YtfplocpjdjjoaaaDoor.Cut
namespace Go.Proofs.YtfplocpjdjjoaaaDoor.Cut
open Go Go.RowKit Go.Proofs.YtfplocpjdjjoaaaDoor.Trail Go.Proofs.YtfplocpjdjjoaaaDoor.Ctxs Go.Proofs.YtfplocpjdjjoaaaDoorW.PrintWords
set_option linter.unusedVariables false
set_option linter.unusedSimpArgs false
theorem Rw.reads {W : World} {base : Nat} {A : Option Addr} {n c : Nat} {rows : List (List Value)} (h : Rw W base (.slice A n c) rows) : n = rows.length ∧ n ≤ c ∧ Kd.C (Kd.raw 1) W A n rows := by
  obtain ⟨h1, h2, h3⟩ := Kd.R_reads' h
  exact ⟨h1, h2, h1 ▸ h3⟩
/-- Two rows of units, one behind the other. -/
theorem UnsV.app {W W5 : World} {base b2 : Nat} {v v1 v2 : Value} {vs vs2 : List Value} {us us2 : List (List Nat)} (h : UnsV W base v vs us) (h2 : UnsV W b2 v2 vs2 us2) (hb : base ≤ b2) (hlow : ∀ k, v.ownBlock = some k → k < b2) (h1 : Rw W5 base v1 ((vs ++ vs2).map fun x => [x])) (hg : W.grownBy W5 v.ownBlock) (hat : v1.ownBlock = v.ownBlock ∨ ∃ b, v1.ownBlock = some b ∧ W.heap.size ≤ b) : UnsV W5 base v1 (vs ++ vs2) (us ++ us2) := by
  have hne : ∀ k, k < W.heap.size → some k ≠ v.ownBlock → some k ≠ v1.ownBlock := fun k hk hv e => by
    rcases hat with h | ⟨b, h, hb⟩
    · exact hv (e.trans h)
    · rw [h] at e; injection e with e; omega
  have hn2 : ∀ (i : Nat) (x : Value), vs2[i]? = some x → ∀ k, x.ownBlock = some k → some k ≠ v.ownBlock := fun i x hx k e e2 => by
    have := (h2.out i x hx k e).1
    have := hlow k e2.symm
    omega
  refine ⟨h1, by rw [List.length_append, List.length_append, h.len, h2.len], fun i y z hy hz => ?_, fun i y hy k e => ?_⟩
  · rcases Nat.lt_or_ge i vs.length with hi | hi
    · rw [List.getElem?_append_left hi] at hy
      rw [List.getElem?_append_left (h.len ▸ hi)] at hz
      exact (h.reads i y z hy hz).same fun k e => hg.block k (h.out i y hy k e).2.1 (h.out i y hy k e).2.2
    · rw [List.getElem?_append_right hi] at hy
      rw [List.getElem?_append_right (h.len ▸ hi), ← h.len] at hz
      exact (h2.reads _ y z hy hz).same fun k e => hg.block k (h2.out _ y hy k e).2.1 (hn2 _ y hy k e)
  · rcases Nat.lt_or_ge i vs.length with hi | hi
    · rw [List.getElem?_append_left hi] at hy
      have := h.out i y hy k e
      exact ⟨this.1, Nat.lt_of_lt_of_le this.2.1 hg.size, hne k this.2.1 this.2.2⟩
    · rw [List.getElem?_append_right hi] at hy
      have := h2.out _ y hy k e
      exact ⟨Nat.le_trans hb this.1, Nat.lt_of_lt_of_le this.2.1 hg.size, hne k this.2.1 (hn2 _ y hy k e)⟩
theorem uns_cell {W : World} {base N c : Nat} {A : Option Addr} {vs : List Value} {us : List (List Nat)} (h : UnsV W base (.slice A N c) vs us) (k : Nat) (x : Value) (hx : vs[k]? = some x) : ∃ ad : Addr, A = some ad ∧ W.cell? (ad.add k) = some x ∧ (ad.add k).block < W.heap.size := by
  have hlt := (List.getElem?_eq_some_iff.1 hx).1
  obtain ⟨g, cap, e, -, hg, -⟩ := h.rw.form (by rw [List.length_map]; omega)
  injection e with e1 e2 e3
  subst e1 e2 e3
  have hc := (h.rw.cells k (row := [x]) (by rw [List.getElem?_map, hx]; rfl)).2 0 x rfl
  rw [Nat.add_zero] at hc
  have e : (⟨g, 0, none⟩ : Addr).add k = ⟨g, k, none⟩ := by rw [add_plain]
  exact ⟨_, rfl, by rw [e]; exact hc, by rw [e]; exact hg⟩
/-- A whole value, written. -/
def allOf (k : Nat) (p : List Nat) : List Nat := ((endK k (cleanOf p)).map (unitOf k)).flatten
theorem turns_all (k : Nat) (F : List (List Nat)) (cl : List Nat) : outK k F ++ restK k F cl = endK k (F ++ fin cl) := by
  unfold restK
  rw [endK_eq, outK_app, List.append_assoc]
theorem all_eq (k : Nat) (p : List Nat) : newK k [] (dec p).1 ++ restK k (dec p).1 (dec p).2 = endK k (cleanOf p) := by
  have h := outK_app k [] (dec p).1
  rw [outK_nil, List.nil_append, List.nil_append] at h
  rw [← h, turns_all]
  rfl
theorem endK_chr {k : Nat} {F : List (List Nat)} (hF : ∀ c ∈ F, Chr c) : ∀ c ∈ endK k F, Chr c := by
  unfold endK endG
  repeat' split
  · exact chr_blocked
  · exact hF
  · exact hF
theorem endK_len (k : Nat) (F : List (List Nat)) : (endK k F).flatten.length ≤ 8 + F.flatten.length := by
  unfold endK endG
  have hb : blocked.flatten.length = 8 := rfl
  repeat' split
  all_goals (try rw [hb])
  all_goals omega
theorem clean_len (p : List Nat) : (cleanOf p).flatten.length ≤ 3 * p.length + 3 := by
  unfold cleanOf
  rw [List.flatten_append, List.length_append]
  have := dec_len _ p (Nat.le_refl _)
  have := fin_len (dec p).2
  omega
theorem units_len {k : Nat} {cs : List (List Nat)} (h : ∀ c ∈ cs, Chr c) : ((cs.map (unitOf k)).flatten).length ≤ 196 * cs.length := by
  induction cs with
  | nil => simp
  | cons c cs ih =>
    rw [List.map_cons, List.flatten_cons, List.length_append, List.length_cons]
    have := unit_len (kind := k) (h c List.mem_cons_self)
    have := ih fun c hc => h c (List.mem_cons_of_mem _ hc)
    omega
theorem all_small (k : Nat) (p : List Nat) : Small (allOf k p) := by
  intro x hx
  obtain ⟨u, hu, hx⟩ := List.mem_flatten.1 hx
  obtain ⟨c, hc, rfl⟩ := List.mem_map.1 hu
  exact unit_small (endK_chr (clean_chr p) c hc) x hx
theorem uns_vs {W : World} {base : Nat} {v : Value} {us : List (List Nat)} (h : Uns W base v us) : ∃ A N c vs, v = .slice A N c ∧ UnsV W base (.slice A N c) vs us ∧ N = us.length ∧ N = vs.length := by
  obtain ⟨vs, h⟩ := h
  obtain ⟨A, c, rfl⟩ := h.slice
  exact ⟨A, _, c, vs, rfl, h, h.len, rfl⟩
theorem flat_take (us : List (List Nat)) (k : Nat) (u : List Nat) (h : us[k]? = some u) : (us.take (k + 1)).flatten = (us.take k).flatten ++ u := by
  rw [List.take_add_one, h]
  simp
theorem flat_len (us : List (List Nat)) (k : Nat) (u : List Nat) (h : us[k]? = some u) : (us.take k).flatten.length + u.length ≤ us.flatten.length := by
  obtain ⟨hlt, hu⟩ := List.getElem?_eq_some_iff.1 h
  have e : us.flatten = (us.take k).flatten ++ (u ++ (us.drop (k + 1)).flatten) := by
    conv => lhs; rw [← List.take_append_drop k us, List.drop_eq_getElem_cons hlt, hu]
    rw [List.flatten_append, List.flatten_cons]
  rw [e]
  simp only [List.length_append]
  omega
theorem uns_app {W W5 : World} {base b2 : Nat} {v v1 v2 : Value} {vs vs2 : List Value} {us us2 : List (List Nat)} (h : UnsV W base v vs us) (h2 : UnsV W b2 v2 vs2 us2) (hb : base ≤ b2) (hlow : ∀ k, v.ownBlock = some k → k < b2) (h1 : (Kd.raw 1).R 22 W5 base (fun _ => True) v1 ((vs.map fun x => [x]) ++ (vs2.map fun x => [x]))) (hg : W.grownBy W5 v.ownBlock) (hat : v1.ownBlock = v.ownBlock ∨ ∃ b, v1.ownBlock = some b ∧ W.heap.size ≤ b) : UnsV W5 base v1 (vs ++ vs2) (us ++ us2) :=
  h.app h2 hb hlow (by rw [List.map_append]; exact h1) hg hat
theorem UnsV.kept {W V : World} {base : Nat} {v : Value} {vs : List Value} {us : List (List Nat)} {S : Nat → Prop} (h : UnsV W base v vs us) (hk : Kept W V S) (hS : ∀ q, S q → q < base) : UnsV V base v vs us :=
  h.same hk.1 (fun q e => hk.2 q (h.rw.lt q e) fun hq => by have := hS q hq; have := h.rw.low q e; omega) (fun i x hx q e => hk.2 q (h.out i x hx q e).2.1 fun hq => by have := hS q hq; have := (h.out i x hx q e).1; omega)
set_option maxHeartbeats 4000000 in
set_option maxRecDepth 100000 in
theorem all_calls {v : Value} {k : Nat} (h1 : 1 ≤ k) (h2 : k ≤ 10) (p : List Nat) (hs : Small p) (hlen : p.length ≤ 9000000) (w : World) (hT : Tabs w) (hv : Rdb w v p) :
    Calls Tryd.prog 13 #[.int .u8 (k : Int), v] w fun e W' => ∃ u, e = .returned (.tuple #[u, .int .i64 0]) ∧ Byr W' w.heap.size u (allOf k p) ∧ Below w.heap.size w W' := by
  have hdl := dec_len _ p (Nat.le_refl _)
  have hcl := clean_len p
  have hec := endK_chr (k := k) (clean_chr p)
  have hel := endK_len k (cleanOf p)
  have hul := units_len (k := k) hec
  have hll := len_flat hec
  have hae := all_eq k p
  obtain ⟨F, hF⟩ : ∃ F, F = (dec p).1 := ⟨_, rfl⟩
  obtain ⟨cl, hclx⟩ : ∃ cl, cl = (dec p).2 := ⟨_, rfl⟩
  obtain ⟨u1, hu1⟩ : ∃ u1, u1 = (newK k [] F).map (unitOf k) := ⟨_, rfl⟩
  obtain ⟨u2, hu2⟩ : ∃ u2, u2 = (restK k F cl).map (unitOf k) := ⟨_, rfl⟩
  obtain ⟨us, hus⟩ : ∃ us, us = u1 ++ u2 := ⟨_, rfl⟩
  have hua : us = (endK k (cleanOf p)).map (unitOf k) := by rw [hus, hu1, hu2, hF, hclx, ← List.map_append, hae]
  rw [← hua] at hul
  have hun : us.length ≤ 40000000 := by rw [hua, List.length_map]; omega
  have huf : us.flatten.length ≤ 100000000000 := by omega
  have hall : allOf k p = us.flatten := by rw [hua]; rfl
  have hne : ∀ u ∈ us, u ≠ [] := by
    rw [hua]
    intro u hu
    obtain ⟨c, hc, rfl⟩ := List.mem_map.1 hu
    exact unit_ne (hec c hc)
  rw [hall]
  have hFl : F.flatten.length ≤ 40000000 := by rw [hF]; omega
  have HU := Aside0.mk (And.intro hu1 (And.intro hu2 hus))
  have HL := Aside0.mk (And.intro hun (And.intro huf hne))
  have HF := Aside0.mk (And.intro hF (And.intro hclx hFl))
  have HP := Aside0.mk (And.intro hs (show ([] : List Nat).length + p.length ≤ 10000000 by simp only [List.length_nil]; omega))
  have HT := Aside0.mk hT
  have HK := Aside0.mk (And.intro h1 h2)
  have HV := Aside0.mk hv
  obtain ⟨Ap, Np, cp, rfl, hNp⟩ := rdb_open hv
  clear hs hlen hT hv h1 h2 hdl hcl hec hel hul hll hae hF hclx hu1 hu2 hus hua hun huf hall hne hFl hNp
  go_enter Tryd.func13, Tryd.ntmps13
  go_wp2_with (first
    | (go_at_call 12; (with_reducible refine (new_esc HK.out.1 HK.out.2 _).mono ?_); rintro e w1 ⟨E, D, gb, rfl, he1, hb1⟩; have HE1 := Aside0.mk he1; have HB1 := Aside0.mk hb1; clear he1 hb1)
    | (go_at_call 14; (with_reducible refine (feed_esc w w1 _ (Below.refl _ _) HT.out HK.out.1 HK.out.2 p HE1.out HB1.out (HV.out.below HB1.out) HP.out.1 HP.out.2 (by decide)).mono ?_); rintro e w2 ⟨v2, hb2, m, rfl, hu2, hm, hch, -, he2, -, -, hbl2⟩; rw [List.nil_append, ← HF.out.1, ← HU.out.1] at hu2; rw [List.nil_append, List.nil_append, ← HF.out.1, ← HF.out.2.1] at he2; have HE2 := Aside0.mk he2; have HB2 := Aside0.mk hbl2; obtain ⟨A2, N2, c2, vs2, rfl, hv2, hn2, hm2⟩ := uns_vs hu2; have HV2 := Aside0.mk hv2; have HN2 := Aside0.mk (And.intro hn2 hm2); have HM := Aside0.mk (And.intro hm hch); clear hu2 he2 hbl2 hv2 hn2 hm2 hm hch)
    | (go_at_call 15; (with_reducible refine (finish_esc w w2 _ (Below.refl _ _) HT.out HK.out.1 HK.out.2 HE2.out HB2.out HF.out.2.2).mono ?_); rintro e w3 ⟨v3, rfl, hu3, he3, hk3, hbl3⟩; rw [← HU.out.2.1] at hu3; have HK3 := Aside0.mk hk3; have HB3 := Aside0.mk hbl3; obtain ⟨A3, N3, c3, vs3, rfl, hv3, hn3, hm3⟩ := uns_vs hu3; have HV3 := Aside0.mk hv3; have HN3 := Aside0.mk (And.intro hn3 hm3); have HLO := Aside0.mk (And.intro HB2.out.size (fun q e => HV2.out.rw.lt q e : ∀ q, (Value.slice A2 N2 c2).ownBlock = some q → q < w2.heap.size)); have HV23 := Aside0.mk ((HV2.out.kept hk3 HM.out.2).lower (Nat.le_trans HB1.out.size HM.out.1)); clear hu3 he3 hk3 hbl3 hv3 hn3 hm3)
    | ((with_reducible refine gate_builtin (b := .append) (xs := #[.tmp 21, .tmp 23]) rfl ?_); at_builtin; refine Kd.R_append_rows (Kd.raw 1) (w0 := w) (W := w3) w.heap.size rfl (.tmp 21) (.tmp 23) 46 22 (.slice none 0 0) 24 rfl Tryd.underlying46 info22 rfl (by decide) (by decide) (.slice A2 N2 c2) (vs2.map fun x => [x]) (vs3.map fun x => [x]) A3 N3 c3 (fun _ => True) (fun _ => False) rfl rfl ?aN ?aR (fun _ _ h => h) (fun _ h => h.elim) (fun _ _ => trivial) ?aB ?aS ?aL ?_; (case aN => exact HV23.out.rw); (case aR => exact HV3.out.rw.reads.2.2); (case aB => exact HB3.out); (case aS => exact HB3.out.size); (case aL => have := HL.out.1; have := HN2.out; have := HN3.out; have h9 := congrArg List.length HU.out.2.2; rw [List.length_append] at h9; rw [List.length_map]; omega); intro v4 w4 hn4 hb4 hg4 hat4; have hu4 := uns_app HV23.out HV3.out HLO.out.1 HLO.out.2 hn4 hg4 hat4; rw [← HU.out.2.2] at hu4; obtain ⟨A4, N4, c4, vs4, rfl, hv4, hN4, hM4⟩ := uns_vs ⟨_, hu4⟩; have HV4 := Aside0.mk hv4; have HN4 := Aside0.mk (And.intro hN4 hM4); have HB4 := Aside0.mk hb4; clear hu4 hn4 hb4 hg4 hat4 hv4 hN4 hM4))
  go_loopw [8, 26] (fun ov iv wr => ∃ (j : Nat) (done : List Nat), iv = .int .i64 (j : Int) ∧ j ≤ N4 ∧ Byr wr w4.heap.size ov done ∧ done = (us.take j).flatten ∧ Below w4.heap.size w4 wr) (fun _ iv _ => N4 - (intOf iv).toNat)
  case atStart => exact ⟨0, [], rfl, Nat.zero_le _, Byr.nil _ _, by simp, Below.refl _ _⟩
  case round =>
    obtain ⟨j, done, rfl, hj, hov, hdone, hbw⟩ := hrel
    obtain ⟨Ao, No, co, rfl, hNo⟩ := byr_open hov
    have HOV := Aside0.mk hov
    have HD := Aside0.mk hdone
    have HBW := Aside0.mk hbw
    clear hov hdone hbw
    by_cases hjN : j < N4
    · have d1 : decide ((j : Int) < (N4 : Int)) = true := decide_eq_true (by omega)
      obtain ⟨u, hu⟩ : ∃ u, us[j]? = some u := ⟨_, List.getElem?_eq_getElem (by have := HN4.out.1; omega)⟩
      obtain ⟨x, hx⟩ : ∃ x, vs4[j]? = some x := ⟨_, List.getElem?_eq_getElem (by have := HN4.out.2; omega)⟩
      obtain ⟨ad, ea, hcell, hal⟩ := uns_cell HV4.out j x hx
      subst ea
      have hcell := (HBW.out.cell hal).trans hcell
      have hal := Nat.lt_of_lt_of_le hal HBW.out.size
      have hrx := (HV4.out.reads j x u hx hu).below HBW.out
      obtain ⟨Ax, Nx, cx, rfl, hNx⟩ := rdb_open hrx
      have b1 : (0 : Int) ≤ (j : Int) ∧ (j : Int) < (N4 : Int) := by omega
      have HUX := Aside0.mk hu
      have HRX := Aside0.mk hrx
      have HLN := Aside0.mk (show (done.length + Nx) * 1 ≤ 140737488355328 by have := flat_len us j u hu; have := HL.out.2.1; rw [HD.out]; omega)
      have HK2 := Aside0.mk hjN
      have HNO := Aside0.mk hNo
      have HNX := Aside0.mk hNx
      have D6 := Aside0.mk (show wrap64 ((j : Int) + 1) = ((j + 1 : Nat) : Int) by unfold wrap64; have := HN4.out.1; have := HL.out.1; omega)
      clear hu hx hrx hjN hj hNo hNx
      go_wp2_with ((with_reducible refine gate_builtin (b := .append) (xs := #[.tmp 30, .tmp 31]) rfl ?_); at_builtin; refine Kd.R_append_rows (Kd.int .u8) (w0 := w4) (W := wr) w4.heap.size rfl (.tmp 30) (.tmp 31) 22 5 (.int .u8 0) 1 rfl Tryd.underlying22 info5 rfl (by decide) (by decide) (.slice Ao No co) (ints done) (ints u) Ax Nx cx (fun _ => True) (fun _ => False) rfl rfl ?aN ?aR (fun _ _ h => h) (fun _ h => h.elim) (fun _ _ => trivial) ?aB ?aS ?aL ?_; (case aN => exact HOV.out); (case aR => exact HRX.out.at_.2.2); (case aB => exact HBW.out); (case aS => exact HBW.out.size); (case aL => have := HLN.out; rw [List.length_map]; exact this); intro v5 w5 hn5 hb5 hg5 hat5; have hn5' : Byr w5 w4.heap.size v5 (done ++ u) := (by unfold Byr; rw [ints, List.map_append]; exact hn5); obtain ⟨A5, N5, c5, rfl, hN5⟩ := byr_open hn5'; have HN5 := Aside0.mk hn5'; have HB5 := Aside0.mk hb5; clear hn5 hb5 hg5 hat5 hn5' hN5)
      go_roundw
      case rel => exact ⟨j + 1, done ++ u, congrArg (Value.int .i64) D6.out, HK2.out, HN5.out, by rw [flat_take us j u HUX.out, HD.out], HB5.out⟩
      case measure => exact less2 (Nat.lt_succ_self j) HK2.out D6.out
    · have hje : j = N4 := by omega
      subst hje
      have d1 : decide ((j : Int) < (j : Int)) = false := decide_eq_false (by omega)
      have hdn : done = us.flatten := by rw [HD.out, HN4.out.1, List.take_length]
      go_wp2
      refine bodyPost_ret (v := .tuple #[.slice Ao No co, .int .i64 0]) ?_ rfl ⟨_, rfl, ?_, below_step HB4.out HBW.out⟩
      · simp [results, Tryd.f13, go_sem]
      · rw [← hdn]
        exact HOV.out.lower HB4.out.size
end Go.Proofs.YtfplocpjdjjoaaaDoor.Cut
