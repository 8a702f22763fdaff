/-
  The text of an element of its own, as a plain function of the context.
  The text of an element of its own, as a plain function of the context: what may be an end tag.
  Conditions: as each theorem says.
-/
import Derived.Test.YtfplocpjdjjoaaaDoorGe
import Derived.Deep.QuietTactic
import Derived.BigQuiet
namespace Go.Proofs.YtfplocpjdjjoaaaDoor.Ctxs
open Go Go.RowKit Go.Proofs.YtfplocpjdjjoaaaDoor.Trail Go.Proofs.YtfplocpjdjjoaaaDoorW.PrintWords
set_option linter.unusedVariables false
set_option linter.unusedSimpArgs false
theorem fed_at {v : Array Value} {s : ByteArray} (c : Cx) (hv : v = cxs c) (l : List Nat) (hs : s = bs l) (feed : Bool) (hl : Small l) (hn : l.length ≤ 1000) (w : World) (hG : Glob w) : Calls Tryd.prog 107 #[.agg v, .string s, .bool feed] w (Ret (Trail.fed c l feed) w) := hv ▸ hs ▸ fed_calls c l feed hl hn w hG
theorem tag_at {v : Array Value} {n : Int} (c : Cx) (hv : v = cxs c) (b : Nat) (hb : n = (b : Int)) (hs : Small c.nm) (hn : c.nm.length ≤ 1000) (w : World) (hG : Glob w) : Calls Tryd.prog 71 #[.agg v, .int .u8 n] w (RetB (Trail.tag attrOf c b) w) := hv ▸ hb ▸ tag_calls c b hs hn w hG
theorem nameOf_at {n : Int} (k : Nat) (hn : n = (k : Int)) (w : World) : Calls Tryd.prog 52 #[.int .u8 n] w fun e w' => e = .returned (.string (bs (nameOf k))) ∧ w = w' := hn ▸ nameOf_calls k w
theorem three (s b : Nat) : (s = 17 ∧ b = 60) ∨ (s = 17 ∧ ¬ b = 60) ∨ ¬ s = 17 := by omega
theorem small_one {b : Nat} (h : b < 256) : Small [b] := by unfold Small; simpa using h
theorem St.drewN {w V : World} {c : Cx} (h : St w V c) (n : Nat) : St w (V.drewN n) c := h.step (Joins.below_draws _ V n)
/-- 'raw' as the code goes. -/
theorem raw_eq (c : Cx) (b : Nat) (feed : Bool) : Trail.raw c b feed = if c.st = 18 ∧ b = 47 then { c with st := 19 } else if c.st = 18 ∧ b = 33 ∧ c.el = 3 then bad
    else if c.st = 19 ∧ c.nm = nameOf c.el ∧ (Trail.blank b = true ∨ b = 47 ∨ b = 62) then (if ends c = false then bad else (Trail.tag attrOf { st := 9, en := true } b).1)
    else if c.st = 19 ∧ (c.nm ++ [small b]).isPrefixOf (nameOf c.el) = true then { c with nm := c.nm ++ [small b] }
    else if c.st = 19 then (if (Trail.fed c (47 :: c.nm) feed).st = 20 then bad else rawEnd (Trail.fed c (47 :: c.nm) feed) b feed) else rawEnd c b feed := by
  unfold Trail.raw
  dsimp only
  have e : ∀ f g : List Nat → Nat, Trail.tag f { st := 9, en := true } b = Trail.tag g { st := 9, en := true } b := fun f g => rfl
  rw [e (fun _ => 0) attrOf]
  simp
theorem rawEnd_eq (d : Cx) (b : Nat) (feed : Bool) : rawEnd d b feed = if (Trail.fed d [b] feed).st = 17 ∧ b = 60 then { Trail.fed d [b] feed with st := 18 } else Trail.fed d [b] feed := rfl
theorem one_conv' (V W : World) (b : Nat) (g : Nat) (h : V.heap.size = g) : (convert 22 9 (.slice (some ⟨g, 0, none⟩) 1 1)).run Tryd.prog (V.alloc (.cells #[.int .u8 (b : Int)] 5)) = .ok (.string (bs [b])) (V.alloc (.cells #[.int .u8 (b : Int)] 5)) := by
  subst h
  exact one_conv (cell_last _ _ _ _ 0 rfl)
set_option maxHeartbeats 4000000 in
set_option maxRecDepth 100000 in
theorem raw_callsF (c : Cx) (b : Nat) (feed : Bool) (hb : b < 256) (hs : Small c.nm) (hn : c.nm.length ≤ 900) (h0 : c.st ≠ 20) (h1 : c.st ≠ 19) (h2 : c.st ≠ 18 ∨ (c.st = 18 ∧ b ≠ 47 ∧ b ≠ 33) ∨ (c.st = 18 ∧ b = 33 ∧ c.el ≠ 3)) (w : World) (hG : Glob w) : Calls Tryd.prog 73 #[.agg (cxs c), .int .u8 (b : Int), .bool feed] w (Ret (rawEnd c b feed) w) := by
  have hu33 := Tryd.underlying33
  have hz := glob_pos hG
  have HZ := Aside0.mk hz
  have hst := Aside0.mk (st0 c hG)
  obtain ⟨g0, g1, g2, g3, g4, g5, g6, g7, g8, g9⟩ := glob_cells hG
  have HS := Aside0.mk hs
  have HN := Aside0.mk hn
  have HB := Aside0.mk hb
  clear hG hs hn hb
  have c1 : ((c.st : Int) == 19) = false := by rw [beq_eq_false_iff_ne]; omega
  have c0 : ((c.st : Int) == 20) = false := by rw [beq_eq_false_iff_ne]; omega
  have hcv : ∀ A B (n : Nat), (convert 22 9 (.slice (some ⟨w.heap.size + 1 + 1, 0, none⟩) 1 1)).run Tryd.prog ((((w.alloc A).alloc B).drewN n).alloc (.cells #[.int .u8 (b : Int)] 5)) = .ok (.string (bs [b])) ((((w.alloc A).alloc B).drewN n).alloc (.cells #[.int .u8 (b : Int)] 5)) := fun A B n => one_conv' _ w b _ (by simp)
  rcases h2 with h2 | ⟨h2, h3, h4⟩ | ⟨h2, h3, h4⟩
  · have a0 : ((c.st : Int) == 18) = false := by rw [beq_eq_false_iff_ne]; omega
    clear h0 h1 h2
    simp only [cxs] at hst ⊢
    rcases three (Trail.fed c [b] feed).st b with ⟨hD, hQ⟩ | ⟨hD, hQ⟩ | hD
    · have d1 : (((Trail.fed c [b] feed).st : Int) == 17) = true := by rw [beq_iff_eq]; omega
      have d2 : ((b : Int) == 60) = true := by rw [beq_iff_eq]; omega
      have HD := Aside0.mk hD
      have HQ := Aside0.mk hQ
      clear hD hQ
      go_enter Tryd.func73, Tryd.ntmps73
      go_wp2_with (go_at_call 52; (with_reducible refine (nameOf_at c.el ?hn _).mono ?_); (case hn => rfl); rintro e w1 ⟨rfl, rfl⟩)
      go_quiet (fail)
      go_wp2_with (go_at_call 107; (with_reducible refine (fed_at c ?hv [b] ?hs feed ?hl (by simp) _ ((hst.out.drewN _).alloc _).gl).mono ?_); (case hv => rfl); (case hs => rfl); (case hl => exact small_one HB.out); rintro e w1 ⟨rfl, hb⟩; have HS1 := Aside0.mk (((hst.out.drewN _).alloc _).step hb); clear hb; obtain ⟨⟨y0, y1, y2, y3, y4, y5, y6, y7, y8, y9, yf⟩, ⟨z0, z1, z2, z3, z4, z5, z6, z7, z8, z9, zf⟩, -, ⟨g0, g1, g2, g3, g4, g5, g6, g7, g8, g9⟩, hlt1⟩ := (HS1.out).facts; simp only [cxs])
      have e : rawEnd c b feed = { (Trail.fed c [b] feed) with st := 18 } := by rw [rawEnd_eq, if_pos ⟨HD.out, HQ.out⟩]
      rw [e]
      (with_reducible refine ret_put (V := _) ?_ Tryd.results73 ?_ ?_ ?_)
      rotate_left
      · rfl
      · rfl
      · rfl
      · exact St.after (St.set (c' := { (Trail.fed c [b] feed) with st := 18 }) (St.put (c' := (Trail.fed c [b] feed)) HS1.out HZ.out rfl) HZ.out 0 _ rfl)
    · have d1 : (((Trail.fed c [b] feed).st : Int) == 17) = true := by rw [beq_iff_eq]; omega
      have d2 : ((b : Int) == 60) = false := by rw [beq_eq_false_iff_ne]; omega
      have HD := Aside0.mk hD
      have HQ := Aside0.mk hQ
      clear hD hQ
      go_enter Tryd.func73, Tryd.ntmps73
      go_wp2_with (go_at_call 52; (with_reducible refine (nameOf_at c.el ?hn _).mono ?_); (case hn => rfl); rintro e w1 ⟨rfl, rfl⟩)
      go_quiet (fail)
      go_wp2_with (go_at_call 107; (with_reducible refine (fed_at c ?hv [b] ?hs feed ?hl (by simp) _ ((hst.out.drewN _).alloc _).gl).mono ?_); (case hv => rfl); (case hs => rfl); (case hl => exact small_one HB.out); rintro e w1 ⟨rfl, hb⟩; have HS1 := Aside0.mk (((hst.out.drewN _).alloc _).step hb); clear hb; obtain ⟨⟨y0, y1, y2, y3, y4, y5, y6, y7, y8, y9, yf⟩, ⟨z0, z1, z2, z3, z4, z5, z6, z7, z8, z9, zf⟩, -, ⟨g0, g1, g2, g3, g4, g5, g6, g7, g8, g9⟩, hlt1⟩ := (HS1.out).facts; simp only [cxs])
      have e : rawEnd c b feed = (Trail.fed c [b] feed) := by rw [rawEnd_eq, if_neg (fun q => HQ.out q.2)]
      rw [e]
      (with_reducible refine ret_put (V := _) ?_ Tryd.results73 ?_ ?_ ?_)
      rotate_left
      · rfl
      · rfl
      · rfl
      · exact St.after (St.put (c' := (Trail.fed c [b] feed)) HS1.out HZ.out rfl)
    · have d1 : (((Trail.fed c [b] feed).st : Int) == 17) = false := by rw [beq_eq_false_iff_ne]; omega
      have HD := Aside0.mk hD
      clear hD
      go_enter Tryd.func73, Tryd.ntmps73
      go_wp2_with (go_at_call 52; (with_reducible refine (nameOf_at c.el ?hn _).mono ?_); (case hn => rfl); rintro e w1 ⟨rfl, rfl⟩)
      go_quiet (fail)
      go_wp2_with (go_at_call 107; (with_reducible refine (fed_at c ?hv [b] ?hs feed ?hl (by simp) _ ((hst.out.drewN _).alloc _).gl).mono ?_); (case hv => rfl); (case hs => rfl); (case hl => exact small_one HB.out); rintro e w1 ⟨rfl, hb⟩; have HS1 := Aside0.mk (((hst.out.drewN _).alloc _).step hb); clear hb; obtain ⟨⟨y0, y1, y2, y3, y4, y5, y6, y7, y8, y9, yf⟩, ⟨z0, z1, z2, z3, z4, z5, z6, z7, z8, z9, zf⟩, -, ⟨g0, g1, g2, g3, g4, g5, g6, g7, g8, g9⟩, hlt1⟩ := (HS1.out).facts; simp only [cxs])
      have e : rawEnd c b feed = (Trail.fed c [b] feed) := by rw [rawEnd_eq, if_neg (fun q => HD.out q.1)]
      rw [e]
      (with_reducible refine ret_put (V := _) ?_ Tryd.results73 ?_ ?_ ?_)
      rotate_left
      · rfl
      · rfl
      · rfl
      · exact St.after (St.put (c' := (Trail.fed c [b] feed)) HS1.out HZ.out rfl)
  · have a0 : ((c.st : Int) == 18) = true := by rw [beq_iff_eq]; omega
    have a1 : ((b : Int) == 47) = false := by rw [beq_eq_false_iff_ne]; omega
    have a2 : ((b : Int) == 33) = false := by rw [beq_eq_false_iff_ne]; omega
    clear h0 h1 h2 h3 h4
    simp only [cxs] at hst ⊢
    rcases three (Trail.fed c [b] feed).st b with ⟨hD, hQ⟩ | ⟨hD, hQ⟩ | hD
    · have d1 : (((Trail.fed c [b] feed).st : Int) == 17) = true := by rw [beq_iff_eq]; omega
      have d2 : ((b : Int) == 60) = true := by rw [beq_iff_eq]; omega
      have HD := Aside0.mk hD
      have HQ := Aside0.mk hQ
      clear hD hQ
      go_enter Tryd.func73, Tryd.ntmps73
      go_wp2_with (go_at_call 52; (with_reducible refine (nameOf_at c.el ?hn _).mono ?_); (case hn => rfl); rintro e w1 ⟨rfl, rfl⟩)
      go_quiet (fail)
      go_wp2_with (go_at_call 107; (with_reducible refine (fed_at c ?hv [b] ?hs feed ?hl (by simp) _ ((hst.out.drewN _).alloc _).gl).mono ?_); (case hv => rfl); (case hs => rfl); (case hl => exact small_one HB.out); rintro e w1 ⟨rfl, hb⟩; have HS1 := Aside0.mk (((hst.out.drewN _).alloc _).step hb); clear hb; obtain ⟨⟨y0, y1, y2, y3, y4, y5, y6, y7, y8, y9, yf⟩, ⟨z0, z1, z2, z3, z4, z5, z6, z7, z8, z9, zf⟩, -, ⟨g0, g1, g2, g3, g4, g5, g6, g7, g8, g9⟩, hlt1⟩ := (HS1.out).facts; simp only [cxs])
      have e : rawEnd c b feed = { (Trail.fed c [b] feed) with st := 18 } := by rw [rawEnd_eq, if_pos ⟨HD.out, HQ.out⟩]
      rw [e]
      (with_reducible refine ret_put (V := _) ?_ Tryd.results73 ?_ ?_ ?_)
      rotate_left
      · rfl
      · rfl
      · rfl
      · exact St.after (St.set (c' := { (Trail.fed c [b] feed) with st := 18 }) (St.put (c' := (Trail.fed c [b] feed)) HS1.out HZ.out rfl) HZ.out 0 _ rfl)
    · have d1 : (((Trail.fed c [b] feed).st : Int) == 17) = true := by rw [beq_iff_eq]; omega
      have d2 : ((b : Int) == 60) = false := by rw [beq_eq_false_iff_ne]; omega
      have HD := Aside0.mk hD
      have HQ := Aside0.mk hQ
      clear hD hQ
      go_enter Tryd.func73, Tryd.ntmps73
      go_wp2_with (go_at_call 52; (with_reducible refine (nameOf_at c.el ?hn _).mono ?_); (case hn => rfl); rintro e w1 ⟨rfl, rfl⟩)
      go_quiet (fail)
      go_wp2_with (go_at_call 107; (with_reducible refine (fed_at c ?hv [b] ?hs feed ?hl (by simp) _ ((hst.out.drewN _).alloc _).gl).mono ?_); (case hv => rfl); (case hs => rfl); (case hl => exact small_one HB.out); rintro e w1 ⟨rfl, hb⟩; have HS1 := Aside0.mk (((hst.out.drewN _).alloc _).step hb); clear hb; obtain ⟨⟨y0, y1, y2, y3, y4, y5, y6, y7, y8, y9, yf⟩, ⟨z0, z1, z2, z3, z4, z5, z6, z7, z8, z9, zf⟩, -, ⟨g0, g1, g2, g3, g4, g5, g6, g7, g8, g9⟩, hlt1⟩ := (HS1.out).facts; simp only [cxs])
      have e : rawEnd c b feed = (Trail.fed c [b] feed) := by rw [rawEnd_eq, if_neg (fun q => HQ.out q.2)]
      rw [e]
      (with_reducible refine ret_put (V := _) ?_ Tryd.results73 ?_ ?_ ?_)
      rotate_left
      · rfl
      · rfl
      · rfl
      · exact St.after (St.put (c' := (Trail.fed c [b] feed)) HS1.out HZ.out rfl)
    · have d1 : (((Trail.fed c [b] feed).st : Int) == 17) = false := by rw [beq_eq_false_iff_ne]; omega
      have HD := Aside0.mk hD
      clear hD
      go_enter Tryd.func73, Tryd.ntmps73
      go_wp2_with (go_at_call 52; (with_reducible refine (nameOf_at c.el ?hn _).mono ?_); (case hn => rfl); rintro e w1 ⟨rfl, rfl⟩)
      go_quiet (fail)
      go_wp2_with (go_at_call 107; (with_reducible refine (fed_at c ?hv [b] ?hs feed ?hl (by simp) _ ((hst.out.drewN _).alloc _).gl).mono ?_); (case hv => rfl); (case hs => rfl); (case hl => exact small_one HB.out); rintro e w1 ⟨rfl, hb⟩; have HS1 := Aside0.mk (((hst.out.drewN _).alloc _).step hb); clear hb; obtain ⟨⟨y0, y1, y2, y3, y4, y5, y6, y7, y8, y9, yf⟩, ⟨z0, z1, z2, z3, z4, z5, z6, z7, z8, z9, zf⟩, -, ⟨g0, g1, g2, g3, g4, g5, g6, g7, g8, g9⟩, hlt1⟩ := (HS1.out).facts; simp only [cxs])
      have e : rawEnd c b feed = (Trail.fed c [b] feed) := by rw [rawEnd_eq, if_neg (fun q => HD.out q.1)]
      rw [e]
      (with_reducible refine ret_put (V := _) ?_ Tryd.results73 ?_ ?_ ?_)
      rotate_left
      · rfl
      · rfl
      · rfl
      · exact St.after (St.put (c' := (Trail.fed c [b] feed)) HS1.out HZ.out rfl)
  · have a0 : ((c.st : Int) == 18) = true := by rw [beq_iff_eq]; omega
    have a1 : ((b : Int) == 47) = false := by rw [beq_eq_false_iff_ne]; omega
    have a2 : ((b : Int) == 33) = true := by rw [beq_iff_eq]; omega
    have a3 : ((c.el : Int) == 3) = false := by rw [beq_eq_false_iff_ne]; omega
    clear h0 h1 h2 h3 h4
    simp only [cxs] at hst ⊢
    rcases three (Trail.fed c [b] feed).st b with ⟨hD, hQ⟩ | ⟨hD, hQ⟩ | hD
    · have d1 : (((Trail.fed c [b] feed).st : Int) == 17) = true := by rw [beq_iff_eq]; omega
      have d2 : ((b : Int) == 60) = true := by rw [beq_iff_eq]; omega
      have HD := Aside0.mk hD
      have HQ := Aside0.mk hQ
      clear hD hQ
      go_enter Tryd.func73, Tryd.ntmps73
      go_wp2_with (go_at_call 52; (with_reducible refine (nameOf_at c.el ?hn _).mono ?_); (case hn => rfl); rintro e w1 ⟨rfl, rfl⟩)
      go_quiet (fail)
      go_wp2_with (go_at_call 107; (with_reducible refine (fed_at c ?hv [b] ?hs feed ?hl (by simp) _ ((hst.out.drewN _).alloc _).gl).mono ?_); (case hv => rfl); (case hs => rfl); (case hl => exact small_one HB.out); rintro e w1 ⟨rfl, hb⟩; have HS1 := Aside0.mk (((hst.out.drewN _).alloc _).step hb); clear hb; obtain ⟨⟨y0, y1, y2, y3, y4, y5, y6, y7, y8, y9, yf⟩, ⟨z0, z1, z2, z3, z4, z5, z6, z7, z8, z9, zf⟩, -, ⟨g0, g1, g2, g3, g4, g5, g6, g7, g8, g9⟩, hlt1⟩ := (HS1.out).facts; simp only [cxs])
      have e : rawEnd c b feed = { (Trail.fed c [b] feed) with st := 18 } := by rw [rawEnd_eq, if_pos ⟨HD.out, HQ.out⟩]
      rw [e]
      (with_reducible refine ret_put (V := _) ?_ Tryd.results73 ?_ ?_ ?_)
      rotate_left
      · rfl
      · rfl
      · rfl
      · exact St.after (St.set (c' := { (Trail.fed c [b] feed) with st := 18 }) (St.put (c' := (Trail.fed c [b] feed)) HS1.out HZ.out rfl) HZ.out 0 _ rfl)
    · have d1 : (((Trail.fed c [b] feed).st : Int) == 17) = true := by rw [beq_iff_eq]; omega
      have d2 : ((b : Int) == 60) = false := by rw [beq_eq_false_iff_ne]; omega
      have HD := Aside0.mk hD
      have HQ := Aside0.mk hQ
      clear hD hQ
      go_enter Tryd.func73, Tryd.ntmps73
      go_wp2_with (go_at_call 52; (with_reducible refine (nameOf_at c.el ?hn _).mono ?_); (case hn => rfl); rintro e w1 ⟨rfl, rfl⟩)
      go_quiet (fail)
      go_wp2_with (go_at_call 107; (with_reducible refine (fed_at c ?hv [b] ?hs feed ?hl (by simp) _ ((hst.out.drewN _).alloc _).gl).mono ?_); (case hv => rfl); (case hs => rfl); (case hl => exact small_one HB.out); rintro e w1 ⟨rfl, hb⟩; have HS1 := Aside0.mk (((hst.out.drewN _).alloc _).step hb); clear hb; obtain ⟨⟨y0, y1, y2, y3, y4, y5, y6, y7, y8, y9, yf⟩, ⟨z0, z1, z2, z3, z4, z5, z6, z7, z8, z9, zf⟩, -, ⟨g0, g1, g2, g3, g4, g5, g6, g7, g8, g9⟩, hlt1⟩ := (HS1.out).facts; simp only [cxs])
      have e : rawEnd c b feed = (Trail.fed c [b] feed) := by rw [rawEnd_eq, if_neg (fun q => HQ.out q.2)]
      rw [e]
      (with_reducible refine ret_put (V := _) ?_ Tryd.results73 ?_ ?_ ?_)
      rotate_left
      · rfl
      · rfl
      · rfl
      · exact St.after (St.put (c' := (Trail.fed c [b] feed)) HS1.out HZ.out rfl)
    · have d1 : (((Trail.fed c [b] feed).st : Int) == 17) = false := by rw [beq_eq_false_iff_ne]; omega
      have HD := Aside0.mk hD
      clear hD
      go_enter Tryd.func73, Tryd.ntmps73
      go_wp2_with (go_at_call 52; (with_reducible refine (nameOf_at c.el ?hn _).mono ?_); (case hn => rfl); rintro e w1 ⟨rfl, rfl⟩)
      go_quiet (fail)
      go_wp2_with (go_at_call 107; (with_reducible refine (fed_at c ?hv [b] ?hs feed ?hl (by simp) _ ((hst.out.drewN _).alloc _).gl).mono ?_); (case hv => rfl); (case hs => rfl); (case hl => exact small_one HB.out); rintro e w1 ⟨rfl, hb⟩; have HS1 := Aside0.mk (((hst.out.drewN _).alloc _).step hb); clear hb; obtain ⟨⟨y0, y1, y2, y3, y4, y5, y6, y7, y8, y9, yf⟩, ⟨z0, z1, z2, z3, z4, z5, z6, z7, z8, z9, zf⟩, -, ⟨g0, g1, g2, g3, g4, g5, g6, g7, g8, g9⟩, hlt1⟩ := (HS1.out).facts; simp only [cxs])
      have e : rawEnd c b feed = (Trail.fed c [b] feed) := by rw [rawEnd_eq, if_neg (fun q => HD.out q.1)]
      rw [e]
      (with_reducible refine ret_put (V := _) ?_ Tryd.results73 ?_ ?_ ?_)
      rotate_left
      · rfl
      · rfl
      · rfl
      · exact St.after (St.put (c' := (Trail.fed c [b] feed)) HS1.out HZ.out rfl)
end Go.Proofs.YtfplocpjdjjoaaaDoor.Ctxs
namespace Go.Proofs.YtfplocpjdjjoaaaDoor.Ctxs
open Go Go.RowKit Go.Proofs.YtfplocpjdjjoaaaDoor.Trail Go.Proofs.YtfplocpjdjjoaaaDoorW.PrintWords
set_option linter.unusedVariables false
set_option linter.unusedSimpArgs false
theorem ret_put1 {fn : Func} {a : Act} {w V : World} {g : Nat} {p : Tmp} {c : Cx} {v0 v1 v2 v3 v4 v5 v6 v7 v8 v9 : Value} {O : Obj} (H : After w V g) (h : fn.results = #[.cell p 33]) (hd : a.defers = []) (hp : a.tmps.getD p undef = .pointer (some ⟨g, 0, none⟩)) (hc : #[v0, v1, v2, v3, v4, v5, v6, v7, v8, v9] = cxs c) :
    bodyPost Tryd.prog fn (Ret c w) .ret a (((((((((((V.setCell ⟨g, 0, none⟩ v0).setCell ⟨g, 1, none⟩ v1).setCell ⟨g, 2, none⟩ v2).setCell ⟨g, 3, none⟩ v3).setCell ⟨g, 4, none⟩ v4).setCell ⟨g, 5, none⟩ v5).setCell ⟨g, 6, none⟩ v6).setCell ⟨g, 7, none⟩ v7).setCell ⟨g, 8, none⟩ v8).setCell ⟨g, 9, none⟩ v9).alloc O) := by
  obtain ⟨⟨cs, hs, hk⟩, hw, le⟩ := H
  have hq := put10 hs hk v0 v1 v2 v3 v4 v5 v6 v7 v8 v9
  have hb := below10 hw le v0 v1 v2 v3 v4 v5 v6 v7 v8 v9
  exact ret_ctx g h hd hp ((alloc_old (Array.getElem?_eq_some_iff.1 hq).1).trans hq) rfl (ret_ctx' hc (hb.alloc hb.size _))
set_option maxHeartbeats 4000000 in
set_option maxRecDepth 100000 in
theorem raw_callsA (c : Cx) (b : Nat) (feed : Bool) (hb : b < 256) (hs : Small c.nm) (hn : c.nm.length ≤ 900) (h1 : c.st = 18) (h2 : b = 47) (w : World) (hG : Glob w) : Calls Tryd.prog 73 #[.agg (cxs c), .int .u8 (b : Int), .bool feed] w (Ret { c with st := 19 } w) := by
  have hu33 := Tryd.underlying33
  have hz := glob_pos hG
  have HZ := Aside0.mk hz
  have hst := Aside0.mk (st0 c hG)
  obtain ⟨g0, g1, g2, g3, g4, g5, g6, g7, g8, g9⟩ := glob_cells hG
  have HS := Aside0.mk hs
  have HN := Aside0.mk hn
  have HB := Aside0.mk hb
  clear hG hs hn hb
  have a0 : ((c.st : Int) == 18) = true := by rw [beq_iff_eq]; omega
  have a1 : ((b : Int) == 47) = true := by rw [beq_iff_eq]; omega
  clear h1 h2
  simp only [cxs] at hst ⊢
  go_enter Tryd.func73, Tryd.ntmps73
  go_wp2_with (go_at_call 52; (with_reducible refine (nameOf_at c.el ?hn _).mono ?_); (case hn => rfl); rintro e w1 ⟨rfl, rfl⟩)
  (with_reducible refine ret_alloc2 Tryd.results73 ?_ ?_ ?_ ?_) <;> rfl
set_option maxHeartbeats 4000000 in
set_option maxRecDepth 100000 in
theorem raw_callsB (c : Cx) (b : Nat) (feed : Bool) (hb : b < 256) (hs : Small c.nm) (hn : c.nm.length ≤ 900) (h1 : c.st = 18) (h2 : b = 33) (h3 : c.el = 3) (w : World) (hG : Glob w) : Calls Tryd.prog 73 #[.agg (cxs c), .int .u8 (b : Int), .bool feed] w (Ret bad w) := by
  have hu33 := Tryd.underlying33
  have hz := glob_pos hG
  have HZ := Aside0.mk hz
  have hst := Aside0.mk (st0 c hG)
  obtain ⟨g0, g1, g2, g3, g4, g5, g6, g7, g8, g9⟩ := glob_cells hG
  have HS := Aside0.mk hs
  have HN := Aside0.mk hn
  have HB := Aside0.mk hb
  clear hG hs hn hb
  have a0 : ((c.st : Int) == 18) = true := by rw [beq_iff_eq]; omega
  have a1 : ((b : Int) == 47) = false := by rw [beq_eq_false_iff_ne]; omega
  have a2 : ((b : Int) == 33) = true := by rw [beq_iff_eq]; omega
  have a3 : ((c.el : Int) == 3) = true := by rw [beq_iff_eq]; omega
  clear h1 h2 h3
  simp only [cxs] at hst ⊢
  go_enter Tryd.func73, Tryd.ntmps73
  go_wp2_with (go_at_call 52; (with_reducible refine (nameOf_at c.el ?hn _).mono ?_); (case hn => rfl); rintro e w1 ⟨rfl, rfl⟩)
  (with_reducible refine ret_alloc2 Tryd.results73 ?_ ?_ ?_ ?_) <;> rfl
set_option maxHeartbeats 4000000 in
set_option maxRecDepth 100000 in
theorem raw_callsC (c : Cx) (b : Nat) (feed : Bool) (hb : b < 256) (hs : Small c.nm) (hn : c.nm.length ≤ 900) (h1 : c.st = 19) (h2 : c.nm = nameOf c.el) (h3 : Trail.blank b = true ∨ b = 47 ∨ b = 62) (w : World) (hG : Glob w) : Calls Tryd.prog 73 #[.agg (cxs c), .int .u8 (b : Int), .bool feed] w (Ret (if ends c = false then bad else (Trail.tag attrOf { st := 9, en := true } b).1) w) := by
  have hu33 := Tryd.underlying33
  have hz := glob_pos hG
  have HZ := Aside0.mk hz
  have hst := Aside0.mk (st0 c hG)
  obtain ⟨g0, g1, g2, g3, g4, g5, g6, g7, g8, g9⟩ := glob_cells hG
  have HS := Aside0.mk hs
  have HN := Aside0.mk hn
  have HB := Aside0.mk hb
  clear hG hs hn hb
  have a0 : ((c.st : Int) == 18) = false := by rw [beq_eq_false_iff_ne]; omega
  have a1 : ((c.st : Int) == 19) = true := by rw [beq_iff_eq]; omega
  have a2 : ((bs c.nm).toList == (bs (nameOf c.el)).toList) = true := by rw [h2, beq_self_eq_true]
  obtain ⟨bl, hbl⟩ : ∃ bl, bl = Trail.blank b := ⟨_, rfl⟩
  rw [← hbl] at h3
  have HBL := Aside0.mk hbl
  obtain ⟨en, hen⟩ : ∃ en, en = ends c := ⟨_, rfl⟩
  rw [← hen]
  have HEN := Aside0.mk hen
  clear h1 h2 hbl hen
  have hor : (bl = true) ∨ (bl = false ∧ b = 47) ∨ (bl = false ∧ b ≠ 47 ∧ b = 62) := by
    cases bl with
    | true => exact .inl rfl
    | false =>
      rcases h3 with h | h | h
      · cases h
      · exact .inr (.inl ⟨rfl, h⟩)
      · exact .inr (.inr ⟨rfl, by omega, h⟩)
  clear h3
  rcases hor with rfl | ⟨rfl, hb⟩ | ⟨rfl, hb, hb2⟩
  · simp only [cxs] at hst ⊢
    cases en
    all_goals
      go_enter Tryd.func73, Tryd.ntmps73
      go_wp2_with (first | (go_at_call 52; (with_reducible refine (nameOf_at c.el ?hn _).mono ?_); (case hn => rfl); rintro e w1 ⟨rfl, rfl⟩) | (go_at_call 97; (with_reducible refine (blank_at b ?hn _).mono ?_); (case hn => first | rfl | omega); rintro e w1 ⟨rfl, rfl⟩; rw [← HBL.out]) | (go_at_call 103; (with_reducible refine (ends_at c ?hv _).mono ?_); (case hv => rfl); rintro e w1 ⟨rfl, rfl⟩; rw [← HEN.out]) | (go_at_call 71; (with_reducible refine (tag_at { st := 9, en := true } ?hv b ?hn ?hs ?hl _ (hst.out.alloc _).gl).mono ?_); (case hv => rfl); (case hn => first | rfl | omega); (case hs => intro x hx; cases hx); (case hl => exact Nat.zero_le _); rintro e w1 ⟨rfl, hb⟩; have HS1 := Aside0.mk ((hst.out.alloc _).step hb); clear hb; obtain ⟨⟨y0, y1, y2, y3, y4, y5, y6, y7, y8, y9, yf⟩, ⟨z0, z1, z2, z3, z4, z5, z6, z7, z8, z9, zf⟩, -, ⟨g0, g1, g2, g3, g4, g5, g6, g7, g8, g9⟩, hlt1⟩ := (HS1.out).facts; simp only [cxs]))
      first
        | ((with_reducible refine ret_alloc3 Tryd.results73 ?_ ?_ ?_ ?_) <;> rfl)
        | ((with_reducible refine ret_put1 HS1.out.after Tryd.results73 ?_ ?_ ?_) <;> rfl)
        | fail
  · have e0 : ((b : Int) == 47) = true := by rw [beq_iff_eq]; omega
    clear hb
    simp only [cxs] at hst ⊢
    cases en
    all_goals
      go_enter Tryd.func73, Tryd.ntmps73
      go_wp2_with (first | (go_at_call 52; (with_reducible refine (nameOf_at c.el ?hn _).mono ?_); (case hn => rfl); rintro e w1 ⟨rfl, rfl⟩) | (go_at_call 97; (with_reducible refine (blank_at b ?hn _).mono ?_); (case hn => first | rfl | omega); rintro e w1 ⟨rfl, rfl⟩; rw [← HBL.out]) | (go_at_call 103; (with_reducible refine (ends_at c ?hv _).mono ?_); (case hv => rfl); rintro e w1 ⟨rfl, rfl⟩; rw [← HEN.out]) | (go_at_call 71; (with_reducible refine (tag_at { st := 9, en := true } ?hv b ?hn ?hs ?hl _ (hst.out.alloc _).gl).mono ?_); (case hv => rfl); (case hn => first | rfl | omega); (case hs => intro x hx; cases hx); (case hl => exact Nat.zero_le _); rintro e w1 ⟨rfl, hb⟩; have HS1 := Aside0.mk ((hst.out.alloc _).step hb); clear hb; obtain ⟨⟨y0, y1, y2, y3, y4, y5, y6, y7, y8, y9, yf⟩, ⟨z0, z1, z2, z3, z4, z5, z6, z7, z8, z9, zf⟩, -, ⟨g0, g1, g2, g3, g4, g5, g6, g7, g8, g9⟩, hlt1⟩ := (HS1.out).facts; simp only [cxs]))
      first
        | ((with_reducible refine ret_alloc3 Tryd.results73 ?_ ?_ ?_ ?_) <;> rfl)
        | ((with_reducible refine ret_put1 HS1.out.after Tryd.results73 ?_ ?_ ?_) <;> rfl)
        | fail
  · have e0 : ((b : Int) == 47) = false := by rw [beq_eq_false_iff_ne]; omega
    have e1 : ((b : Int) == 62) = true := by rw [beq_iff_eq]; omega
    clear hb hb2
    simp only [cxs] at hst ⊢
    cases en
    all_goals
      go_enter Tryd.func73, Tryd.ntmps73
      go_wp2_with (first | (go_at_call 52; (with_reducible refine (nameOf_at c.el ?hn _).mono ?_); (case hn => rfl); rintro e w1 ⟨rfl, rfl⟩) | (go_at_call 97; (with_reducible refine (blank_at b ?hn _).mono ?_); (case hn => first | rfl | omega); rintro e w1 ⟨rfl, rfl⟩; rw [← HBL.out]) | (go_at_call 103; (with_reducible refine (ends_at c ?hv _).mono ?_); (case hv => rfl); rintro e w1 ⟨rfl, rfl⟩; rw [← HEN.out]) | (go_at_call 71; (with_reducible refine (tag_at { st := 9, en := true } ?hv b ?hn ?hs ?hl _ (hst.out.alloc _).gl).mono ?_); (case hv => rfl); (case hn => first | rfl | omega); (case hs => intro x hx; cases hx); (case hl => exact Nat.zero_le _); rintro e w1 ⟨rfl, hb⟩; have HS1 := Aside0.mk ((hst.out.alloc _).step hb); clear hb; obtain ⟨⟨y0, y1, y2, y3, y4, y5, y6, y7, y8, y9, yf⟩, ⟨z0, z1, z2, z3, z4, z5, z6, z7, z8, z9, zf⟩, -, ⟨g0, g1, g2, g3, g4, g5, g6, g7, g8, g9⟩, hlt1⟩ := (HS1.out).facts; simp only [cxs]))
      first
        | ((with_reducible refine ret_alloc3 Tryd.results73 ?_ ?_ ?_ ?_) <;> rfl)
        | ((with_reducible refine ret_put1 HS1.out.after Tryd.results73 ?_ ?_ ?_) <;> rfl)
        | fail
theorem ret_alloc4 {fn : Func} {a : Act} {w : World} {p : Tmp} {c : Cx} {A O P : Obj} {cs : Array Value} (h : fn.results = #[.cell p 33]) (hd : a.defers = []) (hp : a.tmps.getD p undef = .pointer (some ⟨w.heap.size + 1, 0, none⟩)) (hs : cs.size = 10) (hc : cs = cxs c) :
    bodyPost Tryd.prog fn (Ret c w) .ret a ((((w.alloc A).alloc (.cells cs 33)).alloc O).alloc P).drew.drew := ret_ctx (w.heap.size + 1) h hd hp ((alloc_old (by simp)).trans ((alloc_old (by simp)).trans (alloc_at (by simp)))) hs (ret_ctx' hc (Below.drew (Below.drew (((((Below.refl _ _).alloc (Nat.le_refl _) _).alloc (by simp) _).alloc (by simp; omega) _).alloc (by simp; omega) _))))
theorem small_app {l : List Nat} {b : Nat} (h : Small l) (hb : b < 256) : Small (l ++ [small b]) := by
  intro x hx
  rcases List.mem_append.1 hx with hx | hx
  · exact h x hx
  · obtain rfl := List.mem_singleton.1 hx
    unfold small
    split <;> omega
end Go.Proofs.YtfplocpjdjjoaaaDoor.Ctxs
