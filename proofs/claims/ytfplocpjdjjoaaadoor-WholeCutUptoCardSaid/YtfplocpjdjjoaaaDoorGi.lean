/-
  The text of an element of its own, as a plain function of the context; a step of any context.
  A step of any context.
  Conditions: as each theorem says.
-/
import Derived.Test.YtfplocpjdjjoaaaDoorGx
import Derived.Test.YtfplocpjdjjoaaaDoorGo
import Derived.Test.YtfplocpjdjjoaaaDoorGp
import Derived.Test.YtfplocpjdjjoaaaDoorGq
import Derived.Test.YtfplocpjdjjoaaaDoorGr
import Derived.Test.YtfplocpjdjjoaaaDoorGa
import Derived.Deep.LoopGhost
import Derived.WalkMore
namespace Go.Proofs.YtfplocpjdjjoaaaDoor.Ctxs
open Go Go.RowKit Go.Proofs.YtfplocpjdjjoaaaDoor.Trail Go.Proofs.YtfplocpjdjjoaaaDoorW.PrintWords
set_option linter.unusedVariables false
set_option linter.unusedSimpArgs false
theorem raw_calls (c : Cx) (b : Nat) (feed : Bool) (hb : b < 256) (hs : Small c.nm) (hn : c.nm.length ≤ 900) (h20 : c.st ≠ 20) (w : World) (hG : Glob w) : Calls Tryd.prog 73 #[.agg (cxs c), .int .u8 (b : Int), .bool feed] w (Ret (Trail.raw c b feed) w) := by
  rw [raw_eq]
  by_cases h1 : c.st = 18 ∧ b = 47
  · rw [if_pos h1]; exact raw_callsA c b feed hb hs hn h1.1 h1.2 w hG
  rw [if_neg h1]
  by_cases h2 : c.st = 18 ∧ b = 33 ∧ c.el = 3
  · rw [if_pos h2]; exact raw_callsB c b feed hb hs hn h2.1 h2.2.1 h2.2.2 w hG
  rw [if_neg h2]
  by_cases h3 : c.st = 19 ∧ c.nm = nameOf c.el ∧ (Trail.blank b = true ∨ b = 47 ∨ b = 62)
  · rw [if_pos h3]; exact raw_callsC c b feed hb hs hn h3.1 h3.2.1 h3.2.2 w hG
  rw [if_neg h3]
  by_cases h19 : c.st = 19
  · have hno : c.nm ≠ nameOf c.el ∨ (c.nm = nameOf c.el ∧ Trail.blank b = false ∧ b ≠ 47 ∧ b ≠ 62) := by
      by_cases hn : c.nm = nameOf c.el
      · right
        refine ⟨hn, ?_, fun q => h3 ⟨h19, hn, .inr (.inl q)⟩, fun q => h3 ⟨h19, hn, .inr (.inr q)⟩⟩
        cases hb : Trail.blank b with
        | false => rfl
        | true => exact absurd ⟨h19, hn, .inl hb⟩ h3
      · exact .inl hn
    by_cases h4 : c.st = 19 ∧ (c.nm ++ [small b]).isPrefixOf (nameOf c.el) = true
    · rw [if_pos h4]
      have hne : c.nm ≠ nameOf c.el := by
        intro e
        have := (List.isPrefixOf_iff_prefix.1 h4.2).length_le
        rw [e] at this
        simp at this
        omega
      exact raw_callsD c b feed hb hs hn h19 hne h4.2 w hG
    · rw [if_neg h4, if_pos h19]
      have hp : (c.nm ++ [small b]).isPrefixOf (nameOf c.el) = false := Bool.eq_false_iff.2 fun q => h4 ⟨h19, q⟩
      by_cases h5 : (Trail.fed c (47 :: c.nm) feed).st = 20
      · rw [if_pos h5]; exact raw_callsE0 c b feed hb hs hn h19 hno hp h5 w hG
      · rw [if_neg h5]
        rcases three (Trail.fed (Trail.fed c (47 :: c.nm) feed) [b] feed).st b with ⟨hD, hQ⟩ | ⟨hD, hQ⟩ | hD
        · exact raw_callsE1 c b feed hb hs hn h19 hno hp h5 hD hQ w hG
        · exact raw_callsE2 c b feed hb hs hn h19 hno hp h5 hD hQ w hG
        · exact raw_callsE3 c b feed hb hs hn h19 hno hp h5 hD w hG
  · rw [if_neg (fun q => h19 q.1), if_neg h19]
    refine raw_callsF c b feed hb hs hn h20 h19 ?_ w hG
    by_cases h18 : c.st = 18
    · by_cases b33 : b = 33
      · exact .inr (.inr ⟨h18, b33, fun q => h2 ⟨h18, b33, q⟩⟩)
      · exact .inr (.inl ⟨h18, fun q => h1 ⟨h18, q⟩, b33⟩)
    · exact .inl h18
end Go.Proofs.YtfplocpjdjjoaaaDoor.Ctxs
namespace Go.Proofs.YtfplocpjdjjoaaaDoor.Ctxs
open Go Go.RowKit Go.Proofs.YtfplocpjdjjoaaaDoor.Trail Go.Proofs.YtfplocpjdjjoaaaDoorW.PrintWords
set_option linter.unusedVariables false
set_option linter.unusedSimpArgs false
theorem form_at {v : Array Value} (c : Cx) (hv : v = cxs c) (hi : Inv c) (hl : Low c.nm) (w : World) : Calls Tryd.prog 9 #[.agg v] w fun e w' => e = .returned (.bool true) ∧ Below w.heap.size w w' := hv ▸ form_ok c hi hl w
theorem states (s : Nat) (h : s ≠ 20) (ht : s ≤ 20) : s = 0 ∨ s = 1 ∨ s = 2 ∨ s = 3 ∨ s = 4 ∨ s = 5 ∨ s = 6 ∨ s = 7 ∨ s = 9 ∨ s = 10 ∨ s = 8 ∨ s = 17 ∨ s = 18 ∨ s = 19 ∨ (11 ≤ s ∧ s ≤ 16) := by omega
theorem opened_at {n : Int} (b : Nat) (hn : n = (b : Int)) (w : World) : Calls Tryd.prog 69 #[.int .u8 n] w (RetB (openedB b) w) := hn ▸ opened_calls b w
theorem closed_at {n : Int} (b : Nat) (hn : n = (b : Int)) (w : World) : Calls Tryd.prog 70 #[.int .u8 n] w (Ret (Trail.closed b) w) := hn ▸ closed_calls b w
theorem value_at {v : Array Value} {n : Int} (c : Cx) (hv : v = cxs c) (b : Nat) (hb : n = (b : Int)) (hb2 : b < 256) (hs : Small c.nm) (hn : c.nm.length ≤ 1000) (w : World) (hG : Glob w) : Calls Tryd.prog 72 #[.agg v, .int .u8 n] w (Ret (Trail.value c b) w) := hv ▸ hb ▸ value_calls c b hb2 hs hn w hG
theorem raw_at {v : Array Value} {n : Int} (c : Cx) (hv : v = cxs c) (b : Nat) (hb : n = (b : Int)) (feed : Bool) (hb2 : b < 256) (hs : Small c.nm) (hn : c.nm.length ≤ 900) (h20 : c.st ≠ 20) (w : World) (hG : Glob w) : Calls Tryd.prog 73 #[.agg v, .int .u8 n, .bool feed] w (Ret (Trail.raw c b feed) w) := hv ▸ hb ▸ raw_calls c b feed hb2 hs hn h20 w hG
theorem note_at {v : Array Value} {n : Int} (c : Cx) (hv : v = cxs c) (b : Nat) (hb : n = (b : Int)) (hd : c.da ≤ 2) (w : World) (hG : Glob w) : Calls Tryd.prog 74 #[.agg v, .int .u8 n] w (Ret (Trail.note c b) w) := hv ▸ hb ▸ note_calls c b hd w hG
theorem opened_some {b : Nat} {f : Cx} (h : (openedB b).2 = true) : (match Trail.opened b with | some x => x | none => f) = (openedB b).1 := by
  rw [openedB_eq] at h ⊢
  cases ho : Trail.opened b with
  | some x => rfl
  | none => rw [ho] at h; cases h
theorem Trail.move_one {f : List Nat → Nat} {feed : Bool} {d : Cx} {b : Nat} (h1 : d.st = 1) (h : (openedB b).2 = false) : Trail.move f feed 2 d b = Trail.move f feed 1 { d with st := 0 } b := by
  rw [openedB_eq] at h
  rw [Trail.move, if_neg (by rw [h1]; decide), if_pos h1]
  cases ho : Trail.opened b with
  | some x => rw [ho] at h; cases h
  | none => rfl
theorem Trail.move_raw {f : List Nat → Nat} {feed : Bool} {k : Nat} {d : Cx} {b : Nat} (h : 17 ≤ d.st ∧ d.st ≤ 19) : Trail.move f feed (k + 1) d b = Trail.raw d b feed := by
  rw [Trail.move, if_neg (by omega), if_neg (by omega), if_neg (by omega), if_neg (by omega), if_neg (by omega), if_pos h]
theorem Trail.move_note {f : List Nat → Nat} {feed : Bool} {k : Nat} {d : Cx} {b : Nat} (h : 11 ≤ d.st ∧ d.st ≤ 16) : Trail.move f feed (k + 1) d b = Trail.note d b := by
  rw [Trail.move, if_neg (by omega), if_neg (by omega), if_neg (by omega), if_neg (by omega), if_neg (by omega), if_neg (by omega)]
theorem tag_ok {d : Cx} {b : Nat} (hs : 3 ≤ d.st ∧ d.st ≤ 10 ∧ d.st ≠ 8) (h : (Trail.tag attrOf d b).2 = true) (hk : Ok d) (hm : Small d.nm) : Ok (Trail.tag attrOf d b).1 ∧ Small (Trail.tag attrOf d b).1.nm := by
  obtain ⟨-, h1, h2, h3⟩ := tag_rank attrOf d b hs h
  refine ⟨⟨?_, ?_, by omega⟩, ?_⟩
  · rcases h1 with h1 | h1
    · rw [h1]; exact Nat.zero_le _
    · rw [h1]; exact hk.nm
  · rcases h2 with h2 | h2
    · omega
    · rw [h2]; exact hk.da
  · rcases h1 with h1 | h1
    · rw [h1]; intro x hx; cases hx
    · rw [h1]; exact hm
theorem tag_more {feed : Bool} {d : Cx} {b : Nat} (hs : 3 ≤ d.st ∧ d.st ≤ 10 ∧ d.st ≠ 8) (h : (Trail.tag attrOf d b).2 = true) : Trail.move attrOf feed (rank (Trail.tag attrOf d b).1.st + 1) (Trail.tag attrOf d b).1 b = Trail.move attrOf feed (rank d.st + 1) d b := by
  have hr := (tag_rank attrOf d b hs h).1
  rw [move_tag _ _ _ _ _ hs, if_pos h]
  exact move_fuel attrOf feed (rank (Trail.tag attrOf d b).1.st) _ b _ _ (Nat.le_refl _) (by omega) (by omega)
theorem nameOf_len (k : Nat) : (nameOf k).length ≤ 8 := by
  unfold nameOf
  split <;> simp
theorem inv_ok {c : Cx} (h : Inv c) : c.nm.length ≤ 900 ∧ c.da ≤ 2 ∧ c.st ≠ 20 := by
  have ht := h.top
  have : (c.st = 0 ∨ c.st = 1 ∨ c.st = 2 ∨ c.st = 11 ∨ c.st = 12 ∨ c.st = 13 ∨ c.st = 14 ∨ c.st = 16) ∨ c.st = 3 ∨ (c.st = 4 ∨ c.st = 9 ∨ c.st = 10) ∨ (c.st = 5 ∨ c.st = 6) ∨ c.st = 7 ∨ c.st = 8 ∨ c.st = 15 ∨ (c.st = 17 ∨ c.st = 18 ∨ c.st = 19) := by omega
  refine ⟨?_, ?_, by omega⟩
  · rcases this with e | e | e | e | e | e | e | e
    · rw [h.flat e]; exact Nat.zero_le _
    · have := (h.tagName e).2.2; omega
    · rw [h.inTag e]; exact Nat.zero_le _
    · have := (h.attrName e).2.2; omega
    · rw [(h.behindEq e).1]; exact Nat.zero_le _
    · obtain ⟨h1, h2, h3, h5, h6, h7, h8, h9, h10, h11, h12, h13, h14⟩ := h.val e
      by_cases p : c.pa = 1
      · have := (h14 p).2; omega
      · rw [h13 p]; exact Nat.zero_le _
    · rw [(h.comment e).1]; exact Nat.zero_le _
    · obtain ⟨h1, h2, h3, h5, h6, h7, h8, h9, k, hk, hnm⟩ := h.inRaw e
      have := nameOf_len c.el
      rw [hnm, List.length_take]
      omega
  · rcases this with e | e | e | e | e | e | e | e
    · rw [h.flat e]; exact Nat.zero_le _
    · rw [(h.tagName e).1]; exact Nat.zero_le _
    · rw [h.inTag e]; exact Nat.zero_le _
    · rw [(h.attrName e).1]; exact Nat.zero_le _
    · rw [(h.behindEq e).1]; exact Nat.zero_le _
    · rw [(h.val e).1]; exact Nat.zero_le _
    · exact (h.comment e).2
    · rw [(h.inRaw e).1]; exact Nat.zero_le _
set_option maxHeartbeats 4000000 in
set_option maxRecDepth 100000 in
theorem move_calls (c : Cx) (b : Nat) (feed : Bool) (hi : Inv c) (hl : Low c.nm) (hb : b < 256) (w : World) (hG : Glob w) : Calls Tryd.prog 54 #[.agg (cxs c), .int .u8 (b : Int), .bool feed] w (Ret (Trail.move attrOf feed 8 c b) w) := by
  have hu33 := Tryd.underlying33
  have hz := glob_pos hG
  have HZ := Aside0.mk hz
  have hst := Aside0.mk (st0 c hG)
  have HI := Aside0.mk hi
  have HL := Aside0.mk hl
  have HB := Aside0.mk hb
  obtain ⟨hlen, hda, hne⟩ := inv_ok hi
  have HLEN := Aside0.mk hlen
  have HDA := Aside0.mk hda
  have HTP := Aside0.mk (Nat.le_trans hi.top (by omega : 19 ≤ 20))
  have HST := Aside0.mk hne
  clear hG hi hl hb hlen hda hne
  simp only [cxs] at hst ⊢
  go_enter Tryd.func54, Tryd.ntmps54
  go_wp2
  go_step3
  go_wp2_with (go_at_call 9; (with_reducible refine (form_at c ?hv HI.out HL.out _).mono ?_); (case hv => rfl); rintro e w1 ⟨rfl, hb⟩; have HS1 := Aside0.mk (hst.out.step hb); clear hb; obtain ⟨⟨y0, y1, y2, y3, y4, y5, y6, y7, y8, y9, yf⟩, ⟨z0, z1, z2, z3, z4, z5, z6, z7, z8, z9, zf⟩, -, ⟨g0, g1, g2, g3, g4, g5, g6, g7, g8, g9⟩, hlt1⟩ := (HS1.out).facts)
  go_step3
  have hr0 : Trail.move attrOf feed (rank c.st + 1) c b = Trail.move attrOf feed 8 c b := move_fuel attrOf feed (rank c.st) c b _ _ (Nat.le_refl _) (by omega) (by have := rank_le c.st; omega)
  have HR0 := Aside0.mk hr0
  clear hr0
  go_wp2
  go_loopg [16] (rank c.st) (fun g s16 wr => ∃ d : Cx, g = rank d.st ∧ d.st ≤ 20 ∧ Ok d ∧ Small d.nm ∧ Trail.move attrOf feed (rank d.st + 1) d b = Trail.move attrOf feed 8 c b ∧ St w wr d)
  case atStart => exact ⟨c, rfl, HTP.out, ⟨HLEN.out, HDA.out, HST.out⟩, HL.out.small, HR0.out, HS1.out⟩
  case round =>
    obtain ⟨d, rfl, htop, hok, hsm, hmv, hS⟩ := hrel
    have HOK := Aside0.mk hok
    have HTOP := Aside0.mk htop
    clear htop
    have HSM := Aside0.mk hsm
    have HMV := Aside0.mk hmv
    have HS := Aside0.mk hS
    obtain ⟨⟨Y0, Y1, Y2, Y3, Y4, Y5, Y6, Y7, Y8, Y9, Yf⟩, ⟨Z0, Z1, Z2, Z3, Z4, Z5, Z6, Z7, Z8, Z9, Zf⟩, -, ⟨G0, G1, G2, G3, G4, G5, G6, G7, G8, G9⟩, hlt2⟩ := (hS).facts
    clear hok hsm hmv hS
    rcases states d.st HOK.out.st HTOP.out with e | e | e | e | e | e | e | e | e | e | e | e | e | e | e
    · have f0 : ((d.st : Int) == 0) = true := by rw [beq_iff_eq]; omega
      by_cases hq : b = 60
      · have q0 : ((b : Int) == 60) = true := by rw [beq_iff_eq]; omega
        have HQ := Aside0.mk hq
        clear hq
        have E := Aside0.mk e
        clear e
        go_wp2
        have hE : Trail.move attrOf feed 8 c b = { d with st := 1 } := by
          rw [← HMV.out, Trail.move]
          rw [if_pos E.out, if_pos HQ.out]
        rw [hE]
        (try rw [Exit.noGoto_ret])
        (with_reducible refine ret_put (V := _) ?_ Tryd.results54 ?_ ?_ ?_)
        rotate_left
        · rfl
        · rfl
        · rfl
        · exact St.after (St.set (c' := { d with st := 1 }) HS.out HZ.out 0 _ rfl)
      · have q0 : ((b : Int) == 60) = false := by rw [beq_eq_false_iff_ne]; omega
        have HQ := Aside0.mk hq
        clear hq
        have E := Aside0.mk e
        clear e
        go_wp2
        have hE : Trail.move attrOf feed 8 c b = d := by
          rw [← HMV.out, Trail.move]
          rw [if_pos E.out, if_neg HQ.out]
        rw [hE]
        (try rw [Exit.noGoto_ret])
        (with_reducible refine ret_put (V := _) ?_ Tryd.results54 ?_ ?_ ?_)
        rotate_left
        · rfl
        · rfl
        · rfl
        · exact HS.out.after
    · have f0 : ((d.st : Int) == 0) = false := by rw [beq_eq_false_iff_ne]; omega
      have f1 : ((d.st : Int) == 1) = true := by rw [beq_iff_eq]; omega
      cases hq : (openedB b).2 with
      | true =>
        have HQ := Aside0.mk hq
        have E := Aside0.mk e
        clear e
        go_wp2_with (go_at_call 69; (with_reducible refine (opened_at b ?hn _).mono ?_); (case hn => first | rfl | omega); rintro e w1 ⟨rfl, hb⟩; have HS1 := Aside0.mk (HS.out.step hb); clear hb; obtain ⟨⟨y0, y1, y2, y3, y4, y5, y6, y7, y8, y9, yf⟩, ⟨z0, z1, z2, z3, z4, z5, z6, z7, z8, z9, zf⟩, -, ⟨g0, g1, g2, g3, g4, g5, g6, g7, g8, g9⟩, hlt1⟩ := (HS1.out).facts; have hl0 : w.heap.size < w1.heap.size := (by omega); simp only [cxs])
        have hE : Trail.move attrOf feed 8 c b = (openedB b).1 := by
          rw [← HMV.out, Trail.move]
          rw [if_neg (by rw [E.out]; decide), if_pos E.out]
          exact opened_some HQ.out
        rw [hE]
        (try rw [Exit.noGoto_ret])
        (with_reducible refine ret_put1 (V := _) ?_ Tryd.results54 ?_ ?_ ?_)
        rotate_left
        · rfl
        · rfl
        · rfl
        · exact HS1.out.after
      | false =>
        have HQ := Aside0.mk hq
        have E := Aside0.mk e
        clear e
        go_wp2_with (go_at_call 69; (with_reducible refine (opened_at b ?hn _).mono ?_); (case hn => first | rfl | omega); rintro e w1 ⟨rfl, hb⟩; have HS1 := Aside0.mk (HS.out.step hb); clear hb; obtain ⟨⟨y0, y1, y2, y3, y4, y5, y6, y7, y8, y9, yf⟩, ⟨z0, z1, z2, z3, z4, z5, z6, z7, z8, z9, zf⟩, -, ⟨g0, g1, g2, g3, g4, g5, g6, g7, g8, g9⟩, hlt1⟩ := (HS1.out).facts; have hl0 : w.heap.size < w1.heap.size := (by omega); simp only [cxs])
        go_roundg 0
        case measure => rw [E.out]; decide
        case rel =>
          refine ⟨{ d with st := 0 }, rfl, by show (0 : Nat) ≤ 20; omega, ⟨HOK.out.nm, HOK.out.da, by show (0 : Nat) ≠ 20; omega⟩, HSM.out, ?_, (St.set (c' := { d with st := 0 }) HS1.out HZ.out 0 _ rfl).alloc _⟩
          rw [← HMV.out, E.out]
          show Trail.move attrOf feed 1 _ b = Trail.move attrOf feed 2 d b
          rw [Trail.move_one E.out HQ.out]
    · have f0 : ((d.st : Int) == 0) = false := by rw [beq_eq_false_iff_ne]; omega
      have f1 : ((d.st : Int) == 1) = false := by rw [beq_eq_false_iff_ne]; omega
      have f2 : ((d.st : Int) == 2) = true := by rw [beq_iff_eq]; omega
      have E := Aside0.mk e
      clear e
      go_wp2_with (go_at_call 70; (with_reducible refine (closed_at b ?hn _).mono ?_); (case hn => first | rfl | omega); rintro e w1 ⟨rfl, hb⟩; have HS1 := Aside0.mk (HS.out.step hb); clear hb; obtain ⟨⟨y0, y1, y2, y3, y4, y5, y6, y7, y8, y9, yf⟩, ⟨z0, z1, z2, z3, z4, z5, z6, z7, z8, z9, zf⟩, -, ⟨g0, g1, g2, g3, g4, g5, g6, g7, g8, g9⟩, hlt1⟩ := (HS1.out).facts; have hl0 : w.heap.size < w1.heap.size := (by omega); simp only [cxs])
      have hE : Trail.move attrOf feed 8 c b = Trail.closed b := by
        rw [← HMV.out, Trail.move]
        rw [if_neg (by rw [E.out]; decide), if_neg (by rw [E.out]; decide), if_pos E.out]
      rw [hE]
      (try rw [Exit.noGoto_ret])
      (with_reducible refine ret_put (V := _) ?_ Tryd.results54 ?_ ?_ ?_)
      rotate_left
      · rfl
      · rfl
      · rfl
      · exact HS1.out.after
    · have f0 : ((d.st : Int) == 0) = false := by rw [beq_eq_false_iff_ne]; omega
      have f1 : ((d.st : Int) == 1) = false := by rw [beq_eq_false_iff_ne]; omega
      have f2 : ((d.st : Int) == 2) = false := by rw [beq_eq_false_iff_ne]; omega
      have f3 : ((d.st : Int) == 3) = true := by rw [beq_iff_eq]; omega
      have ht : 3 ≤ d.st ∧ d.st ≤ 10 ∧ d.st ≠ 8 := by omega
      cases hq : (Trail.tag attrOf d b).2 with
      | true =>
        have HQ := Aside0.mk hq
        have E := Aside0.mk e
        clear e
        have HT := Aside0.mk ht
        clear ht
        go_wp2_with (go_at_call 71; (with_reducible refine (tag_at d ?hv b ?hn HSM.out ?hl _ HS.out.gl).mono ?_); (case hv => rfl); (case hn => first | rfl | omega); (case hl => have := HOK.out.nm; omega); rintro e w1 ⟨rfl, hb⟩; have HS1 := Aside0.mk (HS.out.step hb); clear hb; obtain ⟨⟨y0, y1, y2, y3, y4, y5, y6, y7, y8, y9, yf⟩, ⟨z0, z1, z2, z3, z4, z5, z6, z7, z8, z9, zf⟩, -, ⟨g0, g1, g2, g3, g4, g5, g6, g7, g8, g9⟩, hlt1⟩ := (HS1.out).facts; have hl0 : w.heap.size < w1.heap.size := (by omega); simp only [cxs])
        go_roundg (rank (Trail.tag attrOf d b).1.st)
        case measure => exact (tag_rank attrOf d b HT.out HQ.out).1
        case rel => exact ⟨(Trail.tag attrOf d b).1, rfl, by have := (tag_rank attrOf d b HT.out HQ.out).2.2.2; omega, (tag_ok HT.out HQ.out HOK.out HSM.out).1, (tag_ok HT.out HQ.out HOK.out HSM.out).2, (tag_more HT.out HQ.out).trans HMV.out, (St.put (c' := (Trail.tag attrOf d b).1) HS1.out HZ.out rfl).alloc _⟩
      | false =>
        have HQ := Aside0.mk hq
        have E := Aside0.mk e
        clear e
        have HT := Aside0.mk ht
        clear ht
        go_wp2_with (go_at_call 71; (with_reducible refine (tag_at d ?hv b ?hn HSM.out ?hl _ HS.out.gl).mono ?_); (case hv => rfl); (case hn => first | rfl | omega); (case hl => have := HOK.out.nm; omega); rintro e w1 ⟨rfl, hb⟩; have HS1 := Aside0.mk (HS.out.step hb); clear hb; obtain ⟨⟨y0, y1, y2, y3, y4, y5, y6, y7, y8, y9, yf⟩, ⟨z0, z1, z2, z3, z4, z5, z6, z7, z8, z9, zf⟩, -, ⟨g0, g1, g2, g3, g4, g5, g6, g7, g8, g9⟩, hlt1⟩ := (HS1.out).facts; have hl0 : w.heap.size < w1.heap.size := (by omega); simp only [cxs])
        have hE : Trail.move attrOf feed 8 c b = (Trail.tag attrOf d b).1 := by rw [← HMV.out, move_tag _ _ _ _ _ HT.out, HQ.out]; rfl
        rw [hE]
        (try rw [Exit.noGoto_ret])
        (with_reducible refine ret_put1 (V := _) ?_ Tryd.results54 ?_ ?_ ?_)
        rotate_left
        · rfl
        · rfl
        · rfl
        · exact HS1.out.after
    · have f0 : ((d.st : Int) == 0) = false := by rw [beq_eq_false_iff_ne]; omega
      have f1 : ((d.st : Int) == 1) = false := by rw [beq_eq_false_iff_ne]; omega
      have f2 : ((d.st : Int) == 2) = false := by rw [beq_eq_false_iff_ne]; omega
      have f3 : ((d.st : Int) == 3) = false := by rw [beq_eq_false_iff_ne]; omega
      have f4 : ((d.st : Int) == 4) = true := by rw [beq_iff_eq]; omega
      have ht : 3 ≤ d.st ∧ d.st ≤ 10 ∧ d.st ≠ 8 := by omega
      cases hq : (Trail.tag attrOf d b).2 with
      | true =>
        have HQ := Aside0.mk hq
        have E := Aside0.mk e
        clear e
        have HT := Aside0.mk ht
        clear ht
        go_wp2_with (go_at_call 71; (with_reducible refine (tag_at d ?hv b ?hn HSM.out ?hl _ HS.out.gl).mono ?_); (case hv => rfl); (case hn => first | rfl | omega); (case hl => have := HOK.out.nm; omega); rintro e w1 ⟨rfl, hb⟩; have HS1 := Aside0.mk (HS.out.step hb); clear hb; obtain ⟨⟨y0, y1, y2, y3, y4, y5, y6, y7, y8, y9, yf⟩, ⟨z0, z1, z2, z3, z4, z5, z6, z7, z8, z9, zf⟩, -, ⟨g0, g1, g2, g3, g4, g5, g6, g7, g8, g9⟩, hlt1⟩ := (HS1.out).facts; have hl0 : w.heap.size < w1.heap.size := (by omega); simp only [cxs])
        go_roundg (rank (Trail.tag attrOf d b).1.st)
        case measure => exact (tag_rank attrOf d b HT.out HQ.out).1
        case rel => exact ⟨(Trail.tag attrOf d b).1, rfl, by have := (tag_rank attrOf d b HT.out HQ.out).2.2.2; omega, (tag_ok HT.out HQ.out HOK.out HSM.out).1, (tag_ok HT.out HQ.out HOK.out HSM.out).2, (tag_more HT.out HQ.out).trans HMV.out, (St.put (c' := (Trail.tag attrOf d b).1) HS1.out HZ.out rfl).alloc _⟩
      | false =>
        have HQ := Aside0.mk hq
        have E := Aside0.mk e
        clear e
        have HT := Aside0.mk ht
        clear ht
        go_wp2_with (go_at_call 71; (with_reducible refine (tag_at d ?hv b ?hn HSM.out ?hl _ HS.out.gl).mono ?_); (case hv => rfl); (case hn => first | rfl | omega); (case hl => have := HOK.out.nm; omega); rintro e w1 ⟨rfl, hb⟩; have HS1 := Aside0.mk (HS.out.step hb); clear hb; obtain ⟨⟨y0, y1, y2, y3, y4, y5, y6, y7, y8, y9, yf⟩, ⟨z0, z1, z2, z3, z4, z5, z6, z7, z8, z9, zf⟩, -, ⟨g0, g1, g2, g3, g4, g5, g6, g7, g8, g9⟩, hlt1⟩ := (HS1.out).facts; have hl0 : w.heap.size < w1.heap.size := (by omega); simp only [cxs])
        have hE : Trail.move attrOf feed 8 c b = (Trail.tag attrOf d b).1 := by rw [← HMV.out, move_tag _ _ _ _ _ HT.out, HQ.out]; rfl
        rw [hE]
        (try rw [Exit.noGoto_ret])
        (with_reducible refine ret_put1 (V := _) ?_ Tryd.results54 ?_ ?_ ?_)
        rotate_left
        · rfl
        · rfl
        · rfl
        · exact HS1.out.after
    · have f0 : ((d.st : Int) == 0) = false := by rw [beq_eq_false_iff_ne]; omega
      have f1 : ((d.st : Int) == 1) = false := by rw [beq_eq_false_iff_ne]; omega
      have f2 : ((d.st : Int) == 2) = false := by rw [beq_eq_false_iff_ne]; omega
      have f3 : ((d.st : Int) == 3) = false := by rw [beq_eq_false_iff_ne]; omega
      have f4 : ((d.st : Int) == 4) = false := by rw [beq_eq_false_iff_ne]; omega
      have f5 : ((d.st : Int) == 5) = true := by rw [beq_iff_eq]; omega
      have ht : 3 ≤ d.st ∧ d.st ≤ 10 ∧ d.st ≠ 8 := by omega
      cases hq : (Trail.tag attrOf d b).2 with
      | true =>
        have HQ := Aside0.mk hq
        have E := Aside0.mk e
        clear e
        have HT := Aside0.mk ht
        clear ht
        go_wp2_with (go_at_call 71; (with_reducible refine (tag_at d ?hv b ?hn HSM.out ?hl _ HS.out.gl).mono ?_); (case hv => rfl); (case hn => first | rfl | omega); (case hl => have := HOK.out.nm; omega); rintro e w1 ⟨rfl, hb⟩; have HS1 := Aside0.mk (HS.out.step hb); clear hb; obtain ⟨⟨y0, y1, y2, y3, y4, y5, y6, y7, y8, y9, yf⟩, ⟨z0, z1, z2, z3, z4, z5, z6, z7, z8, z9, zf⟩, -, ⟨g0, g1, g2, g3, g4, g5, g6, g7, g8, g9⟩, hlt1⟩ := (HS1.out).facts; have hl0 : w.heap.size < w1.heap.size := (by omega); simp only [cxs])
        go_roundg (rank (Trail.tag attrOf d b).1.st)
        case measure => exact (tag_rank attrOf d b HT.out HQ.out).1
        case rel => exact ⟨(Trail.tag attrOf d b).1, rfl, by have := (tag_rank attrOf d b HT.out HQ.out).2.2.2; omega, (tag_ok HT.out HQ.out HOK.out HSM.out).1, (tag_ok HT.out HQ.out HOK.out HSM.out).2, (tag_more HT.out HQ.out).trans HMV.out, (St.put (c' := (Trail.tag attrOf d b).1) HS1.out HZ.out rfl).alloc _⟩
      | false =>
        have HQ := Aside0.mk hq
        have E := Aside0.mk e
        clear e
        have HT := Aside0.mk ht
        clear ht
        go_wp2_with (go_at_call 71; (with_reducible refine (tag_at d ?hv b ?hn HSM.out ?hl _ HS.out.gl).mono ?_); (case hv => rfl); (case hn => first | rfl | omega); (case hl => have := HOK.out.nm; omega); rintro e w1 ⟨rfl, hb⟩; have HS1 := Aside0.mk (HS.out.step hb); clear hb; obtain ⟨⟨y0, y1, y2, y3, y4, y5, y6, y7, y8, y9, yf⟩, ⟨z0, z1, z2, z3, z4, z5, z6, z7, z8, z9, zf⟩, -, ⟨g0, g1, g2, g3, g4, g5, g6, g7, g8, g9⟩, hlt1⟩ := (HS1.out).facts; have hl0 : w.heap.size < w1.heap.size := (by omega); simp only [cxs])
        have hE : Trail.move attrOf feed 8 c b = (Trail.tag attrOf d b).1 := by rw [← HMV.out, move_tag _ _ _ _ _ HT.out, HQ.out]; rfl
        rw [hE]
        (try rw [Exit.noGoto_ret])
        (with_reducible refine ret_put1 (V := _) ?_ Tryd.results54 ?_ ?_ ?_)
        rotate_left
        · rfl
        · rfl
        · rfl
        · exact HS1.out.after
    · have f0 : ((d.st : Int) == 0) = false := by rw [beq_eq_false_iff_ne]; omega
      have f1 : ((d.st : Int) == 1) = false := by rw [beq_eq_false_iff_ne]; omega
      have f2 : ((d.st : Int) == 2) = false := by rw [beq_eq_false_iff_ne]; omega
      have f3 : ((d.st : Int) == 3) = false := by rw [beq_eq_false_iff_ne]; omega
      have f4 : ((d.st : Int) == 4) = false := by rw [beq_eq_false_iff_ne]; omega
      have f5 : ((d.st : Int) == 5) = false := by rw [beq_eq_false_iff_ne]; omega
      have f6 : ((d.st : Int) == 6) = true := by rw [beq_iff_eq]; omega
      have ht : 3 ≤ d.st ∧ d.st ≤ 10 ∧ d.st ≠ 8 := by omega
      cases hq : (Trail.tag attrOf d b).2 with
      | true =>
        have HQ := Aside0.mk hq
        have E := Aside0.mk e
        clear e
        have HT := Aside0.mk ht
        clear ht
        go_wp2_with (go_at_call 71; (with_reducible refine (tag_at d ?hv b ?hn HSM.out ?hl _ HS.out.gl).mono ?_); (case hv => rfl); (case hn => first | rfl | omega); (case hl => have := HOK.out.nm; omega); rintro e w1 ⟨rfl, hb⟩; have HS1 := Aside0.mk (HS.out.step hb); clear hb; obtain ⟨⟨y0, y1, y2, y3, y4, y5, y6, y7, y8, y9, yf⟩, ⟨z0, z1, z2, z3, z4, z5, z6, z7, z8, z9, zf⟩, -, ⟨g0, g1, g2, g3, g4, g5, g6, g7, g8, g9⟩, hlt1⟩ := (HS1.out).facts; have hl0 : w.heap.size < w1.heap.size := (by omega); simp only [cxs])
        go_roundg (rank (Trail.tag attrOf d b).1.st)
        case measure => exact (tag_rank attrOf d b HT.out HQ.out).1
        case rel => exact ⟨(Trail.tag attrOf d b).1, rfl, by have := (tag_rank attrOf d b HT.out HQ.out).2.2.2; omega, (tag_ok HT.out HQ.out HOK.out HSM.out).1, (tag_ok HT.out HQ.out HOK.out HSM.out).2, (tag_more HT.out HQ.out).trans HMV.out, (St.put (c' := (Trail.tag attrOf d b).1) HS1.out HZ.out rfl).alloc _⟩
      | false =>
        have HQ := Aside0.mk hq
        have E := Aside0.mk e
        clear e
        have HT := Aside0.mk ht
        clear ht
        go_wp2_with (go_at_call 71; (with_reducible refine (tag_at d ?hv b ?hn HSM.out ?hl _ HS.out.gl).mono ?_); (case hv => rfl); (case hn => first | rfl | omega); (case hl => have := HOK.out.nm; omega); rintro e w1 ⟨rfl, hb⟩; have HS1 := Aside0.mk (HS.out.step hb); clear hb; obtain ⟨⟨y0, y1, y2, y3, y4, y5, y6, y7, y8, y9, yf⟩, ⟨z0, z1, z2, z3, z4, z5, z6, z7, z8, z9, zf⟩, -, ⟨g0, g1, g2, g3, g4, g5, g6, g7, g8, g9⟩, hlt1⟩ := (HS1.out).facts; have hl0 : w.heap.size < w1.heap.size := (by omega); simp only [cxs])
        have hE : Trail.move attrOf feed 8 c b = (Trail.tag attrOf d b).1 := by rw [← HMV.out, move_tag _ _ _ _ _ HT.out, HQ.out]; rfl
        rw [hE]
        (try rw [Exit.noGoto_ret])
        (with_reducible refine ret_put1 (V := _) ?_ Tryd.results54 ?_ ?_ ?_)
        rotate_left
        · rfl
        · rfl
        · rfl
        · exact HS1.out.after
    · have f0 : ((d.st : Int) == 0) = false := by rw [beq_eq_false_iff_ne]; omega
      have f1 : ((d.st : Int) == 1) = false := by rw [beq_eq_false_iff_ne]; omega
      have f2 : ((d.st : Int) == 2) = false := by rw [beq_eq_false_iff_ne]; omega
      have f3 : ((d.st : Int) == 3) = false := by rw [beq_eq_false_iff_ne]; omega
      have f4 : ((d.st : Int) == 4) = false := by rw [beq_eq_false_iff_ne]; omega
      have f5 : ((d.st : Int) == 5) = false := by rw [beq_eq_false_iff_ne]; omega
      have f6 : ((d.st : Int) == 6) = false := by rw [beq_eq_false_iff_ne]; omega
      have f7 : ((d.st : Int) == 7) = true := by rw [beq_iff_eq]; omega
      have ht : 3 ≤ d.st ∧ d.st ≤ 10 ∧ d.st ≠ 8 := by omega
      cases hq : (Trail.tag attrOf d b).2 with
      | true =>
        have HQ := Aside0.mk hq
        have E := Aside0.mk e
        clear e
        have HT := Aside0.mk ht
        clear ht
        go_wp2_with (go_at_call 71; (with_reducible refine (tag_at d ?hv b ?hn HSM.out ?hl _ HS.out.gl).mono ?_); (case hv => rfl); (case hn => first | rfl | omega); (case hl => have := HOK.out.nm; omega); rintro e w1 ⟨rfl, hb⟩; have HS1 := Aside0.mk (HS.out.step hb); clear hb; obtain ⟨⟨y0, y1, y2, y3, y4, y5, y6, y7, y8, y9, yf⟩, ⟨z0, z1, z2, z3, z4, z5, z6, z7, z8, z9, zf⟩, -, ⟨g0, g1, g2, g3, g4, g5, g6, g7, g8, g9⟩, hlt1⟩ := (HS1.out).facts; have hl0 : w.heap.size < w1.heap.size := (by omega); simp only [cxs])
        go_roundg (rank (Trail.tag attrOf d b).1.st)
        case measure => exact (tag_rank attrOf d b HT.out HQ.out).1
        case rel => exact ⟨(Trail.tag attrOf d b).1, rfl, by have := (tag_rank attrOf d b HT.out HQ.out).2.2.2; omega, (tag_ok HT.out HQ.out HOK.out HSM.out).1, (tag_ok HT.out HQ.out HOK.out HSM.out).2, (tag_more HT.out HQ.out).trans HMV.out, (St.put (c' := (Trail.tag attrOf d b).1) HS1.out HZ.out rfl).alloc _⟩
      | false =>
        have HQ := Aside0.mk hq
        have E := Aside0.mk e
        clear e
        have HT := Aside0.mk ht
        clear ht
        go_wp2_with (go_at_call 71; (with_reducible refine (tag_at d ?hv b ?hn HSM.out ?hl _ HS.out.gl).mono ?_); (case hv => rfl); (case hn => first | rfl | omega); (case hl => have := HOK.out.nm; omega); rintro e w1 ⟨rfl, hb⟩; have HS1 := Aside0.mk (HS.out.step hb); clear hb; obtain ⟨⟨y0, y1, y2, y3, y4, y5, y6, y7, y8, y9, yf⟩, ⟨z0, z1, z2, z3, z4, z5, z6, z7, z8, z9, zf⟩, -, ⟨g0, g1, g2, g3, g4, g5, g6, g7, g8, g9⟩, hlt1⟩ := (HS1.out).facts; have hl0 : w.heap.size < w1.heap.size := (by omega); simp only [cxs])
        have hE : Trail.move attrOf feed 8 c b = (Trail.tag attrOf d b).1 := by rw [← HMV.out, move_tag _ _ _ _ _ HT.out, HQ.out]; rfl
        rw [hE]
        (try rw [Exit.noGoto_ret])
        (with_reducible refine ret_put1 (V := _) ?_ Tryd.results54 ?_ ?_ ?_)
        rotate_left
        · rfl
        · rfl
        · rfl
        · exact HS1.out.after
    · have f0 : ((d.st : Int) == 0) = false := by rw [beq_eq_false_iff_ne]; omega
      have f1 : ((d.st : Int) == 1) = false := by rw [beq_eq_false_iff_ne]; omega
      have f2 : ((d.st : Int) == 2) = false := by rw [beq_eq_false_iff_ne]; omega
      have f3 : ((d.st : Int) == 3) = false := by rw [beq_eq_false_iff_ne]; omega
      have f4 : ((d.st : Int) == 4) = false := by rw [beq_eq_false_iff_ne]; omega
      have f5 : ((d.st : Int) == 5) = false := by rw [beq_eq_false_iff_ne]; omega
      have f6 : ((d.st : Int) == 6) = false := by rw [beq_eq_false_iff_ne]; omega
      have f7 : ((d.st : Int) == 7) = false := by rw [beq_eq_false_iff_ne]; omega
      have f9 : ((d.st : Int) == 9) = true := by rw [beq_iff_eq]; omega
      have ht : 3 ≤ d.st ∧ d.st ≤ 10 ∧ d.st ≠ 8 := by omega
      cases hq : (Trail.tag attrOf d b).2 with
      | true =>
        have HQ := Aside0.mk hq
        have E := Aside0.mk e
        clear e
        have HT := Aside0.mk ht
        clear ht
        go_wp2_with (go_at_call 71; (with_reducible refine (tag_at d ?hv b ?hn HSM.out ?hl _ HS.out.gl).mono ?_); (case hv => rfl); (case hn => first | rfl | omega); (case hl => have := HOK.out.nm; omega); rintro e w1 ⟨rfl, hb⟩; have HS1 := Aside0.mk (HS.out.step hb); clear hb; obtain ⟨⟨y0, y1, y2, y3, y4, y5, y6, y7, y8, y9, yf⟩, ⟨z0, z1, z2, z3, z4, z5, z6, z7, z8, z9, zf⟩, -, ⟨g0, g1, g2, g3, g4, g5, g6, g7, g8, g9⟩, hlt1⟩ := (HS1.out).facts; have hl0 : w.heap.size < w1.heap.size := (by omega); simp only [cxs])
        go_roundg (rank (Trail.tag attrOf d b).1.st)
        case measure => exact (tag_rank attrOf d b HT.out HQ.out).1
        case rel => exact ⟨(Trail.tag attrOf d b).1, rfl, by have := (tag_rank attrOf d b HT.out HQ.out).2.2.2; omega, (tag_ok HT.out HQ.out HOK.out HSM.out).1, (tag_ok HT.out HQ.out HOK.out HSM.out).2, (tag_more HT.out HQ.out).trans HMV.out, (St.put (c' := (Trail.tag attrOf d b).1) HS1.out HZ.out rfl).alloc _⟩
      | false =>
        have HQ := Aside0.mk hq
        have E := Aside0.mk e
        clear e
        have HT := Aside0.mk ht
        clear ht
        go_wp2_with (go_at_call 71; (with_reducible refine (tag_at d ?hv b ?hn HSM.out ?hl _ HS.out.gl).mono ?_); (case hv => rfl); (case hn => first | rfl | omega); (case hl => have := HOK.out.nm; omega); rintro e w1 ⟨rfl, hb⟩; have HS1 := Aside0.mk (HS.out.step hb); clear hb; obtain ⟨⟨y0, y1, y2, y3, y4, y5, y6, y7, y8, y9, yf⟩, ⟨z0, z1, z2, z3, z4, z5, z6, z7, z8, z9, zf⟩, -, ⟨g0, g1, g2, g3, g4, g5, g6, g7, g8, g9⟩, hlt1⟩ := (HS1.out).facts; have hl0 : w.heap.size < w1.heap.size := (by omega); simp only [cxs])
        have hE : Trail.move attrOf feed 8 c b = (Trail.tag attrOf d b).1 := by rw [← HMV.out, move_tag _ _ _ _ _ HT.out, HQ.out]; rfl
        rw [hE]
        (try rw [Exit.noGoto_ret])
        (with_reducible refine ret_put1 (V := _) ?_ Tryd.results54 ?_ ?_ ?_)
        rotate_left
        · rfl
        · rfl
        · rfl
        · exact HS1.out.after
    · have f0 : ((d.st : Int) == 0) = false := by rw [beq_eq_false_iff_ne]; omega
      have f1 : ((d.st : Int) == 1) = false := by rw [beq_eq_false_iff_ne]; omega
      have f2 : ((d.st : Int) == 2) = false := by rw [beq_eq_false_iff_ne]; omega
      have f3 : ((d.st : Int) == 3) = false := by rw [beq_eq_false_iff_ne]; omega
      have f4 : ((d.st : Int) == 4) = false := by rw [beq_eq_false_iff_ne]; omega
      have f5 : ((d.st : Int) == 5) = false := by rw [beq_eq_false_iff_ne]; omega
      have f6 : ((d.st : Int) == 6) = false := by rw [beq_eq_false_iff_ne]; omega
      have f7 : ((d.st : Int) == 7) = false := by rw [beq_eq_false_iff_ne]; omega
      have f9 : ((d.st : Int) == 9) = false := by rw [beq_eq_false_iff_ne]; omega
      have f10 : ((d.st : Int) == 10) = true := by rw [beq_iff_eq]; omega
      have ht : 3 ≤ d.st ∧ d.st ≤ 10 ∧ d.st ≠ 8 := by omega
      cases hq : (Trail.tag attrOf d b).2 with
      | true =>
        have HQ := Aside0.mk hq
        have E := Aside0.mk e
        clear e
        have HT := Aside0.mk ht
        clear ht
        go_wp2_with (go_at_call 71; (with_reducible refine (tag_at d ?hv b ?hn HSM.out ?hl _ HS.out.gl).mono ?_); (case hv => rfl); (case hn => first | rfl | omega); (case hl => have := HOK.out.nm; omega); rintro e w1 ⟨rfl, hb⟩; have HS1 := Aside0.mk (HS.out.step hb); clear hb; obtain ⟨⟨y0, y1, y2, y3, y4, y5, y6, y7, y8, y9, yf⟩, ⟨z0, z1, z2, z3, z4, z5, z6, z7, z8, z9, zf⟩, -, ⟨g0, g1, g2, g3, g4, g5, g6, g7, g8, g9⟩, hlt1⟩ := (HS1.out).facts; have hl0 : w.heap.size < w1.heap.size := (by omega); simp only [cxs])
        go_roundg (rank (Trail.tag attrOf d b).1.st)
        case measure => exact (tag_rank attrOf d b HT.out HQ.out).1
        case rel => exact ⟨(Trail.tag attrOf d b).1, rfl, by have := (tag_rank attrOf d b HT.out HQ.out).2.2.2; omega, (tag_ok HT.out HQ.out HOK.out HSM.out).1, (tag_ok HT.out HQ.out HOK.out HSM.out).2, (tag_more HT.out HQ.out).trans HMV.out, (St.put (c' := (Trail.tag attrOf d b).1) HS1.out HZ.out rfl).alloc _⟩
      | false =>
        have HQ := Aside0.mk hq
        have E := Aside0.mk e
        clear e
        have HT := Aside0.mk ht
        clear ht
        go_wp2_with (go_at_call 71; (with_reducible refine (tag_at d ?hv b ?hn HSM.out ?hl _ HS.out.gl).mono ?_); (case hv => rfl); (case hn => first | rfl | omega); (case hl => have := HOK.out.nm; omega); rintro e w1 ⟨rfl, hb⟩; have HS1 := Aside0.mk (HS.out.step hb); clear hb; obtain ⟨⟨y0, y1, y2, y3, y4, y5, y6, y7, y8, y9, yf⟩, ⟨z0, z1, z2, z3, z4, z5, z6, z7, z8, z9, zf⟩, -, ⟨g0, g1, g2, g3, g4, g5, g6, g7, g8, g9⟩, hlt1⟩ := (HS1.out).facts; have hl0 : w.heap.size < w1.heap.size := (by omega); simp only [cxs])
        have hE : Trail.move attrOf feed 8 c b = (Trail.tag attrOf d b).1 := by rw [← HMV.out, move_tag _ _ _ _ _ HT.out, HQ.out]; rfl
        rw [hE]
        (try rw [Exit.noGoto_ret])
        (with_reducible refine ret_put1 (V := _) ?_ Tryd.results54 ?_ ?_ ?_)
        rotate_left
        · rfl
        · rfl
        · rfl
        · exact HS1.out.after
    · have f0 : ((d.st : Int) == 0) = false := by rw [beq_eq_false_iff_ne]; omega
      have f1 : ((d.st : Int) == 1) = false := by rw [beq_eq_false_iff_ne]; omega
      have f2 : ((d.st : Int) == 2) = false := by rw [beq_eq_false_iff_ne]; omega
      have f3 : ((d.st : Int) == 3) = false := by rw [beq_eq_false_iff_ne]; omega
      have f4 : ((d.st : Int) == 4) = false := by rw [beq_eq_false_iff_ne]; omega
      have f5 : ((d.st : Int) == 5) = false := by rw [beq_eq_false_iff_ne]; omega
      have f6 : ((d.st : Int) == 6) = false := by rw [beq_eq_false_iff_ne]; omega
      have f7 : ((d.st : Int) == 7) = false := by rw [beq_eq_false_iff_ne]; omega
      have f9 : ((d.st : Int) == 9) = false := by rw [beq_eq_false_iff_ne]; omega
      have f10 : ((d.st : Int) == 10) = false := by rw [beq_eq_false_iff_ne]; omega
      have f8 : ((d.st : Int) == 8) = true := by rw [beq_iff_eq]; omega
      have E := Aside0.mk e
      clear e
      go_wp2_with (go_at_call 72; (with_reducible refine (value_at d ?hv b ?hn HB.out HSM.out ?hl _ HS.out.gl).mono ?_); (case hv => rfl); (case hn => first | rfl | omega); (case hl => have := HOK.out.nm; omega); rintro e w1 ⟨rfl, hb⟩; have HS1 := Aside0.mk (HS.out.step hb); clear hb; obtain ⟨⟨y0, y1, y2, y3, y4, y5, y6, y7, y8, y9, yf⟩, ⟨z0, z1, z2, z3, z4, z5, z6, z7, z8, z9, zf⟩, -, ⟨g0, g1, g2, g3, g4, g5, g6, g7, g8, g9⟩, hlt1⟩ := (HS1.out).facts; have hl0 : w.heap.size < w1.heap.size := (by omega); simp only [cxs])
      have hE : Trail.move attrOf feed 8 c b = Trail.value d b := by rw [← HMV.out, Trail.move_value _ _ _ _ _ E.out]
      rw [hE]
      (try rw [Exit.noGoto_ret])
      (with_reducible refine ret_put (V := _) ?_ Tryd.results54 ?_ ?_ ?_)
      rotate_left
      · rfl
      · rfl
      · rfl
      · exact HS1.out.after
    · have f0 : ((d.st : Int) == 0) = false := by rw [beq_eq_false_iff_ne]; omega
      have f1 : ((d.st : Int) == 1) = false := by rw [beq_eq_false_iff_ne]; omega
      have f2 : ((d.st : Int) == 2) = false := by rw [beq_eq_false_iff_ne]; omega
      have f3 : ((d.st : Int) == 3) = false := by rw [beq_eq_false_iff_ne]; omega
      have f4 : ((d.st : Int) == 4) = false := by rw [beq_eq_false_iff_ne]; omega
      have f5 : ((d.st : Int) == 5) = false := by rw [beq_eq_false_iff_ne]; omega
      have f6 : ((d.st : Int) == 6) = false := by rw [beq_eq_false_iff_ne]; omega
      have f7 : ((d.st : Int) == 7) = false := by rw [beq_eq_false_iff_ne]; omega
      have f9 : ((d.st : Int) == 9) = false := by rw [beq_eq_false_iff_ne]; omega
      have f10 : ((d.st : Int) == 10) = false := by rw [beq_eq_false_iff_ne]; omega
      have f8 : ((d.st : Int) == 8) = false := by rw [beq_eq_false_iff_ne]; omega
      have f17 : ((d.st : Int) == 17) = true := by rw [beq_iff_eq]; omega
      have E := Aside0.mk e
      clear e
      go_wp2_with (go_at_call 73; (with_reducible refine (raw_at d ?hv b ?hn feed HB.out HSM.out HOK.out.nm HOK.out.st _ HS.out.gl).mono ?_); (case hv => rfl); (case hn => first | rfl | omega); rintro e w1 ⟨rfl, hb⟩; have HS1 := Aside0.mk (HS.out.step hb); clear hb; obtain ⟨⟨y0, y1, y2, y3, y4, y5, y6, y7, y8, y9, yf⟩, ⟨z0, z1, z2, z3, z4, z5, z6, z7, z8, z9, zf⟩, -, ⟨g0, g1, g2, g3, g4, g5, g6, g7, g8, g9⟩, hlt1⟩ := (HS1.out).facts; have hl0 : w.heap.size < w1.heap.size := (by omega); simp only [cxs])
      have hE : Trail.move attrOf feed 8 c b = Trail.raw d b feed := by rw [← HMV.out, Trail.move_raw (by rw [E.out]; decide)]
      rw [hE]
      (try rw [Exit.noGoto_ret])
      (with_reducible refine ret_put (V := _) ?_ Tryd.results54 ?_ ?_ ?_)
      rotate_left
      · rfl
      · rfl
      · rfl
      · exact HS1.out.after
    · have f0 : ((d.st : Int) == 0) = false := by rw [beq_eq_false_iff_ne]; omega
      have f1 : ((d.st : Int) == 1) = false := by rw [beq_eq_false_iff_ne]; omega
      have f2 : ((d.st : Int) == 2) = false := by rw [beq_eq_false_iff_ne]; omega
      have f3 : ((d.st : Int) == 3) = false := by rw [beq_eq_false_iff_ne]; omega
      have f4 : ((d.st : Int) == 4) = false := by rw [beq_eq_false_iff_ne]; omega
      have f5 : ((d.st : Int) == 5) = false := by rw [beq_eq_false_iff_ne]; omega
      have f6 : ((d.st : Int) == 6) = false := by rw [beq_eq_false_iff_ne]; omega
      have f7 : ((d.st : Int) == 7) = false := by rw [beq_eq_false_iff_ne]; omega
      have f9 : ((d.st : Int) == 9) = false := by rw [beq_eq_false_iff_ne]; omega
      have f10 : ((d.st : Int) == 10) = false := by rw [beq_eq_false_iff_ne]; omega
      have f8 : ((d.st : Int) == 8) = false := by rw [beq_eq_false_iff_ne]; omega
      have f17 : ((d.st : Int) == 17) = false := by rw [beq_eq_false_iff_ne]; omega
      have f18 : ((d.st : Int) == 18) = true := by rw [beq_iff_eq]; omega
      have E := Aside0.mk e
      clear e
      go_wp2_with (go_at_call 73; (with_reducible refine (raw_at d ?hv b ?hn feed HB.out HSM.out HOK.out.nm HOK.out.st _ HS.out.gl).mono ?_); (case hv => rfl); (case hn => first | rfl | omega); rintro e w1 ⟨rfl, hb⟩; have HS1 := Aside0.mk (HS.out.step hb); clear hb; obtain ⟨⟨y0, y1, y2, y3, y4, y5, y6, y7, y8, y9, yf⟩, ⟨z0, z1, z2, z3, z4, z5, z6, z7, z8, z9, zf⟩, -, ⟨g0, g1, g2, g3, g4, g5, g6, g7, g8, g9⟩, hlt1⟩ := (HS1.out).facts; have hl0 : w.heap.size < w1.heap.size := (by omega); simp only [cxs])
      have hE : Trail.move attrOf feed 8 c b = Trail.raw d b feed := by rw [← HMV.out, Trail.move_raw (by rw [E.out]; decide)]
      rw [hE]
      (try rw [Exit.noGoto_ret])
      (with_reducible refine ret_put (V := _) ?_ Tryd.results54 ?_ ?_ ?_)
      rotate_left
      · rfl
      · rfl
      · rfl
      · exact HS1.out.after
    · have f0 : ((d.st : Int) == 0) = false := by rw [beq_eq_false_iff_ne]; omega
      have f1 : ((d.st : Int) == 1) = false := by rw [beq_eq_false_iff_ne]; omega
      have f2 : ((d.st : Int) == 2) = false := by rw [beq_eq_false_iff_ne]; omega
      have f3 : ((d.st : Int) == 3) = false := by rw [beq_eq_false_iff_ne]; omega
      have f4 : ((d.st : Int) == 4) = false := by rw [beq_eq_false_iff_ne]; omega
      have f5 : ((d.st : Int) == 5) = false := by rw [beq_eq_false_iff_ne]; omega
      have f6 : ((d.st : Int) == 6) = false := by rw [beq_eq_false_iff_ne]; omega
      have f7 : ((d.st : Int) == 7) = false := by rw [beq_eq_false_iff_ne]; omega
      have f9 : ((d.st : Int) == 9) = false := by rw [beq_eq_false_iff_ne]; omega
      have f10 : ((d.st : Int) == 10) = false := by rw [beq_eq_false_iff_ne]; omega
      have f8 : ((d.st : Int) == 8) = false := by rw [beq_eq_false_iff_ne]; omega
      have f17 : ((d.st : Int) == 17) = false := by rw [beq_eq_false_iff_ne]; omega
      have f18 : ((d.st : Int) == 18) = false := by rw [beq_eq_false_iff_ne]; omega
      have f19 : ((d.st : Int) == 19) = true := by rw [beq_iff_eq]; omega
      have E := Aside0.mk e
      clear e
      go_wp2_with (go_at_call 73; (with_reducible refine (raw_at d ?hv b ?hn feed HB.out HSM.out HOK.out.nm HOK.out.st _ HS.out.gl).mono ?_); (case hv => rfl); (case hn => first | rfl | omega); rintro e w1 ⟨rfl, hb⟩; have HS1 := Aside0.mk (HS.out.step hb); clear hb; obtain ⟨⟨y0, y1, y2, y3, y4, y5, y6, y7, y8, y9, yf⟩, ⟨z0, z1, z2, z3, z4, z5, z6, z7, z8, z9, zf⟩, -, ⟨g0, g1, g2, g3, g4, g5, g6, g7, g8, g9⟩, hlt1⟩ := (HS1.out).facts; have hl0 : w.heap.size < w1.heap.size := (by omega); simp only [cxs])
      have hE : Trail.move attrOf feed 8 c b = Trail.raw d b feed := by rw [← HMV.out, Trail.move_raw (by rw [E.out]; decide)]
      rw [hE]
      (try rw [Exit.noGoto_ret])
      (with_reducible refine ret_put (V := _) ?_ Tryd.results54 ?_ ?_ ?_)
      rotate_left
      · rfl
      · rfl
      · rfl
      · exact HS1.out.after
    · have f0 : ((d.st : Int) == 0) = false := by rw [beq_eq_false_iff_ne]; omega
      have f1 : ((d.st : Int) == 1) = false := by rw [beq_eq_false_iff_ne]; omega
      have f2 : ((d.st : Int) == 2) = false := by rw [beq_eq_false_iff_ne]; omega
      have f3 : ((d.st : Int) == 3) = false := by rw [beq_eq_false_iff_ne]; omega
      have f4 : ((d.st : Int) == 4) = false := by rw [beq_eq_false_iff_ne]; omega
      have f5 : ((d.st : Int) == 5) = false := by rw [beq_eq_false_iff_ne]; omega
      have f6 : ((d.st : Int) == 6) = false := by rw [beq_eq_false_iff_ne]; omega
      have f7 : ((d.st : Int) == 7) = false := by rw [beq_eq_false_iff_ne]; omega
      have f9 : ((d.st : Int) == 9) = false := by rw [beq_eq_false_iff_ne]; omega
      have f10 : ((d.st : Int) == 10) = false := by rw [beq_eq_false_iff_ne]; omega
      have f8 : ((d.st : Int) == 8) = false := by rw [beq_eq_false_iff_ne]; omega
      have f17 : ((d.st : Int) == 17) = false := by rw [beq_eq_false_iff_ne]; omega
      have f18 : ((d.st : Int) == 18) = false := by rw [beq_eq_false_iff_ne]; omega
      have f19 : ((d.st : Int) == 19) = false := by rw [beq_eq_false_iff_ne]; omega
      have E := Aside0.mk e
      clear e
      go_wp2_with (go_at_call 74; (with_reducible refine (note_at d ?hv b ?hn HOK.out.da _ HS.out.gl).mono ?_); (case hv => rfl); (case hn => first | rfl | omega); rintro e w1 ⟨rfl, hb⟩; have HS1 := Aside0.mk (HS.out.step hb); clear hb; obtain ⟨⟨y0, y1, y2, y3, y4, y5, y6, y7, y8, y9, yf⟩, ⟨z0, z1, z2, z3, z4, z5, z6, z7, z8, z9, zf⟩, -, ⟨g0, g1, g2, g3, g4, g5, g6, g7, g8, g9⟩, hlt1⟩ := (HS1.out).facts; have hl0 : w.heap.size < w1.heap.size := (by omega); simp only [cxs])
      have hE : Trail.move attrOf feed 8 c b = Trail.note d b := by rw [← HMV.out, Trail.move_note E.out]
      rw [hE]
      (try rw [Exit.noGoto_ret])
      (with_reducible refine ret_put (V := _) ?_ Tryd.results54 ?_ ?_ ?_)
      rotate_left
      · rfl
      · rfl
      · rfl
      · exact HS1.out.after
end Go.Proofs.YtfplocpjdjjoaaaDoor.Ctxs
