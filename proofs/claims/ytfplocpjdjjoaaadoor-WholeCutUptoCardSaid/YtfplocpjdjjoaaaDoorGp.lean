/-
  The text of an element of its own, as a plain function of the context: what was no end tag.
  Conditions: as each theorem says.
-/
import Derived.Test.YtfplocpjdjjoaaaDoorGf
import Derived.Deep.QuietTactic
import Derived.BigQuiet
namespace Go.Proofs.YtfplocpjdjjoaaaDoor.Ctxs
open Go Go.RowKit Go.Proofs.YtfplocpjdjjoaaaDoor.Trail Go.Proofs.YtfplocpjdjjoaaaDoorW.PrintWords
set_option linter.unusedVariables false
set_option linter.unusedSimpArgs false
theorem small_cons {l : List Nat} (h : Small l) : Small (47 :: l) := by
  intro x hx
  rcases List.mem_cons.1 hx with hx | hx
  · omega
  · exact h x hx
set_option maxHeartbeats 4000000 in
set_option maxRecDepth 100000 in
theorem raw_callsE0 (c : Cx) (b : Nat) (feed : Bool) (hb : b < 256) (hs : Small c.nm) (hn : c.nm.length ≤ 900) (h1 : c.st = 19) (h2 : c.nm ≠ nameOf c.el ∨ (c.nm = nameOf c.el ∧ Trail.blank b = false ∧ b ≠ 47 ∧ b ≠ 62)) (h3 : (c.nm ++ [small b]).isPrefixOf (nameOf c.el) = false) (hD0 : (Trail.fed c (47 :: c.nm) feed).st = 20) (w : World) (hG : Glob w) : Calls Tryd.prog 73 #[.agg (cxs c), .int .u8 (b : Int), .bool feed] w (Ret bad w) := by
  have hu33 := Tryd.underlying33
  have hz := glob_pos hG
  have HZ := Aside0.mk hz
  have hst := Aside0.mk (st0 c hG)
  obtain ⟨g0, g1, g2, g3, g4, g5, g6, g7, g8, g9⟩ := glob_cells hG
  have HS := Aside0.mk hs
  have HN := Aside0.mk hn
  have HB := Aside0.mk hb
  clear hG hs hn hb
  have a0 : ((c.st : Int) == 18) = false := by rw [beq_eq_false_iff_ne]; omega
  have a1 : ((c.st : Int) == 19) = true := by rw [beq_iff_eq]; omega
  have hcv : ∀ V : World, V.heap.size = w.heap.size + 1 + 1 → (convert 22 9 (.slice (some ⟨w.heap.size + 1 + 1, 0, none⟩) 1 1)).run Tryd.prog (V.alloc (.cells #[.int .u8 (small b : Int)] 5)).drew = .ok (.string (bs [small b])) (V.alloc (.cells #[.int .u8 (small b : Int)] 5)).drew := fun V h => one_conv (cell_last _ _ _ _ 0 h.symm)
  have hs1 : (bs [small b]).size = 1 := bs_size _
  have hs3 := bs_size c.nm
  have hs2 : ¬ 9223372036854775807 < (bs c.nm).size + 1 := by have := HN.out; omega
  have a3 : (bs c.nm ++ bs [small b]).toList.isPrefixOf (bs (nameOf c.el)).toList = false := by
    rw [bs_append, bs_list, prefix_bs (small_app HS.out HB.out) (small_name _)]; exact h3
  have hs4 : ¬ 9223372036854775807 < 1 + (bs c.nm).size := by omega
  have hs5 : (⟨#[47]⟩ : ByteArray).size = 1 := rfl
  have d0 : (((Trail.fed c (47 :: c.nm) feed).st : Int) == 20) = true := by rw [beq_iff_eq]; omega
  have HD0 := Aside0.mk hD0
  clear hs3 hD0
  have h2' : ((bs c.nm).toList == (bs (nameOf c.el)).toList) = false ∨ (((bs c.nm).toList == (bs (nameOf c.el)).toList) = true ∧ Trail.blank b = false ∧ ((b : Int) == 47) = false ∧ ((b : Int) == 62) = false) := by
    rcases h2 with h2 | ⟨q1, q2, q3, q4⟩
    · left; rw [bs_beq HS.out (small_name _)]; exact decide_eq_false h2
    · right; refine ⟨?_, q2, ?_, ?_⟩
      · rw [bs_beq HS.out (small_name _)]; exact decide_eq_true q1
      · rw [beq_eq_false_iff_ne]; omega
      · rw [beq_eq_false_iff_ne]; omega
  clear h1 h2 h3
  simp only [cxs] at hst ⊢
  rcases h2' with a2 | ⟨a2, a4, a5, a6⟩
  all_goals
    go_enter Tryd.func73, Tryd.ntmps73
    go_wp2_with (first | (go_at_call 52; (with_reducible refine (nameOf_at c.el ?hn _).mono ?_); (case hn => rfl); rintro e w1 ⟨rfl, rfl⟩) | (go_at_call 97; (with_reducible refine (blank_at b ?hn _).mono ?_); (case hn => first | rfl | omega); rintro e w1 ⟨rfl, rfl⟩))
    go_region_with (first | (go_at_call 96; (with_reducible refine (small_at b ?hn _).mono ?_); (case hn => first | rfl | omega); rintro e w1 ⟨rfl, rfl⟩) | (go_at_call 56; (with_reducible refine (hasPrefix_calls _ _ _).mono ?_); rintro e w1 ⟨rfl, rfl⟩; rw [a3]))
    all_goals
      go_wp2_with (go_at_call 107; (with_reducible refine (fed_at c ?hv (47 :: c.nm) ?hs feed ?hl ?hm _ (hst.out.alloc _).drew.gl).mono ?_); (case hv => rfl); (case hs => exact bs_append [47] c.nm); (case hl => exact small_cons HS.out); (case hm => have := HN.out; simp only [List.length_cons]; omega); rintro e w1 ⟨rfl, hb⟩; have HS1 := Aside0.mk ((hst.out.alloc _).drew.step hb); clear hb; obtain ⟨⟨y0, y1, y2, y3, y4, y5, y6, y7, y8, y9, yf⟩, ⟨z0, z1, z2, z3, z4, z5, z6, z7, z8, z9, zf⟩, -, ⟨g0, g1, g2, g3, g4, g5, g6, g7, g8, g9⟩, hlt1⟩ := (HS1.out).facts; have hcw : ∀ V : World, V.heap.size = w1.heap.size → (convert 22 9 (.slice (some ⟨w1.heap.size, 0, none⟩) 1 1)).run Tryd.prog (V.alloc (.cells #[.int .u8 (b : Int)] 5)) = .ok (.string (bs [b])) (V.alloc (.cells #[.int .u8 (b : Int)] 5)) := (fun V h => one_conv' V w b _ h); simp only [cxs])
      (with_reducible refine ret_put (V := _) ?_ Tryd.results73 ?_ ?_ ?_)
      rotate_left
      · rfl
      · rfl
      · rfl
      · exact St.after (St.put (c' := (Trail.fed c (47 :: c.nm) feed)) HS1.out HZ.out rfl)
end Go.Proofs.YtfplocpjdjjoaaaDoor.Ctxs
