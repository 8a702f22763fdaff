/-
  The text of an element of its own, as a plain function of the context: the name of an end tag.
  Conditions: as each theorem says.
-/
import Derived.Test.YtfplocpjdjjoaaaDoorGf
import Derived.Deep.QuietTactic
import Derived.BigQuiet
namespace Go.Proofs.YtfplocpjdjjoaaaDoor.Ctxs
open Go Go.RowKit Go.Proofs.YtfplocpjdjjoaaaDoor.Trail Go.Proofs.YtfplocpjdjjoaaaDoorW.PrintWords
set_option linter.unusedVariables false
set_option linter.unusedSimpArgs false
set_option maxHeartbeats 4000000 in
set_option maxRecDepth 100000 in
theorem raw_callsD (c : Cx) (b : Nat) (feed : Bool) (hb : b < 256) (hs : Small c.nm) (hn : c.nm.length ≤ 900) (h1 : c.st = 19) (h2 : c.nm ≠ nameOf c.el) (h3 : (c.nm ++ [small b]).isPrefixOf (nameOf c.el) = true) (w : World) (hG : Glob w) : Calls Tryd.prog 73 #[.agg (cxs c), .int .u8 (b : Int), .bool feed] w (Ret { c with nm := c.nm ++ [small b] } w) := by
  have hu33 := Tryd.underlying33
  have hz := glob_pos hG
  have HZ := Aside0.mk hz
  have hst := Aside0.mk (st0 c hG)
  obtain ⟨g0, g1, g2, g3, g4, g5, g6, g7, g8, g9⟩ := glob_cells hG
  have HS := Aside0.mk hs
  have HN := Aside0.mk hn
  have HB := Aside0.mk hb
  clear hG hs hn hb
  have a0 : ((c.st : Int) == 18) = false := by rw [beq_eq_false_iff_ne]; omega
  have a1 : ((c.st : Int) == 19) = true := by rw [beq_iff_eq]; omega
  have hcv : ∀ V : World, V.heap.size = w.heap.size + 1 + 1 → (convert 22 9 (.slice (some ⟨w.heap.size + 1 + 1, 0, none⟩) 1 1)).run Tryd.prog (V.alloc (.cells #[.int .u8 (small b : Int)] 5)).drew = .ok (.string (bs [small b])) (V.alloc (.cells #[.int .u8 (small b : Int)] 5)).drew := fun V h => one_conv (cell_last _ _ _ _ 0 h.symm)
  have hs1 : (bs [small b]).size = 1 := bs_size _
  have hs3 := bs_size c.nm
  have hs2 : ¬ 9223372036854775807 < (bs c.nm).size + 1 := by have := HN.out; omega
  clear hs3
  have a2 : ((bs c.nm).toList == (bs (nameOf c.el)).toList) = false := by rw [bs_beq HS.out (small_name _)]; exact decide_eq_false h2
  have a3 : (bs c.nm ++ bs [small b]).toList.isPrefixOf (bs (nameOf c.el)).toList = true := by
    rw [bs_append, bs_list, prefix_bs (small_app HS.out HB.out) (small_name _)]; exact h3
  clear h1 h2 h3
  simp only [cxs] at hst ⊢
  go_enter Tryd.func73, Tryd.ntmps73
  go_wp2_with (go_at_call 52; (with_reducible refine (nameOf_at c.el ?hn _).mono ?_); (case hn => rfl); rintro e w1 ⟨rfl, rfl⟩)
  go_region_with (first | (go_at_call 96; (with_reducible refine (small_at b ?hn _).mono ?_); (case hn => first | rfl | omega); rintro e w1 ⟨rfl, rfl⟩) | (go_at_call 56; (with_reducible refine (hasPrefix_calls _ _ _).mono ?_); rintro e w1 ⟨rfl, rfl⟩; rw [a3]))
  all_goals
    clear a3
    have hcv2 : ∀ V : World, V.heap.size = w.heap.size + 1 + 1 + 1 → (convert 22 9 (.slice (some ⟨w.heap.size + 1 + 1 + 1, 0, none⟩) 1 1)).run Tryd.prog (V.alloc (.cells #[.int .u8 (small b : Int)] 5)).drew.drew = .ok (.string (bs [small b])) (V.alloc (.cells #[.int .u8 (small b : Int)] 5)).drew.drew := fun V h => one_conv (cell_last _ _ _ _ 0 h.symm)
    have hcv3 : ∀ V : World, V.heap.size = w.heap.size + 1 + 1 + 1 → (convert 22 9 (.slice (some ⟨w.heap.size + 1 + 1 + 1, 0, none⟩) 1 1)).run Tryd.prog (V.alloc (.cells #[.int .u8 (small b : Int)] 5)).drew = .ok (.string (bs [small b])) (V.alloc (.cells #[.int .u8 (small b : Int)] 5)).drew := fun V h => one_conv (cell_last _ _ _ _ 0 h.symm)
    go_wp2
    go_region_with (go_at_call 96; (with_reducible refine (small_at b ?hn _).mono ?_); (case hn => first | rfl | omega); rintro e w1 ⟨rfl, rfl⟩)
    all_goals
      go_wp2
      rw [bs_append]
      (with_reducible refine ret_alloc4 Tryd.results73 ?_ ?_ ?_ ?_) <;> rfl
end Go.Proofs.YtfplocpjdjjoaaaDoor.Ctxs
