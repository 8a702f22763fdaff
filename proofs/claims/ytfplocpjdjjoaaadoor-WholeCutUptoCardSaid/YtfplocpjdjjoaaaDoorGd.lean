/-
  Notes, what HTML alone knows, and where code stands, as plain functions of the context.
  URLs, as plain functions of the context.
  Conditions: as each theorem says.
-/
import Derived.Test.YtfplocpjdjjoaaaDoorGc
import Derived.Test.YtfplocpjdjjoaaaDoorGa
namespace Go.Proofs.YtfplocpjdjjoaaaDoor.Ctxs
open Go Go.RowKit Go.Proofs.YtfplocpjdjjoaaaDoor.Trail Go.Proofs.YtfplocpjdjjoaaaDoorW.PrintWords
set_option linter.unusedVariables false
set_option linter.unusedSimpArgs false
set_option maxHeartbeats 4000000 in
set_option maxRecDepth 100000 in
theorem note_calls (c : Cx) (b : Nat) (hd : c.da ≤ 2) (w : World) (hG : Glob w) : Calls Tryd.prog 74 #[.agg (cxs c), .int .u8 (b : Int)] w (Ret (Trail.note c b) w) := by
  have hu33 := Tryd.underlying33
  have hz := glob_pos hG
  obtain ⟨g0, g1, g2, g3, g4, g5, g6, g7, g8, g9⟩ := glob_cells hG
  clear hG
  obtain ⟨st, el, en, ak, qu, pa, su, es, da, nm⟩ := c
  dsimp only at hd
  have hd2 : (da : Int) ≤ 2 := by omega
  simp only [cxs]
  obtain ⟨r, hr⟩ : ∃ r, r = Trail.note ⟨st, el, en, ak, qu, pa, su, es, da, nm⟩ b := ⟨_, rfl⟩
  rw [← hr]
  have HR := Aside0.mk hr
  clear hr
  go_enter Tryd.func74, Tryd.ntmps74
  go_wp2
  all_goals
    clear hu33 g0 g1 g2 g3 g4 g5 g6 g7 g8 g9
    try simp only [cast_eq, beq_iff_eq, bne_iff_ne, Bool.eq_false_iff, ne_eq, Bool.not_eq_true', Bool.or_eq_true, Bool.and_eq_true, Decidable.not_not, decide_eq_true_eq] at *
    have hr := HR.out
    unfold Trail.note at hr
    try dsimp only at hr
    repeat' split at hr
    all_goals first
      | contradiction
      | (exfalso; omega)
      | (subst hr; (with_reducible refine ret_alloc2 Tryd.results74 ?_ ?_ ?_ ?_) <;> rfl)
      | (have hm : min (da + 1) 2 = 2 := by omega
         rw [hm] at hr; subst hr; (with_reducible refine ret_alloc2 Tryd.results74 ?_ ?_ ?_ ?_) <;> rfl)
      | (have hm : min (da + 1) 2 = da + 1 := by omega
         rw [hm] at hr; subst hr; (with_reducible refine ret_alloc2 Tryd.results74 ?_ ?_ ?_ ?_) <;> rfl)
      | (exfalso; simp_all; done)
set_option maxHeartbeats 4000000 in
set_option maxRecDepth 100000 in
theorem flat_calls (c : Cx) (w : World) : Calls Tryd.prog 108 #[.agg (cxs c)] w (Ret (flat c) w) := by
  have hu33 := Tryd.underlying33
  obtain ⟨st, el, en, ak, qu, pa, su, es, da, nm⟩ := c
  simp only [cxs]
  obtain ⟨r, hr⟩ : ∃ r, r = flat ⟨st, el, en, ak, qu, pa, su, es, da, nm⟩ := ⟨_, rfl⟩
  rw [← hr]
  have HR := Aside0.mk hr
  clear hr
  go_enter Tryd.func108, Tryd.ntmps108
  go_wp2
  all_goals
    clear hu33
    try simp only [cast_eq, beq_iff_eq, bne_iff_ne, Bool.eq_false_iff, ne_eq, Bool.not_eq_true', Bool.or_eq_true, Bool.and_eq_true, Decidable.not_not, decide_eq_true_eq] at *
    have hr := HR.out
    unfold flat at hr
    try dsimp only at hr
    repeat' split at hr
    all_goals first
      | contradiction
      | (exfalso; omega)
      | (subst hr; (with_reducible refine ret_alloc2 Tryd.results108 ?_ ?_ ?_ ?_) <;> rfl)
      | (exfalso; simp_all; done)
set_option maxHeartbeats 4000000 in
set_option maxRecDepth 100000 in
theorem coded_calls (c : Cx) (w : World) : Calls Tryd.prog 129 #[.agg (cxs c)] w fun e w' => e = .returned (.bool (Trail.coded c)) ∧ Below w.heap.size w w' := by
  have hu33 := Tryd.underlying33
  obtain ⟨st, el, en, ak, qu, pa, su, es, da, nm⟩ := c
  simp only [cxs]
  have HC := Aside0.mk (rfl : Trail.coded ⟨st, el, en, ak, qu, pa, su, es, da, nm⟩ = Trail.coded ⟨st, el, en, ak, qu, pa, su, es, da, nm⟩)
  go_enter Tryd.func129, Tryd.ntmps129
  go_wp2
  all_goals
    clear hu33
    go_ret
    refine ⟨ret_bool ?_, ((Below.refl _ _).alloc (Nat.le_refl _) _)⟩
    try simp only [cast_eq, beq_iff_eq, bne_iff_ne, Bool.eq_false_iff, ne_eq, Bool.not_eq_true', Bool.or_eq_true, Bool.and_eq_true, Decidable.not_not, decide_eq_true_eq] at *
    unfold Trail.coded
    dsimp only
    rw [Bool.eq_iff_iff]
    repeat' split
    all_goals first
      | (exfalso; omega)
      | (simp; done)
      | (simp; omega)
      | fail
end Go.Proofs.YtfplocpjdjjoaaaDoor.Ctxs
namespace Go.Proofs.YtfplocpjdjjoaaaDoor.Ctxs
open Go Go.RowKit Go.Proofs.YtfplocpjdjjoaaaDoor.Trail Go.Proofs.YtfplocpjdjjoaaaDoorW.PrintWords
set_option linter.unusedVariables false
set_option linter.unusedSimpArgs false
set_option maxHeartbeats 4000000 in
set_option maxRecDepth 100000 in
theorem url_calls (c : Cx) (b : Nat) (hs : Small c.nm) (hn : c.nm.length ≤ 1000) (w : World) (hG : Glob w) : Calls Tryd.prog 105 #[.agg (cxs c), .int .u8 (b : Int)] w (Ret (Trail.url c b) w) := by
  have hu33 := Tryd.underlying33
  have hz := glob_pos hG
  obtain ⟨g0, g1, g2, g3, g4, g5, g6, g7, g8, g9⟩ := glob_cells hG
  clear hG
  obtain ⟨st, el, en, ak, qu, pa, su, es, da, nm⟩ := c
  dsimp only at hs hn
  have e1 : ((bs nm).toList == ([104, 116, 116, 112] : List UInt8)) = decide (nm = [104, 116, 116, 112]) := bs_lit hs (by unfold Small; simp) rfl
  have e2 : ((bs nm).toList == ([104, 116, 116, 112, 115] : List UInt8)) = decide (nm = [104, 116, 116, 112, 115]) := bs_lit hs (by unfold Small; simp) rfl
  have e3 : ((bs nm).toList == ([109, 97, 105, 108, 116, 111] : List UInt8)) = decide (nm = [109, 97, 105, 108, 116, 111]) := bs_lit hs (by unfold Small; simp) rfl
  have hl : (bs nm).size = nm.length := bs_size nm
  have hcv : ∀ A B, (convert 22 9 (.slice (some ⟨w.heap.size + 1 + 1, 0, none⟩) 1 1)).run Tryd.prog (((w.alloc A).alloc B).alloc (.cells #[.int .u8 (small b : Int)] 5)).drew = .ok (.string (bs [small b])) (((w.alloc A).alloc B).alloc (.cells #[.int .u8 (small b : Int)] 5)).drew := fun A B => one_conv (cell_last _ _ _ _ 0 (by simp))
  have hs1 : (bs [small b]).size = 1 := bs_size _
  have hs2 : ¬ 9223372036854775807 < (bs nm).size + 1 := by omega
  have HL := Aside0.mk hl
  have hlt : (bs nm).size ≤ 1000 := by omega
  clear hs hn hl
  simp only [cxs]
  obtain ⟨r, hr⟩ : ∃ r, r = Trail.url ⟨st, el, en, ak, qu, pa, su, es, da, nm⟩ b := ⟨_, rfl⟩
  rw [← hr]
  have HR := Aside0.mk hr
  clear hr
  go_enter Tryd.func105, Tryd.ntmps105
  go_wp2
  all_goals try (go_region_with ((go_at_call 96; (with_reducible refine (small_at b ?hn _).mono ?_); (case hn => first | rfl | omega); rintro e w1 ⟨rfl, rfl⟩)))
  all_goals try go_wp2
  all_goals
    clear e1 e2 e3 hcv hs1 hs2
    try rw [bs_append]
    clear hu33 g0 g1 g2 g3 g4 g5 g6 g7 g8 g9
    try simp only [cast_eq, beq_iff_eq, bne_iff_ne, Bool.eq_false_iff, ne_eq, Bool.not_eq_true', Bool.or_eq_true, Bool.and_eq_true, Decidable.not_not, decide_eq_true_eq] at *
    have hr := HR.out
    have hl := HL.out
    unfold Trail.url at hr
    try dsimp only at hr
    repeat' split at hr
    all_goals first
      | contradiction
      | (exfalso; omega)
      | (subst hr; (with_reducible refine ret_alloc2 Tryd.results105 ?_ ?_ ?_ ?_) <;> rfl)
      | (subst hr; (with_reducible refine ret_alloc3d Tryd.results105 ?_ ?_ ?_ ?_) <;> rfl)
      | (subst_vars; (with_reducible refine ret_alloc2 Tryd.results105 ?_ ?_ ?_ ?_) <;> rfl)
      | (subst_vars; (with_reducible refine ret_alloc3d Tryd.results105 ?_ ?_ ?_ ?_) <;> rfl)
      | (exfalso; simp_all; done)
end Go.Proofs.YtfplocpjdjjoaaaDoor.Ctxs
