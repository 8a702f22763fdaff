/-
  The functions of step that go through a tag, as plain functions of the context.
  The functions of step that go through JavaScript, CSS, URLs and notes, as plain functions of the context.
  Conditions: as each theorem says.
-/
import Derived.Test.YtfplocpjdjjoaaaDoorGb
namespace Go.Proofs.YtfplocpjdjjoaaaDoor.Ctxs
open Go Go.RowKit Go.Proofs.YtfplocpjdjjoaaaDoor.Trail Go.Proofs.YtfplocpjdjjoaaaDoorW.PrintWords
set_option linter.unusedVariables false
set_option linter.unusedSimpArgs false
set_option maxHeartbeats 4000000 in
set_option maxRecDepth 100000 in
theorem named_calls (c : Cx) (b : Nat) (hs : Small c.nm) (hn : c.nm.length ≤ 1000) (w : World) (hG : Glob w) : Calls Tryd.prog 102 #[.agg (cxs c), .int .u8 (b : Int)] w (RetB (Trail.named attrOf c b) w) := by
  have hG0 := Aside0.mk hG
  have hu33 := Tryd.underlying33
  have hz := glob_pos hG
  obtain ⟨g0, g1, g2, g3, g4, g5, g6, g7, g8, g9⟩ := glob_cells hG
  clear hG
  obtain ⟨st, el, en, ak, qu, pa, su, es, da, nm⟩ := c
  dsimp only at hs hn
  have HS := Aside0.mk hs
  have HN := Aside0.mk hn
  clear hs hn
  simp only [cxs]
  obtain ⟨r, hr⟩ : ∃ r, r = Trail.named attrOf ⟨st, el, en, ak, qu, pa, su, es, da, nm⟩ b := ⟨_, rfl⟩
  rw [← hr]
  have HR := Aside0.mk hr
  clear hr
  have he : (bs nm).toList.isEmpty = decide (nm = []) := by rw [bs_list]; cases nm <;> simp
  by_cases hd : nm = []
  · rw [decide_eq_true hd] at he
    have HD := Aside0.mk hd
    clear hd
    go_enter Tryd.func102, Tryd.ntmps102
    go_wp2_with (first | (go_at_call 97; (with_reducible refine (blank_at b ?hn _).mono ?_); (case hn => first | rfl | omega); rintro e w1 ⟨rfl, rfl⟩) | (go_at_call 126; refine (attrOf_calls nm HS.out _).mono ?_; rintro e w1 ⟨rfl, rfl⟩) | (go_at_call 99; (with_reducible refine (within_lit _ _ _ _ _ _ _ _ _ _ _ _).mono ?_); rintro e w1 ⟨rfl, hb⟩; obtain ⟨HA, HZ⟩ := after2 hb; obtain ⟨z0, z1, z2, z3, z4, z5, z6, z7, z8, z9, zf⟩ := HZ; obtain ⟨⟨y0, y1, y2, y3, y4, y5, y6, y7, y8, y9, yf⟩, hl1, hl0⟩ := after2' hb; clear hb) | (go_at_call 98; (with_reducible refine (grown_at ⟨st, el, en, ak, qu, pa, su, es, da, nm⟩ ?hv b ?hn HN.out _ (glob_old hG0.out)).mono ?_); (case hv => rfl); (case hn => first | rfl | omega); rintro e w1 ⟨rfl, hb⟩; obtain ⟨HA, HZ⟩ := after2 hb; obtain ⟨z0, z1, z2, z3, z4, z5, z6, z7, z8, z9, zf⟩ := HZ; clear hb; simp only [cxs]))
    all_goals
      clear hu33 g0 g1 g2 g3 g4 g5 g6 g7 g8 g9
      try simp only [cast_eq, beq_iff_eq, bne_iff_ne, Bool.eq_false_iff, ne_eq, Bool.not_eq_true', Bool.or_eq_true, Bool.and_eq_true, Decidable.not_not, decide_eq_true_eq] at *
      have hr := HR.out
      have hd := HD.out
      unfold Trail.named at hr
      try dsimp only at hr
      repeat' split at hr
      all_goals first
        | contradiction
        | (exfalso; omega)
        | (subst hr; (with_reducible refine ret_alloc2b Tryd.results102 ?_ ?_ ?_ ?_ ?_) <;> rfl)
        | (subst hr; (with_reducible refine ret_putb HA Tryd.results102 ?_ ?_ ?_ ?_) <;> rfl)
        | (subst hr; (with_reducible refine ret_putb1 HA Tryd.results102 ?_ ?_ ?_ ?_) <;> rfl)
        | (exfalso; simp_all; done)
  · rw [decide_eq_false hd] at he
    have HD := Aside0.mk hd
    clear hd
    go_enter Tryd.func102, Tryd.ntmps102
    go_wp2_with (first | (go_at_call 97; (with_reducible refine (blank_at b ?hn _).mono ?_); (case hn => first | rfl | omega); rintro e w1 ⟨rfl, rfl⟩) | (go_at_call 126; refine (attrOf_calls nm HS.out _).mono ?_; rintro e w1 ⟨rfl, rfl⟩) | (go_at_call 99; (with_reducible refine (within_lit _ _ _ _ _ _ _ _ _ _ _ _).mono ?_); rintro e w1 ⟨rfl, hb⟩; obtain ⟨HA, HZ⟩ := after2 hb; obtain ⟨z0, z1, z2, z3, z4, z5, z6, z7, z8, z9, zf⟩ := HZ; obtain ⟨⟨y0, y1, y2, y3, y4, y5, y6, y7, y8, y9, yf⟩, hl1, hl0⟩ := after2' hb; clear hb) | (go_at_call 98; (with_reducible refine (grown_at ⟨st, el, en, ak, qu, pa, su, es, da, nm⟩ ?hv b ?hn HN.out _ (glob_old hG0.out)).mono ?_); (case hv => rfl); (case hn => first | rfl | omega); rintro e w1 ⟨rfl, hb⟩; obtain ⟨HA, HZ⟩ := after2 hb; obtain ⟨z0, z1, z2, z3, z4, z5, z6, z7, z8, z9, zf⟩ := HZ; clear hb; simp only [cxs]))
    all_goals
      clear hu33 g0 g1 g2 g3 g4 g5 g6 g7 g8 g9
      try simp only [cast_eq, beq_iff_eq, bne_iff_ne, Bool.eq_false_iff, ne_eq, Bool.not_eq_true', Bool.or_eq_true, Bool.and_eq_true, Decidable.not_not, decide_eq_true_eq] at *
      have hr := HR.out
      have hd := HD.out
      unfold Trail.named at hr
      try dsimp only at hr
      repeat' split at hr
      all_goals first
        | contradiction
        | (exfalso; omega)
        | (subst hr; (with_reducible refine ret_alloc2b Tryd.results102 ?_ ?_ ?_ ?_ ?_) <;> rfl)
        | (subst hr; (with_reducible refine ret_putb HA Tryd.results102 ?_ ?_ ?_ ?_) <;> rfl)
        | (subst hr; (with_reducible refine ret_putb1 HA Tryd.results102 ?_ ?_ ?_ ?_) <;> rfl)
        | (exfalso; simp_all; done)
theorem closes_at {n : Int} (b : Nat) (hn : n = (b : Int)) (w : World) : Calls Tryd.prog 100 #[.int .u8 n] w (Ret (closes b) w) := hn ▸ closes_calls b w
theorem begun_at {v : Array Value} {n : Int} (c : Cx) (hv : v = cxs c) (b : Nat) (hb : n = (b : Int)) (w : World) (hG : Glob w) : Calls Tryd.prog 101 #[.agg v, .int .u8 n] w (RetB (Trail.begun c b) w) := hv ▸ hb ▸ begun_calls c b w hG
theorem named_at {v : Array Value} {n : Int} (c : Cx) (hv : v = cxs c) (b : Nat) (hb : n = (b : Int)) (hs : Small c.nm) (hn : c.nm.length ≤ 1000) (w : World) (hG : Glob w) : Calls Tryd.prog 102 #[.agg v, .int .u8 n] w (RetB (Trail.named attrOf c b) w) := hv ▸ hb ▸ named_calls c b hs hn w hG
set_option maxHeartbeats 4000000 in
set_option maxRecDepth 100000 in
theorem tag_calls (c : Cx) (b : Nat) (hs : Small c.nm) (hn : c.nm.length ≤ 1000) (w : World) (hG : Glob w) : Calls Tryd.prog 71 #[.agg (cxs c), .int .u8 (b : Int)] w (RetB (Trail.tag attrOf c b) w) := by
  have hG0 := Aside0.mk hG
  have hu33 := Tryd.underlying33
  have hz := glob_pos hG
  obtain ⟨g0, g1, g2, g3, g4, g5, g6, g7, g8, g9⟩ := glob_cells hG
  clear hG
  obtain ⟨st, el, en, ak, qu, pa, su, es, da, nm⟩ := c
  dsimp only at hs hn
  have HS := Aside0.mk hs
  have HN := Aside0.mk hn
  clear hs hn
  simp only [cxs]
  obtain ⟨r, hr⟩ : ∃ r, r = Trail.tag attrOf ⟨st, el, en, ak, qu, pa, su, es, da, nm⟩ b := ⟨_, rfl⟩
  rw [← hr]
  have HR := Aside0.mk hr
  clear hr
  go_enter Tryd.func71, Tryd.ntmps71
  go_wp2_with (first | (go_at_call 97; (with_reducible refine (blank_at b ?hn _).mono ?_); (case hn => first | rfl | omega); rintro e w1 ⟨rfl, rfl⟩) | (go_at_call 25; refine (elemOf_calls nm HS.out _).mono ?_; rintro e w1 ⟨rfl, rfl⟩) | (go_at_call 99; (with_reducible refine (within_lit _ _ _ _ _ _ _ _ _ _ _ _).mono ?_); rintro e w1 ⟨rfl, hb⟩; obtain ⟨HA, HZ⟩ := after2 hb; obtain ⟨z0, z1, z2, z3, z4, z5, z6, z7, z8, z9, zf⟩ := HZ; clear hb) | (go_at_call 98; (with_reducible refine (grown_at ⟨st, el, en, ak, qu, pa, su, es, da, nm⟩ ?hv b ?hn HN.out _ (glob_old hG0.out)).mono ?_); (case hv => rfl); (case hn => first | rfl | omega); rintro e w1 ⟨rfl, hb⟩; obtain ⟨HA, HZ⟩ := after2 hb; obtain ⟨z0, z1, z2, z3, z4, z5, z6, z7, z8, z9, zf⟩ := HZ; clear hb; simp only [cxs]) | (go_at_call 100; (with_reducible refine (closes_at el ?hn _).mono ?_); (case hn => first | rfl | omega); rintro e w1 ⟨rfl, hb⟩; obtain ⟨HA, HZ⟩ := after2 hb; obtain ⟨z0, z1, z2, z3, z4, z5, z6, z7, z8, z9, zf⟩ := HZ; clear hb; simp only [cxs]) | (go_at_call 101; (with_reducible refine (begun_at ⟨st, el, en, ak, qu, pa, su, es, da, nm⟩ ?hv b ?hn _ (glob_old hG0.out)).mono ?_); (case hv => rfl); (case hn => first | rfl | omega); rintro e w1 ⟨rfl, hb⟩; obtain ⟨HA, HZ⟩ := after2 hb; obtain ⟨z0, z1, z2, z3, z4, z5, z6, z7, z8, z9, zf⟩ := HZ; clear hb; simp only [cxs]) | (go_at_call 102; (with_reducible refine (named_at ⟨st, el, en, ak, qu, pa, su, es, da, nm⟩ ?hv b ?hn HS.out HN.out _ (glob_old hG0.out)).mono ?_); (case hv => rfl); (case hn => first | rfl | omega); rintro e w1 ⟨rfl, hb⟩; obtain ⟨HA, HZ⟩ := after2 hb; obtain ⟨z0, z1, z2, z3, z4, z5, z6, z7, z8, z9, zf⟩ := HZ; clear hb; simp only [cxs]))
  all_goals
    clear hu33 g0 g1 g2 g3 g4 g5 g6 g7 g8 g9
    try simp only [cast_eq, beq_iff_eq, bne_iff_ne, Bool.eq_false_iff, ne_eq, Bool.not_eq_true', Bool.or_eq_true, Bool.and_eq_true, Decidable.not_not, decide_eq_true_eq] at *
    have hr := HR.out
    unfold Trail.tag at hr
    try dsimp only at hr
    repeat' split at hr
    all_goals first
      | contradiction
      | (exfalso; omega)
      | (subst hr; (with_reducible refine ret_putb HA Tryd.results71 ?_ ?_ ?_ ?_) <;> rfl)
      | (subst hr; (with_reducible refine ret_alloc2b Tryd.results71 ?_ ?_ ?_ ?_ ?_) <;> rfl)
      | (exfalso; simp_all; done)
end Go.Proofs.YtfplocpjdjjoaaaDoor.Ctxs
namespace Go.Proofs.YtfplocpjdjjoaaaDoor.Ctxs
open Go Go.RowKit Go.Proofs.YtfplocpjdjjoaaaDoor.Trail Go.Proofs.YtfplocpjdjjoaaaDoorW.PrintWords
set_option linter.unusedVariables false
set_option linter.unusedSimpArgs false
theorem text_at {v : Array Value} {n : Int} (c : Cx) (hv : v = cxs c) (b : Nat) (hb : n = (b : Int)) (w : World) (hG : Glob w) : Calls Tryd.prog 128 #[.agg v, .int .u8 n] w (Ret (text c b) w) := hv ▸ hb ▸ text_calls c b w hG
set_option maxHeartbeats 4000000 in
set_option maxRecDepth 100000 in
theorem code_calls0 (c : Cx) (b : Nat) (script : Bool) (h0 : c.su = 0) (w : World) (hG : Glob w) : Calls Tryd.prog 106 #[.agg (cxs c), .int .u8 (b : Int), .bool script] w (Ret (codeTop c b script) w) := by
  cases script with
  | false =>
    have hu33 := Tryd.underlying33
    have hz := glob_pos hG
    obtain ⟨g0, g1, g2, g3, g4, g5, g6, g7, g8, g9⟩ := glob_cells hG
    clear hG
    obtain ⟨st, el, en, ak, qu, pa, su, es, da, nm⟩ := c
    dsimp only at h0
    have hsu : ((su : Int) == 0) = true := by simp [h0]
    have H0 := Aside0.mk h0
    clear h0
    simp only [cxs]
    obtain ⟨r, hr⟩ : ∃ r, r = codeTop ⟨st, el, en, ak, qu, pa, su, es, da, nm⟩ b false := ⟨_, rfl⟩
    rw [← hr]
    have HR := Aside0.mk hr
    clear hr
    go_enter Tryd.func106, Tryd.ntmps106
    go_wp2
    all_goals
      clear hu33 g0 g1 g2 g3 g4 g5 g6 g7 g8 g9
      try simp only [cast_eq, beq_iff_eq, bne_iff_ne, Bool.eq_false_iff, ne_eq, Bool.not_eq_true', Bool.or_eq_true, Bool.and_eq_true, Decidable.not_not, decide_eq_true_eq] at *
      have hr := HR.out
      have h0 := H0.out
      unfold codeTop at hr
      try dsimp only at hr
      repeat' split at hr
      all_goals first
        | contradiction
        | (exfalso; omega)
        | (subst hr; (with_reducible refine ret_alloc2 Tryd.results106 ?_ ?_ ?_ ?_) <;> rfl)
        | (exfalso; simp_all; done)
  | true =>
    have hu33 := Tryd.underlying33
    have hz := glob_pos hG
    obtain ⟨g0, g1, g2, g3, g4, g5, g6, g7, g8, g9⟩ := glob_cells hG
    clear hG
    obtain ⟨st, el, en, ak, qu, pa, su, es, da, nm⟩ := c
    dsimp only at h0
    have hsu : ((su : Int) == 0) = true := by simp [h0]
    have H0 := Aside0.mk h0
    clear h0
    simp only [cxs]
    obtain ⟨r, hr⟩ : ∃ r, r = codeTop ⟨st, el, en, ak, qu, pa, su, es, da, nm⟩ b true := ⟨_, rfl⟩
    rw [← hr]
    have HR := Aside0.mk hr
    clear hr
    go_enter Tryd.func106, Tryd.ntmps106
    go_wp2
    all_goals
      clear hu33 g0 g1 g2 g3 g4 g5 g6 g7 g8 g9
      try simp only [cast_eq, beq_iff_eq, bne_iff_ne, Bool.eq_false_iff, ne_eq, Bool.not_eq_true', Bool.or_eq_true, Bool.and_eq_true, Decidable.not_not, decide_eq_true_eq] at *
      have hr := HR.out
      have h0 := H0.out
      unfold codeTop at hr
      try dsimp only at hr
      repeat' split at hr
      all_goals first
        | contradiction
        | (exfalso; omega)
        | (subst hr; (with_reducible refine ret_alloc2 Tryd.results106 ?_ ?_ ?_ ?_) <;> rfl)
        | (exfalso; simp_all; done)
theorem code_at0 {v : Array Value} {n : Int} (c : Cx) (hv : v = cxs c) (b : Nat) (hb : n = (b : Int)) (script : Bool) (h0 : c.su = 0) (w : World) (hG : Glob w) : Calls Tryd.prog 106 #[.agg v, .int .u8 n, .bool script] w (Ret (codeTop c b script) w) := hv ▸ hb ▸ code_calls0 c b script h0 w hG
set_option maxHeartbeats 4000000 in
set_option maxRecDepth 100000 in
theorem code_calls (c : Cx) (b : Nat) (script : Bool) (w : World) (hG : Glob w) : Calls Tryd.prog 106 #[.agg (cxs c), .int .u8 (b : Int), .bool script] w (Ret (Trail.code c b script) w) := by
  by_cases h0 : c.su = 0
  · have e : Trail.code c b script = codeTop c b script := by unfold Trail.code; rw [if_pos h0]
    rw [e]
    exact code_calls0 c b script h0 w hG
  have hG0 := Aside0.mk hG
  cases script with
  | false =>
    have hu33 := Tryd.underlying33
    have hz := glob_pos hG
    obtain ⟨g0, g1, g2, g3, g4, g5, g6, g7, g8, g9⟩ := glob_cells hG
    clear hG
    obtain ⟨st, el, en, ak, qu, pa, su, es, da, nm⟩ := c
    dsimp only at h0
    have hsu : ((su : Int) == 0) = false := by simpa using h0
    have H0 := Aside0.mk h0
    clear h0
    simp only [cxs]
    obtain ⟨r, hr⟩ : ∃ r, r = Trail.code ⟨st, el, en, ak, qu, pa, su, es, da, nm⟩ b false := ⟨_, rfl⟩
    rw [← hr]
    have HR := Aside0.mk hr
    clear hr
    go_enter Tryd.func106, Tryd.ntmps106
    go_wp2_with (first | (go_at_call 106; (with_reducible refine (code_at0 ⟨st, el, en, ak, qu, pa, 0, es, da, nm⟩ ?hv b ?hn _ rfl _ (glob_old hG0.out)).mono ?_); (case hv => rfl); (case hn => first | rfl | omega); rintro e w1 ⟨rfl, hb⟩; obtain ⟨HA, HZ⟩ := after2 hb; obtain ⟨z0, z1, z2, z3, z4, z5, z6, z7, z8, z9, zf⟩ := HZ; clear hb; simp only [cxs]) | (go_at_call 128; (with_reducible refine (text_at ⟨st, el, en, ak, qu, pa, su, es, da, nm⟩ ?hv b ?hn _ (glob_old hG0.out)).mono ?_); (case hv => rfl); (case hn => first | rfl | omega); rintro e w1 ⟨rfl, hb⟩; obtain ⟨HA, HZ⟩ := after2 hb; obtain ⟨z0, z1, z2, z3, z4, z5, z6, z7, z8, z9, zf⟩ := HZ; clear hb; simp only [cxs]))
    all_goals
      clear hu33 g0 g1 g2 g3 g4 g5 g6 g7 g8 g9
      try simp only [cast_eq, beq_iff_eq, bne_iff_ne, Bool.eq_false_iff, ne_eq, Bool.not_eq_true', Bool.or_eq_true, Bool.and_eq_true, Decidable.not_not, decide_eq_true_eq] at *
      have hr := HR.out
      have h0 := H0.out
      unfold Trail.code at hr
      try dsimp only at hr
      repeat' split at hr
      all_goals first
        | contradiction
        | (exfalso; omega)
        | (subst hr; (with_reducible refine ret_put HA Tryd.results106 ?_ ?_ ?_) <;> rfl)
        | (subst hr; (with_reducible refine ret_alloc2 Tryd.results106 ?_ ?_ ?_ ?_) <;> rfl)
        | (exfalso; simp_all; done)
  | true =>
    have hu33 := Tryd.underlying33
    have hz := glob_pos hG
    obtain ⟨g0, g1, g2, g3, g4, g5, g6, g7, g8, g9⟩ := glob_cells hG
    clear hG
    obtain ⟨st, el, en, ak, qu, pa, su, es, da, nm⟩ := c
    dsimp only at h0
    have hsu : ((su : Int) == 0) = false := by simpa using h0
    have H0 := Aside0.mk h0
    clear h0
    simp only [cxs]
    obtain ⟨r, hr⟩ : ∃ r, r = Trail.code ⟨st, el, en, ak, qu, pa, su, es, da, nm⟩ b true := ⟨_, rfl⟩
    rw [← hr]
    have HR := Aside0.mk hr
    clear hr
    go_enter Tryd.func106, Tryd.ntmps106
    go_wp2_with (first | (go_at_call 106; (with_reducible refine (code_at0 ⟨st, el, en, ak, qu, pa, 0, es, da, nm⟩ ?hv b ?hn _ rfl _ (glob_old hG0.out)).mono ?_); (case hv => rfl); (case hn => first | rfl | omega); rintro e w1 ⟨rfl, hb⟩; obtain ⟨HA, HZ⟩ := after2 hb; obtain ⟨z0, z1, z2, z3, z4, z5, z6, z7, z8, z9, zf⟩ := HZ; clear hb; simp only [cxs]) | (go_at_call 128; (with_reducible refine (text_at ⟨st, el, en, ak, qu, pa, su, es, da, nm⟩ ?hv b ?hn _ (glob_old hG0.out)).mono ?_); (case hv => rfl); (case hn => first | rfl | omega); rintro e w1 ⟨rfl, hb⟩; obtain ⟨HA, HZ⟩ := after2 hb; obtain ⟨z0, z1, z2, z3, z4, z5, z6, z7, z8, z9, zf⟩ := HZ; clear hb; simp only [cxs]))
    all_goals
      clear hu33 g0 g1 g2 g3 g4 g5 g6 g7 g8 g9
      try simp only [cast_eq, beq_iff_eq, bne_iff_ne, Bool.eq_false_iff, ne_eq, Bool.not_eq_true', Bool.or_eq_true, Bool.and_eq_true, Decidable.not_not, decide_eq_true_eq] at *
      have hr := HR.out
      have h0 := H0.out
      unfold Trail.code at hr
      try dsimp only at hr
      repeat' split at hr
      all_goals first
        | contradiction
        | (exfalso; omega)
        | (subst hr; (with_reducible refine ret_put HA Tryd.results106 ?_ ?_ ?_) <;> rfl)
        | (subst hr; (with_reducible refine ret_alloc2 Tryd.results106 ?_ ?_ ?_ ?_) <;> rfl)
        | (exfalso; simp_all; done)
theorem code_at {v : Array Value} {n : Int} (c : Cx) (hv : v = cxs c) (b : Nat) (hb : n = (b : Int)) (script : Bool) (w : World) (hG : Glob w) : Calls Tryd.prog 106 #[.agg v, .int .u8 n, .bool script] w (Ret (Trail.code c b script) w) := hv ▸ hb ▸ code_calls c b script w hG
end Go.Proofs.YtfplocpjdjjoaaaDoor.Ctxs
