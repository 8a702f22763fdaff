/-
  Where a hole may be, as ctx.HoleAt and ctx.After answer it. Conditions: as each theorem says.
-/
import Derived.Test.YtfplocpjdjjoaaaDoorGb
namespace Go.Proofs.YtfplocpjdjjoaaaDoor.Ctxs
open Go Go.RowKit Go.Proofs.YtfplocpjdjjoaaaDoor.Trail Go.Proofs.YtfplocpjdjjoaaaDoorW.PrintWords
set_option linter.unusedVariables false
set_option linter.unusedSimpArgs false
def quoted (c : Cx) : Bool := (c.su == 1 || c.su == 2) && !c.es
def holeAt (c : Cx) : Nat :=
  if c.st = 0 then 1
  else if c.st = 17 ∧ (c.el = 1 ∨ c.el = 2) then 2
  else if c.st = 17 ∧ c.el = 3 ∧ quoted c = true then 7
  else if c.st = 17 ∧ c.el = 4 ∧ quoted c = true then 9
  else if c.st ≠ 8 ∨ c.qu = 0 then 0
  else if c.ak = 0 then 3
  else if c.ak = 2 ∧ quoted c = true then 8
  else if c.ak = 3 ∧ quoted c = true then 10
  else if c.ak ≠ 1 then 0
  else if c.pa = 0 then 4
  else if c.pa = 3 then 5
  else if c.pa = 4 then 6
  else 0
set_option maxHeartbeats 4000000 in
set_option maxRecDepth 100000 in
theorem quoted_world (c : Cx) (w : World) : Calls Tryd.prog 47 #[.agg (cxs c)] w fun e w' => e = .returned (.bool (quoted c)) ∧ w' = w.alloc (.cells (cxs c) 33) := by
  have hu33 := Tryd.underlying33
  obtain ⟨st, el, en, ak, qu, pa, su, es, da, nm⟩ := c
  unfold cxs
  dsimp only
  obtain ⟨q, hq⟩ : ∃ q, q = quoted ⟨st, el, en, ak, qu, pa, su, es, da, nm⟩ := ⟨_, rfl⟩
  rw [← hq]
  have HQ := Aside0.mk hq
  clear hq
  go_enter Tryd.func47, Tryd.ntmps47
  go_wp2
  all_goals
    clear hu33
    go_ret
    refine ⟨ret_bool ?_, ?_⟩
    rotate_left
    · first
        | rfl
        | ((try simp only [cast_eq, Int.natCast_inj, beq_iff_eq, bne_iff_ne, Bool.eq_false_iff, ne_eq, Bool.not_eq_true', Bool.or_eq_true, Bool.and_eq_true, Decidable.not_not, decide_eq_true_eq] at *); subst_vars; rfl)
    rw [HQ.out]
    (try simp only [cast_eq, Int.natCast_inj, beq_iff_eq, bne_iff_ne, Bool.eq_false_iff, ne_eq, Bool.not_eq_true', Bool.or_eq_true, Bool.and_eq_true, Decidable.not_not, decide_eq_true_eq] at *)
    unfold quoted
    dsimp only
    first
      | (cases es <;> simp_all <;> done)
      | (cases es <;> simp_all <;> omega)
theorem quoted_at {v : Array Value} (c : Cx) (hv : v = cxs c) (b : Bool) (hb : b = quoted c) (w : World) : Calls Tryd.prog 47 #[.agg v] w fun e w' => e = .returned (.bool b) ∧ w' = w.alloc (.cells v 33) := hv ▸ hb ▸ quoted_world c w
set_option maxHeartbeats 4000000 in
set_option maxRecDepth 100000 in
theorem holeAt_f (c : Cx) (hb : quoted c = false) (w : World) : Calls Tryd.prog 20 #[.agg (cxs c)] w fun e w' => e = .returned (.int .u8 (holeAt c : Int)) ∧ Below w.heap.size w w' := by
  have hu33 := Tryd.underlying33
  obtain ⟨h, hh⟩ : ∃ h, h = holeAt c := ⟨_, rfl⟩
  rw [← hh]
  have HH := Aside0.mk hh
  have HB := Aside0.mk hb.symm
  clear hh hb
  simp only [cxs]
  go_enter Tryd.func20, Tryd.ntmps20
  go_wp2_with (go_at_call 47; (with_reducible refine (quoted_at c ?hv false HB.out _).mono ?_); (case hv => first | rfl | (simp_all [cxs]; done)); rintro e w1 ⟨rfl, rfl⟩)
  all_goals
    clear hu33
    go_ret
    refine ⟨ret_int ?_, by repeat (first | exact Below.refl _ _ | refine Below.alloc ?_ (by simp) _)⟩
    rw [HH.out]
    have hb := HB.out
    (try simp only [cast_eq, Int.natCast_inj, beq_iff_eq, bne_iff_ne, Bool.eq_false_iff, ne_eq, Bool.not_eq_true', Bool.or_eq_true, Bool.and_eq_true, Decidable.not_not, decide_eq_true_eq] at *)
    unfold holeAt
    rw [← HB.out]
    simp only [Bool.false_eq_true, and_false, and_true, if_false]
    repeat' split
    all_goals first
      | rfl
      | (exfalso; omega)
set_option maxHeartbeats 4000000 in
set_option maxRecDepth 100000 in
theorem holeAt_t (c : Cx) (hb : quoted c = true) (w : World) : Calls Tryd.prog 20 #[.agg (cxs c)] w fun e w' => e = .returned (.int .u8 (holeAt c : Int)) ∧ Below w.heap.size w w' := by
  have hu33 := Tryd.underlying33
  obtain ⟨h, hh⟩ : ∃ h, h = holeAt c := ⟨_, rfl⟩
  rw [← hh]
  have HH := Aside0.mk hh
  have HB := Aside0.mk hb.symm
  clear hh hb
  simp only [cxs]
  go_enter Tryd.func20, Tryd.ntmps20
  go_wp2_with (go_at_call 47; (with_reducible refine (quoted_at c ?hv true HB.out _).mono ?_); (case hv => first | rfl | (simp_all [cxs]; done)); rintro e w1 ⟨rfl, rfl⟩)
  all_goals
    clear hu33
    go_ret
    refine ⟨ret_int ?_, by repeat (first | exact Below.refl _ _ | refine Below.alloc ?_ (by simp) _)⟩
    rw [HH.out]
    have hb := HB.out
    (try simp only [cast_eq, Int.natCast_inj, beq_iff_eq, bne_iff_ne, Bool.eq_false_iff, ne_eq, Bool.not_eq_true', Bool.or_eq_true, Bool.and_eq_true, Decidable.not_not, decide_eq_true_eq] at *)
    unfold holeAt
    rw [← HB.out]
    simp only [Bool.false_eq_true, and_false, and_true, if_false]
    repeat' split
    all_goals first
      | rfl
      | (exfalso; omega)
theorem holeAt_calls (c : Cx) (w : World) : Calls Tryd.prog 20 #[.agg (cxs c)] w fun e w' => e = .returned (.int .u8 (holeAt c : Int)) ∧ Below w.heap.size w w' := by
  cases hb : quoted c with
  | false => exact holeAt_f c hb w
  | true => exact holeAt_t c hb w
theorem holeAt_at {v : Array Value} (c : Cx) (hv : v = cxs c) (h : Nat) (hh : h = holeAt c) (w : World) : Calls Tryd.prog 20 #[.agg v] w fun e w' => e = .returned (.int .u8 (h : Int)) ∧ Below w.heap.size w w' := hv ▸ hh ▸ holeAt_calls c w
/-- The context behind a hole. -/
def after (c : Cx) : Cx := if holeAt c = 0 then bad else if holeAt c = 4 then { c with pa := 2 } else c
end Go.Proofs.YtfplocpjdjjoaaaDoor.Ctxs
