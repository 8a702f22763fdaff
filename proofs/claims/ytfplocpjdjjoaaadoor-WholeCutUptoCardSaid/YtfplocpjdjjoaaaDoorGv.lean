/-
  A context within a value, or within the text of an element, is in form, says ctx.Form.
  Conditions: as each theorem says.
-/
import Derived.Test.YtfplocpjdjjoaaaDoorGe
import Derived.LoopTactic
import Derived.Deep.QuietTactic
import Derived.BigQuiet
namespace Go.Proofs.YtfplocpjdjjoaaaDoor.Ctxs
open Go Go.RowKit Go.Proofs.YtfplocpjdjjoaaaDoor.Trail Go.Proofs.YtfplocpjdjjoaaaDoorW.PrintWords
set_option linter.unusedVariables false
set_option linter.unusedSimpArgs false
theorem formNamed_at' {s : ByteArray} {n : Int} (l : List Nat) (hs : s = bs l) (m : Nat) (hn : n = (m : Int)) (hl : Low l) (h1 : 1 ≤ l.length) (h2 : l.length ≤ m) (hm : m ≤ 1000) (w : World) : Calls Tryd.prog 30 #[.string s, .int .i64 n] w fun e w' => e = .returned (.bool true) ∧ w = w' := hs ▸ hn ▸ formNamed l m hl h1 h2 hm w
theorem formCode_at' {v : Array Value} (c : Cx) (hv : v = cxs c) (script : Bool) (h1 : script = true ∨ c.su ≠ 4) (h2 : c.es = false ∨ c.su = 1 ∨ c.su = 2) (w : World) : Calls Tryd.prog 55 #[.agg v, .bool script] w fun e w' => e = .returned (.bool true) ∧ Below w.heap.size w w' := hv ▸ formCode c script h1 h2 w
set_option maxHeartbeats 4000000 in
set_option maxRecDepth 100000 in
theorem formValue0 (el qu ak : Nat) (en : Bool)  (hq : qu = 0 ∨ qu = 34 ∨ qu = 39) (ha : ak = 0 ∨ ak = 4) (w : World) : Calls Tryd.prog 31 #[.agg (cxs { st := 8, el := el, en := en, ak := ak, qu := qu }), .agg (cxs { st := 8, el := el, en := en })] w fun e w' => e = .returned (.bool true) ∧ Below w.heap.size w w' := by
  have hu33 := Tryd.underlying33
  have hb0 : bs [] = (⟨#[]⟩ : ByteArray) := rfl
  have hqn : (((qu : Int) != 0) = false) ∨ (((qu : Int) != 0) = true ∧ ((qu : Int) != 34) = false) ∨ (((qu : Int) != 0) = true ∧ ((qu : Int) != 34) = true ∧ ((qu : Int) != 39) = false) := by
    simp only [bne_iff_ne, bne_eq_false_iff_eq, ne_eq]
    omega
  clear hq
  have a1 : ((ak : Int) == 1) = false := by rw [beq_eq_false_iff_ne]; omega
  have a2 : ((ak : Int) == 2) = false := by rw [beq_eq_false_iff_ne]; omega
  have a3 : ((ak : Int) == 3) = false := by rw [beq_eq_false_iff_ne]; omega
  clear ha
  simp only [cxs, hb0]
  clear hb0
  rcases hqn with q1 | ⟨q1, q2⟩ | ⟨q1, q2, q3⟩
  all_goals
    go_enter Tryd.func31, Tryd.ntmps31
    go_wp2
    go_region
    all_goals
      go_wp2
      clear hu33
      go_ret
      exact ⟨rfl, Below.drew (((Below.refl _ _).alloc (Nat.le_refl _) _).alloc (by simp) _)⟩
set_option maxHeartbeats 4000000 in
set_option maxRecDepth 100000 in
theorem formValue1 (el qu pa : Nat) (en : Bool)  (hq : qu = 0 ∨ qu = 34 ∨ qu = 39) (hp : pa ≠ 1) (w : World) : Calls Tryd.prog 31 #[.agg (cxs { st := 8, el := el, en := en, ak := 1, qu := qu, pa := pa }), .agg (cxs { st := 8, el := el, en := en })] w fun e w' => e = .returned (.bool true) ∧ Below w.heap.size w w' := by
  have hu33 := Tryd.underlying33
  have hb0 : bs [] = (⟨#[]⟩ : ByteArray) := rfl
  have hqn : (((qu : Int) != 0) = false) ∨ (((qu : Int) != 0) = true ∧ ((qu : Int) != 34) = false) ∨ (((qu : Int) != 0) = true ∧ ((qu : Int) != 34) = true ∧ ((qu : Int) != 39) = false) := by
    simp only [bne_iff_ne, bne_eq_false_iff_eq, ne_eq]
    omega
  clear hq
  have a1 : ((pa : Int) == 1) = false := by rw [beq_eq_false_iff_ne]; omega
  clear hp
  simp only [cxs, hb0]
  clear hb0
  rcases hqn with q1 | ⟨q1, q2⟩ | ⟨q1, q2, q3⟩
  all_goals
    go_enter Tryd.func31, Tryd.ntmps31
    go_wp2
    go_region
    all_goals
      go_wp2
      clear hu33
      go_ret
      exact ⟨rfl, Below.drew (((Below.refl _ _).alloc (Nat.le_refl _) _).alloc (by simp) _)⟩
set_option maxHeartbeats 4000000 in
set_option maxRecDepth 100000 in
theorem formValue2 (el qu  : Nat) (en : Bool) (nm : List Nat) (hq : qu = 0 ∨ qu = 34 ∨ qu = 39) (hl : Low nm) (h1 : 1 ≤ nm.length) (h2 : nm.length ≤ 16) (w : World) : Calls Tryd.prog 31 #[.agg (cxs { st := 8, el := el, en := en, ak := 1, qu := qu, pa := 1, nm := nm }), .agg (cxs { st := 8, el := el, en := en })] w fun e w' => e = .returned (.bool true) ∧ Below w.heap.size w w' := by
  have hu33 := Tryd.underlying33
  have hb0 : bs [] = (⟨#[]⟩ : ByteArray) := rfl
  have hqn : (((qu : Int) != 0) = false) ∨ (((qu : Int) != 0) = true ∧ ((qu : Int) != 34) = false) ∨ (((qu : Int) != 0) = true ∧ ((qu : Int) != 34) = true ∧ ((qu : Int) != 39) = false) := by
    simp only [bne_iff_ne, bne_eq_false_iff_eq, ne_eq]
    omega
  clear hq
  have HL := Aside0.mk hl
  have H1 := Aside0.mk h1
  have H2 := Aside0.mk h2
  clear hl h1 h2
  simp only [cxs, hb0]
  clear hb0
  rcases hqn with q1 | ⟨q1, q2⟩ | ⟨q1, q2, q3⟩
  all_goals
    go_enter Tryd.func31, Tryd.ntmps31
    go_wp2
    go_region
    all_goals
      go_wp2_with (go_at_call 30; (with_reducible refine (formNamed_at' nm ?hs 16 ?hn HL.out H1.out H2.out (by decide) _).mono ?_); (case hs => rfl); (case hn => rfl); rintro e w1 ⟨rfl, rfl⟩)
      clear hu33
      go_ret
      exact ⟨rfl, Below.drew (((Below.refl _ _).alloc (Nat.le_refl _) _).alloc (by simp) _)⟩
set_option maxHeartbeats 4000000 in
set_option maxRecDepth 100000 in
theorem formValue3 (el qu su : Nat) (en : Bool) (es : Bool) (hq : qu = 0 ∨ qu = 34 ∨ qu = 39) (hs : True) (he : es = false ∨ su = 1 ∨ su = 2) (w : World) : Calls Tryd.prog 31 #[.agg (cxs { st := 8, el := el, en := en, ak := 2, qu := qu, su := su, es := es }), .agg (cxs { st := 8, el := el, en := en })] w fun e w' => e = .returned (.bool true) ∧ Below w.heap.size w w' := by
  have hu33 := Tryd.underlying33
  have hb0 : bs [] = (⟨#[]⟩ : ByteArray) := rfl
  have hqn : (((qu : Int) != 0) = false) ∨ (((qu : Int) != 0) = true ∧ ((qu : Int) != 34) = false) ∨ (((qu : Int) != 0) = true ∧ ((qu : Int) != 34) = true ∧ ((qu : Int) != 39) = false) := by
    simp only [bne_iff_ne, bne_eq_false_iff_eq, ne_eq]
    omega
  clear hq
  have HS := Aside0.mk hs
  have HE := Aside0.mk he
  clear hs he
  simp only [cxs, hb0]
  clear hb0
  rcases hqn with q1 | ⟨q1, q2⟩ | ⟨q1, q2, q3⟩
  all_goals
    go_enter Tryd.func31, Tryd.ntmps31
    go_wp2
    go_region
    all_goals
      go_wp2
      go_region
      all_goals
        go_wp2_with (go_at_call 55; (with_reducible refine (formCode_at' { st := 8, el := el, en := en, ak := 2, qu := qu, su := su, es := es } ?hv true ?h1 HE.out _).mono ?_); (case hv => rfl); (case h1 => exact .inl rfl); rintro e w1 ⟨rfl, hb⟩; have HB1 := Aside0.mk (below_step (Below.drew (Below.drew (((Below.refl _ _).alloc (Nat.le_refl _) _).alloc (by simp) _))) hb); clear hb)
        clear hu33
        go_ret
        exact ⟨rfl, HB1.out⟩
set_option maxHeartbeats 4000000 in
set_option maxRecDepth 100000 in
theorem formValue4 (el qu su : Nat) (en : Bool) (es : Bool) (hq : qu = 0 ∨ qu = 34 ∨ qu = 39) (hs : su ≠ 4) (he : es = false ∨ su = 1 ∨ su = 2) (w : World) : Calls Tryd.prog 31 #[.agg (cxs { st := 8, el := el, en := en, ak := 3, qu := qu, su := su, es := es }), .agg (cxs { st := 8, el := el, en := en })] w fun e w' => e = .returned (.bool true) ∧ Below w.heap.size w w' := by
  have hu33 := Tryd.underlying33
  have hb0 : bs [] = (⟨#[]⟩ : ByteArray) := rfl
  have hqn : (((qu : Int) != 0) = false) ∨ (((qu : Int) != 0) = true ∧ ((qu : Int) != 34) = false) ∨ (((qu : Int) != 0) = true ∧ ((qu : Int) != 34) = true ∧ ((qu : Int) != 39) = false) := by
    simp only [bne_iff_ne, bne_eq_false_iff_eq, ne_eq]
    omega
  clear hq
  have HS := Aside0.mk hs
  have HE := Aside0.mk he
  clear hs he
  simp only [cxs, hb0]
  clear hb0
  rcases hqn with q1 | ⟨q1, q2⟩ | ⟨q1, q2, q3⟩
  all_goals
    go_enter Tryd.func31, Tryd.ntmps31
    go_wp2
    go_region
    all_goals
      go_wp2
      go_region
      all_goals
        go_wp2_with (go_at_call 55; (with_reducible refine (formCode_at' { st := 8, el := el, en := en, ak := 3, qu := qu, su := su, es := es } ?hv false ?h1 HE.out _).mono ?_); (case hv => rfl); (case h1 => exact .inr HS.out); rintro e w1 ⟨rfl, hb⟩; have HB1 := Aside0.mk (below_step (Below.drew (Below.drew (((Below.refl _ _).alloc (Nat.le_refl _) _).alloc (by simp) _))) hb); clear hb)
        clear hu33
        go_ret
        exact ⟨rfl, HB1.out⟩
end Go.Proofs.YtfplocpjdjjoaaaDoor.Ctxs
