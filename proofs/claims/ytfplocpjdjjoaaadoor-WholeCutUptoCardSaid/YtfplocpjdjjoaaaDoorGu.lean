/-
  A context that markup leads to is in form, says ctx.Form.
  Conditions: as each theorem says.
-/
import Derived.Test.YtfplocpjdjjoaaaDoorGe
import Derived.LoopTactic
import Derived.Deep.QuietTactic
import Derived.BigQuiet
namespace Go.Proofs.YtfplocpjdjjoaaaDoor.Ctxs
open Go Go.RowKit Go.Proofs.YtfplocpjdjjoaaaDoor.Trail Go.Proofs.YtfplocpjdjjoaaaDoorW.PrintWords
set_option linter.unusedVariables false
set_option linter.unusedSimpArgs false
theorem formNamed_at {s : ByteArray} {n : Int} (l : List Nat) (hs : s = bs l) (m : Nat) (hn : n = (m : Int)) (hl : Low l) (h1 : 1 ≤ l.length) (h2 : l.length ≤ m) (hm : m ≤ 1000) (w : World) : Calls Tryd.prog 30 #[.string s, .int .i64 n] w fun e w' => e = .returned (.bool true) ∧ w = w' := hs ▸ hn ▸ formNamed l m hl h1 h2 hm w
theorem formCode_at {v : Array Value} (c : Cx) (hv : v = cxs c) (script : Bool) (h1 : script = true ∨ c.su ≠ 4) (h2 : c.es = false ∨ c.su = 1 ∨ c.su = 2) (w : World) : Calls Tryd.prog 55 #[.agg v, .bool script] w fun e w' => e = .returned (.bool true) ∧ Below w.heap.size w w' := hv ▸ formCode c script h1 h2 w
set_option maxHeartbeats 4000000 in
set_option maxRecDepth 100000 in
theorem formFlat (s : Nat) (h : s = 0 ∨ s = 1 ∨ s = 2 ∨ s = 11 ∨ s = 12 ∨ s = 13 ∨ s = 14 ∨ s = 16 ∨ s = 20) (w : World) : Calls Tryd.prog 9 #[.agg (cxs { st := s })] w fun e w' => e = .returned (.bool true) ∧ Below w.heap.size w w' := by
  have hu33 := Tryd.underlying33
  have hb0 : bs [] = (⟨#[]⟩ : ByteArray) := rfl
  simp only [cxs, hb0]
  clear hb0
  rcases h with rfl | rfl | rfl | rfl | rfl | rfl | rfl | rfl | rfl
  all_goals
    go_enter Tryd.func9, Tryd.ntmps9
    go_wp2
    clear hu33
    go_ret
    exact ⟨rfl, ((((Below.refl _ _).alloc (Nat.le_refl _) _).alloc (by simp) _).alloc (by simp; omega) _)⟩
set_option maxHeartbeats 4000000 in
set_option maxRecDepth 100000 in
theorem formTag (en : Bool) (nm : List Nat) (hl : Low nm) (h1 : 1 ≤ nm.length) (h2 : nm.length ≤ 32) (w : World) : Calls Tryd.prog 9 #[.agg (cxs { st := 3, en := en, nm := nm })] w fun e w' => e = .returned (.bool true) ∧ Below w.heap.size w w' := by
  have hu33 := Tryd.underlying33
  have hb0 : bs [] = (⟨#[]⟩ : ByteArray) := rfl
  have HL := Aside0.mk hl
  have H1 := Aside0.mk h1
  have H2 := Aside0.mk h2
  clear hl h1 h2
  simp only [cxs, hb0]
  clear hb0
  cases en
  all_goals
    go_enter Tryd.func9, Tryd.ntmps9
    go_wp2_with (go_at_call 30; (with_reducible refine (formNamed_at nm ?hs 32 ?hn HL.out H1.out H2.out (by decide) _).mono ?_); (case hs => rfl); (case hn => rfl); rintro e w1 ⟨rfl, rfl⟩)
    clear hu33
    go_ret
    exact ⟨rfl, ((((Below.refl _ _).alloc (Nat.le_refl _) _).alloc (by simp) _).alloc (by simp; omega) _)⟩
set_option maxHeartbeats 4000000 in
set_option maxRecDepth 100000 in
theorem formIn (s el : Nat) (en : Bool) (hs : s = 4 ∨ s = 9 ∨ s = 10) (h4 : el ≤ 4) (he : en = true → el = 0) (w : World) : Calls Tryd.prog 9 #[.agg (cxs { st := s, el := el, en := en })] w fun e w' => e = .returned (.bool true) ∧ Below w.heap.size w w' := by
  have hu33 := Tryd.underlying33
  have hb0 : bs [] = (⟨#[]⟩ : ByteArray) := rfl
  have hen : (en = false) ∨ (en = true ∧ el = 0) := by
    cases en
    · exact .inl rfl
    · exact .inr ⟨rfl, he rfl⟩
  have h4' : (el : Int) ≤ 4 := by omega
  clear he h4
  simp only [cxs, hb0]
  clear hb0
  rcases hs with rfl | rfl | rfl <;> rcases hen with rfl | ⟨rfl, rfl⟩
  all_goals
    go_enter Tryd.func9, Tryd.ntmps9
    go_wp2
    clear hu33
    go_ret
    exact ⟨rfl, ((((Below.refl _ _).alloc (Nat.le_refl _) _).alloc (by simp) _).alloc (by simp; omega) _)⟩
set_option maxHeartbeats 4000000 in
set_option maxRecDepth 100000 in
theorem formAttr (s el : Nat) (en : Bool) (nm : List Nat) (hs : s = 5 ∨ s = 6) (h4 : el ≤ 4) (he : en = true → el = 0) (hl : Low nm) (h1 : 1 ≤ nm.length) (h2 : nm.length ≤ 32) (w : World) : Calls Tryd.prog 9 #[.agg (cxs { st := s, el := el, en := en, nm := nm })] w fun e w' => e = .returned (.bool true) ∧ Below w.heap.size w w' := by
  have hu33 := Tryd.underlying33
  have hb0 : bs [] = (⟨#[]⟩ : ByteArray) := rfl
  have hen : (en = false) ∨ (en = true ∧ el = 0) := by
    cases en
    · exact .inl rfl
    · exact .inr ⟨rfl, he rfl⟩
  have h4' : (el : Int) ≤ 4 := by omega
  clear he h4
  have HL := Aside0.mk hl
  have H1 := Aside0.mk h1
  have H2 := Aside0.mk h2
  clear hl h1 h2
  simp only [cxs, hb0]
  clear hb0
  rcases hs with rfl | rfl <;> rcases hen with rfl | ⟨rfl, rfl⟩
  all_goals
    go_enter Tryd.func9, Tryd.ntmps9
    go_wp2_with (go_at_call 30; (with_reducible refine (formNamed_at nm ?hs 32 ?hn HL.out H1.out H2.out (by decide) _).mono ?_); (case hs => rfl); (case hn => rfl); rintro e w1 ⟨rfl, rfl⟩)
    clear hu33
    go_ret
    exact ⟨rfl, ((((Below.refl _ _).alloc (Nat.le_refl _) _).alloc (by simp) _).alloc (by simp; omega) _)⟩
set_option maxHeartbeats 4000000 in
set_option maxRecDepth 100000 in
theorem formEq (el ak : Nat) (en : Bool) (h4 : el ≤ 4) (he : en = true → el = 0) (ha : ak ≤ 4) (w : World) : Calls Tryd.prog 9 #[.agg (cxs { st := 7, el := el, en := en, ak := ak })] w fun e w' => e = .returned (.bool true) ∧ Below w.heap.size w w' := by
  have hu33 := Tryd.underlying33
  have hb0 : bs [] = (⟨#[]⟩ : ByteArray) := rfl
  have hen : (en = false) ∨ (en = true ∧ el = 0) := by
    cases en
    · exact .inl rfl
    · exact .inr ⟨rfl, he rfl⟩
  have h4' : (el : Int) ≤ 4 := by omega
  clear he h4
  have ha' : (ak : Int) ≤ 4 := by omega
  clear ha
  simp only [cxs, hb0]
  clear hb0
  rcases hen with rfl | ⟨rfl, rfl⟩
  all_goals
    go_enter Tryd.func9, Tryd.ntmps9
    go_wp2
    clear hu33
    go_ret
    exact ⟨rfl, ((((Below.refl _ _).alloc (Nat.le_refl _) _).alloc (by simp) _).alloc (by simp; omega) _)⟩
set_option maxHeartbeats 4000000 in
set_option maxRecDepth 100000 in
theorem formNote (da : Nat) (hd : da ≤ 2) (w : World) : Calls Tryd.prog 9 #[.agg (cxs { st := 15, da := da })] w fun e w' => e = .returned (.bool true) ∧ Below w.heap.size w w' := by
  have hu33 := Tryd.underlying33
  have hb0 : bs [] = (⟨#[]⟩ : ByteArray) := rfl
  have hd' : (da : Int) ≤ 2 := by omega
  clear hd
  simp only [cxs, hb0]
  clear hb0
  all_goals
    go_enter Tryd.func9, Tryd.ntmps9
    go_wp2
    clear hu33
    go_ret
    exact ⟨rfl, ((((Below.refl _ _).alloc (Nat.le_refl _) _).alloc (by simp) _).alloc (by simp; omega) _)⟩
end Go.Proofs.YtfplocpjdjjoaaaDoor.Ctxs
