/-
  A context within the text of an element is in form, says ctx.Form.
  Conditions: as each theorem says.
-/
import Derived.Test.YtfplocpjdjjoaaaDoorGe
import Derived.LoopTactic
import Derived.Deep.QuietTactic
import Derived.BigQuiet
namespace Go.Proofs.YtfplocpjdjjoaaaDoor.Ctxs
open Go Go.RowKit Go.Proofs.YtfplocpjdjjoaaaDoor.Trail Go.Proofs.YtfplocpjdjjoaaaDoorW.PrintWords
set_option linter.unusedVariables false
set_option linter.unusedSimpArgs false
theorem nameOf_at' {n : Int} (k : Nat) (hn : n = (k : Int)) (w : World) : Calls Tryd.prog 52 #[.int .u8 n] w fun e w' => e = .returned (.string (bs (nameOf k))) ∧ w = w' := hn ▸ nameOf_calls k w
theorem formCode_r {v : Array Value} (c : Cx) (hv : v = cxs c) (script : Bool) (h1 : script = true ∨ c.su ≠ 4) (h2 : c.es = false ∨ c.su = 1 ∨ c.su = 2) (w : World) : Calls Tryd.prog 55 #[.agg v, .bool script] w fun e w' => e = .returned (.bool true) ∧ w' = w.alloc (.cells v 33) := hv ▸ formCodeW c script h1 h2 w
theorem prefix_nil (s : List UInt8) : ([] : List UInt8).isPrefixOf s = true := by cases s <;> rfl
set_option maxHeartbeats 4000000 in
set_option maxRecDepth 100000 in
theorem formRawL (st : Nat) (el : Nat) (h19 : st ≠ 19) (h1 : el = 1 ∨ el = 2) (w : World) : Calls Tryd.prog 32 #[.agg (cxs { st := st, el := el })] w fun e w' => e = .returned (.bool true) ∧ Below w.heap.size w w' := by
  have hu33 := Tryd.underlying33
  have hb0 : bs [] = (⟨#[]⟩ : ByteArray) := rfl
  have k0 : ((el : Int) != 0) = true := by rw [bne_iff_ne]; omega
  have k3 : ((el : Int) == 3) = false := by rw [beq_eq_false_iff_ne]; omega
  have k4 : ((el : Int) == 4) = false := by rw [beq_eq_false_iff_ne]; omega
  clear h1
  have k19 : ((st : Int) == 19) = false := by rw [beq_eq_false_iff_ne]; omega
  clear h19
  have hpre : (⟨#[]⟩ : ByteArray).toList.isPrefixOf (bs (nameOf el)).toList = true := by rw [show (⟨#[]⟩ : ByteArray).toList = [] from bs_list []]; exact prefix_nil _
  simp only [cxs, hb0]
  clear hb0
  go_enter Tryd.func32, Tryd.ntmps32
  go_wp2
  go_region_held_law (fun W => W.cell? ⟨w.heap.size, 0, none⟩ = some (.int .u8 (st : Int)) ∧ W.cell? ⟨w.heap.size, 1, none⟩ = some (.int .u8 (el : Int)) ∧ W.cell? ⟨w.heap.size, 2, none⟩ = some (.bool false) ∧ W.cell? ⟨w.heap.size, 3, none⟩ = some (.int .u8 0) ∧ W.cell? ⟨w.heap.size, 4, none⟩ = some (.int .u8 0) ∧ W.cell? ⟨w.heap.size, 5, none⟩ = some (.int .u8 0) ∧ W.cell? ⟨w.heap.size, 6, none⟩ = some (.int .u8 0) ∧ W.cell? ⟨w.heap.size, 7, none⟩ = some (.bool false) ∧ W.cell? ⟨w.heap.size, 8, none⟩ = some (.int .u8 0) ∧ W.cell? ⟨w.heap.size, 9, none⟩ = some (.string (⟨#[]⟩ : ByteArray)) ∧ W.cell? ⟨w.heap.size + 1, 0, none⟩ = some (.int .u8 (st : Int)) ∧ W.cell? ⟨w.heap.size + 1, 1, none⟩ = some (.int .u8 (el : Int)) ∧ W.cell? ⟨w.heap.size + 1, 2, none⟩ = some (.bool false) ∧ W.cell? ⟨w.heap.size + 1, 3, none⟩ = some (.int .u8 0) ∧ W.cell? ⟨w.heap.size + 1, 4, none⟩ = some (.int .u8 0) ∧ W.cell? ⟨w.heap.size + 1, 5, none⟩ = some (.int .u8 0) ∧ W.cell? ⟨w.heap.size + 1, 6, none⟩ = some (.int .u8 0) ∧ W.cell? ⟨w.heap.size + 1, 7, none⟩ = some (.bool false) ∧ W.cell? ⟨w.heap.size + 1, 8, none⟩ = some (.int .u8 0) ∧ W.cell? ⟨w.heap.size + 1, 9, none⟩ = some (.string (⟨#[]⟩ : ByteArray))) (and_intros <;> go_simp) (first | (go_at_call 52; (with_reducible refine (nameOf_at' el ?hn _).mono ?_); (case hn => rfl); rintro e w1 ⟨rfl, rfl⟩) | (go_at_call 56; (with_reducible refine (hasPrefix_calls _ _ _).mono ?_); rintro e w1 ⟨rfl, rfl⟩; rw [hpre]) | (go_at_call 55; (with_reducible refine (formCode_r { st := st, el := el } ?hv _ ?h1 ?h2 _).mono ?_); (case hv => rfl); (case h1 => exact .inr (show (0 : Nat) ≠ 4 by omega)); (case h2 => exact .inl rfl); rintro e w1 ⟨rfl, rfl⟩))
  all_goals
    go_wp2
    clear hu33
    go_ret
    exact ⟨rfl, Below.drew ((((Below.refl _ _).alloc (Nat.le_refl _) _).alloc (by simp) _).alloc (by simp; omega) _)⟩
set_option maxHeartbeats 4000000 in
set_option maxRecDepth 100000 in
theorem formRaw3 (st : Nat) (su : Nat) (es : Bool) (h19 : st ≠ 19) (hs : True) (he : es = false ∨ su = 1 ∨ su = 2) (w : World) : Calls Tryd.prog 32 #[.agg (cxs { st := st, el := 3, su := su, es := es })] w fun e w' => e = .returned (.bool true) ∧ Below w.heap.size w w' := by
  have hu33 := Tryd.underlying33
  have hb0 : bs [] = (⟨#[]⟩ : ByteArray) := rfl
  have HS := Aside0.mk hs
  have HE := Aside0.mk he
  clear hs he
  have k19 : ((st : Int) == 19) = false := by rw [beq_eq_false_iff_ne]; omega
  clear h19
  have hpre : (⟨#[]⟩ : ByteArray).toList.isPrefixOf (bs (nameOf 3)).toList = true := by rw [show (⟨#[]⟩ : ByteArray).toList = [] from bs_list []]; exact prefix_nil _
  simp only [cxs, hb0]
  clear hb0
  go_enter Tryd.func32, Tryd.ntmps32
  go_wp2
  go_region
  all_goals
    go_wp2
    go_region_held_law (fun W => W.cell? ⟨w.heap.size, 0, none⟩ = some (.int .u8 (st : Int)) ∧ W.cell? ⟨w.heap.size, 1, none⟩ = some (.int .u8 3) ∧ W.cell? ⟨w.heap.size, 2, none⟩ = some (.bool false) ∧ W.cell? ⟨w.heap.size, 3, none⟩ = some (.int .u8 0) ∧ W.cell? ⟨w.heap.size, 4, none⟩ = some (.int .u8 0) ∧ W.cell? ⟨w.heap.size, 5, none⟩ = some (.int .u8 0) ∧ W.cell? ⟨w.heap.size, 6, none⟩ = some (.int .u8 (su : Int)) ∧ W.cell? ⟨w.heap.size, 7, none⟩ = some (.bool es) ∧ W.cell? ⟨w.heap.size, 8, none⟩ = some (.int .u8 0) ∧ W.cell? ⟨w.heap.size, 9, none⟩ = some (.string (⟨#[]⟩ : ByteArray)) ∧ W.cell? ⟨w.heap.size + 1, 0, none⟩ = some (.int .u8 (st : Int)) ∧ W.cell? ⟨w.heap.size + 1, 1, none⟩ = some (.int .u8 3) ∧ W.cell? ⟨w.heap.size + 1, 2, none⟩ = some (.bool false) ∧ W.cell? ⟨w.heap.size + 1, 3, none⟩ = some (.int .u8 0) ∧ W.cell? ⟨w.heap.size + 1, 4, none⟩ = some (.int .u8 0) ∧ W.cell? ⟨w.heap.size + 1, 5, none⟩ = some (.int .u8 0) ∧ W.cell? ⟨w.heap.size + 1, 6, none⟩ = some (.int .u8 (su : Int)) ∧ W.cell? ⟨w.heap.size + 1, 7, none⟩ = some (.bool es) ∧ W.cell? ⟨w.heap.size + 1, 8, none⟩ = some (.int .u8 0) ∧ W.cell? ⟨w.heap.size + 1, 9, none⟩ = some (.string (⟨#[]⟩ : ByteArray))) (and_intros <;> go_simp) (first | (go_at_call 52; (with_reducible refine (nameOf_at' 3 ?hn _).mono ?_); (case hn => rfl); rintro e w1 ⟨rfl, rfl⟩) | (go_at_call 56; (with_reducible refine (hasPrefix_calls _ _ _).mono ?_); rintro e w1 ⟨rfl, rfl⟩; rw [hpre]) | (go_at_call 55; (with_reducible refine (formCode_r { st := st, el := 3, su := su, es := es } ?hv true ?h1 ?h2 _).mono ?_); (case hv => rfl); (case h1 => exact .inl rfl); (case h2 => exact HE.out); rintro e w1 ⟨rfl, rfl⟩))
    all_goals
      go_wp2
      clear hu33
      go_ret
      exact ⟨rfl, Below.drew (Below.drew ((((Below.refl _ _).alloc (Nat.le_refl _) _).alloc (by simp) _).alloc (by simp; omega) _))⟩
set_option maxHeartbeats 4000000 in
set_option maxRecDepth 100000 in
theorem formRaw4 (st : Nat) (su : Nat) (es : Bool) (h19 : st ≠ 19) (hs : su ≠ 4) (he : es = false ∨ su = 1 ∨ su = 2) (w : World) : Calls Tryd.prog 32 #[.agg (cxs { st := st, el := 4, su := su, es := es })] w fun e w' => e = .returned (.bool true) ∧ Below w.heap.size w w' := by
  have hu33 := Tryd.underlying33
  have hb0 : bs [] = (⟨#[]⟩ : ByteArray) := rfl
  have HS := Aside0.mk hs
  have HE := Aside0.mk he
  clear hs he
  have k19 : ((st : Int) == 19) = false := by rw [beq_eq_false_iff_ne]; omega
  clear h19
  have hpre : (⟨#[]⟩ : ByteArray).toList.isPrefixOf (bs (nameOf 4)).toList = true := by rw [show (⟨#[]⟩ : ByteArray).toList = [] from bs_list []]; exact prefix_nil _
  simp only [cxs, hb0]
  clear hb0
  go_enter Tryd.func32, Tryd.ntmps32
  go_wp2
  go_region
  all_goals
    go_wp2
    go_region_held_law (fun W => W.cell? ⟨w.heap.size, 0, none⟩ = some (.int .u8 (st : Int)) ∧ W.cell? ⟨w.heap.size, 1, none⟩ = some (.int .u8 4) ∧ W.cell? ⟨w.heap.size, 2, none⟩ = some (.bool false) ∧ W.cell? ⟨w.heap.size, 3, none⟩ = some (.int .u8 0) ∧ W.cell? ⟨w.heap.size, 4, none⟩ = some (.int .u8 0) ∧ W.cell? ⟨w.heap.size, 5, none⟩ = some (.int .u8 0) ∧ W.cell? ⟨w.heap.size, 6, none⟩ = some (.int .u8 (su : Int)) ∧ W.cell? ⟨w.heap.size, 7, none⟩ = some (.bool es) ∧ W.cell? ⟨w.heap.size, 8, none⟩ = some (.int .u8 0) ∧ W.cell? ⟨w.heap.size, 9, none⟩ = some (.string (⟨#[]⟩ : ByteArray)) ∧ W.cell? ⟨w.heap.size + 1, 0, none⟩ = some (.int .u8 (st : Int)) ∧ W.cell? ⟨w.heap.size + 1, 1, none⟩ = some (.int .u8 4) ∧ W.cell? ⟨w.heap.size + 1, 2, none⟩ = some (.bool false) ∧ W.cell? ⟨w.heap.size + 1, 3, none⟩ = some (.int .u8 0) ∧ W.cell? ⟨w.heap.size + 1, 4, none⟩ = some (.int .u8 0) ∧ W.cell? ⟨w.heap.size + 1, 5, none⟩ = some (.int .u8 0) ∧ W.cell? ⟨w.heap.size + 1, 6, none⟩ = some (.int .u8 (su : Int)) ∧ W.cell? ⟨w.heap.size + 1, 7, none⟩ = some (.bool es) ∧ W.cell? ⟨w.heap.size + 1, 8, none⟩ = some (.int .u8 0) ∧ W.cell? ⟨w.heap.size + 1, 9, none⟩ = some (.string (⟨#[]⟩ : ByteArray))) (and_intros <;> go_simp) (first | (go_at_call 52; (with_reducible refine (nameOf_at' 4 ?hn _).mono ?_); (case hn => rfl); rintro e w1 ⟨rfl, rfl⟩) | (go_at_call 56; (with_reducible refine (hasPrefix_calls _ _ _).mono ?_); rintro e w1 ⟨rfl, rfl⟩; rw [hpre]) | (go_at_call 55; (with_reducible refine (formCode_r { st := st, el := 4, su := su, es := es } ?hv false ?h1 ?h2 _).mono ?_); (case hv => rfl); (case h1 => exact .inr HS.out); (case h2 => exact HE.out); rintro e w1 ⟨rfl, rfl⟩))
    all_goals
      go_wp2
      clear hu33
      go_ret
      exact ⟨rfl, Below.drew (Below.drew ((((Below.refl _ _).alloc (Nat.le_refl _) _).alloc (by simp) _).alloc (by simp; omega) _))⟩
set_option maxHeartbeats 4000000 in
set_option maxRecDepth 100000 in
theorem formRawL19 (el : Nat) (nm : List Nat) (h1 : el = 1 ∨ el = 2) (hn : (bs nm).toList.isPrefixOf (bs (nameOf el)).toList = true) (w : World) : Calls Tryd.prog 32 #[.agg (cxs { st := 19, el := el, nm := nm })] w fun e w' => e = .returned (.bool true) ∧ Below w.heap.size w w' := by
  have hu33 := Tryd.underlying33
  have hb0 : bs [] = (⟨#[]⟩ : ByteArray) := rfl
  have k0 : ((el : Int) != 0) = true := by rw [bne_iff_ne]; omega
  have k3 : ((el : Int) == 3) = false := by rw [beq_eq_false_iff_ne]; omega
  have k4 : ((el : Int) == 4) = false := by rw [beq_eq_false_iff_ne]; omega
  clear h1
  have hpre := hn
  clear hn
  simp only [cxs, hb0]
  clear hb0
  go_enter Tryd.func32, Tryd.ntmps32
  go_wp2
  go_region_held_law (fun W => W.cell? ⟨w.heap.size, 0, none⟩ = some (.int .u8 19) ∧ W.cell? ⟨w.heap.size, 1, none⟩ = some (.int .u8 (el : Int)) ∧ W.cell? ⟨w.heap.size, 2, none⟩ = some (.bool false) ∧ W.cell? ⟨w.heap.size, 3, none⟩ = some (.int .u8 0) ∧ W.cell? ⟨w.heap.size, 4, none⟩ = some (.int .u8 0) ∧ W.cell? ⟨w.heap.size, 5, none⟩ = some (.int .u8 0) ∧ W.cell? ⟨w.heap.size, 6, none⟩ = some (.int .u8 0) ∧ W.cell? ⟨w.heap.size, 7, none⟩ = some (.bool false) ∧ W.cell? ⟨w.heap.size, 8, none⟩ = some (.int .u8 0) ∧ W.cell? ⟨w.heap.size, 9, none⟩ = some (.string (bs nm)) ∧ W.cell? ⟨w.heap.size + 1, 0, none⟩ = some (.int .u8 19) ∧ W.cell? ⟨w.heap.size + 1, 1, none⟩ = some (.int .u8 (el : Int)) ∧ W.cell? ⟨w.heap.size + 1, 2, none⟩ = some (.bool false) ∧ W.cell? ⟨w.heap.size + 1, 3, none⟩ = some (.int .u8 0) ∧ W.cell? ⟨w.heap.size + 1, 4, none⟩ = some (.int .u8 0) ∧ W.cell? ⟨w.heap.size + 1, 5, none⟩ = some (.int .u8 0) ∧ W.cell? ⟨w.heap.size + 1, 6, none⟩ = some (.int .u8 0) ∧ W.cell? ⟨w.heap.size + 1, 7, none⟩ = some (.bool false) ∧ W.cell? ⟨w.heap.size + 1, 8, none⟩ = some (.int .u8 0) ∧ W.cell? ⟨w.heap.size + 1, 9, none⟩ = some (.string (bs nm))) (and_intros <;> go_simp) (first | (go_at_call 52; (with_reducible refine (nameOf_at' el ?hn _).mono ?_); (case hn => rfl); rintro e w1 ⟨rfl, rfl⟩) | (go_at_call 56; (with_reducible refine (hasPrefix_calls _ _ _).mono ?_); rintro e w1 ⟨rfl, rfl⟩; rw [hpre]) | (go_at_call 55; (with_reducible refine (formCode_r { st := 19, el := el, nm := nm } ?hv _ ?h1 ?h2 _).mono ?_); (case hv => rfl); (case h1 => exact .inr (show (0 : Nat) ≠ 4 by omega)); (case h2 => exact .inl rfl); rintro e w1 ⟨rfl, rfl⟩))
  all_goals
    go_wp2
    clear hu33
    go_ret
    exact ⟨rfl, Below.drew ((((Below.refl _ _).alloc (Nat.le_refl _) _).alloc (by simp) _).alloc (by simp; omega) _)⟩
set_option maxHeartbeats 4000000 in
set_option maxRecDepth 100000 in
theorem formRaw319 (su : Nat) (es : Bool) (nm : List Nat) (hs : True) (he : es = false ∨ su = 1 ∨ su = 2) (hn : (bs nm).toList.isPrefixOf (bs (nameOf 3)).toList = true) (w : World) : Calls Tryd.prog 32 #[.agg (cxs { st := 19, el := 3, su := su, es := es, nm := nm })] w fun e w' => e = .returned (.bool true) ∧ Below w.heap.size w w' := by
  have hu33 := Tryd.underlying33
  have hb0 : bs [] = (⟨#[]⟩ : ByteArray) := rfl
  have HS := Aside0.mk hs
  have HE := Aside0.mk he
  clear hs he
  have hpre := hn
  clear hn
  simp only [cxs, hb0]
  clear hb0
  go_enter Tryd.func32, Tryd.ntmps32
  go_wp2
  go_region
  all_goals
    go_wp2
    go_region_held_law (fun W => W.cell? ⟨w.heap.size, 0, none⟩ = some (.int .u8 19) ∧ W.cell? ⟨w.heap.size, 1, none⟩ = some (.int .u8 3) ∧ W.cell? ⟨w.heap.size, 2, none⟩ = some (.bool false) ∧ W.cell? ⟨w.heap.size, 3, none⟩ = some (.int .u8 0) ∧ W.cell? ⟨w.heap.size, 4, none⟩ = some (.int .u8 0) ∧ W.cell? ⟨w.heap.size, 5, none⟩ = some (.int .u8 0) ∧ W.cell? ⟨w.heap.size, 6, none⟩ = some (.int .u8 (su : Int)) ∧ W.cell? ⟨w.heap.size, 7, none⟩ = some (.bool es) ∧ W.cell? ⟨w.heap.size, 8, none⟩ = some (.int .u8 0) ∧ W.cell? ⟨w.heap.size, 9, none⟩ = some (.string (bs nm)) ∧ W.cell? ⟨w.heap.size + 1, 0, none⟩ = some (.int .u8 19) ∧ W.cell? ⟨w.heap.size + 1, 1, none⟩ = some (.int .u8 3) ∧ W.cell? ⟨w.heap.size + 1, 2, none⟩ = some (.bool false) ∧ W.cell? ⟨w.heap.size + 1, 3, none⟩ = some (.int .u8 0) ∧ W.cell? ⟨w.heap.size + 1, 4, none⟩ = some (.int .u8 0) ∧ W.cell? ⟨w.heap.size + 1, 5, none⟩ = some (.int .u8 0) ∧ W.cell? ⟨w.heap.size + 1, 6, none⟩ = some (.int .u8 (su : Int)) ∧ W.cell? ⟨w.heap.size + 1, 7, none⟩ = some (.bool es) ∧ W.cell? ⟨w.heap.size + 1, 8, none⟩ = some (.int .u8 0) ∧ W.cell? ⟨w.heap.size + 1, 9, none⟩ = some (.string (bs nm))) (and_intros <;> go_simp) (first | (go_at_call 52; (with_reducible refine (nameOf_at' 3 ?hn _).mono ?_); (case hn => rfl); rintro e w1 ⟨rfl, rfl⟩) | (go_at_call 56; (with_reducible refine (hasPrefix_calls _ _ _).mono ?_); rintro e w1 ⟨rfl, rfl⟩; rw [hpre]) | (go_at_call 55; (with_reducible refine (formCode_r { st := 19, el := 3, su := su, es := es, nm := nm } ?hv true ?h1 ?h2 _).mono ?_); (case hv => rfl); (case h1 => exact .inl rfl); (case h2 => exact HE.out); rintro e w1 ⟨rfl, rfl⟩))
    all_goals
      go_wp2
      clear hu33
      go_ret
      exact ⟨rfl, Below.drew (Below.drew ((((Below.refl _ _).alloc (Nat.le_refl _) _).alloc (by simp) _).alloc (by simp; omega) _))⟩
set_option maxHeartbeats 4000000 in
set_option maxRecDepth 100000 in
theorem formRaw419 (su : Nat) (es : Bool) (nm : List Nat) (hs : su ≠ 4) (he : es = false ∨ su = 1 ∨ su = 2) (hn : (bs nm).toList.isPrefixOf (bs (nameOf 4)).toList = true) (w : World) : Calls Tryd.prog 32 #[.agg (cxs { st := 19, el := 4, su := su, es := es, nm := nm })] w fun e w' => e = .returned (.bool true) ∧ Below w.heap.size w w' := by
  have hu33 := Tryd.underlying33
  have hb0 : bs [] = (⟨#[]⟩ : ByteArray) := rfl
  have HS := Aside0.mk hs
  have HE := Aside0.mk he
  clear hs he
  have hpre := hn
  clear hn
  simp only [cxs, hb0]
  clear hb0
  go_enter Tryd.func32, Tryd.ntmps32
  go_wp2
  go_region
  all_goals
    go_wp2
    go_region_held_law (fun W => W.cell? ⟨w.heap.size, 0, none⟩ = some (.int .u8 19) ∧ W.cell? ⟨w.heap.size, 1, none⟩ = some (.int .u8 4) ∧ W.cell? ⟨w.heap.size, 2, none⟩ = some (.bool false) ∧ W.cell? ⟨w.heap.size, 3, none⟩ = some (.int .u8 0) ∧ W.cell? ⟨w.heap.size, 4, none⟩ = some (.int .u8 0) ∧ W.cell? ⟨w.heap.size, 5, none⟩ = some (.int .u8 0) ∧ W.cell? ⟨w.heap.size, 6, none⟩ = some (.int .u8 (su : Int)) ∧ W.cell? ⟨w.heap.size, 7, none⟩ = some (.bool es) ∧ W.cell? ⟨w.heap.size, 8, none⟩ = some (.int .u8 0) ∧ W.cell? ⟨w.heap.size, 9, none⟩ = some (.string (bs nm)) ∧ W.cell? ⟨w.heap.size + 1, 0, none⟩ = some (.int .u8 19) ∧ W.cell? ⟨w.heap.size + 1, 1, none⟩ = some (.int .u8 4) ∧ W.cell? ⟨w.heap.size + 1, 2, none⟩ = some (.bool false) ∧ W.cell? ⟨w.heap.size + 1, 3, none⟩ = some (.int .u8 0) ∧ W.cell? ⟨w.heap.size + 1, 4, none⟩ = some (.int .u8 0) ∧ W.cell? ⟨w.heap.size + 1, 5, none⟩ = some (.int .u8 0) ∧ W.cell? ⟨w.heap.size + 1, 6, none⟩ = some (.int .u8 (su : Int)) ∧ W.cell? ⟨w.heap.size + 1, 7, none⟩ = some (.bool es) ∧ W.cell? ⟨w.heap.size + 1, 8, none⟩ = some (.int .u8 0) ∧ W.cell? ⟨w.heap.size + 1, 9, none⟩ = some (.string (bs nm))) (and_intros <;> go_simp) (first | (go_at_call 52; (with_reducible refine (nameOf_at' 4 ?hn _).mono ?_); (case hn => rfl); rintro e w1 ⟨rfl, rfl⟩) | (go_at_call 56; (with_reducible refine (hasPrefix_calls _ _ _).mono ?_); rintro e w1 ⟨rfl, rfl⟩; rw [hpre]) | (go_at_call 55; (with_reducible refine (formCode_r { st := 19, el := 4, su := su, es := es, nm := nm } ?hv false ?h1 ?h2 _).mono ?_); (case hv => rfl); (case h1 => exact .inr HS.out); (case h2 => exact HE.out); rintro e w1 ⟨rfl, rfl⟩))
    all_goals
      go_wp2
      clear hu33
      go_ret
      exact ⟨rfl, Below.drew (Below.drew ((((Below.refl _ _).alloc (Nat.le_refl _) _).alloc (by simp) _).alloc (by simp; omega) _))⟩
end Go.Proofs.YtfplocpjdjjoaaaDoor.Ctxs
