/-
  The calls of ring.Ring.Take and Peek: what they answer, what becomes of the ring, and that nothing else is changed. Conditions: as each theorem says.
-/
import Derived.Test.YtnblegepecmblaaRing
import Derived.RegionTactic
import Derived.StillTailTactics
import Derived.IntWalk
import Derived.BigQuiet
import Derived.Deep.QuietTactic
namespace Go.Proofs.Ytnblegepecmblaa.Ring
open Go.RowKit Go.Proofs.YtnblegepecmblaaW.PrintWords Go.Proofs.YtnblegepecmblaaW.PrintLast Go.Proofs.YtnblegepecmblaaW.PrintMore
attribute [local go_sem] max2_int min2_int max_two min_two max_three min_three max_four min_four
set_option linter.unusedVariables false
set_option linter.unusedSimpArgs false

theorem wt_drop {xs : List Int} {c : Nat} {h n : Int} {wait : List Int} (hw : Wt xs c h wait) (h0 : 0 ≤ n) (h1 : n ≤ wait.length) : Wt xs c ((h + n) % c) (wait.drop n.toNat) := by
  obtain ⟨a, b, d, e, f, k⟩ := hw
  have hc : (0 : Int) < c := by omega
  refine ⟨a, Int.emod_nonneg _ (by omega), Int.emod_lt_of_pos _ hc, by rw [List.length_drop]; omega, f, fun j hj => ?_⟩
  rw [List.length_drop] at hj
  rw [Int.emod_add_emod, show h + n + (j : Int) = h + ((n.toNat + j : Nat) : Int) by omega, k (n.toNat + j) (by omega)]
  simp [List.getD_eq_getElem?_getD, List.getElem?_drop]

theorem setCell_far {w : World} {g b : Nat} (h : b ≠ g) (i : Nat) (v : Value) : (w.setCell ⟨g, i, none⟩ v).heap[b]? = w.heap[b]? := Below.heap_setCell w ⟨g, i, none⟩ v b h
/-- What the three stores of a Take leave. -/
theorem take_end {w : World} {g b c : Nat} {wait xs : List Int} {hd ci co n co2 : Int} (hne : g ≠ b) (hw : Wt xs c hd wait)
    (hs : w.heap[g]? = some (.cells #[.slice (some ⟨b, 0, none⟩) c c, .int .i64 hd, .int .i64 wait.length, .int .u64 ci, .int .u64 co] 49 (0, 0)))
    (hr : w.ownsRow 0 5 1 (.slice (some ⟨b, 0, none⟩) c c) c (nums .u8 xs)) (h0 : 0 ≤ n) (h1 : n ≤ wait.length) (hco : co2 = IntKind.u64.wrap (co + n)) :
    Rg (((w.setCell ⟨g, 1, none⟩ (.int .i64 ((hd + n) % c))).setCell ⟨g, 2, none⟩ (.int .i64 (wait.length - n))).setCell ⟨g, 4, none⟩ (.int .u64 (IntKind.u64.wrap (co + n)))) g b c (wait.drop n.toNat) ci co2 ∧
    Kept w (((w.setCell ⟨g, 1, none⟩ (.int .i64 ((hd + n) % c))).setCell ⟨g, 2, none⟩ (.int .i64 (wait.length - n))).setCell ⟨g, 4, none⟩ (.int .u64 (IntKind.u64.wrap (co + n)))) (fun k => k = g ∨ k = b) ∧
    ∀ base w0, base ≤ g → Below base w0 w → Below base w0 (((w.setCell ⟨g, 1, none⟩ (.int .i64 ((hd + n) % c))).setCell ⟨g, 2, none⟩ (.int .i64 (wait.length - n))).setCell ⟨g, 4, none⟩ (.int .u64 (IntKind.u64.wrap (co + n)))) := by
  refine ⟨⟨hne, xs, (hd + n) % c, wt_drop hw h0 h1, ?_, ?_⟩, ?_, ?_⟩
  · have q1 := Joins.block_setCell (i := 1) hs (.int .i64 ((hd + n) % c))
    have q2 := Joins.block_setCell (i := 2) q1 (.int .i64 (wait.length - n))
    have q3 := Joins.block_setCell (i := 4) q2 (.int .u64 (IntKind.u64.wrap (co + n)))
    rw [q3, hco, show ((wait.drop n.toNat).length : Int) = wait.length - n by rw [List.length_drop]; omega]
    simp
  · exact own_same hr (by rw [setCell_far (Ne.symm hne), setCell_far (Ne.symm hne), setCell_far (Ne.symm hne)])
  · exact (((Kept.refl w _).setCell (p := ⟨g, 1, none⟩) (.inl (.inl rfl)) _).setCell (p := ⟨g, 2, none⟩) (.inl (.inl rfl)) _).setCell (p := ⟨g, 4, none⟩) (.inl (.inl rfl)) _
  · intro base w0 hb h
    exact ((h.setCell (p := ⟨g, 1, none⟩) hb _).setCell (p := ⟨g, 2, none⟩) hb _).setCell (p := ⟨g, 4, none⟩) hb _

set_option maxHeartbeats 8000000 in
theorem take_nil (w : World) (n : Int) : Calls Try.prog 13 #[.pointer none, .int .i64 n] w fun e w' => e = .returned (.int .i64 10) ∧ w = w' := by
  go_enter Try.func13, Try.ntmps13
  go_wp2
  go_ret
  exact ⟨rfl, rfl⟩
set_option maxHeartbeats 8000000 in
theorem take_refuses (w : World) (g b c : Nat) (wait : List Int) (ci co n : Int) (hR : Rg w g b c wait ci co) (hn : n < 0 ∨ (wait.length : Int) < n) :
    Calls Try.prog 13 #[.pointer (some ⟨g, 0, none⟩), .int .i64 n] w fun e w' => e = .returned (.int .i64 1) ∧ w = w' := by
  obtain ⟨hne, xs, hd, hw, hs, hr⟩ := hR
  have h2 : w.cell? ⟨g, 2, none⟩ = some (.int .i64 wait.length) := block_cell (i := 2) hs rfl
  clear hw hs hr
  by_cases h0 : n < 0
  · have c0 : decide (n < 0) = true := decide_eq_true h0
    clear hn h0
    go_enter Try.func13, Try.ntmps13
    go_wp2
    go_ret
    exact ⟨rfl, rfl⟩
  · have c0 : decide (n < 0) = false := decide_eq_false h0
    have c1 : decide ((wait.length : Int) < n) = true := decide_eq_true (by omega)
    clear hn h0
    go_enter Try.func13, Try.ntmps13
    go_wp2
    go_ret
    exact ⟨rfl, rfl⟩
set_option maxHeartbeats 8000000 in
set_option maxRecDepth 100000 in
theorem take_calls (w : World) (g b c : Nat) (wait : List Int) (ci co n co2 : Int) (hR : Rg w g b c wait ci co) (h0 : 0 ≤ n) (h1 : n ≤ wait.length) (hco : co2 = IntKind.u64.wrap (co + n)) :
    Calls Try.prog 13 #[.pointer (some ⟨g, 0, none⟩), .int .i64 n] w fun e w' => e = .returned (.int .i64 0) ∧ Rg w' g b c (wait.drop n.toNat) ci co2 ∧ Kept w w' (fun k => k = g ∨ k = b) ∧ (∀ base w0, base ≤ g → Below base w0 w → Below base w0 w') := by
  have hroom := hR.room
  obtain ⟨hne, xs, hd, hw, hs, hr⟩ := hR
  have c0 : decide (n < 0) = false := decide_eq_false (by omega)
  have c1 : decide ((wait.length : Int) < n) = false := decide_eq_false (by omega)
  have g0 : w.cell? ⟨g, 0, none⟩ = some (.slice (some ⟨b, 0, none⟩) c c) := block_cell (i := 0) hs rfl
  have g1 : w.cell? ⟨g, 1, none⟩ = some (.int .i64 hd) := block_cell (i := 1) hs rfl
  have g2 : w.cell? ⟨g, 2, none⟩ = some (.int .i64 wait.length) := block_cell (i := 2) hs rfl
  have g4 : w.cell? ⟨g, 4, none⟩ = some (.int .u64 co) := block_cell (i := 4) hs rfl
  have f1 := Joins.unfrozen_of_block hs 1
  have f2 := Joins.unfrozen_of_block hs 2
  have f4 := Joins.unfrozen_of_block hs 4
  have HW := Aside0.mk hw
  have HS := Aside0.mk hs
  have HR := Aside0.mk hr
  clear hw hs hr
  go_enter Try.func13, Try.ntmps13
  have hd1 := HW.out.2.1
  have hd2 := HW.out.2.2.1
  have e2 : IntKind.i64.wrap (hd + n) = hd + n := IntWalk.i64_in _ (by omega)
  have e3 : ((c : Int) == 0) = false := by simp; omega
  have e4 : decide ((c : Int) = 0) = false := decide_eq_false (by omega)
  have e5 : ¬ (c : Int) = 0 := by omega
  have e6 : ¬ c = 0 := by omega
  have e7 : (c == 0) = false := by simp; omega
  have e8 : decide (c = 0) = false := decide_eq_false (by omega)
  go_upto_region 5 with (fail)
  go_still_tail 13, (by kernel_rfl)
  change wpList _ _ _ _ _ w.drew
  go_wp2
  go_ret
  obtain ⟨a1, a2, a3⟩ := take_end hne HW.out HS.out HR.out h0 h1 hco
  exact ⟨rfl, a1.step rfl rfl, a2, fun base w0 hb h => below_drew1 (a3 base w0 hb h)⟩
end Go.Proofs.Ytnblegepecmblaa.Ring
