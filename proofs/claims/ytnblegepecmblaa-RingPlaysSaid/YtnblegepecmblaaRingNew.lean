/-
  The call of ring.New: it refuses what is no room, else it answers a new ring. Conditions: as each theorem says.
-/
import Derived.Test.YtnblegepecmblaaRingWrite
namespace Go.Proofs.Ytnblegepecmblaa.Ring
open Go.RowKit Go.Proofs.YtnblegepecmblaaW.PrintWords Go.Proofs.YtnblegepecmblaaW.PrintLast Go.Proofs.YtnblegepecmblaaW.PrintMore
attribute [local go_sem] max2_int min2_int max_two min_two max_three min_three max_four min_four
set_option linter.unusedVariables false
set_option linter.unusedSimpArgs false

theorem alloc_size (w : World) (o : Obj) : (w.alloc o).heap.size = w.heap.size + 1 := by show (w.heap.push o).size = _; simp
theorem alloc_last (w : World) (o : Obj) : (w.alloc o).heap[w.heap.size]? = some o := by show (w.heap.push o)[w.heap.size]? = _; simp
theorem alloc_last1 (w : World) (o o1 : Obj) : ((w.alloc o1).alloc o).heap[w.heap.size + 1]? = some o := by rw [← alloc_size w o1]; exact alloc_last _ _
set_option maxHeartbeats 8000000 in
theorem new_refuses (w : World) (n : Int) (h : n < 1 ∨ 65536 < n) : Calls Try.prog 10 #[.int .i64 n] w fun e w' => e = .returned (.tuple #[.pointer none, .int .i64 1]) ∧ w = w' := by
  by_cases h0 : n < 1
  · have c0 : decide (n < 1) = true := decide_eq_true h0
    clear h h0
    go_enter Try.func10, Try.ntmps10
    go_wp2
    go_ret2
    exact ⟨rfl, rfl⟩
  · have c0 : decide (n < 1) = false := decide_eq_false h0
    have c1 : decide (65536 < n) = true := decide_eq_true (by omega)
    clear h h0
    go_enter Try.func10, Try.ntmps10
    go_wp2
    go_ret2
    exact ⟨rfl, rfl⟩
set_option maxHeartbeats 8000000 in
set_option maxRecDepth 100000 in
theorem new_calls (w : World) (c : Nat) (h0 : 1 ≤ c) (h1 : c ≤ 65536) :
    Calls Try.prog 10 #[.int .i64 c] w fun e w' => ∃ g b : Nat, e = .returned (.tuple #[.pointer (some ⟨g, 0, none⟩), .int .i64 0]) ∧ Rg w' g b c [] 0 0 ∧ Below w.heap.size w w' ∧ w.heap.size ≤ g ∧ w.heap.size ≤ b := by
  have c0 : decide ((c : Int) < 1) = false := decide_eq_false (by omega)
  have c1 : decide (65536 < (c : Int)) = false := decide_eq_false (by omega)
  have H := Aside0.mk h0
  have H1 := Aside0.mk h1
  have hmk := print_make (P := Try.prog) 22 5 .u8 1 Try.underlying22 info_byte (by decide) c (by omega)
  clear h0 h1
  go_enter Try.func10, Try.ntmps10
  go_wp2
  go_ret2
  have hown := own_made w 0 5 .u8 c (Nat.zero_le _) (by have := H1.out; omega)
  have B1 : Below w.heap.size w (w.alloc (.cells (madeCells #[.int .u8 0] c) 5)) := (Below.refl _ _).alloc (Nat.le_refl _) _
  refine ⟨w.heap.size + 1, w.heap.size, rfl, ⟨by omega, List.replicate c 0, 0, ⟨by simp, by omega, by have := H.out; omega, by simp, H1.out, fun j hj => by simp at hj⟩, ?_, own_same hown ?_⟩, ?_, by omega, Nat.le_refl _⟩
  · exact alloc_last1 _ _ _
  · exact Below.heap_alloc _ _ _ (by rw [alloc_size]; omega)
  · exact B1.alloc (by rw [alloc_size]; omega) _
theorem reads_three (w : World) (e : TypeId) (fr : Nat × Nat) (x y z : Int) : Kd.C (Kd.int .u8) (w.alloc (.cells #[.int .u8 x, .int .u8 y, .int .u8 z] e fr)) (some ⟨w.heap.size, 0, none⟩) ([x, y, z] : List Int).length [x, y, z] := by
  refine Kd.C_of_reads (d := (0 : Int)) (h1 := fun _ => rfl) (show ReadsInt _ .u8 _ _ _ from ⟨rfl, by simp, fun _ => ⟨_, rfl, fun j hj => ?_⟩⟩)
  have hj' : j = 0 ∨ j = 1 ∨ j = 2 := by simp at hj; omega
  rcases hj' with rfl | rfl | rfl
  · rw [add_plain, World.cell?_alloc_mark]; rfl
  · rw [add_plain, World.cell?_alloc_mark]; rfl
  · rw [add_plain, World.cell?_alloc_mark]; rfl
theorem new_calls_int (w : World) (n : Int) (c : Nat) (hn : n = c) (h0 : 1 ≤ c) (h1 : c ≤ 65536) :
    Calls Try.prog 10 #[.int .i64 n] w fun e w' => ∃ g b : Nat, e = .returned (.tuple #[.pointer (some ⟨g, 0, none⟩), .int .i64 0]) ∧ Rg w' g b c [] 0 0 ∧ Below w.heap.size w w' ∧ w.heap.size ≤ g ∧ w.heap.size ≤ b := by
  subst hn
  exact new_calls w c h0 h1

set_option maxHeartbeats 8000000 in
set_option maxRecDepth 100000 in
theorem awake_calls (w : World) : Calls Try.prog 9 #[] w fun e w' => e = .returned (.bool true) ∧ Below w.heap.size w w' := by
  go_enter Try.func9, Try.ntmps9
  go_wp2_with (first
    | (go_at_call 10
       refine (new_calls_int _ _ 2 rfl (by decide) (by decide)).mono ?_
       rintro e w2 ⟨g, b, rfl, hr, hb, hg1, hb1⟩
       have HR := Aside0.mk hr
       have HLT := Aside0.mk hr.lt
       have HB := Aside0.mk hb
       have HG := Aside0.mk (And.intro hg1 hb1)
       clear hr hb hg1 hb1)
    | (go_at_call 11
       go_loud (
       refine (write_calls _ g b 2 [] 0 0 2 _ 3 [1, 2, 3] 2 ?sS (reads_three _ 5 (0, 0) 1 2 3) ?sA (by decide) (by decide) (by decide)).mono ?_
       case sS => exact HR.out.step (Below.heap_alloc _ _ _ HLT.out.1) (Below.heap_alloc _ _ _ HLT.out.2)
       case sA => intro ad e _; obtain rfl := Option.some.inj e; have := HLT.out; simp; omega
       rintro e w3 ⟨rfl, hs, hk, hb⟩
       have HB2 := Aside0.mk (hb w.heap.size w HG.out.1 HG.out.2 (below_alloc HB.out _))
       clear hs hk hb)))
  go_ret
  exact ⟨rfl, HB2.out⟩
end Go.Proofs.Ytnblegepecmblaa.Ring
