/-
  The ring in memory, and the calls of its small methods: what they answer, what becomes of the ring, and that nothing else is changed. Conditions: as each theorem says.
-/
import Derived.Test.YtnblegepecmblaaWWords
import Derived.Test.YtnblegepecmblaaWKept
import Derived.Test.YtnblegepecmblaaWMore
import Derived.Test.YtnblegepecmblaaProg
import Derived.Deep.RegionLaw
import Derived.Deep.RegionWith
import Derived.BigRegion
import Derived.Lib.SmallJoins
namespace Go.Proofs.Ytnblegepecmblaa.Ring
open Go.RowKit Go.Proofs.YtnblegepecmblaaW.PrintWords Go.Proofs.YtnblegepecmblaaW.PrintLast Go.Proofs.YtnblegepecmblaaW.PrintMore
attribute [local go_sem] max2_int min2_int max_two min_two max_three min_three max_four min_four
set_option linter.unusedVariables false
set_option linter.unusedSimpArgs false

theorem info_byte : (Try.prog.info? 5).map (fun i => (i.zero, i.size, i.bytes)) = some (some (.int .u8 0), 1, 1) := by kernel_rfl
theorem block_cell {w : World} {g i : Nat} {cs : Array Value} {t : TypeId} {fr : Nat × Nat} {v : Value} (h : w.heap[g]? = some (.cells cs t fr)) (hv : cs[i]? = some v) : w.cell? ⟨g, i, none⟩ = some v := by
  simp [World.cell?, h, hv]
theorem own_same {w w1 : World} {base b n c : Nat} {e : TypeId} {xs : List Value} (h : w.ownsRow base e 1 (.slice (some ⟨b, 0, none⟩) n c) n xs) (hb : w1.heap[b]? = w.heap[b]?) : w1.ownsRow base e 1 (.slice (some ⟨b, 0, none⟩) n c) n xs := by
  refine ⟨h.1, ?_⟩
  rcases h.2 with l | ⟨g', cap', cur, h', a, hh, r⟩
  · exact .inl l
  · injection h' with h' _ hc
    injection h' with h'
    injection h' with h'
    subst h'
    subst hc
    exact .inr ⟨b, c, cur, rfl, a, hb.trans hh, r⟩

/-- The line that waits lies in the row's cells from 'h' on, round the row's end. -/
def Wt (xs : List Int) (c : Nat) (h : Int) (wait : List Int) : Prop := xs.length = c ∧ 0 ≤ h ∧ h < c ∧ wait.length ≤ c ∧ c ≤ 65536 ∧ ∀ j : Nat, j < wait.length → rd xs ((h + j) % c) = wait.getD j 0

/-- The ring at block g, its row at block b, of room c: what waits, how many went in and out. -/
def Rg (w : World) (g b c : Nat) (wait : List Int) (ci co : Int) : Prop :=
  g ≠ b ∧ ∃ (xs : List Int) (h : Int), Wt xs c h wait ∧
    w.heap[g]? = some (.cells #[.slice (some ⟨b, 0, none⟩) c c, .int .i64 h, .int .i64 wait.length, .int .u64 ci, .int .u64 co] 49 (0, 0)) ∧
    w.ownsRow 0 5 1 (.slice (some ⟨b, 0, none⟩) c c) c (nums .u8 xs)

theorem Rg.step {w w1 : World} {g b c : Nat} {wait : List Int} {ci co : Int} (h : Rg w g b c wait ci co) (hg : w1.heap[g]? = w.heap[g]?) (hb : w1.heap[b]? = w.heap[b]?) : Rg w1 g b c wait ci co := by
  obtain ⟨hne, xs, hd, hw, hs, hr⟩ := h
  exact ⟨hne, xs, hd, hw, hg.trans hs, own_same hr hb⟩
theorem Rg.lt {w : World} {g b c : Nat} {wait : List Int} {ci co : Int} (h : Rg w g b c wait ci co) : g < w.heap.size ∧ b < w.heap.size := by
  obtain ⟨hne, xs, hd, hw, hs, hr⟩ := h
  exact ⟨blk_lt hs, own_lt hr b rfl⟩
theorem Rg.below {w w1 : World} {g b c : Nat} {wait : List Int} {ci co : Int} (h : Rg w g b c wait ci co) (hb : Below w.heap.size w w1) : Rg w1 g b c wait ci co :=
  h.step (hb.block g h.lt.1) (hb.block b h.lt.2)
theorem Rg.room {w : World} {g b c : Nat} {wait : List Int} {ci co : Int} (h : Rg w g b c wait ci co) : wait.length ≤ c ∧ 1 ≤ c ∧ c ≤ 65536 := by
  obtain ⟨hne, xs, hd, ⟨_, h0, h1, h2, h3, _⟩, hs, hr⟩ := h
  exact ⟨h2, by omega, h3⟩

set_option maxHeartbeats 8000000 in
theorem len_calls (w : World) (g b c : Nat) (wait : List Int) (ci co : Int) (hR : Rg w g b c wait ci co) :
    Calls Try.prog 14 #[.pointer (some ⟨g, 0, none⟩)] w fun e w' => e = .returned (.int .i64 wait.length) ∧ w = w' := by
  obtain ⟨hne, xs, hd, hw, hs, hr⟩ := hR
  have h2 : w.cell? ⟨g, 2, none⟩ = some (.int .i64 wait.length) := block_cell (i := 2) hs rfl
  clear hw hs hr
  go_enter Try.func14, Try.ntmps14
  go_wp2
  go_ret
  exact ⟨rfl, rfl⟩
set_option maxHeartbeats 8000000 in
theorem len_nil (w : World) : Calls Try.prog 14 #[.pointer none] w fun e w' => e = .returned (.int .i64 0) ∧ w = w' := by
  go_enter Try.func14, Try.ntmps14
  go_wp2
  go_ret
  exact ⟨rfl, rfl⟩
set_option maxHeartbeats 8000000 in
theorem cap_calls (w : World) (g b c : Nat) (wait : List Int) (ci co : Int) (hR : Rg w g b c wait ci co) :
    Calls Try.prog 19 #[.pointer (some ⟨g, 0, none⟩)] w fun e w' => e = .returned (.int .i64 c) ∧ w = w' := by
  obtain ⟨hne, xs, hd, hw, hs, hr⟩ := hR
  have h2 : w.cell? ⟨g, 0, none⟩ = some (.slice (some ⟨b, 0, none⟩) c c) := block_cell (i := 0) hs rfl
  clear hw hs hr
  go_enter Try.func19, Try.ntmps19
  go_wp2
  go_ret
  exact ⟨rfl, rfl⟩
set_option maxHeartbeats 8000000 in
theorem cap_nil (w : World) : Calls Try.prog 19 #[.pointer none] w fun e w' => e = .returned (.int .i64 0) ∧ w = w' := by
  go_enter Try.func19, Try.ntmps19
  go_wp2
  go_ret
  exact ⟨rfl, rfl⟩
set_option maxHeartbeats 8000000 in
theorem in_calls (w : World) (g b c : Nat) (wait : List Int) (ci co : Int) (hR : Rg w g b c wait ci co) :
    Calls Try.prog 20 #[.pointer (some ⟨g, 0, none⟩)] w fun e w' => e = .returned (.int .u64 ci) ∧ w = w' := by
  obtain ⟨hne, xs, hd, hw, hs, hr⟩ := hR
  have h2 : w.cell? ⟨g, 3, none⟩ = some (.int .u64 ci) := block_cell (i := 3) hs rfl
  clear hw hs hr
  go_enter Try.func20, Try.ntmps20
  go_wp2
  go_ret
  exact ⟨rfl, rfl⟩
set_option maxHeartbeats 8000000 in
theorem in_nil (w : World) : Calls Try.prog 20 #[.pointer none] w fun e w' => e = .returned (.int .u64 0) ∧ w = w' := by
  go_enter Try.func20, Try.ntmps20
  go_wp2
  go_ret
  exact ⟨rfl, rfl⟩
set_option maxHeartbeats 8000000 in
theorem out_calls (w : World) (g b c : Nat) (wait : List Int) (ci co : Int) (hR : Rg w g b c wait ci co) :
    Calls Try.prog 16 #[.pointer (some ⟨g, 0, none⟩)] w fun e w' => e = .returned (.int .u64 co) ∧ w = w' := by
  obtain ⟨hne, xs, hd, hw, hs, hr⟩ := hR
  have h2 : w.cell? ⟨g, 4, none⟩ = some (.int .u64 co) := block_cell (i := 4) hs rfl
  clear hw hs hr
  go_enter Try.func16, Try.ntmps16
  go_wp2
  go_ret
  exact ⟨rfl, rfl⟩
set_option maxHeartbeats 8000000 in
theorem out_nil (w : World) : Calls Try.prog 16 #[.pointer none] w fun e w' => e = .returned (.int .u64 0) ∧ w = w' := by
  go_enter Try.func16, Try.ntmps16
  go_wp2
  go_ret
  exact ⟨rfl, rfl⟩
set_option maxHeartbeats 8000000 in
theorem free_calls (w : World) (g b c : Nat) (wait : List Int) (ci co : Int) (m : Int) (hR : Rg w g b c wait ci co) (hm : m = (c : Int) - wait.length) :
    Calls Try.prog 12 #[.pointer (some ⟨g, 0, none⟩)] w fun e w' => e = .returned (.int .i64 m) ∧ w = w' := by
  have hr := hR.room
  have hw2 : wrap64 ((c : Int) - wait.length) = m := by unfold wrap64; omega
  have HR := Aside0.mk hR
  clear hR hr
  go_enter Try.func12, Try.ntmps12
  go_wp2_with (first
    | (go_at_call 19; refine (cap_calls _ _ _ _ _ _ _ HR.out).mono ?_; rintro e w2 ⟨rfl, rfl⟩)
    | (go_at_call 14; refine (len_calls _ _ _ _ _ _ _ HR.out).mono ?_; rintro e w2 ⟨rfl, rfl⟩))
  go_ret
  first
    | exact ⟨congrArg (fun x => Ending.returned (.int .i64 x)) hm.symm, rfl⟩
    | exact ⟨congrArg (fun x => Ending.returned (.int .i64 x)) hw2, rfl⟩
set_option maxHeartbeats 8000000 in
theorem free_nil (w : World) : Calls Try.prog 12 #[.pointer none] w fun e w' => e = .returned (.int .i64 0) ∧ w = w' := by
  go_enter Try.func12, Try.ntmps12
  go_wp2_with (first
    | (go_at_call 19; refine (cap_nil _).mono ?_; rintro e w2 ⟨rfl, rfl⟩)
    | (go_at_call 14; refine (len_nil _).mono ?_; rintro e w2 ⟨rfl, rfl⟩))
  go_ret
  exact ⟨rfl, rfl⟩
end Go.Proofs.Ytnblegepecmblaa.Ring
