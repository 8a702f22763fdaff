/-
  The calls of the document's line's Take and Write. Conditions: as each theorem says.
-/
import Derived.Test.YtnblegepecmblaaRingRef
namespace Go.Proofs.Ytnblegepecmblaa.Ring
open Go.RowKit Go.Proofs.YtnblegepecmblaaW.PrintWords Go.Proofs.YtnblegepecmblaaW.PrintLast Go.Proofs.YtnblegepecmblaaW.PrintMore
attribute [local go_sem] max2_int min2_int max_two min_two max_three min_three max_four min_four
set_option linter.unusedVariables false
set_option linter.unusedSimpArgs false

/-- The line at block l. -/
def Ln (w : World) (l : Nat) (room : Int) (wait : List Int) (ci co : Int) : Prop :=
  ∃ v, w.heap[l]? = some (.cells #[v, .int .i64 room, .int .u64 ci, .int .u64 co] 39 (0, 0)) ∧ Lw w (l + 1) v wait
theorem Ln.step {w w1 : World} {l : Nat} {room : Int} {wait : List Int} {ci co : Int} (h : Ln w l room wait ci co) (hb : ∀ k, l ≤ k → k < w.heap.size → w1.heap[k]? = w.heap[k]?) : Ln w1 l room wait ci co := by
  obtain ⟨v, h1, h2⟩ := h
  exact ⟨v, (hb l (Nat.le_refl _) (blk_lt h1)).trans h1, h2.step (fun k hk hlt => hb k (by omega) hlt)⟩
theorem Ln.lt {w : World} {l : Nat} {room : Int} {wait : List Int} {ci co : Int} (h : Ln w l room wait ci co) : l < w.heap.size := by
  obtain ⟨v, h1, h2⟩ := h
  exact blk_lt h1
theorem Lw.drop {w : World} {N : Nat} {A : Option Addr} {c k n : Nat} {wait : List Int} (h : Lw w N (.slice A wait.length c) wait) (hk : k ≤ wait.length) (hn : n = wait.length - k) :
    Lw w N (.slice (if c = k then A else A.map (·.add (k * 1))) n (c - k)) (wait.drop k) := by
  subst hn
  rcases h with ⟨h, rfl⟩ | ⟨b, off, cap, cur, h1, h2, h3, h4, h5, h6, h7⟩
  · injection h with e1 e2 e3
    subst e1
    subst e3
    obtain rfl : k = 0 := by simpa using hk
    exact .inl ⟨rfl, rfl⟩
  · injection h1 with e1 e2 e3
    subst e1
    subst e3
    by_cases hc : c = k
    · rw [if_pos hc]
      subst hc
      have hw : wait.drop c = [] := List.drop_of_length_le h4
      rw [hw]
      refine .inr ⟨b, off, 0, cur, ?_, h2, h3, Nat.le_refl _, Nat.zero_le _, by omega, fun j hj => absurd hj (Nat.not_lt_zero _)⟩
      rw [Nat.sub_self, Nat.sub_eq_zero_of_le h4]
      rfl
    · rw [if_neg hc]
      refine .inr ⟨b, off + k, c - k, cur, ?_, h2, h3, by rw [List.length_drop]; omega, by omega, by omega, fun j hj => ?_⟩
      · rw [List.length_drop, Option.map_some, Nat.mul_one, Addr.add_lit]
      · rw [List.length_drop] at hj
        rw [Nat.add_assoc, h7 (k + j) (by omega)]
        simp [List.getD_eq_getElem?_getD, List.getElem?_drop]
theorem line_cut {A : Option Addr} {len c k n : Nat} (hk : k ≤ len) (hn : n = len - k) : ∃ (A2 : Option Addr) (c2 : Nat), (∀ W : World, (Instr.slice 22 (.slice A len c) (some (.int .i64 (k : Int))) none none).run Try.prog W = .ok (.slice A2 n c2) W) ∧
      ∀ (W : World) (N : Nat) (wait : List Int), wait.length = len → Lw W N (.slice A len c) wait → Lw W N (.slice A2 n c2) (wait.drop k) := by
  obtain ⟨i0, hi0, _, hsz, _⟩ := info_parts info_byte
  have h := cut_from (P := Try.prog) 22 5 .i64 Try.underlying22 hi0 1 hsz A len c k (by omega) (by omega)
  simp only [Int.toNat_natCast] at h
  refine ⟨if c = k then A else A.map (·.add (k * 1)), c - k, ?_, fun W N wait hl hw => ?_⟩
  · subst hn; exact h
  · subst hl
    exact hw.drop hk hn

set_option maxHeartbeats 8000000 in
theorem ref_refuses (w : World) (l : Nat) (room : Int) (wait : List Int) (ci co n : Int) (hR : Ln w l room wait ci co) (hn : n < 0 ∨ (wait.length : Int) < n) :
    Calls Try.prog 17 #[.pointer (some ⟨l, 0, none⟩), .int .i64 n] w fun e w' => e = .returned (.bool false) ∧ w = w' := by
  obtain ⟨v, hs, hw⟩ := hR
  obtain ⟨A, c, rfl, hlc⟩ := hw.slice
  have g0 : w.cell? ⟨l, 0, none⟩ = some (.slice A wait.length c) := block_cell (i := 0) hs rfl
  clear hw hs hlc
  by_cases h0 : n < 0
  · have c0 : decide (n < 0) = true := decide_eq_true h0
    clear hn h0
    go_enter Try.func17, Try.ntmps17
    go_wp2
    go_ret
    exact ⟨rfl, rfl⟩
  · have c0 : decide (n < 0) = false := decide_eq_false h0
    have c1 : decide ((wait.length : Int) < n) = true := decide_eq_true (by omega)
    clear hn h0
    go_enter Try.func17, Try.ntmps17
    go_wp2
    go_ret
    exact ⟨rfl, rfl⟩
set_option maxHeartbeats 8000000 in
theorem ref_take (w : World) (l : Nat) (room : Int) (wait : List Int) (ci co : Int) (k : Nat) (hR : Ln w l room wait ci co) (hk : k ≤ wait.length) (hkm : k ≤ 1000000) :
    Calls Try.prog 17 #[.pointer (some ⟨l, 0, none⟩), .int .i64 (k : Int)] w fun e w' => e = .returned (.bool true) ∧ Ln w' l room (wait.drop k) ci (IntKind.u64.wrap (co + k)) ∧ Below l w w' := by
  obtain ⟨v, hs, hw⟩ := hR
  obtain ⟨A, c, rfl, hlc⟩ := hw.slice
  have g0 : w.cell? ⟨l, 0, none⟩ = some (.slice A wait.length c) := block_cell (i := 0) hs rfl
  have g3 : w.cell? ⟨l, 3, none⟩ = some (.int .u64 co) := block_cell (i := 3) hs rfl
  have f0 := Joins.unfrozen_of_block hs 0
  have f3 := Joins.unfrozen_of_block hs 3
  obtain ⟨n2, hn2⟩ : ∃ n2, n2 = wait.length - k := ⟨_, rfl⟩
  obtain ⟨A2, c2, hcut, hdrop⟩ := line_cut (A := A) (c := c) hk hn2
  have c0 : decide ((k : Int) < 0) = false := decide_eq_false (by omega)
  have c1 : decide ((wait.length : Int) < (k : Int)) = false := decide_eq_false (by omega)
  have c2' : decide (wait.length < k) = false := decide_eq_false (Nat.not_lt.2 hk)
  have e1 : IntKind.u64.wrap (k : Int) = k := u64_in hkm
  have HW := Aside0.mk hw
  have HS := Aside0.mk hs
  have HD := Aside0.mk hdrop
  clear hw hs hlc hk hkm hn2 hdrop
  go_enter Try.func17, Try.ntmps17
  go_wp2
  go_ret
  refine ⟨rfl, ⟨.slice A2 n2 c2, ?_, ?_⟩, ?_⟩
  · have q1 := Joins.block_setCell (i := 0) HS.out (.slice A2 n2 c2)
    have q2 := Joins.block_setCell (i := 3) q1 (.int .u64 (IntKind.u64.wrap (co + k)))
    rw [q2]
    simp
  · refine (HD.out w _ wait rfl HW.out).step (fun j hj _ => ?_)
    rw [Below.heap_setCell _ _ _ _ (by show j ≠ l; omega), Below.heap_setCell _ _ _ _ (by show j ≠ l; omega)]
  · exact ((Below.refl l w).setCell (p := ⟨l, 0, none⟩) (Nat.le_refl _) _).setCell (p := ⟨l, 3, none⟩) (Nat.le_refl _) _
end Go.Proofs.Ytnblegepecmblaa.Ring
