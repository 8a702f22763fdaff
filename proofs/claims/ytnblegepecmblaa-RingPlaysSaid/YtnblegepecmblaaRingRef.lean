/-
  The document's line in memory (its bytes may begin anywhere in their row), and the calls of its Take and Write. Conditions: as each theorem says.
-/
import Derived.Test.YtnblegepecmblaaRingRounds
import Derived.Deep.Upon
namespace Go.Proofs.Ytnblegepecmblaa.Ring
open Go.RowKit Go.Proofs.YtnblegepecmblaaW.PrintWords Go.Proofs.YtnblegepecmblaaW.PrintLast Go.Proofs.YtnblegepecmblaaW.PrintMore
attribute [local go_sem] max2_int min2_int max_two min_two max_three min_three max_four min_four
set_option linter.unusedVariables false
set_option linter.unusedSimpArgs false

/-- The slice v reads 'wait', and lies (at whatever offset) in a row of block N or later, or is nil. -/
def Lw (w : World) (N : Nat) (v : Value) (wait : List Int) : Prop :=
  (v = .slice none 0 0 ∧ wait = []) ∨ ∃ (b off cap : Nat) (cur : Array Value), v = .slice (some ⟨b, off, none⟩) wait.length cap ∧ N ≤ b ∧ w.heap[b]? = some (.cells cur 5 (0, 0)) ∧ wait.length ≤ cap ∧ cap ≤ maxLen ∧ off + cap ≤ cur.size ∧
    ∀ j, j < wait.length → cur[off + j]? = some (.int .u8 (wait.getD j 0))
theorem Lw.step {w w1 : World} {N : Nat} {v : Value} {wait : List Int} (h : Lw w N v wait) (hb : ∀ k, N ≤ k → k < w.heap.size → w1.heap[k]? = w.heap[k]?) : Lw w1 N v wait := by
  rcases h with h | ⟨b, off, cap, cur, h1, h2, h3, h4⟩
  · exact .inl h
  · exact .inr ⟨b, off, cap, cur, h1, h2, (hb b h2 (blk_lt h3)).trans h3, h4⟩
theorem Lw.slice {w : World} {N : Nat} {v : Value} {wait : List Int} (h : Lw w N v wait) : ∃ A c, v = .slice A wait.length c ∧ wait.length ≤ c := by
  rcases h with ⟨h, rfl⟩ | ⟨b, off, cap, cur, h1, h2, h3, h4, _⟩
  · exact ⟨none, 0, h, Nat.le_refl _⟩
  · exact ⟨_, _, h1, h4⟩
theorem Lw.reads {w : World} {N : Nat} {A : Option Addr} {n c : Nat} {wait : List Int} (h : Lw w N (.slice A n c) wait) : Kd.C (Kd.int .u8) w A wait.length wait := by
  refine Kd.C_of_reads (d := (0 : Int)) (h1 := fun _ => rfl) (show ReadsInt _ .u8 _ _ _ from ?_)
  rcases h with ⟨h, rfl⟩ | ⟨b, off, cap, cur, h1, h2, h3, h4, h5, h6, h7⟩
  · exact ⟨rfl, by simp, fun h => absurd h (Nat.lt_irrefl 0)⟩
  · injection h1 with e1 e2 e3
    subst e1
    refine ⟨rfl, by simp only [maxLen] at h5; omega, fun _ => ⟨_, rfl, fun j hj => ?_⟩⟩
    rw [Addr.add_lit, cell_of_row w b _ cur _ _ h3]
    exact h7 j hj
/-- One byte more behind the line. -/
theorem Lw.append {w : World} {N : Nat} {v : Value} {wait : List Int} (h : Lw w N v wait) (hN : N ≤ w.heap.size) (s : Nat) (y : Int) (ty : TypeId) (hs : w.cell? ⟨s, 0, none⟩ = some (.int .u8 y)) (hl : wait.length ≤ 1000000) :
    ∃ v' w', (Builtin.append_ #[22, 22] ty #[v, .slice (some ⟨s, 0, none⟩) 1 1]).run Try.prog w = .ok v' w' ∧ Lw w' N v' (wait ++ [y]) ∧ Below N w w' ∧ (∀ k, k < w.heap.size → (∀ A n c, v = .slice A n c → ∀ a, A = some a → k ≠ a.block) → w'.heap[k]? = w.heap[k]?) := by
  obtain ⟨i, hi, hzs⟩ := Option.map_eq_some_iff.1 info_byte
  simp only [Prod.mk.injEq] at hzs
  obtain ⟨hz, hsize, hby⟩ := hzs
  have hsrc : Src Try.prog i.size 22 (.slice (some ⟨s, 0, none⟩) 1 1) 1 [.int .u8 y] w := Src.ofSlice (P := Try.prog) w Try.underlying22 ⟨s, 0, none⟩ 1 1 [.int .u8 y] (by rw [hsize]; rfl) (fun j u hj => by
      obtain ⟨rfl, rfl⟩ : j = 0 ∧ u = .int .u8 y := by
        cases j with
        | zero => simp at hj; exact ⟨rfl, hj.symm⟩
        | succ j => simp at hj
      rw [Addr.add_lit]
      exact hs) (fun u hu => by simp at hu; subst hu; rfl)
  have grow : ∀ (bs : Option Addr) (sc : Nat), v = .slice bs wait.length sc → sc < wait.length + 1 → (Builtin.firstCells i.size wait.length (.slice bs wait.length sc)).run Try.prog w.drew = .ok (nums .u8 wait).toArray w.drew →
      ∃ v' w', (Builtin.append_ #[22, 22] ty #[v, .slice (some ⟨s, 0, none⟩) 1 1]).run Try.prog w = .ok v' w' ∧ Lw w' N v' (wait ++ [y]) ∧ Below N w w' ∧ (∀ k, k < w.heap.size → (∀ A n c, v = .slice A n c → ∀ a, A = some a → k ≠ a.block) → w'.heap[k]? = w.heap[k]?) := by
    rintro bs sc rfl hg hold
    have hrun := run_append_grow_src (P := Try.prog) w 22 22 ty 5 i (.int .u8 0) Try.underlying22 hi hz bs wait.length sc (nums .u8 wait) hold _ 1 _ hsrc hg (by omega) (growslice_fits hg (by rw [hby]; omega))
    have hge := grownCap_ge w (wait.length + 1) sc 5
    have hcm := grownCap_le_maxLen w (wait.length + 1) sc 5 (by simp only [maxLen]; omega)
    refine ⟨_, _, hrun, .inr ⟨w.heap.size, 0, _, _, by rw [List.length_append]; rfl, hN, alloc_last w.drew _, by rw [List.length_append]; exact hge, hcm, ?_, fun j hj => ?_⟩, ((Below.refl N w).drew).alloc hN _, fun k hk _ => Below.heap_alloc w.drew _ k hk⟩
    · rw [Array.size_append, size_zeroCells, show (Value.int .u8 0).cells.size = 1 from rfl, Nat.mul_one]
      simp [nums]
      omega
    · rw [List.length_append] at hj
      simp only [List.length_cons, List.length_nil] at hj
      rw [Nat.zero_add, Array.getElem?_append_left (by simp [nums]; omega), List.getElem?_toArray]
      by_cases hj2 : j < wait.length
      · rw [List.getElem?_append_left (by simpa [nums] using hj2)]
        simp [nums, List.getElem?_eq_getElem hj2, List.getD_eq_getElem?_getD, List.getElem?_append_left hj2]
      · obtain rfl : j = wait.length := by omega
        rw [List.getElem?_append_right (by simp [nums])]
        simp [nums, List.getD_eq_getElem?_getD]
  rcases h with ⟨rfl, rfl⟩ | ⟨b, off, cap, cur, rfl, h2, h3, h4, h5, h6, h7⟩
  · exact grow none 0 rfl (by simp) (run_firstCells_none w.drew i.size 0 0 0)
  · by_cases hroom : wait.length + 1 ≤ cap
    · have hcell : ∀ j, j < cur.size → (w.cell? ⟨b, j, none⟩).isSome = true := fun j hj => by rw [cell_of_row w b _ cur _ _ h3, Array.getElem?_eq_getElem hj]; rfl
      have hrun := run_append_room_src (P := Try.prog) w 22 22 ty 5 i Try.underlying22 hi b off wait.length cap _ 1 _ hsrc hroom
        (fun j hj => hcell _ (by simp at hj; subst hj; rw [hsize]; omega)) (fun j hj => Joins.unfrozen_of_block h3 _)
      rw [hsize, Nat.mul_one] at hrun
      have hset : w.setCells b (off + wait.length) [.int .u8 y] = w.setCell ⟨b, off + wait.length, none⟩ (.int .u8 y) := rfl
      rw [hset] at hrun
      refine ⟨_, _, hrun, .inr ⟨b, off, cap, _, by rw [List.length_append]; rfl, h2, Joins.block_setCell h3 _, by rw [List.length_append]; exact hroom, h5, by rw [Array.size_setIfInBounds]; exact h6, fun j hj => ?_⟩, (Below.refl N w).setCell (p := ⟨b, off + wait.length, none⟩) h2 _, fun k hk hne => Below.heap_setCell w _ _ k (hne _ _ _ rfl ⟨b, off, none⟩ rfl)⟩
      rw [List.length_append] at hj
      simp only [List.length_cons, List.length_nil] at hj
      by_cases hj2 : j < wait.length
      · rw [Array.getElem?_setIfInBounds_ne (by omega), h7 j hj2]
        simp [List.getD_eq_getElem?_getD, List.getElem?_append_left hj2]
      · obtain rfl : j = wait.length := by omega
        rw [Array.getElem?_setIfInBounds_self_of_lt (by omega)]
        simp [List.getD_eq_getElem?_getD]
    · refine grow (some ⟨b, off, none⟩) cap rfl (by omega) (run_firstCells_some w.drew i.size wait.length ⟨b, off, none⟩ wait.length cap (nums .u8 wait) (by rw [hsize]; simp [nums]) (fun j u hu => ?_))
      have hj : j < wait.length := by
        have := (List.getElem?_eq_some_iff.1 hu).1
        simpa [nums] using this
      rw [Addr.add_lit, show w.drew.cell? ⟨b, off + j, none⟩ = w.cell? ⟨b, off + j, none⟩ from rfl, cell_of_row w b _ cur _ _ h3, h7 j hj, ← hu]
      simp [nums, List.getElem?_eq_getElem hj, List.getD_eq_getElem?_getD]
end Go.Proofs.Ytnblegepecmblaa.Ring
