/-
  The call of ring.Ring.Peek: it answers a new row of what waits, and nothing else is changed. Conditions: as each theorem says.
-/
import Derived.Test.YtnblegepecmblaaRingTake
namespace Go.Proofs.Ytnblegepecmblaa.Ring
open Go.RowKit Go.Proofs.YtnblegepecmblaaW.PrintWords Go.Proofs.YtnblegepecmblaaW.PrintLast Go.Proofs.YtnblegepecmblaaW.PrintMore
attribute [local go_sem] max2_int min2_int max_two min_two max_three min_three max_four min_four
set_option linter.unusedVariables false
set_option linter.unusedSimpArgs false

set_option maxHeartbeats 8000000 in
theorem peek_nil (w : World) : Calls Try.prog 15 #[.pointer none] w fun e w' => e = .returned (.slice none 0 0) ∧ w = w' := by
  go_enter Try.func15, Try.ntmps15
  go_wp2_with (go_at_call 14; refine (len_nil _).mono ?_; rintro e w2 ⟨rfl, rfl⟩)
  go_loopg [3, 7] 0 (fun m v3 v7 w' => v3 = .slice none 0 0 ∧ v7 = .int .i64 0 ∧ Aside0 (w = w'))
  case atStart => exact ⟨rfl, rfl, ⟨rfl⟩⟩
  case round =>
    obtain ⟨rfl, rfl, HW⟩ := hrel
    cases gk with
    | zero =>
      go_wp2
      go_ret
      exact ⟨rfl, HW.out⟩
    | succ m => 
      go_wp2
      go_ret
      exact ⟨rfl, HW.out⟩
theorem take_snoc (wait : List Int) (i : Int) (h0 : 0 ≤ i) (h1 : i < wait.length) : wait.take i.toNat ++ [rd wait i] = wait.take (i + 1).toNat := by
  have e : (i + 1).toNat = i.toNat + 1 := by omega
  rw [e, List.take_add_one, List.getElem?_eq_getElem (show i.toNat < wait.length by omega)]
  simp [rd, List.getD_eq_getElem?_getD, List.getElem?_eq_getElem (show i.toNat < wait.length by omega)]

set_option maxHeartbeats 8000000 in
set_option maxRecDepth 100000 in
theorem peek_calls (w : World) (g b c : Nat) (wait : List Int) (ci co : Int) (hR : Rg w g b c wait ci co) :
    Calls Try.prog 15 #[.pointer (some ⟨g, 0, none⟩)] w fun e w' => ∃ v0 : Value, e = .returned v0 ∧ Kd.R (Kd.int .u8) 5 w' w.heap.size (fun _ => True) v0 wait ∧ Below w.heap.size w w' := by
  have HRG := Aside0.mk hR
  have HROOM := Aside0.mk hR.room
  obtain ⟨hne, xs, hd, hw, hs, hr⟩ := hR
  have HG0 := Aside0.mk (show w.cell? ⟨g, 0, none⟩ = some (.slice (some ⟨b, 0, none⟩) c c) from block_cell (i := 0) hs rfl)
  have HG1 := Aside0.mk (show w.cell? ⟨g, 1, none⟩ = some (.int .i64 hd) from block_cell (i := 1) hs rfl)
  have HW := Aside0.mk hw
  have HR := Aside0.mk hr
  clear hw hs hr
  go_enter Try.func15, Try.ntmps15
  go_wp2_with (go_at_call 14; refine (len_calls _ _ _ _ _ _ _ HRG.out).mono ?_; rintro e w2 ⟨rfl, rfl⟩)
  go_loopg [3, 7] wait.length (fun m v3 v7 w' => ∃ i : Int, v7 = .int .i64 i ∧ Aside0 (0 ≤ i ∧ i + m = (wait.length : Int)) ∧ Aside0 (Kd.R (Kd.int .u8) 5 w' w.heap.size (fun _ => True) v3 (wait.take i.toNat)) ∧ Aside0 (Below w.heap.size w w'))
  case atStart => exact ⟨0, rfl, ⟨by omega⟩, ⟨Kd.R_nil _ _ _ _ _⟩, ⟨Below.refl _ _⟩⟩
  case round =>
    obtain ⟨i, rfl, HI, HO, HB⟩ := hrel
    cases gk with
    | zero =>
      have c0b : decide (i < (wait.length : Int)) = false := decide_eq_false (by have := HI.out; omega)
      go_wp2
      go_ret
      have ho := HO.out
      rw [List.take_of_length_le (by have := HI.out; omega)] at ho
      exact ⟨_, rfl, ho, HB.out⟩
    | succ m =>
      have c0b : decide (i < (wait.length : Int)) = true := decide_eq_true (by have := HI.out; omega)
      have p0 : 0 ≤ i := by have := HI.out; omega
      have q0 : i < (wait.length : Int) := by have := HI.out; omega
      obtain ⟨hl1, hl2, hl3, hl4, hl5, hl6⟩ := HW.out
      have e2 : IntKind.i64.wrap (hd + i) = hd + i := IntWalk.i64_in _ (by omega)
      have e5 : ¬ (c : Int) = 0 := by omega
      have e6 : ¬ c = 0 := by omega
      have e7 : (c == 0) = false := by simp; omega
      have e8 : decide (c = 0) = false := decide_eq_false (by omega)
      obtain ⟨k, hk⟩ : ∃ k, k = (hd + i) % (c : Int) := ⟨_, rfl⟩
      have e9 : (hd + i) % (c : Int) = k := hk.symm
      have e10 : (hd + i).tmod (c : Int) = k := by rw [Int.tmod_eq_emod_of_nonneg (by omega)]; exact hk.symm
      have pk : 0 ≤ k := by rw [hk]; exact Int.emod_nonneg _ (by omega)
      have qk : k < (c : Int) := by rw [hk]; exact Int.emod_lt_of_pos _ (by omega)
      have hv : rd xs k = rd wait i := by
        have := hl6 i.toNat (by omega)
        rw [show ((i.toNat : Nat) : Int) = i by omega] at this
        rw [hk, this, rd]
      have hx := (own_at HR.out k pk qk).1
      rw [hv] at hx
      replace hx := (HB.out.cell (World.block_lt_of_cell? w _ hx)).trans hx
      have g0 := (HB.out.cell (World.block_lt_of_cell? w _ HG0.out)).trans HG0.out
      have g1 := (HB.out.cell (World.block_lt_of_cell? w _ HG1.out)).trans HG1.out
      have HT := Aside0.mk (take_snoc wait i p0 q0)
      have HLT := Aside0.mk (show (wait.take i.toNat).length ≤ 65536 by rw [List.length_take]; omega)
      clear hl1 hl2 hl3 hl4 hl5 hl6 hk hv
      replace pk := eq_true pk
      replace qk := eq_true qk
      clear p0 q0
      go_upto_region 5 with (fail)
      go_region_law ((refine Kd.R_append_step (Kd.int .u8) (w0 := w) (W := wr.drew) w.heap.size rfl (.tmp 10) (.tmp 29) 22 5 (.int .u8 0) 1 rfl Try.underlying22 info_byte rfl (by decide) (by omega) u3 (wait.take i.toNat) (rd wait i) [.int .u8 (rd wait i)] (fun _ => True) (fun _ => False) rfl rfl rfl (fun _ h => h.elim) (fun _ _ => trivial) ?aO ?aB ?aS ?aL ?_); (case aO => exact Kd.R_drew HO.out); (case aB => exact below_drew1 HB.out); (case aS => exact HB.out.size); (case aL => have := HLT.out; omega); intro v3 w3 ho hb hg hat; have HON := Aside0.mk ho; have HBN := Aside0.mk hb; clear ho hb hg hat)
      all_goals
        go_wp2
        go_roundg m
        case measure => omega
        case rel => exact ⟨_, rfl, ⟨by have := HI.out; have := HROOM.out; unfold wrap64; omega⟩, ⟨by have ho := HON.out; rw [HT.out] at ho; rw [show wrap64 (i + 1) = i + 1 by have := HI.out; have := HROOM.out; unfold wrap64; omega]; exact ho⟩, HBN⟩
end Go.Proofs.Ytnblegepecmblaa.Ring
