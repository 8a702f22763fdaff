/-
  The call of the document's line's Write. Conditions: as the theorem says.
-/
import Derived.Test.YtnblegepecmblaaRingRefW
namespace Go.Proofs.Ytnblegepecmblaa.Ring
open Go.RowKit Go.Proofs.YtnblegepecmblaaW.PrintWords Go.Proofs.YtnblegepecmblaaW.PrintLast Go.Proofs.YtnblegepecmblaaW.PrintMore
attribute [local go_sem] max2_int min2_int max_two min_two max_three min_three max_four min_four
set_option linter.unusedVariables false
set_option linter.unusedSimpArgs false

theorem one_in {i : Nat} (h : i ≤ 1000000) : wrap64 ((i : Int) + 1) = ((i + 1 : Nat) : Int) := by unfold wrap64; omega
/-- At a step of a region that draws its order: one byte more behind the line. -/
theorem step_line_append {ops : Array Oper} {o : Oper} {a : Act} {W : World} {K : Act → World → Prop} {Q : Exit → Act → World → Prop} {E : Prop} (hgd : o.guard = none) (s x : Operand)
    (ho : o.op = .call { callee := .builtin .append, args := #[s, x], argTypes := #[22, 22] }) (N sb : Nat) (v : Value) (wait : List Int) (y : Int) (hs : a.eval s = v) (hx : a.eval x = .slice (some ⟨sb, 0, none⟩) 1 1)
    (HL : Lw W N v wait) (hN : N ≤ W.heap.size) (hc : W.cell? ⟨sb, 0, none⟩ = some (.int .u8 y)) (hl : wait.length ≤ 1000000)
    (h : ∀ A c w', Lw w' N (.slice A (wait ++ [y]).length c) (wait ++ [y]) → Below N W w' → K (a.put o.dst (.slice A (wait ++ [y]).length c)) w') :
    if Region.wanted o (yielded ops a.tmps) = true then Oper.wp Try.prog o a W K Q else E := by
  have hw : Region.wanted o (yielded ops a.tmps) = true := by simp [Region.wanted, hgd]
  rw [if_pos hw]
  obtain ⟨v', w', hr, h2, h3, _⟩ := HL.append hN sb y o.type hc hl
  obtain ⟨A, c, rfl, _⟩ := h2.slice
  unfold Oper.wp execOp
  simp only [ho, resolve, invoke, builtin, Sem.run_bind, Sem.run_pure, Result.andThen_ok, List.map_toArray, List.map_cons, List.map_nil, hs, hx, hr]
  exact h A c w' h2 h3

set_option maxHeartbeats 8000000 in
set_option maxRecDepth 100000 in
theorem ref_write (w : World) (l : Nat) (room : Nat) (wait : List Int) (ci co : Int) (A : Option Addr) (cp : Nat) (p : List Int) (n : Nat) (hR : Ln w l room wait ci co) (hp : Kd.C (Kd.int .u8) w A p.length p) (hA : ∀ ad, A = some ad → 0 < p.length → ad.block < l)
    (hn : n = min p.length (room - wait.length)) (hroom : room ≤ 65536) (hwr : wait.length ≤ room) :
    Calls Try.prog 18 #[.pointer (some ⟨l, 0, none⟩), .slice A p.length cp] w fun e w' => e = .returned (.int .i64 n) ∧ Ln w' l room (wait ++ p.take n) (IntKind.u64.wrap (ci + n)) co ∧ Below l w w' := by
  have HRG := Aside0.mk hR
  have HP := Aside0.mk hp
  have HA := Aside0.mk hA
  have HN := Aside0.mk hn
  have HROOM := Aside0.mk (And.intro hroom hwr)
  clear hR hp hA hn hroom hwr
  go_enter Try.func18, Try.ntmps18
  go_wp2_with (fail)
  go_loopg [5] n (fun m v5 w' => ∃ i : Nat, v5 = .int .i64 i ∧ Aside0 (i + m = n) ∧ Aside0 (Ln w' l room (wait ++ p.take i) ci co) ∧ Aside0 (Below l w w'))
  case atStart => exact ⟨0, rfl, ⟨Nat.zero_add _⟩, ⟨by simpa using HRG.out⟩, ⟨Below.refl _ _⟩⟩
  case round =>
    clear HRG
    obtain ⟨i, rfl, HI, HL, HB⟩ := hrel
    obtain ⟨v, hs, hw⟩ := HL.out
    obtain ⟨Aw, cw, rfl, hlc⟩ := hw.slice
    have hnp : n ≤ p.length := HN.out ▸ Nat.min_le_left _ _
    have hin : i ≤ n := by have := HI.out; omega
    obtain ⟨wl, hwl⟩ : ∃ wl, wl = (wait ++ p.take i).length := ⟨_, rfl⟩
    have hwl2 : wl = wait.length + i := by rw [hwl, List.length_append, List.length_take, Nat.min_eq_left (Nat.le_trans hin hnp)]
    rw [← hwl] at hs hlc
    have HWL := Aside0.mk hwl
    have HWL2 := Aside0.mk hwl2
    have HW := Aside0.mk hw
    have g0 : wr.cell? ⟨l, 0, none⟩ = some (.slice Aw wl cw) := block_cell (i := 0) hs rfl
    have g1 : wr.cell? ⟨l, 1, none⟩ = some (.int .i64 room) := block_cell (i := 1) hs rfl
    have f0 := Joins.unfrozen_of_block hs 0
    have HS := Aside0.mk hs
    clear hs hw hlc hwl hwl2 hnp hin
    cases gk with
    | zero =>
      have hor : (p.length ≤ i) ∨ (i < p.length ∧ room ≤ wl) := by have := HI.out; have := HN.out; have := HWL2.out; omega
      have g2 : wr.cell? ⟨l, 2, none⟩ = some (.int .u64 ci) := block_cell (i := 2) HS.out rfl
      have f2 := Joins.unfrozen_of_block HS.out 2
      have e1 : IntKind.u64.wrap (i : Int) = i := u64_in (by have := HI.out; have := HN.out; have := HROOM.out; omega)
      go_upto_region 2 with (fail)
      go_cut [21] from 6 to 36 (fun v21 wc => v21 = .bool false ∧ Aside0 (wc.heap = wr.heap) ∧ Aside0 (∀ B w0, Below B w0 wr → Below B w0 wc))
      case first =>
        rcases hor with h1 | ⟨h1, h2⟩
        · have c1 : decide ((i : Int) < (p.length : Int)) = false := decide_eq_false (by omega)
          have c2 : decide (i < p.length) = false := decide_eq_false (Nat.not_lt.2 h1)
          clear h1
          go_quiet (fail)
          go_wp2
          go_meet
          exact ⟨rfl, ⟨rfl⟩, ⟨fun B w0 h => pw_below_drewN h _⟩⟩
        · have c1 : decide ((i : Int) < (p.length : Int)) = true := decide_eq_true (by omega)
          have c2 : decide (i < p.length) = true := decide_eq_true h1
          have c3 : decide ((wl : Int) < (room : Int)) = false := decide_eq_false (by omega)
          have c4 : decide (wl < room) = false := decide_eq_false (Nat.not_lt.2 h2)
          clear h1 h2
          go_quiet (fail)
          go_wp2
          go_meet
          exact ⟨rfl, ⟨rfl⟩, ⟨fun B w0 h => pw_below_drewN h _⟩⟩
      case rest =>
        obtain ⟨rfl, HH, HBC⟩ := hcut
        clear hor g2 f2 g0 g1 f0
        have hs := HS.out
        rw [← HH.out] at hs
        have g2 : wc.cell? ⟨l, 2, none⟩ = some (.int .u64 ci) := block_cell (i := 2) hs rfl
        have f2 := Joins.unfrozen_of_block hs 2
        have HS2 := Aside0.mk hs
        clear hs
        go_wp2
        go_ret
        obtain rfl : i = n := HI.out
        refine ⟨rfl, ⟨.slice Aw wl cw, ?_, ?_⟩, ?_⟩
        · have q1 := Joins.block_setCell (i := 2) HS2.out (.int .u64 (IntKind.u64.wrap (ci + i)))
          rw [q1]
          simp
        · rw [HWL.out]
          exact HW.out.step (fun j hj _ => by rw [Below.heap_setCell _ _ _ _ (by show j ≠ l; omega), HH.out])
        · exact (HBC.out _ _ HB.out).setCell (p := ⟨l, 2, none⟩) (Nat.le_refl _) _
    | succ m =>
      have h1 : i < p.length := by have := HI.out; have := HN.out; omega
      have h2 : wl < room := by have := HI.out; have := HN.out; have := HWL2.out; omega
      have c1 : decide ((i : Int) < (p.length : Int)) = true := decide_eq_true (by omega)
      have c2 : decide (i < p.length) = true := decide_eq_true h1
      have c3 : decide ((wl : Int) < (room : Int)) = true := decide_eq_true (by omega)
      have c4 : decide (wl < room) = true := decide_eq_true h2
      have H1 := Aside0.mk h1
      have H2 := Aside0.mk h2
      clear h1 h2
      go_upto_region 2 with (fail)
      go_cut [21] from 6 to 36 (fun v21 wc => v21 = .bool true ∧ Aside0 (wc.heap = wr.heap) ∧ Aside0 (∀ B w0, Below B w0 wr → Below B w0 wc))
      case first =>
        go_quiet (fail)
        go_wp2
        go_meet
        exact ⟨rfl, ⟨rfl⟩, ⟨fun B w0 h => pw_below_drewN h _⟩⟩
      case rest =>
        obtain ⟨rfl, HH, HBC⟩ := hcut
        clear g0 g1 f0 c3 c4 c1 c2
        obtain ⟨ad, ea, hx⟩ := Kd.at_int HP.out i (Int.natCast_nonneg _) (Int.ofNat_lt.2 H1.out)
        have hadl := HA.out ad ea (Nat.lt_of_le_of_lt (Nat.zero_le _) H1.out)
        cases ea
        simp only [Int.toNat_natCast] at hx
        have HB1 := Aside0.mk (HBC.out _ _ HB.out)
        replace hx := (HB1.out.cell (by show (ad.add i).block < l; have e4 : (ad.add i).block = ad.block := by unfold Addr.add; split <;> rfl
                                        rw [e4]; exact hadl)).trans hx
        have hs := HS.out
        rw [← HH.out] at hs
        have HS2 := Aside0.mk hs
        have g0 : wc.cell? ⟨l, 0, none⟩ = some (.slice Aw wl cw) := block_cell (i := 0) hs rfl
        have hwc := HW.out.step (w1 := wc) (fun k _ _ => by rw [HH.out])
        rw [← HWL.out] at hwc
        have HWC := Aside0.mk hwc
        have HLT := Aside0.mk (blk_lt hs)
        have ht := take_snoc p i (Int.natCast_nonneg _) (Int.ofNat_lt.2 H1.out)
        simp only [Int.toNat_natCast] at ht
        have HT := Aside0.mk (show (wait ++ p.take i) ++ [rd p i] = wait ++ p.take (i + 1) by rw [List.append_assoc, ht]; rfl)
        have HLEN := Aside0.mk (show ((wait ++ p.take i) ++ [rd p i]).length = wl + 1 by rw [List.length_append, ← HWL.out]; rfl)
        generalize rd p i = y at hx HT HLEN
        have gA : (wc.alloc (.cells #[.int .u8 y] 5)).cell? ⟨l, 0, none⟩ = some (.slice Aw wl cw) := block_cell (i := 0) ((Below.heap_alloc wc _ l HLT.out).trans HS2.out) rfl
        have p0 := eq_true (Int.natCast_nonneg i)
        have q0 := eq_true (Int.ofNat_lt.2 H1.out)
        have q1 := eq_true H1.out
        clear hs hwc ht hadl
        go_upto_region 3 with (fail)
        go_region_law ((refine step_line_append rfl (.tmp 26) (.tmp 31) rfl (l + 1) wc.heap.size (.slice Aw wl cw) (wait ++ p.take i) y rfl rfl ?aL ?aN ?aC ?aS ?_); (case aL => exact HWC.out.step (fun k _ hlt => Below.heap_alloc wc.drew _ k hlt)); (case aN => show l + 1 ≤ (wc.alloc (.cells #[.int .u8 y] 5)).heap.size; rw [alloc_size]; exact Nat.succ_le_succ (Nat.le_of_lt HLT.out)); (case aC => show (wc.alloc (.cells #[.int .u8 y] 5)).cell? ⟨wc.heap.size, 0, none⟩ = _; rw [World.cell?_alloc_mark]; rfl); (case aS => rw [← HWL.out]; have := H2.out; have := HROOM.out; omega); intro A3 c3 w3 hl3 hb3; rw [HLEN.out] at hl3 ⊢; have hbl := (hb3.block l (Nat.lt_succ_self l)).trans (Below.heap_alloc wc.drew _ l HLT.out); have hs3 := hbl.trans HS2.out; have g3 := block_cell (i := 0) hs3 rfl; have f3 := Joins.unfrozen_of_block hs3 0; have HL3 := Aside0.mk hl3; have HS3 := Aside0.mk hs3; have HB3 := Aside0.mk (((HB1.out.drew).alloc (Nat.le_of_lt HLT.out) _).trans (hb3.mono (Nat.le_succ l))); clear hl3 hb3 hbl hs3)
        all_goals
          go_wp2
          go_roundg m
          case measure => omega
          case rel =>
            refine ⟨i + 1, by first | rfl | exact congrArg (Value.int .i64) (one_in (by have := H1.out; have := HN.out; have := HI.out; have := HROOM.out; omega)), ⟨by have := HI.out; omega⟩, ⟨⟨.slice A3 (wl + 1) c3, ?_, ?_⟩⟩, ⟨HB3.out.setCell (p := ⟨l, 0, none⟩) (Nat.le_refl _) _⟩⟩
            · have q1 := Joins.block_setCell (i := 0) HS3.out (.slice A3 (wl + 1) c3)
              rw [q1]
              simp
            · have hl := HL3.out
              rw [HT.out] at hl
              exact hl.step (fun j hj _ => Below.heap_setCell _ _ _ _ (by show j ≠ l; omega))
end Go.Proofs.Ytnblegepecmblaa.Ring
