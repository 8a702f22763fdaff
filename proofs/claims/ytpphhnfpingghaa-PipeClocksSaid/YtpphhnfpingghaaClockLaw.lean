/-
  The walk of the law PipeClocks: it returns true and leaves what was there as it was. Conditions: none beyond the arguments' kinds.
-/
import Derived.Test.YtpphhnfpingghaaClock
namespace Go.Proofs.Ytpphhnfpingghaa.Clocks
open Go.RowKit Go.Proofs.YtpphhnfpingghaaW.PrintWords Go.Proofs.YtpphhnfpingghaaW.PrintLast Go.Proofs.YtpphhnfpingghaaW.PrintMore Go.Proofs.Ytpphhnfpingghaa.Pipe
attribute [local go_sem] max2_int min2_int max_two min_two max_three min_three max_four min_four
set_option linter.unusedVariables false
set_option linter.unusedSimpArgs false

set_option maxHeartbeats 8000000 in
set_option maxRecDepth 100000 in
theorem law.calls (d : Int) (A1 : Option Addr) (c1 : Nat) (l1 : List Int) (r : Bool) (w : World) (hr1 : Kd.C (Kd.int .i64) w A1 l1.length l1) (hc1 : l1.length ≤ c1)
    (h : d ≤ 9223372036854775807 ∧ (∀ x ∈ l1, x ≤ 9223372036854775807) ∧ l1.length ≤ 9223372036854775807) :
    Calls Try.prog 9 #[.int .i64 d, .slice A1 l1.length c1] w fun e w' => e = .returned (.bool true) ∧ Below w.heap.size w w' := by
  have HR := Aside0.mk hr1
  have HD := Aside0.mk h.1
  have HX := Aside0.mk h.2.1
  have HL := Aside0.mk h.2.2
  clear hr1 hc1 h
  have HB := Aside0.mk (Below.refl w.heap.size w)
  go_enter Try.func9, Try.ntmps9
  go_wp2_with (first
    | (go_at_call 14; refine (awake_calls _).mono ?_; rintro e w2 ⟨rfl, hb2⟩; have HB2 := Aside0.mk hb2; clear hb2)
    | (go_at_call 26; refine (new_calls _ d (capM d) ⟨fun h => if_pos h, fun h => if_neg (by omega)⟩).mono ?_; rintro e w3 ⟨rfl, hk3, hb3⟩; have HC3 := Aside0.mk hk3; have HB3 := Aside0.mk (below_step HB2.out hb3); have HS3 := Aside0.mk hb3.size; clear hk3 hb3))
  have HK1 := Aside0.mk (show Ck 60 (w3.alloc (.cells #[.int .i64 0, .int .i64 d] 52)) w2.heap.size 0 (capM d) from HC3.out.step ((below_alloc (Below.refl w3.heap.size w3) _).block _ (blk_lt HC3.out)))
  have HK2 := Aside0.mk (show Ck 52 (w3.alloc (.cells #[.int .i64 0, .int .i64 d] 52)) w3.heap.size 0 d from heap_alloc_new w3 _)
  have HBA := Aside0.mk (show Below w.heap.size w (w3.alloc (.cells #[.int .i64 0, .int .i64 d] 52)) from below_alloc HB3.out _)
  have HG1 := Aside0.mk (show w.heap.size ≤ w2.heap.size from HB2.out.size)
  have HG2 := Aside0.mk (show w.heap.size ≤ w3.heap.size from HB3.out.size)
  have HNE := Aside0.mk (show w2.heap.size ≠ w3.heap.size from fun e => by have := blk_lt HC3.out; omega)
  have HCAP := Aside0.mk (show 0 ≤ capM d from by unfold capM; split <;> omega)
  generalize w3.alloc (.cells #[.int .i64 0, .int .i64 d] 52) = wa at HK1 HK2 HBA ⊢
  clear HC3 HS3
  generalize w2.heap.size = g1 at HK1 HG1 HNE ⊢
  generalize w3.heap.size = g2 at HK2 HG2 HNE ⊢
  clear HB HB2 HB3
  go_loopg [7] l1.length (fun m v7 w' => ∃ i now : Int, v7 = .int .i64 i ∧ Aside0 (0 ≤ i ∧ i + m = (l1.length : Int)) ∧ Aside0 (0 ≤ now ∧ now ≤ capM d) ∧ Aside0 (Ck 60 w' g1 now (capM d)) ∧ Aside0 (Ck 52 w' g2 now d) ∧ Aside0 (Below w.heap.size w w'))
  case atStart => exact ⟨0, 0, rfl, ⟨by omega⟩, ⟨by have := HCAP.out; omega⟩, HK1, HK2, HBA⟩
  case round =>
    clear HK1 HK2 HBA
    obtain ⟨i, now, rfl, HI, HN, HK1, HK2, HB⟩ := hrel
    cases gk with
    | zero =>
      have c0b : decide (i < (l1.length : Int)) = false := decide_eq_false (by have := HI.out; omega)
      go_wp2_with (first
        | (go_at_call 27; refine (tick_nil _ 5).mono ?_; rintro e w2 ⟨rfl, rfl⟩)
        | (go_at_call 29; refine (now_nil _).mono ?_; rintro e w2 ⟨rfl, rfl⟩))
      go_ret
      exact ⟨rfl, HB.out⟩
    | succ m =>
      have c0b : decide (i < (l1.length : Int)) = true := decide_eq_true (by have := HI.out; omega)
      have p0 : 0 ≤ i := by have := HI.out; omega
      have q0 : i < (l1.length : Int) := by have := HI.out; omega
      obtain ⟨ad, e0, hx⟩ := Kd.at_int HR.out i p0 q0
      cases e0
      have HXC := Aside0.mk hx
      replace hx := (HB.out.cell (World.block_lt_of_cell? w _ hx)).trans hx
      have hn : rd l1 i ≤ 9223372036854775807 := by
        unfold rd
        rw [List.getD_eq_getElem?_getD, List.getElem?_eq_getElem (show i.toNat < l1.length by omega)]
        exact HX.out _ (List.getElem_mem _)
      have HNX := Aside0.mk hn
      clear hn
      generalize rd l1 i = n at hx HXC HNX
      replace p0 := eq_true p0
      replace q0 := eq_true q0
      go_upto_region 10 with (fail)
      go_cut [45] (fun v45 wc => v45 = .bool false ∧ Aside0 (Ck 60 wc g1 (stepM d n now) (capM d)) ∧ Aside0 (Ck 52 wc g2 (stepM d n now) d) ∧ Aside0 (Below w.heap.size w wc))
      case first =>
        go_region_with (first
          | (go_at_call 27; refine (tick_any w wr.drew w.heap.size g1 now d n (HK1.out.step (w1 := wr.drew) rfl) HG1.out (below_drew1 HB.out) HN.out.1 HN.out.2 HD.out HNX.out).mono ?_; rintro e w2 ⟨rfl, hk2, hq2, hb2⟩; have HT1 := Aside0.mk hk2; have HB2 := Aside0.mk hb2; have HT2 := Aside0.mk (HK2.out.step (w1 := w2) (hq2.2 g2 (blk_lt HK2.out) (fun e => HNE.out e.symm))); have hx2 := (HB2.out.cell (World.block_lt_of_cell? w _ HXC.out)).trans HXC.out; clear hk2 hq2 hb2)
          | (go_at_call 28; refine (ref_any w _ w.heap.size g2 now d n HT2.out HG2.out HB2.out HN.out.1 HN.out.2 HD.out).mono ?_; rintro e w3 ⟨rfl, hk3, hq3, hb3⟩; have HU2 := Aside0.mk hk3; have HB3 := Aside0.mk hb3; have HU1 := Aside0.mk (HT1.out.step (w1 := w3) (hq3.2 g1 (blk_lt HT1.out) (fun e => HNE.out e))); have cw : w3.cell? ⟨g2, 0, none⟩ = some (.int .i64 (stepM d n now)) := block_cell (i := 0) HU2.out rfl; clear hk3 hq3 hb3)
          | (go_at_call 29; refine (now_calls _ g1 (stepM d n now) (capM d) HU1.out).mono ?_; rintro e w4 ⟨rfl, rfl⟩))
        all_goals
          go_wp2
          go_meet
          exact ⟨rfl, HU1, HU2, HB3⟩
      case rest =>
        obtain ⟨rfl, HC1, HC2, HBC⟩ := hcut
        go_wp2
        go_roundg m
        case measure => omega
        case rel => exact ⟨_, _, rfl, ⟨by have := HI.out; have := HL.out; unfold wrap64; omega⟩, ⟨step_range HN.out.1 HN.out.2⟩, HC1, HC2, HBC⟩
end Go.Proofs.Ytpphhnfpingghaa.Clocks
