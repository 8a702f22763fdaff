-- printed for this claim by the kit's print, turned by a program of this session (texts of its own are taken for some functions); not trusted: Lean checks it
import Derived.Test.YtpphhnfpingghaaQPipeFairerx0
namespace Go.Proofs.Ytpphhnfpingghaa.QPipeFairer
open Go.RowKit Go.Proofs.YtpphhnfpingghaaW.PrintWords Go.Proofs.YtpphhnfpingghaaW.PrintLast Go.Proofs.YtpphhnfpingghaaW.PrintMore
attribute [local go_sem] max2_int min2_int max_two min_two max_three min_three max_four min_four   -- for this text's walks alone
set_option linter.unusedVariables false
set_option linter.unusedSimpArgs false

-- NOT PRINTED: function 15 (pipe_Sink_Take)

-- NOT PRINTED: function 18 (pipe_Sink_Got)


/-! ### bobbinlaw20_awake: function 14 -/
def bobbinlaw20_awake.f : Option Bool := some true
theorem bobbinlaw20_awake.calls (r : Bool) (w : World) (h : bobbinlaw20_awake.f = some r) : Calls Try.prog 14 #[] w fun e w' => e = .returned (.bool r) ∧ Below w.heap.size w w' := by
  obtain rfl := Option.some.inj h
  exact Pipe.awake_calls w

/-! ### pipe_Fair: function 30 -/
mutual
def pipe_Fair.l0 : Nat → Int → Int → Int → List (S42) → Int → Int → Option (Bool)
  | 0, _, _, _, _, _, _ => none
  | k + 1, x1, x5, x6, x9, x10, x11 => if x11 < x10 then (if 0 ≤ x11 then (if x11 < (x9.length : Int) then (if ((rd_T42 x9 x11).f1) > 0 then (pipe_Fair.j1 k x1 0 (wrap64 (x6 + 1)) x9 x10 x11 ((rd_T42 x9 x11).f0) ((rd_T42 x9 x11).f1) ((rd_T42 x9 x11).f2) ((rd_T42 x9 x11).f3)) else (pipe_Fair.j1 k x1 (wrap64 (x5 + 1)) (wrap64 (x6 + 1)) x9 x10 x11 ((rd_T42 x9 x11).f0) ((rd_T42 x9 x11).f1) ((rd_T42 x9 x11).f2) ((rd_T42 x9 x11).f3))) else (none)) else (none)) else (some (decide (x1 ≥ 1)))
def pipe_Fair.j1 : Nat → Int → Int → Int → List (S42) → Int → Int → Int → Int → Int → Bool → Option (Bool)
  | 0, _, _, _, _, _, _, _, _, _, _ => none
  | k + 1, x1, x5, x6, x9, x10, x11, x103000, x103001, x103002, x103003 => if x103000 = 1 then (if x5 ≥ x1 then (some false) else (if 0 ≥ x1 then (some false) else (if x103001 < 0 then (some false) else (if x103003 = true then (some false) else (if x103000 > 1 then (some false) else (pipe_Fair.l0 k x1 x5 0 x9 x10 (wrap64 (x11 + 1)))))))) else (if x5 ≥ x1 then (some false) else (if x6 ≥ x1 then (some false) else (if x103001 < 0 then (some false) else (if x103003 = true then (some false) else (if x103000 > 1 then (some false) else (pipe_Fair.l0 k x1 x5 x6 x9 x10 (wrap64 (x11 + 1))))))))
end
def pipe_Fair.f (k : Nat) (l0 : List (S42)) (a1 : Int) : Option (Bool) := pipe_Fair.l0 k a1 0 0 l0 (l0.length : Int) 0
theorem pipe_Fair.mono_l : ∀ k, (∀ y0 y1 y2 y3 y4 y5, LeO (pipe_Fair.l0 k y0 y1 y2 y3 y4 y5) (pipe_Fair.l0 (k + 1) y0 y1 y2 y3 y4 y5)) ∧ (∀ y0 y1 y2 y3 y4 y5 y6 y7 y8 y9, LeO (pipe_Fair.j1 k y0 y1 y2 y3 y4 y5 y6 y7 y8 y9) (pipe_Fair.j1 (k + 1) y0 y1 y2 y3 y4 y5 y6 y7 y8 y9))
  | 0 => ⟨fun _ _ _ _ _ _ r h => by simp [pipe_Fair.l0] at h, fun _ _ _ _ _ _ _ _ _ _ r h => by simp [pipe_Fair.j1] at h⟩
  | k + 1 => by
    obtain ⟨ih0, ih1⟩ := pipe_Fair.mono_l k
    refine ⟨?_, ?_⟩
    · intro y0 y1 y2 y3 y4 y5
      unfold pipe_Fair.l0
      repeat' first
      | (with_reducible exact ih0 _ _ _ _ _ _)
      | (with_reducible exact ih1 _ _ _ _ _ _ _ _ _ _)
      | (with_reducible exact LeO.refl _)
      | (with_reducible exact LeO.none _)
      | (with_reducible refine LeO.ite ?_ ?_)
      | (with_reducible refine LeO.bind ?_ (fun _ => ?_))
      | exact ih0 _ _ _ _ _ _
      | exact ih1 _ _ _ _ _ _ _ _ _ _
      | exact LeO.none _
      | refine LeO.ite ?_ ?_
      | refine LeO.bind ?_ (fun _ => ?_)
    · intro y0 y1 y2 y3 y4 y5 y6 y7 y8 y9
      unfold pipe_Fair.j1
      repeat' first
      | (with_reducible exact ih0 _ _ _ _ _ _)
      | (with_reducible exact ih1 _ _ _ _ _ _ _ _ _ _)
      | (with_reducible exact LeO.refl _)
      | (with_reducible exact LeO.none _)
      | (with_reducible refine LeO.ite ?_ ?_)
      | (with_reducible refine LeO.bind ?_ (fun _ => ?_))
      | exact ih0 _ _ _ _ _ _
      | exact ih1 _ _ _ _ _ _ _ _ _ _
      | exact LeO.none _
      | refine LeO.ite ?_ ?_
      | refine LeO.bind ?_ (fun _ => ?_)
theorem pipe_Fair.mono : ∀ a0 a1 k, LeO (pipe_Fair.f k a0 a1) (pipe_Fair.f (k + 1) a0 a1) := by
  intro a0 a1 k
  obtain ⟨ih0, ih1⟩ := pipe_Fair.mono_l k
  unfold pipe_Fair.f
  repeat' first
      | (with_reducible exact ih0 _ _ _ _ _ _)
      | (with_reducible exact ih1 _ _ _ _ _ _ _ _ _ _)
      | (with_reducible exact LeO.refl _)
      | (with_reducible exact LeO.none _)
      | (with_reducible refine LeO.ite ?_ ?_)
      | (with_reducible refine LeO.bind ?_ (fun _ => ?_))
      | exact ih0 _ _ _ _ _ _
      | exact ih1 _ _ _ _ _ _ _ _ _ _
      | exact LeO.none _
      | refine LeO.ite ?_ ?_
      | refine LeO.bind ?_ (fun _ => ?_)
set_option maxHeartbeats 8000000 in
set_option maxRecDepth 100000 in
theorem pipe_Fair.calls (k : Nat) (A0 : Option Addr) (c0 : Nat) (l0 : List (S42)) (a1 : Int) (r : Bool) (w : World) (hr0 : Kd.C k42 w A0 l0.length l0) (hc0 : l0.length ≤ c0) (h : pipe_Fair.f k l0 a1 = some r) :
    Calls Try.prog 30 #[.slice A0 l0.length c0, .int .i64 a1] w fun e w' => e = .returned (.bool r) ∧ Below w.heap.size w w' := by
  have hu42 := Try.underlying42
  have HR0 := Aside0.mk hr0
  have HC0 := Aside0.mk hc0
  clear hr0 hc0
  have HB := Aside0.mk (Below.refl w.heap.size w)
  have H : (pipe_Fair.l0 k a1 0 0 l0 (l0.length : Int) 0) = some r := h
  clear h
  have H' := Aside0.mk H
  clear H
  go_enter Try.func30, Try.ntmps30
  go_wp2
  go_loopg [5, 6, 11] k (fun kq v5 v6 v11 w' => ∃ (x5_1 : Int) (x6_1 : Int) (x11_1 : Int), v5 = .int .i64 x5_1 ∧ v6 = .int .i64 x6_1 ∧ v11 = .int .i64 x11_1 ∧ Aside0 (pipe_Fair.l0 kq a1 x5_1 x6_1 l0 (l0.length : Int) x11_1 = some r) ∧ Aside0 (kq ≤ k) ∧ Aside0 (Below w.heap.size w w'))
  case atStart => exact ⟨(0), (0), (0), (by first | rfl | (simp; done) | (simp [*]; done)), (by first | rfl | (simp; done) | (simp [*]; done)), (by first | rfl | (simp; done) | (simp [*]; done)), H', ⟨Nat.le_refl _⟩, ⟨by repeat (first | (with_reducible first | exact HB.out | apply below_alloc | apply pw_below_drewN | apply below_drew1) | exact HB.out)⟩⟩
  case round =>
    clear H'
    try clear p2
    obtain ⟨x5_1, x6_1, x11_1, rfl, rfl, rfl, HA, HK1, HB⟩ := hrel
    cases gk with
    | zero => exact absurd HA.out (by simp [pipe_Fair.l0])
    | succ k1 =>
      have H := HA.out
      clear HA
      simp only [pipe_Fair.l0] at H
      by_cases c3 : x11_1 < (l0.length : Int)
      · rw [if_pos c3] at H
        have c3b0 : decide (x11_1 < (l0.length : Int)) = true := decide_eq_true c3
        clear c3
        by_cases c4 : 0 ≤ x11_1
        · rw [if_pos c4] at H
          have c4b0 : decide (0 ≤ x11_1) = true := decide_eq_true c4
          clear c4
          by_cases c5 : x11_1 < (l0.length : Int)
          · rw [if_pos c5] at H
            have c5b0 : decide (x11_1 < (l0.length : Int)) = true := decide_eq_true c5
            clear c5
            have HC6 := Aside0.mk H
            clear H
            have p101 : 0 ≤ (x11_1 : Int) := of_decide_eq_true (by first | (with_reducible assumption) | assumption)
            have q101 : x11_1 < (l0.length : Int) := of_decide_eq_true (by first | (with_reducible assumption) | assumption)
            obtain ⟨ad101, e101, hx101_0, hx101_1, hx101_2, hx101_3⟩ := at_T42 HR0.out x11_1 p101 q101
            cases e101
            replace hx101_0 := (HB.out.cell (World.block_lt_of_cell? w _ hx101_0)).trans hx101_0
            replace hx101_1 := (HB.out.cell (World.block_lt_of_cell? w _ hx101_1)).trans hx101_1
            replace hx101_2 := (HB.out.cell (World.block_lt_of_cell? w _ hx101_2)).trans hx101_2
            replace hx101_3 := (HB.out.cell (World.block_lt_of_cell? w _ hx101_3)).trans hx101_3
            replace p101 := eq_true p101
            replace q101 := eq_true q101
            go_upto_if 21 with (first | ((with_reducible refine gate_dst (N := 8) rfl ?_); refine box_event ?hg (N := 8) ?hd (cs := #[.int .u8 0, .int .i64 0, .int .i64 0, .bool false]) (t := 42) ?hr ?_; (case hd => rfl); (case hg => rfl); (case hr => first | (go_simp; done) | (go_simp; rfl)); intro gb102 hg w7 hbox hb; have n0_ := Aside0.mk (below_step (by repeat (first | (with_reducible first | exact HB.out | apply below_alloc | apply pw_below_drewN | apply below_drew1) | exact HB.out)) hb); have n1_ := Aside0.mk (hbox); have n2_ := Aside0.mk ((by rw [hg]; exact (below_size (by repeat (first | (with_reducible first | exact HB.out | apply below_alloc | apply pw_below_drewN | apply below_drew1) | exact HB.out))) : w.heap.size ≤ gb102)); have n3_ := Aside0.mk ((by rw [hg]; exact (below_size (by repeat (first | (with_reducible first | exact HB.out | apply below_alloc | apply pw_below_drewN | apply below_drew1) | exact HB.out))) : w.heap.size ≤ gb102)); clear HB; have HB := n0_; have BK102 := n1_; have GW102 := n2_; have GE102 := n3_; clear n0_ n1_ n2_ n3_; clear hb hbox hg; have hcz8_0 : w7.cell? ⟨gb102, 0, none⟩ = some (.int .u8 0) := (blk_cell BK102.out 0).trans rfl; have hcz8_1 : w7.cell? ⟨gb102, 1, none⟩ = some (.int .i64 0) := (blk_cell BK102.out 1).trans rfl; have hcz8_2 : w7.cell? ⟨gb102, 2, none⟩ = some (.int .i64 0) := (blk_cell BK102.out 2).trans rfl; have hcz8_3 : w7.cell? ⟨gb102, 3, none⟩ = some (.bool false) := (blk_cell BK102.out 3).trans rfl; have hfz8_0 := blk_frozen BK102.out 0; have hfz8_1 := blk_frozen BK102.out 1; have hfz8_2 := blk_frozen BK102.out 2; have hfz8_3 := blk_frozen BK102.out 3))
            (try simp only [Act.put, List.setIfInBounds_toArray, List.set_cons_zero, List.set_cons_succ])
            go_cut [5] (fun v5 wc => ∃ (kq : Nat) (x5_5 : Int), v5 = .int .i64 x5_5 ∧ Aside0 (pipe_Fair.j1 kq a1 x5_5 (wrap64 (x6_1 + 1)) l0 (l0.length : Int) x11_1 ((rd_T42 l0 x11_1).f0) ((rd_T42 l0 x11_1).f1) ((rd_T42 l0 x11_1).f2) ((rd_T42 l0 x11_1).f3) = some r) ∧ Aside0 (kq ≤ k1) ∧ Aside0 (wc.heap[gb102]? = some (.cells #[.int .u8 ((rd_T42 l0 x11_1).f0), .int .i64 ((rd_T42 l0 x11_1).f1), .int .i64 ((rd_T42 l0 x11_1).f2), .bool ((rd_T42 l0 x11_1).f3)] 42 (0, 0))) ∧ Aside0 (Below w.heap.size w wc))
            case first =>
              have H := HC6.out
              clear HC6
              by_cases c9 : ((rd_T42 l0 x11_1).f1) > 0
              · rw [if_pos c9] at H
                have c9b0 : decide (0 < ((rd_T42 l0 x11_1).f1)) = true := decide_eq_true c9
                clear c9
                (first | rw [c9b0] | (simp only [i64_w, i32_w]; rw [c9b0]) | skip)
                have H' := Aside0.mk H
                clear H
                go_wp2
                go_meet
                case rel => exact ⟨_, (0), (by first | rfl | (simp; done) | (simp [*]; done)), H', ⟨by have := HK1.out; first | omega | exact Nat.le_refl _⟩, ⟨by (with_reducible repeat (first | refine blk_drewN ?_ _ | refine blk_drew ?_ | refine blk_alloc ?_ _)); refine blk_put (cs := #[.int .u8 ((rd_T42 l0 x11_1).f0), .int .i64 ((rd_T42 l0 x11_1).f1), .int .i64 ((rd_T42 l0 x11_1).f2), .bool false]) ?_ 3 _ rfl; (with_reducible repeat (first | refine blk_drewN ?_ _ | refine blk_drew ?_ | refine blk_alloc ?_ _)); refine blk_put (cs := #[.int .u8 ((rd_T42 l0 x11_1).f0), .int .i64 ((rd_T42 l0 x11_1).f1), .int .i64 0, .bool false]) ?_ 2 _ rfl; (with_reducible repeat (first | refine blk_drewN ?_ _ | refine blk_drew ?_ | refine blk_alloc ?_ _)); refine blk_put (cs := #[.int .u8 ((rd_T42 l0 x11_1).f0), .int .i64 0, .int .i64 0, .bool false]) ?_ 1 _ rfl; (with_reducible repeat (first | refine blk_drewN ?_ _ | refine blk_drew ?_ | refine blk_alloc ?_ _)); refine blk_put (cs := #[.int .u8 0, .int .i64 0, .int .i64 0, .bool false]) ?_ 0 _ rfl; (with_reducible repeat (first | refine blk_drewN ?_ _ | refine blk_drew ?_ | refine blk_alloc ?_ _)); exact BK102.out⟩, ⟨by repeat (first | (with_reducible first | exact HB.out | apply below_alloc | apply pw_below_drewN | apply below_drew1 | refine below_set ?_ GE102.out) | exact HB.out)⟩⟩
              · rw [if_neg c9] at H
                have c9b0 : decide (0 < ((rd_T42 l0 x11_1).f1)) = false := decide_eq_false c9
                clear c9
                (first | rw [c9b0] | (simp only [i64_w, i32_w]; rw [c9b0]) | skip)
                have H' := Aside0.mk H
                clear H
                go_wp2
                go_meet
                case rel => exact ⟨_, (wrap64 (x5_1 + 1)), (by first | rfl | (simp; done) | (simp [*]; done)), H', ⟨by have := HK1.out; first | omega | exact Nat.le_refl _⟩, ⟨by (with_reducible repeat (first | refine blk_drewN ?_ _ | refine blk_drew ?_ | refine blk_alloc ?_ _)); refine blk_put (cs := #[.int .u8 ((rd_T42 l0 x11_1).f0), .int .i64 ((rd_T42 l0 x11_1).f1), .int .i64 ((rd_T42 l0 x11_1).f2), .bool false]) ?_ 3 _ rfl; (with_reducible repeat (first | refine blk_drewN ?_ _ | refine blk_drew ?_ | refine blk_alloc ?_ _)); refine blk_put (cs := #[.int .u8 ((rd_T42 l0 x11_1).f0), .int .i64 ((rd_T42 l0 x11_1).f1), .int .i64 0, .bool false]) ?_ 2 _ rfl; (with_reducible repeat (first | refine blk_drewN ?_ _ | refine blk_drew ?_ | refine blk_alloc ?_ _)); refine blk_put (cs := #[.int .u8 ((rd_T42 l0 x11_1).f0), .int .i64 0, .int .i64 0, .bool false]) ?_ 1 _ rfl; (with_reducible repeat (first | refine blk_drewN ?_ _ | refine blk_drew ?_ | refine blk_alloc ?_ _)); refine blk_put (cs := #[.int .u8 0, .int .i64 0, .int .i64 0, .bool false]) ?_ 0 _ rfl; (with_reducible repeat (first | refine blk_drewN ?_ _ | refine blk_drew ?_ | refine blk_alloc ?_ _)); exact BK102.out⟩, ⟨by repeat (first | (with_reducible first | exact HB.out | apply below_alloc | apply pw_below_drewN | apply below_drew1 | refine below_set ?_ GE102.out) | exact HB.out)⟩⟩
            case rest =>
              clear HC6
              try clear p1
              try clear q1
              try clear hx1
              try clear p2
              try clear c3
              try clear c3b0
              try clear c4
              try clear c4b0
              try clear c5
              try clear c5b0
              try clear p6
              try clear c9
              try clear c9b0
              try clear hcz8_0
              try clear hcz8_1
              try clear hcz8_2
              try clear hcz8_3
              try clear hfz8_0
              try clear hfz8_1
              try clear hfz8_2
              try clear hfz8_3
              try clear hx101_0
              try clear hx101_1
              try clear hx101_2
              try clear hx101_3
              try clear p101
              try clear p2
              try clear q101
              obtain ⟨kq, x5_5, rfl, HA, HJ5, BK102, HB⟩ := hcut
              cases kq with
              | zero => exact absurd HA.out (by simp [pipe_Fair.j1])
              | succ kj5 =>
                have H := HA.out
                clear HA
                simp only [pipe_Fair.j1] at H
                by_cases c10 : ((rd_T42 l0 x11_1).f0) = 1
                · rw [if_pos c10] at H
                  have c10b0 : (((rd_T42 l0 x11_1).f0) == 1) = true := beq_iff_eq.mpr c10
                  have c10b1 : (((rd_T42 l0 x11_1).f0) != 1) = false := bne_eq_false_iff_eq.mpr c10
                  clear c10
                  by_cases c11 : x5_5 ≥ a1
                  · rw [if_pos c11] at H
                    have c11b0 : decide (a1 ≤ x5_5) = true := decide_eq_true c11
                    clear c11
                    obtain rfl := Option.some.inj H
                    have hcz12_0 : wc.cell? ⟨gb102, 0, none⟩ = some (.int .u8 ((rd_T42 l0 x11_1).f0)) := (blk_cell BK102.out 0).trans rfl
                    have hcz12_1 : wc.cell? ⟨gb102, 1, none⟩ = some (.int .i64 ((rd_T42 l0 x11_1).f1)) := (blk_cell BK102.out 1).trans rfl
                    have hcz12_2 : wc.cell? ⟨gb102, 2, none⟩ = some (.int .i64 ((rd_T42 l0 x11_1).f2)) := (blk_cell BK102.out 2).trans rfl
                    have hcz12_3 : wc.cell? ⟨gb102, 3, none⟩ = some (.bool ((rd_T42 l0 x11_1).f3)) := (blk_cell BK102.out 3).trans rfl
                    have hfz12_0 := blk_frozen BK102.out 0
                    have hfz12_1 := blk_frozen BK102.out 1
                    have hfz12_2 := blk_frozen BK102.out 2
                    have hfz12_3 := blk_frozen BK102.out 3
                    go_wp2
                    go_ret
                    exact ⟨by first | rfl | (simp [errW_none, errW_some] <;> rfl) | (simp [*, errW_none, errW_some] <;> rfl), by repeat (first | (with_reducible first | exact HB.out | apply below_alloc | apply pw_below_drewN | apply below_drew1 | refine below_set ?_ GE102.out) | exact HB.out)⟩
                  · rw [if_neg c11] at H
                    have c11b0 : decide (a1 ≤ x5_5) = false := decide_eq_false c11
                    clear c11
                    by_cases c13 : 0 ≥ a1
                    · rw [if_pos c13] at H
                      have c13b0 : decide (a1 ≤ 0) = true := decide_eq_true c13
                      clear c13
                      obtain rfl := Option.some.inj H
                      have hcz14_0 : wc.cell? ⟨gb102, 0, none⟩ = some (.int .u8 ((rd_T42 l0 x11_1).f0)) := (blk_cell BK102.out 0).trans rfl
                      have hcz14_1 : wc.cell? ⟨gb102, 1, none⟩ = some (.int .i64 ((rd_T42 l0 x11_1).f1)) := (blk_cell BK102.out 1).trans rfl
                      have hcz14_2 : wc.cell? ⟨gb102, 2, none⟩ = some (.int .i64 ((rd_T42 l0 x11_1).f2)) := (blk_cell BK102.out 2).trans rfl
                      have hcz14_3 : wc.cell? ⟨gb102, 3, none⟩ = some (.bool ((rd_T42 l0 x11_1).f3)) := (blk_cell BK102.out 3).trans rfl
                      have hfz14_0 := blk_frozen BK102.out 0
                      have hfz14_1 := blk_frozen BK102.out 1
                      have hfz14_2 := blk_frozen BK102.out 2
                      have hfz14_3 := blk_frozen BK102.out 3
                      go_wp2
                      go_ret
                      exact ⟨by first | rfl | (simp [errW_none, errW_some] <;> rfl) | (simp [*, errW_none, errW_some] <;> rfl), by repeat (first | (with_reducible first | exact HB.out | apply below_alloc | apply pw_below_drewN | apply below_drew1 | refine below_set ?_ GE102.out) | exact HB.out)⟩
                    · rw [if_neg c13] at H
                      have c13b0 : decide (a1 ≤ 0) = false := decide_eq_false c13
                      clear c13
                      by_cases c15 : ((rd_T42 l0 x11_1).f1) < 0
                      · rw [if_pos c15] at H
                        have c15b0 : decide (((rd_T42 l0 x11_1).f1) < 0) = true := decide_eq_true c15
                        clear c15
                        obtain rfl := Option.some.inj H
                        have hcz16_0 : wc.cell? ⟨gb102, 0, none⟩ = some (.int .u8 ((rd_T42 l0 x11_1).f0)) := (blk_cell BK102.out 0).trans rfl
                        have hcz16_1 : wc.cell? ⟨gb102, 1, none⟩ = some (.int .i64 ((rd_T42 l0 x11_1).f1)) := (blk_cell BK102.out 1).trans rfl
                        have hcz16_2 : wc.cell? ⟨gb102, 2, none⟩ = some (.int .i64 ((rd_T42 l0 x11_1).f2)) := (blk_cell BK102.out 2).trans rfl
                        have hcz16_3 : wc.cell? ⟨gb102, 3, none⟩ = some (.bool ((rd_T42 l0 x11_1).f3)) := (blk_cell BK102.out 3).trans rfl
                        have hfz16_0 := blk_frozen BK102.out 0
                        have hfz16_1 := blk_frozen BK102.out 1
                        have hfz16_2 := blk_frozen BK102.out 2
                        have hfz16_3 := blk_frozen BK102.out 3
                        go_wp2
                        go_ret
                        exact ⟨by first | rfl | (simp [errW_none, errW_some] <;> rfl) | (simp [*, errW_none, errW_some] <;> rfl), by repeat (first | (with_reducible first | exact HB.out | apply below_alloc | apply pw_below_drewN | apply below_drew1 | refine below_set ?_ GE102.out) | exact HB.out)⟩
                      · rw [if_neg c15] at H
                        have c15b0 : decide (((rd_T42 l0 x11_1).f1) < 0) = false := decide_eq_false c15
                        clear c15
                        by_cases c17 : ((rd_T42 l0 x11_1).f3) = true
                        · rw [if_pos c17] at H
                          have c17b0 : ((rd_T42 l0 x11_1).f3) = true := c17
                          clear c17
                          obtain rfl := Option.some.inj H
                          have hcz18_0 : wc.cell? ⟨gb102, 0, none⟩ = some (.int .u8 ((rd_T42 l0 x11_1).f0)) := (blk_cell BK102.out 0).trans rfl
                          have hcz18_1 : wc.cell? ⟨gb102, 1, none⟩ = some (.int .i64 ((rd_T42 l0 x11_1).f1)) := (blk_cell BK102.out 1).trans rfl
                          have hcz18_2 : wc.cell? ⟨gb102, 2, none⟩ = some (.int .i64 ((rd_T42 l0 x11_1).f2)) := (blk_cell BK102.out 2).trans rfl
                          have hcz18_3 : wc.cell? ⟨gb102, 3, none⟩ = some (.bool ((rd_T42 l0 x11_1).f3)) := (blk_cell BK102.out 3).trans rfl
                          have hfz18_0 := blk_frozen BK102.out 0
                          have hfz18_1 := blk_frozen BK102.out 1
                          have hfz18_2 := blk_frozen BK102.out 2
                          have hfz18_3 := blk_frozen BK102.out 3
                          go_wp2
                          go_ret
                          exact ⟨by first | rfl | (simp [errW_none, errW_some] <;> rfl) | (simp [*, errW_none, errW_some] <;> rfl), by repeat (first | (with_reducible first | exact HB.out | apply below_alloc | apply pw_below_drewN | apply below_drew1 | refine below_set ?_ GE102.out) | exact HB.out)⟩
                        · rw [if_neg c17] at H
                          have c17b0 : ((rd_T42 l0 x11_1).f3) = false := by simpa using c17
                          clear c17
                          by_cases c19 : ((rd_T42 l0 x11_1).f0) > 1
                          · rw [if_pos c19] at H
                            have c19b0 : decide (1 < ((rd_T42 l0 x11_1).f0)) = true := decide_eq_true c19
                            clear c19
                            obtain rfl := Option.some.inj H
                            have hcz20_0 : wc.cell? ⟨gb102, 0, none⟩ = some (.int .u8 ((rd_T42 l0 x11_1).f0)) := (blk_cell BK102.out 0).trans rfl
                            have hcz20_1 : wc.cell? ⟨gb102, 1, none⟩ = some (.int .i64 ((rd_T42 l0 x11_1).f1)) := (blk_cell BK102.out 1).trans rfl
                            have hcz20_2 : wc.cell? ⟨gb102, 2, none⟩ = some (.int .i64 ((rd_T42 l0 x11_1).f2)) := (blk_cell BK102.out 2).trans rfl
                            have hcz20_3 : wc.cell? ⟨gb102, 3, none⟩ = some (.bool ((rd_T42 l0 x11_1).f3)) := (blk_cell BK102.out 3).trans rfl
                            have hfz20_0 := blk_frozen BK102.out 0
                            have hfz20_1 := blk_frozen BK102.out 1
                            have hfz20_2 := blk_frozen BK102.out 2
                            have hfz20_3 := blk_frozen BK102.out 3
                            go_wp2
                            go_ret
                            exact ⟨by first | rfl | (simp [errW_none, errW_some] <;> rfl) | (simp [*, errW_none, errW_some] <;> rfl), by repeat (first | (with_reducible first | exact HB.out | apply below_alloc | apply pw_below_drewN | apply below_drew1 | refine below_set ?_ GE102.out) | exact HB.out)⟩
                          · rw [if_neg c19] at H
                            have c19b0 : decide (1 < ((rd_T42 l0 x11_1).f0)) = false := decide_eq_false c19
                            clear c19
                            have H' := Aside0.mk H
                            clear H
                            have hcz21_0 : wc.cell? ⟨gb102, 0, none⟩ = some (.int .u8 ((rd_T42 l0 x11_1).f0)) := (blk_cell BK102.out 0).trans rfl
                            have hcz21_1 : wc.cell? ⟨gb102, 1, none⟩ = some (.int .i64 ((rd_T42 l0 x11_1).f1)) := (blk_cell BK102.out 1).trans rfl
                            have hcz21_2 : wc.cell? ⟨gb102, 2, none⟩ = some (.int .i64 ((rd_T42 l0 x11_1).f2)) := (blk_cell BK102.out 2).trans rfl
                            have hcz21_3 : wc.cell? ⟨gb102, 3, none⟩ = some (.bool ((rd_T42 l0 x11_1).f3)) := (blk_cell BK102.out 3).trans rfl
                            have hfz21_0 := blk_frozen BK102.out 0
                            have hfz21_1 := blk_frozen BK102.out 1
                            have hfz21_2 := blk_frozen BK102.out 2
                            have hfz21_3 := blk_frozen BK102.out 3
                            go_wp2
                            go_roundg kj5
                            case measure => have := HK1.out; have := HJ5.out; omega
                            case rel => exact ⟨(x5_5), (0), (wrap64 (x11_1 + 1)), (by first | rfl | (simp; done) | (simp [*]; done)), (by first | rfl | (simp; done) | (simp [*]; done)), (by first | rfl | (simp; done) | (simp [*]; done)), H', ⟨by have := HK1.out; have := HJ5.out; omega⟩, ⟨by repeat (first | (with_reducible first | exact HB.out | apply below_alloc | apply pw_below_drewN | apply below_drew1 | refine below_set ?_ GE102.out) | exact HB.out)⟩⟩
                · rw [if_neg c10] at H
                  have c10b0 : (((rd_T42 l0 x11_1).f0) == 1) = false := beq_eq_false_iff_ne.mpr c10
                  have c10b1 : (((rd_T42 l0 x11_1).f0) != 1) = true := bne_iff_ne.mpr c10
                  by_cases c22 : x5_5 ≥ a1
                  · rw [if_pos c22] at H
                    have c22b0 : decide (a1 ≤ x5_5) = true := decide_eq_true c22
                    clear c22
                    obtain rfl := Option.some.inj H
                    have hcz23_0 : wc.cell? ⟨gb102, 0, none⟩ = some (.int .u8 ((rd_T42 l0 x11_1).f0)) := (blk_cell BK102.out 0).trans rfl
                    have hcz23_1 : wc.cell? ⟨gb102, 1, none⟩ = some (.int .i64 ((rd_T42 l0 x11_1).f1)) := (blk_cell BK102.out 1).trans rfl
                    have hcz23_2 : wc.cell? ⟨gb102, 2, none⟩ = some (.int .i64 ((rd_T42 l0 x11_1).f2)) := (blk_cell BK102.out 2).trans rfl
                    have hcz23_3 : wc.cell? ⟨gb102, 3, none⟩ = some (.bool ((rd_T42 l0 x11_1).f3)) := (blk_cell BK102.out 3).trans rfl
                    have hfz23_0 := blk_frozen BK102.out 0
                    have hfz23_1 := blk_frozen BK102.out 1
                    have hfz23_2 := blk_frozen BK102.out 2
                    have hfz23_3 := blk_frozen BK102.out 3
                    go_wp2
                    go_ret
                    exact ⟨by first | rfl | (simp [errW_none, errW_some] <;> rfl) | (simp [*, errW_none, errW_some] <;> rfl), by repeat (first | (with_reducible first | exact HB.out | apply below_alloc | apply pw_below_drewN | apply below_drew1 | refine below_set ?_ GE102.out) | exact HB.out)⟩
                  · rw [if_neg c22] at H
                    have c22b0 : decide (a1 ≤ x5_5) = false := decide_eq_false c22
                    clear c22
                    by_cases c24 : (wrap64 (x6_1 + 1)) ≥ a1
                    · rw [if_pos c24] at H
                      have c24b0 : decide (a1 ≤ (wrap64 (x6_1 + 1))) = true := decide_eq_true c24
                      clear c24
                      obtain rfl := Option.some.inj H
                      have hcz25_0 : wc.cell? ⟨gb102, 0, none⟩ = some (.int .u8 ((rd_T42 l0 x11_1).f0)) := (blk_cell BK102.out 0).trans rfl
                      have hcz25_1 : wc.cell? ⟨gb102, 1, none⟩ = some (.int .i64 ((rd_T42 l0 x11_1).f1)) := (blk_cell BK102.out 1).trans rfl
                      have hcz25_2 : wc.cell? ⟨gb102, 2, none⟩ = some (.int .i64 ((rd_T42 l0 x11_1).f2)) := (blk_cell BK102.out 2).trans rfl
                      have hcz25_3 : wc.cell? ⟨gb102, 3, none⟩ = some (.bool ((rd_T42 l0 x11_1).f3)) := (blk_cell BK102.out 3).trans rfl
                      have hfz25_0 := blk_frozen BK102.out 0
                      have hfz25_1 := blk_frozen BK102.out 1
                      have hfz25_2 := blk_frozen BK102.out 2
                      have hfz25_3 := blk_frozen BK102.out 3
                      go_wp2
                      go_ret
                      exact ⟨by first | rfl | (simp [errW_none, errW_some] <;> rfl) | (simp [*, errW_none, errW_some] <;> rfl), by repeat (first | (with_reducible first | exact HB.out | apply below_alloc | apply pw_below_drewN | apply below_drew1 | refine below_set ?_ GE102.out) | exact HB.out)⟩
                    · rw [if_neg c24] at H
                      have c24b0 : decide (a1 ≤ (wrap64 (x6_1 + 1))) = false := decide_eq_false c24
                      clear c24
                      by_cases c26 : ((rd_T42 l0 x11_1).f1) < 0
                      · rw [if_pos c26] at H
                        have c26b0 : decide (((rd_T42 l0 x11_1).f1) < 0) = true := decide_eq_true c26
                        clear c26
                        obtain rfl := Option.some.inj H
                        have hcz27_0 : wc.cell? ⟨gb102, 0, none⟩ = some (.int .u8 ((rd_T42 l0 x11_1).f0)) := (blk_cell BK102.out 0).trans rfl
                        have hcz27_1 : wc.cell? ⟨gb102, 1, none⟩ = some (.int .i64 ((rd_T42 l0 x11_1).f1)) := (blk_cell BK102.out 1).trans rfl
                        have hcz27_2 : wc.cell? ⟨gb102, 2, none⟩ = some (.int .i64 ((rd_T42 l0 x11_1).f2)) := (blk_cell BK102.out 2).trans rfl
                        have hcz27_3 : wc.cell? ⟨gb102, 3, none⟩ = some (.bool ((rd_T42 l0 x11_1).f3)) := (blk_cell BK102.out 3).trans rfl
                        have hfz27_0 := blk_frozen BK102.out 0
                        have hfz27_1 := blk_frozen BK102.out 1
                        have hfz27_2 := blk_frozen BK102.out 2
                        have hfz27_3 := blk_frozen BK102.out 3
                        go_wp2
                        go_ret
                        exact ⟨by first | rfl | (simp [errW_none, errW_some] <;> rfl) | (simp [*, errW_none, errW_some] <;> rfl), by repeat (first | (with_reducible first | exact HB.out | apply below_alloc | apply pw_below_drewN | apply below_drew1 | refine below_set ?_ GE102.out) | exact HB.out)⟩
                      · rw [if_neg c26] at H
                        have c26b0 : decide (((rd_T42 l0 x11_1).f1) < 0) = false := decide_eq_false c26
                        clear c26
                        by_cases c28 : ((rd_T42 l0 x11_1).f3) = true
                        · rw [if_pos c28] at H
                          have c28b0 : ((rd_T42 l0 x11_1).f3) = true := c28
                          clear c28
                          obtain rfl := Option.some.inj H
                          have hcz29_0 : wc.cell? ⟨gb102, 0, none⟩ = some (.int .u8 ((rd_T42 l0 x11_1).f0)) := (blk_cell BK102.out 0).trans rfl
                          have hcz29_1 : wc.cell? ⟨gb102, 1, none⟩ = some (.int .i64 ((rd_T42 l0 x11_1).f1)) := (blk_cell BK102.out 1).trans rfl
                          have hcz29_2 : wc.cell? ⟨gb102, 2, none⟩ = some (.int .i64 ((rd_T42 l0 x11_1).f2)) := (blk_cell BK102.out 2).trans rfl
                          have hcz29_3 : wc.cell? ⟨gb102, 3, none⟩ = some (.bool ((rd_T42 l0 x11_1).f3)) := (blk_cell BK102.out 3).trans rfl
                          have hfz29_0 := blk_frozen BK102.out 0
                          have hfz29_1 := blk_frozen BK102.out 1
                          have hfz29_2 := blk_frozen BK102.out 2
                          have hfz29_3 := blk_frozen BK102.out 3
                          go_wp2
                          go_ret
                          exact ⟨by first | rfl | (simp [errW_none, errW_some] <;> rfl) | (simp [*, errW_none, errW_some] <;> rfl), by repeat (first | (with_reducible first | exact HB.out | apply below_alloc | apply pw_below_drewN | apply below_drew1 | refine below_set ?_ GE102.out) | exact HB.out)⟩
                        · rw [if_neg c28] at H
                          have c28b0 : ((rd_T42 l0 x11_1).f3) = false := by simpa using c28
                          clear c28
                          by_cases c30 : ((rd_T42 l0 x11_1).f0) > 1
                          · rw [if_pos c30] at H
                            have c30b0 : decide (1 < ((rd_T42 l0 x11_1).f0)) = true := decide_eq_true c30
                            clear c30
                            obtain rfl := Option.some.inj H
                            have hcz31_0 : wc.cell? ⟨gb102, 0, none⟩ = some (.int .u8 ((rd_T42 l0 x11_1).f0)) := (blk_cell BK102.out 0).trans rfl
                            have hcz31_1 : wc.cell? ⟨gb102, 1, none⟩ = some (.int .i64 ((rd_T42 l0 x11_1).f1)) := (blk_cell BK102.out 1).trans rfl
                            have hcz31_2 : wc.cell? ⟨gb102, 2, none⟩ = some (.int .i64 ((rd_T42 l0 x11_1).f2)) := (blk_cell BK102.out 2).trans rfl
                            have hcz31_3 : wc.cell? ⟨gb102, 3, none⟩ = some (.bool ((rd_T42 l0 x11_1).f3)) := (blk_cell BK102.out 3).trans rfl
                            have hfz31_0 := blk_frozen BK102.out 0
                            have hfz31_1 := blk_frozen BK102.out 1
                            have hfz31_2 := blk_frozen BK102.out 2
                            have hfz31_3 := blk_frozen BK102.out 3
                            go_wp2
                            go_ret
                            exact ⟨by first | rfl | (simp [errW_none, errW_some] <;> rfl) | (simp [*, errW_none, errW_some] <;> rfl), by repeat (first | (with_reducible first | exact HB.out | apply below_alloc | apply pw_below_drewN | apply below_drew1 | refine below_set ?_ GE102.out) | exact HB.out)⟩
                          · rw [if_neg c30] at H
                            have c30b0 : decide (1 < ((rd_T42 l0 x11_1).f0)) = false := decide_eq_false c30
                            clear c30
                            have H' := Aside0.mk H
                            clear H
                            have hcz32_0 : wc.cell? ⟨gb102, 0, none⟩ = some (.int .u8 ((rd_T42 l0 x11_1).f0)) := (blk_cell BK102.out 0).trans rfl
                            have hcz32_1 : wc.cell? ⟨gb102, 1, none⟩ = some (.int .i64 ((rd_T42 l0 x11_1).f1)) := (blk_cell BK102.out 1).trans rfl
                            have hcz32_2 : wc.cell? ⟨gb102, 2, none⟩ = some (.int .i64 ((rd_T42 l0 x11_1).f2)) := (blk_cell BK102.out 2).trans rfl
                            have hcz32_3 : wc.cell? ⟨gb102, 3, none⟩ = some (.bool ((rd_T42 l0 x11_1).f3)) := (blk_cell BK102.out 3).trans rfl
                            have hfz32_0 := blk_frozen BK102.out 0
                            have hfz32_1 := blk_frozen BK102.out 1
                            have hfz32_2 := blk_frozen BK102.out 2
                            have hfz32_3 := blk_frozen BK102.out 3
                            go_wp2
                            go_roundg kj5
                            case measure => have := HK1.out; have := HJ5.out; omega
                            case rel => exact ⟨(x5_5), ((wrap64 (x6_1 + 1))), (wrap64 (x11_1 + 1)), (by first | rfl | (simp; done) | (simp [*]; done)), (by first | rfl | (simp; done) | (simp [*]; done)), (by first | rfl | (simp; done) | (simp [*]; done)), H', ⟨by have := HK1.out; have := HJ5.out; omega⟩, ⟨by repeat (first | (with_reducible first | exact HB.out | apply below_alloc | apply pw_below_drewN | apply below_drew1 | refine below_set ?_ GE102.out) | exact HB.out)⟩⟩
          · rw [if_neg c5] at H
            exact absurd H (by simp)
        · rw [if_neg c4] at H
          exact absurd H (by simp)
      · rw [if_neg c3] at H
        have c3b0 : decide (x11_1 < (l0.length : Int)) = false := decide_eq_false c3
        clear c3
        obtain rfl := Option.some.inj H
        go_wp2
        go_ret
        exact ⟨by first | rfl | (simp [errW_none, errW_some] <;> rfl) | (simp [*, errW_none, errW_some] <;> rfl), by repeat (first | (with_reducible first | exact HB.out | apply below_alloc | apply pw_below_drewN | apply below_drew1) | exact HB.out)⟩

/-! ### bobbinlaw20_PipeFairer: function 11 -/
def bobbinlaw20_PipeFairer.j0 : Nat → List (S42) → Int → Int → Bool → Option (Bool)
  | 0, _, _, _, _ => none
  | k + 1, x0, x1, x7, x46 => if x46 = true then (some false) else (if 0 ≤ x7 then (if x7 ≤ (x0.length : Int) then ((some (x0.take (x7 : Int).toNat : List (S42))).bind fun y116 => (if ([] : List (S42)).length + y116.length < 4398046511104 then ((some (([] : List (S42)) ++ y116 : List (S42))).bind fun y120 => (if y120.length < 4398046511104 then ((some (y120 ++ [(⟨1, 1, 0, true⟩ : S42)] : List (S42))).bind fun y123 => ((some (x0.drop (x7 : Int).toNat : List (S42))).bind fun y126 => (if y123.length + y126.length < 4398046511104 then ((pipe_Fair.f k (y123 ++ y126) (wrap64 (1 + (wrap64 (x1))))).bind fun t133 => (if t133 = true then (some false) else ((pipe_Fair.f k ([] : List (S42)) 1).bind fun t134 => (some t134)))) else (none)))) else (none))) else (none))) else (none)) else (none))
def bobbinlaw20_PipeFairer.f (k : Nat) (l0 : List (S42)) (a1 : Int) (a2 : Int) : Option (Bool) := (bobbinlaw20_awake.f).bind fun t103 => (if t103 = true then (if (wrap64 ((l0.length : Int) + 1)) = 0 then (none) else ((pipe_Fair.f k l0 (wrap64 (a1))).bind fun t104 => (if t104 = true then ((pipe_Fair.f k l0 (wrap64 ((wrap64 (a1)) + 1))).bind fun t105 => (if t105 = true then (if 0 ≤ (Int.tmod (wrap64 (a2)) (wrap64 ((l0.length : Int) + 1))) then (if (Int.tmod (wrap64 (a2)) (wrap64 ((l0.length : Int) + 1))) ≤ (l0.length : Int) then ((pipe_Fair.f k (l0.take ((Int.tmod (wrap64 (a2)) (wrap64 ((l0.length : Int) + 1))) : Int).toNat) (wrap64 (a1))).bind fun t110 => (if t110 = true then ((pipe_Fair.f k (l0.drop ((Int.tmod (wrap64 (a2)) (wrap64 ((l0.length : Int) + 1))) : Int).toNat) (wrap64 (a1))).bind fun t115 => (bobbinlaw20_PipeFairer.j0 k l0 a1 (Int.tmod (wrap64 (a2)) (wrap64 ((l0.length : Int) + 1))) (!t115))) else (bobbinlaw20_PipeFairer.j0 k l0 a1 (Int.tmod (wrap64 (a2)) (wrap64 ((l0.length : Int) + 1))) true))) else (none)) else (none)) else (bobbinlaw20_PipeFairer.j0 k l0 a1 (Int.tmod (wrap64 (a2)) (wrap64 ((l0.length : Int) + 1))) true))) else (bobbinlaw20_PipeFairer.j0 k l0 a1 (Int.tmod (wrap64 (a2)) (wrap64 ((l0.length : Int) + 1))) false)))) else (some false))
theorem bobbinlaw20_PipeFairer.mono_l : ∀ k, (∀ y0 y1 y2 y3, LeO (bobbinlaw20_PipeFairer.j0 k y0 y1 y2 y3) (bobbinlaw20_PipeFairer.j0 (k + 1) y0 y1 y2 y3))
  | 0 => fun _ _ _ _ r h => by simp [bobbinlaw20_PipeFairer.j0] at h
  | k + 1 => by
    have ih0 := bobbinlaw20_PipeFairer.mono_l k
    · intro y0 y1 y2 y3
      unfold bobbinlaw20_PipeFairer.j0
      repeat' first
      | (with_reducible exact ih0 _ _ _ _)
      | (with_reducible exact pipe_Fair.mono _ _ _)
      | (with_reducible exact LeO.refl _)
      | (with_reducible exact LeO.none _)
      | (with_reducible refine LeO.ite ?_ ?_)
      | (with_reducible refine LeO.bind ?_ (fun _ => ?_))
      | exact ih0 _ _ _ _
      | exact pipe_Fair.mono _ _ _
      | exact LeO.none _
      | refine LeO.ite ?_ ?_
      | refine LeO.bind ?_ (fun _ => ?_)
theorem bobbinlaw20_PipeFairer.mono : ∀ a0 a1 a2 k, LeO (bobbinlaw20_PipeFairer.f k a0 a1 a2) (bobbinlaw20_PipeFairer.f (k + 1) a0 a1 a2) := by
  intro a0 a1 a2 k
  have ih0 := bobbinlaw20_PipeFairer.mono_l k
  unfold bobbinlaw20_PipeFairer.f
  repeat' first
      | (with_reducible exact ih0 _ _ _ _)
      | (with_reducible exact pipe_Fair.mono _ _ _)
      | (with_reducible exact LeO.refl _)
      | (with_reducible exact LeO.none _)
      | (with_reducible refine LeO.ite ?_ ?_)
      | (with_reducible refine LeO.bind ?_ (fun _ => ?_))
      | exact ih0 _ _ _ _
      | exact pipe_Fair.mono _ _ _
      | exact LeO.none _
      | refine LeO.ite ?_ ?_
      | refine LeO.bind ?_ (fun _ => ?_)
set_option maxHeartbeats 8000000 in
set_option maxRecDepth 100000 in
theorem bobbinlaw20_PipeFairer.calls (k : Nat) (A0 : Option Addr) (c0 : Nat) (l0 : List (S42)) (a1 : Int) (a2 : Int) (r : Bool) (w : World) (hr0 : Kd.C k42 w A0 l0.length l0) (hc0 : l0.length ≤ c0) (h : bobbinlaw20_PipeFairer.f k l0 a1 a2 = some r) :
    Calls Try.prog 11 #[.slice A0 l0.length c0, .int .u8 a1, .int .u16 a2] w fun e w' => e = .returned (.bool r) ∧ Below w.heap.size w w' := by
  have hu42 := Try.underlying42
  have HR0 := Aside0.mk hr0
  have HC0 := Aside0.mk hc0
  clear hr0 hc0
  have HB := Aside0.mk (Below.refl w.heap.size w)
  have H : ((bobbinlaw20_awake.f).bind fun t103 => (if t103 = true then (if (wrap64 ((l0.length : Int) + 1)) = 0 then (none) else ((pipe_Fair.f k l0 (wrap64 (a1))).bind fun t104 => (if t104 = true then ((pipe_Fair.f k l0 (wrap64 ((wrap64 (a1)) + 1))).bind fun t105 => (if t105 = true then (if 0 ≤ (Int.tmod (wrap64 (a2)) (wrap64 ((l0.length : Int) + 1))) then (if (Int.tmod (wrap64 (a2)) (wrap64 ((l0.length : Int) + 1))) ≤ (l0.length : Int) then ((pipe_Fair.f k (l0.take ((Int.tmod (wrap64 (a2)) (wrap64 ((l0.length : Int) + 1))) : Int).toNat) (wrap64 (a1))).bind fun t110 => (if t110 = true then ((pipe_Fair.f k (l0.drop ((Int.tmod (wrap64 (a2)) (wrap64 ((l0.length : Int) + 1))) : Int).toNat) (wrap64 (a1))).bind fun t115 => (bobbinlaw20_PipeFairer.j0 k l0 a1 (Int.tmod (wrap64 (a2)) (wrap64 ((l0.length : Int) + 1))) (!t115))) else (bobbinlaw20_PipeFairer.j0 k l0 a1 (Int.tmod (wrap64 (a2)) (wrap64 ((l0.length : Int) + 1))) true))) else (none)) else (none)) else (bobbinlaw20_PipeFairer.j0 k l0 a1 (Int.tmod (wrap64 (a2)) (wrap64 ((l0.length : Int) + 1))) true))) else (bobbinlaw20_PipeFairer.j0 k l0 a1 (Int.tmod (wrap64 (a2)) (wrap64 ((l0.length : Int) + 1))) false)))) else (some false))) = some r := h
  clear h
  replace H := Option.bind_eq_some_iff.mp H
  obtain ⟨t103, A40, H⟩ := H
  replace H : (if t103 = true then (if (wrap64 ((l0.length : Int) + 1)) = 0 then (none) else ((pipe_Fair.f k l0 (wrap64 (a1))).bind fun t104 => (if t104 = true then ((pipe_Fair.f k l0 (wrap64 ((wrap64 (a1)) + 1))).bind fun t105 => (if t105 = true then (if 0 ≤ (Int.tmod (wrap64 (a2)) (wrap64 ((l0.length : Int) + 1))) then (if (Int.tmod (wrap64 (a2)) (wrap64 ((l0.length : Int) + 1))) ≤ (l0.length : Int) then ((pipe_Fair.f k (l0.take ((Int.tmod (wrap64 (a2)) (wrap64 ((l0.length : Int) + 1))) : Int).toNat) (wrap64 (a1))).bind fun t110 => (if t110 = true then ((pipe_Fair.f k (l0.drop ((Int.tmod (wrap64 (a2)) (wrap64 ((l0.length : Int) + 1))) : Int).toNat) (wrap64 (a1))).bind fun t115 => (bobbinlaw20_PipeFairer.j0 k l0 a1 (Int.tmod (wrap64 (a2)) (wrap64 ((l0.length : Int) + 1))) (!t115))) else (bobbinlaw20_PipeFairer.j0 k l0 a1 (Int.tmod (wrap64 (a2)) (wrap64 ((l0.length : Int) + 1))) true))) else (none)) else (none)) else (bobbinlaw20_PipeFairer.j0 k l0 a1 (Int.tmod (wrap64 (a2)) (wrap64 ((l0.length : Int) + 1))) true))) else (bobbinlaw20_PipeFairer.j0 k l0 a1 (Int.tmod (wrap64 (a2)) (wrap64 ((l0.length : Int) + 1))) false)))) else (some false)) = some r := H
  have A4 := Aside0.mk A40
  clear A40
  by_cases c5 : t103 = true
  · subst c5
    have H1 : (if (wrap64 ((l0.length : Int) + 1)) = 0 then (none) else ((pipe_Fair.f k l0 (wrap64 (a1))).bind fun t104 => (if t104 = true then ((pipe_Fair.f k l0 (wrap64 ((wrap64 (a1)) + 1))).bind fun t105 => (if t105 = true then (if 0 ≤ (Int.tmod (wrap64 (a2)) (wrap64 ((l0.length : Int) + 1))) then (if (Int.tmod (wrap64 (a2)) (wrap64 ((l0.length : Int) + 1))) ≤ (l0.length : Int) then ((pipe_Fair.f k (l0.take ((Int.tmod (wrap64 (a2)) (wrap64 ((l0.length : Int) + 1))) : Int).toNat) (wrap64 (a1))).bind fun t110 => (if t110 = true then ((pipe_Fair.f k (l0.drop ((Int.tmod (wrap64 (a2)) (wrap64 ((l0.length : Int) + 1))) : Int).toNat) (wrap64 (a1))).bind fun t115 => (bobbinlaw20_PipeFairer.j0 k l0 a1 (Int.tmod (wrap64 (a2)) (wrap64 ((l0.length : Int) + 1))) (!t115))) else (bobbinlaw20_PipeFairer.j0 k l0 a1 (Int.tmod (wrap64 (a2)) (wrap64 ((l0.length : Int) + 1))) true))) else (none)) else (none)) else (bobbinlaw20_PipeFairer.j0 k l0 a1 (Int.tmod (wrap64 (a2)) (wrap64 ((l0.length : Int) + 1))) true))) else (bobbinlaw20_PipeFairer.j0 k l0 a1 (Int.tmod (wrap64 (a2)) (wrap64 ((l0.length : Int) + 1))) false)))) = some r := by rw [if_pos rfl] at H; exact H
    clear H
    have H := H1
    clear H1
    by_cases c6 : (wrap64 ((l0.length : Int) + 1)) = 0
    · rw [if_pos c6] at H
      exact absurd H (by simp)
    · rw [if_neg c6] at H
      have c6b0 : ((wrap64 ((l0.length : Int) + 1)) == 0) = false := beq_eq_false_iff_ne.mpr c6
      have c6b1 : ((wrap64 ((l0.length : Int) + 1)) != 0) = true := bne_iff_ne.mpr c6
      have HC7 := Aside0.mk H
      clear H
      go_enter Try.func11, Try.ntmps11
      go_upto_region 4 with (first | ((with_reducible refine gate_callee (f := 14) rfl ?_); refine goesL_ (some 9) rfl rfl Try.func14 (by kernel_rfl) rfl #[] rfl (by (try simp only [List.map_toArray, List.map_cons, List.map_nil]); first | done | rfl | (simp only [List.length_drop, List.length_take]; rfl)) ?_; (with_reducible refine (bobbinlaw20_awake.calls  true _ A4.out).mono ?_); rintro e w8 ⟨rfl, hb⟩; refine ⟨_, rfl, ?_⟩; have n0_ := Aside0.mk (below_step (by repeat (first | (with_reducible first | exact HB.out | apply below_alloc | apply pw_below_drewN | apply below_drew1) | exact HB.out)) hb); clear HB; have HB := n0_; clear n0_; (try clear hb); (try clear hb2); (try clear hk); (try clear hi)))
      (try simp only [Act.put, List.setIfInBounds_toArray, List.set_cons_zero, List.set_cons_succ])
      go_cut [46] (fun v46 wc => ∃ (kq : Nat) (x46_6 : Bool), v46 = .bool x46_6 ∧ Aside0 (bobbinlaw20_PipeFairer.j0 kq l0 a1 (Int.tmod (wrap64 (a2)) (wrap64 ((l0.length : Int) + 1))) x46_6 = some r) ∧ Aside0 (kq ≤ k) ∧ Aside0 (Below w.heap.size w wc))
      case first =>
        have H := HC7.out
        clear HC7
        replace H := Option.bind_eq_some_iff.mp H
        obtain ⟨t104, A90, H⟩ := H
        replace H : (if t104 = true then ((pipe_Fair.f k l0 (wrap64 ((wrap64 (a1)) + 1))).bind fun t105 => (if t105 = true then (if 0 ≤ (Int.tmod (wrap64 (a2)) (wrap64 ((l0.length : Int) + 1))) then (if (Int.tmod (wrap64 (a2)) (wrap64 ((l0.length : Int) + 1))) ≤ (l0.length : Int) then ((pipe_Fair.f k (l0.take ((Int.tmod (wrap64 (a2)) (wrap64 ((l0.length : Int) + 1))) : Int).toNat) (wrap64 (a1))).bind fun t110 => (if t110 = true then ((pipe_Fair.f k (l0.drop ((Int.tmod (wrap64 (a2)) (wrap64 ((l0.length : Int) + 1))) : Int).toNat) (wrap64 (a1))).bind fun t115 => (bobbinlaw20_PipeFairer.j0 k l0 a1 (Int.tmod (wrap64 (a2)) (wrap64 ((l0.length : Int) + 1))) (!t115))) else (bobbinlaw20_PipeFairer.j0 k l0 a1 (Int.tmod (wrap64 (a2)) (wrap64 ((l0.length : Int) + 1))) true))) else (none)) else (none)) else (bobbinlaw20_PipeFairer.j0 k l0 a1 (Int.tmod (wrap64 (a2)) (wrap64 ((l0.length : Int) + 1))) true))) else (bobbinlaw20_PipeFairer.j0 k l0 a1 (Int.tmod (wrap64 (a2)) (wrap64 ((l0.length : Int) + 1))) false)) = some r := H
        have A9 := Aside0.mk A90
        clear A90
        by_cases c10 : t104 = true
        · subst c10
          have H1 : ((pipe_Fair.f k l0 (wrap64 ((wrap64 (a1)) + 1))).bind fun t105 => (if t105 = true then (if 0 ≤ (Int.tmod (wrap64 (a2)) (wrap64 ((l0.length : Int) + 1))) then (if (Int.tmod (wrap64 (a2)) (wrap64 ((l0.length : Int) + 1))) ≤ (l0.length : Int) then ((pipe_Fair.f k (l0.take ((Int.tmod (wrap64 (a2)) (wrap64 ((l0.length : Int) + 1))) : Int).toNat) (wrap64 (a1))).bind fun t110 => (if t110 = true then ((pipe_Fair.f k (l0.drop ((Int.tmod (wrap64 (a2)) (wrap64 ((l0.length : Int) + 1))) : Int).toNat) (wrap64 (a1))).bind fun t115 => (bobbinlaw20_PipeFairer.j0 k l0 a1 (Int.tmod (wrap64 (a2)) (wrap64 ((l0.length : Int) + 1))) (!t115))) else (bobbinlaw20_PipeFairer.j0 k l0 a1 (Int.tmod (wrap64 (a2)) (wrap64 ((l0.length : Int) + 1))) true))) else (none)) else (none)) else (bobbinlaw20_PipeFairer.j0 k l0 a1 (Int.tmod (wrap64 (a2)) (wrap64 ((l0.length : Int) + 1))) true))) = some r := by rw [if_pos rfl] at H; exact H
          clear H
          have H := H1
          clear H1
          replace H := Option.bind_eq_some_iff.mp H
          obtain ⟨t105, A110, H⟩ := H
          replace H : (if t105 = true then (if 0 ≤ (Int.tmod (wrap64 (a2)) (wrap64 ((l0.length : Int) + 1))) then (if (Int.tmod (wrap64 (a2)) (wrap64 ((l0.length : Int) + 1))) ≤ (l0.length : Int) then ((pipe_Fair.f k (l0.take ((Int.tmod (wrap64 (a2)) (wrap64 ((l0.length : Int) + 1))) : Int).toNat) (wrap64 (a1))).bind fun t110 => (if t110 = true then ((pipe_Fair.f k (l0.drop ((Int.tmod (wrap64 (a2)) (wrap64 ((l0.length : Int) + 1))) : Int).toNat) (wrap64 (a1))).bind fun t115 => (bobbinlaw20_PipeFairer.j0 k l0 a1 (Int.tmod (wrap64 (a2)) (wrap64 ((l0.length : Int) + 1))) (!t115))) else (bobbinlaw20_PipeFairer.j0 k l0 a1 (Int.tmod (wrap64 (a2)) (wrap64 ((l0.length : Int) + 1))) true))) else (none)) else (none)) else (bobbinlaw20_PipeFairer.j0 k l0 a1 (Int.tmod (wrap64 (a2)) (wrap64 ((l0.length : Int) + 1))) true)) = some r := H
          have A11 := Aside0.mk A110
          clear A110
          by_cases c12 : t105 = true
          · subst c12
            have H1 : (if 0 ≤ (Int.tmod (wrap64 (a2)) (wrap64 ((l0.length : Int) + 1))) then (if (Int.tmod (wrap64 (a2)) (wrap64 ((l0.length : Int) + 1))) ≤ (l0.length : Int) then ((pipe_Fair.f k (l0.take ((Int.tmod (wrap64 (a2)) (wrap64 ((l0.length : Int) + 1))) : Int).toNat) (wrap64 (a1))).bind fun t110 => (if t110 = true then ((pipe_Fair.f k (l0.drop ((Int.tmod (wrap64 (a2)) (wrap64 ((l0.length : Int) + 1))) : Int).toNat) (wrap64 (a1))).bind fun t115 => (bobbinlaw20_PipeFairer.j0 k l0 a1 (Int.tmod (wrap64 (a2)) (wrap64 ((l0.length : Int) + 1))) (!t115))) else (bobbinlaw20_PipeFairer.j0 k l0 a1 (Int.tmod (wrap64 (a2)) (wrap64 ((l0.length : Int) + 1))) true))) else (none)) else (none)) = some r := by rw [if_pos rfl] at H; exact H
            clear H
            have H := H1
            clear H1
            obtain ⟨ji13, hji13⟩ : ∃ j_ : Int, (Int.tmod (wrap64 (a2)) (wrap64 ((l0.length : Int) + 1))) = j_ := ⟨_, rfl⟩
            replace H : (if 0 ≤ (ji13) then (if (ji13) ≤ (l0.length : Int) then ((pipe_Fair.f k (l0.take ((ji13) : Int).toNat) (wrap64 (a1))).bind fun t110 => (if t110 = true then ((pipe_Fair.f k (l0.drop ((ji13) : Int).toNat) (wrap64 (a1))).bind fun t115 => (bobbinlaw20_PipeFairer.j0 k l0 a1 ji13 (!t115))) else (bobbinlaw20_PipeFairer.j0 k l0 a1 ji13 true))) else (none)) else (none)) = some r := by first | (rw [hji13] at H; exact H) | (simp only [hji13] at H ⊢; exact H)
            (try rw [hji13] at A9)
            (try rw [hji13] at A11)
            by_cases c14 : 0 ≤ (ji13)
            · rw [if_pos c14] at H
              have c14b0 := eq_true c14
              have c14b1 : decide (0 ≤ (ji13)) = true := decide_eq_true c14
              clear c14
              by_cases c15 : (ji13) ≤ (l0.length : Int)
              · rw [if_pos c15] at H
                have c15b0 := eq_true c15
                have c15b1 : decide ((ji13) ≤ (l0.length : Int)) = true := decide_eq_true c15
                clear c15
                obtain ⟨y106, hy106⟩ : ∃ y_ : List (S42), y_ = (l0.take ((ji13) : Int).toNat) := ⟨_, rfl⟩
                replace H : ((pipe_Fair.f k y106 (wrap64 (a1))).bind fun t110 => (if t110 = true then ((pipe_Fair.f k (l0.drop ((ji13) : Int).toNat) (wrap64 (a1))).bind fun t115 => (bobbinlaw20_PipeFairer.j0 k l0 a1 ji13 (!t115))) else (bobbinlaw20_PipeFairer.j0 k l0 a1 ji13 true))) = some r := by first | (rw [hy106]; with_reducible exact H) | (have H2_ := (Option.bind_some _ _).symm.trans H; rw [hy106]; with_reducible exact H2_) | (have H2_ := (Option.bind_some _ _).symm.trans H; with_reducible exact H2_) | with_reducible exact H | (rw [hy106]; exact H) | exact H
                have Ny106 := Aside0.mk hy106
                clear hy106
                replace H := Option.bind_eq_some_iff.mp H
                obtain ⟨t110, A160, H⟩ := H
                replace H : (if t110 = true then ((pipe_Fair.f k (l0.drop ((ji13) : Int).toNat) (wrap64 (a1))).bind fun t115 => (bobbinlaw20_PipeFairer.j0 k l0 a1 ji13 (!t115))) else (bobbinlaw20_PipeFairer.j0 k l0 a1 ji13 true)) = some r := H
                have A16 := Aside0.mk A160
                clear A160
                by_cases c17 : t110 = true
                · subst c17
                  have H1 : ((pipe_Fair.f k (l0.drop ((ji13) : Int).toNat) (wrap64 (a1))).bind fun t115 => (bobbinlaw20_PipeFairer.j0 k l0 a1 ji13 (!t115))) = some r := by rw [if_pos rfl] at H; exact H
                  clear H
                  have H := H1
                  clear H1
                  have c18b0 := eq_true (of_decide_eq_true (by first | (with_reducible assumption) | assumption) : 0 ≤ (ji13))
                  have c19b0 := eq_true (of_decide_eq_true (by first | (with_reducible assumption) | assumption) : (ji13) ≤ (l0.length : Int))
                  obtain ⟨y111, hy111⟩ : ∃ y_ : List (S42), y_ = (l0.drop ((ji13) : Int).toNat) := ⟨_, rfl⟩
                  replace H : ((pipe_Fair.f k y111 (wrap64 (a1))).bind fun t115 => (bobbinlaw20_PipeFairer.j0 k l0 a1 ji13 (!t115))) = some r := by first | (rw [hy111]; with_reducible exact H) | (have H2_ := (Option.bind_some _ _).symm.trans H; rw [hy111]; with_reducible exact H2_) | (have H2_ := (Option.bind_some _ _).symm.trans H; with_reducible exact H2_) | with_reducible exact H | (rw [hy111]; exact H) | exact H
                  have Ny111 := Aside0.mk hy111
                  clear hy111
                  replace H := Option.bind_eq_some_iff.mp H
                  obtain ⟨t115, A200, H⟩ := H
                  replace H : (bobbinlaw20_PipeFairer.j0 k l0 a1 ji13 (!t115)) = some r := H
                  have A20 := Aside0.mk A200
                  clear A200
                  have H' := Aside0.mk H
                  clear H
                  go_wp2_with (first | ((with_reducible refine gate_callee (f := 30) rfl ?_); refine goesL_ (some 20) rfl rfl Try.func30 (by kernel_rfl) rfl #[.slice A0 l0.length c0, .int .i64 (wrap64 (a1))] rfl (by (try simp only [List.map_toArray, List.map_cons, List.map_nil]); first | done | rfl | (simp only [List.length_drop, List.length_take]; rfl)) ?_; (with_reducible refine (pipe_Fair.calls k _ _ l0 (wrap64 (a1)) true _ ?side1 ?side2 A9.out).mono ?_); (case side1 => repeat (first | exact (Kd.C_below HR0.out HB.out) | (with_reducible refine Kd.C_alloc ?_ _) | (with_reducible refine Kd.C_drewN ?_ _) | (with_reducible refine Kd.C_drew ?_))); (case side2 => exact HC0.out); rintro e w21 ⟨rfl, hb⟩; refine ⟨_, rfl, ?_⟩; have n0_ := Aside0.mk (below_step (by repeat (first | (with_reducible first | exact HB.out | apply below_alloc | apply pw_below_drewN | apply below_drew1) | exact HB.out)) hb); clear HB; have HB := n0_; clear n0_; (try clear hb); (try clear hb2); (try clear hk); (try clear hi)) | (go_at_call 30; (with_reducible refine (pipe_Fair.calls k _ _ l0 (wrap64 ((wrap64 (a1)) + 1)) true _ ?side1 ?side2 A11.out).mono ?_); (case side1 => repeat (first | exact (Kd.C_below HR0.out HB.out) | (with_reducible refine Kd.C_alloc ?_ _) | (with_reducible refine Kd.C_drewN ?_ _) | (with_reducible refine Kd.C_drew ?_))); (case side2 => exact HC0.out); rintro e w22 ⟨rfl, hb⟩; have n0_ := Aside0.mk (below_step (by repeat (first | (with_reducible first | exact HB.out | apply below_alloc | apply pw_below_drewN | apply below_drew1) | exact HB.out)) hb); clear HB; have HB := n0_; clear n0_; (try clear hb); (try clear hb2); (try clear hk); (try clear hi); have q23 : ((ji13) : Int) ≤ ((l0.length : Int) : Int) := of_decide_eq_true (by first | (with_reducible assumption) | assumption); obtain ⟨i023, hi023, _, hsz23, _⟩ := info_parts info42; have hroom23 : l0.length ≤ c0 := HC0.out; have hC23 : Kd.C k42 _ A0 l0.length l0 := HR0.out; have hcut23 := cut_to (P := Try.prog) 55 42 .i64 Try.underlying55 hi023 A0 l0.length c0 (ji13) (of_decide_eq_true (by first | (with_reducible assumption) | assumption)) q23 hroom23; have hr23 := Kd.C_take (m := ((ji13) : Int).toNat) hC23 (by omega); have hy23 : y106.length = ((ji13) : Int).toNat := (by rw [Ny106.out, List.length_take]; omega); rw [← Ny106.out] at hr23; rw [← hy23] at hcut23; have HR109 := Aside0.mk hr23; have HC109 := Aside0.mk (show y106.length ≤ c0 from by omega); clear hr23 hC23 hroom23 hi023 hsz23; have KY23 := Aside0.mk hy23; clear hy23; replace q23 := eq_true q23) | (go_at_call 30; (with_reducible refine (pipe_Fair.calls k _ _ y106 (wrap64 (a1)) true _ ?side1 ?side2 A16.out).mono ?_); (case side1 => repeat (first | exact (Kd.C_below HR109.out HB.out) | (with_reducible refine Kd.C_alloc ?_ _) | (with_reducible refine Kd.C_drewN ?_ _) | (with_reducible refine Kd.C_drew ?_))); (case side2 => exact HC109.out); rintro e w24 ⟨rfl, hb⟩; have n0_ := Aside0.mk (below_step (by repeat (first | (with_reducible first | exact HB.out | apply below_alloc | apply pw_below_drewN | apply below_drew1) | exact HB.out)) hb); clear HB; have HB := n0_; clear n0_; (try clear hb); (try clear hb2); (try clear hk); (try clear hi); have q25 : ((ji13) : Int) ≤ ((l0.length : Int) : Int) := of_decide_eq_true (by first | (with_reducible assumption) | assumption); obtain ⟨i025, hi025, _, hsz25, _⟩ := info_parts info42; have hroom25 : l0.length ≤ c0 := HC0.out; have hC25 : Kd.C k42 _ A0 l0.length l0 := HR0.out; have q025 : (0 : Int) ≤ ((ji13) : Int) := of_decide_eq_true (by first | (with_reducible assumption) | assumption); have hcut25 := cut_from (P := Try.prog) 55 42 .i64 Try.underlying55 hi025 4 hsz25 A0 l0.length c0 (ji13) q025 q25; have hr25 := Kd.C_drop (m := ((ji13) : Int).toNat) (c := c0) hC25 (by omega) hroom25; obtain ⟨A25, hA25⟩ : ∃ A1, A1 = (if c0 = ((ji13) : Int).toNat then A0 else (A0 : Option Addr).map (·.add (((ji13) : Int).toNat * 4))) := ⟨_, rfl⟩; obtain ⟨c25, hc25⟩ : ∃ c1, c1 = c0 - ((ji13) : Int).toNat := ⟨_, rfl⟩; have hy25 : y111.length = l0.length - ((ji13) : Int).toNat := (by rw [Ny111.out, List.length_drop] <;> omega); rw [show (l0).drop ((ji13) : Int).toNat = y111 from Ny111.out.symm] at hr25; replace hr25 : Kd.C k42 _ A25 y111.length y111 := (by rw [hA25]; exact hr25); rw [← hy25, ← hA25, ← hc25] at hcut25; have HR114 := Aside0.mk hr25; have HC114 := Aside0.mk (show y111.length ≤ c25 from by rw [hy25, hc25]; exact Nat.sub_le_sub_right hroom25 _); clear hr25 hC25 hroom25 hi025 hsz25 hc25; have KY25 := Aside0.mk hy25; have KA25 := Aside0.mk hA25; clear hy25 hA25; replace q25 := eq_true q25) | (go_at_call 30; (with_reducible refine (pipe_Fair.calls k _ _ y111 (wrap64 (a1)) t115 _ ?side1 ?side2 A20.out).mono ?_); (case side1 => repeat (first | exact (Kd.C_below HR114.out HB.out) | (with_reducible refine Kd.C_alloc ?_ _) | (with_reducible refine Kd.C_drewN ?_ _) | (with_reducible refine Kd.C_drew ?_))); (case side2 => exact HC114.out); rintro e w26 ⟨rfl, hb⟩; have n0_ := Aside0.mk (below_step (by repeat (first | (with_reducible first | exact HB.out | apply below_alloc | apply pw_below_drewN | apply below_drew1) | exact HB.out)) hb); clear HB; have HB := n0_; clear n0_; (try clear hb); (try clear hb2); (try clear hk); (try clear hi)))
                  (try subst hji13)
                  go_meet
                  case rel => exact ⟨_, (!t115), (by first | rfl | (simp; done) | (simp [*]; done)), H', ⟨by first | omega | exact Nat.le_refl _⟩, ⟨by repeat (first | (with_reducible first | exact HB.out | apply below_alloc | apply pw_below_drewN | apply below_drew1) | exact HB.out)⟩⟩
                · replace c17 := Bool.eq_false_iff.mpr c17
                  subst c17
                  have H1 : (bobbinlaw20_PipeFairer.j0 k l0 a1 ji13 true) = some r := by rw [if_neg (show ¬ (false = true) by decide)] at H; exact H
                  clear H
                  have H := H1
                  clear H1
                  have H' := Aside0.mk H
                  clear H
                  go_wp2_with (first | ((with_reducible refine gate_callee (f := 30) rfl ?_); refine goesL_ (some 20) rfl rfl Try.func30 (by kernel_rfl) rfl #[.slice A0 l0.length c0, .int .i64 (wrap64 (a1))] rfl (by (try simp only [List.map_toArray, List.map_cons, List.map_nil]); first | done | rfl | (simp only [List.length_drop, List.length_take]; rfl)) ?_; (with_reducible refine (pipe_Fair.calls k _ _ l0 (wrap64 (a1)) true _ ?side1 ?side2 A9.out).mono ?_); (case side1 => repeat (first | exact (Kd.C_below HR0.out HB.out) | (with_reducible refine Kd.C_alloc ?_ _) | (with_reducible refine Kd.C_drewN ?_ _) | (with_reducible refine Kd.C_drew ?_))); (case side2 => exact HC0.out); rintro e w27 ⟨rfl, hb⟩; refine ⟨_, rfl, ?_⟩; have n0_ := Aside0.mk (below_step (by repeat (first | (with_reducible first | exact HB.out | apply below_alloc | apply pw_below_drewN | apply below_drew1) | exact HB.out)) hb); clear HB; have HB := n0_; clear n0_; (try clear hb); (try clear hb2); (try clear hk); (try clear hi)) | (go_at_call 30; (with_reducible refine (pipe_Fair.calls k _ _ l0 (wrap64 ((wrap64 (a1)) + 1)) true _ ?side1 ?side2 A11.out).mono ?_); (case side1 => repeat (first | exact (Kd.C_below HR0.out HB.out) | (with_reducible refine Kd.C_alloc ?_ _) | (with_reducible refine Kd.C_drewN ?_ _) | (with_reducible refine Kd.C_drew ?_))); (case side2 => exact HC0.out); rintro e w28 ⟨rfl, hb⟩; have n0_ := Aside0.mk (below_step (by repeat (first | (with_reducible first | exact HB.out | apply below_alloc | apply pw_below_drewN | apply below_drew1) | exact HB.out)) hb); clear HB; have HB := n0_; clear n0_; (try clear hb); (try clear hb2); (try clear hk); (try clear hi); have q29 : ((ji13) : Int) ≤ ((l0.length : Int) : Int) := of_decide_eq_true (by first | (with_reducible assumption) | assumption); obtain ⟨i029, hi029, _, hsz29, _⟩ := info_parts info42; have hroom29 : l0.length ≤ c0 := HC0.out; have hC29 : Kd.C k42 _ A0 l0.length l0 := HR0.out; have hcut29 := cut_to (P := Try.prog) 55 42 .i64 Try.underlying55 hi029 A0 l0.length c0 (ji13) (of_decide_eq_true (by first | (with_reducible assumption) | assumption)) q29 hroom29; have hr29 := Kd.C_take (m := ((ji13) : Int).toNat) hC29 (by omega); have hy29 : y106.length = ((ji13) : Int).toNat := (by rw [Ny106.out, List.length_take]; omega); rw [← Ny106.out] at hr29; rw [← hy29] at hcut29; have HR109 := Aside0.mk hr29; have HC109 := Aside0.mk (show y106.length ≤ c0 from by omega); clear hr29 hC29 hroom29 hi029 hsz29; have KY29 := Aside0.mk hy29; clear hy29; replace q29 := eq_true q29) | (go_at_call 30; (with_reducible refine (pipe_Fair.calls k _ _ y106 (wrap64 (a1)) false _ ?side1 ?side2 A16.out).mono ?_); (case side1 => repeat (first | exact (Kd.C_below HR109.out HB.out) | (with_reducible refine Kd.C_alloc ?_ _) | (with_reducible refine Kd.C_drewN ?_ _) | (with_reducible refine Kd.C_drew ?_))); (case side2 => exact HC109.out); rintro e w30 ⟨rfl, hb⟩; have n0_ := Aside0.mk (below_step (by repeat (first | (with_reducible first | exact HB.out | apply below_alloc | apply pw_below_drewN | apply below_drew1) | exact HB.out)) hb); clear HB; have HB := n0_; clear n0_; (try clear hb); (try clear hb2); (try clear hk); (try clear hi)))
                  (try subst hji13)
                  go_meet
                  case rel => exact ⟨_, (true), (by first | rfl | (simp; done) | (simp [*]; done)), H', ⟨by first | omega | exact Nat.le_refl _⟩, ⟨by repeat (first | (with_reducible first | exact HB.out | apply below_alloc | apply pw_below_drewN | apply below_drew1) | exact HB.out)⟩⟩
              · rw [if_neg c15] at H
                exact absurd H (by simp)
            · rw [if_neg c14] at H
              exact absurd H (by simp)
          · replace c12 := Bool.eq_false_iff.mpr c12
            subst c12
            have H1 : (bobbinlaw20_PipeFairer.j0 k l0 a1 (Int.tmod (wrap64 (a2)) (wrap64 ((l0.length : Int) + 1))) true) = some r := by rw [if_neg (show ¬ (false = true) by decide)] at H; exact H
            clear H
            have H := H1
            clear H1
            have H' := Aside0.mk H
            clear H
            go_wp2_with (first | ((with_reducible refine gate_callee (f := 30) rfl ?_); refine goesL_ (some 20) rfl rfl Try.func30 (by kernel_rfl) rfl #[.slice A0 l0.length c0, .int .i64 (wrap64 (a1))] rfl (by (try simp only [List.map_toArray, List.map_cons, List.map_nil]); first | done | rfl | (simp only [List.length_drop, List.length_take]; rfl)) ?_; (with_reducible refine (pipe_Fair.calls k _ _ l0 (wrap64 (a1)) true _ ?side1 ?side2 A9.out).mono ?_); (case side1 => repeat (first | exact (Kd.C_below HR0.out HB.out) | (with_reducible refine Kd.C_alloc ?_ _) | (with_reducible refine Kd.C_drewN ?_ _) | (with_reducible refine Kd.C_drew ?_))); (case side2 => exact HC0.out); rintro e w31 ⟨rfl, hb⟩; refine ⟨_, rfl, ?_⟩; have n0_ := Aside0.mk (below_step (by repeat (first | (with_reducible first | exact HB.out | apply below_alloc | apply pw_below_drewN | apply below_drew1) | exact HB.out)) hb); clear HB; have HB := n0_; clear n0_; (try clear hb); (try clear hb2); (try clear hk); (try clear hi)) | (go_at_call 30; (with_reducible refine (pipe_Fair.calls k _ _ l0 (wrap64 ((wrap64 (a1)) + 1)) false _ ?side1 ?side2 A11.out).mono ?_); (case side1 => repeat (first | exact (Kd.C_below HR0.out HB.out) | (with_reducible refine Kd.C_alloc ?_ _) | (with_reducible refine Kd.C_drewN ?_ _) | (with_reducible refine Kd.C_drew ?_))); (case side2 => exact HC0.out); rintro e w32 ⟨rfl, hb⟩; have n0_ := Aside0.mk (below_step (by repeat (first | (with_reducible first | exact HB.out | apply below_alloc | apply pw_below_drewN | apply below_drew1) | exact HB.out)) hb); clear HB; have HB := n0_; clear n0_; (try clear hb); (try clear hb2); (try clear hk); (try clear hi)))
            go_meet
            case rel => exact ⟨_, (true), (by first | rfl | (simp; done) | (simp [*]; done)), H', ⟨by first | omega | exact Nat.le_refl _⟩, ⟨by repeat (first | (with_reducible first | exact HB.out | apply below_alloc | apply pw_below_drewN | apply below_drew1) | exact HB.out)⟩⟩
        · replace c10 := Bool.eq_false_iff.mpr c10
          subst c10
          have H1 : (bobbinlaw20_PipeFairer.j0 k l0 a1 (Int.tmod (wrap64 (a2)) (wrap64 ((l0.length : Int) + 1))) false) = some r := by rw [if_neg (show ¬ (false = true) by decide)] at H; exact H
          clear H
          have H := H1
          clear H1
          have H' := Aside0.mk H
          clear H
          go_wp2_with (first | ((with_reducible refine gate_callee (f := 30) rfl ?_); refine goesL_ (some 20) rfl rfl Try.func30 (by kernel_rfl) rfl #[.slice A0 l0.length c0, .int .i64 (wrap64 (a1))] rfl (by (try simp only [List.map_toArray, List.map_cons, List.map_nil]); first | done | rfl | (simp only [List.length_drop, List.length_take]; rfl)) ?_; (with_reducible refine (pipe_Fair.calls k _ _ l0 (wrap64 (a1)) false _ ?side1 ?side2 A9.out).mono ?_); (case side1 => repeat (first | exact (Kd.C_below HR0.out HB.out) | (with_reducible refine Kd.C_alloc ?_ _) | (with_reducible refine Kd.C_drewN ?_ _) | (with_reducible refine Kd.C_drew ?_))); (case side2 => exact HC0.out); rintro e w33 ⟨rfl, hb⟩; refine ⟨_, rfl, ?_⟩; have n0_ := Aside0.mk (below_step (by repeat (first | (with_reducible first | exact HB.out | apply below_alloc | apply pw_below_drewN | apply below_drew1) | exact HB.out)) hb); clear HB; have HB := n0_; clear n0_; (try clear hb); (try clear hb2); (try clear hk); (try clear hi)))
          go_meet
          case rel => exact ⟨_, (false), (by first | rfl | (simp; done) | (simp [*]; done)), H', ⟨by first | omega | exact Nat.le_refl _⟩, ⟨by repeat (first | (with_reducible first | exact HB.out | apply below_alloc | apply pw_below_drewN | apply below_drew1) | exact HB.out)⟩⟩
      case rest =>
        clear HC7
        try clear c1
        try clear c2
        try clear p2
        try clear q2
        try clear c3
        try clear c5
        try clear c6
        try clear c6b0
        try clear c6b1
        try clear p6
        try clear c10
        try clear c11
        try clear c12
        try clear c14
        try clear c14b0
        try clear c14b1
        try clear c15
        try clear c15b0
        try clear c15b1
        try clear c17
        try clear c18
        try clear c18b0
        try clear c19
        try clear c19b0
        try clear q23
        try clear c25
        try clear q25
        try clear q29
        try clear c30
        try clear q025
        try clear q23
        try clear q25
        try clear q29
        obtain ⟨kq, x46_6, rfl, HA, HJ6, HB⟩ := hcut
        cases kq with
        | zero => exact absurd HA.out (by simp [bobbinlaw20_PipeFairer.j0])
        | succ kj6 =>
          have H := HA.out
          clear HA
          simp only [bobbinlaw20_PipeFairer.j0] at H
          by_cases c34 : x46_6 = true
          · subst c34
            have H1 : (some false) = some r := by rw [if_pos rfl] at H; exact H
            clear H
            have H := H1
            clear H1
            obtain rfl := Option.some.inj H
            go_wp2
            go_ret
            exact ⟨by first | rfl | (simp [errW_none, errW_some] <;> rfl) | (simp [*, errW_none, errW_some] <;> rfl), by repeat (first | (with_reducible first | exact HB.out | apply below_alloc | apply pw_below_drewN | apply below_drew1) | exact HB.out)⟩
          · replace c34 := Bool.eq_false_iff.mpr c34
            subst c34
            have H1 : (if 0 ≤ (Int.tmod (wrap64 (a2)) (wrap64 ((l0.length : Int) + 1))) then (if (Int.tmod (wrap64 (a2)) (wrap64 ((l0.length : Int) + 1))) ≤ (l0.length : Int) then ((some (l0.take ((Int.tmod (wrap64 (a2)) (wrap64 ((l0.length : Int) + 1))) : Int).toNat : List (S42))).bind fun y116 => (if ([] : List (S42)).length + y116.length < 4398046511104 then ((some (([] : List (S42)) ++ y116 : List (S42))).bind fun y120 => (if y120.length < 4398046511104 then ((some (y120 ++ [(⟨1, 1, 0, true⟩ : S42)] : List (S42))).bind fun y123 => ((some (l0.drop ((Int.tmod (wrap64 (a2)) (wrap64 ((l0.length : Int) + 1))) : Int).toNat : List (S42))).bind fun y126 => (if y123.length + y126.length < 4398046511104 then ((pipe_Fair.f kj6 (y123 ++ y126) (wrap64 (1 + (wrap64 (a1))))).bind fun t133 => (if t133 = true then (some false) else ((pipe_Fair.f kj6 ([] : List (S42)) 1).bind fun t134 => (some t134)))) else (none)))) else (none))) else (none))) else (none)) else (none)) = some r := by rw [if_neg (show ¬ (false = true) by decide)] at H; exact H
            clear H
            have H := H1
            clear H1
            obtain ⟨ji35, hji35⟩ : ∃ j_ : Int, (Int.tmod (wrap64 (a2)) (wrap64 ((l0.length : Int) + 1))) = j_ := ⟨_, rfl⟩
            replace H : (if 0 ≤ (ji35) then (if (ji35) ≤ (l0.length : Int) then ((some (l0.take ((ji35) : Int).toNat : List (S42))).bind fun y116 => (if ([] : List (S42)).length + y116.length < 4398046511104 then ((some (([] : List (S42)) ++ y116 : List (S42))).bind fun y120 => (if y120.length < 4398046511104 then ((some (y120 ++ [(⟨1, 1, 0, true⟩ : S42)] : List (S42))).bind fun y123 => ((some (l0.drop ((ji35) : Int).toNat : List (S42))).bind fun y126 => (if y123.length + y126.length < 4398046511104 then ((pipe_Fair.f kj6 (y123 ++ y126) (wrap64 (1 + (wrap64 (a1))))).bind fun t133 => (if t133 = true then (some false) else ((pipe_Fair.f kj6 ([] : List (S42)) 1).bind fun t134 => (some t134)))) else (none)))) else (none))) else (none))) else (none)) else (none)) = some r := by first | (rw [hji35] at H; exact H) | (simp only [hji35] at H ⊢; exact H)
            by_cases c36 : 0 ≤ (ji35)
            · rw [if_pos c36] at H
              have c36b0 := eq_true c36
              have c36b1 : decide (0 ≤ (ji35)) = true := decide_eq_true c36
              clear c36
              by_cases c37 : (ji35) ≤ (l0.length : Int)
              · rw [if_pos c37] at H
                have c37b0 := eq_true c37
                have c37b1 : decide ((ji35) ≤ (l0.length : Int)) = true := decide_eq_true c37
                clear c37
                obtain ⟨y116, hy116⟩ : ∃ y_ : List (S42), y_ = (l0.take ((ji35) : Int).toNat) := ⟨_, rfl⟩
                replace H : (if ([] : List (S42)).length + y116.length < 4398046511104 then ((some (([] : List (S42)) ++ y116 : List (S42))).bind fun y120 => (if y120.length < 4398046511104 then ((some (y120 ++ [(⟨1, 1, 0, true⟩ : S42)] : List (S42))).bind fun y123 => ((some (l0.drop ((ji35) : Int).toNat : List (S42))).bind fun y126 => (if y123.length + y126.length < 4398046511104 then ((pipe_Fair.f kj6 (y123 ++ y126) (wrap64 (1 + (wrap64 (a1))))).bind fun t133 => (if t133 = true then (some false) else ((pipe_Fair.f kj6 ([] : List (S42)) 1).bind fun t134 => (some t134)))) else (none)))) else (none))) else (none)) = some r := by first | (rw [hy116]; with_reducible exact H) | (have H2_ := (Option.bind_some _ _).symm.trans H; rw [hy116]; with_reducible exact H2_) | (have H2_ := (Option.bind_some _ _).symm.trans H; with_reducible exact H2_) | with_reducible exact H | (rw [hy116]; exact H) | exact H
                have Ny116 := Aside0.mk hy116
                clear hy116
                by_cases c38 : ([] : List (S42)).length + y116.length < 4398046511104
                · rw [if_pos c38] at H
                  have LMc38 := Aside0.mk c38
                  clear c38
                  obtain ⟨y120, hy120⟩ : ∃ y_ : List (S42), y_ = (([] : List (S42)) ++ y116) := ⟨_, rfl⟩
                  replace H : (if y120.length < 4398046511104 then ((some (y120 ++ [(⟨1, 1, 0, true⟩ : S42)] : List (S42))).bind fun y123 => ((some (l0.drop ((ji35) : Int).toNat : List (S42))).bind fun y126 => (if y123.length + y126.length < 4398046511104 then ((pipe_Fair.f kj6 (y123 ++ y126) (wrap64 (1 + (wrap64 (a1))))).bind fun t133 => (if t133 = true then (some false) else ((pipe_Fair.f kj6 ([] : List (S42)) 1).bind fun t134 => (some t134)))) else (none)))) else (none)) = some r := by first | (rw [hy120]; with_reducible exact H) | (have H2_ := (Option.bind_some _ _).symm.trans H; rw [hy120]; with_reducible exact H2_) | (have H2_ := (Option.bind_some _ _).symm.trans H; with_reducible exact H2_) | with_reducible exact H | (rw [hy120]; exact H) | exact H
                  have Ny120 := Aside0.mk hy120
                  clear hy120
                  by_cases c39 : y120.length < 4398046511104
                  · rw [if_pos c39] at H
                    have LMc39 := Aside0.mk c39
                    clear c39
                    obtain ⟨y123, hy123⟩ : ∃ y_ : List (S42), y_ = (y120 ++ [(⟨1, 1, 0, true⟩ : S42)]) := ⟨_, rfl⟩
                    replace H : ((some (l0.drop ((ji35) : Int).toNat : List (S42))).bind fun y126 => (if y123.length + y126.length < 4398046511104 then ((pipe_Fair.f kj6 (y123 ++ y126) (wrap64 (1 + (wrap64 (a1))))).bind fun t133 => (if t133 = true then (some false) else ((pipe_Fair.f kj6 ([] : List (S42)) 1).bind fun t134 => (some t134)))) else (none))) = some r := by first | (rw [hy123]; with_reducible exact H) | (have H2_ := (Option.bind_some _ _).symm.trans H; rw [hy123]; with_reducible exact H2_) | (have H2_ := (Option.bind_some _ _).symm.trans H; with_reducible exact H2_) | with_reducible exact H | (rw [hy123]; exact H) | exact H
                    have Ny123 := Aside0.mk hy123
                    clear hy123
                    have c40b0 := eq_true (of_decide_eq_true (by first | (with_reducible assumption) | assumption) : 0 ≤ (ji35))
                    have c41b0 := eq_true (of_decide_eq_true (by first | (with_reducible assumption) | assumption) : (ji35) ≤ (l0.length : Int))
                    obtain ⟨y126, hy126⟩ : ∃ y_ : List (S42), y_ = (l0.drop ((ji35) : Int).toNat) := ⟨_, rfl⟩
                    replace H : (if y123.length + y126.length < 4398046511104 then ((pipe_Fair.f kj6 (y123 ++ y126) (wrap64 (1 + (wrap64 (a1))))).bind fun t133 => (if t133 = true then (some false) else ((pipe_Fair.f kj6 ([] : List (S42)) 1).bind fun t134 => (some t134)))) else (none)) = some r := by first | (rw [hy126]; with_reducible exact H) | (have H2_ := (Option.bind_some _ _).symm.trans H; rw [hy126]; with_reducible exact H2_) | (have H2_ := (Option.bind_some _ _).symm.trans H; with_reducible exact H2_) | with_reducible exact H | (rw [hy126]; exact H) | exact H
                    have Ny126 := Aside0.mk hy126
                    clear hy126
                    by_cases c42 : y123.length + y126.length < 4398046511104
                    · rw [if_pos c42] at H
                      have LMc42 := Aside0.mk c42
                      clear c42
                      obtain ⟨y130, hy130⟩ : ∃ y_ : List (S42), y_ = (y123 ++ y126) := ⟨_, rfl⟩
                      replace H : ((pipe_Fair.f kj6 y130 (wrap64 (1 + (wrap64 (a1))))).bind fun t133 => (if t133 = true then (some false) else ((pipe_Fair.f kj6 ([] : List (S42)) 1).bind fun t134 => (some t134)))) = some r := by first | (rw [hy130]; with_reducible exact H) | (have H2_ := (Option.bind_some _ _).symm.trans H; rw [hy130]; with_reducible exact H2_) | (have H2_ := (Option.bind_some _ _).symm.trans H; with_reducible exact H2_) | with_reducible exact H | (rw [hy130]; exact H) | exact H
                      have Ny130 := Aside0.mk hy130
                      clear hy130
                      replace H := Option.bind_eq_some_iff.mp H
                      obtain ⟨t133, A430, H⟩ := H
                      replace H : (if t133 = true then (some false) else ((pipe_Fair.f kj6 ([] : List (S42)) 1).bind fun t134 => (some t134))) = some r := H
                      have A43 := Aside0.mk A430
                      clear A430
                      by_cases c44 : t133 = true
                      · subst c44
                        have H1 : (some false) = some r := by rw [if_pos rfl] at H; exact H
                        clear H
                        have H := H1
                        clear H1
                        obtain rfl := Option.some.inj H
                        have q45 : ((ji35) : Int) ≤ ((l0.length : Int) : Int) := of_decide_eq_true (by first | (with_reducible assumption) | assumption)
                        obtain ⟨i045, hi045, _, hsz45, _⟩ := info_parts info42
                        have hroom45 : l0.length ≤ c0 := HC0.out
                        have hC45 : Kd.C k42 _ A0 l0.length l0 := HR0.out
                        have hcut45 := cut_to (P := Try.prog) 55 42 .i64 Try.underlying55 hi045 A0 l0.length c0 (ji35) (of_decide_eq_true (by first | (with_reducible assumption) | assumption)) q45 hroom45
                        have hr45 := Kd.C_take (m := ((ji35) : Int).toNat) hC45 (by omega)
                        have hy45 : y116.length = ((ji35) : Int).toNat := (by rw [Ny116.out, List.length_take]; omega)
                        rw [← Ny116.out] at hr45
                        rw [← hy45] at hcut45
                        have HR119 := Aside0.mk hr45
                        have HC119 := Aside0.mk (show y116.length ≤ c0 from by omega)
                        clear hr45 hC45 hroom45 hi045 hsz45
                        have KY45 := Aside0.mk hy45
                        clear hy45
                        replace q45 := eq_true q45
                        go_wp2_with (first | ((with_reducible refine gate_builtin (b := .append) (xs := #[.tmp 47, .tmp 50]) rfl ?_); at_builtin; refine Kd.R_append_rows k42 (w0 := w) w.heap.size rfl (.tmp 47) (.tmp 50) 55 42 (.agg #[(.int .u8 0), (.int .i64 0), (.int .i64 0), (.bool false)]) 32 rfl Try.underlying55 info42 rfl (by decide) (by omega) (.slice none 0 0) ([] : List (S42)) y116 _ _ _ (fun _ => True) (fun _ => False) rfl rfl ?aO ?aR (fun _ _ h => h) (fun _ h => h.elim) ?aF ?aB ?aS ?aL ?_; (case aR => repeat (first | exact (Kd.C_below HR119.out HB.out) | (with_reducible refine Kd.C_alloc ?_ _) | (with_reducible refine Kd.C_drewN ?_ _) | (with_reducible refine Kd.C_drew ?_))); (case aB => exact (by repeat (first | (with_reducible first | exact HB.out | apply below_alloc | apply pw_below_drewN | apply below_drew1) | exact HB.out))); (case aF => exact (fun _ _ => trivial)); (case aO => exact ((Kd.R_nil _ _ _ _ (fun _ => True)))); (case aS => exact (below_size (by repeat (first | (with_reducible first | exact HB.out | apply below_alloc | apply pw_below_drewN | apply below_drew1) | exact HB.out)))); (case aL => have := LMc38.out; omega); intro v121 w46 ho hb hg hat; rw [← Ny120.out] at ho; have n0_ := Aside0.mk (hb); have n1_ := Aside0.mk (ho); clear HB; have HB := n0_; have HO122 := n1_; clear n0_ n1_; clear ho hb hg hat) | ((with_reducible refine gate_builtin (b := .append) (xs := #[.tmp 52, .tmp 54]) rfl ?_); at_builtin; refine Kd.R_append k42 (w0 := w) w.heap.size rfl (.tmp 52) (.tmp 54) 55 42 (.agg #[(.int .u8 0), (.int .i64 0), (.int .i64 0), (.bool false)]) 32 rfl Try.underlying55 info42 rfl (by decide) (by omega) v121 y120 (⟨1, 1, 0, true⟩ : S42) [.int .u8 1, .int .i64 1, .int .i64 0, .bool true] (fun _ => True) (fun _ => False) rfl rfl ?aP (fun _ hk => hk.elim) ?aF ?aO ?aB ?aS ?aL ?_; (case aP => exact k42_mkM _ _ _ (⟨1, 1, 0, true⟩ : S42)); (case aB => exact (by repeat (first | (with_reducible first | exact HB.out | apply below_alloc | apply pw_below_drewN | apply below_drew1) | exact HB.out))); (case aF => exact (fun _ _ => trivial)); (case aO => exact (by (with_reducible repeat (first | apply Kd.R_alloc | apply Kd.R_drewN | apply Kd.R_drew)); exact HO122.out)); (case aS => exact (below_size (by repeat (first | (with_reducible first | exact HB.out | apply below_alloc | apply pw_below_drewN | apply below_drew1) | exact HB.out)))); (case aL => have := LMc39.out; omega); intro v124 w47 ho hb hg hat; rw [← Ny123.out] at ho; have n0_ := Aside0.mk (hb); have n1_ := Aside0.mk (ho); clear HB; clear HO122; have HB := n0_; have HO125 := n1_; clear n0_ n1_; clear ho hb hg hat; have q48 : ((ji35) : Int) ≤ ((l0.length : Int) : Int) := of_decide_eq_true (by first | (with_reducible assumption) | assumption); obtain ⟨i048, hi048, _, hsz48, _⟩ := info_parts info42; have hroom48 : l0.length ≤ c0 := HC0.out; have hC48 : Kd.C k42 _ A0 l0.length l0 := HR0.out; have q048 : (0 : Int) ≤ ((ji35) : Int) := of_decide_eq_true (by first | (with_reducible assumption) | assumption); have hcut48 := cut_from (P := Try.prog) 55 42 .i64 Try.underlying55 hi048 4 hsz48 A0 l0.length c0 (ji35) q048 q48; have hr48 := Kd.C_drop (m := ((ji35) : Int).toNat) (c := c0) hC48 (by omega) hroom48; obtain ⟨A48, hA48⟩ : ∃ A1, A1 = (if c0 = ((ji35) : Int).toNat then A0 else (A0 : Option Addr).map (·.add (((ji35) : Int).toNat * 4))) := ⟨_, rfl⟩; obtain ⟨c48, hc48⟩ : ∃ c1, c1 = c0 - ((ji35) : Int).toNat := ⟨_, rfl⟩; have hy48 : y126.length = l0.length - ((ji35) : Int).toNat := (by rw [Ny126.out, List.length_drop] <;> omega); rw [show (l0).drop ((ji35) : Int).toNat = y126 from Ny126.out.symm] at hr48; replace hr48 : Kd.C k42 _ A48 y126.length y126 := (by rw [hA48]; exact hr48); rw [← hy48, ← hA48, ← hc48] at hcut48; have HR129 := Aside0.mk hr48; have HC129 := Aside0.mk (show y126.length ≤ c48 from by rw [hy48, hc48]; exact Nat.sub_le_sub_right hroom48 _); clear hr48 hC48 hroom48 hi048 hsz48 hc48; have KY48 := Aside0.mk hy48; have KA48 := Aside0.mk hA48; clear hy48 hA48; replace q48 := eq_true q48) | ((with_reducible refine gate_builtin (b := .append) (xs := #[.tmp 56, .tmp 59]) rfl ?_); at_builtin; refine Kd.R_append_rows k42 (w0 := w) w.heap.size rfl (.tmp 56) (.tmp 59) 55 42 (.agg #[(.int .u8 0), (.int .i64 0), (.int .i64 0), (.bool false)]) 32 rfl Try.underlying55 info42 rfl (by decide) (by omega) v124 y123 y126 _ _ _ (fun _ => True) (fun _ => False) rfl rfl ?aO ?aR (fun _ _ h => h) (fun _ h => h.elim) ?aF ?aB ?aS ?aL ?_; (case aR => repeat (first | exact (Kd.C_below HR129.out HB.out) | (with_reducible refine Kd.C_alloc ?_ _) | (with_reducible refine Kd.C_drewN ?_ _) | (with_reducible refine Kd.C_drew ?_))); (case aB => exact (by repeat (first | (with_reducible first | exact HB.out | apply below_alloc | apply pw_below_drewN | apply below_drew1) | exact HB.out))); (case aF => exact (fun _ _ => trivial)); (case aO => exact (by (with_reducible repeat (first | apply Kd.R_alloc | apply Kd.R_drewN | apply Kd.R_drew)); exact HO125.out)); (case aS => exact (below_size (by repeat (first | (with_reducible first | exact HB.out | apply below_alloc | apply pw_below_drewN | apply below_drew1) | exact HB.out)))); (case aL => have := LMc42.out; omega); intro v131 w49 ho hb hg hat; rw [← Ny130.out] at ho; have n0_ := Aside0.mk (hb); have n1_ := Aside0.mk (ho); clear HB; clear HO125; have HB := n0_; have HO132 := n1_; clear n0_ n1_; clear ho hb hg hat; obtain ⟨Ao50, co50, eo50⟩ := Kd.R_slice HO132.out; subst eo50) | ((with_reducible refine gate_callee (f := 30) rfl ?_); refine goesL_ (some 65) rfl rfl Try.func30 (by kernel_rfl) rfl #[.slice Ao50 y130.length co50, .int .i64 (wrap64 (1 + (wrap64 (a1))))] rfl (by (try simp only [List.map_toArray, List.map_cons, List.map_nil]); first | done | rfl | (simp only [List.length_drop, List.length_take]; rfl)) ?_; (with_reducible refine (pipe_Fair.calls kj6 _ _ y130 (wrap64 (1 + (wrap64 (a1)))) true _ ?side1 ?side2 A43.out).mono ?_); (case side1 => repeat (first | exact (Kd.R_reads' HO132.out).2.2 | (with_reducible refine Kd.C_alloc ?_ _) | (with_reducible refine Kd.C_drewN ?_ _) | (with_reducible refine Kd.C_drew ?_))); (case side2 => exact (Kd.R_reads' HO132.out).2.1); rintro e w51 ⟨rfl, hb⟩; refine ⟨_, rfl, ?_⟩; have n0_ := Aside0.mk (Kd.R_below (by (with_reducible repeat (first | apply Kd.R_alloc | apply Kd.R_drewN | apply Kd.R_drew)); exact HO132.out) hb); have n1_ := Aside0.mk (below_step (by repeat (first | (with_reducible first | exact HB.out | apply below_alloc | apply pw_below_drewN | apply below_drew1) | exact HB.out)) hb); clear HO132; clear HB; have HO132 := n0_; have HB := n1_; clear n0_ n1_; (try clear hb); (try clear hb2); (try clear hk); (try clear hi)))
                        go_ret
                        exact ⟨by first | rfl | (simp [errW_none, errW_some] <;> rfl) | (simp only [← hji35]; first | rfl | (simp [errW_none, errW_some] <;> rfl)) | (simp [*, errW_none, errW_some] <;> rfl), by repeat (first | (with_reducible first | exact HB.out | apply below_alloc | apply pw_below_drewN | apply below_drew1) | exact HB.out)⟩
                      · replace c44 := Bool.eq_false_iff.mpr c44
                        subst c44
                        have H1 : ((pipe_Fair.f kj6 ([] : List (S42)) 1).bind fun t134 => (some t134)) = some r := by rw [if_neg (show ¬ (false = true) by decide)] at H; exact H
                        clear H
                        have H := H1
                        clear H1
                        replace H := Option.bind_eq_some_iff.mp H
                        obtain ⟨t134, A520, H⟩ := H
                        replace H : (some t134) = some r := H
                        have A52 := Aside0.mk A520
                        clear A520
                        obtain rfl := Option.some.inj H
                        have q53 : ((ji35) : Int) ≤ ((l0.length : Int) : Int) := of_decide_eq_true (by first | (with_reducible assumption) | assumption)
                        obtain ⟨i053, hi053, _, hsz53, _⟩ := info_parts info42
                        have hroom53 : l0.length ≤ c0 := HC0.out
                        have hC53 : Kd.C k42 _ A0 l0.length l0 := HR0.out
                        have hcut53 := cut_to (P := Try.prog) 55 42 .i64 Try.underlying55 hi053 A0 l0.length c0 (ji35) (of_decide_eq_true (by first | (with_reducible assumption) | assumption)) q53 hroom53
                        have hr53 := Kd.C_take (m := ((ji35) : Int).toNat) hC53 (by omega)
                        have hy53 : y116.length = ((ji35) : Int).toNat := (by rw [Ny116.out, List.length_take]; omega)
                        rw [← Ny116.out] at hr53
                        rw [← hy53] at hcut53
                        have HR119 := Aside0.mk hr53
                        have HC119 := Aside0.mk (show y116.length ≤ c0 from by omega)
                        clear hr53 hC53 hroom53 hi053 hsz53
                        have KY53 := Aside0.mk hy53
                        clear hy53
                        replace q53 := eq_true q53
                        go_wp2_with (first | ((with_reducible refine gate_builtin (b := .append) (xs := #[.tmp 47, .tmp 50]) rfl ?_); at_builtin; refine Kd.R_append_rows k42 (w0 := w) w.heap.size rfl (.tmp 47) (.tmp 50) 55 42 (.agg #[(.int .u8 0), (.int .i64 0), (.int .i64 0), (.bool false)]) 32 rfl Try.underlying55 info42 rfl (by decide) (by omega) (.slice none 0 0) ([] : List (S42)) y116 _ _ _ (fun _ => True) (fun _ => False) rfl rfl ?aO ?aR (fun _ _ h => h) (fun _ h => h.elim) ?aF ?aB ?aS ?aL ?_; (case aR => repeat (first | exact (Kd.C_below HR119.out HB.out) | (with_reducible refine Kd.C_alloc ?_ _) | (with_reducible refine Kd.C_drewN ?_ _) | (with_reducible refine Kd.C_drew ?_))); (case aB => exact (by repeat (first | (with_reducible first | exact HB.out | apply below_alloc | apply pw_below_drewN | apply below_drew1) | exact HB.out))); (case aF => exact (fun _ _ => trivial)); (case aO => exact ((Kd.R_nil _ _ _ _ (fun _ => True)))); (case aS => exact (below_size (by repeat (first | (with_reducible first | exact HB.out | apply below_alloc | apply pw_below_drewN | apply below_drew1) | exact HB.out)))); (case aL => have := LMc38.out; omega); intro v121 w54 ho hb hg hat; rw [← Ny120.out] at ho; have n0_ := Aside0.mk (hb); have n1_ := Aside0.mk (ho); clear HB; have HB := n0_; have HO122 := n1_; clear n0_ n1_; clear ho hb hg hat) | ((with_reducible refine gate_builtin (b := .append) (xs := #[.tmp 52, .tmp 54]) rfl ?_); at_builtin; refine Kd.R_append k42 (w0 := w) w.heap.size rfl (.tmp 52) (.tmp 54) 55 42 (.agg #[(.int .u8 0), (.int .i64 0), (.int .i64 0), (.bool false)]) 32 rfl Try.underlying55 info42 rfl (by decide) (by omega) v121 y120 (⟨1, 1, 0, true⟩ : S42) [.int .u8 1, .int .i64 1, .int .i64 0, .bool true] (fun _ => True) (fun _ => False) rfl rfl ?aP (fun _ hk => hk.elim) ?aF ?aO ?aB ?aS ?aL ?_; (case aP => exact k42_mkM _ _ _ (⟨1, 1, 0, true⟩ : S42)); (case aB => exact (by repeat (first | (with_reducible first | exact HB.out | apply below_alloc | apply pw_below_drewN | apply below_drew1) | exact HB.out))); (case aF => exact (fun _ _ => trivial)); (case aO => exact (by (with_reducible repeat (first | apply Kd.R_alloc | apply Kd.R_drewN | apply Kd.R_drew)); exact HO122.out)); (case aS => exact (below_size (by repeat (first | (with_reducible first | exact HB.out | apply below_alloc | apply pw_below_drewN | apply below_drew1) | exact HB.out)))); (case aL => have := LMc39.out; omega); intro v124 w55 ho hb hg hat; rw [← Ny123.out] at ho; have n0_ := Aside0.mk (hb); have n1_ := Aside0.mk (ho); clear HB; clear HO122; have HB := n0_; have HO125 := n1_; clear n0_ n1_; clear ho hb hg hat; have q56 : ((ji35) : Int) ≤ ((l0.length : Int) : Int) := of_decide_eq_true (by first | (with_reducible assumption) | assumption); obtain ⟨i056, hi056, _, hsz56, _⟩ := info_parts info42; have hroom56 : l0.length ≤ c0 := HC0.out; have hC56 : Kd.C k42 _ A0 l0.length l0 := HR0.out; have q056 : (0 : Int) ≤ ((ji35) : Int) := of_decide_eq_true (by first | (with_reducible assumption) | assumption); have hcut56 := cut_from (P := Try.prog) 55 42 .i64 Try.underlying55 hi056 4 hsz56 A0 l0.length c0 (ji35) q056 q56; have hr56 := Kd.C_drop (m := ((ji35) : Int).toNat) (c := c0) hC56 (by omega) hroom56; obtain ⟨A56, hA56⟩ : ∃ A1, A1 = (if c0 = ((ji35) : Int).toNat then A0 else (A0 : Option Addr).map (·.add (((ji35) : Int).toNat * 4))) := ⟨_, rfl⟩; obtain ⟨c56, hc56⟩ : ∃ c1, c1 = c0 - ((ji35) : Int).toNat := ⟨_, rfl⟩; have hy56 : y126.length = l0.length - ((ji35) : Int).toNat := (by rw [Ny126.out, List.length_drop] <;> omega); rw [show (l0).drop ((ji35) : Int).toNat = y126 from Ny126.out.symm] at hr56; replace hr56 : Kd.C k42 _ A56 y126.length y126 := (by rw [hA56]; exact hr56); rw [← hy56, ← hA56, ← hc56] at hcut56; have HR129 := Aside0.mk hr56; have HC129 := Aside0.mk (show y126.length ≤ c56 from by rw [hy56, hc56]; exact Nat.sub_le_sub_right hroom56 _); clear hr56 hC56 hroom56 hi056 hsz56 hc56; have KY56 := Aside0.mk hy56; have KA56 := Aside0.mk hA56; clear hy56 hA56; replace q56 := eq_true q56) | ((with_reducible refine gate_builtin (b := .append) (xs := #[.tmp 56, .tmp 59]) rfl ?_); at_builtin; refine Kd.R_append_rows k42 (w0 := w) w.heap.size rfl (.tmp 56) (.tmp 59) 55 42 (.agg #[(.int .u8 0), (.int .i64 0), (.int .i64 0), (.bool false)]) 32 rfl Try.underlying55 info42 rfl (by decide) (by omega) v124 y123 y126 _ _ _ (fun _ => True) (fun _ => False) rfl rfl ?aO ?aR (fun _ _ h => h) (fun _ h => h.elim) ?aF ?aB ?aS ?aL ?_; (case aR => repeat (first | exact (Kd.C_below HR129.out HB.out) | (with_reducible refine Kd.C_alloc ?_ _) | (with_reducible refine Kd.C_drewN ?_ _) | (with_reducible refine Kd.C_drew ?_))); (case aB => exact (by repeat (first | (with_reducible first | exact HB.out | apply below_alloc | apply pw_below_drewN | apply below_drew1) | exact HB.out))); (case aF => exact (fun _ _ => trivial)); (case aO => exact (by (with_reducible repeat (first | apply Kd.R_alloc | apply Kd.R_drewN | apply Kd.R_drew)); exact HO125.out)); (case aS => exact (below_size (by repeat (first | (with_reducible first | exact HB.out | apply below_alloc | apply pw_below_drewN | apply below_drew1) | exact HB.out)))); (case aL => have := LMc42.out; omega); intro v131 w57 ho hb hg hat; rw [← Ny130.out] at ho; have n0_ := Aside0.mk (hb); have n1_ := Aside0.mk (ho); clear HB; clear HO125; have HB := n0_; have HO132 := n1_; clear n0_ n1_; clear ho hb hg hat; obtain ⟨Ao58, co58, eo58⟩ := Kd.R_slice HO132.out; subst eo58) | ((with_reducible refine gate_callee (f := 30) rfl ?_); refine goesL_ (some 65) rfl rfl Try.func30 (by kernel_rfl) rfl #[.slice Ao58 y130.length co58, .int .i64 (wrap64 (1 + (wrap64 (a1))))] rfl (by (try simp only [List.map_toArray, List.map_cons, List.map_nil]); first | done | rfl | (simp only [List.length_drop, List.length_take]; rfl)) ?_; (with_reducible refine (pipe_Fair.calls kj6 _ _ y130 (wrap64 (1 + (wrap64 (a1)))) false _ ?side1 ?side2 A43.out).mono ?_); (case side1 => repeat (first | exact (Kd.R_reads' HO132.out).2.2 | (with_reducible refine Kd.C_alloc ?_ _) | (with_reducible refine Kd.C_drewN ?_ _) | (with_reducible refine Kd.C_drew ?_))); (case side2 => exact (Kd.R_reads' HO132.out).2.1); rintro e w59 ⟨rfl, hb⟩; refine ⟨_, rfl, ?_⟩; have n0_ := Aside0.mk (Kd.R_below (by (with_reducible repeat (first | apply Kd.R_alloc | apply Kd.R_drewN | apply Kd.R_drew)); exact HO132.out) hb); have n1_ := Aside0.mk (below_step (by repeat (first | (with_reducible first | exact HB.out | apply below_alloc | apply pw_below_drewN | apply below_drew1) | exact HB.out)) hb); clear HO132; clear HB; have HO132 := n0_; have HB := n1_; clear n0_ n1_; (try clear hb); (try clear hb2); (try clear hk); (try clear hi)) | (go_at_call 30; (refine (pipe_Fair.calls kj6 _ _ ([] : List (S42)) 1 t134 _ ?side1 ?side2 A52.out).mono ?_); (case side1 => exact Kd.C_nil _ _); (case side2 => exact Nat.le_refl _); rintro e w60 ⟨rfl, hb⟩; have n0_ := Aside0.mk (Kd.R_below (by (with_reducible repeat (first | apply Kd.R_alloc | apply Kd.R_drewN | apply Kd.R_drew)); exact HO132.out) hb); have n1_ := Aside0.mk (below_step (by repeat (first | (with_reducible first | exact HB.out | apply below_alloc | apply pw_below_drewN | apply below_drew1) | exact HB.out)) hb); clear HO132; clear HB; have HO132 := n0_; have HB := n1_; clear n0_ n1_; (try clear hb); (try clear hb2); (try clear hk); (try clear hi)))
                        go_ret
                        exact ⟨by first | rfl | (simp [errW_none, errW_some] <;> rfl) | (simp only [← hji35]; first | rfl | (simp [errW_none, errW_some] <;> rfl)) | (simp [*, errW_none, errW_some] <;> rfl), by repeat (first | (with_reducible first | exact HB.out | apply below_alloc | apply pw_below_drewN | apply below_drew1) | exact HB.out)⟩
                    · rw [if_neg c42] at H
                      exact absurd H (by simp)
                  · rw [if_neg c39] at H
                    exact absurd H (by simp)
                · rw [if_neg c38] at H
                  exact absurd H (by simp)
              · rw [if_neg c37] at H
                exact absurd H (by simp)
            · rw [if_neg c36] at H
              exact absurd H (by simp)
  · replace c5 := Bool.eq_false_iff.mpr c5
    subst c5
    have H1 : (some false) = some r := by rw [if_neg (show ¬ (false = true) by decide)] at H; exact H
    clear H
    have H := H1
    clear H1
    obtain rfl := Option.some.inj H
    go_enter Try.func11, Try.ntmps11
    go_wp2_with (first | ((with_reducible refine gate_callee (f := 14) rfl ?_); refine goesL_ (some 9) rfl rfl Try.func14 (by kernel_rfl) rfl #[] rfl (by (try simp only [List.map_toArray, List.map_cons, List.map_nil]); first | done | rfl | (simp only [List.length_drop, List.length_take]; rfl)) ?_; (with_reducible refine (bobbinlaw20_awake.calls  false _ A4.out).mono ?_); rintro e w61 ⟨rfl, hb⟩; refine ⟨_, rfl, ?_⟩; have n0_ := Aside0.mk (below_step (by repeat (first | (with_reducible first | exact HB.out | apply below_alloc | apply pw_below_drewN | apply below_drew1) | exact HB.out)) hb); clear HB; have HB := n0_; clear n0_; (try clear hb); (try clear hb2); (try clear hk); (try clear hi)))
    go_ret
    exact ⟨by first | rfl | (simp [errW_none, errW_some] <;> rfl) | (simp [*, errW_none, errW_some] <;> rfl), by repeat (first | (with_reducible first | exact HB.out | apply below_alloc | apply pw_below_drewN | apply below_drew1) | exact HB.out)⟩

end Go.Proofs.Ytpphhnfpingghaa.QPipeFairer
