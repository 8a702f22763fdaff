-- printed for this claim by the kit's print, turned by a program of this session (texts of its own are taken for some functions); not trusted: Lean checks it
import Derived.Test.YtpphhnfpingghaaQPipeFairsx0
namespace Go.Proofs.Ytpphhnfpingghaa.QPipeFairs
open Go.RowKit Go.Proofs.YtpphhnfpingghaaW.PrintWords Go.Proofs.YtpphhnfpingghaaW.PrintLast Go.Proofs.YtpphhnfpingghaaW.PrintMore
attribute [local go_sem] max2_int min2_int max_two min_two max_three min_three max_four min_four   -- for this text's walks alone
set_option linter.unusedVariables false
set_option linter.unusedSimpArgs false

-- NOT PRINTED: function 15 (pipe_Sink_Take)

-- NOT PRINTED: function 18 (pipe_Sink_Got)


/-! ### bobbinlaw20_awake: function 14 -/
def bobbinlaw20_awake.f : Option Bool := some true
theorem bobbinlaw20_awake.calls (r : Bool) (w : World) (h : bobbinlaw20_awake.f = some r) : Calls Try.prog 14 #[] w fun e w' => e = .returned (.bool r) ∧ Below w.heap.size w w' := by
  obtain rfl := Option.some.inj h
  exact Pipe.awake_calls w

/-! ### pipe_Fair: function 30 -/
mutual
def pipe_Fair.l0 : Nat → Int → Int → Int → List (S42) → Int → Int → Option (Bool)
  | 0, _, _, _, _, _, _ => none
  | k + 1, x1, x5, x6, x9, x10, x11 => if x11 < x10 then (if 0 ≤ x11 then (if x11 < (x9.length : Int) then (if ((rd_T42 x9 x11).f1) > 0 then (pipe_Fair.j1 k x1 0 (wrap64 (x6 + 1)) x9 x10 x11 ((rd_T42 x9 x11).f0) ((rd_T42 x9 x11).f1) ((rd_T42 x9 x11).f2) ((rd_T42 x9 x11).f3)) else (pipe_Fair.j1 k x1 (wrap64 (x5 + 1)) (wrap64 (x6 + 1)) x9 x10 x11 ((rd_T42 x9 x11).f0) ((rd_T42 x9 x11).f1) ((rd_T42 x9 x11).f2) ((rd_T42 x9 x11).f3))) else (none)) else (none)) else (some (decide (x1 ≥ 1)))
def pipe_Fair.j1 : Nat → Int → Int → Int → List (S42) → Int → Int → Int → Int → Int → Bool → Option (Bool)
  | 0, _, _, _, _, _, _, _, _, _, _ => none
  | k + 1, x1, x5, x6, x9, x10, x11, x103000, x103001, x103002, x103003 => if x103000 = 1 then (if x5 ≥ x1 then (some false) else (if 0 ≥ x1 then (some false) else (if x103001 < 0 then (some false) else (if x103003 = true then (some false) else (if x103000 > 1 then (some false) else (pipe_Fair.l0 k x1 x5 0 x9 x10 (wrap64 (x11 + 1)))))))) else (if x5 ≥ x1 then (some false) else (if x6 ≥ x1 then (some false) else (if x103001 < 0 then (some false) else (if x103003 = true then (some false) else (if x103000 > 1 then (some false) else (pipe_Fair.l0 k x1 x5 x6 x9 x10 (wrap64 (x11 + 1))))))))
end
def pipe_Fair.f (k : Nat) (l0 : List (S42)) (a1 : Int) : Option (Bool) := pipe_Fair.l0 k a1 0 0 l0 (l0.length : Int) 0
theorem pipe_Fair.mono_l : ∀ k, (∀ y0 y1 y2 y3 y4 y5, LeO (pipe_Fair.l0 k y0 y1 y2 y3 y4 y5) (pipe_Fair.l0 (k + 1) y0 y1 y2 y3 y4 y5)) ∧ (∀ y0 y1 y2 y3 y4 y5 y6 y7 y8 y9, LeO (pipe_Fair.j1 k y0 y1 y2 y3 y4 y5 y6 y7 y8 y9) (pipe_Fair.j1 (k + 1) y0 y1 y2 y3 y4 y5 y6 y7 y8 y9))
  | 0 => ⟨fun _ _ _ _ _ _ r h => by simp [pipe_Fair.l0] at h, fun _ _ _ _ _ _ _ _ _ _ r h => by simp [pipe_Fair.j1] at h⟩
  | k + 1 => by
    obtain ⟨ih0, ih1⟩ := pipe_Fair.mono_l k
    refine ⟨?_, ?_⟩
    · intro y0 y1 y2 y3 y4 y5
      unfold pipe_Fair.l0
      repeat' first
      | (with_reducible exact ih0 _ _ _ _ _ _)
      | (with_reducible exact ih1 _ _ _ _ _ _ _ _ _ _)
      | (with_reducible exact LeO.refl _)
      | (with_reducible exact LeO.none _)
      | (with_reducible refine LeO.ite ?_ ?_)
      | (with_reducible refine LeO.bind ?_ (fun _ => ?_))
      | exact ih0 _ _ _ _ _ _
      | exact ih1 _ _ _ _ _ _ _ _ _ _
      | exact LeO.none _
      | refine LeO.ite ?_ ?_
      | refine LeO.bind ?_ (fun _ => ?_)
    · intro y0 y1 y2 y3 y4 y5 y6 y7 y8 y9
      unfold pipe_Fair.j1
      repeat' first
      | (with_reducible exact ih0 _ _ _ _ _ _)
      | (with_reducible exact ih1 _ _ _ _ _ _ _ _ _ _)
      | (with_reducible exact LeO.refl _)
      | (with_reducible exact LeO.none _)
      | (with_reducible refine LeO.ite ?_ ?_)
      | (with_reducible refine LeO.bind ?_ (fun _ => ?_))
      | exact ih0 _ _ _ _ _ _
      | exact ih1 _ _ _ _ _ _ _ _ _ _
      | exact LeO.none _
      | refine LeO.ite ?_ ?_
      | refine LeO.bind ?_ (fun _ => ?_)
theorem pipe_Fair.mono : ∀ a0 a1 k, LeO (pipe_Fair.f k a0 a1) (pipe_Fair.f (k + 1) a0 a1) := by
  intro a0 a1 k
  obtain ⟨ih0, ih1⟩ := pipe_Fair.mono_l k
  unfold pipe_Fair.f
  repeat' first
      | (with_reducible exact ih0 _ _ _ _ _ _)
      | (with_reducible exact ih1 _ _ _ _ _ _ _ _ _ _)
      | (with_reducible exact LeO.refl _)
      | (with_reducible exact LeO.none _)
      | (with_reducible refine LeO.ite ?_ ?_)
      | (with_reducible refine LeO.bind ?_ (fun _ => ?_))
      | exact ih0 _ _ _ _ _ _
      | exact ih1 _ _ _ _ _ _ _ _ _ _
      | exact LeO.none _
      | refine LeO.ite ?_ ?_
      | refine LeO.bind ?_ (fun _ => ?_)
set_option maxHeartbeats 8000000 in
set_option maxRecDepth 100000 in
theorem pipe_Fair.calls (k : Nat) (A0 : Option Addr) (c0 : Nat) (l0 : List (S42)) (a1 : Int) (r : Bool) (w : World) (hr0 : Kd.C k42 w A0 l0.length l0) (hc0 : l0.length ≤ c0) (h : pipe_Fair.f k l0 a1 = some r) :
    Calls Try.prog 30 #[.slice A0 l0.length c0, .int .i64 a1] w fun e w' => e = .returned (.bool r) ∧ Below w.heap.size w w' := by
  have hu42 := Try.underlying42
  have HR0 := Aside0.mk hr0
  have HC0 := Aside0.mk hc0
  clear hr0 hc0
  have HB := Aside0.mk (Below.refl w.heap.size w)
  have H : (pipe_Fair.l0 k a1 0 0 l0 (l0.length : Int) 0) = some r := h
  clear h
  have H' := Aside0.mk H
  clear H
  go_enter Try.func30, Try.ntmps30
  go_wp2
  go_loopg [5, 6, 11] k (fun kq v5 v6 v11 w' => ∃ (x5_1 : Int) (x6_1 : Int) (x11_1 : Int), v5 = .int .i64 x5_1 ∧ v6 = .int .i64 x6_1 ∧ v11 = .int .i64 x11_1 ∧ Aside0 (pipe_Fair.l0 kq a1 x5_1 x6_1 l0 (l0.length : Int) x11_1 = some r) ∧ Aside0 (kq ≤ k) ∧ Aside0 (Below w.heap.size w w'))
  case atStart => exact ⟨(0), (0), (0), (by first | rfl | (simp; done) | (simp [*]; done)), (by first | rfl | (simp; done) | (simp [*]; done)), (by first | rfl | (simp; done) | (simp [*]; done)), H', ⟨Nat.le_refl _⟩, ⟨by repeat (first | (with_reducible first | exact HB.out | apply below_alloc | apply pw_below_drewN | apply below_drew1) | exact HB.out)⟩⟩
  case round =>
    clear H'
    try clear p2
    obtain ⟨x5_1, x6_1, x11_1, rfl, rfl, rfl, HA, HK1, HB⟩ := hrel
    cases gk with
    | zero => exact absurd HA.out (by simp [pipe_Fair.l0])
    | succ k1 =>
      have H := HA.out
      clear HA
      simp only [pipe_Fair.l0] at H
      by_cases c3 : x11_1 < (l0.length : Int)
      · rw [if_pos c3] at H
        have c3b0 : decide (x11_1 < (l0.length : Int)) = true := decide_eq_true c3
        clear c3
        by_cases c4 : 0 ≤ x11_1
        · rw [if_pos c4] at H
          have c4b0 : decide (0 ≤ x11_1) = true := decide_eq_true c4
          clear c4
          by_cases c5 : x11_1 < (l0.length : Int)
          · rw [if_pos c5] at H
            have c5b0 : decide (x11_1 < (l0.length : Int)) = true := decide_eq_true c5
            clear c5
            have HC6 := Aside0.mk H
            clear H
            have p101 : 0 ≤ (x11_1 : Int) := of_decide_eq_true (by first | (with_reducible assumption) | assumption)
            have q101 : x11_1 < (l0.length : Int) := of_decide_eq_true (by first | (with_reducible assumption) | assumption)
            obtain ⟨ad101, e101, hx101_0, hx101_1, hx101_2, hx101_3⟩ := at_T42 HR0.out x11_1 p101 q101
            cases e101
            replace hx101_0 := (HB.out.cell (World.block_lt_of_cell? w _ hx101_0)).trans hx101_0
            replace hx101_1 := (HB.out.cell (World.block_lt_of_cell? w _ hx101_1)).trans hx101_1
            replace hx101_2 := (HB.out.cell (World.block_lt_of_cell? w _ hx101_2)).trans hx101_2
            replace hx101_3 := (HB.out.cell (World.block_lt_of_cell? w _ hx101_3)).trans hx101_3
            replace p101 := eq_true p101
            replace q101 := eq_true q101
            go_upto_if 21 with (first | ((with_reducible refine gate_dst (N := 8) rfl ?_); refine box_event ?hg (N := 8) ?hd (cs := #[.int .u8 0, .int .i64 0, .int .i64 0, .bool false]) (t := 42) ?hr ?_; (case hd => rfl); (case hg => rfl); (case hr => first | (go_simp; done) | (go_simp; rfl)); intro gb102 hg w7 hbox hb; have n0_ := Aside0.mk (below_step (by repeat (first | (with_reducible first | exact HB.out | apply below_alloc | apply pw_below_drewN | apply below_drew1) | exact HB.out)) hb); have n1_ := Aside0.mk (hbox); have n2_ := Aside0.mk ((by rw [hg]; exact (below_size (by repeat (first | (with_reducible first | exact HB.out | apply below_alloc | apply pw_below_drewN | apply below_drew1) | exact HB.out))) : w.heap.size ≤ gb102)); have n3_ := Aside0.mk ((by rw [hg]; exact (below_size (by repeat (first | (with_reducible first | exact HB.out | apply below_alloc | apply pw_below_drewN | apply below_drew1) | exact HB.out))) : w.heap.size ≤ gb102)); clear HB; have HB := n0_; have BK102 := n1_; have GW102 := n2_; have GE102 := n3_; clear n0_ n1_ n2_ n3_; clear hb hbox hg; have hcz8_0 : w7.cell? ⟨gb102, 0, none⟩ = some (.int .u8 0) := (blk_cell BK102.out 0).trans rfl; have hcz8_1 : w7.cell? ⟨gb102, 1, none⟩ = some (.int .i64 0) := (blk_cell BK102.out 1).trans rfl; have hcz8_2 : w7.cell? ⟨gb102, 2, none⟩ = some (.int .i64 0) := (blk_cell BK102.out 2).trans rfl; have hcz8_3 : w7.cell? ⟨gb102, 3, none⟩ = some (.bool false) := (blk_cell BK102.out 3).trans rfl; have hfz8_0 := blk_frozen BK102.out 0; have hfz8_1 := blk_frozen BK102.out 1; have hfz8_2 := blk_frozen BK102.out 2; have hfz8_3 := blk_frozen BK102.out 3))
            (try simp only [Act.put, List.setIfInBounds_toArray, List.set_cons_zero, List.set_cons_succ])
            go_cut [5] (fun v5 wc => ∃ (kq : Nat) (x5_5 : Int), v5 = .int .i64 x5_5 ∧ Aside0 (pipe_Fair.j1 kq a1 x5_5 (wrap64 (x6_1 + 1)) l0 (l0.length : Int) x11_1 ((rd_T42 l0 x11_1).f0) ((rd_T42 l0 x11_1).f1) ((rd_T42 l0 x11_1).f2) ((rd_T42 l0 x11_1).f3) = some r) ∧ Aside0 (kq ≤ k1) ∧ Aside0 (wc.heap[gb102]? = some (.cells #[.int .u8 ((rd_T42 l0 x11_1).f0), .int .i64 ((rd_T42 l0 x11_1).f1), .int .i64 ((rd_T42 l0 x11_1).f2), .bool ((rd_T42 l0 x11_1).f3)] 42 (0, 0))) ∧ Aside0 (Below w.heap.size w wc))
            case first =>
              have H := HC6.out
              clear HC6
              by_cases c9 : ((rd_T42 l0 x11_1).f1) > 0
              · rw [if_pos c9] at H
                have c9b0 : decide (0 < ((rd_T42 l0 x11_1).f1)) = true := decide_eq_true c9
                clear c9
                (first | rw [c9b0] | (simp only [i64_w, i32_w]; rw [c9b0]) | skip)
                have H' := Aside0.mk H
                clear H
                go_wp2
                go_meet
                case rel => exact ⟨_, (0), (by first | rfl | (simp; done) | (simp [*]; done)), H', ⟨by have := HK1.out; first | omega | exact Nat.le_refl _⟩, ⟨by (with_reducible repeat (first | refine blk_drewN ?_ _ | refine blk_drew ?_ | refine blk_alloc ?_ _)); refine blk_put (cs := #[.int .u8 ((rd_T42 l0 x11_1).f0), .int .i64 ((rd_T42 l0 x11_1).f1), .int .i64 ((rd_T42 l0 x11_1).f2), .bool false]) ?_ 3 _ rfl; (with_reducible repeat (first | refine blk_drewN ?_ _ | refine blk_drew ?_ | refine blk_alloc ?_ _)); refine blk_put (cs := #[.int .u8 ((rd_T42 l0 x11_1).f0), .int .i64 ((rd_T42 l0 x11_1).f1), .int .i64 0, .bool false]) ?_ 2 _ rfl; (with_reducible repeat (first | refine blk_drewN ?_ _ | refine blk_drew ?_ | refine blk_alloc ?_ _)); refine blk_put (cs := #[.int .u8 ((rd_T42 l0 x11_1).f0), .int .i64 0, .int .i64 0, .bool false]) ?_ 1 _ rfl; (with_reducible repeat (first | refine blk_drewN ?_ _ | refine blk_drew ?_ | refine blk_alloc ?_ _)); refine blk_put (cs := #[.int .u8 0, .int .i64 0, .int .i64 0, .bool false]) ?_ 0 _ rfl; (with_reducible repeat (first | refine blk_drewN ?_ _ | refine blk_drew ?_ | refine blk_alloc ?_ _)); exact BK102.out⟩, ⟨by repeat (first | (with_reducible first | exact HB.out | apply below_alloc | apply pw_below_drewN | apply below_drew1 | refine below_set ?_ GE102.out) | exact HB.out)⟩⟩
              · rw [if_neg c9] at H
                have c9b0 : decide (0 < ((rd_T42 l0 x11_1).f1)) = false := decide_eq_false c9
                clear c9
                (first | rw [c9b0] | (simp only [i64_w, i32_w]; rw [c9b0]) | skip)
                have H' := Aside0.mk H
                clear H
                go_wp2
                go_meet
                case rel => exact ⟨_, (wrap64 (x5_1 + 1)), (by first | rfl | (simp; done) | (simp [*]; done)), H', ⟨by have := HK1.out; first | omega | exact Nat.le_refl _⟩, ⟨by (with_reducible repeat (first | refine blk_drewN ?_ _ | refine blk_drew ?_ | refine blk_alloc ?_ _)); refine blk_put (cs := #[.int .u8 ((rd_T42 l0 x11_1).f0), .int .i64 ((rd_T42 l0 x11_1).f1), .int .i64 ((rd_T42 l0 x11_1).f2), .bool false]) ?_ 3 _ rfl; (with_reducible repeat (first | refine blk_drewN ?_ _ | refine blk_drew ?_ | refine blk_alloc ?_ _)); refine blk_put (cs := #[.int .u8 ((rd_T42 l0 x11_1).f0), .int .i64 ((rd_T42 l0 x11_1).f1), .int .i64 0, .bool false]) ?_ 2 _ rfl; (with_reducible repeat (first | refine blk_drewN ?_ _ | refine blk_drew ?_ | refine blk_alloc ?_ _)); refine blk_put (cs := #[.int .u8 ((rd_T42 l0 x11_1).f0), .int .i64 0, .int .i64 0, .bool false]) ?_ 1 _ rfl; (with_reducible repeat (first | refine blk_drewN ?_ _ | refine blk_drew ?_ | refine blk_alloc ?_ _)); refine blk_put (cs := #[.int .u8 0, .int .i64 0, .int .i64 0, .bool false]) ?_ 0 _ rfl; (with_reducible repeat (first | refine blk_drewN ?_ _ | refine blk_drew ?_ | refine blk_alloc ?_ _)); exact BK102.out⟩, ⟨by repeat (first | (with_reducible first | exact HB.out | apply below_alloc | apply pw_below_drewN | apply below_drew1 | refine below_set ?_ GE102.out) | exact HB.out)⟩⟩
            case rest =>
              clear HC6
              try clear p1
              try clear q1
              try clear hx1
              try clear p2
              try clear c3
              try clear c3b0
              try clear c4
              try clear c4b0
              try clear c5
              try clear c5b0
              try clear p6
              try clear c9
              try clear c9b0
              try clear hcz8_0
              try clear hcz8_1
              try clear hcz8_2
              try clear hcz8_3
              try clear hfz8_0
              try clear hfz8_1
              try clear hfz8_2
              try clear hfz8_3
              try clear hx101_0
              try clear hx101_1
              try clear hx101_2
              try clear hx101_3
              try clear p101
              try clear p2
              try clear q101
              obtain ⟨kq, x5_5, rfl, HA, HJ5, BK102, HB⟩ := hcut
              cases kq with
              | zero => exact absurd HA.out (by simp [pipe_Fair.j1])
              | succ kj5 =>
                have H := HA.out
                clear HA
                simp only [pipe_Fair.j1] at H
                by_cases c10 : ((rd_T42 l0 x11_1).f0) = 1
                · rw [if_pos c10] at H
                  have c10b0 : (((rd_T42 l0 x11_1).f0) == 1) = true := beq_iff_eq.mpr c10
                  have c10b1 : (((rd_T42 l0 x11_1).f0) != 1) = false := bne_eq_false_iff_eq.mpr c10
                  clear c10
                  by_cases c11 : x5_5 ≥ a1
                  · rw [if_pos c11] at H
                    have c11b0 : decide (a1 ≤ x5_5) = true := decide_eq_true c11
                    clear c11
                    obtain rfl := Option.some.inj H
                    have hcz12_0 : wc.cell? ⟨gb102, 0, none⟩ = some (.int .u8 ((rd_T42 l0 x11_1).f0)) := (blk_cell BK102.out 0).trans rfl
                    have hcz12_1 : wc.cell? ⟨gb102, 1, none⟩ = some (.int .i64 ((rd_T42 l0 x11_1).f1)) := (blk_cell BK102.out 1).trans rfl
                    have hcz12_2 : wc.cell? ⟨gb102, 2, none⟩ = some (.int .i64 ((rd_T42 l0 x11_1).f2)) := (blk_cell BK102.out 2).trans rfl
                    have hcz12_3 : wc.cell? ⟨gb102, 3, none⟩ = some (.bool ((rd_T42 l0 x11_1).f3)) := (blk_cell BK102.out 3).trans rfl
                    have hfz12_0 := blk_frozen BK102.out 0
                    have hfz12_1 := blk_frozen BK102.out 1
                    have hfz12_2 := blk_frozen BK102.out 2
                    have hfz12_3 := blk_frozen BK102.out 3
                    go_wp2
                    go_ret
                    exact ⟨by first | rfl | (simp [errW_none, errW_some] <;> rfl) | (simp [*, errW_none, errW_some] <;> rfl), by repeat (first | (with_reducible first | exact HB.out | apply below_alloc | apply pw_below_drewN | apply below_drew1 | refine below_set ?_ GE102.out) | exact HB.out)⟩
                  · rw [if_neg c11] at H
                    have c11b0 : decide (a1 ≤ x5_5) = false := decide_eq_false c11
                    clear c11
                    by_cases c13 : 0 ≥ a1
                    · rw [if_pos c13] at H
                      have c13b0 : decide (a1 ≤ 0) = true := decide_eq_true c13
                      clear c13
                      obtain rfl := Option.some.inj H
                      have hcz14_0 : wc.cell? ⟨gb102, 0, none⟩ = some (.int .u8 ((rd_T42 l0 x11_1).f0)) := (blk_cell BK102.out 0).trans rfl
                      have hcz14_1 : wc.cell? ⟨gb102, 1, none⟩ = some (.int .i64 ((rd_T42 l0 x11_1).f1)) := (blk_cell BK102.out 1).trans rfl
                      have hcz14_2 : wc.cell? ⟨gb102, 2, none⟩ = some (.int .i64 ((rd_T42 l0 x11_1).f2)) := (blk_cell BK102.out 2).trans rfl
                      have hcz14_3 : wc.cell? ⟨gb102, 3, none⟩ = some (.bool ((rd_T42 l0 x11_1).f3)) := (blk_cell BK102.out 3).trans rfl
                      have hfz14_0 := blk_frozen BK102.out 0
                      have hfz14_1 := blk_frozen BK102.out 1
                      have hfz14_2 := blk_frozen BK102.out 2
                      have hfz14_3 := blk_frozen BK102.out 3
                      go_wp2
                      go_ret
                      exact ⟨by first | rfl | (simp [errW_none, errW_some] <;> rfl) | (simp [*, errW_none, errW_some] <;> rfl), by repeat (first | (with_reducible first | exact HB.out | apply below_alloc | apply pw_below_drewN | apply below_drew1 | refine below_set ?_ GE102.out) | exact HB.out)⟩
                    · rw [if_neg c13] at H
                      have c13b0 : decide (a1 ≤ 0) = false := decide_eq_false c13
                      clear c13
                      by_cases c15 : ((rd_T42 l0 x11_1).f1) < 0
                      · rw [if_pos c15] at H
                        have c15b0 : decide (((rd_T42 l0 x11_1).f1) < 0) = true := decide_eq_true c15
                        clear c15
                        obtain rfl := Option.some.inj H
                        have hcz16_0 : wc.cell? ⟨gb102, 0, none⟩ = some (.int .u8 ((rd_T42 l0 x11_1).f0)) := (blk_cell BK102.out 0).trans rfl
                        have hcz16_1 : wc.cell? ⟨gb102, 1, none⟩ = some (.int .i64 ((rd_T42 l0 x11_1).f1)) := (blk_cell BK102.out 1).trans rfl
                        have hcz16_2 : wc.cell? ⟨gb102, 2, none⟩ = some (.int .i64 ((rd_T42 l0 x11_1).f2)) := (blk_cell BK102.out 2).trans rfl
                        have hcz16_3 : wc.cell? ⟨gb102, 3, none⟩ = some (.bool ((rd_T42 l0 x11_1).f3)) := (blk_cell BK102.out 3).trans rfl
                        have hfz16_0 := blk_frozen BK102.out 0
                        have hfz16_1 := blk_frozen BK102.out 1
                        have hfz16_2 := blk_frozen BK102.out 2
                        have hfz16_3 := blk_frozen BK102.out 3
                        go_wp2
                        go_ret
                        exact ⟨by first | rfl | (simp [errW_none, errW_some] <;> rfl) | (simp [*, errW_none, errW_some] <;> rfl), by repeat (first | (with_reducible first | exact HB.out | apply below_alloc | apply pw_below_drewN | apply below_drew1 | refine below_set ?_ GE102.out) | exact HB.out)⟩
                      · rw [if_neg c15] at H
                        have c15b0 : decide (((rd_T42 l0 x11_1).f1) < 0) = false := decide_eq_false c15
                        clear c15
                        by_cases c17 : ((rd_T42 l0 x11_1).f3) = true
                        · rw [if_pos c17] at H
                          have c17b0 : ((rd_T42 l0 x11_1).f3) = true := c17
                          clear c17
                          obtain rfl := Option.some.inj H
                          have hcz18_0 : wc.cell? ⟨gb102, 0, none⟩ = some (.int .u8 ((rd_T42 l0 x11_1).f0)) := (blk_cell BK102.out 0).trans rfl
                          have hcz18_1 : wc.cell? ⟨gb102, 1, none⟩ = some (.int .i64 ((rd_T42 l0 x11_1).f1)) := (blk_cell BK102.out 1).trans rfl
                          have hcz18_2 : wc.cell? ⟨gb102, 2, none⟩ = some (.int .i64 ((rd_T42 l0 x11_1).f2)) := (blk_cell BK102.out 2).trans rfl
                          have hcz18_3 : wc.cell? ⟨gb102, 3, none⟩ = some (.bool ((rd_T42 l0 x11_1).f3)) := (blk_cell BK102.out 3).trans rfl
                          have hfz18_0 := blk_frozen BK102.out 0
                          have hfz18_1 := blk_frozen BK102.out 1
                          have hfz18_2 := blk_frozen BK102.out 2
                          have hfz18_3 := blk_frozen BK102.out 3
                          go_wp2
                          go_ret
                          exact ⟨by first | rfl | (simp [errW_none, errW_some] <;> rfl) | (simp [*, errW_none, errW_some] <;> rfl), by repeat (first | (with_reducible first | exact HB.out | apply below_alloc | apply pw_below_drewN | apply below_drew1 | refine below_set ?_ GE102.out) | exact HB.out)⟩
                        · rw [if_neg c17] at H
                          have c17b0 : ((rd_T42 l0 x11_1).f3) = false := by simpa using c17
                          clear c17
                          by_cases c19 : ((rd_T42 l0 x11_1).f0) > 1
                          · rw [if_pos c19] at H
                            have c19b0 : decide (1 < ((rd_T42 l0 x11_1).f0)) = true := decide_eq_true c19
                            clear c19
                            obtain rfl := Option.some.inj H
                            have hcz20_0 : wc.cell? ⟨gb102, 0, none⟩ = some (.int .u8 ((rd_T42 l0 x11_1).f0)) := (blk_cell BK102.out 0).trans rfl
                            have hcz20_1 : wc.cell? ⟨gb102, 1, none⟩ = some (.int .i64 ((rd_T42 l0 x11_1).f1)) := (blk_cell BK102.out 1).trans rfl
                            have hcz20_2 : wc.cell? ⟨gb102, 2, none⟩ = some (.int .i64 ((rd_T42 l0 x11_1).f2)) := (blk_cell BK102.out 2).trans rfl
                            have hcz20_3 : wc.cell? ⟨gb102, 3, none⟩ = some (.bool ((rd_T42 l0 x11_1).f3)) := (blk_cell BK102.out 3).trans rfl
                            have hfz20_0 := blk_frozen BK102.out 0
                            have hfz20_1 := blk_frozen BK102.out 1
                            have hfz20_2 := blk_frozen BK102.out 2
                            have hfz20_3 := blk_frozen BK102.out 3
                            go_wp2
                            go_ret
                            exact ⟨by first | rfl | (simp [errW_none, errW_some] <;> rfl) | (simp [*, errW_none, errW_some] <;> rfl), by repeat (first | (with_reducible first | exact HB.out | apply below_alloc | apply pw_below_drewN | apply below_drew1 | refine below_set ?_ GE102.out) | exact HB.out)⟩
                          · rw [if_neg c19] at H
                            have c19b0 : decide (1 < ((rd_T42 l0 x11_1).f0)) = false := decide_eq_false c19
                            clear c19
                            have H' := Aside0.mk H
                            clear H
                            have hcz21_0 : wc.cell? ⟨gb102, 0, none⟩ = some (.int .u8 ((rd_T42 l0 x11_1).f0)) := (blk_cell BK102.out 0).trans rfl
                            have hcz21_1 : wc.cell? ⟨gb102, 1, none⟩ = some (.int .i64 ((rd_T42 l0 x11_1).f1)) := (blk_cell BK102.out 1).trans rfl
                            have hcz21_2 : wc.cell? ⟨gb102, 2, none⟩ = some (.int .i64 ((rd_T42 l0 x11_1).f2)) := (blk_cell BK102.out 2).trans rfl
                            have hcz21_3 : wc.cell? ⟨gb102, 3, none⟩ = some (.bool ((rd_T42 l0 x11_1).f3)) := (blk_cell BK102.out 3).trans rfl
                            have hfz21_0 := blk_frozen BK102.out 0
                            have hfz21_1 := blk_frozen BK102.out 1
                            have hfz21_2 := blk_frozen BK102.out 2
                            have hfz21_3 := blk_frozen BK102.out 3
                            go_wp2
                            go_roundg kj5
                            case measure => have := HK1.out; have := HJ5.out; omega
                            case rel => exact ⟨(x5_5), (0), (wrap64 (x11_1 + 1)), (by first | rfl | (simp; done) | (simp [*]; done)), (by first | rfl | (simp; done) | (simp [*]; done)), (by first | rfl | (simp; done) | (simp [*]; done)), H', ⟨by have := HK1.out; have := HJ5.out; omega⟩, ⟨by repeat (first | (with_reducible first | exact HB.out | apply below_alloc | apply pw_below_drewN | apply below_drew1 | refine below_set ?_ GE102.out) | exact HB.out)⟩⟩
                · rw [if_neg c10] at H
                  have c10b0 : (((rd_T42 l0 x11_1).f0) == 1) = false := beq_eq_false_iff_ne.mpr c10
                  have c10b1 : (((rd_T42 l0 x11_1).f0) != 1) = true := bne_iff_ne.mpr c10
                  by_cases c22 : x5_5 ≥ a1
                  · rw [if_pos c22] at H
                    have c22b0 : decide (a1 ≤ x5_5) = true := decide_eq_true c22
                    clear c22
                    obtain rfl := Option.some.inj H
                    have hcz23_0 : wc.cell? ⟨gb102, 0, none⟩ = some (.int .u8 ((rd_T42 l0 x11_1).f0)) := (blk_cell BK102.out 0).trans rfl
                    have hcz23_1 : wc.cell? ⟨gb102, 1, none⟩ = some (.int .i64 ((rd_T42 l0 x11_1).f1)) := (blk_cell BK102.out 1).trans rfl
                    have hcz23_2 : wc.cell? ⟨gb102, 2, none⟩ = some (.int .i64 ((rd_T42 l0 x11_1).f2)) := (blk_cell BK102.out 2).trans rfl
                    have hcz23_3 : wc.cell? ⟨gb102, 3, none⟩ = some (.bool ((rd_T42 l0 x11_1).f3)) := (blk_cell BK102.out 3).trans rfl
                    have hfz23_0 := blk_frozen BK102.out 0
                    have hfz23_1 := blk_frozen BK102.out 1
                    have hfz23_2 := blk_frozen BK102.out 2
                    have hfz23_3 := blk_frozen BK102.out 3
                    go_wp2
                    go_ret
                    exact ⟨by first | rfl | (simp [errW_none, errW_some] <;> rfl) | (simp [*, errW_none, errW_some] <;> rfl), by repeat (first | (with_reducible first | exact HB.out | apply below_alloc | apply pw_below_drewN | apply below_drew1 | refine below_set ?_ GE102.out) | exact HB.out)⟩
                  · rw [if_neg c22] at H
                    have c22b0 : decide (a1 ≤ x5_5) = false := decide_eq_false c22
                    clear c22
                    by_cases c24 : (wrap64 (x6_1 + 1)) ≥ a1
                    · rw [if_pos c24] at H
                      have c24b0 : decide (a1 ≤ (wrap64 (x6_1 + 1))) = true := decide_eq_true c24
                      clear c24
                      obtain rfl := Option.some.inj H
                      have hcz25_0 : wc.cell? ⟨gb102, 0, none⟩ = some (.int .u8 ((rd_T42 l0 x11_1).f0)) := (blk_cell BK102.out 0).trans rfl
                      have hcz25_1 : wc.cell? ⟨gb102, 1, none⟩ = some (.int .i64 ((rd_T42 l0 x11_1).f1)) := (blk_cell BK102.out 1).trans rfl
                      have hcz25_2 : wc.cell? ⟨gb102, 2, none⟩ = some (.int .i64 ((rd_T42 l0 x11_1).f2)) := (blk_cell BK102.out 2).trans rfl
                      have hcz25_3 : wc.cell? ⟨gb102, 3, none⟩ = some (.bool ((rd_T42 l0 x11_1).f3)) := (blk_cell BK102.out 3).trans rfl
                      have hfz25_0 := blk_frozen BK102.out 0
                      have hfz25_1 := blk_frozen BK102.out 1
                      have hfz25_2 := blk_frozen BK102.out 2
                      have hfz25_3 := blk_frozen BK102.out 3
                      go_wp2
                      go_ret
                      exact ⟨by first | rfl | (simp [errW_none, errW_some] <;> rfl) | (simp [*, errW_none, errW_some] <;> rfl), by repeat (first | (with_reducible first | exact HB.out | apply below_alloc | apply pw_below_drewN | apply below_drew1 | refine below_set ?_ GE102.out) | exact HB.out)⟩
                    · rw [if_neg c24] at H
                      have c24b0 : decide (a1 ≤ (wrap64 (x6_1 + 1))) = false := decide_eq_false c24
                      clear c24
                      by_cases c26 : ((rd_T42 l0 x11_1).f1) < 0
                      · rw [if_pos c26] at H
                        have c26b0 : decide (((rd_T42 l0 x11_1).f1) < 0) = true := decide_eq_true c26
                        clear c26
                        obtain rfl := Option.some.inj H
                        have hcz27_0 : wc.cell? ⟨gb102, 0, none⟩ = some (.int .u8 ((rd_T42 l0 x11_1).f0)) := (blk_cell BK102.out 0).trans rfl
                        have hcz27_1 : wc.cell? ⟨gb102, 1, none⟩ = some (.int .i64 ((rd_T42 l0 x11_1).f1)) := (blk_cell BK102.out 1).trans rfl
                        have hcz27_2 : wc.cell? ⟨gb102, 2, none⟩ = some (.int .i64 ((rd_T42 l0 x11_1).f2)) := (blk_cell BK102.out 2).trans rfl
                        have hcz27_3 : wc.cell? ⟨gb102, 3, none⟩ = some (.bool ((rd_T42 l0 x11_1).f3)) := (blk_cell BK102.out 3).trans rfl
                        have hfz27_0 := blk_frozen BK102.out 0
                        have hfz27_1 := blk_frozen BK102.out 1
                        have hfz27_2 := blk_frozen BK102.out 2
                        have hfz27_3 := blk_frozen BK102.out 3
                        go_wp2
                        go_ret
                        exact ⟨by first | rfl | (simp [errW_none, errW_some] <;> rfl) | (simp [*, errW_none, errW_some] <;> rfl), by repeat (first | (with_reducible first | exact HB.out | apply below_alloc | apply pw_below_drewN | apply below_drew1 | refine below_set ?_ GE102.out) | exact HB.out)⟩
                      · rw [if_neg c26] at H
                        have c26b0 : decide (((rd_T42 l0 x11_1).f1) < 0) = false := decide_eq_false c26
                        clear c26
                        by_cases c28 : ((rd_T42 l0 x11_1).f3) = true
                        · rw [if_pos c28] at H
                          have c28b0 : ((rd_T42 l0 x11_1).f3) = true := c28
                          clear c28
                          obtain rfl := Option.some.inj H
                          have hcz29_0 : wc.cell? ⟨gb102, 0, none⟩ = some (.int .u8 ((rd_T42 l0 x11_1).f0)) := (blk_cell BK102.out 0).trans rfl
                          have hcz29_1 : wc.cell? ⟨gb102, 1, none⟩ = some (.int .i64 ((rd_T42 l0 x11_1).f1)) := (blk_cell BK102.out 1).trans rfl
                          have hcz29_2 : wc.cell? ⟨gb102, 2, none⟩ = some (.int .i64 ((rd_T42 l0 x11_1).f2)) := (blk_cell BK102.out 2).trans rfl
                          have hcz29_3 : wc.cell? ⟨gb102, 3, none⟩ = some (.bool ((rd_T42 l0 x11_1).f3)) := (blk_cell BK102.out 3).trans rfl
                          have hfz29_0 := blk_frozen BK102.out 0
                          have hfz29_1 := blk_frozen BK102.out 1
                          have hfz29_2 := blk_frozen BK102.out 2
                          have hfz29_3 := blk_frozen BK102.out 3
                          go_wp2
                          go_ret
                          exact ⟨by first | rfl | (simp [errW_none, errW_some] <;> rfl) | (simp [*, errW_none, errW_some] <;> rfl), by repeat (first | (with_reducible first | exact HB.out | apply below_alloc | apply pw_below_drewN | apply below_drew1 | refine below_set ?_ GE102.out) | exact HB.out)⟩
                        · rw [if_neg c28] at H
                          have c28b0 : ((rd_T42 l0 x11_1).f3) = false := by simpa using c28
                          clear c28
                          by_cases c30 : ((rd_T42 l0 x11_1).f0) > 1
                          · rw [if_pos c30] at H
                            have c30b0 : decide (1 < ((rd_T42 l0 x11_1).f0)) = true := decide_eq_true c30
                            clear c30
                            obtain rfl := Option.some.inj H
                            have hcz31_0 : wc.cell? ⟨gb102, 0, none⟩ = some (.int .u8 ((rd_T42 l0 x11_1).f0)) := (blk_cell BK102.out 0).trans rfl
                            have hcz31_1 : wc.cell? ⟨gb102, 1, none⟩ = some (.int .i64 ((rd_T42 l0 x11_1).f1)) := (blk_cell BK102.out 1).trans rfl
                            have hcz31_2 : wc.cell? ⟨gb102, 2, none⟩ = some (.int .i64 ((rd_T42 l0 x11_1).f2)) := (blk_cell BK102.out 2).trans rfl
                            have hcz31_3 : wc.cell? ⟨gb102, 3, none⟩ = some (.bool ((rd_T42 l0 x11_1).f3)) := (blk_cell BK102.out 3).trans rfl
                            have hfz31_0 := blk_frozen BK102.out 0
                            have hfz31_1 := blk_frozen BK102.out 1
                            have hfz31_2 := blk_frozen BK102.out 2
                            have hfz31_3 := blk_frozen BK102.out 3
                            go_wp2
                            go_ret
                            exact ⟨by first | rfl | (simp [errW_none, errW_some] <;> rfl) | (simp [*, errW_none, errW_some] <;> rfl), by repeat (first | (with_reducible first | exact HB.out | apply below_alloc | apply pw_below_drewN | apply below_drew1 | refine below_set ?_ GE102.out) | exact HB.out)⟩
                          · rw [if_neg c30] at H
                            have c30b0 : decide (1 < ((rd_T42 l0 x11_1).f0)) = false := decide_eq_false c30
                            clear c30
                            have H' := Aside0.mk H
                            clear H
                            have hcz32_0 : wc.cell? ⟨gb102, 0, none⟩ = some (.int .u8 ((rd_T42 l0 x11_1).f0)) := (blk_cell BK102.out 0).trans rfl
                            have hcz32_1 : wc.cell? ⟨gb102, 1, none⟩ = some (.int .i64 ((rd_T42 l0 x11_1).f1)) := (blk_cell BK102.out 1).trans rfl
                            have hcz32_2 : wc.cell? ⟨gb102, 2, none⟩ = some (.int .i64 ((rd_T42 l0 x11_1).f2)) := (blk_cell BK102.out 2).trans rfl
                            have hcz32_3 : wc.cell? ⟨gb102, 3, none⟩ = some (.bool ((rd_T42 l0 x11_1).f3)) := (blk_cell BK102.out 3).trans rfl
                            have hfz32_0 := blk_frozen BK102.out 0
                            have hfz32_1 := blk_frozen BK102.out 1
                            have hfz32_2 := blk_frozen BK102.out 2
                            have hfz32_3 := blk_frozen BK102.out 3
                            go_wp2
                            go_roundg kj5
                            case measure => have := HK1.out; have := HJ5.out; omega
                            case rel => exact ⟨(x5_5), ((wrap64 (x6_1 + 1))), (wrap64 (x11_1 + 1)), (by first | rfl | (simp; done) | (simp [*]; done)), (by first | rfl | (simp; done) | (simp [*]; done)), (by first | rfl | (simp; done) | (simp [*]; done)), H', ⟨by have := HK1.out; have := HJ5.out; omega⟩, ⟨by repeat (first | (with_reducible first | exact HB.out | apply below_alloc | apply pw_below_drewN | apply below_drew1 | refine below_set ?_ GE102.out) | exact HB.out)⟩⟩
          · rw [if_neg c5] at H
            exact absurd H (by simp)
        · rw [if_neg c4] at H
          exact absurd H (by simp)
      · rw [if_neg c3] at H
        have c3b0 : decide (x11_1 < (l0.length : Int)) = false := decide_eq_false c3
        clear c3
        obtain rfl := Option.some.inj H
        go_wp2
        go_ret
        exact ⟨by first | rfl | (simp [errW_none, errW_some] <;> rfl) | (simp [*, errW_none, errW_some] <;> rfl), by repeat (first | (with_reducible first | exact HB.out | apply below_alloc | apply pw_below_drewN | apply below_drew1) | exact HB.out)⟩

end Go.Proofs.Ytpphhnfpingghaa.QPipeFairs
