-- PRINTED BY print.sh 35421559b90ae4d0a3588c463048766b98c2df88dd9212a6774a882060cdf62d: not written by this session
import Derived.Test.YtclanebbalgpfaaPDataChecksx0
import Derived.Test.YtclanebbalgpfaaPDataChecksx1
import Derived.Test.YtclanebbalgpfaaPDataChecksx2
namespace Go.Proofs.Ytclanebbalgpfaa.PDataChecks
open Go.RowKit Go.Proofs.YtclanebbalgpfaaW.PrintWords Go.Proofs.YtclanebbalgpfaaW.PrintLast Go.Proofs.YtclanebbalgpfaaW.PrintMore
attribute [local go_sem] max2_int min2_int max_two min_two max_three min_three max_four min_four   -- for this text's walks alone
set_option linter.unusedVariables false
set_option linter.unusedSimpArgs false

/-! ### bobbinref17_Check: function 19 -/
mutual
def bobbinref17_Check.l0 : Nat → List (S49) → Int → Option (Int)
  | 0, _, _ => none
  | k + 1, x0, x3 => if x3 < (x0.length : Int) then (if 0 ≤ x3 then (if (wrap64 ((rd_T49 x0 x3).f0)) > 3 then (bobbinref17_Check.j1 k x0 x3 true) else (if (wrap64 ((rd_T49 x0 x3).f0)) = 1 then (if (wrap64 ((rd_T49 x0 x3).f0)) < 2 then (bobbinref17_Check.j1 k x0 x3 (decide ((((rd_T49 x0 x3).f3).length : Int) > 0))) else (bobbinref17_Check.j1 k x0 x3 false)) else (if (((rd_T49 x0 x3).f2).length : Int) > 0 then (bobbinref17_Check.j1 k x0 x3 true) else (if (wrap64 ((rd_T49 x0 x3).f0)) < 2 then (bobbinref17_Check.j1 k x0 x3 (decide ((((rd_T49 x0 x3).f3).length : Int) > 0))) else (bobbinref17_Check.j1 k x0 x3 false))))) else (none)) else (some 0)
def bobbinref17_Check.j1 : Nat → List (S49) → Int → Bool → Option (Int)
  | 0, _, _, _ => none
  | k + 1, x0, x3, x51 => if x51 = true then (some 9) else (bobbinref17_Check.l1 k x0 x3 0)
def bobbinref17_Check.l1 : Nat → List (S49) → Int → Int → Option (Int)
  | 0, _, _, _ => none
  | k + 1, x0, x3, x5 => if 0 ≤ x3 then (if x3 < (x0.length : Int) then (if x5 < (((rd_T49 x0 x3).f3).length : Int) then (if 0 ≤ x5 then (if (rd ((rd_T49 x0 x3).f3) x5) ≤ x3 then (some 9) else (if (rd ((rd_T49 x0 x3).f3) x5) ≥ (x0.length : Int) then (some 9) else (bobbinref17_Check.l1 k x0 x3 (wrap64 (x5 + 1))))) else (none)) else (bobbinref17_Check.l0 k x0 (wrap64 (x3 + 1)))) else (none)) else (none)
end
def bobbinref17_Check.f (k : Nat) (l0 : List (S49)) : Option (Int) := if (l0.length : Int) > 4096 then (some 2) else (if (l0.length : Int) = 0 then (some 9) else (bobbinref17_Check.l0 k l0 0))
theorem bobbinref17_Check.mono_l : ∀ k, (∀ y0 y1, LeO (bobbinref17_Check.l0 k y0 y1) (bobbinref17_Check.l0 (k + 1) y0 y1)) ∧ (∀ y0 y1 y2, LeO (bobbinref17_Check.j1 k y0 y1 y2) (bobbinref17_Check.j1 (k + 1) y0 y1 y2)) ∧ (∀ y0 y1 y2, LeO (bobbinref17_Check.l1 k y0 y1 y2) (bobbinref17_Check.l1 (k + 1) y0 y1 y2))
  | 0 => ⟨fun _ _ r h => by simp [bobbinref17_Check.l0] at h, fun _ _ _ r h => by simp [bobbinref17_Check.j1] at h, fun _ _ _ r h => by simp [bobbinref17_Check.l1] at h⟩
  | k + 1 => by
    obtain ⟨ih0, ih1, ih2⟩ := bobbinref17_Check.mono_l k
    refine ⟨?_, ?_, ?_⟩
    · intro y0 y1
      unfold bobbinref17_Check.l0
      repeat' first
      | (with_reducible exact ih0 _ _)
      | (with_reducible exact ih1 _ _ _)
      | (with_reducible exact ih2 _ _ _)
      | (with_reducible exact LeO.refl _)
      | (with_reducible exact LeO.none _)
      | (with_reducible refine LeO.ite ?_ ?_)
      | (with_reducible refine LeO.bind ?_ (fun _ => ?_))
      | exact ih0 _ _
      | exact ih1 _ _ _
      | exact ih2 _ _ _
      | exact LeO.none _
      | refine LeO.ite ?_ ?_
      | refine LeO.bind ?_ (fun _ => ?_)
    · intro y0 y1 y2
      unfold bobbinref17_Check.j1
      repeat' first
      | (with_reducible exact ih0 _ _)
      | (with_reducible exact ih1 _ _ _)
      | (with_reducible exact ih2 _ _ _)
      | (with_reducible exact LeO.refl _)
      | (with_reducible exact LeO.none _)
      | (with_reducible refine LeO.ite ?_ ?_)
      | (with_reducible refine LeO.bind ?_ (fun _ => ?_))
      | exact ih0 _ _
      | exact ih1 _ _ _
      | exact ih2 _ _ _
      | exact LeO.none _
      | refine LeO.ite ?_ ?_
      | refine LeO.bind ?_ (fun _ => ?_)
    · intro y0 y1 y2
      unfold bobbinref17_Check.l1
      repeat' first
      | (with_reducible exact ih0 _ _)
      | (with_reducible exact ih1 _ _ _)
      | (with_reducible exact ih2 _ _ _)
      | (with_reducible exact LeO.refl _)
      | (with_reducible exact LeO.none _)
      | (with_reducible refine LeO.ite ?_ ?_)
      | (with_reducible refine LeO.bind ?_ (fun _ => ?_))
      | exact ih0 _ _
      | exact ih1 _ _ _
      | exact ih2 _ _ _
      | exact LeO.none _
      | refine LeO.ite ?_ ?_
      | refine LeO.bind ?_ (fun _ => ?_)
theorem bobbinref17_Check.mono : ∀ a0 k, LeO (bobbinref17_Check.f k a0) (bobbinref17_Check.f (k + 1) a0) := by
  intro a0 k
  obtain ⟨ih0, ih1, ih2⟩ := bobbinref17_Check.mono_l k
  unfold bobbinref17_Check.f
  repeat' first
      | (with_reducible exact ih0 _ _)
      | (with_reducible exact ih1 _ _ _)
      | (with_reducible exact ih2 _ _ _)
      | (with_reducible exact LeO.refl _)
      | (with_reducible exact LeO.none _)
      | (with_reducible refine LeO.ite ?_ ?_)
      | (with_reducible refine LeO.bind ?_ (fun _ => ?_))
      | exact ih0 _ _
      | exact ih1 _ _ _
      | exact ih2 _ _ _
      | exact LeO.none _
      | refine LeO.ite ?_ ?_
      | refine LeO.bind ?_ (fun _ => ?_)
set_option maxHeartbeats 8000000 in
set_option maxRecDepth 100000 in
theorem bobbinref17_Check.calls (k : Nat) (A0 : Option Addr) (c0 : Nat) (l0 : List (S49)) (r : Int) (w : World) (hr0 : Kd.C k49 w A0 l0.length l0) (hc0 : l0.length ≤ c0) (h : bobbinref17_Check.f k l0 = some r) :
    Calls Try.prog 19 #[.slice A0 l0.length c0] w fun e w' => e = .returned (.int .i64 r) ∧ Drawn0 w w' := by
  have HR0 := Aside0.mk hr0
  have HC0 := Aside0.mk hc0
  clear hr0 hc0
  have H : (if (l0.length : Int) > 4096 then (some 2) else (if (l0.length : Int) = 0 then (some 9) else (bobbinref17_Check.l0 k l0 0))) = some r := h
  clear h
  by_cases c2 : (l0.length : Int) > 4096
  · rw [if_pos c2] at H
    have c2b0 : decide (4096 < (l0.length : Int)) = true := decide_eq_true c2
    have c2b1 : decide (4096 < l0.length) = true := decide_eq_true (by omega)
    clear c2
    obtain rfl := Option.some.inj H
    go_enter Try.func19, Try.ntmps19
    go_wp2
    go_ret
    exact ⟨by first | rfl | (simp; done) | (simp [*]; done), by repeat (first | exact Drawn0.refl _ | apply Drawn0.step)⟩
  · rw [if_neg c2] at H
    have c2b0 : decide (4096 < (l0.length : Int)) = false := decide_eq_false c2
    have c2b1 : decide (4096 < l0.length) = false := decide_eq_false (by omega)
    clear c2
    by_cases c3 : (l0.length : Int) = 0
    · rw [if_pos c3] at H
      have c3b0 : ((l0.length : Int) == 0) = true := beq_iff_eq.mpr c3
      have c3b1 : ((l0.length : Int) != 0) = false := bne_eq_false_iff_eq.mpr c3
      clear c3
      obtain rfl := Option.some.inj H
      go_enter Try.func19, Try.ntmps19
      go_wp2
      go_ret
      exact ⟨by first | rfl | (simp; done) | (simp [*]; done), by repeat (first | exact Drawn0.refl _ | apply Drawn0.step)⟩
    · rw [if_neg c3] at H
      have c3b0 : ((l0.length : Int) == 0) = false := beq_eq_false_iff_ne.mpr c3
      have c3b1 : ((l0.length : Int) != 0) = true := bne_iff_ne.mpr c3
      have c3b2 : ¬ (l0 = []) := fun h_ => c3 (by rw [h_]; rfl)
      have H' := Aside0.mk H
      clear H
      go_enter Try.func19, Try.ntmps19
      go_wp2
      go_loopg [3] k (fun kq v3 w' => ∃ (x3_1 : Int), v3 = .int .i64 x3_1 ∧ Aside0 (bobbinref17_Check.l0 kq l0 x3_1 = some r) ∧ Aside0 (kq ≤ k) ∧ Drawn0 w w')
      case atStart => exact ⟨(0), (by first | rfl | (simp; done) | (simp [*]; done)), H', ⟨Nat.le_refl _⟩, by repeat (first | exact Drawn0.refl _ | apply Drawn0.step)⟩
      case round =>
        clear H'
        try clear c1
        try clear c2
        try clear c2b0
        try clear c2b1
        try clear p2
        try clear c3
        try clear c3b0
        try clear c3b1
        try clear c3b2
        obtain ⟨x3_1, rfl, HA, HK1, ⟨m1, rfl⟩⟩ := hrel
        cases gk with
        | zero => exact absurd HA.out (by simp [bobbinref17_Check.l0])
        | succ k1 =>
          have H := HA.out
          clear HA
          simp only [bobbinref17_Check.l0] at H
          by_cases c4 : x3_1 < (l0.length : Int)
          · rw [if_pos c4] at H
            have c4b0 : decide (x3_1 < (l0.length : Int)) = true := decide_eq_true c4
            clear c4
            by_cases c5 : 0 ≤ x3_1
            · rw [if_pos c5] at H
              have c5b0 : decide (0 ≤ x3_1) = true := decide_eq_true c5
              clear c5
              have HC6 := Aside0.mk H
              clear H
              have p126 : 0 ≤ (x3_1 : Int) := of_decide_eq_true (by first | (with_reducible assumption) | assumption)
              have q126 : x3_1 < (l0.length : Int) := of_decide_eq_true (by first | (with_reducible assumption) | assumption)
              obtain ⟨ad126, A126_2, c126_2, A126_3, c126_3, e126, hx126_0, hx126_1, hx126_2, hx126_3, hl126_2, hi126_2, hl126_3, hi126_3⟩ := at_T49 HR0.out x3_1 p126 q126
              cases e126
              have HR126_2 := Aside0.mk hi126_2
              have HC126_2 := Aside0.mk hl126_2
              clear hi126_2 hl126_2
              have HR126_3 := Aside0.mk hi126_3
              have HC126_3 := Aside0.mk hl126_3
              clear hi126_3 hl126_3
              replace p126 := eq_true p126
              replace q126 := eq_true q126
              go_upto_region 9 with (fail)
              go_cut [51] (fun v51 wc => ∃ (kq : Nat) (x51_5 : Bool), v51 = .bool x51_5 ∧ Aside0 (bobbinref17_Check.j1 kq l0 x3_1 x51_5 = some r) ∧ Aside0 (kq ≤ k1) ∧ Drawn0 w wc)
              case first =>
                have H := HC6.out
                clear HC6
                by_cases c7 : (wrap64 ((rd_T49 l0 x3_1).f0)) > 3
                · rw [if_pos c7] at H
                  have c7b0 : decide (3 < (wrap64 ((rd_T49 l0 x3_1).f0))) = true := decide_eq_true c7
                  clear c7
                  (first | rw [c7b0] | (simp only [i64_w, i32_w]; rw [c7b0]) | skip)
                  have H' := Aside0.mk H
                  clear H
                  go_wp2
                  go_meet
                  case rel => exact ⟨_, (true), (by first | rfl | (simp; done) | (simp [*]; done)), H', ⟨by have := HK1.out; first | omega | exact Nat.le_refl _⟩, by repeat (first | exact Drawn0.refl _ | apply Drawn0.step)⟩
                · rw [if_neg c7] at H
                  have c7b0 : decide (3 < (wrap64 ((rd_T49 l0 x3_1).f0))) = false := decide_eq_false c7
                  clear c7
                  (first | rw [c7b0] | (simp only [i64_w, i32_w]; rw [c7b0]) | skip)
                  by_cases c8 : (wrap64 ((rd_T49 l0 x3_1).f0)) = 1
                  · rw [if_pos c8] at H
                    have c8b0 : ((wrap64 ((rd_T49 l0 x3_1).f0)) == 1) = true := beq_iff_eq.mpr c8
                    have c8b1 : ((wrap64 ((rd_T49 l0 x3_1).f0)) != 1) = false := bne_eq_false_iff_eq.mpr c8
                    clear c8
                    by_cases c9 : (wrap64 ((rd_T49 l0 x3_1).f0)) < 2
                    · rw [if_pos c9] at H
                      have c9b0 : decide ((wrap64 ((rd_T49 l0 x3_1).f0)) < 2) = true := decide_eq_true c9
                      clear c9
                      have H' := Aside0.mk H
                      clear H
                      have p127 : 0 ≤ (x3_1 : Int) := of_decide_eq_true (by first | (with_reducible assumption) | assumption)
                      have q127 : x3_1 < (l0.length : Int) := of_decide_eq_true (by first | (with_reducible assumption) | assumption)
                      obtain ⟨ad127, A127_2, c127_2, A127_3, c127_3, e127, hx127_0, hx127_1, hx127_2, hx127_3, hl127_2, hi127_2, hl127_3, hi127_3⟩ := at_T49 HR0.out x3_1 p127 q127
                      obtain rfl : ad126 = ad127 := (by injection e127)
                      have HR127_2 := Aside0.mk hi127_2
                      have HC127_2 := Aside0.mk hl127_2
                      clear hi127_2 hl127_2
                      have HR127_3 := Aside0.mk hi127_3
                      have HC127_3 := Aside0.mk hl127_3
                      clear hi127_3 hl127_3
                      replace p127 := eq_true p127
                      replace q127 := eq_true q127
                      go_wp2
                      go_meet
                      case rel => exact ⟨_, (decide ((((rd_T49 l0 x3_1).f3).length : Int) > 0)), (by first | rfl | (simp; done) | (simp [*]; done)), H', ⟨by have := HK1.out; first | omega | exact Nat.le_refl _⟩, by repeat (first | exact Drawn0.refl _ | apply Drawn0.step)⟩
                    · rw [if_neg c9] at H
                      have c9b0 : decide ((wrap64 ((rd_T49 l0 x3_1).f0)) < 2) = false := decide_eq_false c9
                      clear c9
                      have H' := Aside0.mk H
                      clear H
                      go_wp2
                      go_meet
                      case rel => exact ⟨_, (false), (by first | rfl | (simp; done) | (simp [*]; done)), H', ⟨by have := HK1.out; first | omega | exact Nat.le_refl _⟩, by repeat (first | exact Drawn0.refl _ | apply Drawn0.step)⟩
                  · rw [if_neg c8] at H
                    have c8b0 : ((wrap64 ((rd_T49 l0 x3_1).f0)) == 1) = false := beq_eq_false_iff_ne.mpr c8
                    have c8b1 : ((wrap64 ((rd_T49 l0 x3_1).f0)) != 1) = true := bne_iff_ne.mpr c8
                    by_cases c10 : (((rd_T49 l0 x3_1).f2).length : Int) > 0
                    · rw [if_pos c10] at H
                      have c10b0 : decide (0 < (((rd_T49 l0 x3_1).f2).length : Int)) = true := decide_eq_true c10
                      have c10b1 : decide (0 < ((rd_T49 l0 x3_1).f2).length) = true := decide_eq_true (by omega)
                      clear c10
                      have H' := Aside0.mk H
                      clear H
                      have p128 : 0 ≤ (x3_1 : Int) := of_decide_eq_true (by first | (with_reducible assumption) | assumption)
                      have q128 : x3_1 < (l0.length : Int) := of_decide_eq_true (by first | (with_reducible assumption) | assumption)
                      obtain ⟨ad128, A128_2, c128_2, A128_3, c128_3, e128, hx128_0, hx128_1, hx128_2, hx128_3, hl128_2, hi128_2, hl128_3, hi128_3⟩ := at_T49 HR0.out x3_1 p128 q128
                      obtain rfl : ad126 = ad128 := (by injection e128)
                      have HR128_2 := Aside0.mk hi128_2
                      have HC128_2 := Aside0.mk hl128_2
                      clear hi128_2 hl128_2
                      have HR128_3 := Aside0.mk hi128_3
                      have HC128_3 := Aside0.mk hl128_3
                      clear hi128_3 hl128_3
                      replace p128 := eq_true p128
                      replace q128 := eq_true q128
                      go_wp2
                      go_meet
                      case rel => exact ⟨_, (true), (by first | rfl | (simp; done) | (simp [*]; done)), H', ⟨by have := HK1.out; first | omega | exact Nat.le_refl _⟩, by repeat (first | exact Drawn0.refl _ | apply Drawn0.step)⟩
                    · rw [if_neg c10] at H
                      have c10b0 : decide (0 < (((rd_T49 l0 x3_1).f2).length : Int)) = false := decide_eq_false c10
                      have c10b1 : decide (0 < ((rd_T49 l0 x3_1).f2).length) = false := decide_eq_false (by omega)
                      clear c10
                      by_cases c11 : (wrap64 ((rd_T49 l0 x3_1).f0)) < 2
                      · rw [if_pos c11] at H
                        have c11b0 : decide ((wrap64 ((rd_T49 l0 x3_1).f0)) < 2) = true := decide_eq_true c11
                        clear c11
                        have H' := Aside0.mk H
                        clear H
                        have p128 : 0 ≤ (x3_1 : Int) := of_decide_eq_true (by first | (with_reducible assumption) | assumption)
                        have q128 : x3_1 < (l0.length : Int) := of_decide_eq_true (by first | (with_reducible assumption) | assumption)
                        obtain ⟨ad128, A128_2, c128_2, A128_3, c128_3, e128, hx128_0, hx128_1, hx128_2, hx128_3, hl128_2, hi128_2, hl128_3, hi128_3⟩ := at_T49 HR0.out x3_1 p128 q128
                        obtain rfl : ad126 = ad128 := (by injection e128)
                        have HR128_2 := Aside0.mk hi128_2
                        have HC128_2 := Aside0.mk hl128_2
                        clear hi128_2 hl128_2
                        have HR128_3 := Aside0.mk hi128_3
                        have HC128_3 := Aside0.mk hl128_3
                        clear hi128_3 hl128_3
                        replace p128 := eq_true p128
                        replace q128 := eq_true q128
                        have p129 : 0 ≤ (x3_1 : Int) := of_decide_eq_true (by first | (with_reducible assumption) | assumption)
                        have q129 : x3_1 < (l0.length : Int) := of_decide_eq_true (by first | (with_reducible assumption) | assumption)
                        obtain ⟨ad129, A129_2, c129_2, A129_3, c129_3, e129, hx129_0, hx129_1, hx129_2, hx129_3, hl129_2, hi129_2, hl129_3, hi129_3⟩ := at_T49 HR0.out x3_1 p129 q129
                        obtain rfl : ad126 = ad129 := (by injection e129)
                        have HR129_2 := Aside0.mk hi129_2
                        have HC129_2 := Aside0.mk hl129_2
                        clear hi129_2 hl129_2
                        have HR129_3 := Aside0.mk hi129_3
                        have HC129_3 := Aside0.mk hl129_3
                        clear hi129_3 hl129_3
                        replace p129 := eq_true p129
                        replace q129 := eq_true q129
                        have ea_ := Option.some.inj (hx128_2.symm.trans hx129_2)
                        injection ea_ with ea_ en_ ec_
                        subst ea_
                        subst ec_
                        clear en_
                        have ea_ := Option.some.inj (hx128_3.symm.trans hx129_3)
                        injection ea_ with ea_ en_ ec_
                        subst ea_
                        subst ec_
                        clear en_
                        go_wp2
                        go_meet
                        case rel => exact ⟨_, (decide ((((rd_T49 l0 x3_1).f3).length : Int) > 0)), (by first | rfl | (simp; done) | (simp [*]; done)), H', ⟨by have := HK1.out; first | omega | exact Nat.le_refl _⟩, by repeat (first | exact Drawn0.refl _ | apply Drawn0.step)⟩
                      · rw [if_neg c11] at H
                        have c11b0 : decide ((wrap64 ((rd_T49 l0 x3_1).f0)) < 2) = false := decide_eq_false c11
                        clear c11
                        have H' := Aside0.mk H
                        clear H
                        have p128 : 0 ≤ (x3_1 : Int) := of_decide_eq_true (by first | (with_reducible assumption) | assumption)
                        have q128 : x3_1 < (l0.length : Int) := of_decide_eq_true (by first | (with_reducible assumption) | assumption)
                        obtain ⟨ad128, A128_2, c128_2, A128_3, c128_3, e128, hx128_0, hx128_1, hx128_2, hx128_3, hl128_2, hi128_2, hl128_3, hi128_3⟩ := at_T49 HR0.out x3_1 p128 q128
                        obtain rfl : ad126 = ad128 := (by injection e128)
                        have HR128_2 := Aside0.mk hi128_2
                        have HC128_2 := Aside0.mk hl128_2
                        clear hi128_2 hl128_2
                        have HR128_3 := Aside0.mk hi128_3
                        have HC128_3 := Aside0.mk hl128_3
                        clear hi128_3 hl128_3
                        replace p128 := eq_true p128
                        replace q128 := eq_true q128
                        go_wp2
                        go_meet
                        case rel => exact ⟨_, (false), (by first | rfl | (simp; done) | (simp [*]; done)), H', ⟨by have := HK1.out; first | omega | exact Nat.le_refl _⟩, by repeat (first | exact Drawn0.refl _ | apply Drawn0.step)⟩
              case rest =>
                clear HC6
                try clear c1
                try clear p1
                try clear q1
                try clear hx1
                try clear c2
                try clear c2b0
                try clear c2b1
                try clear p2
                try clear c3
                try clear c3b0
                try clear c3b1
                try clear c3b2
                try clear c4
                try clear c4b0
                try clear c5
                try clear c5b0
                try clear p6
                try clear c7
                try clear c7b0
                try clear c8
                try clear c8b0
                try clear c8b1
                try clear c9
                try clear c9b0
                try clear c10
                try clear c10b0
                try clear c10b1
                try clear c11
                try clear c11b0
                try clear hx126_0
                try clear hx126_1
                try clear hx126_2
                try clear hx126_3
                try clear hx127_0
                try clear hx127_1
                try clear hx127_2
                try clear hx127_3
                try clear hx128_0
                try clear hx128_1
                try clear hx128_2
                try clear hx128_3
                try clear hx129_0
                try clear hx129_1
                try clear hx129_2
                try clear hx129_3
                try clear p126
                try clear p127
                try clear p128
                try clear p129
                try clear p2
                try clear q126
                try clear q127
                try clear q128
                try clear q129
                obtain ⟨kq, x51_5, rfl, HA, HJ5, ⟨mc5, rfl⟩⟩ := hcut
                cases kq with
                | zero => exact absurd HA.out (by simp [bobbinref17_Check.j1])
                | succ kj5 =>
                  have H := HA.out
                  clear HA
                  simp only [bobbinref17_Check.j1] at H
                  by_cases c12 : x51_5 = true
                  · subst c12
                    have H1 : (some 9) = some r := by rw [if_pos rfl] at H; exact H
                    clear H
                    have H := H1
                    clear H1
                    obtain rfl := Option.some.inj H
                    go_wp2
                    go_ret
                    exact ⟨by first | rfl | (simp; done) | (simp [*]; done), by repeat (first | exact Drawn0.refl _ | apply Drawn0.step)⟩
                  · replace c12 := Bool.eq_false_iff.mpr c12
                    subst c12
                    have H1 : (bobbinref17_Check.l1 kj5 l0 x3_1 0) = some r := by rw [if_neg (show ¬ (false = true) by decide)] at H; exact H
                    clear H
                    have H := H1
                    clear H1
                    have H' := Aside0.mk H
                    clear H
                    go_wp2
                    go_loopg [5] kj5 (fun kq v5 w' => ∃ (x5_3 : Int), v5 = .int .i64 x5_3 ∧ Aside0 (bobbinref17_Check.l1 kq l0 x3_1 x5_3 = some r) ∧ Aside0 (kq ≤ kj5) ∧ Drawn0 w w')
                    case atStart => exact ⟨(0), (by first | rfl | (simp; done) | (simp [*]; done)), H', ⟨Nat.le_refl _⟩, by repeat (first | exact Drawn0.refl _ | apply Drawn0.step)⟩
                    case round =>
                      clear H'
                      try clear c1
                      try clear p1
                      try clear q1
                      try clear hx1
                      try clear c2
                      try clear c2b0
                      try clear c2b1
                      try clear p2
                      try clear c3
                      try clear c3b0
                      try clear c3b1
                      try clear c3b2
                      try clear c4
                      try clear c4b0
                      try clear c5
                      try clear c5b0
                      try clear p6
                      try clear c7
                      try clear c7b0
                      try clear c8
                      try clear c8b0
                      try clear c8b1
                      try clear c9
                      try clear c9b0
                      try clear c10
                      try clear c10b0
                      try clear c10b1
                      try clear c11
                      try clear c11b0
                      try clear c12
                      try clear p12
                      try clear q12
                      try clear hx12
                      try clear hx126_0
                      try clear hx126_1
                      try clear hx126_2
                      try clear hx126_3
                      try clear hx127_0
                      try clear hx127_1
                      try clear hx127_2
                      try clear hx127_3
                      try clear hx128_0
                      try clear hx128_1
                      try clear hx128_2
                      try clear hx128_3
                      try clear hx129_0
                      try clear hx129_1
                      try clear hx129_2
                      try clear hx129_3
                      try clear p1
                      try clear p126
                      try clear p127
                      try clear p128
                      try clear p129
                      try clear p2
                      try clear p6
                      try clear q1
                      try clear q126
                      try clear q127
                      try clear q128
                      try clear q129
                      obtain ⟨x5_3, rfl, HA, HK3, ⟨m3, rfl⟩⟩ := hrel
                      cases gk with
                      | zero => exact absurd HA.out (by simp [bobbinref17_Check.l1])
                      | succ k3 =>
                        have H := HA.out
                        clear HA
                        simp only [bobbinref17_Check.l1] at H
                        by_cases c13 : 0 ≤ x3_1
                        · rw [if_pos c13] at H
                          have c13b0 : decide (0 ≤ x3_1) = true := decide_eq_true c13
                          clear c13
                          by_cases c14 : x3_1 < (l0.length : Int)
                          · rw [if_pos c14] at H
                            have c14b0 : decide (x3_1 < (l0.length : Int)) = true := decide_eq_true c14
                            clear c14
                            by_cases c15 : x5_3 < (((rd_T49 l0 x3_1).f3).length : Int)
                            · rw [if_pos c15] at H
                              have c15b0 : decide (x5_3 < (((rd_T49 l0 x3_1).f3).length : Int)) = true := decide_eq_true c15
                              clear c15
                              by_cases c16 : 0 ≤ x5_3
                              · rw [if_pos c16] at H
                                have c16b0 : decide (0 ≤ x5_3) = true := decide_eq_true c16
                                clear c16
                                by_cases c17 : (rd ((rd_T49 l0 x3_1).f3) x5_3) ≤ x3_1
                                · rw [if_pos c17] at H
                                  have c17b0 : decide ((rd ((rd_T49 l0 x3_1).f3) x5_3) ≤ x3_1) = true := decide_eq_true c17
                                  clear c17
                                  obtain rfl := Option.some.inj H
                                  have p130 : 0 ≤ (x3_1 : Int) := of_decide_eq_true (by first | (with_reducible assumption) | assumption)
                                  have q130 : x3_1 < (l0.length : Int) := of_decide_eq_true (by first | (with_reducible assumption) | assumption)
                                  obtain ⟨ad130, A130_2, c130_2, A130_3, c130_3, e130, hx130_0, hx130_1, hx130_2, hx130_3, hl130_2, hi130_2, hl130_3, hi130_3⟩ := at_T49 HR0.out x3_1 p130 q130
                                  obtain rfl : ad126 = ad130 := (by injection e130)
                                  have HR130_2 := Aside0.mk hi130_2
                                  have HC130_2 := Aside0.mk hl130_2
                                  clear hi130_2 hl130_2
                                  have HR130_3 := Aside0.mk hi130_3
                                  have HC130_3 := Aside0.mk hl130_3
                                  clear hi130_3 hl130_3
                                  replace p130 := eq_true p130
                                  replace q130 := eq_true q130
                                  have p131 : 0 ≤ (x3_1 : Int) := of_decide_eq_true (by first | (with_reducible assumption) | assumption)
                                  have q131 : x3_1 < (l0.length : Int) := of_decide_eq_true (by first | (with_reducible assumption) | assumption)
                                  obtain ⟨ad131, A131_2, c131_2, A131_3, c131_3, e131, hx131_0, hx131_1, hx131_2, hx131_3, hl131_2, hi131_2, hl131_3, hi131_3⟩ := at_T49 HR0.out x3_1 p131 q131
                                  obtain rfl : ad126 = ad131 := (by injection e131)
                                  have HR131_2 := Aside0.mk hi131_2
                                  have HC131_2 := Aside0.mk hl131_2
                                  clear hi131_2 hl131_2
                                  have HR131_3 := Aside0.mk hi131_3
                                  have HC131_3 := Aside0.mk hl131_3
                                  clear hi131_3 hl131_3
                                  replace p131 := eq_true p131
                                  replace q131 := eq_true q131
                                  have ea_ := Option.some.inj (hx130_2.symm.trans hx131_2)
                                  injection ea_ with ea_ en_ ec_
                                  subst ea_
                                  subst ec_
                                  clear en_
                                  have ea_ := Option.some.inj (hx130_3.symm.trans hx131_3)
                                  injection ea_ with ea_ en_ ec_
                                  subst ea_
                                  subst ec_
                                  clear en_
                                  have p132 : 0 ≤ (x5_3 : Int) := of_decide_eq_true (by first | (with_reducible assumption) | assumption)
                                  have q132 : x5_3 < (((rd_T49 l0 x3_1).f3).length : Int) := of_decide_eq_true (by first | (with_reducible assumption) | assumption)
                                  obtain ⟨ad132, e132, hx132_0⟩ := Kd.at_int HR131_3.out x5_3 p132 q132
                                  cases e132
                                  replace p132 := eq_true p132
                                  replace q132 := eq_true q132
                                  go_wp2
                                  go_ret
                                  exact ⟨by first | rfl | (simp; done) | (simp [*]; done), by repeat (first | exact Drawn0.refl _ | apply Drawn0.step)⟩
                                · rw [if_neg c17] at H
                                  have c17b0 : decide ((rd ((rd_T49 l0 x3_1).f3) x5_3) ≤ x3_1) = false := decide_eq_false c17
                                  clear c17
                                  by_cases c18 : (rd ((rd_T49 l0 x3_1).f3) x5_3) ≥ (l0.length : Int)
                                  · rw [if_pos c18] at H
                                    have c18b0 : decide ((l0.length : Int) ≤ (rd ((rd_T49 l0 x3_1).f3) x5_3)) = true := decide_eq_true c18
                                    clear c18
                                    obtain rfl := Option.some.inj H
                                    have p130 : 0 ≤ (x3_1 : Int) := of_decide_eq_true (by first | (with_reducible assumption) | assumption)
                                    have q130 : x3_1 < (l0.length : Int) := of_decide_eq_true (by first | (with_reducible assumption) | assumption)
                                    obtain ⟨ad130, A130_2, c130_2, A130_3, c130_3, e130, hx130_0, hx130_1, hx130_2, hx130_3, hl130_2, hi130_2, hl130_3, hi130_3⟩ := at_T49 HR0.out x3_1 p130 q130
                                    obtain rfl : ad126 = ad130 := (by injection e130)
                                    have HR130_2 := Aside0.mk hi130_2
                                    have HC130_2 := Aside0.mk hl130_2
                                    clear hi130_2 hl130_2
                                    have HR130_3 := Aside0.mk hi130_3
                                    have HC130_3 := Aside0.mk hl130_3
                                    clear hi130_3 hl130_3
                                    replace p130 := eq_true p130
                                    replace q130 := eq_true q130
                                    have p131 : 0 ≤ (x3_1 : Int) := of_decide_eq_true (by first | (with_reducible assumption) | assumption)
                                    have q131 : x3_1 < (l0.length : Int) := of_decide_eq_true (by first | (with_reducible assumption) | assumption)
                                    obtain ⟨ad131, A131_2, c131_2, A131_3, c131_3, e131, hx131_0, hx131_1, hx131_2, hx131_3, hl131_2, hi131_2, hl131_3, hi131_3⟩ := at_T49 HR0.out x3_1 p131 q131
                                    obtain rfl : ad126 = ad131 := (by injection e131)
                                    have HR131_2 := Aside0.mk hi131_2
                                    have HC131_2 := Aside0.mk hl131_2
                                    clear hi131_2 hl131_2
                                    have HR131_3 := Aside0.mk hi131_3
                                    have HC131_3 := Aside0.mk hl131_3
                                    clear hi131_3 hl131_3
                                    replace p131 := eq_true p131
                                    replace q131 := eq_true q131
                                    have ea_ := Option.some.inj (hx130_2.symm.trans hx131_2)
                                    injection ea_ with ea_ en_ ec_
                                    subst ea_
                                    subst ec_
                                    clear en_
                                    have ea_ := Option.some.inj (hx130_3.symm.trans hx131_3)
                                    injection ea_ with ea_ en_ ec_
                                    subst ea_
                                    subst ec_
                                    clear en_
                                    have p132 : 0 ≤ (x5_3 : Int) := of_decide_eq_true (by first | (with_reducible assumption) | assumption)
                                    have q132 : x5_3 < (((rd_T49 l0 x3_1).f3).length : Int) := of_decide_eq_true (by first | (with_reducible assumption) | assumption)
                                    obtain ⟨ad132, e132, hx132_0⟩ := Kd.at_int HR131_3.out x5_3 p132 q132
                                    cases e132
                                    replace p132 := eq_true p132
                                    replace q132 := eq_true q132
                                    have p133 : 0 ≤ (x3_1 : Int) := of_decide_eq_true (by first | (with_reducible assumption) | assumption)
                                    have q133 : x3_1 < (l0.length : Int) := of_decide_eq_true (by first | (with_reducible assumption) | assumption)
                                    obtain ⟨ad133, A133_2, c133_2, A133_3, c133_3, e133, hx133_0, hx133_1, hx133_2, hx133_3, hl133_2, hi133_2, hl133_3, hi133_3⟩ := at_T49 HR0.out x3_1 p133 q133
                                    obtain rfl : ad126 = ad133 := (by injection e133)
                                    have HR133_2 := Aside0.mk hi133_2
                                    have HC133_2 := Aside0.mk hl133_2
                                    clear hi133_2 hl133_2
                                    have HR133_3 := Aside0.mk hi133_3
                                    have HC133_3 := Aside0.mk hl133_3
                                    clear hi133_3 hl133_3
                                    replace p133 := eq_true p133
                                    replace q133 := eq_true q133
                                    have ea_ := Option.some.inj (hx130_2.symm.trans hx133_2)
                                    injection ea_ with ea_ en_ ec_
                                    subst ea_
                                    subst ec_
                                    clear en_
                                    have ea_ := Option.some.inj (hx130_3.symm.trans hx133_3)
                                    injection ea_ with ea_ en_ ec_
                                    subst ea_
                                    subst ec_
                                    clear en_
                                    have p134 : 0 ≤ (x5_3 : Int) := of_decide_eq_true (by first | (with_reducible assumption) | assumption)
                                    have q134 : x5_3 < (((rd_T49 l0 x3_1).f3).length : Int) := of_decide_eq_true (by first | (with_reducible assumption) | assumption)
                                    obtain ⟨ad134, e134, hx134_0⟩ := Kd.at_int HR133_3.out x5_3 p134 q134
                                    cases e134
                                    replace p134 := eq_true p134
                                    replace q134 := eq_true q134
                                    go_wp2
                                    go_ret
                                    exact ⟨by first | rfl | (simp; done) | (simp [*]; done), by repeat (first | exact Drawn0.refl _ | apply Drawn0.step)⟩
                                  · rw [if_neg c18] at H
                                    have c18b0 : decide ((l0.length : Int) ≤ (rd ((rd_T49 l0 x3_1).f3) x5_3)) = false := decide_eq_false c18
                                    clear c18
                                    have H' := Aside0.mk H
                                    clear H
                                    have p130 : 0 ≤ (x3_1 : Int) := of_decide_eq_true (by first | (with_reducible assumption) | assumption)
                                    have q130 : x3_1 < (l0.length : Int) := of_decide_eq_true (by first | (with_reducible assumption) | assumption)
                                    obtain ⟨ad130, A130_2, c130_2, A130_3, c130_3, e130, hx130_0, hx130_1, hx130_2, hx130_3, hl130_2, hi130_2, hl130_3, hi130_3⟩ := at_T49 HR0.out x3_1 p130 q130
                                    obtain rfl : ad126 = ad130 := (by injection e130)
                                    have HR130_2 := Aside0.mk hi130_2
                                    have HC130_2 := Aside0.mk hl130_2
                                    clear hi130_2 hl130_2
                                    have HR130_3 := Aside0.mk hi130_3
                                    have HC130_3 := Aside0.mk hl130_3
                                    clear hi130_3 hl130_3
                                    replace p130 := eq_true p130
                                    replace q130 := eq_true q130
                                    have p131 : 0 ≤ (x3_1 : Int) := of_decide_eq_true (by first | (with_reducible assumption) | assumption)
                                    have q131 : x3_1 < (l0.length : Int) := of_decide_eq_true (by first | (with_reducible assumption) | assumption)
                                    obtain ⟨ad131, A131_2, c131_2, A131_3, c131_3, e131, hx131_0, hx131_1, hx131_2, hx131_3, hl131_2, hi131_2, hl131_3, hi131_3⟩ := at_T49 HR0.out x3_1 p131 q131
                                    obtain rfl : ad126 = ad131 := (by injection e131)
                                    have HR131_2 := Aside0.mk hi131_2
                                    have HC131_2 := Aside0.mk hl131_2
                                    clear hi131_2 hl131_2
                                    have HR131_3 := Aside0.mk hi131_3
                                    have HC131_3 := Aside0.mk hl131_3
                                    clear hi131_3 hl131_3
                                    replace p131 := eq_true p131
                                    replace q131 := eq_true q131
                                    have ea_ := Option.some.inj (hx130_2.symm.trans hx131_2)
                                    injection ea_ with ea_ en_ ec_
                                    subst ea_
                                    subst ec_
                                    clear en_
                                    have ea_ := Option.some.inj (hx130_3.symm.trans hx131_3)
                                    injection ea_ with ea_ en_ ec_
                                    subst ea_
                                    subst ec_
                                    clear en_
                                    have p132 : 0 ≤ (x5_3 : Int) := of_decide_eq_true (by first | (with_reducible assumption) | assumption)
                                    have q132 : x5_3 < (((rd_T49 l0 x3_1).f3).length : Int) := of_decide_eq_true (by first | (with_reducible assumption) | assumption)
                                    obtain ⟨ad132, e132, hx132_0⟩ := Kd.at_int HR131_3.out x5_3 p132 q132
                                    cases e132
                                    replace p132 := eq_true p132
                                    replace q132 := eq_true q132
                                    have p133 : 0 ≤ (x3_1 : Int) := of_decide_eq_true (by first | (with_reducible assumption) | assumption)
                                    have q133 : x3_1 < (l0.length : Int) := of_decide_eq_true (by first | (with_reducible assumption) | assumption)
                                    obtain ⟨ad133, A133_2, c133_2, A133_3, c133_3, e133, hx133_0, hx133_1, hx133_2, hx133_3, hl133_2, hi133_2, hl133_3, hi133_3⟩ := at_T49 HR0.out x3_1 p133 q133
                                    obtain rfl : ad126 = ad133 := (by injection e133)
                                    have HR133_2 := Aside0.mk hi133_2
                                    have HC133_2 := Aside0.mk hl133_2
                                    clear hi133_2 hl133_2
                                    have HR133_3 := Aside0.mk hi133_3
                                    have HC133_3 := Aside0.mk hl133_3
                                    clear hi133_3 hl133_3
                                    replace p133 := eq_true p133
                                    replace q133 := eq_true q133
                                    have ea_ := Option.some.inj (hx130_2.symm.trans hx133_2)
                                    injection ea_ with ea_ en_ ec_
                                    subst ea_
                                    subst ec_
                                    clear en_
                                    have ea_ := Option.some.inj (hx130_3.symm.trans hx133_3)
                                    injection ea_ with ea_ en_ ec_
                                    subst ea_
                                    subst ec_
                                    clear en_
                                    have p134 : 0 ≤ (x5_3 : Int) := of_decide_eq_true (by first | (with_reducible assumption) | assumption)
                                    have q134 : x5_3 < (((rd_T49 l0 x3_1).f3).length : Int) := of_decide_eq_true (by first | (with_reducible assumption) | assumption)
                                    obtain ⟨ad134, e134, hx134_0⟩ := Kd.at_int HR133_3.out x5_3 p134 q134
                                    cases e134
                                    replace p134 := eq_true p134
                                    replace q134 := eq_true q134
                                    go_wp2
                                    go_roundg k3
                                    case measure => have := HK1.out; have := HJ5.out; have := HK3.out; omega
                                    case rel => exact ⟨(wrap64 (x5_3 + 1)), (by first | rfl | (simp; done) | (simp [*]; done)), H', ⟨by have := HK1.out; have := HJ5.out; have := HK3.out; omega⟩, by repeat (first | exact Drawn0.refl _ | apply Drawn0.step)⟩
                              · rw [if_neg c16] at H
                                exact absurd H (by simp)
                            · rw [if_neg c15] at H
                              have c15b0 : decide (x5_3 < (((rd_T49 l0 x3_1).f3).length : Int)) = false := decide_eq_false c15
                              clear c15
                              have H' := Aside0.mk H
                              clear H
                              have p130 : 0 ≤ (x3_1 : Int) := of_decide_eq_true (by first | (with_reducible assumption) | assumption)
                              have q130 : x3_1 < (l0.length : Int) := of_decide_eq_true (by first | (with_reducible assumption) | assumption)
                              obtain ⟨ad130, A130_2, c130_2, A130_3, c130_3, e130, hx130_0, hx130_1, hx130_2, hx130_3, hl130_2, hi130_2, hl130_3, hi130_3⟩ := at_T49 HR0.out x3_1 p130 q130
                              obtain rfl : ad126 = ad130 := (by injection e130)
                              have HR130_2 := Aside0.mk hi130_2
                              have HC130_2 := Aside0.mk hl130_2
                              clear hi130_2 hl130_2
                              have HR130_3 := Aside0.mk hi130_3
                              have HC130_3 := Aside0.mk hl130_3
                              clear hi130_3 hl130_3
                              replace p130 := eq_true p130
                              replace q130 := eq_true q130
                              go_wp2
                              go_roundg k3
                              case measure => have := HK1.out; have := HJ5.out; have := HK3.out; omega
                              case rel => exact ⟨(wrap64 (x3_1 + 1)), (by first | rfl | (simp; done) | (simp [*]; done)), H', ⟨by have := HK1.out; have := HJ5.out; have := HK3.out; omega⟩, by repeat (first | exact Drawn0.refl _ | apply Drawn0.step)⟩
                          · rw [if_neg c14] at H
                            exact absurd H (by simp)
                        · rw [if_neg c13] at H
                          exact absurd H (by simp)
            · rw [if_neg c5] at H
              exact absurd H (by simp)
          · rw [if_neg c4] at H
            have c4b0 : decide (x3_1 < (l0.length : Int)) = false := decide_eq_false c4
            clear c4
            obtain rfl := Option.some.inj H
            go_wp2
            go_ret
            exact ⟨by first | rfl | (simp; done) | (simp [*]; done), by repeat (first | exact Drawn0.refl _ | apply Drawn0.step)⟩

/-! ### bobbinlaw17_DataChecks: function 6 -/
def bobbinlaw17_DataChecks.f (k : Nat) (l0 : List (S49)) : Option (Bool) := (bobbinlaw17_awake.f k).bind fun t135 => (if t135 = true then ((data_Check.f k l0).bind fun t136 => ((bobbinref17_Check.f k l0).bind fun t137 => (some (t136 == t137)))) else (some false))
theorem bobbinlaw17_DataChecks.mono : ∀ a0 k, LeO (bobbinlaw17_DataChecks.f k a0) (bobbinlaw17_DataChecks.f (k + 1) a0) := by
  intro a0 k
  unfold bobbinlaw17_DataChecks.f
  repeat' first
      | (with_reducible exact bobbinlaw17_awake.mono _)
      | (with_reducible exact bobbinref17_Check.mono _ _)
      | (with_reducible exact data_Check.mono _ _)
      | (with_reducible exact LeO.refl _)
      | (with_reducible exact LeO.none _)
      | (with_reducible refine LeO.ite ?_ ?_)
      | (with_reducible refine LeO.bind ?_ (fun _ => ?_))
      | exact bobbinlaw17_awake.mono _
      | exact bobbinref17_Check.mono _ _
      | exact data_Check.mono _ _
      | exact LeO.none _
      | refine LeO.ite ?_ ?_
      | refine LeO.bind ?_ (fun _ => ?_)
set_option maxHeartbeats 8000000 in
set_option maxRecDepth 100000 in
theorem bobbinlaw17_DataChecks.calls (k : Nat) (A0 : Option Addr) (c0 : Nat) (l0 : List (S49)) (r : Bool) (w : World) (hr0 : Kd.C k49 w A0 l0.length l0) (hc0 : l0.length ≤ c0) (h : bobbinlaw17_DataChecks.f k l0 = some r) :
    Calls Try.prog 6 #[.slice A0 l0.length c0] w fun e w' => e = .returned (.bool r) ∧ Below w.heap.size w w' := by
  have HR0 := Aside0.mk hr0
  have HC0 := Aside0.mk hc0
  clear hr0 hc0
  have HB := Aside0.mk (Below.refl w.heap.size w)
  have H : ((bobbinlaw17_awake.f k).bind fun t135 => (if t135 = true then ((data_Check.f k l0).bind fun t136 => ((bobbinref17_Check.f k l0).bind fun t137 => (some (t136 == t137)))) else (some false))) = some r := h
  clear h
  replace H := Option.bind_eq_some_iff.mp H
  obtain ⟨t135, A20, H⟩ := H
  replace H : (if t135 = true then ((data_Check.f k l0).bind fun t136 => ((bobbinref17_Check.f k l0).bind fun t137 => (some (t136 == t137)))) else (some false)) = some r := H
  have A2 := Aside0.mk A20
  clear A20
  by_cases c3 : t135 = true
  · subst c3
    have H1 : ((data_Check.f k l0).bind fun t136 => ((bobbinref17_Check.f k l0).bind fun t137 => (some (t136 == t137)))) = some r := by rw [if_pos rfl] at H; exact H
    clear H
    have H := H1
    clear H1
    replace H := Option.bind_eq_some_iff.mp H
    obtain ⟨t136, A40, H⟩ := H
    replace H : ((bobbinref17_Check.f k l0).bind fun t137 => (some (t136 == t137))) = some r := H
    have A4 := Aside0.mk A40
    clear A40
    replace H := Option.bind_eq_some_iff.mp H
    obtain ⟨t137, A50, H⟩ := H
    replace H : (some (t136 == t137)) = some r := H
    have A5 := Aside0.mk A50
    clear A50
    obtain rfl := Option.some.inj H
    go_enter Try.func6, Try.ntmps6
    go_wp2_with (first | ((with_reducible refine gate_callee (f := 11) rfl ?_); refine goesL_ (some 3) rfl rfl Try.func11 (by kernel_rfl) rfl #[] rfl (by (try simp only [List.map_toArray, List.map_cons, List.map_nil]); first | done | rfl | (simp only [List.length_drop, List.length_take]; rfl)) ?_; (with_reducible refine (bobbinlaw17_awake.calls k  true _ A2.out).mono ?_); rintro e w6 ⟨rfl, hb⟩; refine ⟨_, rfl, ?_⟩; have n0_ := Aside0.mk (below_step (by repeat (first | (with_reducible first | exact HB.out | apply below_alloc | apply pw_below_drewN | apply below_drew1) | exact HB.out)) hb); clear HB; have HB := n0_; clear n0_; (try clear hb); (try clear hb2); (try clear hk); (try clear hi)) | (go_at_call 18; (with_reducible refine (data_Check.calls k _ _ l0 t136 _ ?side1 ?side2 A4.out).mono ?_); (case side1 => repeat (first | exact (Kd.C_below HR0.out HB.out) | (with_reducible refine Kd.C_alloc ?_ _) | (with_reducible refine Kd.C_drewN ?_ _) | (with_reducible refine Kd.C_drew ?_))); (case side2 => exact HC0.out); rintro e w7 ⟨rfl, hb⟩; have n0_ := Aside0.mk (below_step (by repeat (first | (with_reducible first | exact HB.out | apply below_alloc | apply pw_below_drewN | apply below_drew1) | exact HB.out)) hb); clear HB; have HB := n0_; clear n0_; (try clear hb); (try clear hb2); (try clear hk); (try clear hi)) | (go_at_call 19; (with_reducible refine (bobbinref17_Check.calls k _ _ l0 t137 _ ?side1 ?side2 A5.out).mono ?_); (case side1 => repeat (first | exact (Kd.C_below HR0.out HB.out) | (with_reducible refine Kd.C_alloc ?_ _) | (with_reducible refine Kd.C_drewN ?_ _) | (with_reducible refine Kd.C_drew ?_))); (case side2 => exact HC0.out); rintro e w' ⟨rfl, ⟨nd, rfl⟩⟩))
    go_ret
    exact ⟨by first | rfl | (simp [errW_none, errW_some] <;> rfl) | (simp [*, errW_none, errW_some] <;> rfl), by repeat (first | (with_reducible first | exact HB.out | apply below_alloc | apply pw_below_drewN | apply below_drew1) | exact HB.out)⟩
  · replace c3 := Bool.eq_false_iff.mpr c3
    subst c3
    have H1 : (some false) = some r := by rw [if_neg (show ¬ (false = true) by decide)] at H; exact H
    clear H
    have H := H1
    clear H1
    obtain rfl := Option.some.inj H
    go_enter Try.func6, Try.ntmps6
    go_wp2_with (first | ((with_reducible refine gate_callee (f := 11) rfl ?_); refine goesL_ (some 3) rfl rfl Try.func11 (by kernel_rfl) rfl #[] rfl (by (try simp only [List.map_toArray, List.map_cons, List.map_nil]); first | done | rfl | (simp only [List.length_drop, List.length_take]; rfl)) ?_; (with_reducible refine (bobbinlaw17_awake.calls k  false _ A2.out).mono ?_); rintro e w8 ⟨rfl, hb⟩; refine ⟨_, rfl, ?_⟩; have n0_ := Aside0.mk (below_step (by repeat (first | (with_reducible first | exact HB.out | apply below_alloc | apply pw_below_drewN | apply below_drew1) | exact HB.out)) hb); clear HB; have HB := n0_; clear n0_; (try clear hb); (try clear hb2); (try clear hk); (try clear hi)))
    go_ret
    exact ⟨by first | rfl | (simp [errW_none, errW_some] <;> rfl) | (simp [*, errW_none, errW_some] <;> rfl), by repeat (first | (with_reducible first | exact HB.out | apply below_alloc | apply pw_below_drewN | apply below_drew1) | exact HB.out)⟩

end Go.Proofs.Ytclanebbalgpfaa.PDataChecks
