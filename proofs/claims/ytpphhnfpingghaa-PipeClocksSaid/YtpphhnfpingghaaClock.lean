/-
  The calls of pipe.Clock's methods, of NewClock, and of the document's clock: what they answer, what becomes of the clock, and that nothing else is changed. Conditions: as each theorem says.
-/
import Derived.Test.YtpphhnfpingghaaPipeAwake
import Derived.RegionTactic
import Derived.StillTailTactics
import Derived.IntWalk
import Derived.BigRegion
import Derived.BigQuiet
import Derived.Deep.QuietTactic
namespace Go.Proofs.Ytpphhnfpingghaa.Clocks
open Go.RowKit Go.Proofs.YtpphhnfpingghaaW.PrintWords Go.Proofs.YtpphhnfpingghaaW.PrintLast Go.Proofs.YtpphhnfpingghaaW.PrintMore Go.Proofs.Ytpphhnfpingghaa.Pipe
attribute [local go_sem] max2_int min2_int max_two min_two max_three min_three max_four min_four
set_option linter.unusedVariables false
set_option linter.unusedSimpArgs false

/-- A clock at block g (type t): how far it is, and its end. -/
def Ck (t : Nat) (w : World) (g : Nat) (now last : Int) : Prop := w.heap[g]? = some (.cells #[.int .i64 now, .int .i64 last] t (0, 0))
theorem Ck.step {t : Nat} {w w1 : World} {g : Nat} {now last : Int} (h : Ck t w g now last) (hk : w1.heap[g]? = w.heap[g]?) : Ck t w1 g now last := hk.trans h
theorem Ck.set {t : Nat} {w : World} {g : Nat} {now last : Int} (h : Ck t w g now last) (x : Int) : Ck t (w.setCell ⟨g, 0, none⟩ (.int .i64 x)) g x last := by
  have := Joins.block_setCell (i := 0) h (.int .i64 x)
  exact (by simpa using this : (w.setCell ⟨g, 0, none⟩ (.int .i64 x)).heap[g]? = some (.cells #[.int .i64 x, .int .i64 last] t (0, 0)))

set_option maxHeartbeats 8000000 in
set_option maxRecDepth 100000 in
theorem tick_moves (w0 w : World) (base g : Nat) (now last n : Int) (hC : Ck 60 w g now last) (hg : base ≤ g) (hB : Below base w0 w) (h0 : 0 ≤ now) (h1 : now ≤ last) (h2 : 0 < n) (h3 : 0 < last) (h4 : last ≤ 9223372036854775807) (h5 : n ≤ 9223372036854775807) (m : Int) (hm : (n ≤ last - now → m = now + n) ∧ (last - now < n → m = last)) :
    Calls Try.prog 27 #[.pointer (some ⟨g, 0, none⟩), .int .i64 n] w fun e w' => e = .returned (.bool (decide (last ≤ m))) ∧ Ck 60 w' g m last ∧ Kept w w' (fun k => k = g) ∧ Below base w0 w' := by
  have c0 : w.cell? ⟨g, 0, none⟩ = some (.int .i64 now) := block_cell (i := 0) hC rfl
  have c1 : w.cell? ⟨g, 1, none⟩ = some (.int .i64 last) := block_cell (i := 1) hC rfl
  have f0 := Joins.unfrozen_of_block hC 0
  have HC := Aside0.mk hC
  have HB := Aside0.mk hB
  have d1 : decide (0 < n) = true := decide_eq_true h2
  have d2 : decide (0 < last) = true := decide_eq_true h3
  clear hC hB
  have HG := Aside0.mk hg
  have HM := Aside0.mk hm
  clear hm hg
  go_enter Try.func27, Try.ntmps27
  go_upto_region 4 with (fail)
  go_cut [] (fun wc => Aside0 (Ck 60 wc g m last) ∧ Aside0 (Kept w wc (fun k => k = g)) ∧ Aside0 (Below base w0 wc))
  case first =>
    by_cases c : n ≤ last - now
    · obtain rfl : m = now + n := HM.out.1 c
      have e2 : IntKind.i64.wrap (last - now) = last - now := IntWalk.i64_in _ (by omega)
      have e3 : IntKind.i64.wrap (now + n) = now + n := by rw [show now + n = now + n by omega]; exact IntWalk.i64_in _ (by omega)
      have e4 : (if last - now < n then last - now else n) = n := if_neg (by omega)
      go_still_tail 16, (by kernel_rfl)
      change wpList _ _ _ _ _ w.drew
      go_wp2
      go_meet
      exact ⟨⟨(HC.out.set (now + n))⟩, ⟨(Kept.refl w (fun k => k = g)).setCell (p := ⟨g, 0, none⟩) (.inl rfl) _⟩, ⟨below_drew1 (HB.out.setCell (p := ⟨g, 0, none⟩) HG.out _)⟩⟩
    · obtain rfl : m = last := HM.out.2 (by omega)
      have e2 : IntKind.i64.wrap (m - now) = m - now := IntWalk.i64_in _ (by omega)
      have e3 : IntKind.i64.wrap (now + (m - now)) = m := by rw [show now + (m - now) = m by omega]; exact IntWalk.i64_in _ (by omega)
      have e4 : (if m - now < n then m - now else n) = m - now := if_pos (by omega)
      go_still_tail 16, (by kernel_rfl)
      change wpList _ _ _ _ _ w.drew
      go_wp2
      go_meet
      exact ⟨⟨(HC.out.set (m))⟩, ⟨(Kept.refl w (fun k => k = g)).setCell (p := ⟨g, 0, none⟩) (.inl rfl) _⟩, ⟨below_drew1 (HB.out.setCell (p := ⟨g, 0, none⟩) HG.out _)⟩⟩
  case rest =>
    obtain ⟨HC2, HK2, HB2⟩ := hcut
    have hm2 : m ≤ last := by have := HM.out; omega
    clear c0 c1 f0
    have c0 : wc.cell? ⟨g, 0, none⟩ = some (.int .i64 m) := block_cell (i := 0) HC2.out rfl
    have c1 : wc.cell? ⟨g, 1, none⟩ = some (.int .i64 last) := block_cell (i := 1) HC2.out rfl
    go_wp2
    go_quiet (fail)
    go_wp2
    go_ret
    exact ⟨rfl, HC2.out.step rfl, HK2.out, pw_below_drewN HB2.out _⟩

set_option maxHeartbeats 8000000 in
set_option maxRecDepth 100000 in
theorem tick_stays (w : World) (g : Nat) (now last n : Int) (hC : Ck 60 w g now last) (h2 : n ≤ 0 ∨ last ≤ 0) (b : Bool) (hb : b = (decide (0 < last) && decide (last ≤ now))) :
    Calls Try.prog 27 #[.pointer (some ⟨g, 0, none⟩), .int .i64 n] w fun e w' => e = .returned (.bool b) ∧ Drawn0 w w' := by
  have c0 : w.cell? ⟨g, 0, none⟩ = some (.int .i64 now) := block_cell (i := 0) hC rfl
  have c1 : w.cell? ⟨g, 1, none⟩ = some (.int .i64 last) := block_cell (i := 1) hC rfl
  clear hC
  by_cases d1 : 0 < n
  · have d2 : ¬ 0 < last := by omega
    have e1 : decide (0 < n) = true := decide_eq_true d1
    have e2 : decide (0 < last) = false := decide_eq_false d2
    rw [e2, Bool.false_and] at hb
    subst hb
    clear d1 d2 h2
    go_enter Try.func27, Try.ntmps27
    go_wp2
    go_quiet (fail)
    go_wp2
    go_ret
    exact ⟨rfl, ⟨⟨_, rfl⟩⟩⟩
  · have e1 : decide (0 < n) = false := decide_eq_false d1
    by_cases d2 : 0 < last
    · have e2 : decide (0 < last) = true := decide_eq_true d2
      rw [e2, Bool.true_and] at hb
      subst hb
      clear d1 d2 h2
      go_enter Try.func27, Try.ntmps27
      go_wp2
      go_quiet (fail)
      go_wp2
      go_ret
      exact ⟨rfl, ⟨⟨_, rfl⟩⟩⟩
    · have e2 : decide (0 < last) = false := decide_eq_false d2
      rw [e2, Bool.false_and] at hb
      subst hb
      clear d1 d2 h2
      go_enter Try.func27, Try.ntmps27
      go_wp2
      go_quiet (fail)
      go_wp2
      go_ret
      exact ⟨rfl, ⟨⟨_, rfl⟩⟩⟩
set_option maxHeartbeats 8000000 in
theorem tick_nil (w : World) (n : Int) : Calls Try.prog 27 #[.pointer none, .int .i64 n] w fun e w' => e = .returned (.bool false) ∧ w = w' := by
  go_enter Try.func27, Try.ntmps27
  go_wp2
  go_ret
  exact ⟨rfl, rfl⟩
set_option maxHeartbeats 8000000 in
theorem now_calls (w : World) (g : Nat) (now last : Int) (hC : Ck 60 w g now last) : Calls Try.prog 29 #[.pointer (some ⟨g, 0, none⟩)] w fun e w' => e = .returned (.int .i64 now) ∧ w = w' := by
  have c0 : w.cell? ⟨g, 0, none⟩ = some (.int .i64 now) := block_cell (i := 0) hC rfl
  clear hC
  go_enter Try.func29, Try.ntmps29
  go_wp2
  go_ret
  exact ⟨rfl, rfl⟩
set_option maxHeartbeats 8000000 in
theorem now_nil (w : World) : Calls Try.prog 29 #[.pointer none] w fun e w' => e = .returned (.int .i64 0) ∧ w = w' := by
  go_enter Try.func29, Try.ntmps29
  go_wp2
  go_ret
  exact ⟨rfl, rfl⟩
set_option maxHeartbeats 8000000 in
theorem new_calls (w : World) (d m : Int) (hm : (0 < d → m = d) ∧ (d ≤ 0 → m = 0)) : Calls Try.prog 26 #[.int .i64 d] w fun e w' => e = .returned (.pointer (some ⟨w.heap.size, 0, none⟩)) ∧ Ck 60 w' w.heap.size 0 m ∧ Below w.heap.size w w' := by
  have HM := Aside0.mk hm
  clear hm
  go_enter Try.func26, Try.ntmps26
  go_wp2
  all_goals
    go_ret
    refine ⟨rfl, ?_, below_alloc (Below.refl _ _) _⟩
    have hm := HM.out
    first
    | (have e : d ≤ 0 := by first | assumption | omega
       obtain rfl : m = 0 := hm.2 e
       exact heap_alloc_new w _)
    | (have e : 0 < d := by first | assumption | omega
       obtain rfl : m = d := hm.1 e
       exact heap_alloc_new w _)
    | (have e : 0 ≤ d := by first | assumption | omega
       have e2 : m = d := by rcases Int.lt_or_le 0 d with h | h
                             · exact hm.1 h
                             · have := hm.2 h; omega
       subst e2
       exact heap_alloc_new w _)

set_option maxHeartbeats 8000000 in
set_option maxRecDepth 100000 in
theorem ref_off (w : World) (g : Nat) (now last n : Int) (hC : Ck 52 w g now last) (h : last ≤ 0) :
    Calls Try.prog 28 #[.pointer (some ⟨g, 0, none⟩), .int .i64 n] w fun e w' => e = .returned (.bool false) ∧ w = w' := by
  have c1 : w.cell? ⟨g, 1, none⟩ = some (.int .i64 last) := block_cell (i := 1) hC rfl
  have d1 : decide (last ≤ 0) = true := decide_eq_true h
  clear hC h
  go_enter Try.func28, Try.ntmps28
  go_wp2
  go_ret
  exact ⟨rfl, rfl⟩
set_option maxHeartbeats 8000000 in
set_option maxRecDepth 100000 in
theorem ref_stays (w : World) (g : Nat) (now last n : Int) (hC : Ck 52 w g now last) (h : 0 < last) (hn : n ≤ 0) :
    Calls Try.prog 28 #[.pointer (some ⟨g, 0, none⟩), .int .i64 n] w fun e w' => e = .returned (.bool (now == last)) ∧ Drawn0 w w' := by
  have c0 : w.cell? ⟨g, 0, none⟩ = some (.int .i64 now) := block_cell (i := 0) hC rfl
  have c1 : w.cell? ⟨g, 1, none⟩ = some (.int .i64 last) := block_cell (i := 1) hC rfl
  have d1 : decide (last ≤ 0) = false := decide_eq_false (by omega)
  have d2 : decide (0 < n) = false := decide_eq_false (by omega)
  clear hC h hn
  go_enter Try.func28, Try.ntmps28
  go_wp2
  go_quiet (fail)
  go_wp2
  go_ret
  exact ⟨rfl, ⟨⟨_, rfl⟩⟩⟩
set_option maxHeartbeats 8000000 in
set_option maxRecDepth 100000 in
theorem ref_moves (w0 w : World) (base g : Nat) (now last n : Int) (hC : Ck 52 w g now last) (hg : base ≤ g) (hB : Below base w0 w) (h0 : 0 ≤ now) (h1 : now ≤ last) (h2 : 0 < n) (h3 : 0 < last) (h4 : last ≤ 9223372036854775807) (m : Int) (hm : (n ≤ last - now → m = now + n) ∧ (last - now < n → m = last)) :
    Calls Try.prog 28 #[.pointer (some ⟨g, 0, none⟩), .int .i64 n] w fun e w' => e = .returned (.bool (m == last)) ∧ Ck 52 w' g m last ∧ Kept w w' (fun k => k = g) ∧ Below base w0 w' := by
  have c0 : w.cell? ⟨g, 0, none⟩ = some (.int .i64 now) := block_cell (i := 0) hC rfl
  have c1 : w.cell? ⟨g, 1, none⟩ = some (.int .i64 last) := block_cell (i := 1) hC rfl
  have f0 := Joins.unfrozen_of_block hC 0
  have HC := Aside0.mk hC
  have HB := Aside0.mk hB
  have HG := Aside0.mk hg
  have d1 : decide (last ≤ 0) = false := decide_eq_false (by omega)
  have d2 : decide (0 < n) = true := decide_eq_true h2
  have e2 : IntKind.i64.wrap (last - now) = last - now := IntWalk.i64_in _ (by omega)
  clear hC hB hg
  by_cases c : n ≤ last - now
  · obtain rfl : m = now + n := hm.1 c
    clear hm
    have d3 : decide (last - now < n) = false := decide_eq_false (by omega)
    go_enter Try.func28, Try.ntmps28
    go_wp2
    go_quiet (fail)
    go_wp2
    have HC2 := Aside0.mk (show Ck 52 ((w.drewN nq).setCell ⟨g, 0, none⟩ (.int .i64 (now + n))) g (now + n) last from Ck.set (HC.out.step (w1 := w.drewN nq) rfl) _)
    have HK2 := Aside0.mk (show Kept w ((w.drewN nq).setCell ⟨g, 0, none⟩ (.int .i64 (now + n))) (fun k => k = g) from ((Kept.refl w (fun k => k = g)).drewN nq).setCell (p := ⟨g, 0, none⟩) (.inl rfl) _)
    have HB2 := Aside0.mk (show Below base w0 ((w.drewN nq).setCell ⟨g, 0, none⟩ (.int .i64 (now + n))) from (pw_below_drewN HB.out nq).setCell (p := ⟨g, 0, none⟩) HG.out _)
    generalize (w.drewN nq).setCell ⟨g, 0, none⟩ (.int .i64 (now + n)) = wc at HC2 HK2 HB2 ⊢
    clear c0 c1 f0
    have c0 : wc.cell? ⟨g, 0, none⟩ = some (.int .i64 (now + n)) := block_cell (i := 0) HC2.out rfl
    have c1 : wc.cell? ⟨g, 1, none⟩ = some (.int .i64 last) := block_cell (i := 1) HC2.out rfl
    go_quiet (fail)
    go_wp2
    go_ret
    exact ⟨rfl, HC2.out.step rfl, HK2.out, pw_below_drewN HB2.out _⟩
  · obtain rfl : m = last := hm.2 (by omega)
    clear hm
    have d3 : decide (m - now < n) = true := decide_eq_true (by omega)
    go_enter Try.func28, Try.ntmps28
    go_wp2
    go_quiet (fail)
    go_wp2
    have HC2 := Aside0.mk (show Ck 52 ((w.drewN nq).setCell ⟨g, 0, none⟩ (.int .i64 (m))) g (m) m from Ck.set (HC.out.step (w1 := w.drewN nq) rfl) _)
    have HK2 := Aside0.mk (show Kept w ((w.drewN nq).setCell ⟨g, 0, none⟩ (.int .i64 (m))) (fun k => k = g) from ((Kept.refl w (fun k => k = g)).drewN nq).setCell (p := ⟨g, 0, none⟩) (.inl rfl) _)
    have HB2 := Aside0.mk (show Below base w0 ((w.drewN nq).setCell ⟨g, 0, none⟩ (.int .i64 (m))) from (pw_below_drewN HB.out nq).setCell (p := ⟨g, 0, none⟩) HG.out _)
    generalize (w.drewN nq).setCell ⟨g, 0, none⟩ (.int .i64 (m)) = wc at HC2 HK2 HB2 ⊢
    clear c0 c1 f0
    have c0 : wc.cell? ⟨g, 0, none⟩ = some (.int .i64 (m)) := block_cell (i := 0) HC2.out rfl
    have c1 : wc.cell? ⟨g, 1, none⟩ = some (.int .i64 m) := block_cell (i := 1) HC2.out rfl
    go_quiet (fail)
    go_wp2
    go_ret
    exact ⟨by simp, HC2.out.step rfl, HK2.out, pw_below_drewN HB2.out _⟩

/-- How far a clock is behind n more; and whether its end is reached. d: the deadline (0 or below: none). -/
def stepM (d n now : Int) : Int := if 0 < n ∧ 0 < d then (if n ≤ d - now then now + n else d) else now
def resM (d n now : Int) : Bool := decide (0 < d) && decide (d ≤ stepM d n now)
def capM (d : Int) : Int := if 0 < d then d else 0
theorem step_range {d n now : Int} (h0 : 0 ≤ now) (h1 : now ≤ capM d) : 0 ≤ stepM d n now ∧ stepM d n now ≤ capM d := by
  unfold stepM capM at *
  repeat' split
  all_goals (try split at h1)
  all_goals omega

theorem tick_any (w0 w : World) (base g : Nat) (now d n : Int) (hC : Ck 60 w g now (capM d)) (hg : base ≤ g) (hB : Below base w0 w) (h0 : 0 ≤ now) (h1 : now ≤ capM d) (h4 : d ≤ 9223372036854775807) (h5 : n ≤ 9223372036854775807) :
    Calls Try.prog 27 #[.pointer (some ⟨g, 0, none⟩), .int .i64 n] w fun e w' => e = .returned (.bool (resM d n now)) ∧ Ck 60 w' g (stepM d n now) (capM d) ∧ Kept w w' (fun k => k = g) ∧ Below base w0 w' := by
  by_cases c : 0 < n ∧ 0 < d
  · have e1 : capM d = d := if_pos c.2
    rw [e1] at hC h1 ⊢
    have e2 : stepM d n now = if n ≤ d - now then now + n else d := if_pos c
    refine (tick_moves w0 w base g now d n hC hg hB h0 h1 c.1 c.2 h4 h5 (stepM d n now) ⟨fun h => by rw [e2, if_pos h], fun h => by rw [e2, if_neg (by omega)]⟩).mono ?_
    rintro e w' ⟨rfl, h⟩
    refine ⟨?_, h⟩
    unfold resM
    rw [decide_eq_true c.2, Bool.true_and]
  · have e2 : stepM d n now = now := if_neg c
    rw [e2]
    refine (tick_stays w g now (capM d) n hC (by unfold capM; split <;> omega) (resM d n now) ?_).mono ?_
    · unfold resM
      rw [e2]
      by_cases c2 : 0 < d
      · rw [show capM d = d from if_pos c2]
      · rw [show capM d = 0 from if_neg c2, decide_eq_false c2]; rfl
    · rintro e w' ⟨rfl, h⟩
      obtain ⟨m, rfl⟩ := h.out
      exact ⟨rfl, hC.step rfl, Kept.drewN (Kept.refl _ _) m, pw_below_drewN hB m⟩

theorem ref_any (w0 w : World) (base g : Nat) (now d n : Int) (hC : Ck 52 w g now d) (hg : base ≤ g) (hB : Below base w0 w) (h0 : 0 ≤ now) (h1 : now ≤ capM d) (h4 : d ≤ 9223372036854775807) :
    Calls Try.prog 28 #[.pointer (some ⟨g, 0, none⟩), .int .i64 n] w fun e w' => e = .returned (.bool (resM d n now)) ∧ Ck 52 w' g (stepM d n now) d ∧ Kept w w' (fun k => k = g) ∧ Below base w0 w' := by
  by_cases c2 : 0 < d
  · have e1 : capM d = d := if_pos c2
    rw [e1] at h1
    have hr : ∀ m : Int, m ≤ d → (decide (d ≤ m)) = (m == d) := fun m hm => by
      rw [Bool.eq_iff_iff]
      simp only [decide_eq_true_eq, beq_iff_eq]
      omega
    have hs : stepM d n now ≤ d := by have := (step_range (d := d) (n := n) h0 (by rw [e1]; exact h1)).2; rw [e1] at this; exact this
    have er : resM d n now = (stepM d n now == d) := by unfold resM; rw [decide_eq_true c2, Bool.true_and, hr _ hs]
    rw [er]
    by_cases c : 0 < n
    · have e2 : stepM d n now = if n ≤ d - now then now + n else d := if_pos ⟨c, c2⟩
      exact ref_moves w0 w base g now d n hC hg hB h0 h1 c c2 h4 (stepM d n now) ⟨fun h => by rw [e2, if_pos h], fun h => by rw [e2, if_neg (by omega)]⟩
    · have e2 : stepM d n now = now := if_neg (by omega)
      rw [e2]
      refine (ref_stays w g now d n hC c2 (by omega)).mono ?_
      rintro e w' ⟨rfl, h⟩
      obtain ⟨m, rfl⟩ := h.out
      exact ⟨rfl, hC.step rfl, Kept.drewN (Kept.refl _ _) m, pw_below_drewN hB m⟩
  · have e2 : stepM d n now = now := if_neg (by omega)
    rw [e2, show resM d n now = false by unfold resM; rw [decide_eq_false c2]; rfl]
    refine (ref_off w g now d n hC (by omega)).mono ?_
    rintro e w' ⟨rfl, rfl⟩
    exact ⟨rfl, hC, Kept.refl _ _, hB⟩
end Go.Proofs.Ytpphhnfpingghaa.Clocks
