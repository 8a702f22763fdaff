/-
  The walk of the law HtmlTexts: it returns true and leaves what was there as it was. Condition: at most 1048576 bytes are handed in.
-/
import Derived.Test.YtpphhnfpingghaaHtmlUnits
import Derived.Test.YtpphhnfpingghaaHtmlAwake
import Derived.Test.YtpphhnfpingghaaPHtmlTextsx1
namespace Go.Proofs.Ytpphhnfpingghaa.HtmlTextsWalk
open Go.RowKit Go.Proofs.YtpphhnfpingghaaW.PrintWords Go.Proofs.YtpphhnfpingghaaW.PrintLast Go.Proofs.YtpphhnfpingghaaW.PrintMore Go.Proofs.Ytpphhnfpingghaa.Html
set_option linter.unusedVariables false
set_option linter.unusedSimpArgs false

theorem unit_ref {a : Int} (ha : 0 ≤ a ∧ a ≤ 255) : bytesOf ((PHtmlTexts.bobbinref03_Unit.f a).getD ByteArray.empty) = unitM a := by
  unfold PHtmlTexts.bobbinref03_Unit.f unitM
  repeat' split
  all_goals first | rfl | skip
  have h : a.toNat < 256 := by omega
  simp [bytesOf, strOfNums, UInt8.toNat_ofNat_of_lt' h]
  omega
theorem unit_some (a : Int) : ∃ s, PHtmlTexts.bobbinref03_Unit.f a = some s := by
  unfold PHtmlTexts.bobbinref03_Unit.f
  repeat' split
  all_goals exact ⟨_, rfl⟩
theorem Ev.now {α : Type} (r : α) : Ev (fun _ => some r) r := ⟨0, fun _ _ => rfl⟩
theorem reftext_loop (l : List Int) (hl : l.length ≤ 1048576) (hr : ∀ x ∈ l, 0 ≤ x ∧ x ≤ 255) : ∀ (m j : Nat), j + m = l.length → Ev (fun k => PHtmlTexts.bobbinref03_Text.l0 k l (textM (l.take j)) (j : Int)) (strOfNums (textM l))
  | 0, j, hj => by
    rw [List.take_of_length_le (by omega)]
    refine Ev.step (fun k => ?_) (Ev.now _)
    simp only [PHtmlTexts.bobbinref03_Text.l0]
    rw [if_neg (by omega)]
  | m + 1, j, hj => by
    have nx := reftext_loop l hl hr m (j + 1) (by omega)
    have hx : 0 ≤ rd l (j : Int) ∧ rd l (j : Int) ≤ 255 := by
      unfold rd
      rw [Int.toNat_natCast, List.getD_eq_getElem?_getD, List.getElem?_eq_getElem (show j < l.length by omega)]
      exact hr _ (List.getElem_mem _)
    obtain ⟨s, hs⟩ := unit_some (rd l (j : Int))
    have e := unit_ref hx
    rw [hs, Option.getD_some] at e
    have h1 := textM_len (l.take j)
    rw [List.length_take] at h1
    have h2 := (unitM_len (rd l (j : Int))).2
    have h3 : s.size = (unitM (rd l (j : Int))).length := by rw [← e, bytesOf_length]
    rw [take_rd (by omega), textM_snoc, ← e] at nx
    refine Ev.step (fun k => ?_) nx
    simp only [PHtmlTexts.bobbinref03_Text.l0]
    rw [if_pos (by omega), if_pos (by omega), hs, Option.bind_some, if_pos (by omega), show wrap64 ((j : Int) + 1) = ((j + 1 : Nat) : Int) by unfold wrap64; omega]
theorem reftext_is (l : List Int) (hl : l.length ≤ 1048576) (hr : ∀ x ∈ l, 0 ≤ x ∧ x ≤ 255) : ∃ k, PHtmlTexts.bobbinref03_Text.f k l = some (strOfNums (textM l)) :=
  Ev.rounds (g := fun k => PHtmlTexts.bobbinref03_Text.f k l) (reftext_loop l hl hr _ 0 (Nat.zero_add _))

set_option maxHeartbeats 8000000 in
set_option maxRecDepth 100000 in
theorem texts.calls (k : Nat) (A0 : Option Addr) (c0 : Nat) (l0 : List Int) (r : Bool) (w : World) (hr0 : Kd.C (Kd.int .u8) w A0 l0.length l0) (hc0 : l0.length ≤ c0)
    (h : PHtmlTexts.bobbinref03_Text.f k l0 = some (strOfNums (textM l0)) ∧ l0.length ≤ 1048576) :
    Calls Try.prog 5 #[.slice A0 l0.length c0] w fun e w' => e = .returned (.bool true) ∧ Below w.heap.size w w' := by
  have HR0 := Aside0.mk hr0
  have HC0 := Aside0.mk hc0
  have HT := Aside0.mk h.1
  have HL := Aside0.mk h.2
  clear hr0 hc0 h
  have HB := Aside0.mk (Below.refl w.heap.size w)
  have hsame0 : ((strOfNums (textM l0)).toList == (strOfNums (textM l0)).toList) = true := beq_self_eq_true _
  go_enter Try.func5, Try.ntmps5
  go_upto_region 1 with (fail)
  go_cut [13] (fun v13 wc => v13 = .bool false ∧ Aside0 (Below w.heap.size w wc))
  case first =>
    go_region_with (first
      | (go_at_call 19; refine (awake_calls _).mono ?_; rintro e w2 ⟨rfl, hb2⟩; have HB2 := Aside0.mk (below_step (below_drew1 HB.out) hb2); clear hb2)
      | (go_at_call 20; refine (text_calls A0 c0 l0 _ (Kd.C_below HR0.out HB2.out) HC0.out (by have h1 := textM_len l0; have h2 := HL.out; omega)).mono ?_; rintro e w3 ⟨v3, rfl, hr3, hb3⟩; have HR3 := Aside0.mk hr3; have hcvA := own_string (P := Try.prog) Try.underlying22 Try.underlying5 Try.underlying9 (Kd.own_of_R hr3); have HB3 := Aside0.mk (below_step HB2.out hb3); clear hr3 hb3)
      | (go_at_call 21; refine (PHtmlTexts.bobbinref03_Text.calls k A0 c0 l0 (strOfNums (textM l0)) _ (Kd.C_below HR0.out HB3.out) HC0.out HT.out).mono ?_; rintro e w4 ⟨rfl, hb4⟩; have hcvB := own_string (P := Try.prog) Try.underlying22 Try.underlying5 Try.underlying9 (Kd.own_of_R (Kd.R_below HR3.out hb4)); have HB4 := Aside0.mk (below_step HB3.out hb4); clear hb4))
    all_goals
      go_wp2_with fail
      go_meet
      exact ⟨rfl, HB4⟩
  case rest =>
    clear HB
    obtain ⟨rfl, HB⟩ := hcut
    go_wp2
    go_loopg [3] l0.length (fun m v3 w' => ∃ i : Int, v3 = .int .i64 i ∧ Aside0 (0 ≤ i ∧ i + m = (l0.length : Int)) ∧ Aside0 (Below w.heap.size w w'))
    case atStart => exact ⟨0, rfl, ⟨by omega⟩, HB⟩
    case round =>
      clear HB
      obtain ⟨i, rfl, HK, HB⟩ := hrel
      cases gk with
      | zero =>
        have c0b : decide (i < (l0.length : Int)) = false := decide_eq_false (by have := HK.out; omega)
        go_wp2
        go_ret
        exact ⟨rfl, HB.out⟩
      | succ m =>
        have c0b : decide (i < (l0.length : Int)) = true := decide_eq_true (by have := HK.out; omega)
        have p0 : 0 ≤ i := by have := HK.out; omega
        have q0 : i < (l0.length : Int) := by have := HK.out; omega
        obtain ⟨ad, e0, hx⟩ := Kd.at_int HR0.out i p0 q0
        cases e0
        have HX := Aside0.mk hx
        replace hx := (HB.out.cell (World.block_lt_of_cell? w _ hx)).trans hx
        have hxd : ∀ nq, (World.drewN wr nq).cell? (ad.add i.toNat) = some (.int .u8 (rd l0 i)) := fun nq => hx
        have hsame := ref_same (rd l0 i)
        replace p0 := eq_true p0
        replace q0 := eq_true q0
        go_wp2_with fail
        go_region_with (first
          | (go_at_call 12; refine (unit_calls (rd l0 i) _).mono ?_; rintro e w2 ⟨A2, c2, rfl, hl2, hr2, hb2⟩; have HR2 := Aside0.mk hr2; have hcvA := Kd.C_string (P := Try.prog) (A := A2) (c := c2) Try.underlying22 Try.underlying5 Try.underlying9 hr2; have HB2 := Aside0.mk (below_step (below_drew1 HB.out) hb2); have hxA := (HB2.out.cell (World.block_lt_of_cell? w _ HX.out)).trans HX.out; clear hl2 hr2 hb2)
          | (go_at_call 13; refine (PHtmlUnits.bobbinref03_Unit.calls (rd l0 i) (refM (rd l0 i)) _ (ref_some (rd l0 i))).mono ?_; rintro e w3 ⟨rfl, hb3⟩; have hcvB := Kd.C_string (P := Try.prog) (A := A2) (c := c2) Try.underlying22 Try.underlying5 Try.underlying9 (Kd.C_below HR2.out hb3); have HB3 := Aside0.mk (below_step HB2.out hb3); clear hb3))
        all_goals
          go_wp2_with fail
          go_roundg m
          case measure => omega
          case rel => exact ⟨_, rfl, ⟨by have := HK.out; have := HL.out; unfold wrap64; omega⟩, HB3⟩
end Go.Proofs.Ytpphhnfpingghaa.HtmlTextsWalk
