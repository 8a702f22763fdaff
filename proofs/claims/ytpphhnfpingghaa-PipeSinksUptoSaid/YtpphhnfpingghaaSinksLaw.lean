/-
  The walk of the law PipeSinks: it returns true and leaves what was there as it was. Condition: the bytes handed in and the offers are at most 1048576 together.
-/
import Derived.Test.YtpphhnfpingghaaSinks
namespace Go.Proofs.Ytpphhnfpingghaa.Sinks
open Go.RowKit Go.Proofs.YtpphhnfpingghaaW.PrintWords Go.Proofs.YtpphhnfpingghaaW.PrintLast Go.Proofs.YtpphhnfpingghaaW.PrintMore Go.Proofs.Ytpphhnfpingghaa.Pipe
attribute [local go_sem] max2_int min2_int max_two min_two max_three min_three max_four min_four
set_option linter.unusedVariables false
set_option linter.unusedSimpArgs false

set_option maxHeartbeats 16000000 in
set_option maxRecDepth 100000 in
theorem law.calls (A0 : Option Addr) (c0 : Nat) (l0 : List S31) (r : Bool) (w : World) (hr0 : Kd.C k31 w A0 l0.length l0) (hc0 : l0.length ≤ c0)
    (h : tot l0 + l0.length ≤ 1048576) :
    Calls Try.prog 4 #[.slice A0 l0.length c0] w fun e w' => e = .returned (.bool true) ∧ Below w.heap.size w w' := by
  have HR := Aside0.mk hr0
  have HT := Aside0.mk h
  clear hr0 hc0 h
  have HB := Aside0.mk (Below.refl w.heap.size w)
  go_enter Try.func4, Try.ntmps4
  go_wp2_with (go_at_call 14; refine (awake_calls _).mono ?_; rintro e w2 ⟨rfl, hb2⟩; have HB2 := Aside0.mk hb2; clear hb2)
  have HS := Aside0.mk (sk_new w2 w.heap.size HB2.out.size)
  have HG1 := Aside0.mk (show w.heap.size ≤ w2.heap.size from HB2.out.size)
  have HBA := Aside0.mk (show Below w.heap.size w (w2.alloc (.cells #[.slice none 0 0, .int .i64 0, .bool false] 29)) from below_alloc HB2.out _)
  have HSZ := Aside0.mk (show (w2.alloc (.cells #[.slice none 0 0, .int .i64 0, .bool false] 29)).heap.size = w2.heap.size + 1 from by simp)
  generalize w2.alloc (.cells #[.slice none 0 0, .int .i64 0, .bool false] 29) = wa at HS HBA HSZ ⊢
  generalize w2.heap.size = g at HS HG1 HSZ ⊢
  clear HB HB2
  go_loopg [4, 5, 6, 7] l0.length (fun m v4 v5 v6 v7 w' => ∃ (i off : Int) (fl : Bool) (got : List Int) (M : Nat → Prop), v5 = .int .i64 off ∧ v6 = .bool fl ∧ v7 = .int .i64 i ∧ Aside0 (0 ≤ i ∧ i + m = (l0.length : Int)) ∧ Aside0 (0 ≤ off ∧ off ≤ i) ∧ Aside0 (got.length + tot (l0.drop i.toNat) ≤ 1048576) ∧ Aside0 (Sk w' w.heap.size g M got off fl) ∧ Aside0 (M g ∧ ∀ k, M k → w.heap.size ≤ k ∧ k < w'.heap.size) ∧ Aside0 (Kd.R (Kd.int .u8) 5 w' w.heap.size (fun k => ¬ M k) v4 got) ∧ Aside0 (Below w.heap.size w w'))
  case atStart => exact ⟨0, 0, false, [], (fun k => k = g), rfl, rfl, rfl, ⟨by omega⟩, ⟨by omega⟩, ⟨by have := HT.out; simp only [List.length_nil, Int.toNat_zero, List.drop_zero]; omega⟩, HS, ⟨rfl, fun k hk => by have := HSZ.out; have := HG1.out; omega⟩, ⟨Kd.R_nil _ _ _ _ _⟩, HBA⟩
  case round =>
    clear HS HBA HSZ
    obtain ⟨i, off, fl, got, M, rfl, rfl, rfl, HI, HOFF, HLEN, HS, HM, HO, HB⟩ := hrel
    cases gk with
    | zero =>
      have c0b : decide (i < (l0.length : Int)) = false := decide_eq_false (by have := HI.out; omega)
      go_wp2_with (go_at_call 18; refine (got_calls _ _ _ _ _ _ _ HS.out (by have := HLEN.out; omega)).mono ?_; rintro e w3 ⟨v3, rfl, hr3, hb3⟩; have HR3 := Aside0.mk hr3; have HS3 := Aside0.mk (HS.out.below HM.out.1 hb3); have HO3 := Aside0.mk (Kd.R_old HO.out hb3); have HB3 := Aside0.mk (below_step HB.out hb3); have HZ3 := Aside0.mk HB.out.size; clear hr3 hb3)
      obtain ⟨A3, c3, rfl⟩ := Kd.R_slice HR3.out
      obtain ⟨N, hN⟩ : ∃ N, N = wr.heap.size := ⟨_, rfl⟩
      rw [← hN] at HR3 HO3 HM HZ3
      clear hN HS HO HB
      go_loopg [10] got.length (fun m v10 w' => ∃ (j : Int) (ys : List Int), v10 = .int .i64 j ∧ Aside0 (0 ≤ j ∧ j + m = (got.length : Int)) ∧ Aside0 (ys.length = got.length) ∧ Aside0 (Kd.R (Kd.int .u8) 5 w' N (fun _ => True) (.slice A3 got.length c3) ys) ∧ Aside0 (Sk w' w.heap.size g M got off fl) ∧ Aside0 (Kd.R (Kd.int .u8) 5 w' w.heap.size (fun k => ¬ M k ∧ k < N) u4 got) ∧ Aside0 (Below w.heap.size w w'))
      case atStart => exact ⟨0, got, rfl, ⟨by omega⟩, ⟨rfl⟩, HR3, HS3, HO3, HB3⟩
      case round =>
        clear HR3 HS3 HO3 HB3
        obtain ⟨j, ys, rfl, HJ, HYL, HY, HS, HO, HB⟩ := hrel
        cases gk with
        | zero =>
          have c1b : decide (j < (got.length : Int)) = false := decide_eq_false (by have := HJ.out; omega)
          have hsame : ((strOfNums got).toList == (strOfNums got).toList) = true := beq_self_eq_true _
          have hcvI := own_string (P := Try.prog) Try.underlying22 Try.underlying5 Try.underlying9 (Kd.own_of_R (Kd.R_drew HO.out))
          obtain ⟨A4, c4, e4⟩ := Kd.R_slice HO.out
          subst e4
          go_upto_region 27 with (fail)
          go_region_with (first
            | (go_at_call 18
               refine (got_calls _ _ _ _ _ _ _ (HS.out.step (w1 := wr.drew) HM.out.1 (fun _ _ _ => rfl)) (by have := HLEN.out; omega)).mono ?_
               rintro e w4 ⟨v4, rfl, hr4, hb4⟩
               have hcvA := own_string (P := Try.prog) Try.underlying22 Try.underlying5 Try.underlying9 (Kd.own_of_R hr4)
               have hcvB := own_string (P := Try.prog) Try.underlying22 Try.underlying5 Try.underlying9 (Kd.own_of_R (Kd.R_below (Kd.R_drew HO.out) hb4))
               have HB4 := Aside0.mk (below_step (below_drew1 HB.out) hb4)
               clear hr4 hb4)
            | (go_at_call 18; refine (got_nil _).mono ?_; rintro e w5 ⟨rfl, rfl⟩)
            | (go_at_call 15; refine (take_nil _ _ _ _ _).mono ?_; rintro e w5 ⟨rfl, rfl⟩)
            | (go_at_call 16; refine (offers_nil _).mono ?_; rintro e w5 ⟨rfl, rfl⟩)
            | (go_at_call 17; refine (failed_nil _).mono ?_; rintro e w5 ⟨rfl, rfl⟩))
          all_goals
            go_wp2_with fail
            go_ret
            exact ⟨rfl, HB4.out⟩
        | succ m2 =>
          have c1b : decide (j < (got.length : Int)) = true := decide_eq_true (by have := HJ.out; omega)
          have pj : 0 ≤ j := by have := HJ.out; omega
          have qj : j < (got.length : Int) := by have := HJ.out; omega
          have qy : j < (ys.length : Int) := by have := HJ.out; have := HYL.out; omega
          obtain ⟨gy, cy, ey, gb, gl, cl, HGY⟩ := Kd.R_form HY.out (by omega)
          injection ey with ea en ec
          subst ea
          subst ec
          obtain ⟨hx, hf⟩ := Kd.R_celln 0 HY.out j pj qj
          have HGB := Aside0.mk (show N ≤ gy from gb)
          have HP := Kd.R_putg HY.out j ((rd ys j + 1) % 256)
          clear gb gl cl HGY en
          replace pj := eq_true pj
          replace qj := eq_true qj
          go_wp2_with (first | ((with_reducible refine gate_store (t := 5) (p := 109) rfl ?_); refine store_event (t := 5) (p := 109) (v := ?vo) (w1 := (wr.setCell ⟨gy, j.toNat, none⟩ (.int .u8 ((rd ys j + 1) % 256)))) ?hg ?ho ?hn ?hr ?_; (case ho => rfl); (case hg => rfl); (case hn => rfl); (case hr => first | (go_simp; done) | (go_simp; rfl)); intro w9 hw; have hg : wr.grownBy w9 (some gy) := (by rw [hw]; exact HP.2); have hp := HP.1; rw [← hw] at hp; have HYN := Aside0.mk hp; have HSN := Aside0.mk (HS.out.step (w1 := w9) HM.out.1 (fun k hk hlt => hg.block k hlt (fun e => by have := (HM.out.2 k hk).2; have := HGB.out; have := Option.some.inj e; omega))); have HON := Aside0.mk (Kd.R_step HO.out (w1 := w9) (fun k hk hlt => hg.block k hlt (fun e => by have := hk.2; have := HGB.out; have := Option.some.inj e; omega))); have HBN := Aside0.mk (by rw [hw]; exact HB.out.setCell (p := ⟨gy, j.toNat, none⟩) (by have := HGB.out; have := HZ3.out; show w.heap.size ≤ gy; omega) _ : Below w.heap.size w w9); clear hp hg hw HP))
          go_roundg m2
          case measure => omega
          case rel => exact ⟨_, _, rfl, ⟨by have := HJ.out; have := HLEN.out; unfold wrap64; omega⟩, ⟨by rw [List.length_set]; exact HYL.out⟩, HYN, HSN, HON, HBN⟩
    | succ m =>
      have c0b : decide (i < (l0.length : Int)) = true := decide_eq_true (by have := HI.out; omega)
      have p0 : 0 ≤ i := by have := HI.out; omega
      have q0 : i < (l0.length : Int) := by have := HI.out; omega
      obtain ⟨ad, Ap, cp, e0, hx0, hx1, lp, hp⟩ := at_T31 HR.out i p0 q0
      cases e0
      have HX0 := Aside0.mk hx0
      have HX1 := Aside0.mk hx1
      have HP := Aside0.mk hp
      have HLP := Aside0.mk lp
      have htd := tot_drop l0 i.toNat (by omega)
      rw [show l0.getD i.toNat z31 = rd_T31 l0 i from rfl, show i.toNat + 1 = (i + 1).toNat by omega] at htd
      have HTD := Aside0.mk htd
      clear hp lp htd
      replace hx0 := (HB.out.cell (World.block_lt_of_cell? w _ hx0)).trans hx0
      replace hx1 := (HB.out.cell (World.block_lt_of_cell? w _ hx1)).trans hx1
      have HPA := Aside0.mk (show ∀ a, Ap = some a → 0 < (rd_T31 l0 i).f0.length → a.block < w.heap.size from fun a e hl => by
        obtain ⟨ad', c', e', hlen', hK', hc'⟩ := Kd.C_get HP.out (0 : Int) 0 (Int.le_refl _) (by omega)
        obtain rfl := Option.some.inj (e.symm.trans e')
        obtain rfl : c' = [Value.int .u8 (rd (rd_T31 l0 i).f0 0)] := hK'
        have hq := hc' 0 _ rfl
        have := World.block_lt_of_cell? w _ hq
        exact this)
      generalize rd_T31 l0 i = x at hx0 hx1 HX0 HX1 HP HLP HTD HPA
      obtain ⟨p, n⟩ := x
      have p0' := p0
      have q0' := q0
      replace p0 := eq_true p0
      replace q0 := eq_true q0
      go_upto_if 23 with (fail)
      go_cut [4, 5, 6, 8] from 24 to 59 (fun v4 v5 v6 v8 wc => ∃ (got2 : List Int) (off2 : Int) (fl2 : Bool) (m2 : Int), v5 = .int .i64 off2 ∧ v6 = .bool fl2 ∧ v8 = .int .i64 m2 ∧ Aside0 (Does p n got off fl got2 off2 fl2 m2) ∧ Aside0 (0 ≤ off2 ∧ off2 ≤ i + 1) ∧ Aside0 (got2.length + tot (l0.drop (i + 1).toNat) ≤ 1048576) ∧ Aside0 (Sk wc w.heap.size g M got off fl) ∧ Aside0 (M g ∧ ∀ k, M k → w.heap.size ≤ k ∧ k < wc.heap.size) ∧ Aside0 (Kd.R (Kd.int .u8) 5 wc w.heap.size (fun k => ¬ M k) v4 got2) ∧ Aside0 (Below w.heap.size w wc))
      case first =>
        cases fl with
        | true =>
          go_wp2_with fail
          go_meet
          exact ⟨got, off, true, 0, rfl, rfl, rfl, ⟨.inl ⟨rfl, rfl, rfl, rfl, rfl⟩⟩, ⟨by have := HOFF.out; have := HI.out; have := HT.out; omega⟩, ⟨by have := HLEN.out; have := HTD.out; (try simp only at *); omega⟩, HS, HM, HO, HB⟩
        | false =>
          by_cases hn : n < 0
          · have c1 : decide (n < 0) = true := decide_eq_true hn
            have HN := Aside0.mk hn
            clear hn
            go_wp2_with fail
            go_meet
            exact ⟨got, off, true, 0, rfl, rfl, rfl, ⟨.inr (.inl ⟨rfl, HN.out, rfl, rfl, rfl, rfl⟩)⟩, ⟨by have := HOFF.out; have := HI.out; have := HT.out; omega⟩, ⟨by have := HLEN.out; have := HTD.out; (try simp only at *); omega⟩, HS, HM, HO, HB⟩
          · have c1 : decide (n < 0) = false := decide_eq_false hn
            have HN := Aside0.mk (show 0 ≤ n by omega)
            clear hn
            have EOFF := Aside0.mk (show wrap64 (off + 1) = off + 1 by have := HOFF.out; have := HI.out; have := HT.out; unfold wrap64; omega)
            obtain ⟨i0, hi0, _, hsz0, _⟩ := info_parts info_byte
            have hpw := Kd.C_below HP.out HB.out
            by_cases hm : (p.length : Int) < n
            · have c2 : decide ((p.length : Int) < n) = true := decide_eq_true hm
              have HMN := Aside0.mk hm
              clear hm
              obtain ⟨hcut, hAc, hCc⟩ := print_take_of (P := Try.prog) (Value.int .u8) 0 22 5 .i64 Try.underlying22 hi0 hsz0 Ap cp p ((p.length : Int)) (by have := HN.out; omega) (by have := HMN.out; omega) HLP.out
              have hp2 := Kd.C_of_reads (h1 := fun _ => rfl) (hAc _ (Kd.reads_of_C hpw))
              have hJ : decide (0 ≤ ((p.length : Int) : Int)) = true := decide_eq_true (by have := HN.out; omega)
              have hJ2 : decide (((p.length : Int) : Int) ≤ (p.length : Int)) = true := decide_eq_true (by have := HMN.out; omega)
              have eX : (p.take ((p.length : Int) : Int).toNat).length = ((p.length : Int) : Int).toNat := by rw [List.length_take]; have := HMN.out; have := HN.out; omega
              have HP2 := Aside0.mk (show Kd.C (Kd.int .u8) wr Ap ((p.length : Int) : Int).toNat (p.take ((p.length : Int) : Int).toNat) from by have hq := hp2; rw [eX] at hq; exact hq)
              have HYL := Aside0.mk (show (got ++ p.take ((p.length : Int) : Int).toNat).length = got.length + ((p.length : Int) : Int).toNat from by rw [List.length_append, eX])
              have HXL := Aside0.mk (show ((p.length : Int) : Int).toNat ≤ p.length from by have := HMN.out; have := HN.out; omega)
              simp only [eX] at hcut
              clear hAc hCc hpw hp2 eX hi0 hsz0
              obtain ⟨got2, hgot2⟩ : ∃ got2, got2 = got ++ p.take ((p.length : Int) : Int).toNat := ⟨_, rfl⟩
              rw [← hgot2] at HYL
              have HGOT := Aside0.mk hgot2
              clear hgot2
              go_wp2_with ((with_reducible refine gate_builtin (b := .append) (xs := #[.tmp 51, .tmp 58]) rfl ?_); at_builtin; refine Kd.R_append_rows (Kd.int .u8) (w0 := w) w.heap.size rfl (.tmp 51) (.tmp 58) 22 5 (.int .u8 0) 1 rfl Try.underlying22 info_byte rfl (by decide) (by omega) u4 got (p.take ((p.length : Int) : Int).toNat) Ap _ cp (fun k => ¬ M k) (fun _ => False) rfl rfl ?aO ?aR (fun _ _ h => h) (fun _ h => h.elim) ?aF ?aB ?aS ?aL ?_; (case aO => exact HO.out); (case aR => first | exact HP2.out | (have hq := HP2.out; simp only [Int.toNat_natCast] at hq ⊢; exact hq)); (case aF => intro k hk h1; have := (HM.out.2 k h1).2; omega); (case aB => exact HB.out); (case aS => exact HB.out.size); (case aL => have := HLEN.out; have := HTD.out; have := HXL.out; (try simp only [Int.toNat_natCast] at *); omega); intro v3 w3 ho hb hg hat; have hs3 := HS.out.step (w1 := w3) HM.out.1 (fun k hk hlt => hg.block k hlt (fun e => HO.out.1 k e.symm hk)); have HSN := Aside0.mk hs3; have HMNEW := Aside0.mk (show M g ∧ ∀ k, M k → w.heap.size ≤ k ∧ k < w3.heap.size from ⟨HM.out.1, fun k hk => ⟨(HM.out.2 k hk).1, Nat.lt_of_lt_of_le (HM.out.2 k hk).2 hg.size⟩⟩); clear hs3; have HON := Aside0.mk (by first | (rw [← HGOT.out] at ho; exact ho) | (simp only [Int.toNat_natCast] at ho; rw [← HGOT.out] at ho; exact ho) : Kd.R (Kd.int .u8) 5 w3 w.heap.size (fun k => ¬ M k) v3 got2); have HBN := Aside0.mk hb; clear ho hb hg hat; clear HS HM HO HB; have HS := HSN; have HM := HMNEW; have HO := HON; have HB := HBN; clear HSN HMNEW HON HBN)
              go_meet
              exact ⟨got2, wrap64 (off + 1), false, (p.length : Int), rfl, rfl, rfl, ⟨.inr (.inr ⟨rfl, HN.out, HGOT.out, EOFF.out, rfl, fun h => by have := HMN.out; omega, fun _ => rfl⟩)⟩, ⟨by have := HOFF.out; have := HI.out; have := HT.out; unfold wrap64; omega⟩, ⟨by have := HLEN.out; have := HTD.out; have := HYL.out; have := HXL.out; (try simp only [Int.toNat_natCast] at *); omega⟩, HS, HM, HO, HB⟩
            · have c2 : decide ((p.length : Int) < n) = false := decide_eq_false hm
              have HMN := Aside0.mk (show n ≤ (p.length : Int) by omega)
              clear hm
              obtain ⟨hcut, hAc, hCc⟩ := print_take_of (P := Try.prog) (Value.int .u8) 0 22 5 .i64 Try.underlying22 hi0 hsz0 Ap cp p (n) (by have := HN.out; omega) (by have := HMN.out; omega) HLP.out
              have hp2 := Kd.C_of_reads (h1 := fun _ => rfl) (hAc _ (Kd.reads_of_C hpw))
              have hJ : decide (0 ≤ (n : Int)) = true := decide_eq_true (by have := HN.out; omega)
              have hJ2 : decide ((n : Int) ≤ (p.length : Int)) = true := decide_eq_true (by have := HMN.out; omega)
              have eX : (p.take (n : Int).toNat).length = (n : Int).toNat := by rw [List.length_take]; have := HMN.out; have := HN.out; omega
              have HP2 := Aside0.mk (show Kd.C (Kd.int .u8) wr Ap (n : Int).toNat (p.take (n : Int).toNat) from by have hq := hp2; rw [eX] at hq; exact hq)
              have HYL := Aside0.mk (show (got ++ p.take (n : Int).toNat).length = got.length + (n : Int).toNat from by rw [List.length_append, eX])
              have HXL := Aside0.mk (show (n : Int).toNat ≤ p.length from by have := HMN.out; have := HN.out; omega)
              simp only [eX] at hcut
              clear hAc hCc hpw hp2 eX hi0 hsz0
              obtain ⟨got2, hgot2⟩ : ∃ got2, got2 = got ++ p.take (n : Int).toNat := ⟨_, rfl⟩
              rw [← hgot2] at HYL
              have HGOT := Aside0.mk hgot2
              clear hgot2
              go_wp2_with ((with_reducible refine gate_builtin (b := .append) (xs := #[.tmp 51, .tmp 58]) rfl ?_); at_builtin; refine Kd.R_append_rows (Kd.int .u8) (w0 := w) w.heap.size rfl (.tmp 51) (.tmp 58) 22 5 (.int .u8 0) 1 rfl Try.underlying22 info_byte rfl (by decide) (by omega) u4 got (p.take (n : Int).toNat) Ap _ cp (fun k => ¬ M k) (fun _ => False) rfl rfl ?aO ?aR (fun _ _ h => h) (fun _ h => h.elim) ?aF ?aB ?aS ?aL ?_; (case aO => exact HO.out); (case aR => first | exact HP2.out | (have hq := HP2.out; simp only [Int.toNat_natCast] at hq ⊢; exact hq)); (case aF => intro k hk h1; have := (HM.out.2 k h1).2; omega); (case aB => exact HB.out); (case aS => exact HB.out.size); (case aL => have := HLEN.out; have := HTD.out; have := HXL.out; (try simp only [Int.toNat_natCast] at *); omega); intro v3 w3 ho hb hg hat; have hs3 := HS.out.step (w1 := w3) HM.out.1 (fun k hk hlt => hg.block k hlt (fun e => HO.out.1 k e.symm hk)); have HSN := Aside0.mk hs3; have HMNEW := Aside0.mk (show M g ∧ ∀ k, M k → w.heap.size ≤ k ∧ k < w3.heap.size from ⟨HM.out.1, fun k hk => ⟨(HM.out.2 k hk).1, Nat.lt_of_lt_of_le (HM.out.2 k hk).2 hg.size⟩⟩); clear hs3; have HON := Aside0.mk (by first | (rw [← HGOT.out] at ho; exact ho) | (simp only [Int.toNat_natCast] at ho; rw [← HGOT.out] at ho; exact ho) : Kd.R (Kd.int .u8) 5 w3 w.heap.size (fun k => ¬ M k) v3 got2); have HBN := Aside0.mk hb; clear ho hb hg hat; clear HS HM HO HB; have HS := HSN; have HM := HMNEW; have HO := HON; have HB := HBN; clear HSN HMNEW HON HBN)
              go_meet
              exact ⟨got2, wrap64 (off + 1), false, n, rfl, rfl, rfl, ⟨.inr (.inr ⟨rfl, HN.out, HGOT.out, EOFF.out, rfl, fun _ => rfl, fun h => by have := HMN.out; (try simp only at h); omega⟩)⟩, ⟨by have := HOFF.out; have := HI.out; have := HT.out; unfold wrap64; omega⟩, ⟨by have := HLEN.out; have := HTD.out; have := HYL.out; have := HXL.out; (try simp only [Int.toNat_natCast] at *); omega⟩, HS, HM, HO, HB⟩
      case rest =>
        clear HS HO HB
        clear HM
        obtain ⟨got2, off2, fl2, m2, rfl, rfl, rfl, HDO, HOFF2, HLEN2, HS, HM, HO, HB⟩ := hcut
        have hsame : ((strOfNums got2).toList == (strOfNums got2).toList) = true := beq_self_eq_true _
        clear hx0 hx1
        have hx0 := (HB.out.cell (World.block_lt_of_cell? w _ HX0.out)).trans HX0.out
        have hx1 := (HB.out.cell (World.block_lt_of_cell? w _ HX1.out)).trans HX1.out
        go_upto_region 19 with (fail)
        go_region_with (first
          | (go_at_call 15
             refine (take_all w wc.drew w.heap.size g M got off fl Ap cp p n got2 off2 fl2 m2 (HS.out.step (w1 := wc.drew) HM.out.1 (fun _ _ _ => rfl)) HM.out.1 (fun k hk => (HM.out.2 k hk).1) (below_drew1 HB.out) HB.out.size (Kd.C_drew (Kd.C_below HP.out HB.out)) (fun a e hl => by have := HPA.out a e hl; have := HG1.out; omega) HLP.out ⟨by have := HOFF.out; omega, by have := HOFF.out; have := HI.out; have := HT.out; omega⟩ (by have := HLEN.out; have := HTD.out; (try simp only at *); omega) HDO.out).mono ?_
             rintro e w2 ⟨rfl, hs2, hk2, hb2⟩
             have HS2 := Aside0.mk hs2
             have HO2 := Aside0.mk (Kd.R_keptB (Kd.R_drew HO.out) hk2 (fun k hk => hk))
             have hcvT := own_string (P := Try.prog) Try.underlying22 Try.underlying5 Try.underlying9 (Kd.own_of_R HO2.out)
             have HB2 := Aside0.mk hb2
             clear hs2 hk2 hb2)
          | (go_at_call 16; refine (offers_calls _ _ _ _ _ _ _ HS2.out).mono ?_; rintro e w3 ⟨rfl, rfl⟩)
          | (go_at_call 17; refine (failed_calls _ _ _ _ _ _ _ HS2.out).mono ?_; rintro e w3 ⟨rfl, rfl⟩)
          | (go_at_call 18
             refine (got_calls _ _ _ _ _ _ _ HS2.out (by have := HLEN2.out; omega)).mono ?_
             rintro e w4 ⟨v4, rfl, hr4, hb4⟩
             have hcvA := own_string (P := Try.prog) Try.underlying22 Try.underlying5 Try.underlying9 (Kd.own_of_R hr4)
             have HO4 := Aside0.mk (Kd.R_below HO2.out hb4)
             have hcvB := own_string (P := Try.prog) Try.underlying22 Try.underlying5 Try.underlying9 (Kd.own_of_R HO4.out)
             have HS4 := Aside0.mk (HS2.out.below (.inl HM.out.1) hb4)
             have HB4 := Aside0.mk (below_step HB2.out hb4)
             clear hr4 hb4))
        all_goals
          go_wp2_with fail
          go_roundg m
          case measure => omega
          case rel => exact ⟨_, _, _, _, (fun k => (M k ∨ wc.heap.size ≤ k) ∧ k < w4.heap.size), rfl, rfl, rfl, ⟨by have := HI.out; have := HT.out; unfold wrap64; omega⟩, ⟨by have := HOFF2.out; have := HI.out; have := HT.out; unfold wrap64; omega⟩, ⟨by have := HLEN2.out; have := HI.out; have := HT.out; rw [show (wrap64 (i + 1)).toNat = (i + 1).toNat by unfold wrap64; omega]; omega⟩, ⟨HS4.out.mono (fun k hk hlt => ⟨hk, hlt⟩)⟩, ⟨⟨.inl HM.out.1, HS4.out.lt⟩, fun k hk => ⟨by rcases hk.1 with h1 | h1; exact (HM.out.2 k h1).1; have := HB.out.size; omega, hk.2⟩⟩, ⟨Kd.R_mono HO4.out (fun k hk h2 => by rcases h2.1 with h1 | h1; exact hk.1 h1; have hq : k < wc.heap.size := hk.2.2; omega)⟩, HB4⟩
end Go.Proofs.Ytpphhnfpingghaa.Sinks
