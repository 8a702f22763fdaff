/-
  The walk of the law RingKeeps: it returns true and leaves what was there as it was. Condition: the bytes are at most 140737488351232, as those of any slice that is read are.
-/
import Derived.Test.YtnblegepecmblaaRingRounds
namespace Go.Proofs.Ytnblegepecmblaa.Ring
open Go.RowKit Go.Proofs.YtnblegepecmblaaW.PrintWords Go.Proofs.YtnblegepecmblaaW.PrintLast Go.Proofs.YtnblegepecmblaaW.PrintMore
attribute [local go_sem] max2_int min2_int max_two min_two max_three min_three max_four min_four
set_option linter.unusedVariables false
set_option linter.unusedSimpArgs false

theorem own_far {w : World} {base g b : Nat} {ok : Nat → Prop} {A : Option Addr} {n cp : Nat} {p : List Int} (h : Kd.R (Kd.int .u8) 5 w base ok (.slice A n cp) p) (hg : g < base) (hb : b < base) : ∀ ad, A = some ad → 0 < p.length → ad.block ≠ g ∧ ad.block ≠ b := by
  intro ad e hl
  obtain ⟨gm, cap, e2, hbase, _⟩ := Kd.R_form h hl
  subst e
  injection e2 with e2
  injection e2 with e2
  subst e2
  show gm ≠ g ∧ gm ≠ b
  omega
theorem own_read {w : World} {base : Nat} {ok : Nat → Prop} {A : Option Addr} {n cp : Nat} {p : List Int} (h : Kd.R (Kd.int .u8) 5 w base ok (.slice A n cp) p) : Kd.C (Kd.int .u8) w A p.length p ∧ p.length ≤ cp := by
  obtain ⟨A', c', e, hl, hc⟩ := Kd.R_reads h
  injection e with e1 e2 e3
  subst e1
  subst e3
  exact ⟨hc, hl⟩

set_option maxHeartbeats 8000000 in
set_option maxRecDepth 100000 in
theorem keeps.calls (room : Int) (A : Option Addr) (cp : Nat) (p : List Int) (r : Bool) (w : World) (hp : Kd.C (Kd.int .u8) w A p.length p) (hc : p.length ≤ cp) (h : 0 ≤ room ∧ room ≤ 255 ∧ p.length ≤ 140737488351232) :
    Calls Try.prog 7 #[.int .u8 room, .slice A p.length cp] w fun e w' => e = .returned (.bool true) ∧ Below w.heap.size w w' := by
  obtain ⟨c, hcr⟩ : ∃ c : Nat, c = (1 + room).toNat := ⟨_, rfl⟩
  have hc1 : (1 + room : Int) = c := by omega
  have hc2 : 1 ≤ c := by omega
  have hc3 : c ≤ 65536 := by omega
  have hc6 : c ≤ 1000000 := by omega
  obtain ⟨k, hk⟩ : ∃ k : Nat, k = min p.length c := ⟨_, rfl⟩
  have hkp : k ≤ p.length := hk ▸ Nat.min_le_left _ _
  have hcut := cut_int A p.length cp k hkp hc
  have HP := Aside0.mk hp
  have HC := Aside0.mk hc
  have HL := Aside0.mk h.2.2
  have HK := Aside0.mk hk
  have HKP := Aside0.mk hkp
  have HKL := Aside0.mk (show (p.take k).length = k by rw [List.length_take]; exact Nat.min_eq_left hkp)
  have HC2 := Aside0.mk hc2
  have HC3 := Aside0.mk hc3
  have hsame : ((strOfNums p).toList == (strOfNums p).toList) = true := beq_self_eq_true _
  obtain ⟨X, hX⟩ : ∃ X, X = p.take k := ⟨_, rfl⟩
  have HX := Aside0.mk hX
  clear hX
  have hsame2 : ((strOfNums X).toList == (strOfNums X).toList) = true := beq_self_eq_true _
  have d1 : decide (p.length < k) = false := decide_eq_false (Nat.not_lt.2 hkp)
  have d2 : decide ((p.length : Int) < (k : Int)) = false := decide_eq_false (by omega)
  have e1 : wrap64 (1 + room) = c := by rw [hc1]; exact wrap_nat hc6
  have e2 : IntKind.i64.wrap room = room := u8_in h.1 h.2.1
  clear hp hc h hcr hc1 hc2 hc3 hc6 hk hkp
  go_enter Try.func7, Try.ntmps7
  go_wp2_with (first
    | (go_at_call 9; refine (awake_calls _).mono ?_; rintro e w2 ⟨rfl, hb2⟩; have HB2 := Aside0.mk hb2; clear hb2)
    | (go_at_call 10; refine (new_calls_int _ _ c rfl HC2.out HC3.out).mono ?_; rintro e w3 ⟨g, b, rfl, hr, hb, hg1, hb1⟩; have HR := Aside0.mk hr; have HB3 := Aside0.mk (below_step HB2.out hb); have HG := Aside0.mk (And.intro (Nat.le_trans HB2.out.size hg1) (Nat.le_trans HB2.out.size hb1)); have HGL := Aside0.mk hr.lt; clear hr hb hg1 hb1)
    | ((with_reducible refine gate_builtin (b := .append) (xs := #[.tmp 28, .tmp 29]) rfl ?_); at_builtin; refine Kd.R_append_rows (Kd.int .u8) (w0 := w3) w3.heap.size rfl (.tmp 28) (.tmp 29) 22 5 (.int .u8 0) 1 rfl Try.underlying22 info_byte rfl (by decide) (by omega) (.slice none 0 0) [] p A p.length cp (fun k => w3.heap.size ≤ k) (fun _ => False) rfl rfl ?aO ?aR (fun _ _ h => h) (fun _ h => h.elim) ?aF ?aB ?aS ?aL ?_; (case aO => exact Kd.R_nil _ _ _ _ _); (case aR => exact Kd.C_below HP.out HB3.out); (case aF => exact fun _ h => h); (case aB => exact Below.refl _ _); (case aS => exact Nat.le_refl _); (case aL => have := HL.out; simp only [List.length_nil]; omega); intro v4 w4 ho hb hg hat; obtain ⟨Am, cm, rfl⟩ := Kd.R_slice ho; rw [List.nil_append] at ho ⊢; have HO := Aside0.mk ho; have HB4 := Aside0.mk (below_step HB3.out hb); have HR4 := Aside0.mk (HR.out.below hb); clear ho hb hg hat)
    | (go_at_call 11; refine (write_is (w := w4) p.length k rfl HR4.out (own_read HO.out).1 (own_far HO.out HGL.out.1 HGL.out.2) (own_read HO.out).2 HK.out).mono ?_; rintro e w5 ⟨rfl, hr, hk, hb⟩; have HR5 := Aside0.mk (show Rg w5 g b c (p.take k) _ 0 from hr); have HB5 := Aside0.mk (hb _ _ HG.out.1 HG.out.2 HB4.out); have ho5 := Kd.R_kept HO.out hk (fun j hj hs => by have := HGL.out; rcases hs with h | h <;> omega); have hcvM := peek_string (W0 := w5) ho5; have HO5 := Aside0.mk ho5; have hcvN := row_string w5 A p p.length cp rfl (Kd.C_below HP.out HB5.out); clear hr hk hb ho5))
  obtain ⟨N, hN⟩ : ∃ N, N = w3.heap.size := ⟨_, rfl⟩
  have HGN := Aside0.mk (show g < N ∧ b < N from hN ▸ HGL.out)
  have HGW := Aside0.mk (show w.heap.size ≤ N from hN ▸ HB3.out.size)
  replace HO5 : Aside0 (Kd.R (Kd.int .u8) 5 w5 N (fun k => N ≤ k) (.slice Am p.length cm) p) := ⟨by rw [hN]; exact HO5.out⟩
  obtain ⟨ci, hci⟩ : ∃ ci : Int, ci = IntKind.u64.wrap (0 + k) := ⟨_, rfl⟩
  rw [← hci] at HR5
  clear hci hN HO HR HB2 HB3 HB4 HR4 hcvM hcvN e1 e2 d1 d2 hsame
  go_loopg [9] p.length (fun m v9 w' => ∃ (j : Int) (ys : List Int), v9 = .int .i64 j ∧ Aside0 (0 ≤ j ∧ j + m = (p.length : Int)) ∧ Aside0 (ys.length = p.length) ∧ Aside0 (Kd.R (Kd.int .u8) 5 w' N (fun k => N ≤ k) (.slice Am p.length cm) ys) ∧ Aside0 (Rg w' g b c (p.take k) ci 0) ∧ Aside0 (Below w.heap.size w w'))
  case atStart => exact ⟨0, p, rfl, ⟨by omega⟩, ⟨rfl⟩, HO5, HR5, HB5⟩
  case round =>
    clear HO5 HR5 HB5
    obtain ⟨j, ys, rfl, HJ, HYL, HY, HR, HB⟩ := hrel
    cases gk with
    | zero =>
      have c1b : decide (j < (p.length : Int)) = false := decide_eq_false (by have := HJ.out; omega)
      clear HY HYL
      go_upto_region 16 with (go_at_call 15; refine (peek_calls wr _ _ _ _ _ _ HR.out).mono ?_; rintro e w7 ⟨v7, rfl, hr7, hb7⟩; have HB7 := Aside0.mk (below_step HB.out hb7); have HR7 := Aside0.mk (HR.out.below hb7); have HS7 := Aside0.mk (And.intro HR.out.lt (Nat.le_trans HB.out.size (Nat.le_refl _))); obtain ⟨Ap, cpk, rfl⟩ := Kd.R_slice hr7; rw [HKL.out] at hr7 ⊢; have HZ7 := Aside0.mk hr7; clear hr7 hb7)
      have hcv1 := peek_string (W0 := w7) (Kd.R_drew HZ7.out)
      have hcv2 := cut_string w7.drew A p k cp (Kd.C_drew (Kd.C_below HP.out HB7.out)) HKP.out
      rw [← HX.out] at hcv1 hcv2
      go_region_held_law (fun W => (convert 22 9 (.slice Ap k cpk)).run Try.prog W = .ok (.string (strOfNums X)) W ∧ (convert 22 9 (.slice A k cp)).run Try.prog W = .ok (.string (strOfNums X)) W) (first | exact ⟨hcv1, hcv2⟩) (first | fail)
      go_wp2
      have HZD := Aside0.mk (Kd.R_drew HZ7.out)
      have HRD := Aside0.mk (HR7.out.step (w1 := w7.drew) rfl rfl)
      have HBD := Aside0.mk (below_drew1 HB7.out)
      clear HZ7 HR7 HB7 hcv1 hcv2
      obtain ⟨M, hM⟩ : ∃ M, M = wr.heap.size := ⟨_, rfl⟩
      replace HGN := Aside0.mk (show g < M ∧ b < M from hM ▸ HS7.out.1)
      replace HGW := Aside0.mk (show w.heap.size ≤ M from hM ▸ HS7.out.2)
      rw [← hM] at HZD
      clear hM HS7 HB HR
      go_loopg [11] k (fun m v11 w' => ∃ (j : Int) (ys : List Int), v11 = .int .i64 j ∧ Aside0 (0 ≤ j ∧ j + m = (k : Int)) ∧ Aside0 (ys.length = k) ∧ Aside0 (Kd.R (Kd.int .u8) 5 w' M (fun _ => True) (.slice Ap k cpk) ys) ∧ Aside0 (Rg w' g b c (p.take k) ci 0) ∧ Aside0 (Below w.heap.size w w'))
      case atStart => exact ⟨0, p.take k, rfl, ⟨by omega⟩, HKL, HZD, HRD, HBD⟩
      case round =>
        clear HZD HRD HBD
        obtain ⟨j, ys, rfl, HJ, HYL, HY, HR, HB⟩ := hrel
        cases gk with
        | zero =>
          have c1b : decide (j < (k : Int)) = false := decide_eq_false (by have := HJ.out; omega)
          clear HY HYL
          go_upto_region 23 with (fail)
          have hcvA := cut_string wr.drew A p k cp (Kd.C_drew (Kd.C_below HP.out HB.out)) HKP.out
          rw [← HX.out] at hcvA
          go_region_held_law (fun W => (convert 22 9 (.slice A k cp)).run Try.prog W = .ok (.string (strOfNums X)) W) (first | exact hcvB | exact hcvA) (first
            | (go_at_call_of 15 (Value.pointer none); refine (peek_nil _).mono ?_; rintro e w9 ⟨rfl, rfl⟩)
            | (go_at_call_of 15 (Value.pointer (some ⟨g, 0, none⟩)); refine (peek_calls wr.drew _ _ _ _ _ _ (HR.out.step rfl rfl)).mono ?_; rintro e w8 ⟨v8, rfl, hr8, hb8⟩; have HB8 := Aside0.mk (below_step (below_drew1 HB.out) hb8); have hcvB := cut_string w8 A p k cp (Kd.C_below HP.out HB8.out) HKP.out; rw [← HX.out] at hcvB; have hcvP := peek_string (W0 := w8) hr8; rw [← HX.out] at hcvP; clear hr8 hb8)
            | (go_at_call 11; refine (write_nil _ _ _ _).mono ?_; rintro e w9 ⟨rfl, rfl⟩)
            | (go_at_call 13; refine (take_nil _ _).mono ?_; rintro e w9 ⟨rfl, rfl⟩)
            | (go_at_call 14; refine (len_nil _).mono ?_; rintro e w9 ⟨rfl, rfl⟩)
            | (go_at_call 19; refine (cap_nil _).mono ?_; rintro e w9 ⟨rfl, rfl⟩)
            | (go_at_call 12; refine (free_nil _).mono ?_; rintro e w9 ⟨rfl, rfl⟩)
            | (go_at_call 20; refine (in_nil _).mono ?_; rintro e w9 ⟨rfl, rfl⟩)
            | (go_at_call 16; refine (out_nil _).mono ?_; rintro e w9 ⟨rfl, rfl⟩))
          all_goals
            go_wp2
            go_ret
            exact ⟨rfl, HB8.out⟩
        | succ m2 =>
          have c1b : decide (j < (k : Int)) = true := decide_eq_true (by have := HJ.out; omega)
          have pj : 0 ≤ j := by have := HJ.out; omega
          have qj : j < (k : Int) := by have := HJ.out; omega
          obtain ⟨gy, cy, ey, gb, gl, cl, HGY⟩ := Kd.R_form HY.out (by have := HJ.out; have := HYL.out; omega)
          injection ey with ea en ec
          subst ea
          subst ec
          have HY' := Aside0.mk (en ▸ HY.out)
          obtain ⟨hx, hf⟩ := Kd.R_celln 0 HY.out j pj qj
          have HGB := Aside0.mk (show M ≤ gy from gb)
          have HPP := Kd.R_putg HY.out j 7
          clear gb gl cl HGY en HY'
          replace pj := eq_true pj
          replace qj := eq_true qj
          have hg : wr.grownBy (wr.setCell ⟨gy, j.toNat, none⟩ (.int .u8 7)) (some gy) := HPP.2
          have HYN := Aside0.mk HPP.1
          have HRN := Aside0.mk (HR.out.step (w1 := (wr.setCell ⟨gy, j.toNat, none⟩ (.int .u8 7))) (hg.block g HR.out.lt.1 (fun e => by have := HGN.out; have := HGB.out; have := Option.some.inj e; omega)) (hg.block b HR.out.lt.2 (fun e => by have := HGN.out; have := HGB.out; have := Option.some.inj e; omega)))
          have HBN := Aside0.mk (show Below w.heap.size w (wr.setCell ⟨gy, j.toNat, none⟩ (.int .u8 7)) from HB.out.setCell (p := ⟨gy, j.toNat, none⟩) (by have := HGB.out; have := HGW.out; show w.heap.size ≤ gy; omega) _)
          clear HPP hg
          go_wp2
          go_roundg m2
          case measure => omega
          case rel => exact ⟨_, _, rfl, ⟨by have := HJ.out; have := HL.out; have := HKP.out; unfold wrap64; omega⟩, ⟨by rw [List.length_set]; exact HYL.out⟩, HYN, HRN, HBN⟩
    | succ m2 =>
      have c1b : decide (j < (p.length : Int)) = true := decide_eq_true (by have := HJ.out; omega)
      have pj : 0 ≤ j := by have := HJ.out; omega
      have qj : j < (p.length : Int) := by have := HJ.out; omega
      obtain ⟨gy, cy, ey, gb, gl, cl, HGY⟩ := Kd.R_form HY.out (by have := HJ.out; have := HYL.out; omega)
      injection ey with ea en ec
      subst ea
      subst ec
      have HY' := Aside0.mk (en ▸ HY.out)
      obtain ⟨hx, hf⟩ := Kd.R_celln 0 HY.out j pj qj
      have HGB := Aside0.mk (show N ≤ gy from gb)
      have HPP := Kd.R_putg HY.out j 9
      clear gb gl cl HGY en HY'
      replace pj := eq_true pj
      replace qj := eq_true qj
      have hg : wr.grownBy (wr.setCell ⟨gy, j.toNat, none⟩ (.int .u8 9)) (some gy) := HPP.2
      have HYN := Aside0.mk HPP.1
      have HRN := Aside0.mk (HR.out.step (w1 := (wr.setCell ⟨gy, j.toNat, none⟩ (.int .u8 9))) (hg.block g HR.out.lt.1 (fun e => by have := HGN.out; have := HGB.out; have := Option.some.inj e; omega)) (hg.block b HR.out.lt.2 (fun e => by have := HGN.out; have := HGB.out; have := Option.some.inj e; omega)))
      have HBN := Aside0.mk (show Below w.heap.size w (wr.setCell ⟨gy, j.toNat, none⟩ (.int .u8 9)) from HB.out.setCell (p := ⟨gy, j.toNat, none⟩) (by have := HGB.out; have := HGW.out; show w.heap.size ≤ gy; omega) _)
      clear HPP hg
      go_wp2
      go_roundg m2
      case measure => omega
      case rel => exact ⟨_, _, rfl, ⟨by have := HJ.out; have := HL.out; have := HKP.out; unfold wrap64; omega⟩, ⟨by rw [List.length_set]; exact HYL.out⟩, HYN, HRN, HBN⟩
end Go.Proofs.Ytnblegepecmblaa.Ring
