/-
  The walk of the law RingRounds: it returns true and leaves what was there as it was. Conditions: none beyond the arguments' kinds.
-/
import Derived.Test.YtnblegepecmblaaRingFull
namespace Go.Proofs.Ytnblegepecmblaa.Ring
open Go.RowKit Go.Proofs.YtnblegepecmblaaW.PrintWords Go.Proofs.YtnblegepecmblaaW.PrintLast Go.Proofs.YtnblegepecmblaaW.PrintMore
attribute [local go_sem] max2_int min2_int max_two min_two max_three min_three max_four min_four
set_option linter.unusedVariables false
set_option linter.unusedSimpArgs false

def rdL (xs : List (List Int)) (i : Int) : List Int := xs.getD i.toNat []
theorem at_row {w : World} {A : Option Addr} {n : Nat} {xs : List (List Int)} (h : Kd.C (Kd.slice 5 (Kd.int .u8)) w A n xs) (i : Int) (h0 : 0 ≤ i) (h1 : i < n) : ∃ ad A0 c0, A = some ad ∧ w.cell? (ad.add i.toNat) = some (.slice A0 (rdL xs i).length c0) ∧ (rdL xs i).length ≤ c0 ∧ Kd.C (Kd.int .u8) w A0 (rdL xs i).length (rdL xs i) := by
  obtain ⟨ad, c, e, _, hK, hc0⟩ := Kd.C_get h ([] : List Int) i h0 h1
  obtain ⟨A0, c0, rfl, l0, g0⟩ := hK
  have hc := hc0 0 _ rfl
  refine ⟨ad, A0, c0, e, ?_, l0, g0⟩
  rw [show i.toNat * (Kd.slice 5 (Kd.int .u8)).sz + 0 = i.toNat from Nat.mul_one _] at hc
  exact hc
theorem write_is {w : World} {g b c : Nat} {wait : List Int} {ci co : Int} (l : Nat) {A : Option Addr} {cp : Nat} {p : List Int} (n : Nat) (hl : p.length = l) (hR : Rg w g b c wait ci co) (hp : Kd.C (Kd.int .u8) w A p.length p) (hA : ∀ ad, A = some ad → 0 < p.length → ad.block ≠ g ∧ ad.block ≠ b) (hc : l ≤ cp)
    (hn : n = min l (c - wait.length)) :
    Calls Try.prog 11 #[.pointer (some ⟨g, 0, none⟩), .slice A l cp] w fun e w' => e = .returned (.int .i64 n) ∧ Rg w' g b c (wait ++ p.take n) (IntKind.u64.wrap (ci + n)) co ∧ Kept w w' (fun k => k = g ∨ k = b) ∧ (∀ base w0, base ≤ g → base ≤ b → Below base w0 w → Below base w0 w') := by
  subst hl
  exact write_calls w g b c wait ci co _ A cp p n hR hp hA hc hn rfl
theorem row_string (W : World) (A : Option Addr) (p : List Int) (k cp : Nat) (hk : p.length = k) (hp : Kd.C (Kd.int .u8) W A p.length p) :
    (convert 22 9 (.slice A k cp)).run Try.prog W = .ok (.string (strOfNums p)) W := by
  subst hk
  exact Kd.C_string (P := Try.prog) (c := cp) Try.underlying22 Try.underlying5 Try.underlying9 hp
theorem u64_in {n : Nat} (h : n ≤ 1000000) : IntKind.u64.wrap (n : Int) = n := by unfold IntKind.wrap; simp [IntKind.signed, IntKind.bits]; omega
theorem len_zero {w : World} {g b c : Nat} {ci co : Int} (hR : Rg w g b c [] ci co) :
    Calls Try.prog 14 #[.pointer (some ⟨g, 0, none⟩)] w fun e w' => e = .returned (.int .i64 0) ∧ w = w' := len_calls w g b c [] ci co hR

set_option maxHeartbeats 8000000 in
set_option maxRecDepth 100000 in
theorem rounds.calls (room : Int) (A : Option Addr) (cp : Nat) (rows : List (List Int)) (r : Bool) (w : World) (hp : Kd.C (Kd.slice 5 (Kd.int .u8)) w A rows.length rows) (hc : rows.length ≤ cp) (h : 0 ≤ room ∧ room ≤ 255) :
    Calls Try.prog 8 #[.int .u8 room, .slice A rows.length cp] w fun e w' => e = .returned (.bool true) ∧ Below w.heap.size w w' := by
  obtain ⟨m7, hm7⟩ : ∃ m7 : Nat, room % 7 = m7 := ⟨(room % 7).toNat, by omega⟩
  have hm6 : m7 ≤ 6 := by omega
  obtain ⟨c, hcr⟩ : ∃ c : Nat, c = 1 + m7 := ⟨_, rfl⟩
  have hc2 : 1 ≤ c := by omega
  have hc3 : c ≤ 65536 := by omega
  have hmx := Kd.C_max hp
  have e0 : (1 : Int) + (m7 : Int) = c := by omega
  have hc6 : c ≤ 1000000 := by omega
  have e1 : wrap64 (1 + (m7 : Int)) = c := by rw [e0]; exact wrap_nat hc6
  have e2 : IntKind.i64.wrap room = room := u8_in h.1 h.2
  have e3 : room.tmod 7 = m7 := tmod_same h.1 hm7.symm
  clear hc6
  have HP := Aside0.mk hp
  have HM := Aside0.mk hmx
  have HC2 := Aside0.mk hc2
  have HC3 := Aside0.mk hc3
  clear hp hc h hm6 hcr hc2 hc3 hmx
  go_enter Try.func8, Try.ntmps8
  go_wp2_with (first
    | (go_at_call 9; refine (awake_calls _).mono ?_; rintro e w2 ⟨rfl, hb2⟩; have HB2 := Aside0.mk hb2; clear hb2)
    | (go_at_call 10; refine (new_calls_int _ _ c rfl HC2.out HC3.out).mono ?_; rintro e w3 ⟨g, b, rfl, hr, hb, hg1, hb1⟩; have HR := Aside0.mk hr; have HB3 := Aside0.mk (below_step HB2.out hb); have HG := Aside0.mk (And.intro (Nat.le_trans HB2.out.size hg1) (Nat.le_trans HB2.out.size hb1)); clear hr hb hg1 hb1))
  clear e0 e1 e2 e3 hm7
  go_loopg [8, 9] rows.length (fun m v8 v9 w' => ∃ t i : Int, v8 = .int .u64 t ∧ v9 = .int .i64 i ∧ Aside0 (0 ≤ i ∧ i + m = (rows.length : Int)) ∧ Aside0 (Rg w' g b c [] t t) ∧ Aside0 (Below w.heap.size w w'))
  case atStart => exact ⟨0, 0, rfl, rfl, ⟨by omega⟩, HR, HB3⟩
  case round =>
    clear HR HB3 HB2
    obtain ⟨t, i, rfl, rfl, HI, HR, HB⟩ := hrel
    cases gk with
    | zero =>
      have c0b : decide (i < (rows.length : Int)) = false := decide_eq_false (by have := HI.out; omega)
      go_wp2
      go_ret
      exact ⟨rfl, HB.out⟩
    | succ m =>
      have c0b : decide (i < (rows.length : Int)) = true := decide_eq_true (by have := HI.out; omega)
      have p0 : 0 ≤ i := by have := HI.out; omega
      have q0 : i < (rows.length : Int) := by have := HI.out; omega
      obtain ⟨ad, A0, cq, e0, hx, lq, hq⟩ := at_row HP.out i p0 q0
      cases e0
      replace hx := (HB.out.cell (World.block_lt_of_cell? w _ hx)).trans hx
      generalize rdL rows i = q at hx lq hq
      obtain ⟨nq, hnq⟩ : ∃ nq, nq = min q.length c := ⟨_, rfl⟩
      have hnl : nq ≤ q.length := hnq ▸ Nat.min_le_left _ _
      have hnc : nq ≤ c := hnq ▸ Nat.min_le_right _ _
      obtain ⟨pq, hpq⟩ : ∃ pq, pq = q.take nq := ⟨_, rfl⟩
      have hpl : pq.length = nq := by rw [hpq, List.length_take]; exact Nat.min_eq_left hnl
      have HQ := Aside0.mk (show Kd.C (Kd.int .u8) w A0 pq.length pq from hpq ▸ Kd.C_take hq hnl)
      have HPL := Aside0.mk hpl
      have HNC := Aside0.mk hnc
      have HLC := Aside0.mk (Nat.le_trans hnl lq)
      have HNQ := Aside0.mk hnq
      have HLQ := Aside0.mk lq
      have HT := Aside0.mk (show pq.take nq = pq from List.take_of_length_le (Nat.le_of_eq hpl))
      have HD := Aside0.mk (show pq.drop nq = [] from List.drop_of_length_le (Nat.le_of_eq hpl))
      clear hpq hq hnl hnc hpl lq hnq
      replace p0 := eq_true p0
      replace q0 := eq_true q0
      go_upto_if 41 with (fail)
      go_cut [10] from 28 to 85 (fun v10 wc => v10 = .slice A0 nq cq ∧ Aside0 (Rg wc g b c [] t t) ∧ Aside0 (Below w.heap.size w wc))
      case first =>
        by_cases hlt : c < q.length
        · have c2b : decide (c < q.length) = true := decide_eq_true hlt
          have hnq2 : nq = c := by rw [HNQ.out]; exact Nat.min_eq_right (Nat.le_of_lt hlt)
          have hcut : ∀ W : World, (Instr.slice 22 (.slice A0 q.length cq) none (some (.int .i64 (c : Int))) none).run Try.prog W = .ok (.slice A0 nq cq) W := by
            rw [hnq2]; exact cut_int A0 q.length cq c (Nat.le_of_lt hlt) HLQ.out
          clear hlt hnq2
          simp only [c2b]
          go_wp2
          go_meet
          exact ⟨rfl, HR, HB⟩
        · have c2b : decide (c < q.length) = false := decide_eq_false hlt
          have hnq2 : nq = q.length := by rw [HNQ.out]; exact Nat.min_eq_left (Nat.le_of_not_lt hlt)
          clear hlt
          simp only [c2b]
          go_wp2
          go_meet
          exact ⟨by rw [hnq2], HR, HB⟩
      case rest =>
        obtain ⟨rfl, HR1, HB1⟩ := hcut
        clear HR HB hx p0 q0 c0b
        obtain ⟨t2, ht2⟩ : ∃ t2 : Int, t2 = IntKind.u64.wrap (t + nq) := ⟨_, rfl⟩
        have HT2 := Aside0.mk ht2
        have d1 : IntKind.u64.wrap (t + (nq : Int)) = t2 := ht2.symm
        have d2 : IntKind.u64.wrap (nq : Int) = nq := u64_in (by have := HNC.out; have := HC3.out; omega)
        clear ht2
        go_upto_region 14 with (fail)
        have hcvA := row_string wc.drew A0 pq nq cq HPL.out (Kd.C_drew (Kd.C_below HQ.out HB1.out))
        go_region_held_law (fun W => (convert 22 9 (.slice A0 nq cq)).run Try.prog W = .ok (.string (strOfNums pq)) W) (first | exact hcvD | exact hcvC | exact hcvB | exact hcvA) (first
          | (go_at_call 11; refine (write_is (w := wc.drew) nq nq HPL.out (HR1.out.step rfl rfl) (Kd.C_drew (Kd.C_below HQ.out HB1.out)) (arg_far HQ.out HG.out.1 HG.out.2) HLC.out (Nat.min_eq_left HNC.out).symm).mono ?_; rintro e w4 ⟨rfl, hr, hk, hb⟩; rw [HT.out, ← HT2.out] at hr; have HR4 := Aside0.mk (show Rg w4 g b c pq t2 t from hr); have HB4 := Aside0.mk (hb _ _ HG.out.1 HG.out.2 (below_drew1 HB1.out)); have hcvB := row_string w4 A0 pq nq cq HPL.out (Kd.C_below HQ.out HB4.out); clear hr hk hb)
          | (go_at_call 15; refine (peek_calls w4 _ _ _ _ _ _ HR4.out).mono ?_; rintro e w5 ⟨v5, rfl, hr5, hb5⟩; have hcvP := peek_string (W0 := w5) hr5; have HB5 := Aside0.mk (below_step HB4.out hb5); have HR5 := Aside0.mk (HR4.out.below hb5); have hcvC := row_string w5 A0 pq nq cq HPL.out (Kd.C_below HQ.out HB5.out); clear hr5 hb5)
          | (go_at_call 13; refine (take_calls w5 g b c _ _ t nq _ HR5.out (Int.natCast_nonneg _) (by rw [HPL.out]; exact Int.le_refl _) rfl).mono ?_; rintro e w6 ⟨rfl, hr, hk, hb⟩; rw [show ((nq : Int)).toNat = nq from rfl, HD.out, ← HT2.out] at hr; have HR6 := Aside0.mk hr; have HB6 := Aside0.mk (hb _ _ HG.out.1 HB5.out); have hcvD := row_string w6 A0 pq nq cq HPL.out (Kd.C_below HQ.out HB6.out); clear hr hk hb))
        all_goals
          go_wp2_with (first
            | (go_at_call 14; refine (len_zero HR6.out).mono ?_; rintro e w7 ⟨rfl, rfl⟩)
            | (go_at_call 20; refine (in_calls _ _ _ _ _ _ _ HR6.out).mono ?_; rintro e w7 ⟨rfl, rfl⟩)
            | (go_at_call 16; refine (out_calls _ _ _ _ _ _ _ HR6.out).mono ?_; rintro e w7 ⟨rfl, rfl⟩))
          go_roundg m
          case measure => omega
          case rel => exact ⟨_, _, rfl, rfl, ⟨by have := HI.out; have := HM.out; unfold wrap64; omega⟩, HR6, HB6⟩
end Go.Proofs.Ytnblegepecmblaa.Ring
