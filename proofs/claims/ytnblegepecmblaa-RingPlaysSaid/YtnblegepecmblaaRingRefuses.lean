/-
  The walk of the law RingRefuses: it returns true and leaves what was there as it was. Conditions: none beyond the arguments' kinds.
-/
import Derived.Test.YtnblegepecmblaaRingNew
import Derived.Deep.RegionHeldLaw
namespace Go.Proofs.Ytnblegepecmblaa.Ring
open Go.RowKit Go.Proofs.YtnblegepecmblaaW.PrintWords Go.Proofs.YtnblegepecmblaaW.PrintLast Go.Proofs.YtnblegepecmblaaW.PrintMore
attribute [local go_sem] max2_int min2_int max_two min_two max_three min_three max_four min_four
set_option linter.unusedVariables false
set_option linter.unusedSimpArgs false

theorem arg_far {w : World} {A : Option Addr} {p : List Int} {g b : Nat} (hp : Kd.C (Kd.int .u8) w A p.length p) (hg : w.heap.size ≤ g) (hb : w.heap.size ≤ b) : ∀ ad, A = some ad → 0 < p.length → ad.block ≠ g ∧ ad.block ≠ b := by
  intro ad e hl
  obtain ⟨ad', c', e', hlen', hK', hc'⟩ := Kd.C_get hp (0 : Int) 0 (Int.le_refl _) (by omega)
  obtain rfl := Option.some.inj (e.symm.trans e')
  obtain rfl : c' = [Value.int .u8 (rd p 0)] := hK'
  have hq := hc' 0 _ rfl
  have := World.block_lt_of_cell? w _ hq
  have h2 : ad.block < w.heap.size := this
  omega
theorem cut_string (W : World) (A : Option Addr) (p : List Int) (k cp : Nat) (hp : Kd.C (Kd.int .u8) W A p.length p) (hk : k ≤ p.length) :
    (convert 22 9 (.slice A k cp)).run Try.prog W = .ok (.string (strOfNums (p.take k))) W := by
  have h := Kd.C_string (P := Try.prog) (c := cp) Try.underlying22 Try.underlying5 Try.underlying9 (Kd.C_take hp hk)
  rwa [List.length_take, Nat.min_eq_left hk] at h
theorem cut_int (A : Option Addr) (n cp k : Nat) (hk : k ≤ n) (hc : n ≤ cp) : ∀ W : World, (Instr.slice 22 (.slice A n cp) none (some (.int .i64 (k : Int))) none).run Try.prog W = .ok (.slice A k cp) W := by
  obtain ⟨i0, hi0, _, hsz, _⟩ := info_parts info_byte
  have h := cut_to (P := Try.prog) 22 5 .i64 Try.underlying22 hi0 A n cp k (by omega) (by omega) hc
  simpa only [Int.toNat_natCast] using h
theorem peek_string {W W0 : World} {base : Nat} {M : Nat → Prop} {v : Value} {l : List Int} (h : Kd.R (Kd.int .u8) 5 W base M v l) : (convert 22 9 v).run Try.prog W = .ok (.string (strOfNums l)) W :=
  own_string (P := Try.prog) Try.underlying22 Try.underlying5 Try.underlying9 (Kd.own_of_R h)
theorem u8_in {x : Int} (h0 : 0 ≤ x) (h1 : x ≤ 255) : IntKind.i64.wrap x = x := IntWalk.i64_in _ (by omega)

set_option maxHeartbeats 8000000 in
set_option maxRecDepth 100000 in
theorem refuses.calls (room : Int) (A : Option Addr) (cp : Nat) (p : List Int) (n : Int) (r : Bool) (w : World) (hp : Kd.C (Kd.int .u8) w A p.length p) (hc : p.length ≤ cp) (h : 0 ≤ room ∧ room ≤ 255 ∧ -9223372036854775808 ≤ n ∧ n ≤ 9223372036854775807) :
    Calls Try.prog 4 #[.int .u8 room, .slice A p.length cp, .int .i64 n] w fun e w' => e = .returned (.bool true) ∧ Below w.heap.size w w' := by
  obtain ⟨c, hcr⟩ : ∃ c : Nat, c = (1 + room).toNat := ⟨_, rfl⟩
  have hc1 : (1 + room : Int) = c := by omega
  have hc2 : 1 ≤ c := by omega
  have hc3 : c ≤ 65536 := by omega
  obtain ⟨k, hk⟩ : ∃ k : Nat, k = min p.length c := ⟨_, rfl⟩
  have e1 : wrap64 (1 + room) = c := by rw [hc1]; exact wrap_in (by omega) (by omega)
  have e2 : IntKind.i64.wrap room = room := u8_in h.1 h.2.1
  have hk1 : k ≤ p.length := by omega
  have hk2 : k ≤ c := by omega
  have hkk : (([] ++ p.take k : List Int)).length = k := by simp; omega
  have e4 : IntKind.u64.wrap (0 + (k : Int)) = k := by unfold IntKind.wrap; simp [IntKind.signed, IntKind.bits]; omega
  have HP := Aside0.mk hp
  have HC := Aside0.mk hc
  have HN := Aside0.mk h
  have HK1 := Aside0.mk hk1
  have HK := Aside0.mk hk
  have HKK := Aside0.mk hkk
  have HC2 := Aside0.mk hc2
  have HC3 := Aside0.mk hc3
  clear hp hc h hcr hc1 hc2 hc3 hk hk2 hkk hk1
  by_cases hin : 0 ≤ n ∧ n ≤ k
  · have c1 : decide (0 ≤ n) = true := decide_eq_true hin.1
    have c2 : decide (n ≤ (k : Int)) = true := decide_eq_true hin.2
    have e5 : wrap64 ((k : Int) - n) = ((([] ++ p.take k : List Int).drop n.toNat).length : Int) := by
      rw [List.length_drop, HKK.out]
      have := HK.out
      have := HC3.out
      rw [wrap_in (by omega) (by omega)]
      omega
    have e6 : IntKind.i64.wrap ((k : Int) - n) = ((([] ++ p.take k : List Int).drop n.toNat).length : Int) := by
      rw [← e5, show (k : Int) - n = (((k : Int) - n)) from rfl]
      have := HK.out
      have := HC3.out
      rw [wrap_in (by omega) (by omega)]
      exact IntWalk.i64_in _ (by omega)
    have HIN := Aside0.mk hin
    clear hin
    go_enter Try.func4, Try.ntmps4
    go_wp2_with (first
      | (go_at_call 9; refine (awake_calls _).mono ?_; rintro e w2 ⟨rfl, hb2⟩; have HB2 := Aside0.mk hb2; clear hb2)
      | (go_at_call 10; refine (new_calls_int _ _ c rfl HC2.out HC3.out).mono ?_; rintro e w3 ⟨g, b, rfl, hr, hb, hg1, hb1⟩; have HR := Aside0.mk hr; have HB3 := Aside0.mk (below_step HB2.out hb); have HG := Aside0.mk (And.intro (Nat.le_trans HB2.out.size hg1) (Nat.le_trans HB2.out.size hb1)); clear hr hb hg1 hb1)
      | (go_at_call 11; refine (write_calls _ g b c [] 0 0 k A cp p k HR.out (Kd.C_below HP.out HB3.out) (arg_far HP.out HG.out.1 HG.out.2) HC.out (by rw [HK.out]; rfl) e4.symm).mono ?_; rintro e w4 ⟨rfl, hr, hk, hb⟩; have HR4 := Aside0.mk hr; have HB4 := Aside0.mk (hb _ _ HG.out.1 HG.out.2 HB3.out); clear hr hk hb)
      | (go_at_call 13; refine (take_calls _ g b c _ _ 0 n _ HR4.out HIN.out.1 (by rw [HKK.out]; exact HIN.out.2) rfl).mono ?_; rintro e w5 ⟨rfl, hr, hk, hb⟩; have HR5 := Aside0.mk hr; have HB5 := Aside0.mk (hb _ _ HG.out.1 HB4.out); clear hr hk hb)
      | (go_at_call 14; refine (len_calls _ _ _ _ _ _ _ HR5.out).mono ?_; rintro e w6 ⟨rfl, rfl⟩))
    go_ret
    exact ⟨rfl, HB5.out⟩
  · have HREF := Aside0.mk (show n < 0 ∨ (([] ++ p.take k : List Int).length : Int) < n by rw [HKK.out]; omega)
    have hcut := cut_int A p.length cp k HK1.out HC.out
    have hsame : ((strOfNums (p.take k)).toList == (strOfNums (p.take k)).toList) = true := beq_self_eq_true _
    have hmin : min k p.length = k := Nat.min_eq_left HK1.out
    by_cases hn0 : 0 ≤ n
    all_goals
      first
        | (have c1 : decide (0 ≤ n) = true := decide_eq_true hn0
           have c2 : decide (n ≤ (k : Int)) = false := decide_eq_false (by omega))
        | (have c1 : decide (0 ≤ n) = false := decide_eq_false hn0)
      clear hin hn0
      go_enter Try.func4, Try.ntmps4
      go_upto_region 10 with (first
        | (go_at_call 9; refine (awake_calls _).mono ?_; rintro e w2 ⟨rfl, hb2⟩; have HB2 := Aside0.mk hb2; clear hb2)
        | (go_at_call 10; refine (new_calls_int _ _ c rfl HC2.out HC3.out).mono ?_; rintro e w3 ⟨g, b, rfl, hr, hb, hg1, hb1⟩; have HR := Aside0.mk hr; have HB3 := Aside0.mk (below_step HB2.out hb); have HG := Aside0.mk (And.intro (Nat.le_trans HB2.out.size hg1) (Nat.le_trans HB2.out.size hb1)); clear hr hb hg1 hb1)
        | (go_at_call 11; refine (write_calls _ g b c [] 0 0 k A cp p k HR.out (Kd.C_below HP.out HB3.out) (arg_far HP.out HG.out.1 HG.out.2) HC.out (by rw [HK.out]; rfl) e4.symm).mono ?_; rintro e w4 ⟨rfl, hr, hk, hb⟩; have HR4 := Aside0.mk hr; have HB4 := Aside0.mk (hb _ _ HG.out.1 HG.out.2 HB3.out); clear hr hk hb)
        | (go_at_call 13; refine (take_refuses _ g b c _ _ 0 n HR4.out HREF.out).mono ?_; rintro e w5 ⟨rfl, rfl⟩))
      have hcvA := cut_string w4.drew A p k cp (Kd.C_drew (Kd.C_below HP.out HB4.out)) HK1.out
      go_region_held_law (fun W => (convert 22 9 (.slice A k cp)).run Try.prog W = .ok (.string (strOfNums (p.take k))) W) (first | exact hcvA | exact hcvC) (first
        | (go_at_call 14; refine (len_calls w4.drew _ _ _ _ _ _ (HR4.out.step rfl rfl)).mono ?_; rintro e w6 ⟨rfl, rfl⟩)
        | (go_at_call 15; refine (peek_calls w4.drew _ _ _ _ _ _ (HR4.out.step rfl rfl)).mono ?_; rintro e w7 ⟨v7, rfl, hr7, hb7⟩; have hcvB := peek_string (W0 := w7) hr7; have HB7 := Aside0.mk (below_step (below_drew1 HB4.out) hb7); have HR7 := Aside0.mk ((HR4.out.step (w1 := w4.drew) rfl rfl).below hb7); have hcvC := cut_string w7 A p k cp (Kd.C_below HP.out HB7.out) HK1.out; clear hr7 hb7)
        | (go_at_call 16; refine (out_calls _ _ _ _ _ _ _ HR7.out).mono ?_; rintro e w8 ⟨rfl, rfl⟩))
      all_goals
        go_wp2
        go_ret
        exact ⟨rfl, HB7.out⟩
end Go.Proofs.Ytnblegepecmblaa.Ring
