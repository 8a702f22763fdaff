/-
  The walk of the law RingFull: it returns true and leaves what was there as it was. Conditions: none beyond the arguments' kinds.
-/
import Derived.Test.YtnblegepecmblaaRingRefuses
namespace Go.Proofs.Ytnblegepecmblaa.Ring
open Go.RowKit Go.Proofs.YtnblegepecmblaaW.PrintWords Go.Proofs.YtnblegepecmblaaW.PrintLast Go.Proofs.YtnblegepecmblaaW.PrintMore
attribute [local go_sem] max2_int min2_int max_two min_two max_three min_three max_four min_four
set_option linter.unusedVariables false
set_option linter.unusedSimpArgs false

theorem str_append (xs ys : List Int) : strOfNums (xs ++ ys) = strOfNums xs ++ strOfNums ys := by
  apply ByteArray.ext
  rw [ByteArray.data_append]
  simp [strOfNums]
theorem cut_two (A : Option Addr) (p : List Int) (cp lo hi n : Nat) (h1 : lo ≤ hi) (h2 : hi ≤ p.length) (hc : p.length ≤ cp) (hn : n = hi - lo) :
    ∃ (A2 : Option Addr) (c2 : Nat), (∀ W : World, (Instr.slice 22 (.slice A p.length cp) (some (.int .i64 (lo : Int))) (some (.int .i64 (hi : Int))) none).run Try.prog W = .ok (.slice A2 n c2) W) ∧
      ∀ W : World, Kd.C (Kd.int .u8) W A p.length p → (convert 22 9 (.slice A2 n c2)).run Try.prog W = .ok (.string (strOfNums ((p.take hi).drop lo))) W := by
  obtain ⟨i0, hi0, _, hsz, _⟩ := info_parts info_byte
  have h := cut_mid (P := Try.prog) 22 5 .i64 .i64 Try.underlying22 hi0 1 hsz A p.length cp lo hi (by omega) (by omega) (by omega) hc
  simp only [Int.toNat_natCast] at h
  subst hn
  refine ⟨_, _, h, fun W hp => ?_⟩
  have h3 := Kd.C_string (P := Try.prog) (c := cp - lo) Try.underlying22 Try.underlying5 Try.underlying9 (Kd.C_mid hp h1 h2 hc)
  rw [List.length_drop, List.length_take, Nat.min_eq_left h2] at h3
  exact h3
theorem len_is {w : World} {g b c : Nat} {wait : List Int} {ci co : Int} (n : Nat) (hR : Rg w g b c wait ci co) (hn : wait.length = n) :
    Calls Try.prog 14 #[.pointer (some ⟨g, 0, none⟩)] w fun e w' => e = .returned (.int .i64 n) ∧ w = w' := hn ▸ len_calls w g b c wait ci co hR
theorem wrap_nat {x : Nat} (h : x ≤ 1000000) : wrap64 (x : Int) = x := wrap_in (by omega) (by omega)
theorem big_no {a b s : Nat} (hs : s = a + b) (h : s ≤ 1000000) : ¬ ((9223372036854775807 : Int) < (a : Int) + (b : Int)) := by omega
theorem int_ne {x : Nat} (h : ¬ x = 0) : ¬ (x : Int) = 0 := by omega
theorem beq_ne {x : Nat} (h : ¬ x = 0) : (x == 0) = false := by simpa using h
theorem min_if {x y m : Nat} (h : m = min x y) : (if (y : Int) < (x : Int) then (y : Int) else (x : Int)) = m := by split <;> omega
theorem min_if' {x y m : Nat} (h : m = min x y) : (if y < x then (y : Int) else (x : Int)) = m := by split <;> omega
theorem sub_in {c a f : Nat} (hf : f = c - a) (h : a ≤ c) (hc : c ≤ 65536) : wrap64 ((c : Int) - a) = f ∧ IntKind.i64.wrap ((c : Int) - a) = f := by
  refine ⟨?_, ?_⟩
  · rw [wrap_in (by omega) (by omega)]; omega
  · rw [IntWalk.i64_in _ (by omega)]; omega
theorem add_in {a b s : Nat} (hs : s = a + b) (h : s ≤ 1000000) : wrap64 ((a : Int) + b) = s ∧ IntKind.i64.wrap ((a : Int) + b) = s := by
  refine ⟨?_, ?_⟩
  · rw [wrap_in (by omega) (by omega)]; omega
  · rw [IntWalk.i64_in _ (by omega)]; omega
theorem rem_nat {n m k : Nat} (h : k = n % m) : (n : Int).tmod m = k := tmod_same (by omega) (by rw [h]; rfl)
theorem free_is {w : World} {g b c : Nat} {wait : List Int} {ci co : Int} (m : Nat) (hR : Rg w g b c wait ci co) (hm : wait.length + m = c) :
    Calls Try.prog 12 #[.pointer (some ⟨g, 0, none⟩)] w fun e w' => e = .returned (.int .i64 m) ∧ w = w' := free_calls w g b c wait ci co m hR (by omega)

set_option maxHeartbeats 8000000 in
set_option maxRecDepth 100000 in
theorem full.calls (room : Int) (A : Option Addr) (cp : Nat) (p : List Int) (n0 : Int) (r : Bool) (w : World) (hp : Kd.C (Kd.int .u8) w A p.length p) (hc : p.length ≤ cp) (h : 0 ≤ room ∧ room ≤ 255 ∧ 0 ≤ n0 ∧ n0 ≤ 255) :
    Calls Try.prog 3 #[.int .u8 room, .slice A p.length cp, .int .u8 n0] w fun e w' => e = .returned (.bool true) ∧ Below w.heap.size w w' := by
  obtain ⟨c, hcr⟩ : ∃ c : Nat, c = (1 + room).toNat := ⟨_, rfl⟩
  obtain ⟨n, rfl⟩ : ∃ n : Nat, n0 = n := ⟨n0.toNat, by omega⟩
  have hc1 : (1 + room : Int) = c := by omega
  have hc2 : 1 ≤ c := by omega
  have hc3 : c ≤ 65536 := by omega
  have hpm := Kd.C_max hp
  obtain ⟨a, ha⟩ : ∃ a : Nat, a = min p.length c := ⟨_, rfl⟩
  obtain ⟨a1, ha1⟩ : ∃ a1 : Nat, a1 = a + 1 := ⟨_, rfl⟩
  obtain ⟨k, hk⟩ : ∃ k : Nat, k = n % a1 := ⟨_, rfl⟩
  have hka : k ≤ a := by have := Nat.mod_lt n (show 0 < a1 by omega); omega
  obtain ⟨l1, hl1⟩ : ∃ l1 : Nat, l1 = a - k := ⟨_, rfl⟩
  obtain ⟨fa, hfa⟩ : ∃ fa : Nat, fa = c - a := ⟨_, rfl⟩
  obtain ⟨f2, hf2⟩ : ∃ f2 : Nat, f2 = fa + k := ⟨_, rfl⟩
  obtain ⟨b2, hb2⟩ : ∃ b2 : Nat, b2 = min p.length f2 := ⟨_, rfl⟩
  obtain ⟨l2, hl2⟩ : ∃ l2 : Nat, l2 = l1 + b2 := ⟨_, rfl⟩
  have hac : a ≤ c := ha ▸ Nat.min_le_right _ _
  have hap : a ≤ p.length := ha ▸ Nat.min_le_left _ _
  have ha6 : a ≤ 65536 := Nat.le_trans hac hc3
  have hf6 : fa + k ≤ c := by clear hk hb2; omega
  have hf7 : f2 ≤ 1000000 := by clear hk hb2; omega
  have hb2f : b2 ≤ f2 := hb2 ▸ Nat.min_le_right _ _
  have hb2p : b2 ≤ p.length := hb2 ▸ Nat.min_le_left _ _
  have hl6 : l2 ≤ 1000000 := by clear hk hb2 ha; omega
  obtain ⟨A2, c2, hcut, hcv⟩ := cut_two A p cp k a l1 hka hap hc hl1
  have hcut1 := cut_int A p.length cp b2 hb2p hc
  have LL1 := Aside0.mk (show ((p.take a).drop k).length = l1 by rw [List.length_drop, List.length_take, Nat.min_eq_left hap]; exact hl1.symm)
  have LL0 := Aside0.mk (show (p.take a).length = a by rw [List.length_take]; exact Nat.min_eq_left hap)
  have LL2 := Aside0.mk (show ((p.take a).drop k ++ p.take b2).length = l2 by rw [List.length_append, LL1.out, List.length_take, Nat.min_eq_left hb2p]; exact hl2.symm)
  have HCV := Aside0.mk hcv
  have HP := Aside0.mk hp
  have HC := Aside0.mk hc
  have HA := Aside0.mk ha
  have HC2 := Aside0.mk hc2
  have HC3 := Aside0.mk hc3
  have HKA := Aside0.mk hka
  have HBB := Aside0.mk hb2p
  have HF0 := Aside0.mk (show (p.take a).length + fa = c by rw [LL0.out, hfa]; exact Nat.add_sub_cancel' hac)
  have HF1 := Aside0.mk (show ((p.take a).drop k).length + f2 = c by rw [LL1.out]; clear hk hb2 ha; omega)
  have HBW := Aside0.mk (show b2 = min p.length (c - ((p.take a).drop k).length) by rw [LL1.out, hb2]; congr 1; clear hk hb2 ha; omega)
  have hsame : ((strOfNums ((p.take a).drop k) ++ strOfNums (p.take b2)).toList == (strOfNums ((p.take a).drop k) ++ strOfNums (p.take b2)).toList) = true := beq_self_eq_true _
  have e1 : wrap64 (1 + room) = c := by rw [hc1]; exact wrap_nat (by clear hk hb2 ha; omega)
  have e2 : IntKind.i64.wrap room = room := u8_in h.1 h.2.1
  have e3 : IntKind.i64.wrap (n : Int) = n := u8_in h.2.2.1 h.2.2.2
  have e4 : wrap64 ((a : Int) + 1) = a1 := (add_in ha1 (by rw [ha1]; exact Nat.succ_le_succ (Nat.le_trans ha6 (by decide)))).1
  have e8 : ¬ a1 = 0 := by rw [ha1]; exact Nat.succ_ne_zero a
  have e7 : ¬ (a1 : Int) = 0 := int_ne e8
  have e9 : (a1 == 0) = false := beq_ne e8
  have e10 := min_if ha
  have e10' := min_if' ha
  have e11 := (sub_in hfa hac hc3).1
  have d11 := (sub_in hfa hac hc3).2
  have e12 := (sub_in hl1 hka ha6).1
  have d12 := (sub_in hl1 hka ha6).2
  have e13 := (add_in hf2 hf7).1
  have d13 := (add_in hf2 hf7).2
  have e15 := min_if hb2
  have e15' := min_if' hb2
  have e14 := (add_in hl2 hl6).1
  have d14 := (add_in hl2 hl6).2
  have e5 : (n : Int).tmod (a1 : Int) = k := rem_nat hk
  have e6 : (n : Int) % (a1 : Int) = k := by rw [hk]; exact (Int.natCast_emod n a1).symm
  obtain ⟨X, hX⟩ : ∃ X, X = (p.take a).drop k := ⟨_, rfl⟩
  obtain ⟨Y, hY⟩ : ∃ Y, Y = p.take b2 := ⟨_, rfl⟩
  have HX := Aside0.mk hX
  have HY := Aside0.mk hY
  rw [← hX] at hcv hsame
  rw [← hY] at hsame
  have hXl : X.length = l1 := by rw [hX]; exact LL1.out
  have hYl : Y.length = b2 := by rw [hY, List.length_take]; exact Nat.min_eq_left hb2p
  have hXs : (strOfNums X).size = l1 := by rw [← hXl]; exact strOfNums_size X
  have hYs : (strOfNums Y).size = b2 := by rw [← hYl]; exact strOfNums_size Y
  have hbig : ¬ ((9223372036854775807 : Int) < (l1 : Int) + (b2 : Int)) := big_no hl2 hl6
  replace HCV := Aside0.mk hcv
  clear hX hY
  clear hp hc h hcr hc1 hc2 hc3 ha ha1 hk hka hl1 hfa hf2 hb2 hl2 hcv hpm hac hap ha6 hf6 hb2f hb2p hf7 hl6
  go_enter Try.func3, Try.ntmps3
  go_upto_region 14 with (first
    | (go_at_call 9; refine (awake_calls _).mono ?_; rintro e w2 ⟨rfl, hb2⟩; have HB2 := Aside0.mk hb2; clear hb2)
    | (go_at_call 10; refine (new_calls_int _ _ c rfl HC2.out HC3.out).mono ?_; rintro e w3 ⟨g, b, rfl, hr, hb, hg1, hb1⟩; have HR := Aside0.mk hr; have HB3 := Aside0.mk (below_step HB2.out hb); have HG := Aside0.mk (And.intro (Nat.le_trans HB2.out.size hg1) (Nat.le_trans HB2.out.size hb1)); clear hr hb hg1 hb1)
    | (go_at_call 11; refine (write_calls w3 g b c [] 0 0 _ A cp p a HR.out (Kd.C_below HP.out HB3.out) (arg_far HP.out HG.out.1 HG.out.2) HC.out (by rw [HA.out]; rfl) rfl).mono ?_; rintro e w4 ⟨rfl, hr, hk, hb⟩; have HR4 := Aside0.mk (show Rg w4 g b c (p.take a) _ 0 from hr); have HB4 := Aside0.mk (hb _ _ HG.out.1 HG.out.2 HB3.out); clear hr hk hb)
    | (go_at_call 12; refine (free_is fa HR4.out HF0.out).mono ?_; rintro e w5 ⟨rfl, rfl⟩)
    | (go_at_call 13; refine (take_calls w4 g b c _ _ 0 k _ HR4.out (Int.natCast_nonneg _) (by rw [LL0.out]; exact Int.ofNat_le.2 HKA.out) rfl).mono ?_; rintro e w5 ⟨rfl, hr, hk, hb⟩; have HR5 := Aside0.mk (show Rg w5 g b c ((p.take a).drop k) _ _ from hr); have HB5 := Aside0.mk (hb _ _ HG.out.1 HB4.out); clear hr hk hb)
    | (go_at_call 14; refine (len_is l1 HR5.out LL1.out).mono ?_; rintro e w6 ⟨rfl, rfl⟩)
    | (go_at_call 12; refine (free_is f2 HR5.out HF1.out).mono ?_; rintro e w6 ⟨rfl, rfl⟩)
    | (go_at_call 11; refine (write_calls w5 g b c _ _ _ _ A cp p b2 HR5.out (Kd.C_below HP.out HB5.out) (arg_far HP.out HG.out.1 HG.out.2) HC.out HBW.out rfl).mono ?_; rintro e w6 ⟨rfl, hr, hk, hb⟩; have HR6 := Aside0.mk hr; have HB6 := Aside0.mk (hb _ _ HG.out.1 HG.out.2 HB5.out); clear hr hk hb))

  have hcvA := HCV.out w6.drew (Kd.C_drew (Kd.C_below HP.out HB6.out))
  have hcvB := cut_string w6.drew A p b2 cp (Kd.C_drew (Kd.C_below HP.out HB6.out)) HBB.out
  rw [← HY.out] at hcvB
  go_region_held_law (fun W => (convert 22 9 (.slice A2 l1 c2)).run Try.prog W = .ok (.string (strOfNums X)) W ∧ (convert 22 9 (.slice A b2 cp)).run Try.prog W = .ok (.string (strOfNums Y)) W) (first | exact ⟨hcvA, hcvB⟩ | exact ⟨hcvC, hcvD⟩) (first
    | (go_at_call 14; refine (len_is (w := w6.drew) l2 (HR6.out.step rfl rfl) LL2.out).mono ?_; rintro e w7 ⟨rfl, rfl⟩)
    | (go_at_call 15; refine (peek_calls w6.drew _ _ _ _ _ _ (HR6.out.step rfl rfl)).mono ?_; rintro e w7 ⟨v7, rfl, hr7, hb7⟩; have hcvP := peek_string (W0 := w7) hr7; rw [str_append, ← HX.out, ← HY.out] at hcvP; have HB7 := Aside0.mk (below_step (below_drew1 HB6.out) hb7); have hcvC := HCV.out w7 (Kd.C_below HP.out HB7.out); have hcvD := cut_string w7 A p b2 cp (Kd.C_below HP.out HB7.out) HBB.out; rw [← HY.out] at hcvD; clear hr7 hb7))
  all_goals
    go_wp2
    go_ret
    exact ⟨rfl, HB7.out⟩
end Go.Proofs.Ytnblegepecmblaa.Ring
