/-
  The walk of the law RingLine: it returns true and leaves what was there as it was. Conditions: the bytes and the takes are at most 140737488351232, as those of any slice that is read are.
-/
import Derived.Test.YtnblegepecmblaaRingKeeps
namespace Go.Proofs.Ytnblegepecmblaa.Ring
open Go.RowKit Go.Proofs.YtnblegepecmblaaW.PrintWords Go.Proofs.YtnblegepecmblaaW.PrintLast Go.Proofs.YtnblegepecmblaaW.PrintMore
attribute [local go_sem] max2_int min2_int max_two min_two max_three min_three max_four min_four
set_option linter.unusedVariables false
set_option linter.unusedSimpArgs false

/-- What holds ahead of round i: what went in is out or waits, in order; once the takes are used up nothing waits, and each round took one byte or more. -/
def LineInv (p : List Int) (lt i at' : Nat) (out wait : List Int) : Prop := at' ≤ p.length ∧ out ++ wait = p.take at' ∧ (lt < i → wait = [] ∧ min p.length (i - lt - 1) ≤ at')
theorem line_start (p : List Int) (lt : Nat) : LineInv p lt 0 0 [] [] := ⟨Nat.zero_le _, rfl, fun h => absurd h (Nat.not_lt_zero _)⟩
theorem line_len {p : List Int} {lt i at' : Nat} {out wait : List Int} (h : LineInv p lt i at' out wait) : out.length + wait.length = at' := by
  have := congrArg List.length h.2.1
  rw [List.length_append, List.length_take, Nat.min_eq_left h.1] at this
  exact this
theorem line_step {p : List Int} {lt i at' c n t : Nat} {out wait : List Int} (h : LineInv p lt i at' out wait) (hg : at' < p.length ∨ 0 < wait.length) (hn : n = min (p.length - at') (c - wait.length)) (hc : 1 ≤ c) (ht : lt ≤ i → t = wait.length + n) :
    LineInv p lt (i + 1) (at' + n) (out ++ (wait ++ (p.drop at').take n).take t) ((wait ++ (p.drop at').take n).drop t) := by
  obtain ⟨h1, h2, h3⟩ := h
  refine ⟨by omega, ?_, fun hl => ?_⟩
  · rw [List.append_assoc, List.take_append_drop, ← List.append_assoc, h2, List.take_add]
  · have ht' := ht (by omega)
    refine ⟨List.drop_of_length_le ?_, ?_⟩
    · rw [List.length_append, List.length_take, List.length_drop, ht']
      omega
    · rcases Nat.lt_or_ge lt i with hi | hi
      · obtain ⟨hw, hm⟩ := h3 hi
        subst hw
        simp only [List.length_nil] at hg hn
        omega
      · have : i + 1 - lt - 1 = 0 := by omega
        rw [this]
        exact Nat.le_trans (Nat.min_le_right _ _) (Nat.zero_le _)
theorem line_zero {p : List Int} {lt i at' : Nat} {out wait : List Int} (h : LineInv p lt i at' out wait) (hi : i = lt + p.length + 2) : ¬ (at' < p.length ∨ 0 < wait.length) := by
  obtain ⟨h1, h2, h3⟩ := h
  obtain ⟨hw, hm⟩ := h3 (by omega)
  subst hw
  simp only [List.length_nil]
  omega
theorem line_end {p : List Int} {lt i at' : Nat} {out wait : List Int} (h : LineInv p lt i at' out wait) (hg : ¬ (at' < p.length ∨ 0 < wait.length)) : out = p ∧ at' = p.length ∧ wait = [] := by
  obtain ⟨h1, h2, h3⟩ := h
  have hw : wait = [] := List.eq_nil_of_length_eq_zero (by omega)
  have ha : at' = p.length := by omega
  subst hw
  rw [List.append_nil, ha, List.take_length] at h2
  exact ⟨h2, ha, rfl⟩
theorem add_big {a b s : Nat} (hs : s = a + b) (h : s ≤ 1000000000000000) : wrap64 ((a : Int) + b) = s ∧ IntKind.i64.wrap ((a : Int) + b) = s ∧ IntKind.u64.wrap ((a : Int) + b) = s := by
  refine ⟨?_, ?_, ?_⟩
  · unfold wrap64; omega
  · rw [IntWalk.i64_in _ (by omega)]; omega
  · unfold IntKind.wrap; simp [IntKind.signed, IntKind.bits]; omega
theorem one_big {a s : Nat} (hs : s = a + 1) (h : s ≤ 1000000000000000) : wrap64 ((a : Int) + 1) = s := by unfold wrap64; omega
theorem u64_big {a : Nat} (h : a ≤ 1000000000000000) : IntKind.u64.wrap (a : Int) = a := by unfold IntKind.wrap; simp [IntKind.signed, IntKind.bits]; omega
theorem cut_rest (A : Option Addr) (p : List Int) (cp lo n : Nat) (h1 : lo ≤ p.length) (hc : p.length ≤ cp) (hn : n = p.length - lo) :
    ∃ (A2 : Option Addr) (c2 : Nat), n ≤ c2 ∧ (∀ W : World, (Instr.slice 22 (.slice A p.length cp) (some (.int .i64 (lo : Int))) none none).run Try.prog W = .ok (.slice A2 n c2) W) ∧
      ∀ W : World, Kd.C (Kd.int .u8) W A p.length p → Kd.C (Kd.int .u8) W A2 (p.drop lo).length (p.drop lo) := by
  obtain ⟨i0, hi0, _, hsz, _⟩ := info_parts info_byte
  have h := cut_from (P := Try.prog) 22 5 .i64 Try.underlying22 hi0 1 hsz A p.length cp lo (by omega) (by omega)
  simp only [Int.toNat_natCast] at h
  subst hn
  exact ⟨_, _, by omega, h, fun W hp => Kd.C_drop hp h1 hc⟩

set_option maxHeartbeats 8000000 in
set_option maxRecDepth 100000 in
theorem line.calls (room : Int) (A : Option Addr) (cp : Nat) (p : List Int) (B : Option Addr) (cb : Nat) (takes : List Int) (r : Bool) (w : World) (hp : Kd.C (Kd.int .u8) w A p.length p) (hc : p.length ≤ cp) (hq : Kd.C (Kd.int .u8) w B takes.length takes) (hcb : takes.length ≤ cb)
    (h : 0 ≤ room ∧ room ≤ 255 ∧ p.length ≤ 140737488351232 ∧ takes.length ≤ 140737488351232 ∧ ∀ x ∈ takes, 0 ≤ x ∧ x ≤ 255) :
    Calls Try.prog 6 #[.int .u8 room, .slice A p.length cp, .slice B takes.length cb] w fun e w' => e = .returned (.bool true) ∧ Below w.heap.size w w' := by
  obtain ⟨c, hcr⟩ : ∃ c : Nat, c = (1 + room).toNat := ⟨_, rfl⟩
  have hc1 : (1 + room : Int) = c := by omega
  have hc2 : 1 ≤ c := by omega
  have hc3 : c ≤ 65536 := by omega
  have hc6 : c ≤ 1000000 := by omega
  have HP := Aside0.mk hp
  have HC := Aside0.mk hc
  have HQ := Aside0.mk hq
  have HLP := Aside0.mk h.2.2.1
  have HLT := Aside0.mk h.2.2.2.1
  have HX := Aside0.mk h.2.2.2.2
  have HC2 := Aside0.mk hc2
  have HC3 := Aside0.mk hc3
  have e1 : wrap64 (1 + room) = c := by rw [hc1]; exact wrap_nat hc6
  have e2 : IntKind.i64.wrap room = room := u8_in h.1 h.2.1
  clear hp hc hq hcb h hcr hc1 hc2 hc3 hc6
  go_enter Try.func6, Try.ntmps6
  go_wp2_with (first
    | (go_at_call 9; refine (awake_calls _).mono ?_; rintro e w2 ⟨rfl, hb2⟩; have HB2 := Aside0.mk hb2; clear hb2)
    | (go_at_call 10; refine (new_calls_int _ _ c rfl HC2.out HC3.out).mono ?_; rintro e w3 ⟨g, b, rfl, hr, hb, hg1, hb1⟩; have HR3 := Aside0.mk hr; have HB3 := Aside0.mk (below_step HB2.out hb); have HG := Aside0.mk (And.intro (Nat.le_trans HB2.out.size hg1) (Nat.le_trans HB2.out.size hb1)); have HGL := Aside0.mk hr.lt; clear hr hb hg1 hb1))
  obtain ⟨N, hN⟩ : ∃ N, N = w3.heap.size := ⟨_, rfl⟩
  have HGN := Aside0.mk (show g < N ∧ b < N from hN ▸ HGL.out)
  have HGW := Aside0.mk (show w.heap.size ≤ N from hN ▸ HB3.out.size)
  have HNS := Aside0.mk (show N ≤ w3.heap.size from hN ▸ Nat.le_refl _)
  obtain ⟨K, hK⟩ : ∃ K, K = takes.length + p.length + 2 := ⟨_, rfl⟩
  have HKK := Aside0.mk hK
  clear hN hK HGL HB2 e1 e2
  go_loopg [9, 10, 11] K (fun m v9 v10 v11 w' => ∃ (at' i : Nat) (out wait : List Int), v10 = .int .i64 at' ∧ v11 = .int .i64 i ∧ Aside0 (i + m = K) ∧ Aside0 (LineInv p takes.length i at' out wait) ∧ Aside0 (Rg w' g b c wait at' out.length) ∧ Aside0 (Kd.R (Kd.int .u8) 5 w' w.heap.size (fun k => N ≤ k) v9 out) ∧ Aside0 (N ≤ w'.heap.size) ∧ Aside0 (Below w.heap.size w w'))
  case atStart => exact ⟨0, 0, [], [], rfl, rfl, ⟨by omega⟩, ⟨line_start _ _⟩, HR3, ⟨Kd.R_nil _ _ _ _ _⟩, HNS, HB3⟩
  case round =>
    clear HR3 HB3 HNS
    obtain ⟨at', i, out, wait, rfl, rfl, HI, HINV, HR, HO, HN, HB⟩ := hrel
    obtain ⟨bb, hbb⟩ : ∃ bb : Bool, bb = decide (at' < p.length ∨ 0 < wait.length) := ⟨_, rfl⟩
    have HBB := Aside0.mk hbb
    clear hbb
    go_upto_region 9 with (fail)
    go_cut [37] from 29 to 86 (fun v37 wc => v37 = .bool bb ∧ Aside0 (wr = wc))
    case first =>
      by_cases h1 : at' < p.length
      · have c1 : decide (at' < p.length) = true := decide_eq_true h1
        have c2 : decide ((at' : Int) < (p.length : Int)) = true := decide_eq_true (by omega)
        have hb1 : bb = true := by rw [HBB.out]; exact decide_eq_true (.inl h1)
        clear h1
        go_wp2
        go_meet
        exact ⟨congrArg Value.bool hb1.symm, ⟨rfl⟩⟩
      · have c1 : decide (at' < p.length) = false := decide_eq_false h1
        have c2 : decide ((at' : Int) < (p.length : Int)) = false := decide_eq_false (by omega)
        have hb1 : bb = decide (0 < wait.length) := by rw [HBB.out]; simp [h1]
        clear h1
        go_wp2_with (go_at_call 14; refine (len_calls _ _ _ _ _ _ _ HR.out).mono ?_; rintro e w4 ⟨rfl, rfl⟩)
        go_meet
        exact ⟨by rw [hb1], ⟨rfl⟩⟩
    case rest =>
      obtain ⟨rfl, HW⟩ := hcut
      obtain rfl := HW.out
      clear HW
      cases bb with
      | false =>
        obtain ⟨h1, h2, h3⟩ := line_end HINV.out (of_decide_eq_false HBB.out.symm)
        subst h1
        subst h2
        subst h3
        clear HINV HBB
        have hsame : ((strOfNums out).toList == (strOfNums out).toList) = true := beq_self_eq_true _
        have d2 : IntKind.u64.wrap (out.length : Int) = out.length := u64_big (by have := HLP.out; omega)
        obtain ⟨A9, c9, e9⟩ := Kd.R_slice HO.out
        subst e9
        have hcvO := peek_string (W0 := wr) HO.out
        have hcvP := row_string wr A out out.length cp rfl (Kd.C_below HP.out HB.out)
        go_wp2_with (first
          | (go_at_call 20; refine (in_calls wr _ _ _ _ _ _ HR.out).mono ?_; rintro e w7 ⟨rfl, rfl⟩)
          | (go_at_call 16; refine (out_calls wr _ _ _ _ _ _ HR.out).mono ?_; rintro e w7 ⟨rfl, rfl⟩)
          | (go_at_call 12; refine (free_is (w := wr) c HR.out (Nat.zero_add _)).mono ?_; rintro e w7 ⟨rfl, rfl⟩)
          | (go_at_call 19; refine (cap_calls wr _ _ _ _ _ _ HR.out).mono ?_; rintro e w7 ⟨rfl, rfl⟩))
        go_ret
        exact ⟨rfl, HB.out⟩
      | true =>
        have HGD := Aside0.mk (of_decide_eq_true HBB.out.symm)
        cases gk with
        | zero => exact absurd HGD.out (line_zero HINV.out (by have := HI.out; have := HKK.out; omega))
        | succ m =>
          have hlw := line_len HINV.out
          have hal := HINV.out.1
          have hwc := HR.out.room.1
          have hl1 := HLP.out
          have hl2 := HLT.out
          have hl3 := HC3.out
          obtain ⟨n, hn⟩ : ∃ n, n = min (p.length - at') (c - wait.length) := ⟨_, rfl⟩
          have hn1 : n ≤ p.length - at' := hn ▸ Nat.min_le_left _ _
          have hn2 : n ≤ c - wait.length := hn ▸ Nat.min_le_right _ _
          obtain ⟨rest, hrest⟩ : ∃ rest, rest = p.length - at' := ⟨_, rfl⟩
          obtain ⟨at2, hat2⟩ : ∃ at2, at2 = at' + n := ⟨_, rfl⟩
          obtain ⟨wait1, hw1⟩ : ∃ wait1, wait1 = wait ++ (p.drop at').take n := ⟨_, rfl⟩
          obtain ⟨l1, hl1e⟩ : ∃ l1, l1 = wait.length + n := ⟨_, rfl⟩
          obtain ⟨l11, hl11⟩ : ∃ l11, l11 = l1 + 1 := ⟨_, rfl⟩
          have hlen1 : wait1.length = l1 := by rw [hw1, List.length_append, List.length_take, List.length_drop, Nat.min_eq_left hn1, hl1e]
          have ha2 : at2 ≤ p.length := by clear hn; omega
          have hl16 : l11 ≤ 1000000 := by clear hn; omega
          have HWL := Aside0.mk hlen1
          have HW1 := Aside0.mk hw1
          have HN0 := Aside0.mk hn
          have HAT := Aside0.mk hat2
          have HA2 := Aside0.mk ha2
          have HL1 := Aside0.mk hl1e
          have HREST := Aside0.mk hrest
          have HLW := Aside0.mk hlw
          have HIK := Aside0.mk (show i + 1 ≤ K by have := HI.out; omega)
          obtain ⟨A2, c2, hc2, hcut, hread⟩ := cut_rest A p cp at' rest hal HC.out hrest
          have HC22 := Aside0.mk hc2
          have HRD := Aside0.mk hread
          have HRL := Aside0.mk (show (p.drop at').length = rest by rw [List.length_drop]; exact hrest.symm)
          have f1 := (add_big hat2 (by omega)).1
          have f2 := one_big hl11 (by omega)
          have HI1 := Aside0.mk (one_big (a := i) (s := i + 1) rfl (by have := HIK.out; have := HKK.out; omega))
          have HL11 := Aside0.mk hl11
          clear hlw hal hwc hl1 hl2 hl3 hn hn1 hn2 hat2 hw1 hl1e hl11 hlen1 ha2 hl16 hc2 hread hrest
          go_upto_if 52 with (first
            | (go_at_call 11; refine (write_is (w := wr) rest n HRL.out HR.out (HRD.out wr (Kd.C_below HP.out HB.out)) (arg_far (HRD.out w HP.out) HG.out.1 HG.out.2) HC22.out (by rw [HREST.out]; exact HN0.out)).mono ?_; rintro e w4 ⟨rfl, hr, hk, hb⟩; rw [← HW1.out, (add_big HAT.out (by have := HA2.out; have := HLP.out; omega)).2.2] at hr; have HR4 := Aside0.mk hr; have HB4 := Aside0.mk (hb _ _ HG.out.1 HG.out.2 HB.out); have HO4 := Aside0.mk (Kd.R_kept HO.out hk (fun j hj hs => by have := HGN.out; rcases hs with h | h <;> omega)); have HN4 := Aside0.mk (Nat.le_trans HN.out hk.1); clear hr hk hb)
            | (go_at_call 14; refine (len_is (w := w4) l1 HR4.out HWL.out).mono ?_; rintro e w5 ⟨rfl, rfl⟩))
          go_cut [12] from 29 to 86 (fun v12 wc => ∃ t : Nat, v12 = .int .i64 t ∧ Aside0 (t ≤ l1 ∧ (takes.length ≤ i → t = l1)) ∧ Aside0 (w4 = wc))
          case first =>
            by_cases hi : i < takes.length
            · have c3 : decide (i < takes.length) = true := decide_eq_true hi
              have p0 : (0 : Int) ≤ (i : Int) := Int.natCast_nonneg _
              have q0 : (i : Int) < (takes.length : Int) := Int.ofNat_lt.2 hi
              obtain ⟨ad, ea, hx⟩ := Kd.at_int HQ.out i p0 q0
              cases ea
              have hmem : 0 ≤ rd takes i ∧ rd takes i ≤ 255 := by
                unfold rd
                rw [List.getD_eq_getElem?_getD, Int.toNat_natCast, List.getElem?_eq_getElem hi]
                exact HX.out _ (List.getElem_mem _)
              replace hx := (HB4.out.cell (World.block_lt_of_cell? w _ hx)).trans hx
              have e3 := u8_in hmem.1 hmem.2
              generalize rd takes i = x at hx hmem e3
              obtain ⟨xn, rfl⟩ : ∃ xn : Nat, x = xn := ⟨x.toNat, (Int.toNat_of_nonneg hmem.1).symm⟩
              simp only [Int.toNat_natCast] at hx
              have h8 : ¬ l11 = 0 := by rw [HL11.out]; exact Nat.succ_ne_zero l1
              have e7 : ¬ (l11 : Int) = 0 := int_ne h8
              have e9 : (l11 == 0) = false := beq_ne h8
              obtain ⟨t, ht⟩ : ∃ t, t = xn % l11 := ⟨_, rfl⟩
              have htl : t ≤ l1 := Nat.le_of_lt_succ (by have h9 := Nat.mod_lt xn (Nat.pos_of_ne_zero h8); rw [← ht, HL11.out] at h9; exact h9)
              have HTL := Aside0.mk (show t ≤ l1 ∧ (takes.length ≤ i → t = l1) from ⟨htl, fun h => absurd hi (Nat.not_lt.2 h)⟩)
              have e5 : (xn : Int).tmod (l11 : Int) = t := rem_nat ht
              have e6 : (xn : Int) % (l11 : Int) = t := by rw [ht]; exact (Int.natCast_emod xn l11).symm
              replace p0 := eq_true p0
              replace q0 := eq_true q0
              have q1 := eq_true hi
              clear hi ht htl hmem
              simp only [c3]
              go_wp2
              go_meet
              exact ⟨t, rfl, HTL, ⟨rfl⟩⟩
            · have c3 : decide (i < takes.length) = false := decide_eq_false hi
              clear hi
              simp only [c3]
              go_wp2
              go_meet
              exact ⟨l1, rfl, ⟨Nat.le_refl l1, fun _ => rfl⟩, ⟨rfl⟩⟩
          case rest =>
            obtain ⟨t, rfl, HTL, HW⟩ := hcut
            obtain rfl := HW.out
            clear HW f1 f2 hcut
            obtain ⟨sm, hsm⟩ : ∃ sm, sm = takes.length + p.length := ⟨_, rfl⟩
            obtain ⟨sm2, hsm2⟩ : ∃ sm2, sm2 = sm + 2 := ⟨_, rfl⟩
            have hs2 : sm2 ≤ 1000000000000000 := by have := HLP.out; have := HLT.out; omega
            have hisn : ¬ sm2 < i := by have := HIK.out; have := HKK.out; omega
            have f3 := (add_big hsm (by omega)).1
            have f4 : wrap64 ((sm : Int) + 2) = sm2 := (add_big (b := 2) hsm2 hs2).1
            have c4 : decide (sm2 < i) = false := decide_eq_false hisn
            have c5 : decide ((sm2 : Int) < (i : Int)) = false := decide_eq_false (fun h => hisn (Int.ofNat_lt.1 h))
            clear hsm hsm2 hs2 hisn
            have HOL := Aside0.mk (show out.length + t ≤ 140737488351232 by have := HTL.out.1; have := HL1.out; have := HLW.out; have := HAT.out; have := HA2.out; have := HLP.out; omega)
            go_wp2_with (first
              | (go_at_call 15; refine (peek_calls w4 _ _ _ _ _ _ HR4.out).mono ?_; rintro e w7 ⟨v7, rfl, hr7, hb7⟩; have HB7 := Aside0.mk (below_step HB4.out hb7); have HR7 := Aside0.mk (HR4.out.below hb7); have HO7 := Aside0.mk (Kd.R_below HO4.out hb7); have HN7 := Aside0.mk (Nat.le_trans HN4.out hb7.size); obtain ⟨Ap, cpk, rfl⟩ := Kd.R_slice hr7; have HC7 := Aside0.mk (own_read hr7); have hcutw := cut_int Ap l1 cpk t HTL.out.1 (by rw [← HWL.out]; exact (own_read hr7).2); rw [HWL.out]; clear hr7 hb7)
              | (go_at_call 14; refine (len_is (w := w7) l1 HR7.out HWL.out).mono ?_; rintro e w8 ⟨rfl, rfl⟩)
              | ((with_reducible refine gate_builtin (b := .append) (xs := #[.tmp 68, .tmp 71]) rfl ?_); at_builtin; refine Kd.R_append_rows (Kd.int .u8) (w0 := w) w.heap.size rfl (.tmp 68) (.tmp 71) 22 5 (.int .u8 0) 1 rfl Try.underlying22 info_byte rfl (by decide) (by omega) u9 out (wait1.take t) Ap t cpk (fun k => N ≤ k) (fun _ => False) rfl rfl ?aO ?aR (fun _ _ h => h) (fun _ h => h.elim) ?aF ?aB ?aS ?aL ?_; (case aO => exact HO7.out); (case aR => have q := Kd.C_take (m := t) HC7.out.1 (by rw [HWL.out]; exact HTL.out.1); rw [List.length_take, Nat.min_eq_left (by rw [HWL.out]; exact HTL.out.1)] at q; exact q); (case aF => exact fun _ h => Nat.le_trans HN7.out h); (case aB => exact HB7.out); (case aS => exact HB7.out.size); (case aL => have := HOL.out; omega); intro v9 w9 ho hb hg hat; have HO9 := Aside0.mk ho; have HB9 := Aside0.mk hb; have HN9 := Aside0.mk (Nat.le_trans HN7.out hg.size); have HR9 := Aside0.mk (HR7.out.step (w1 := w9) (hg.block g HR7.out.lt.1 (fun e => by have := HO7.out.1 g e.symm; have := HGN.out; omega)) (hg.block b HR7.out.lt.2 (fun e => by have := HO7.out.1 b e.symm; have := HGN.out; omega))); clear ho hb hg hat)
              | (go_at_call 13; refine (take_calls w9 g b c _ _ _ t _ HR9.out (Int.natCast_nonneg _) (by rw [HWL.out]; exact Int.ofNat_le.2 HTL.out.1) rfl).mono ?_; rintro e w10 ⟨rfl, hr, hk, hb⟩; rw [(add_big (a := out.length) (b := t) (s := (out ++ wait1.take t).length) (by rw [List.length_append, List.length_take, Nat.min_eq_left (by rw [HWL.out]; exact HTL.out.1)]) (by rw [List.length_append, List.length_take, Nat.min_eq_left (by rw [HWL.out]; exact HTL.out.1)]; exact Nat.le_trans HOL.out (by decide))).2.2] at hr; have HR10 := Aside0.mk (show Rg w10 g b c (wait1.drop t) at2 ((out ++ wait1.take t).length : Nat) from hr); have HB10 := Aside0.mk (hb _ _ HG.out.1 HB9.out); have HO10 := Aside0.mk (Kd.R_kept HO9.out hk (fun j hj hs => by have := HGN.out; rcases hs with h | h <;> omega)); have HN10 := Aside0.mk (Nat.le_trans HN9.out hk.1); clear hr hk hb))
            go_roundg m
            case measure => omega
            case rel =>
              have hinv := line_step HINV.out HGD.out HN0.out HC2.out (t := t) (fun h => by rw [HTL.out.2 h]; exact HL1.out)
              rw [← HW1.out, ← HAT.out] at hinv
              exact ⟨at2, i + 1, out ++ wait1.take t, wait1.drop t, rfl, by first | exact congrArg (Value.int .i64) HI1.out | rfl, ⟨by have := HI.out; omega⟩, ⟨hinv⟩, HR10, HO10, HN10, HB10⟩
end Go.Proofs.Ytnblegepecmblaa.Ring
