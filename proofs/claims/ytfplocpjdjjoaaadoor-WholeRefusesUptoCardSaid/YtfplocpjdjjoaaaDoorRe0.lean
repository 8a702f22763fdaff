/-
  The first template of the law; the law's parts.
  Conditions: as each theorem says.
-/
import Derived.Test.YtfplocpjdjjoaaaDoorRd0
import Derived.LoopTactic
namespace Go.Proofs.YtfplocpjdjjoaaaDoor.Refuse
open Go Go.RowKit Go.Proofs.YtfplocpjdjjoaaaDoor.Trail Go.Proofs.YtfplocpjdjjoaaaDoor.Ctxs Go.Proofs.YtfplocpjdjjoaaaDoorW.PrintWords
set_option linter.unusedVariables false
set_option linter.unusedSimpArgs false
theorem steps_lt : steps attrOf true {} [60] = some { st := 1 } := by rfl
theorem outcome_lt {a e : Int} (h : Outcome [60] a e) : e = 6 ∧ a = 1 := by
  unfold Outcome at h
  rw [steps_lt] at h
  have h' : if holeAt { st := 1 } = 0 then e = 6 ∧ a = 1 else e = 0 := h
  rw [if_pos (by decide)] at h'
  exact h'
theorem bare_one (x : Nat) (h : x = 60 ∨ x = 62) : Bare [x] := by
  constructor
  · intro y hy
    rw [List.mem_singleton] at hy
    omega
  · intro y hy
    rw [List.mem_singleton] at hy
    omega
theorem fragment_at {v : Array Value} {s : ByteArray} (l r : List Nat) (hv : v = cxs {}) (hs : s = bs (l ++ (hole ++ r))) (hl : Bare l) (hr : Bare r) (hlen : l.length + r.length ≤ 65000) (hlast : ∀ d, steps attrOf true {} l = some d → holeAt d ≠ 0 → r = []) (w : World) (hm : Mx w) (hG : Glob w) :
    Calls Tryd.prog 19 #[.string s, .agg v] w (FPost w l) := hv ▸ fragment_calls s l r hs hl hr hlen hlast w hm hG
theorem fragment_lt {v : Array Value} (hv : v = cxs {}) (w : World) (hm : Mx w) (hG : Glob w) : Calls Tryd.prog 19 #[.string ⟨#[60, 123, 123, 120, 125, 125, 62]⟩, .agg v] w fun e' W' =>
    ∃ A1 n1 c1 A2 n2 c2 c, e' = .returned (.tuple #[.agg #[.slice A1 n1 c1, .slice A2 n2 c2], .agg (cxs c), .int .i64 1, .int .i64 6]) ∧ Below w.heap.size w W' := by
  refine (fragment_at [60] [62] hv rfl (bare_one 60 (.inl rfl)) (bare_one 62 (.inr rfl)) (by simp) (fun d hd h0 => ?_) w hm hG).mono ?_
  · rw [steps_lt] at hd
    injection hd with hd
    subst hd
    exact absurd (by decide) h0
  · rintro e' W' ⟨A1, n1, c1, A2, n2, c2, c, a, e, rfl, ho, hb⟩
    obtain ⟨rfl, rfl⟩ := outcome_lt ho
    exact ⟨A1, n1, c1, A2, n2, c2, c, rfl, hb⟩
set_option maxHeartbeats 8000000 in
set_option maxRecDepth 100000 in
theorem template_lt (w : World) (hm : Mx w) (hG : Glob w) : Calls Tryd.prog 18 #[.string ⟨#[60, 123, 123, 120, 125, 125, 62]⟩] w fun e' W' =>
    ∃ A1 n1 c1 A2 n2 c2, e' = .returned (.tuple #[.agg #[.slice A1 n1 c1, .slice A2 n2 c2], .int .i64 1, .int .i64 6]) ∧ Below w.heap.size w W' := by
  have hb0 : Below w.heap.size w (w.alloc (.cells #[.slice none 0 0, .slice none 0 0] 63)) := (Below.refl _ _).alloc (Nat.le_refl _) _
  have HMG := Aside0.mk (And.intro (hm.below hb0) (glob_below hG hb0))
  have HB0 := Aside0.mk hb0
  clear hm hG hb0
  go_enter Tryd.func18, Tryd.ntmps18
  go_wp2_with (first
    | (go_at_call 19; (with_reducible refine (fragment_lt ?hv _ HMG.out.1 HMG.out.2).mono ?_); (case hv => rfl); rintro e w1 ⟨A1, n1, c1, A2, n2, c2, c, rfl, hb1⟩; have hR := (hb1.block w.heap.size (by rw [size_alloc]; omega)).trans (World.alloc_heap_new w _); obtain ⟨z0, z1, zf0, zf1⟩ := two_of hR; have hl1 : w.heap.size < w1.heap.size := (Array.getElem?_eq_some_iff.1 hR).1; have HR := Aside0.mk hR; have HB1 := Aside0.mk hb1; clear hR hb1; simp only [cxs]))
  have hr := two_put HR.out (.slice A1 n1 c1) (.slice A2 n2 c2)
  have hb := ((HB0.out.trans (HB1.out.mono (by rw [size_alloc]; omega))).setCell (p := ⟨w.heap.size, 0, none⟩) (Nat.le_refl _) (.slice A1 n1 c1)).setCell (p := ⟨w.heap.size, 1, none⟩) (Nat.le_refl _) (.slice A2 n2 c2)
  generalize (w1.setCell ⟨w.heap.size, 0, none⟩ (.slice A1 n1 c1)).setCell ⟨w.heap.size, 1, none⟩ (.slice A2 n2 c2) = V at hr hb ⊢
  have hlv : w.heap.size < V.heap.size := (Array.getElem?_eq_some_iff.1 hr).1
  obtain ⟨q0, q1, -, -⟩ := two_of hr
  refine bodyPost_ret (v := .tuple #[.agg #[.slice A1 n1 c1, .slice A2 n2 c2], .int .i64 1, .int .i64 6]) ?_ rfl ⟨_, _, _, _, _, _, rfl, (hb.alloc hb.size _).alloc (by rw [size_alloc]; have := hb.size; omega) _⟩
  have e1 : w.heap.size < V.heap.size + 1 := by omega
  simp [results, Tryd.f18, go_sem, q0, q1, hlv, e1]
theorem holed' {c : Cx} (h : holeAt c ≠ 0) : c.st = 0 ∨ (c.st = 17 ∧ c.el = 1) ∨ (c.st = 17 ∧ c.el = 2) ∨ (c.st = 17 ∧ c.su = 1) ∨ (c.st = 17 ∧ c.su = 2) ∨ (c.st = 8 ∧ ((c.qu : Int) != 0) = true ∧ c.ak = 0) ∨ (c.st = 8 ∧ ((c.qu : Int) != 0) = true ∧ c.ak = 1) ∨ (c.st = 8 ∧ ((c.qu : Int) != 0) = true ∧ c.ak = 2 ∧ c.su = 1) ∨ (c.st = 8 ∧ ((c.qu : Int) != 0) = true ∧ c.ak = 2 ∧ c.su = 2) ∨ (c.st = 8 ∧ ((c.qu : Int) != 0) = true ∧ c.ak = 3 ∧ c.su = 1) ∨ (c.st = 8 ∧ ((c.qu : Int) != 0) = true ∧ c.ak = 3 ∧ c.su = 2) := by
  have hq : c.qu ≠ 0 → ((c.qu : Int) != 0) = true := fun q => by rw [bne_iff_ne]; omega
  rcases holed h with k0 | ⟨k0, k1 | k1⟩ | ⟨k0, k1 | k1⟩ | ⟨k0, k1, k2 | k2⟩ | ⟨k0, k1, k2 | k2, k3 | k3⟩
  · exact .inl k0
  · exact .inr (.inl ⟨k0, k1⟩)
  · exact .inr (.inr (.inl ⟨k0, k1⟩))
  · exact .inr (.inr (.inr (.inl ⟨k0, k1⟩)))
  · exact .inr (.inr (.inr (.inr (.inl ⟨k0, k1⟩))))
  · exact .inr (.inr (.inr (.inr (.inr (.inl ⟨k0, hq k1, k2⟩)))))
  · exact .inr (.inr (.inr (.inr (.inr (.inr (.inl ⟨k0, hq k1, k2⟩))))))
  · exact .inr (.inr (.inr (.inr (.inr (.inr (.inr (.inl ⟨k0, hq k1, k2, k3⟩)))))))
  · exact .inr (.inr (.inr (.inr (.inr (.inr (.inr (.inr (.inl ⟨k0, hq k1, k2, k3⟩))))))))
  · exact .inr (.inr (.inr (.inr (.inr (.inr (.inr (.inr (.inr (.inl ⟨k0, hq k1, k2, k3⟩)))))))))
  · exact .inr (.inr (.inr (.inr (.inr (.inr (.inr (.inr (.inr (.inr ⟨k0, hq k1, k2, k3⟩)))))))))
theorem two_below {w5 w6 : World} {O1 O2 : Obj} (hb6 : Below ((w5.alloc O1).alloc O2).heap.size ((w5.alloc O1).alloc O2) w6) : Below w5.heap.size w5 w6 :=
  (((Below.refl _ _).alloc (Nat.le_refl _) _).alloc (by rw [size_alloc]; omega) _).trans (hb6.mono (by simp only [size_alloc]; omega))
theorem byte_at_k {S : ByteArray} {l : List Nat} (hS : S = bs l) (hl : Small l) (k : Nat) (hk : k < S.size) {m : Nat} (hm : l[k]? = some m) : (S[k]'hk).toNat = m := by
  subst hS
  have h1 := (List.getElem?_eq_some_iff.1 hm).1
  have h2 := (List.getElem?_eq_some_iff.1 hm).2
  have h3 : m < 256 := hl m (List.mem_of_getElem? hm)
  have h4 : (bs l)[k]'hk = m.toUInt8 := by
    show ((bs l).data)[k]'_ = _
    simp [bs, h2]
  rw [h4]
  simp [Nat.toUInt8, Nat.mod_eq_of_lt h3]
set_option maxHeartbeats 8000000 in
set_option maxRecDepth 100000 in
theorem law_calls (l : List Nat) (hl : Small l) (hlen : l.length ≤ 1048576) (w : World) (hm : Mx w) (hG : Glob w) :
    Calls Tryd.prog 5 #[.string (bs l)] w fun e' W' => e' = .returned (.bool true) ∧ Below w.heap.size w W' := by
  obtain ⟨S, hS⟩ : ∃ S, S = bs l := ⟨_, rfl⟩
  obtain ⟨N, hN⟩ : ∃ N, N = l.length := ⟨_, rfl⟩
  have hsz : S.size = N := by rw [hS, bs_size, hN]
  rw [← hS]
  have HS := Aside0.mk hS
  have HL := Aside0.mk (And.intro hl hlen)
  have HMG := Aside0.mk (And.intro hm hG)
  have HN := Aside0.mk hN
  clear hl hlen hm hG hS hN
  go_enter Tryd.func5, Tryd.ntmps5
  go_wp2_with (first
    | (go_at_call 18; (with_reducible refine (template_lt _ HMG.out.1 HMG.out.2).mono ?_); rintro e w1 ⟨A1, n1, c1, A2, n2, c2, rfl, hb1⟩; have HB1 := Aside0.mk hb1; clear hb1))
  go_loopw [6] (fun iv wr => ∃ k : Nat, iv = .int .i64 (k : Int) ∧ k ≤ N ∧ Below w.heap.size w wr ∧ ∀ j x, j < k → l[j]? = some x → x ≠ 123 ∧ x ≠ 125)
    (fun iv _ => N - (intOf iv).toNat)
  case atStart =>
    have hb := HB1.out.alloc HB1.out.size (.cells #[.slice A1 n1 c1, .slice A2 n2 c2] 63)
    exact ⟨0, rfl, Nat.zero_le _, hb, fun j x hj => by omega⟩
  case round =>
    obtain ⟨k, rfl, hk, hbw, hno⟩ := hrel
    by_cases hkn : k < N
    · have c1 : decide ((k : Int) < (N : Int)) = true := decide_eq_true (Int.ofNat_lt.2 hkn)
      have c2 : decide (k < N) = true := decide_eq_true hkn
      have b1 : (0 : Int) ≤ (k : Int) ∧ (k : Int) < (N : Int) := by omega
      have hkS : k < S.size := by omega
      obtain ⟨m, hmm⟩ : ∃ m, l[k]? = some m := ⟨_, List.getElem?_eq_getElem (by have := HN.out; omega)⟩
      have hm : (S[k]'hkS).toNat = m := byte_at_k HS.out HL.out.1 k hkS hmm
      have HNO := Aside0.mk hno
      have HBW := Aside0.mk hbw
      have HMM := Aside0.mk hmm
      have HKN := Aside0.mk hkn
      clear hno hbw hmm hkn
      by_cases h1 : m = 123
      · subst h1
        go_wp2
        go_ret
        exact ⟨rfl, HBW.out⟩
      · by_cases h2 : m = 125
        · subst h2
          go_wp2
          go_ret
          exact ⟨rfl, HBW.out⟩
        · have g1 : ((m : Int) == 123) = false := by rw [beq_eq_false_iff_ne]; omega
          have g2 : ((m : Int) == 125) = false := by rw [beq_eq_false_iff_ne]; omega
          have HM12 := Aside0.mk (And.intro h1 h2)
          have d6 : wrap64 ((k : Int) + 1) = ((k + 1 : Nat) : Int) := by have := HL.out.2; have := HN.out; have := HKN.out; unfold wrap64; omega
          clear h1 h2
          go_wp2
          go_roundw
          case rel =>
            refine ⟨k + 1, by rw [d6], HKN.out, HBW.out, fun j x hj hx => ?_⟩
            rcases Nat.lt_or_ge j k with q | q
            · exact HNO.out j x q hx
            · obtain rfl : j = k := by omega
              rw [HMM.out] at hx
              injection hx with hx
              subst hx
              exact HM12.out
          case measure => exact less (Nat.lt_succ_self k) HKN.out d6
    · have c1 : decide ((k : Int) < (N : Int)) = false := decide_eq_false (fun q => hkn (Int.ofNat_lt.1 q))
      have c2 : decide (k < N) = false := decide_eq_false hkn
      have hbare : Bare l := ⟨HL.out.1, fun x hx => by
        obtain ⟨j, hj, rfl⟩ := List.mem_iff_getElem.1 hx
        exact hno j _ (by have := HN.out; omega) (List.getElem?_eq_getElem hj)⟩
      have HBARE := Aside0.mk hbare
      have HBW := Aside0.mk hbw
      clear hbare hno hkn
      by_cases h6 : 60000 < N
      · have c3 : decide ((60000 : Int) < (N : Int)) = true := decide_eq_true (by omega)
        have c4 : decide (60000 < N) = true := decide_eq_true h6
        clear hbw h6
        go_wp2
        go_ret
        exact ⟨rfl, HBW.out⟩
      · have c3 : decide ((60000 : Int) < (N : Int)) = false := decide_eq_false (by omega)
        have c4 : decide (60000 < N) = false := decide_eq_false h6
        have HLN := Aside0.mk (show l.length ≤ 60000 by have := HN.out; omega)
        have s2 : ¬ 9223372036854775807 < N + 5 := by omega
        have HCAT := Aside0.mk (show S ++ (⟨#[123, 123, 120, 125, 125]⟩ : ByteArray) = bs (l ++ (hole ++ [])) by
          rw [HS.out, show (⟨#[123, 123, 120, 125, 125]⟩ : ByteArray) = bs (hole ++ []) from rfl, bs_append])
        obtain ⟨W2, cp, hcv, hb2, hC2⟩ := conv_bytes wr l HL.out.1 (by have := HL.out.2; omega)
        rw [← HS.out, ← HN.out] at hcv
        have hb2' := HBW.out.trans (hb2.mono HBW.out.size)
        have HB2 := Aside0.mk hb2'
        have HC2 := Aside0.mk hC2
        have HG2 := Aside0.mk (glob_below HMG.out.2 hb2')
        clear hbw h6 hb2 hC2 hb2'
        cases hst : steps attrOf true {} l with
        | none =>
          have hb := bytesAt_none l {} 0 hst
          obtain ⟨j, hj⟩ : ∃ j : Nat, (bytesAt {} l 0).2 = (j : Int) := ⟨(bytesAt {} l 0).2.toNat, by rw [Int.toNat_of_nonneg hb.2]⟩
          obtain ⟨d, hd⟩ : ∃ d, d = (bytesAt {} l 0).1 := ⟨_, rfl⟩
          have HDJ := Aside0.mk (show bytesAt {} l 0 = (d, (j : Int)) by rw [hd, ← hj])
          have HST := Aside0.mk hst
          have j0 : decide ((0 : Int) ≤ (j : Int)) = true := decide_eq_true (by omega)
          clear hb hj hd hst
          go_wp2_with (first
            | (go_at_call 8; (with_reducible refine (bytes_to {} ?hv _ cp _ l HN.out inv_start low_start HL.out.1 (by have := HL.out.2; omega) d (j : Int) HDJ.out _ HC2.out HG2.out).mono ?_); (case hv => rfl); rintro e w3 ⟨rfl, hb3⟩; have hb3' := HB2.out.trans (hb3.mono HB2.out.size); have hb4 := hb3'.alloc hb3'.size (.cells (cxs d) 33); have HB4 := Aside0.mk hb4; have HT4 := Aside0.mk (World.alloc_heap_new w3 (.cells (cxs d) 33)); have HM4 := Aside0.mk (And.intro (HMG.out.1.below hb4) (glob_below HMG.out.2 hb4)); clear hb3 hb3' hb4; simp only [cxs] at HT4 HB4 HM4 ⊢)
            | (go_at_call 19; (with_reducible refine (fragment_at l [] ?hv HCAT.out HBARE.out bare_nil (by have := HLN.out; simp only [List.length_nil]; omega) (fun _ _ _ => rfl) _ HM4.out.1 HM4.out.2).mono ?_); (case hv => rfl); rintro e w5 ⟨A3, n3, c3, A4, n4, c4, cc, aa, ee, rfl, ho, hb5⟩; have hT5 := (hb5.block w3.heap.size (by rw [size_alloc]; omega)).trans HT4.out; have hee : ee = 5 := (by have := ho; unfold Outcome at this; rw [HST.out] at this; exact this); have hlT : w3.heap.size < w5.heap.size := (Array.getElem?_eq_some_iff.1 hT5).1; obtain ⟨t0, t1, t2, t3, t4, t5, t6, t7, t8, t9, tf⟩ := zero_of hT5; have HT5 := Aside0.mk hT5; have HB5 := Aside0.mk (HB4.out.trans (hb5.mono HB4.out.size)); subst hee; clear ho hb5 hT5; simp only [cxs]))
          go_ret
          exact ⟨rfl, ((HB5.out.alloc HB5.out.size _).alloc (by rw [size_alloc]; have := HB5.out.size; omega) _)⟩
        | some d =>
          have HDJ := Aside0.mk (bytesAt_some l {} d 0 hst)
          have HST := Aside0.mk hst
          clear hst
          obtain ⟨hh, hhe⟩ : ∃ hh, hh = holeAt d := ⟨_, rfl⟩
          have HH := Aside0.mk hhe
          by_cases h0 : hh = 0
          · have g0 : ((hh : Int) == 0) = true := by rw [beq_iff_eq]; omega
            have g1 : ((hh : Int) != 0) = false := by rw [bne_eq_false_iff_eq]; omega
            have HZ := Aside0.mk (show holeAt d = 0 by omega)
            clear hhe h0
            go_wp2_with (first
              | (go_at_call 8; (with_reducible refine (bytes_to {} ?hv _ cp _ l HN.out inv_start low_start HL.out.1 (by have := HL.out.2; omega) d (-1) HDJ.out _ HC2.out HG2.out).mono ?_); (case hv => rfl); rintro e w3 ⟨rfl, hb3⟩; have hb3' := HB2.out.trans (hb3.mono HB2.out.size); have hb4 := hb3'.alloc hb3'.size (.cells (cxs d) 33); have HB4 := Aside0.mk hb4; have HT4 := Aside0.mk (World.alloc_heap_new w3 (.cells (cxs d) 33)); have HM4 := Aside0.mk (And.intro (HMG.out.1.below hb4) (glob_below HMG.out.2 hb4)); clear hb3 hb3' hb4; simp only [cxs] at HT4 HB4 HM4 ⊢)
              | (go_at_call 19; (with_reducible refine (fragment_at l [] ?hv HCAT.out HBARE.out bare_nil (by have := HLN.out; simp only [List.length_nil]; omega) (fun _ _ _ => rfl) _ HM4.out.1 HM4.out.2).mono ?_); (case hv => rfl); rintro e w5 ⟨A3, n3, c3, A4, n4, c4, cc, aa, ee, rfl, ho, hb5⟩; have hT5 := (hb5.block w3.heap.size (by rw [size_alloc]; omega)).trans HT4.out; have hee : ee = 6 := (by have := ho; unfold Outcome at this; rw [HST.out] at this; have h' : (if holeAt d = 0 then ee = 6 ∧ aa = (l.length : Int) else ee = 0) := this; rw [if_pos HZ.out] at h'; exact h'.1); have hlT : w3.heap.size < w5.heap.size := (Array.getElem?_eq_some_iff.1 hT5).1; obtain ⟨t0, t1, t2, t3, t4, t5, t6, t7, t8, t9, tf⟩ := zero_of hT5; have HT5 := Aside0.mk hT5; have HB5 := Aside0.mk (HB4.out.trans (hb5.mono HB4.out.size)); subst hee; clear ho hb5 hT5; simp only [cxs])
              | (go_at_call 20; (with_reducible refine (holeAt_at d ?hv hh HH.out _).mono ?_); (case hv => rfl); rintro e w6 ⟨rfl, hb6⟩; have hb6' := HB5.out.trans ((two_below hb6).mono HB5.out.size); have hT6 := ((two_below hb6).block w3.heap.size hlT).trans HT5.out; obtain ⟨x0, x1, x2, x3, x4, x5, x6, x7, x8, x9, xf⟩ := zero_of hT6; have HB6 := Aside0.mk hb6'; clear hb6 hb6' hT6))
            go_ret
            exact ⟨rfl, HB6.out⟩
          · have g0 : ((hh : Int) == 0) = false := by rw [beq_eq_false_iff_ne]; omega
            have g1 : ((hh : Int) != 0) = true := by rw [bne_iff_ne]; omega
            have hne : holeAt d ≠ 0 := hhe ▸ h0
            have HNE := Aside0.mk hne
            have hcs := holed' hne
            clear hne h0 hhe
            rcases hcs with kk | kk | kk | kk | kk | kk | kk | kk | kk | kk | kk
            all_goals
              have HKK := Aside0.mk kk
              clear kk
              go_wp2_with (first
                | (go_at_call 8; (with_reducible refine (bytes_to {} ?hv _ cp _ l HN.out inv_start low_start HL.out.1 (by have := HL.out.2; omega) d (-1) HDJ.out _ HC2.out HG2.out).mono ?_); (case hv => rfl); rintro e w3 ⟨rfl, hb3⟩; have hb3' := HB2.out.trans (hb3.mono HB2.out.size); have hb4 := hb3'.alloc hb3'.size (.cells (cxs d) 33); have HB4 := Aside0.mk hb4; have HT4 := Aside0.mk (World.alloc_heap_new w3 (.cells (cxs d) 33)); have HM4 := Aside0.mk (And.intro (HMG.out.1.below hb4) (glob_below HMG.out.2 hb4)); clear hb3 hb3' hb4; simp only [cxs] at HT4 HB4 HM4 ⊢)
                | (go_at_call 19; (with_reducible refine (fragment_at l [] ?hv HCAT.out HBARE.out bare_nil (by have := HLN.out; simp only [List.length_nil]; omega) (fun _ _ _ => rfl) _ HM4.out.1 HM4.out.2).mono ?_); (case hv => rfl); rintro e w5 ⟨A3, n3, c3, A4, n4, c4, cc, aa, ee, rfl, ho, hb5⟩; have hT5 := (hb5.block w3.heap.size (by rw [size_alloc]; omega)).trans HT4.out; have hee : ee = 0 := (by have := ho; unfold Outcome at this; rw [HST.out] at this; have h' : (if holeAt d = 0 then ee = 6 ∧ aa = (l.length : Int) else ee = 0) := this; rw [if_neg HNE.out] at h'; exact h'); have hlT : w3.heap.size < w5.heap.size := (Array.getElem?_eq_some_iff.1 hT5).1; obtain ⟨t0, t1, t2, t3, t4, t5, t6, t7, t8, t9, tf⟩ := zero_of hT5; have HT5 := Aside0.mk hT5; have HB5 := Aside0.mk (HB4.out.trans (hb5.mono HB4.out.size)); subst hee; clear ho hb5 hT5; simp only [cxs])
                | (go_at_call 20; (with_reducible refine (holeAt_at d ?hv hh HH.out _).mono ?_); (case hv => rfl); rintro e w6 ⟨rfl, hb6⟩; have hb6' := HB5.out.trans ((two_below hb6).mono HB5.out.size); have hT6 := ((two_below hb6).block w3.heap.size hlT).trans HT5.out; obtain ⟨x0, x1, x2, x3, x4, x5, x6, x7, x8, x9, xf⟩ := zero_of hT6; have HB6 := Aside0.mk hb6'; clear hb6 hb6' hT6; have kk := HKK.out))
              all_goals
                go_ret
                exact ⟨rfl, HB6.out⟩
end Go.Proofs.YtfplocpjdjjoaaaDoor.Refuse
