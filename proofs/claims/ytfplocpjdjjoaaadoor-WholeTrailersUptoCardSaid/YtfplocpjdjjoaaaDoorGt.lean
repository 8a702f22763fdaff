/-
  The walk of the law WholeTrailers where the markup is taken.
  Conditions: as each theorem says.
-/
import Derived.Test.YtfplocpjdjjoaaaDoorGs
namespace Go.Proofs.YtfplocpjdjjoaaaDoor.Ctxs
open Go Go.RowKit Go.Proofs.YtfplocpjdjjoaaaDoor.PWholeTrailers Go.Proofs.YtfplocpjdjjoaaaDoor.Trail Go.Proofs.YtfplocpjdjjoaaaDoorW.PrintWords
set_option linter.unusedVariables false
set_option linter.unusedSimpArgs false
theorem but_cases (x : List S43) : (x.length = 0 ∧ butText x = x) ∨ (∃ k, x.length = k + 1 ∧ (x.getD k z43).f0 = 0 ∧ butText x = x.take k) ∨ (∃ k, x.length = k + 1 ∧ (x.getD k z43).f0 ≠ 0 ∧ butText x = x) := by
  rcases List.eq_nil_or_concat x with rfl | ⟨y, t, rfl⟩
  · exact .inl ⟨rfl, by unfold butText; rw [if_neg (by simp)]⟩
  · rw [List.concat_eq_append]
    have e : (y ++ [t]).getD y.length z43 = t := by simp [List.getD_eq_getElem?_getD]
    by_cases h : t.f0 = 0
    · refine .inr (.inl ⟨y.length, by simp, by rw [e]; exact h, ?_⟩)
      unfold butText
      rw [if_pos ⟨t, by simp, h⟩]
      simp
    · refine .inr (.inr ⟨y.length, by simp, by rw [e]; exact h, ?_⟩)
      unfold butText
      rw [if_neg]
      rintro ⟨u, hu, h0⟩
      simp at hu
      exact h (hu ▸ h0)
theorem tokens_at {n : Nat} (A : Option Addr) (cp : Nat) (l : List Nat) (hn : n = l.length) (tl : List S43) (htl : tl = tokens l) (hs : Small l) (hlen : l.length ≤ 100000000000) (w : World) (hG : Glob w) (hC : Kd.C (Kd.int .u8) w A l.length (l.map fun n : Nat => (n : Int))) (d : Cx) (hd : steps attrOf true {} l = some d) (cs : Array Value) (hcs : cs = cxs (flat d)) : Calls Tryd.prog 10 #[.slice A n cp] w fun e w' => ∃ A' c', e = .returned (.tuple #[.slice A' tl.length c', .agg cs, .int .i64 (-1)]) ∧ Kd.N k43 43 w' w.heap.size (fun _ => True) (.slice A' tl.length c') tl ∧ Below w.heap.size w w' := by
  subst hn
  subst hcs
  subst htl
  refine (tokens_calls A cp l hs hlen w hG hC d hd).mono ?_
  rintro e w' ⟨ov, rfl, hN, hb⟩
  obtain ⟨A', c', rfl⟩ := Kd.N_slice hN
  exact ⟨A', c', rfl, hN, hb⟩
theorem fort_at {v : Array Value} (c : Cx) (hv : v = cxs c) (t : List Nat) (ht : t = trailer attrOf c) (hi : Inv c) (hl : Low c.nm) (w : World) (hG : Glob w) : Calls Tryd.prog 7 #[.agg v] w fun e w' => e = .returned (.tuple #[.string (bs t), .int .i64 0]) ∧ Below w.heap.size w w' := by
  subst hv
  subst ht
  exact for_calls c hi hl w hG
theorem tokens_at2 {n : Nat} (A : Option Addr) (cp : Nat) (l : List Nat) (hn : n = l.length) (tl : List S43) (htl : tl = tokens l) (k : Nat) (hk : tl.length = k + 1) (hs : Small l) (hlen : l.length ≤ 100000000000) (w : World) (hG : Glob w) (hC : Kd.C (Kd.int .u8) w A l.length (l.map fun n : Nat => (n : Int))) (d : Cx) (hd : steps attrOf true {} l = some d) (cs : Array Value) (hcs : cs = cxs (flat d)) : Calls Tryd.prog 10 #[.slice A n cp] w fun e w' => ∃ g c', e = .returned (.tuple #[.slice (some ⟨g, 0, none⟩) (k + 1) c', .agg cs, .int .i64 (-1)]) ∧ Kd.N k43 43 w' w.heap.size (fun _ => True) (.slice (some ⟨g, 0, none⟩) (k + 1) c') tl ∧ w'.cell? ⟨g, k * 4, none⟩ = some (.int .u8 (tl.getD k z43).f0) ∧ Below w.heap.size w w' := by
  refine (tokens_at A cp l hn tl htl hs hlen w hG hC d hd cs hcs).mono ?_
  rintro e w' ⟨A', c', rfl, hN, hb⟩
  obtain ⟨g, cap, ev, -, -, -⟩ := Kd.N_form hN (by omega)
  injection ev with ev ev2 ev3
  subst ev
  rw [hk] at hN ⊢
  obtain ⟨c, hcl, hF, hcc, -⟩ := Kd.N_elem hN z43 (k : Int) (Int.natCast_nonneg _) (by omega)
  rw [Int.toNat_natCast] at hF hcc
  obtain ⟨A2, c2, ec, -, -⟩ := k43_open (Kd.FK_now hF)
  exact ⟨g, c', rfl, hN, hcc 0 _ (by rw [ec]; rfl), hb⟩
theorem tokens_at3 {n : Nat} (A : Option Addr) (cp : Nat) (l : List Nat) (hn : n = l.length) (tl : List S43) (htl : tl = tokens l) (m k : Nat) (hk : tl.length = m) (hm : m = k + 1) (hs : Small l) (hlen : l.length ≤ 100000000000) (w : World) (hG : Glob w) (hC : Kd.C (Kd.int .u8) w A l.length (l.map fun n : Nat => (n : Int))) (d : Cx) (hd : steps attrOf true {} l = some d) (cs : Array Value) (hcs : cs = cxs (flat d)) : Calls Tryd.prog 10 #[.slice A n cp] w fun e w' => ∃ g c', e = .returned (.tuple #[.slice (some ⟨g, 0, none⟩) m c', .agg cs, .int .i64 (-1)]) ∧ Kd.N k43 43 w' w.heap.size (fun _ => True) (.slice (some ⟨g, 0, none⟩) m c') tl ∧ w'.cell? ⟨g, k * 4, none⟩ = some (.int .u8 (tl.getD k z43).f0) ∧ Below w.heap.size w w' := by
  subst hm
  exact tokens_at2 A cp l hn tl htl k hk hs hlen w hG hC d hd cs hcs
theorem law_cut {x tl : List S43} {j : Nat} (hpre : butText x <+: tl) (hb : butText x = x.take j) (hj : j ≤ x.length) : x.take j = tl.take j ∧ j ≤ tl.length := by
  rw [hb] at hpre
  have h1 := List.prefix_iff_eq_take.1 hpre
  have h2 := hpre.length_le
  rw [List.length_take, Nat.min_eq_left hj] at h1 h2
  exact ⟨h1, h2⟩
theorem law_rows {w8 : World} {A8 A9 : Option Addr} {tl tq : List S43} {j : Nat} (h8 : Kd.C k43 w8 A8 tl.length tl) (h9 : Kd.C k43 w8 A9 tq.length tq) (hj8 : j ≤ tl.length) (hj9 : j ≤ tq.length) (he : tq.take j = tl.take j) : ∀ W, Below w8.heap.size w8 W → Kd.C k43 W A8 (tl.take j).length (tl.take j) ∧ Kd.C k43 W A9 (tl.take j).length (tl.take j) := fun W hb =>
  ⟨Kd.C_below (Kd.C_take h8 hj8) hb, he ▸ Kd.C_below (Kd.C_take h9 hj9) hb⟩
set_option maxHeartbeats 4000000 in
set_option maxRecDepth 100000 in
theorem law_a (A : Option Addr) (cp : Nat) (p : List Nat) (at_ : Nat) (hs : Small p) (hlen : p.length ≤ 1048576) (hcp : p.length ≤ cp) (hat : at_ < 65536) (w : World) (hG : Glob w) (hC : Kd.C (Kd.int .u8) w A p.length (p.map fun n : Nat => (n : Int))) (n : Nat) (q : List Nat) (hn : n = at_ % (p.length + 1)) (hq : q = p.take n) (d : Cx) (hst : steps attrOf true {} q = some d) (tq : List S43) (htoq : tq = tokens q) (hk : tq.length = 0) (hbut : butText tq = tq.take (0)) (hj : 0 ≤ tq.length) : Calls Tryd.prog 3 #[.slice A p.length cp, .int .u16 (at_ : Int)] w fun e w' => e = .returned (.bool true) ∧ Below w.heap.size w w' := by
  have hu33 := Tryd.underlying33
  have hnl : n ≤ p.length := by
    have := Nat.mod_lt at_ (show 0 < p.length + 1 by omega)
    omega
  have hql : n = q.length := by rw [hq, List.length_take]; omega
  have m1 : ((at_ : Int)).tmod ((p.length : Int) + 1) = (n : Int) := by rw [hn]; rfl
  have m2 : ((at_ : Int)) % ((p.length : Int) + 1) = (n : Int) := by rw [hn]; rfl
  have m3 : ¬ ((p.length : Int) + 1 = 0) := by omega
  have m4 : (((p.length : Int) + 1) == 0) = false := by rw [beq_eq_false_iff_ne]; omega
  have m5 : ¬ (p.length + 1 = 0) := by omega
  have b1 : n ≤ 1000000000002 := by omega
  have b2 : at_ ≤ 1000000000002 := by omega
  have b3 : p.length + 1 ≤ 1000000000002 := by omega
  have i1 : (0 : Int) ≤ (n : Int) ∧ (n : Int) ≤ (cp : Int) := by omega
  have i2 : (0 : Int) ≤ (n : Int) ∧ n ≤ cp := by omega
  have i3 : n ≤ cp := by omega
  have HSQ := Aside0.mk (show Small q from fun x hx => hs x (List.mem_of_mem_take (hq ▸ hx)))
  have HCQ := Aside0.mk (show Kd.C (Kd.int .u8) w A q.length (q.map fun n : Nat => (n : Int)) by
    rw [hq]
    have := Kd.C_take (m := n) (show Kd.C (Kd.int .u8) w A (p.map fun n : Nat => (n : Int)).length (p.map fun n : Nat => (n : Int)) by rw [List.length_map]; exact hC) (by rw [List.length_map]; omega)
    rw [← List.map_take, List.length_map] at this
    exact this)
  have HQL := Aside0.mk hql
  have HLQ := Aside0.mk (show q.length ≤ 140737488355328 by omega)
  have HLQ2 := Aside0.mk (show q.length ≤ 1048576 by omega)
  have HG := Aside0.mk hG
  have HST := Aside0.mk hst
  have hsq := HSQ.out
  obtain ⟨hid, hld⟩ := inv_low q hsq {} d (inv_flat 0 (by omega)) (fun x hx => by cases hx) hst
  obtain ⟨t, ht⟩ : ∃ t, t = trailer attrOf d := ⟨_, rfl⟩
  have hwh := whole attrOf attrOf_le q d hst
  rw [← ht] at hwh
  have hstt : Small t := ht ▸ small_trailer d hid
  have htl : t.length ≤ 40 := ht ▸ trailer_len d
  have hpre := tokens_keep q t
  obtain ⟨l, hl⟩ : ∃ l, l = q ++ t := ⟨_, rfl⟩
  rw [← hl] at hwh hpre
  obtain ⟨tl, htok⟩ : ∃ tl, tl = tokens l := ⟨_, rfl⟩
  rw [← htok, ← htoq] at hpre
  obtain ⟨hcut, hjl⟩ := law_cut (j := 0) hpre hbut hj
  have HCUT := Aside0.mk hcut
  have HJL := Aside0.mk hjl
  have HJ := Aside0.mk hj
  have HXL := Aside0.mk (show 0 = (tl.take (0)).length by rw [List.length_take]; omega)
  have HID := Aside0.mk hid
  have HLD := Aside0.mk hld
  have HT := Aside0.mk ht
  have HWH := Aside0.mk hwh
  have HTS := Aside0.mk (show (bs t).size = t.length from bs_size t)
  have HSL := Aside0.mk (show Small l by rw [hl]; exact sm_app hsq hstt)
  have HLL := Aside0.mk (show l.length ≤ 100000000000 by have := HLQ2.out; rw [hl, List.length_append]; omega)
  have HAP := Aside0.mk (show q.length + (bs t).size ≤ 140737488355328 by have := HLQ2.out; rw [bs_size]; omega)
  have HLM := Aside0.mk (show (q.map fun n : Nat => (n : Int)) ++ bytesOf (bs t) = l.map fun n : Nat => (n : Int) by rw [bytesOf_bs t hstt, hl, List.map_append])
  have HLQ3 := Aside0.mk (show q.length ≤ 100000000000 by have := HLQ2.out; omega)
  have HTL := Aside0.mk htok
  have HTQ := Aside0.mk htoq
  have HK := Aside0.mk hk
  have e2 : decide ((0 : Int) ≤ (tl.length : Int)) = true := decide_eq_true (Int.natCast_nonneg _)
  clear hk
  obtain ⟨x1, x2⟩ := wrapN n b1
  obtain ⟨x3, x4⟩ := wrapN at_ b2
  obtain ⟨x5, x6⟩ := wrapN (p.length + 1) b3
  rw [show ((p.length + 1 : Nat) : Int) = (p.length : Int) + 1 from rfl] at x5 x6
  clear b1 b2 b3
  clear hn hql hnl hG hs hC hst hlen hcp hat hq htoq hbut hj hcut hjl hsq hid hld ht hwh hstt htl hpre hl htok
  go_enter Tryd.func3, Tryd.ntmps3
  go_wp2_with (first | (go_at_call 7; (with_reducible refine (for_first ?hv _ HG.out).mono ?_); (case hv => rfl); rintro e w1 ⟨rfl, hb⟩; have HB1 := Aside0.mk hb; clear hb) | (go_at_call 8; (with_reducible refine (bytes_some ?hv A cp q ?hn HSQ.out HLQ.out _ (Kd.C_below HCQ.out HB1.out) (glob_below HG.out HB1.out) d HST.out).mono ?_); (case hv => rfl); (case hn => exact HQL.out); rintro e w2 ⟨rfl, hb⟩; have HB2 := Aside0.mk (below_step HB1.out hb); clear hb; simp only [cxs]) | (go_at_call 7; (with_reducible refine (fort_at d ?hv t HT.out HID.out HLD.out _ (glob_below HG.out (below_alloc HB2.out _))).mono ?_); (case hv => rfl); rintro e w3 ⟨rfl, hb⟩; have hown : w3.heap[w2.heap.size]? = some (.cells (cxs d) 33 (0, 0)) := (hb.block w2.heap.size (by rw [alloc_size]; omega)).trans (alloc_at rfl); have HB3 := Aside0.mk (below_step (below_alloc HB2.out _) hb); obtain ⟨o0, o1, o2, o3, o4, o5, o6, o7, o8, o9, of⟩ := zero_of hown; clear hown hb) | (go_at_call 9; (with_reducible refine (form_at d ?hv HID.out HLD.out _).mono ?_); (case hv => rfl); rintro e w4 ⟨rfl, hb⟩; have HB4 := Aside0.mk (below_step HB3.out hb); clear hb) | ((with_reducible refine gate_builtin (b := .append) (xs := #[.tmp 61, .tmp 64]) rfl ?_); at_builtin; refine Kd.R_append_rows (Kd.int .u8) (w0 := w) w.heap.size rfl (.tmp 61) (.tmp 64) 22 5 (.int .u8 0) 1 rfl Tryd.underlying22 info5 rfl (by decide) (by omega) (.slice none 0 0) [] (q.map fun n : Nat => (n : Int)) A n cp (fun _ => True) (fun _ => False) rfl rfl ?aO ?aR (fun _ _ h => h) (fun _ h => h.elim) (fun _ _ => trivial) ?aB ?aS ?aL ?_; (case aO => exact Kd.R_nil _ _ _ _ _); (case aR => have h := Kd.C_below HCQ.out HB4.out; rw [← HQL.out] at h; exact h); (case aB => exact HB4.out); (case aS => exact HB4.out.size); (case aL => have := HLQ2.out; have := HQL.out; simp only [List.length_nil]; omega); intro v5 w5 hn hb hg hat; rw [List.nil_append] at hn; obtain ⟨A5, c5, rfl⟩ := Kd.R_slice hn; rw [List.length_map] at hn ⊢; have HR5 := Aside0.mk hn; have HB5 := Aside0.mk hb; clear hn hb hg hat) | ((with_reducible refine gate_builtin (b := .append) (xs := #[.tmp 66, .tmp 67]) rfl ?_); at_builtin; refine print_append_str (w0 := w) w.heap.size rfl (.tmp 66) (.tmp 67) 22 9 5 rfl Tryd.underlying22 Tryd.underlying9 info5 (.slice A5 q.length c5) (q.map fun n : Nat => (n : Int)) (bs t) rfl rfl ?aO ?aB ?aS ?aL ?_; (case aO => exact Kd.own_of_R HR5.out); (case aB => exact HB5.out); (case aS => exact HB5.out.size); (case aL => rw [List.length_map]; exact HAP.out); intro v6 w6 hown hb hg; rw [HLM.out] at hown; have hn := Kd.R_of_own (h1 := fun _ => rfl) (enc := Value.int .u8) (ok := fun _ => True) hown (fun _ _ => trivial); obtain ⟨A6, c6, e6, hle6, hC6⟩ := Kd.R_reads hn; subst e6; rw [List.length_map] at hle6 hC6 ⊢; have HC6 := Aside0.mk (show Kd.C (Kd.int .u8) w6 A6 l.length (l.map fun n : Nat => (n : Int)) from hC6); have HB6 := Aside0.mk hb; clear hown hn hb hg hC6 hle6) | (go_at_call 10; (with_reducible refine (tokens_at A6 c6 l ?hn tl HTL.out HSL.out HLL.out _ (glob_below HG.out HB6.out) HC6.out {} HWH.out zeros ?hcs).mono ?_); (case hn => rfl); (case hcs => rfl); rintro e w7 ⟨A8, c8, rfl, hN, hb⟩; have HN7 := Aside0.mk hN; have HB7 := Aside0.mk (below_step HB6.out hb); clear hN hb) | (go_at_call 10; (with_reducible refine (tokens_at A cp q ?hn tq HTQ.out HSQ.out HLQ3.out _ (glob_below HG.out (below_alloc HB7.out _)) (Kd.C_below HCQ.out (below_alloc HB7.out _)) d HST.out (cxs (flat d)) rfl).mono ?_); (case hn => exact HQL.out); rintro e w8 ⟨A9, c9, rfl, hN, hb⟩; have HN8 := Aside0.mk hN; have HB8 := Aside0.mk (below_step (below_alloc HB7.out _) hb); have HN78 := Aside0.mk (Kd.N_below (Kd.N_alloc HN7.out _) hb); have hr8 := Kd.N_reads' HN78.out; have hr9 := Kd.N_reads' HN8.out; have HA := Aside0.mk (law_rows (j := 0) hr8.2.2 hr9.2.2 HJL.out HJ.out HCUT.out); have HCA := Aside0.mk (show (tl.take (0)).length ≤ c8 by rw [← HXL.out]; exact Nat.le_trans HJL.out hr8.2.1); have HCB := Aside0.mk (show (tl.take (0)).length ≤ c9 by rw [← HXL.out]; exact Nat.zero_le _); simp only [cxs]; rw [HK.out]; have e1 : (0 : Int) ≤ 0 ∧ (0 : Int) ≤ (c8 : Int) := ⟨Int.le_refl _, Int.natCast_nonneg _⟩; clear hN hb hr8 hr9) | (go_at_call 11; (with_reducible refine (alike_calls (x := tl.take 0) A8 c8 A9 c9 _ ?hn ?hm (HA.out _ (below_alloc (Below.refl _ _) _)).1 HCA.out (HA.out _ (below_alloc (Below.refl _ _) _)).2 HCB.out).mono ?_); (case hn => exact HXL.out); (case hm => exact HXL.out); rintro e w9 ⟨rfl, hb⟩; have HB9 := Aside0.mk (below_step (below_alloc HB8.out _) hb); clear hb))
  go_ret
  exact ⟨rfl, HB9.out⟩
theorem wrapK (k : Nat) (h : k + 1 ≤ 9223372036854775807) : IntKind.i64.wrap (k : Int) = (k : Int) ∧ wrap64 (k : Int) = (k : Int) := ⟨by rw [IntKind.wrap_i64]; omega, by unfold wrap64; omega⟩
set_option maxHeartbeats 4000000 in
set_option maxRecDepth 100000 in
theorem law_b (A : Option Addr) (cp : Nat) (p : List Nat) (at_ : Nat) (hs : Small p) (hlen : p.length ≤ 1048576) (hcp : p.length ≤ cp) (hat : at_ < 65536) (w : World) (hG : Glob w) (hC : Kd.C (Kd.int .u8) w A p.length (p.map fun n : Nat => (n : Int))) (n : Nat) (q : List Nat) (hn : n = at_ % (p.length + 1)) (hq : q = p.take n) (d : Cx) (hst : steps attrOf true {} q = some d) (tq : List S43) (htoq : tq = tokens q) (k : Nat) (hk : tq.length = k + 1) (hk0 : (tq.getD k z43).f0 = 0) (hbut : butText tq = tq.take (k)) (hj : k ≤ tq.length) : Calls Tryd.prog 3 #[.slice A p.length cp, .int .u16 (at_ : Int)] w fun e w' => e = .returned (.bool true) ∧ Below w.heap.size w w' := by
  have hu33 := Tryd.underlying33
  have hnl : n ≤ p.length := by
    have := Nat.mod_lt at_ (show 0 < p.length + 1 by omega)
    omega
  have hql : n = q.length := by rw [hq, List.length_take]; omega
  have m1 : ((at_ : Int)).tmod ((p.length : Int) + 1) = (n : Int) := by rw [hn]; rfl
  have m2 : ((at_ : Int)) % ((p.length : Int) + 1) = (n : Int) := by rw [hn]; rfl
  have m3 : ¬ ((p.length : Int) + 1 = 0) := by omega
  have m4 : (((p.length : Int) + 1) == 0) = false := by rw [beq_eq_false_iff_ne]; omega
  have m5 : ¬ (p.length + 1 = 0) := by omega
  have b1 : n ≤ 1000000000002 := by omega
  have b2 : at_ ≤ 1000000000002 := by omega
  have b3 : p.length + 1 ≤ 1000000000002 := by omega
  have i1 : (0 : Int) ≤ (n : Int) ∧ (n : Int) ≤ (cp : Int) := by omega
  have i2 : (0 : Int) ≤ (n : Int) ∧ n ≤ cp := by omega
  have i3 : n ≤ cp := by omega
  have HSQ := Aside0.mk (show Small q from fun x hx => hs x (List.mem_of_mem_take (hq ▸ hx)))
  have HCQ := Aside0.mk (show Kd.C (Kd.int .u8) w A q.length (q.map fun n : Nat => (n : Int)) by
    rw [hq]
    have := Kd.C_take (m := n) (show Kd.C (Kd.int .u8) w A (p.map fun n : Nat => (n : Int)).length (p.map fun n : Nat => (n : Int)) by rw [List.length_map]; exact hC) (by rw [List.length_map]; omega)
    rw [← List.map_take, List.length_map] at this
    exact this)
  have HQL := Aside0.mk hql
  have HLQ := Aside0.mk (show q.length ≤ 140737488355328 by omega)
  have HLQ2 := Aside0.mk (show q.length ≤ 1048576 by omega)
  have HG := Aside0.mk hG
  have HST := Aside0.mk hst
  have hsq := HSQ.out
  obtain ⟨hid, hld⟩ := inv_low q hsq {} d (inv_flat 0 (by omega)) (fun x hx => by cases hx) hst
  obtain ⟨t, ht⟩ : ∃ t, t = trailer attrOf d := ⟨_, rfl⟩
  have hwh := whole attrOf attrOf_le q d hst
  rw [← ht] at hwh
  have hstt : Small t := ht ▸ small_trailer d hid
  have htl : t.length ≤ 40 := ht ▸ trailer_len d
  have hpre := tokens_keep q t
  obtain ⟨l, hl⟩ : ∃ l, l = q ++ t := ⟨_, rfl⟩
  rw [← hl] at hwh hpre
  obtain ⟨tl, htok⟩ : ∃ tl, tl = tokens l := ⟨_, rfl⟩
  rw [← htok, ← htoq] at hpre
  obtain ⟨hcut, hjl⟩ := law_cut (j := k) hpre hbut hj
  have HCUT := Aside0.mk hcut
  have HJL := Aside0.mk hjl
  have HJ := Aside0.mk hj
  have HXL := Aside0.mk (show k = (tl.take (k)).length by rw [List.length_take]; omega)
  have HID := Aside0.mk hid
  have HLD := Aside0.mk hld
  have HT := Aside0.mk ht
  have HWH := Aside0.mk hwh
  have HTS := Aside0.mk (show (bs t).size = t.length from bs_size t)
  have HSL := Aside0.mk (show Small l by rw [hl]; exact sm_app hsq hstt)
  have HLL := Aside0.mk (show l.length ≤ 100000000000 by have := HLQ2.out; rw [hl, List.length_append]; omega)
  have HAP := Aside0.mk (show q.length + (bs t).size ≤ 140737488355328 by have := HLQ2.out; rw [bs_size]; omega)
  have HLM := Aside0.mk (show (q.map fun n : Nat => (n : Int)) ++ bytesOf (bs t) = l.map fun n : Nat => (n : Int) by rw [bytesOf_bs t hstt, hl, List.map_append])
  have HLQ3 := Aside0.mk (show q.length ≤ 100000000000 by have := HLQ2.out; omega)
  have HTL := Aside0.mk htok
  have HTQ := Aside0.mk htoq
  have HK := Aside0.mk hk
  obtain ⟨f, hf⟩ : ∃ f, f = (tq.getD k z43).f0 := ⟨_, rfl⟩
  rw [← hf] at hk0
  have HF := Aside0.mk hf
  have v4 : (0 : Int) ≤ (k : Int) ∧ (k : Int) < (k : Int) + 1 := ⟨Int.natCast_nonneg k, Int.lt_succ _⟩
  have d1 : decide ((0 : Int) < (k : Int) + 1) = true := decide_eq_true (by omega)
  have k0 : (f == 0) = true := by rw [hk0]; rfl
  have e2 : decide ((k : Int) ≤ (tl.length : Int)) = true := decide_eq_true (Int.ofNat_le.2 hjl)
  have e5 : decide (k ≤ tl.length) = true := decide_eq_true hjl
  have e6 : k ≤ tl.length := hjl
  clear hk hk0 hf
  obtain ⟨x1, x2⟩ := wrapN n b1
  obtain ⟨x3, x4⟩ := wrapN at_ b2
  obtain ⟨x5, x6⟩ := wrapN (p.length + 1) b3
  rw [show ((p.length + 1 : Nat) : Int) = (p.length : Int) + 1 from rfl] at x5 x6
  clear b1 b2 b3
  clear hn hql hnl hG hs hC hst hlen hcp hat hq htoq hbut hj hcut hjl hsq hid hld ht hwh hstt htl hpre hl htok
  go_enter Tryd.func3, Tryd.ntmps3
  go_wp2_with (first | (go_at_call 7; (with_reducible refine (for_first ?hv _ HG.out).mono ?_); (case hv => rfl); rintro e w1 ⟨rfl, hb⟩; have HB1 := Aside0.mk hb; clear hb) | (go_at_call 8; (with_reducible refine (bytes_some ?hv A cp q ?hn HSQ.out HLQ.out _ (Kd.C_below HCQ.out HB1.out) (glob_below HG.out HB1.out) d HST.out).mono ?_); (case hv => rfl); (case hn => exact HQL.out); rintro e w2 ⟨rfl, hb⟩; have HB2 := Aside0.mk (below_step HB1.out hb); clear hb; simp only [cxs]) | (go_at_call 7; (with_reducible refine (fort_at d ?hv t HT.out HID.out HLD.out _ (glob_below HG.out (below_alloc HB2.out _))).mono ?_); (case hv => rfl); rintro e w3 ⟨rfl, hb⟩; have hown : w3.heap[w2.heap.size]? = some (.cells (cxs d) 33 (0, 0)) := (hb.block w2.heap.size (by rw [alloc_size]; omega)).trans (alloc_at rfl); have HB3 := Aside0.mk (below_step (below_alloc HB2.out _) hb); obtain ⟨o0, o1, o2, o3, o4, o5, o6, o7, o8, o9, of⟩ := zero_of hown; clear hown hb) | (go_at_call 9; (with_reducible refine (form_at d ?hv HID.out HLD.out _).mono ?_); (case hv => rfl); rintro e w4 ⟨rfl, hb⟩; have HB4 := Aside0.mk (below_step HB3.out hb); clear hb) | ((with_reducible refine gate_builtin (b := .append) (xs := #[.tmp 61, .tmp 64]) rfl ?_); at_builtin; refine Kd.R_append_rows (Kd.int .u8) (w0 := w) w.heap.size rfl (.tmp 61) (.tmp 64) 22 5 (.int .u8 0) 1 rfl Tryd.underlying22 info5 rfl (by decide) (by omega) (.slice none 0 0) [] (q.map fun n : Nat => (n : Int)) A n cp (fun _ => True) (fun _ => False) rfl rfl ?aO ?aR (fun _ _ h => h) (fun _ h => h.elim) (fun _ _ => trivial) ?aB ?aS ?aL ?_; (case aO => exact Kd.R_nil _ _ _ _ _); (case aR => have h := Kd.C_below HCQ.out HB4.out; rw [← HQL.out] at h; exact h); (case aB => exact HB4.out); (case aS => exact HB4.out.size); (case aL => have := HLQ2.out; have := HQL.out; simp only [List.length_nil]; omega); intro v5 w5 hn hb hg hat; rw [List.nil_append] at hn; obtain ⟨A5, c5, rfl⟩ := Kd.R_slice hn; rw [List.length_map] at hn ⊢; have HR5 := Aside0.mk hn; have HB5 := Aside0.mk hb; clear hn hb hg hat) | ((with_reducible refine gate_builtin (b := .append) (xs := #[.tmp 66, .tmp 67]) rfl ?_); at_builtin; refine print_append_str (w0 := w) w.heap.size rfl (.tmp 66) (.tmp 67) 22 9 5 rfl Tryd.underlying22 Tryd.underlying9 info5 (.slice A5 q.length c5) (q.map fun n : Nat => (n : Int)) (bs t) rfl rfl ?aO ?aB ?aS ?aL ?_; (case aO => exact Kd.own_of_R HR5.out); (case aB => exact HB5.out); (case aS => exact HB5.out.size); (case aL => rw [List.length_map]; exact HAP.out); intro v6 w6 hown hb hg; rw [HLM.out] at hown; have hn := Kd.R_of_own (h1 := fun _ => rfl) (enc := Value.int .u8) (ok := fun _ => True) hown (fun _ _ => trivial); obtain ⟨A6, c6, e6, hle6, hC6⟩ := Kd.R_reads hn; subst e6; rw [List.length_map] at hle6 hC6 ⊢; have HC6 := Aside0.mk (show Kd.C (Kd.int .u8) w6 A6 l.length (l.map fun n : Nat => (n : Int)) from hC6); have HB6 := Aside0.mk hb; clear hown hn hb hg hC6 hle6) | (go_at_call 10; (with_reducible refine (tokens_at A6 c6 l ?hn tl HTL.out HSL.out HLL.out _ (glob_below HG.out HB6.out) HC6.out {} HWH.out zeros ?hcs).mono ?_); (case hn => rfl); (case hcs => rfl); rintro e w7 ⟨A8, c8, rfl, hN, hb⟩; have HN7 := Aside0.mk hN; have HB7 := Aside0.mk (below_step HB6.out hb); clear hN hb) | (go_at_call 10; (with_reducible refine (tokens_at2 A cp q ?hn tq HTQ.out k HK.out HSQ.out HLQ3.out _ (glob_below HG.out (below_alloc HB7.out _)) (Kd.C_below HCQ.out (below_alloc HB7.out _)) d HST.out (cxs (flat d)) rfl).mono ?_); (case hn => exact HQL.out); rintro e w8 ⟨g, c9, rfl, hN, hq0, hb⟩; rw [← HF.out] at hq0; have glt : g < w8.heap.size := Kd.N_lt hN g rfl; have HN8 := Aside0.mk hN; have HB8 := Aside0.mk (below_step (below_alloc HB7.out _) hb); have HN78 := Aside0.mk (Kd.N_below (Kd.N_alloc HN7.out _) hb); have hr8 := Kd.N_reads' HN78.out; have hr9 := Kd.N_reads' HN8.out; have HA := Aside0.mk (law_rows (j := k) hr8.2.2 hr9.2.2 HJL.out HJ.out HCUT.out); have HCA := Aside0.mk (show (tl.take (k)).length ≤ c8 by rw [← HXL.out]; exact Nat.le_trans HJL.out hr8.2.1); have HCB := Aside0.mk (show (tl.take (k)).length ≤ c9 by rw [← HXL.out]; exact Nat.le_trans (Nat.le_succ k) hr9.2.1); obtain ⟨v1, v2⟩ := wrapK k (by have h := hr9.2.2.2.1; rw [HK.out] at h; exact h); simp only [cxs]; have e1 : (0 : Int) ≤ (k : Int) ∧ (k : Int) ≤ (c8 : Int) := ⟨Int.natCast_nonneg k, Int.ofNat_le.2 (Nat.le_trans HJL.out hr8.2.1)⟩; have e3 : (0 : Int) ≤ (k : Int) ∧ (k : Int) ≤ (c9 : Int) := ⟨Int.natCast_nonneg k, Int.ofNat_le.2 (Nat.le_trans (Nat.le_succ k) hr9.2.1)⟩; clear hN hb hr8 hr9) | (go_at_call 11; (with_reducible refine (alike_calls (x := tl.take k) A8 c8 (some ⟨g, 0, none⟩) c9 _ ?hn ?hm (HA.out _ (below_alloc (Below.refl _ _) _)).1 HCA.out (HA.out _ (below_alloc (Below.refl _ _) _)).2 HCB.out).mono ?_); (case hn => exact HXL.out); (case hm => exact HXL.out); rintro e w9 ⟨rfl, hb⟩; have HB9 := Aside0.mk (below_step (below_alloc HB8.out _) hb); clear hb))
  go_ret
  exact ⟨rfl, HB9.out⟩
theorem wrapM (m k : Nat) (hm : m = k + 1) (h : m ≤ 9223372036854775807) : IntKind.i64.wrap ((m : Int) - 1) = (k : Int) ∧ wrap64 ((m : Int) - 1) = (k : Int) := by
  subst hm
  exact ⟨by rw [IntKind.wrap_i64]; omega, by unfold wrap64; omega⟩
set_option maxHeartbeats 4000000 in
set_option maxRecDepth 100000 in
theorem law_c (A : Option Addr) (cp : Nat) (p : List Nat) (at_ : Nat) (hs : Small p) (hlen : p.length ≤ 1048576) (hcp : p.length ≤ cp) (hat : at_ < 65536) (w : World) (hG : Glob w) (hC : Kd.C (Kd.int .u8) w A p.length (p.map fun n : Nat => (n : Int))) (n : Nat) (q : List Nat) (hn : n = at_ % (p.length + 1)) (hq : q = p.take n) (d : Cx) (hst : steps attrOf true {} q = some d) (tq : List S43) (htoq : tq = tokens q) (m k : Nat) (hk : tq.length = m) (hm : m = k + 1) (hk0 : (tq.getD k z43).f0 ≠ 0) (hbut : butText tq = tq.take (m)) (hj : m ≤ tq.length) : Calls Tryd.prog 3 #[.slice A p.length cp, .int .u16 (at_ : Int)] w fun e w' => e = .returned (.bool true) ∧ Below w.heap.size w w' := by
  have hu33 := Tryd.underlying33
  have hnl : n ≤ p.length := by
    have := Nat.mod_lt at_ (show 0 < p.length + 1 by omega)
    omega
  have hql : n = q.length := by rw [hq, List.length_take]; omega
  have m1 : ((at_ : Int)).tmod ((p.length : Int) + 1) = (n : Int) := by rw [hn]; rfl
  have m2 : ((at_ : Int)) % ((p.length : Int) + 1) = (n : Int) := by rw [hn]; rfl
  have m3 : ¬ ((p.length : Int) + 1 = 0) := by omega
  have m4 : (((p.length : Int) + 1) == 0) = false := by rw [beq_eq_false_iff_ne]; omega
  have m5 : ¬ (p.length + 1 = 0) := by omega
  have b1 : n ≤ 1000000000002 := by omega
  have b2 : at_ ≤ 1000000000002 := by omega
  have b3 : p.length + 1 ≤ 1000000000002 := by omega
  have i1 : (0 : Int) ≤ (n : Int) ∧ (n : Int) ≤ (cp : Int) := by omega
  have i2 : (0 : Int) ≤ (n : Int) ∧ n ≤ cp := by omega
  have i3 : n ≤ cp := by omega
  have HSQ := Aside0.mk (show Small q from fun x hx => hs x (List.mem_of_mem_take (hq ▸ hx)))
  have HCQ := Aside0.mk (show Kd.C (Kd.int .u8) w A q.length (q.map fun n : Nat => (n : Int)) by
    rw [hq]
    have := Kd.C_take (m := n) (show Kd.C (Kd.int .u8) w A (p.map fun n : Nat => (n : Int)).length (p.map fun n : Nat => (n : Int)) by rw [List.length_map]; exact hC) (by rw [List.length_map]; omega)
    rw [← List.map_take, List.length_map] at this
    exact this)
  have HQL := Aside0.mk hql
  have HLQ := Aside0.mk (show q.length ≤ 140737488355328 by omega)
  have HLQ2 := Aside0.mk (show q.length ≤ 1048576 by omega)
  have HG := Aside0.mk hG
  have HST := Aside0.mk hst
  have hsq := HSQ.out
  obtain ⟨hid, hld⟩ := inv_low q hsq {} d (inv_flat 0 (by omega)) (fun x hx => by cases hx) hst
  obtain ⟨t, ht⟩ : ∃ t, t = trailer attrOf d := ⟨_, rfl⟩
  have hwh := whole attrOf attrOf_le q d hst
  rw [← ht] at hwh
  have hstt : Small t := ht ▸ small_trailer d hid
  have htl : t.length ≤ 40 := ht ▸ trailer_len d
  have hpre := tokens_keep q t
  obtain ⟨l, hl⟩ : ∃ l, l = q ++ t := ⟨_, rfl⟩
  rw [← hl] at hwh hpre
  obtain ⟨tl, htok⟩ : ∃ tl, tl = tokens l := ⟨_, rfl⟩
  rw [← htok, ← htoq] at hpre
  obtain ⟨hcut, hjl⟩ := law_cut (j := m) hpre hbut hj
  have HCUT := Aside0.mk hcut
  have HJL := Aside0.mk hjl
  have HJ := Aside0.mk hj
  have HXL := Aside0.mk (show m = (tl.take (m)).length by rw [List.length_take]; omega)
  have HID := Aside0.mk hid
  have HLD := Aside0.mk hld
  have HT := Aside0.mk ht
  have HWH := Aside0.mk hwh
  have HTS := Aside0.mk (show (bs t).size = t.length from bs_size t)
  have HSL := Aside0.mk (show Small l by rw [hl]; exact sm_app hsq hstt)
  have HLL := Aside0.mk (show l.length ≤ 100000000000 by have := HLQ2.out; rw [hl, List.length_append]; omega)
  have HAP := Aside0.mk (show q.length + (bs t).size ≤ 140737488355328 by have := HLQ2.out; rw [bs_size]; omega)
  have HLM := Aside0.mk (show (q.map fun n : Nat => (n : Int)) ++ bytesOf (bs t) = l.map fun n : Nat => (n : Int) by rw [bytesOf_bs t hstt, hl, List.map_append])
  have HLQ3 := Aside0.mk (show q.length ≤ 100000000000 by have := HLQ2.out; omega)
  have HTL := Aside0.mk htok
  have HTQ := Aside0.mk htoq
  have HK := Aside0.mk hk
  obtain ⟨f, hf⟩ : ∃ f, f = (tq.getD k z43).f0 := ⟨_, rfl⟩
  rw [← hf] at hk0
  have HF := Aside0.mk hf
  have HM := Aside0.mk hm
  have v4 : (0 : Int) ≤ (k : Int) ∧ (k : Int) < (m : Int) := ⟨Int.natCast_nonneg k, by omega⟩
  have d1 : decide ((0 : Int) < (m : Int)) = true := decide_eq_true (by omega)
  have d2 : decide (0 < m) = true := decide_eq_true (by omega)
  have d3 : 0 < m := by omega
  have k0 : (f == 0) = false := by rw [beq_eq_false_iff_ne]; exact hk0
  have e2 : decide ((m : Int) ≤ (tl.length : Int)) = true := decide_eq_true (Int.ofNat_le.2 hjl)
  have e5 : decide (m ≤ tl.length) = true := decide_eq_true hjl
  have e6 : m ≤ tl.length := hjl
  clear hk hk0 hf hm
  obtain ⟨x1, x2⟩ := wrapN n b1
  obtain ⟨x3, x4⟩ := wrapN at_ b2
  obtain ⟨x5, x6⟩ := wrapN (p.length + 1) b3
  rw [show ((p.length + 1 : Nat) : Int) = (p.length : Int) + 1 from rfl] at x5 x6
  clear b1 b2 b3
  clear hn hql hnl hG hs hC hst hlen hcp hat hq htoq hbut hj hcut hjl hsq hid hld ht hwh hstt htl hpre hl htok
  go_enter Tryd.func3, Tryd.ntmps3
  go_wp2_with (first | (go_at_call 7; (with_reducible refine (for_first ?hv _ HG.out).mono ?_); (case hv => rfl); rintro e w1 ⟨rfl, hb⟩; have HB1 := Aside0.mk hb; clear hb) | (go_at_call 8; (with_reducible refine (bytes_some ?hv A cp q ?hn HSQ.out HLQ.out _ (Kd.C_below HCQ.out HB1.out) (glob_below HG.out HB1.out) d HST.out).mono ?_); (case hv => rfl); (case hn => exact HQL.out); rintro e w2 ⟨rfl, hb⟩; have HB2 := Aside0.mk (below_step HB1.out hb); clear hb; simp only [cxs]) | (go_at_call 7; (with_reducible refine (fort_at d ?hv t HT.out HID.out HLD.out _ (glob_below HG.out (below_alloc HB2.out _))).mono ?_); (case hv => rfl); rintro e w3 ⟨rfl, hb⟩; have hown : w3.heap[w2.heap.size]? = some (.cells (cxs d) 33 (0, 0)) := (hb.block w2.heap.size (by rw [alloc_size]; omega)).trans (alloc_at rfl); have HB3 := Aside0.mk (below_step (below_alloc HB2.out _) hb); obtain ⟨o0, o1, o2, o3, o4, o5, o6, o7, o8, o9, of⟩ := zero_of hown; clear hown hb) | (go_at_call 9; (with_reducible refine (form_at d ?hv HID.out HLD.out _).mono ?_); (case hv => rfl); rintro e w4 ⟨rfl, hb⟩; have HB4 := Aside0.mk (below_step HB3.out hb); clear hb) | ((with_reducible refine gate_builtin (b := .append) (xs := #[.tmp 61, .tmp 64]) rfl ?_); at_builtin; refine Kd.R_append_rows (Kd.int .u8) (w0 := w) w.heap.size rfl (.tmp 61) (.tmp 64) 22 5 (.int .u8 0) 1 rfl Tryd.underlying22 info5 rfl (by decide) (by omega) (.slice none 0 0) [] (q.map fun n : Nat => (n : Int)) A n cp (fun _ => True) (fun _ => False) rfl rfl ?aO ?aR (fun _ _ h => h) (fun _ h => h.elim) (fun _ _ => trivial) ?aB ?aS ?aL ?_; (case aO => exact Kd.R_nil _ _ _ _ _); (case aR => have h := Kd.C_below HCQ.out HB4.out; rw [← HQL.out] at h; exact h); (case aB => exact HB4.out); (case aS => exact HB4.out.size); (case aL => have := HLQ2.out; have := HQL.out; simp only [List.length_nil]; omega); intro v5 w5 hn hb hg hat; rw [List.nil_append] at hn; obtain ⟨A5, c5, rfl⟩ := Kd.R_slice hn; rw [List.length_map] at hn ⊢; have HR5 := Aside0.mk hn; have HB5 := Aside0.mk hb; clear hn hb hg hat) | ((with_reducible refine gate_builtin (b := .append) (xs := #[.tmp 66, .tmp 67]) rfl ?_); at_builtin; refine print_append_str (w0 := w) w.heap.size rfl (.tmp 66) (.tmp 67) 22 9 5 rfl Tryd.underlying22 Tryd.underlying9 info5 (.slice A5 q.length c5) (q.map fun n : Nat => (n : Int)) (bs t) rfl rfl ?aO ?aB ?aS ?aL ?_; (case aO => exact Kd.own_of_R HR5.out); (case aB => exact HB5.out); (case aS => exact HB5.out.size); (case aL => rw [List.length_map]; exact HAP.out); intro v6 w6 hown hb hg; rw [HLM.out] at hown; have hn := Kd.R_of_own (h1 := fun _ => rfl) (enc := Value.int .u8) (ok := fun _ => True) hown (fun _ _ => trivial); obtain ⟨A6, c6, e6, hle6, hC6⟩ := Kd.R_reads hn; subst e6; rw [List.length_map] at hle6 hC6 ⊢; have HC6 := Aside0.mk (show Kd.C (Kd.int .u8) w6 A6 l.length (l.map fun n : Nat => (n : Int)) from hC6); have HB6 := Aside0.mk hb; clear hown hn hb hg hC6 hle6) | (go_at_call 10; (with_reducible refine (tokens_at A6 c6 l ?hn tl HTL.out HSL.out HLL.out _ (glob_below HG.out HB6.out) HC6.out {} HWH.out zeros ?hcs).mono ?_); (case hn => rfl); (case hcs => rfl); rintro e w7 ⟨A8, c8, rfl, hN, hb⟩; have HN7 := Aside0.mk hN; have HB7 := Aside0.mk (below_step HB6.out hb); clear hN hb) | (go_at_call 10; (with_reducible refine (tokens_at3 A cp q ?hn tq HTQ.out m k HK.out HM.out HSQ.out HLQ3.out _ (glob_below HG.out (below_alloc HB7.out _)) (Kd.C_below HCQ.out (below_alloc HB7.out _)) d HST.out (cxs (flat d)) rfl).mono ?_); (case hn => exact HQL.out); rintro e w8 ⟨g, c9, rfl, hN, hq0, hb⟩; rw [← HF.out] at hq0; have glt : g < w8.heap.size := Kd.N_lt hN g rfl; have HN8 := Aside0.mk hN; have HB8 := Aside0.mk (below_step (below_alloc HB7.out _) hb); have HN78 := Aside0.mk (Kd.N_below (Kd.N_alloc HN7.out _) hb); have hr8 := Kd.N_reads' HN78.out; have hr9 := Kd.N_reads' HN8.out; have HA := Aside0.mk (law_rows (j := m) hr8.2.2 hr9.2.2 HJL.out HJ.out HCUT.out); have HCA := Aside0.mk (show (tl.take (m)).length ≤ c8 by rw [← HXL.out]; exact Nat.le_trans HJL.out hr8.2.1); have HCB := Aside0.mk (show (tl.take (m)).length ≤ c9 by rw [← HXL.out]; exact hr9.2.1); obtain ⟨v1, v2⟩ := wrapM m k HM.out (by have h := hr9.2.2.2.1; rw [HK.out] at h; exact h); simp only [cxs]; have e1 : (0 : Int) ≤ (m : Int) ∧ (m : Int) ≤ (c8 : Int) := ⟨Int.natCast_nonneg m, Int.ofNat_le.2 (Nat.le_trans HJL.out hr8.2.1)⟩; clear hN hb hr8 hr9) | (go_at_call 11; (with_reducible refine (alike_calls (x := tl.take m) A8 c8 (some ⟨g, 0, none⟩) c9 _ ?hn ?hm (HA.out _ (below_alloc (Below.refl _ _) _)).1 HCA.out (HA.out _ (below_alloc (Below.refl _ _) _)).2 HCB.out).mono ?_); (case hn => exact HXL.out); (case hm => exact HXL.out); rintro e w9 ⟨rfl, hb⟩; have HB9 := Aside0.mk (below_step (below_alloc HB8.out _) hb); clear hb))
  go_ret
  exact ⟨rfl, HB9.out⟩
/-- **The law WholeTrailers returns true, and leaves what was there as it was.** -/
theorem law_calls (A : Option Addr) (cp : Nat) (p : List Nat) (at_ : Nat) (hs : Small p) (hlen : p.length ≤ 1048576) (hcp : p.length ≤ cp) (hat : at_ < 65536) (w : World) (hG : Glob w) (hC : Kd.C (Kd.int .u8) w A p.length (p.map fun n : Nat => (n : Int))) : Calls Tryd.prog 3 #[.slice A p.length cp, .int .u16 (at_ : Int)] w fun e w' => e = .returned (.bool true) ∧ Below w.heap.size w w' := by
  cases hst : steps attrOf true {} (p.take (at_ % (p.length + 1))) with
  | none => exact law_none A cp p at_ hs hlen hcp hat w hG hC hst
  | some d =>
    rcases but_cases (tokens (p.take (at_ % (p.length + 1)))) with ⟨h0, hb⟩ | ⟨k, hk, h0, hb⟩ | ⟨k, hk, h0, hb⟩
    · exact law_a A cp p at_ hs hlen hcp hat w hG hC _ _ rfl rfl d hst _ rfl h0 (by rw [hb]; exact (List.eq_nil_of_length_eq_zero h0) ▸ rfl) (Nat.zero_le _)
    · exact law_b A cp p at_ hs hlen hcp hat w hG hC _ _ rfl rfl d hst _ rfl k hk h0 hb (by omega)
    · exact law_c A cp p at_ hs hlen hcp hat w hG hC _ _ rfl rfl d hst _ rfl _ k rfl hk h0 (by rw [hb, List.take_length]) (Nat.le_refl _)
end Go.Proofs.YtfplocpjdjjoaaaDoor.Ctxs
