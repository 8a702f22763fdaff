/-
  What ends the text of an element of its own: its name, as far as it is not there yet.
  What ends the text of an element of its own, where something is open in it.
  Conditions: as each theorem says.
-/
import Derived.Test.YtfplocpjdjjoaaaDoorGj
import Derived.Lib.ConvBytes
namespace Go.Proofs.YtfplocpjdjjoaaaDoor.Ctxs
open Go Go.RowKit Go.Proofs.YtfplocpjdjjoaaaDoor.Trail Go.Proofs.YtfplocpjdjjoaaaDoorW.PrintWords
set_option linter.unusedVariables false
set_option linter.unusedSimpArgs false
set_option maxHeartbeats 4000000 in
set_option maxRecDepth 100000 in
theorem traw2 (c : Cx) (h1 : c.st = 19) (hsu : c.su = 0 ∨ c.su = 4) (hs : Small c.nm) (h4 : c.el ≤ 4) (hp : c.nm.isPrefixOf (nameOf c.el) = true) (w : World) : Calls Tryd.prog 27 #[.agg (cxs c)] w fun e w' => e = .returned (.string (bs ((nameOf c.el).drop c.nm.length ++ [62]))) ∧ Below w.heap.size w w' := by
  have hu33 := Tryd.underlying33
  have H4 := Aside0.mk h4
  have a1 : ((c.st : Int) != 19) = false := by rw [bne_eq_false_iff_eq]; omega
  have a2 : (((c.su : Int) == 0) = true) ∨ (((c.su : Int) == 0) = false ∧ ((c.su : Int) == 4) = true) := by
    simp only [beq_iff_eq, beq_eq_false_iff_ne]
    omega
  have HPRE := Aside0.mk (show (bs c.nm).toList.isPrefixOf (bs (nameOf c.el)).toList = true by rw [bs_list, prefix_bs hs (small_name _)]; exact hp)
  have e1 : (bs (nameOf c.el)).extract (bs c.nm).size (bs (nameOf c.el)).size = bs ((nameOf c.el).drop c.nm.length) := by rw [bs_size c.nm]; exact bs_drop _ _
  have s1 : (bs ((nameOf c.el).drop c.nm.length)).size ≤ 8 := by
    rw [bs_size, List.length_drop]
    have := nameOf_len c.el
    omega
  have s2 : ¬ 9223372036854775807 < (bs ((nameOf c.el).drop c.nm.length)).size + 1 := by omega
  have HE := Aside0.mk e1
  clear h1 h4 hsu hs hp e1
  simp only [cxs]
  rcases a2 with a2 | ⟨a2, a3⟩
  all_goals
    go_enter Tryd.func27, Tryd.ntmps27
    go_wp2
    go_region_with (first | (go_at_call 52; (with_reducible refine (nameOf_at' c.el ?hn _).mono ?_); (case hn => rfl); rintro e w1 ⟨rfl, rfl⟩) | (go_at_call 53; (with_reducible refine (trim_calls _ _ HPRE.out _).mono ?_); rintro e w1 ⟨rfl, rfl⟩; rw [HE.out]))
    all_goals
      go_wp2
      clear hu33
      go_ret
      exact ⟨ret_str (bs_append _ [62]), Below.drew ((Below.refl _ _).alloc (Nat.le_refl _) _)⟩
end Go.Proofs.YtfplocpjdjjoaaaDoor.Ctxs
namespace Go.Proofs.YtfplocpjdjjoaaaDoor.Ctxs
open Go Go.RowKit Go.Proofs.YtfplocpjdjjoaaaDoor.Trail Go.Proofs.YtfplocpjdjjoaaaDoorW.PrintWords
set_option linter.unusedVariables false
set_option linter.unusedSimpArgs false
theorem conv_bytes (W : World) (l : List Nat) (hs : Small l) (hl : l.length ≤ 140737488355328) : ∃ (W2 : World) (cp : Nat), (convert 9 22 (.string (bs l))).run Tryd.prog W = .ok (.slice (some ⟨W.heap.size, 0, none⟩) l.length cp) W2 ∧ Below W.heap.size W W2 ∧ Kd.C (Kd.int .u8) W2 (some ⟨W.heap.size, 0, none⟩) l.length (l.map fun n : Nat => (n : Int)) := by
  have hsz : (bs l).size = l.length := bs_size l
  have hr := bytes_reads W 5 (bs l) (by omega)
  have he : bytesOf (bs l) = l.map (fun n : Nat => (n : Int)) := by
    unfold bytesOf
    simp only [bs, List.map_map]
    apply List.map_congr_left
    intro x hx
    have := hs x hx
    simp only [Function.comp, Nat.toUInt8_eq, UInt8.toNat_ofNat']
    omega
  refine ⟨Lib.bytesWorld W 5 (bs l), grownCap W (bs l).size 0 5, ?_, bytes_below (Below.refl _ _) (Nat.le_refl _) 5 _, ?_⟩
  · have := print_bytes (P := Tryd.prog) 9 22 5 Tryd.underlying9 Tryd.underlying22 Tryd.underlying5 (bs l) W
    rw [hsz] at this ⊢
    exact this
  · rw [he, hsz] at hr
    exact Kd.C_of_reads (enc := Value.int .u8) (d := (0 : Int)) (h1 := fun _ => rfl) hr
theorem bytes_at {v : Array Value} (c : Cx) (hv : v = cxs c) (A : Option Addr) (cp n : Nat) (l : List Nat) (hnl : n = l.length) (hi : Inv c) (hl : Low c.nm) (hs : Small l) (hlen : l.length ≤ 140737488355328) (w : World) (hC : Kd.C (Kd.int .u8) w A l.length (l.map fun n : Nat => (n : Int))) (hG : Glob w) : Calls Tryd.prog 8 #[.agg v, .slice A n cp] w (RetI (bytesAt c l 0) w) := hv ▸ hnl ▸ bytes_calls c A cp l hi hl hs hlen w hC hG
set_option maxHeartbeats 4000000 in
set_option maxRecDepth 100000 in
theorem traw3 (c : Cx) (h1 : c.st = 19) (hsu : c.su ≠ 0 ∧ c.su ≠ 4) (hs : Small c.nm) (h4 : c.el ≤ 4) (hn : c.nm.length ≤ 100) (hi : Inv { st := 17, el := c.el, su := c.su, es := c.es }) (w : World) (hG : Glob w) : Calls Tryd.prog 27 #[.agg (cxs c)] w fun e w' => e = .returned (.string (bs (tcode (bytesAt { st := 17, el := c.el, su := c.su, es := c.es } (47 :: c.nm) 0).1 ++ element c.el))) ∧ Below w.heap.size w w' := by
  have hu33 := Tryd.underlying33
  have H4 := Aside0.mk h4
  have a1 : ((c.st : Int) != 19) = false := by rw [bne_eq_false_iff_eq]; omega
  have a2 : ((c.su : Int) == 0) = false := by rw [beq_eq_false_iff_ne]; omega
  have a3 : ((c.su : Int) == 4) = false := by rw [beq_eq_false_iff_ne]; omega
  have hsz := bs_size c.nm
  have s2 : ¬ 9223372036854775807 < 1 + (bs c.nm).size := by omega
  have e0 : (⟨#[47]⟩ : ByteArray) ++ bs c.nm = bs (47 :: c.nm) := bs_append [47] c.nm
  obtain ⟨n, hnn⟩ : ∃ n, n = (47 :: c.nm).length := ⟨_, rfl⟩
  obtain ⟨W, hW⟩ : ∃ W, W = (w.alloc (.cells (cxs c) 33)).alloc (.cells #[.int .u8 17, .int .u8 (c.el : Int), .bool false, .int .u8 0, .int .u8 0, .int .u8 0, .int .u8 (c.su : Int), .bool c.es, .int .u8 0, .string (⟨#[]⟩ : ByteArray)] 33) := ⟨_, rfl⟩
  have hWs : W.heap.size = w.heap.size + 1 + 1 := by rw [hW]; simp
  obtain ⟨W2, cp, hcv, hb2, hC2⟩ := conv_bytes W (47 :: c.nm) (small_cons hs) (by simp; omega)
  rw [hWs] at hcv hC2
  rw [← hnn] at hcv
  have hbw : Below w.heap.size w W := by rw [hW]; exact ((Below.refl _ _).alloc (Nat.le_refl _) _).alloc (by simp) _
  have HBW := Aside0.mk (below_step hbw hb2)
  have HOWN := Aside0.mk (show W2.heap[w.heap.size]? = some (.cells (cxs c) 33 (0, 0)) from (hb2.block _ (by rw [hWs]; omega)).trans (by rw [hW]; exact (alloc_old (by simp)).trans (alloc_at rfl)))
  have HG2 := Aside0.mk (glob_below hG (below_step hbw hb2))
  have HC2 := Aside0.mk hC2
  have HNN := Aside0.mk hnn
  have HI := Aside0.mk hi
  have HLW := Aside0.mk (show Low ({ st := 17, el := c.el, su := c.su, es := c.es } : Cx).nm from fun x hx => by cases hx)
  have HS := Aside0.mk hs
  have HN := Aside0.mk hn
  rw [hW] at hcv
  simp only [cxs] at hcv
  have t1 : (bs (tcode (bytesAt { st := 17, el := c.el, su := c.su, es := c.es } (47 :: c.nm) 0).1)).size ≤ 2 := by rw [bs_size]; exact tcode_len _
  have t2 : (bs (element c.el)).size ≤ 11 := by rw [bs_size]; exact element_len _
  have t3 : ¬ 9223372036854775807 < (bs (tcode (bytesAt { st := 17, el := c.el, su := c.su, es := c.es } (47 :: c.nm) 0).1)).size + (bs (element c.el)).size := by omega
  clear h1 h4 hsu hs hsz hn hi hb2 hC2 hnn hW hWs hbw hG
  simp only [cxs]
  go_enter Tryd.func27, Tryd.ntmps27
  go_wp2_with (go_at_call 8; (with_reducible refine (bytes_at { st := 17, el := c.el, su := c.su, es := c.es } ?hv (some ⟨w.heap.size + 1 + 1, 0, none⟩) cp n (47 :: c.nm) HNN.out HI.out ?hl ?hs ?hm _ HC2.out HG2.out).mono ?_); (case hv => rfl); (case hl => exact HLW.out); (case hs => exact small_cons HS.out); (case hm => have := HN.out; simp; omega); rintro e w3 ⟨rfl, hb⟩; have HB3 := Aside0.mk (below_step HBW.out hb); have hown := (hb.block w.heap.size (blk_lt HOWN.out)).trans HOWN.out; have hl0 : w.heap.size < w3.heap.size := blk_lt hown; obtain ⟨y0, y1, y2, y3, y4, y5, y6, y7, y8, y9, yf⟩ := zero_of hown; clear hb hown; simp only [cxs])
  go_region_with (first | (go_at_call 26; (with_reducible refine (tcode_at (bytesAt { st := 17, el := c.el, su := c.su, es := c.es } (47 :: c.nm) 0).1 ?hv _).mono ?_); (case hv => rfl); rintro e w1 ⟨rfl, hb⟩; have HB4 := Aside0.mk (below_step (Below.drew (HB3.out.alloc HB3.out.size _)) hb); have hcl := bcell_lt hb; clear hb) | (go_at_call 24; (with_reducible refine (element_at c.el ?hn H4.out _).mono ?_); (case hn => rfl); rintro e w1 ⟨rfl, rfl⟩))
  all_goals
    go_wp2
    clear hu33
    go_ret
    exact ⟨ret_str (bs_append _ _), HB4.out⟩
end Go.Proofs.YtfplocpjdjjoaaaDoor.Ctxs
