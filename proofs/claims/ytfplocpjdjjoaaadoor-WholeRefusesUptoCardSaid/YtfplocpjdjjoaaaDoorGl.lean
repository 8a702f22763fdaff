/-
  The trailer of a context, as trailer.For answers it.
  The trailer of a context, as trailer.For answers it.
  The trailer of an attribute's value; and of any context.
  Conditions: as each theorem says.
-/
import Derived.Test.YtfplocpjdjjoaaaDoorGk
namespace Go.Proofs.YtfplocpjdjjoaaaDoor.Ctxs
open Go Go.RowKit Go.Proofs.YtfplocpjdjjoaaaDoor.Trail Go.Proofs.YtfplocpjdjjoaaaDoorW.PrintWords
set_option linter.unusedVariables false
set_option linter.unusedSimpArgs false
theorem bytesAt_some : ∀ (l : List Nat) (c d : Cx) (i : Nat), steps attrOf true c l = some d → bytesAt c l i = (d, -1)
  | [], c, d, i, h => by cases h; rfl
  | b :: r, c, d, i, h => by
    rw [steps] at h
    try dsimp only at h
    split at h
    · cases h
    · rename_i hn
      rw [bytesAt, if_neg hn]
      exact bytesAt_some r _ d (i + 1) h
theorem bytesAt_none : ∀ (l : List Nat) (c : Cx) (i : Nat), steps attrOf true c l = none → (bytesAt c l i).1.st = 20 ∧ 0 ≤ (bytesAt c l i).2
  | [], c, i, h => by cases h
  | b :: r, c, i, h => by
    rw [steps] at h
    try dsimp only at h
    rw [bytesAt]
    split at h
    · rename_i hn
      rw [if_pos hn]
      exact ⟨hn, Int.natCast_nonneg _⟩
    · rename_i hn
      rw [if_neg hn]
      exact bytesAt_none r _ (i + 1) h
/-- Within a string or a note the beginning of an end tag's name is text. -/
theorem back_some (el su k : Nat) (he : el = 3 ∨ el = 4) (hsu : su = 1 ∨ su = 2 ∨ su = 5) (hk : k ≤ (nameOf el).length) : ∃ d, steps attrOf true { st := 17, el := el, su := su } (47 :: (nameOf el).take k) = some d := by
  rcases he with rfl | rfl
  · have : k = 0 ∨ k = 1 ∨ k = 2 ∨ k = 3 ∨ k = 4 ∨ k = 5 ∨ k = 6 := by simp [nameOf] at hk; omega
    rcases hsu with rfl | rfl | rfl <;> rcases this with rfl | rfl | rfl | rfl | rfl | rfl | rfl <;> exact ⟨_, rfl⟩
  · have : k = 0 ∨ k = 1 ∨ k = 2 ∨ k = 3 ∨ k = 4 ∨ k = 5 := by simp [nameOf] at hk; omega
    rcases hsu with rfl | rfl | rfl <;> rcases this with rfl | rfl | rfl | rfl | rfl | rfl <;> exact ⟨_, rfl⟩
theorem traw_calls (c : Cx) (hi : Inv c) (hl : Low c.nm) (hs : c.st = 17 ∨ c.st = 18 ∨ c.st = 19) (w : World) (hG : Glob w) : Calls Tryd.prog 27 #[.agg (cxs c)] w fun e w' => e = .returned (.string (bs (traw attrOf c))) ∧ Below w.heap.size w w' := by
  obtain ⟨h1, h2, h3, h5, h6, h7, h8, h9, k, hk, hnm⟩ := hi.inRaw hs
  unfold traw
  by_cases s19 : c.st = 19
  · rw [if_neg (fun q => q s19)]
    by_cases s0 : c.su = 0 ∨ c.su = 4
    · rw [if_pos s0]
      exact traw2 c s19 s0 hl.small hi.el4 (by rw [hnm]; exact List.isPrefixOf_iff_prefix.2 (List.take_prefix _ _)) w
    · rw [if_neg s0]
      obtain ⟨n3, n6, ne⟩ := h9 (by omega)
      have hel : c.el = 3 ∨ c.el = 4 := by
        have := hi.el4
        by_cases q : c.el ≤ 2
        · have := h6 q; omega
        · omega
      have hback : Inv { st := 17, el := c.el, su := c.su, es := c.es } := inv_rw 17 c.el c.su c.es [] (.inl rfl) h2 hi.el4 h3 h5 h6 h7 (fun _ => rfl) (fun q => absurd rfl q) ⟨0, Nat.zero_le _, rfl⟩
      have hsm : c.nm.length ≤ 100 := by
        have := nameOf_len c.el
        rw [hnm, List.length_take]
        omega
      obtain ⟨d, hd⟩ := back_some c.el c.su k hel (by omega) hk
      rw [← hnm] at hd
      have hd' : steps attrOf true { st := 17, el := c.el, su := c.su, es := c.es } (47 :: c.nm) = some d := by rw [ne]; exact hd
      have ht := traw3 c s19 ⟨fun q => s0 (.inl q), fun q => s0 (.inr q)⟩ hl.small hi.el4 hsm hback w hG
      rw [bytesAt_some _ _ _ _ hd'] at ht
      rw [hd']
      exact ht
  · rw [if_pos s19]
    exact traw1 c s19 hi.el4 w
end Go.Proofs.YtfplocpjdjjoaaaDoor.Ctxs
namespace Go.Proofs.YtfplocpjdjjoaaaDoor.Ctxs
open Go Go.RowKit Go.Proofs.YtfplocpjdjjoaaaDoor.Trail Go.Proofs.YtfplocpjdjjoaaaDoorW.PrintWords
set_option linter.unusedVariables false
set_option linter.unusedSimpArgs false
theorem ret_two {a b : ByteArray} {n : Int} (h : a = b) : Ending.returned (.tuple #[.string a, .int .i64 n]) = .returned (.tuple #[.string b, .int .i64 n]) := by rw [h]
def RetT (s : List Nat) (w : World) (e : Ending) (w' : World) : Prop := e = .returned (.tuple #[.string (bs s), .int .i64 0]) ∧ Below w.heap.size w w'
theorem elemOf_at {s : ByteArray} (nm : List Nat) (hs : s = bs nm) (hsm : Small nm) (w : World) : Calls Tryd.prog 25 #[.string s] w fun e w' => e = .returned (.int .u8 (Trail.elemOf nm : Int)) ∧ w = w' := hs ▸ elemOf_calls nm hsm w
theorem traw_at {v : Array Value} (c : Cx) (hv : v = cxs c) (hi : Inv c) (hl : Low c.nm) (hs : c.st = 17 ∨ c.st = 18 ∨ c.st = 19) (w : World) (hG : Glob w) : Calls Tryd.prog 27 #[.agg v] w fun e w' => e = .returned (.string (bs (traw attrOf c))) ∧ Below w.heap.size w w' := hv ▸ traw_calls c hi hl hs w hG
set_option maxHeartbeats 4000000 in
set_option maxRecDepth 100000 in
theorem forS1 (c : Cx) (hi : Inv c) (hl : Low c.nm) (e : c.st = 1) (w : World) (hG : Glob w) : Calls Tryd.prog 7 #[.agg (cxs c)] w (RetT [32] w) := by
  have hu33 := Tryd.underlying33
  have HI := Aside0.mk hi
  have HL := Aside0.mk hl
  have HG := Aside0.mk hG
  have H4 := Aside0.mk hi.el4
  have s1 : (bs (tcode c)).size ≤ 2 := by rw [bs_size]; exact tcode_len c
  have s2 : (bs (element c.el)).size ≤ 11 := by rw [bs_size]; exact element_len _
  have s3 : (bs (element (Trail.elemOf c.nm))).size ≤ 11 := by rw [bs_size]; exact element_len _
  have f20 : ((c.st : Int) == 20) = false := by rw [beq_eq_false_iff_ne]; omega
  have f1 : ((c.st : Int) == 1) = true := by rw [beq_iff_eq]; omega
  clear e
  clear hi hl hG
  simp only [cxs]
  go_enter Tryd.func7, Tryd.ntmps7
  go_wp2_with (first | (go_at_call 9; (with_reducible refine (form_at c ?hv HI.out HL.out _).mono ?_); (case hv => rfl); rintro e w1 ⟨rfl, hb⟩; have hown : w1.heap[w.heap.size]? = some (.cells (cxs c) 33 (0, 0)) := (hb.block w.heap.size (by simp)).trans (alloc_at rfl); have HB1 := Aside0.mk (below_step ((Below.refl _ _).alloc (Nat.le_refl _) _) hb); have hl0 : w.heap.size < w1.heap.size := blk_lt hown; obtain ⟨y0, y1, y2, y3, y4, y5, y6, y7, y8, y9, yf⟩ := zero_of hown; clear hb hown))
  clear hu33
  go_ret2
  exact ⟨rfl, HB1.out⟩
set_option maxHeartbeats 4000000 in
set_option maxRecDepth 100000 in
theorem forS2 (c : Cx) (hi : Inv c) (hl : Low c.nm) (e : c.st = 2) (w : World) (hG : Glob w) : Calls Tryd.prog 7 #[.agg (cxs c)] w (RetT [62] w) := by
  have hu33 := Tryd.underlying33
  have HI := Aside0.mk hi
  have HL := Aside0.mk hl
  have HG := Aside0.mk hG
  have H4 := Aside0.mk hi.el4
  have s1 : (bs (tcode c)).size ≤ 2 := by rw [bs_size]; exact tcode_len c
  have s2 : (bs (element c.el)).size ≤ 11 := by rw [bs_size]; exact element_len _
  have s3 : (bs (element (Trail.elemOf c.nm))).size ≤ 11 := by rw [bs_size]; exact element_len _
  have f20 : ((c.st : Int) == 20) = false := by rw [beq_eq_false_iff_ne]; omega
  have f1 : ((c.st : Int) == 1) = false := by rw [beq_eq_false_iff_ne]; omega
  have f3 : ((c.st : Int) == 3) = false := by rw [beq_eq_false_iff_ne]; omega
  have f2 : ((c.st : Int) == 2) = true := by rw [beq_iff_eq]; omega
  clear e
  clear hi hl hG
  simp only [cxs]
  go_enter Tryd.func7, Tryd.ntmps7
  go_wp2_with (first | (go_at_call 9; (with_reducible refine (form_at c ?hv HI.out HL.out _).mono ?_); (case hv => rfl); rintro e w1 ⟨rfl, hb⟩; have hown : w1.heap[w.heap.size]? = some (.cells (cxs c) 33 (0, 0)) := (hb.block w.heap.size (by simp)).trans (alloc_at rfl); have HB1 := Aside0.mk (below_step ((Below.refl _ _).alloc (Nat.le_refl _) _) hb); have hl0 : w.heap.size < w1.heap.size := blk_lt hown; obtain ⟨y0, y1, y2, y3, y4, y5, y6, y7, y8, y9, yf⟩ := zero_of hown; clear hb hown))
  clear hu33
  go_ret2
  exact ⟨rfl, HB1.out⟩
set_option maxHeartbeats 4000000 in
set_option maxRecDepth 100000 in
theorem forS11 (c : Cx) (hi : Inv c) (hl : Low c.nm) (e : c.st = 11) (w : World) (hG : Glob w) : Calls Tryd.prog 7 #[.agg (cxs c)] w (RetT [62] w) := by
  have hu33 := Tryd.underlying33
  have HI := Aside0.mk hi
  have HL := Aside0.mk hl
  have HG := Aside0.mk hG
  have H4 := Aside0.mk hi.el4
  have s1 : (bs (tcode c)).size ≤ 2 := by rw [bs_size]; exact tcode_len c
  have s2 : (bs (element c.el)).size ≤ 11 := by rw [bs_size]; exact element_len _
  have s3 : (bs (element (Trail.elemOf c.nm))).size ≤ 11 := by rw [bs_size]; exact element_len _
  have f20 : ((c.st : Int) == 20) = false := by rw [beq_eq_false_iff_ne]; omega
  have f1 : ((c.st : Int) == 1) = false := by rw [beq_eq_false_iff_ne]; omega
  have f3 : ((c.st : Int) == 3) = false := by rw [beq_eq_false_iff_ne]; omega
  have f2 : ((c.st : Int) == 2) = false := by rw [beq_eq_false_iff_ne]; omega
  have f11 : ((c.st : Int) == 11) = true := by rw [beq_iff_eq]; omega
  clear e
  clear hi hl hG
  simp only [cxs]
  go_enter Tryd.func7, Tryd.ntmps7
  go_wp2_with (first | (go_at_call 9; (with_reducible refine (form_at c ?hv HI.out HL.out _).mono ?_); (case hv => rfl); rintro e w1 ⟨rfl, hb⟩; have hown : w1.heap[w.heap.size]? = some (.cells (cxs c) 33 (0, 0)) := (hb.block w.heap.size (by simp)).trans (alloc_at rfl); have HB1 := Aside0.mk (below_step ((Below.refl _ _).alloc (Nat.le_refl _) _) hb); have hl0 : w.heap.size < w1.heap.size := blk_lt hown; obtain ⟨y0, y1, y2, y3, y4, y5, y6, y7, y8, y9, yf⟩ := zero_of hown; clear hb hown))
  clear hu33
  go_ret2
  exact ⟨rfl, HB1.out⟩
set_option maxHeartbeats 4000000 in
set_option maxRecDepth 100000 in
theorem forS12 (c : Cx) (hi : Inv c) (hl : Low c.nm) (e : c.st = 12) (w : World) (hG : Glob w) : Calls Tryd.prog 7 #[.agg (cxs c)] w (RetT [62] w) := by
  have hu33 := Tryd.underlying33
  have HI := Aside0.mk hi
  have HL := Aside0.mk hl
  have HG := Aside0.mk hG
  have H4 := Aside0.mk hi.el4
  have s1 : (bs (tcode c)).size ≤ 2 := by rw [bs_size]; exact tcode_len c
  have s2 : (bs (element c.el)).size ≤ 11 := by rw [bs_size]; exact element_len _
  have s3 : (bs (element (Trail.elemOf c.nm))).size ≤ 11 := by rw [bs_size]; exact element_len _
  have f20 : ((c.st : Int) == 20) = false := by rw [beq_eq_false_iff_ne]; omega
  have f1 : ((c.st : Int) == 1) = false := by rw [beq_eq_false_iff_ne]; omega
  have f3 : ((c.st : Int) == 3) = false := by rw [beq_eq_false_iff_ne]; omega
  have f2 : ((c.st : Int) == 2) = false := by rw [beq_eq_false_iff_ne]; omega
  have f11 : ((c.st : Int) == 11) = false := by rw [beq_eq_false_iff_ne]; omega
  have f12 : ((c.st : Int) == 12) = true := by rw [beq_iff_eq]; omega
  clear e
  clear hi hl hG
  simp only [cxs]
  go_enter Tryd.func7, Tryd.ntmps7
  go_wp2_with (first | (go_at_call 9; (with_reducible refine (form_at c ?hv HI.out HL.out _).mono ?_); (case hv => rfl); rintro e w1 ⟨rfl, hb⟩; have hown : w1.heap[w.heap.size]? = some (.cells (cxs c) 33 (0, 0)) := (hb.block w.heap.size (by simp)).trans (alloc_at rfl); have HB1 := Aside0.mk (below_step ((Below.refl _ _).alloc (Nat.le_refl _) _) hb); have hl0 : w.heap.size < w1.heap.size := blk_lt hown; obtain ⟨y0, y1, y2, y3, y4, y5, y6, y7, y8, y9, yf⟩ := zero_of hown; clear hb hown))
  clear hu33
  go_ret2
  exact ⟨rfl, HB1.out⟩
set_option maxHeartbeats 4000000 in
set_option maxRecDepth 100000 in
theorem forS16 (c : Cx) (hi : Inv c) (hl : Low c.nm) (e : c.st = 16) (w : World) (hG : Glob w) : Calls Tryd.prog 7 #[.agg (cxs c)] w (RetT [62] w) := by
  have hu33 := Tryd.underlying33
  have HI := Aside0.mk hi
  have HL := Aside0.mk hl
  have HG := Aside0.mk hG
  have H4 := Aside0.mk hi.el4
  have s1 : (bs (tcode c)).size ≤ 2 := by rw [bs_size]; exact tcode_len c
  have s2 : (bs (element c.el)).size ≤ 11 := by rw [bs_size]; exact element_len _
  have s3 : (bs (element (Trail.elemOf c.nm))).size ≤ 11 := by rw [bs_size]; exact element_len _
  have f20 : ((c.st : Int) == 20) = false := by rw [beq_eq_false_iff_ne]; omega
  have f1 : ((c.st : Int) == 1) = false := by rw [beq_eq_false_iff_ne]; omega
  have f3 : ((c.st : Int) == 3) = false := by rw [beq_eq_false_iff_ne]; omega
  have f2 : ((c.st : Int) == 2) = false := by rw [beq_eq_false_iff_ne]; omega
  have f11 : ((c.st : Int) == 11) = false := by rw [beq_eq_false_iff_ne]; omega
  have f12 : ((c.st : Int) == 12) = false := by rw [beq_eq_false_iff_ne]; omega
  have f16 : ((c.st : Int) == 16) = true := by rw [beq_iff_eq]; omega
  clear e
  clear hi hl hG
  simp only [cxs]
  go_enter Tryd.func7, Tryd.ntmps7
  go_wp2_with (first | (go_at_call 9; (with_reducible refine (form_at c ?hv HI.out HL.out _).mono ?_); (case hv => rfl); rintro e w1 ⟨rfl, hb⟩; have hown : w1.heap[w.heap.size]? = some (.cells (cxs c) 33 (0, 0)) := (hb.block w.heap.size (by simp)).trans (alloc_at rfl); have HB1 := Aside0.mk (below_step ((Below.refl _ _).alloc (Nat.le_refl _) _) hb); have hl0 : w.heap.size < w1.heap.size := blk_lt hown; obtain ⟨y0, y1, y2, y3, y4, y5, y6, y7, y8, y9, yf⟩ := zero_of hown; clear hb hown))
  clear hu33
  go_ret2
  exact ⟨rfl, HB1.out⟩
set_option maxHeartbeats 4000000 in
set_option maxRecDepth 100000 in
theorem forS13 (c : Cx) (hi : Inv c) (hl : Low c.nm) (e : c.st = 13) (w : World) (hG : Glob w) : Calls Tryd.prog 7 #[.agg (cxs c)] w (RetT [45, 45, 62] w) := by
  have hu33 := Tryd.underlying33
  have HI := Aside0.mk hi
  have HL := Aside0.mk hl
  have HG := Aside0.mk hG
  have H4 := Aside0.mk hi.el4
  have s1 : (bs (tcode c)).size ≤ 2 := by rw [bs_size]; exact tcode_len c
  have s2 : (bs (element c.el)).size ≤ 11 := by rw [bs_size]; exact element_len _
  have s3 : (bs (element (Trail.elemOf c.nm))).size ≤ 11 := by rw [bs_size]; exact element_len _
  have f20 : ((c.st : Int) == 20) = false := by rw [beq_eq_false_iff_ne]; omega
  have f1 : ((c.st : Int) == 1) = false := by rw [beq_eq_false_iff_ne]; omega
  have f3 : ((c.st : Int) == 3) = false := by rw [beq_eq_false_iff_ne]; omega
  have f2 : ((c.st : Int) == 2) = false := by rw [beq_eq_false_iff_ne]; omega
  have f11 : ((c.st : Int) == 11) = false := by rw [beq_eq_false_iff_ne]; omega
  have f12 : ((c.st : Int) == 12) = false := by rw [beq_eq_false_iff_ne]; omega
  have f16 : ((c.st : Int) == 16) = false := by rw [beq_eq_false_iff_ne]; omega
  have f13 : ((c.st : Int) == 13) = true := by rw [beq_iff_eq]; omega
  clear e
  clear hi hl hG
  simp only [cxs]
  go_enter Tryd.func7, Tryd.ntmps7
  go_wp2_with (first | (go_at_call 9; (with_reducible refine (form_at c ?hv HI.out HL.out _).mono ?_); (case hv => rfl); rintro e w1 ⟨rfl, hb⟩; have hown : w1.heap[w.heap.size]? = some (.cells (cxs c) 33 (0, 0)) := (hb.block w.heap.size (by simp)).trans (alloc_at rfl); have HB1 := Aside0.mk (below_step ((Below.refl _ _).alloc (Nat.le_refl _) _) hb); have hl0 : w.heap.size < w1.heap.size := blk_lt hown; obtain ⟨y0, y1, y2, y3, y4, y5, y6, y7, y8, y9, yf⟩ := zero_of hown; clear hb hown))
  clear hu33
  go_ret2
  exact ⟨rfl, HB1.out⟩
set_option maxHeartbeats 4000000 in
set_option maxRecDepth 100000 in
theorem forS14 (c : Cx) (hi : Inv c) (hl : Low c.nm) (e : c.st = 14) (w : World) (hG : Glob w) : Calls Tryd.prog 7 #[.agg (cxs c)] w (RetT [45, 45, 62] w) := by
  have hu33 := Tryd.underlying33
  have HI := Aside0.mk hi
  have HL := Aside0.mk hl
  have HG := Aside0.mk hG
  have H4 := Aside0.mk hi.el4
  have s1 : (bs (tcode c)).size ≤ 2 := by rw [bs_size]; exact tcode_len c
  have s2 : (bs (element c.el)).size ≤ 11 := by rw [bs_size]; exact element_len _
  have s3 : (bs (element (Trail.elemOf c.nm))).size ≤ 11 := by rw [bs_size]; exact element_len _
  have f20 : ((c.st : Int) == 20) = false := by rw [beq_eq_false_iff_ne]; omega
  have f1 : ((c.st : Int) == 1) = false := by rw [beq_eq_false_iff_ne]; omega
  have f3 : ((c.st : Int) == 3) = false := by rw [beq_eq_false_iff_ne]; omega
  have f2 : ((c.st : Int) == 2) = false := by rw [beq_eq_false_iff_ne]; omega
  have f11 : ((c.st : Int) == 11) = false := by rw [beq_eq_false_iff_ne]; omega
  have f12 : ((c.st : Int) == 12) = false := by rw [beq_eq_false_iff_ne]; omega
  have f16 : ((c.st : Int) == 16) = false := by rw [beq_eq_false_iff_ne]; omega
  have f13 : ((c.st : Int) == 13) = false := by rw [beq_eq_false_iff_ne]; omega
  have f14 : ((c.st : Int) == 14) = true := by rw [beq_iff_eq]; omega
  clear e
  clear hi hl hG
  simp only [cxs]
  go_enter Tryd.func7, Tryd.ntmps7
  go_wp2_with (first | (go_at_call 9; (with_reducible refine (form_at c ?hv HI.out HL.out _).mono ?_); (case hv => rfl); rintro e w1 ⟨rfl, hb⟩; have hown : w1.heap[w.heap.size]? = some (.cells (cxs c) 33 (0, 0)) := (hb.block w.heap.size (by simp)).trans (alloc_at rfl); have HB1 := Aside0.mk (below_step ((Below.refl _ _).alloc (Nat.le_refl _) _) hb); have hl0 : w.heap.size < w1.heap.size := blk_lt hown; obtain ⟨y0, y1, y2, y3, y4, y5, y6, y7, y8, y9, yf⟩ := zero_of hown; clear hb hown))
  clear hu33
  go_ret2
  exact ⟨rfl, HB1.out⟩
set_option maxHeartbeats 4000000 in
set_option maxRecDepth 100000 in
theorem forS15 (c : Cx) (hi : Inv c) (hl : Low c.nm) (e : c.st = 15) (w : World) (hG : Glob w) : Calls Tryd.prog 7 #[.agg (cxs c)] w (RetT [45, 45, 62] w) := by
  have hu33 := Tryd.underlying33
  have HI := Aside0.mk hi
  have HL := Aside0.mk hl
  have HG := Aside0.mk hG
  have H4 := Aside0.mk hi.el4
  have s1 : (bs (tcode c)).size ≤ 2 := by rw [bs_size]; exact tcode_len c
  have s2 : (bs (element c.el)).size ≤ 11 := by rw [bs_size]; exact element_len _
  have s3 : (bs (element (Trail.elemOf c.nm))).size ≤ 11 := by rw [bs_size]; exact element_len _
  have f20 : ((c.st : Int) == 20) = false := by rw [beq_eq_false_iff_ne]; omega
  have f1 : ((c.st : Int) == 1) = false := by rw [beq_eq_false_iff_ne]; omega
  have f3 : ((c.st : Int) == 3) = false := by rw [beq_eq_false_iff_ne]; omega
  have f2 : ((c.st : Int) == 2) = false := by rw [beq_eq_false_iff_ne]; omega
  have f11 : ((c.st : Int) == 11) = false := by rw [beq_eq_false_iff_ne]; omega
  have f12 : ((c.st : Int) == 12) = false := by rw [beq_eq_false_iff_ne]; omega
  have f16 : ((c.st : Int) == 16) = false := by rw [beq_eq_false_iff_ne]; omega
  have f13 : ((c.st : Int) == 13) = false := by rw [beq_eq_false_iff_ne]; omega
  have f14 : ((c.st : Int) == 14) = false := by rw [beq_eq_false_iff_ne]; omega
  have f15 : ((c.st : Int) == 15) = true := by rw [beq_iff_eq]; omega
  clear e
  clear hi hl hG
  simp only [cxs]
  go_enter Tryd.func7, Tryd.ntmps7
  go_wp2_with (first | (go_at_call 9; (with_reducible refine (form_at c ?hv HI.out HL.out _).mono ?_); (case hv => rfl); rintro e w1 ⟨rfl, hb⟩; have hown : w1.heap[w.heap.size]? = some (.cells (cxs c) 33 (0, 0)) := (hb.block w.heap.size (by simp)).trans (alloc_at rfl); have HB1 := Aside0.mk (below_step ((Below.refl _ _).alloc (Nat.le_refl _) _) hb); have hl0 : w.heap.size < w1.heap.size := blk_lt hown; obtain ⟨y0, y1, y2, y3, y4, y5, y6, y7, y8, y9, yf⟩ := zero_of hown; clear hb hown))
  clear hu33
  go_ret2
  exact ⟨rfl, HB1.out⟩
set_option maxHeartbeats 4000000 in
set_option maxRecDepth 100000 in
theorem forS0 (c : Cx) (hi : Inv c) (hl : Low c.nm) (e : c.st = 0) (w : World) (hG : Glob w) : Calls Tryd.prog 7 #[.agg (cxs c)] w (RetT [] w) := by
  have hu33 := Tryd.underlying33
  have HI := Aside0.mk hi
  have HL := Aside0.mk hl
  have HG := Aside0.mk hG
  have H4 := Aside0.mk hi.el4
  have s1 : (bs (tcode c)).size ≤ 2 := by rw [bs_size]; exact tcode_len c
  have s2 : (bs (element c.el)).size ≤ 11 := by rw [bs_size]; exact element_len _
  have s3 : (bs (element (Trail.elemOf c.nm))).size ≤ 11 := by rw [bs_size]; exact element_len _
  have f20 : ((c.st : Int) == 20) = false := by rw [beq_eq_false_iff_ne]; omega
  have f1 : ((c.st : Int) == 1) = false := by rw [beq_eq_false_iff_ne]; omega
  have f3 : ((c.st : Int) == 3) = false := by rw [beq_eq_false_iff_ne]; omega
  have f2 : ((c.st : Int) == 2) = false := by rw [beq_eq_false_iff_ne]; omega
  have f11 : ((c.st : Int) == 11) = false := by rw [beq_eq_false_iff_ne]; omega
  have f12 : ((c.st : Int) == 12) = false := by rw [beq_eq_false_iff_ne]; omega
  have f16 : ((c.st : Int) == 16) = false := by rw [beq_eq_false_iff_ne]; omega
  have f13 : ((c.st : Int) == 13) = false := by rw [beq_eq_false_iff_ne]; omega
  have f14 : ((c.st : Int) == 14) = false := by rw [beq_eq_false_iff_ne]; omega
  have f15 : ((c.st : Int) == 15) = false := by rw [beq_eq_false_iff_ne]; omega
  have f4 : ((c.st : Int) == 4) = false := by rw [beq_eq_false_iff_ne]; omega
  have f5 : ((c.st : Int) == 5) = false := by rw [beq_eq_false_iff_ne]; omega
  have f6 : ((c.st : Int) == 6) = false := by rw [beq_eq_false_iff_ne]; omega
  have f9 : ((c.st : Int) == 9) = false := by rw [beq_eq_false_iff_ne]; omega
  have f10 : ((c.st : Int) == 10) = false := by rw [beq_eq_false_iff_ne]; omega
  have f7 : ((c.st : Int) == 7) = false := by rw [beq_eq_false_iff_ne]; omega
  have f8 : ((c.st : Int) == 8) = false := by rw [beq_eq_false_iff_ne]; omega
  have f17 : ((c.st : Int) == 17) = false := by rw [beq_eq_false_iff_ne]; omega
  have f18 : ((c.st : Int) == 18) = false := by rw [beq_eq_false_iff_ne]; omega
  have f19 : ((c.st : Int) == 19) = false := by rw [beq_eq_false_iff_ne]; omega
  clear e
  clear hi hl hG
  simp only [cxs]
  go_enter Tryd.func7, Tryd.ntmps7
  go_wp2_with (first | (go_at_call 9; (with_reducible refine (form_at c ?hv HI.out HL.out _).mono ?_); (case hv => rfl); rintro e w1 ⟨rfl, hb⟩; have hown : w1.heap[w.heap.size]? = some (.cells (cxs c) 33 (0, 0)) := (hb.block w.heap.size (by simp)).trans (alloc_at rfl); have HB1 := Aside0.mk (below_step ((Below.refl _ _).alloc (Nat.le_refl _) _) hb); have hl0 : w.heap.size < w1.heap.size := blk_lt hown; obtain ⟨y0, y1, y2, y3, y4, y5, y6, y7, y8, y9, yf⟩ := zero_of hown; clear hb hown))
  clear hu33
  go_ret2
  exact ⟨rfl, HB1.out⟩
set_option maxHeartbeats 4000000 in
set_option maxRecDepth 100000 in
theorem forS3 (c : Cx) (hi : Inv c) (hl : Low c.nm) (e : c.st = 3) (w : World) (hG : Glob w) : Calls Tryd.prog 7 #[.agg (cxs c)] w (RetT (if c.en = true then [62] else 62 :: element (Trail.elemOf c.nm)) w) := by
  have hu33 := Tryd.underlying33
  have HI := Aside0.mk hi
  have HL := Aside0.mk hl
  have HG := Aside0.mk hG
  have H4 := Aside0.mk hi.el4
  have s1 : (bs (tcode c)).size ≤ 2 := by rw [bs_size]; exact tcode_len c
  have s2 : (bs (element c.el)).size ≤ 11 := by rw [bs_size]; exact element_len _
  have s3 : (bs (element (Trail.elemOf c.nm))).size ≤ 11 := by rw [bs_size]; exact element_len _
  have f20 : ((c.st : Int) == 20) = false := by rw [beq_eq_false_iff_ne]; omega
  have f1 : ((c.st : Int) == 1) = false := by rw [beq_eq_false_iff_ne]; omega
  have f3 : ((c.st : Int) == 3) = true := by rw [beq_iff_eq]; omega
  clear e
  obtain ⟨R, hR⟩ : ∃ R, R = (if c.en = true then [62] else 62 :: element (Trail.elemOf c.nm)) := ⟨_, rfl⟩
  rw [← hR]
  have HR := Aside0.mk hR
  clear hR
  clear hi hl hG
  simp only [cxs]
  go_enter Tryd.func7, Tryd.ntmps7
  go_wp2_with (first | (go_at_call 9; (with_reducible refine (form_at c ?hv HI.out HL.out _).mono ?_); (case hv => rfl); rintro e w1 ⟨rfl, hb⟩; have hown : w1.heap[w.heap.size]? = some (.cells (cxs c) 33 (0, 0)) := (hb.block w.heap.size (by simp)).trans (alloc_at rfl); have HB1 := Aside0.mk (below_step ((Below.refl _ _).alloc (Nat.le_refl _) _) hb); have hl0 : w.heap.size < w1.heap.size := blk_lt hown; obtain ⟨y0, y1, y2, y3, y4, y5, y6, y7, y8, y9, yf⟩ := zero_of hown; clear hb hown) | (go_at_call 25; (with_reducible refine (elemOf_at c.nm ?hs HL.out.small _).mono ?_); (case hs => rfl); rintro e w2 ⟨rfl, rfl⟩) | (go_at_call 24; (with_reducible refine (element_at (Trail.elemOf c.nm) ?hn (elemOf_le _) _).mono ?_); (case hn => rfl); rintro e w2 ⟨rfl, rfl⟩))
  all_goals
    clear hu33
    go_ret2
    have hR := HR.out
    split at hR
    all_goals first
      | (exfalso; simp_all; done)
      | (subst hR; exact ⟨rfl, HB1.out⟩)
      | (subst hR; exact ⟨ret_two (bs_append [62] _), HB1.out⟩)
set_option maxHeartbeats 4000000 in
set_option maxRecDepth 100000 in
theorem forS4 (c : Cx) (hi : Inv c) (hl : Low c.nm) (e : c.st = 4) (w : World) (hG : Glob w) : Calls Tryd.prog 7 #[.agg (cxs c)] w (RetT (62 :: element c.el) w) := by
  have hu33 := Tryd.underlying33
  have HI := Aside0.mk hi
  have HL := Aside0.mk hl
  have HG := Aside0.mk hG
  have H4 := Aside0.mk hi.el4
  have s1 : (bs (tcode c)).size ≤ 2 := by rw [bs_size]; exact tcode_len c
  have s2 : (bs (element c.el)).size ≤ 11 := by rw [bs_size]; exact element_len _
  have s3 : (bs (element (Trail.elemOf c.nm))).size ≤ 11 := by rw [bs_size]; exact element_len _
  have f20 : ((c.st : Int) == 20) = false := by rw [beq_eq_false_iff_ne]; omega
  have f1 : ((c.st : Int) == 1) = false := by rw [beq_eq_false_iff_ne]; omega
  have f3 : ((c.st : Int) == 3) = false := by rw [beq_eq_false_iff_ne]; omega
  have f2 : ((c.st : Int) == 2) = false := by rw [beq_eq_false_iff_ne]; omega
  have f11 : ((c.st : Int) == 11) = false := by rw [beq_eq_false_iff_ne]; omega
  have f12 : ((c.st : Int) == 12) = false := by rw [beq_eq_false_iff_ne]; omega
  have f16 : ((c.st : Int) == 16) = false := by rw [beq_eq_false_iff_ne]; omega
  have f13 : ((c.st : Int) == 13) = false := by rw [beq_eq_false_iff_ne]; omega
  have f14 : ((c.st : Int) == 14) = false := by rw [beq_eq_false_iff_ne]; omega
  have f15 : ((c.st : Int) == 15) = false := by rw [beq_eq_false_iff_ne]; omega
  have f4 : ((c.st : Int) == 4) = true := by rw [beq_iff_eq]; omega
  clear e
  clear hi hl hG
  simp only [cxs]
  go_enter Tryd.func7, Tryd.ntmps7
  go_wp2_with (first | (go_at_call 9; (with_reducible refine (form_at c ?hv HI.out HL.out _).mono ?_); (case hv => rfl); rintro e w1 ⟨rfl, hb⟩; have hown : w1.heap[w.heap.size]? = some (.cells (cxs c) 33 (0, 0)) := (hb.block w.heap.size (by simp)).trans (alloc_at rfl); have HB1 := Aside0.mk (below_step ((Below.refl _ _).alloc (Nat.le_refl _) _) hb); have hl0 : w.heap.size < w1.heap.size := blk_lt hown; obtain ⟨y0, y1, y2, y3, y4, y5, y6, y7, y8, y9, yf⟩ := zero_of hown; clear hb hown) | (go_at_call 24; (with_reducible refine (element_at c.el ?hn H4.out _).mono ?_); (case hn => rfl); rintro e w2 ⟨rfl, rfl⟩))
  clear hu33
  go_ret2
  exact ⟨ret_two (bs_append [62] _), HB1.out⟩
set_option maxHeartbeats 4000000 in
set_option maxRecDepth 100000 in
theorem forS5 (c : Cx) (hi : Inv c) (hl : Low c.nm) (e : c.st = 5) (w : World) (hG : Glob w) : Calls Tryd.prog 7 #[.agg (cxs c)] w (RetT (62 :: element c.el) w) := by
  have hu33 := Tryd.underlying33
  have HI := Aside0.mk hi
  have HL := Aside0.mk hl
  have HG := Aside0.mk hG
  have H4 := Aside0.mk hi.el4
  have s1 : (bs (tcode c)).size ≤ 2 := by rw [bs_size]; exact tcode_len c
  have s2 : (bs (element c.el)).size ≤ 11 := by rw [bs_size]; exact element_len _
  have s3 : (bs (element (Trail.elemOf c.nm))).size ≤ 11 := by rw [bs_size]; exact element_len _
  have f20 : ((c.st : Int) == 20) = false := by rw [beq_eq_false_iff_ne]; omega
  have f1 : ((c.st : Int) == 1) = false := by rw [beq_eq_false_iff_ne]; omega
  have f3 : ((c.st : Int) == 3) = false := by rw [beq_eq_false_iff_ne]; omega
  have f2 : ((c.st : Int) == 2) = false := by rw [beq_eq_false_iff_ne]; omega
  have f11 : ((c.st : Int) == 11) = false := by rw [beq_eq_false_iff_ne]; omega
  have f12 : ((c.st : Int) == 12) = false := by rw [beq_eq_false_iff_ne]; omega
  have f16 : ((c.st : Int) == 16) = false := by rw [beq_eq_false_iff_ne]; omega
  have f13 : ((c.st : Int) == 13) = false := by rw [beq_eq_false_iff_ne]; omega
  have f14 : ((c.st : Int) == 14) = false := by rw [beq_eq_false_iff_ne]; omega
  have f15 : ((c.st : Int) == 15) = false := by rw [beq_eq_false_iff_ne]; omega
  have f4 : ((c.st : Int) == 4) = false := by rw [beq_eq_false_iff_ne]; omega
  have f5 : ((c.st : Int) == 5) = true := by rw [beq_iff_eq]; omega
  clear e
  clear hi hl hG
  simp only [cxs]
  go_enter Tryd.func7, Tryd.ntmps7
  go_wp2_with (first | (go_at_call 9; (with_reducible refine (form_at c ?hv HI.out HL.out _).mono ?_); (case hv => rfl); rintro e w1 ⟨rfl, hb⟩; have hown : w1.heap[w.heap.size]? = some (.cells (cxs c) 33 (0, 0)) := (hb.block w.heap.size (by simp)).trans (alloc_at rfl); have HB1 := Aside0.mk (below_step ((Below.refl _ _).alloc (Nat.le_refl _) _) hb); have hl0 : w.heap.size < w1.heap.size := blk_lt hown; obtain ⟨y0, y1, y2, y3, y4, y5, y6, y7, y8, y9, yf⟩ := zero_of hown; clear hb hown) | (go_at_call 24; (with_reducible refine (element_at c.el ?hn H4.out _).mono ?_); (case hn => rfl); rintro e w2 ⟨rfl, rfl⟩))
  clear hu33
  go_ret2
  exact ⟨ret_two (bs_append [62] _), HB1.out⟩
set_option maxHeartbeats 4000000 in
set_option maxRecDepth 100000 in
theorem forS6 (c : Cx) (hi : Inv c) (hl : Low c.nm) (e : c.st = 6) (w : World) (hG : Glob w) : Calls Tryd.prog 7 #[.agg (cxs c)] w (RetT (62 :: element c.el) w) := by
  have hu33 := Tryd.underlying33
  have HI := Aside0.mk hi
  have HL := Aside0.mk hl
  have HG := Aside0.mk hG
  have H4 := Aside0.mk hi.el4
  have s1 : (bs (tcode c)).size ≤ 2 := by rw [bs_size]; exact tcode_len c
  have s2 : (bs (element c.el)).size ≤ 11 := by rw [bs_size]; exact element_len _
  have s3 : (bs (element (Trail.elemOf c.nm))).size ≤ 11 := by rw [bs_size]; exact element_len _
  have f20 : ((c.st : Int) == 20) = false := by rw [beq_eq_false_iff_ne]; omega
  have f1 : ((c.st : Int) == 1) = false := by rw [beq_eq_false_iff_ne]; omega
  have f3 : ((c.st : Int) == 3) = false := by rw [beq_eq_false_iff_ne]; omega
  have f2 : ((c.st : Int) == 2) = false := by rw [beq_eq_false_iff_ne]; omega
  have f11 : ((c.st : Int) == 11) = false := by rw [beq_eq_false_iff_ne]; omega
  have f12 : ((c.st : Int) == 12) = false := by rw [beq_eq_false_iff_ne]; omega
  have f16 : ((c.st : Int) == 16) = false := by rw [beq_eq_false_iff_ne]; omega
  have f13 : ((c.st : Int) == 13) = false := by rw [beq_eq_false_iff_ne]; omega
  have f14 : ((c.st : Int) == 14) = false := by rw [beq_eq_false_iff_ne]; omega
  have f15 : ((c.st : Int) == 15) = false := by rw [beq_eq_false_iff_ne]; omega
  have f4 : ((c.st : Int) == 4) = false := by rw [beq_eq_false_iff_ne]; omega
  have f5 : ((c.st : Int) == 5) = false := by rw [beq_eq_false_iff_ne]; omega
  have f6 : ((c.st : Int) == 6) = true := by rw [beq_iff_eq]; omega
  clear e
  clear hi hl hG
  simp only [cxs]
  go_enter Tryd.func7, Tryd.ntmps7
  go_wp2_with (first | (go_at_call 9; (with_reducible refine (form_at c ?hv HI.out HL.out _).mono ?_); (case hv => rfl); rintro e w1 ⟨rfl, hb⟩; have hown : w1.heap[w.heap.size]? = some (.cells (cxs c) 33 (0, 0)) := (hb.block w.heap.size (by simp)).trans (alloc_at rfl); have HB1 := Aside0.mk (below_step ((Below.refl _ _).alloc (Nat.le_refl _) _) hb); have hl0 : w.heap.size < w1.heap.size := blk_lt hown; obtain ⟨y0, y1, y2, y3, y4, y5, y6, y7, y8, y9, yf⟩ := zero_of hown; clear hb hown) | (go_at_call 24; (with_reducible refine (element_at c.el ?hn H4.out _).mono ?_); (case hn => rfl); rintro e w2 ⟨rfl, rfl⟩))
  clear hu33
  go_ret2
  exact ⟨ret_two (bs_append [62] _), HB1.out⟩
set_option maxHeartbeats 4000000 in
set_option maxRecDepth 100000 in
theorem forS9 (c : Cx) (hi : Inv c) (hl : Low c.nm) (e : c.st = 9) (w : World) (hG : Glob w) : Calls Tryd.prog 7 #[.agg (cxs c)] w (RetT (62 :: element c.el) w) := by
  have hu33 := Tryd.underlying33
  have HI := Aside0.mk hi
  have HL := Aside0.mk hl
  have HG := Aside0.mk hG
  have H4 := Aside0.mk hi.el4
  have s1 : (bs (tcode c)).size ≤ 2 := by rw [bs_size]; exact tcode_len c
  have s2 : (bs (element c.el)).size ≤ 11 := by rw [bs_size]; exact element_len _
  have s3 : (bs (element (Trail.elemOf c.nm))).size ≤ 11 := by rw [bs_size]; exact element_len _
  have f20 : ((c.st : Int) == 20) = false := by rw [beq_eq_false_iff_ne]; omega
  have f1 : ((c.st : Int) == 1) = false := by rw [beq_eq_false_iff_ne]; omega
  have f3 : ((c.st : Int) == 3) = false := by rw [beq_eq_false_iff_ne]; omega
  have f2 : ((c.st : Int) == 2) = false := by rw [beq_eq_false_iff_ne]; omega
  have f11 : ((c.st : Int) == 11) = false := by rw [beq_eq_false_iff_ne]; omega
  have f12 : ((c.st : Int) == 12) = false := by rw [beq_eq_false_iff_ne]; omega
  have f16 : ((c.st : Int) == 16) = false := by rw [beq_eq_false_iff_ne]; omega
  have f13 : ((c.st : Int) == 13) = false := by rw [beq_eq_false_iff_ne]; omega
  have f14 : ((c.st : Int) == 14) = false := by rw [beq_eq_false_iff_ne]; omega
  have f15 : ((c.st : Int) == 15) = false := by rw [beq_eq_false_iff_ne]; omega
  have f4 : ((c.st : Int) == 4) = false := by rw [beq_eq_false_iff_ne]; omega
  have f5 : ((c.st : Int) == 5) = false := by rw [beq_eq_false_iff_ne]; omega
  have f6 : ((c.st : Int) == 6) = false := by rw [beq_eq_false_iff_ne]; omega
  have f9 : ((c.st : Int) == 9) = true := by rw [beq_iff_eq]; omega
  clear e
  clear hi hl hG
  simp only [cxs]
  go_enter Tryd.func7, Tryd.ntmps7
  go_wp2_with (first | (go_at_call 9; (with_reducible refine (form_at c ?hv HI.out HL.out _).mono ?_); (case hv => rfl); rintro e w1 ⟨rfl, hb⟩; have hown : w1.heap[w.heap.size]? = some (.cells (cxs c) 33 (0, 0)) := (hb.block w.heap.size (by simp)).trans (alloc_at rfl); have HB1 := Aside0.mk (below_step ((Below.refl _ _).alloc (Nat.le_refl _) _) hb); have hl0 : w.heap.size < w1.heap.size := blk_lt hown; obtain ⟨y0, y1, y2, y3, y4, y5, y6, y7, y8, y9, yf⟩ := zero_of hown; clear hb hown) | (go_at_call 24; (with_reducible refine (element_at c.el ?hn H4.out _).mono ?_); (case hn => rfl); rintro e w2 ⟨rfl, rfl⟩))
  clear hu33
  go_ret2
  exact ⟨ret_two (bs_append [62] _), HB1.out⟩
set_option maxHeartbeats 4000000 in
set_option maxRecDepth 100000 in
theorem forS10 (c : Cx) (hi : Inv c) (hl : Low c.nm) (e : c.st = 10) (w : World) (hG : Glob w) : Calls Tryd.prog 7 #[.agg (cxs c)] w (RetT (62 :: element c.el) w) := by
  have hu33 := Tryd.underlying33
  have HI := Aside0.mk hi
  have HL := Aside0.mk hl
  have HG := Aside0.mk hG
  have H4 := Aside0.mk hi.el4
  have s1 : (bs (tcode c)).size ≤ 2 := by rw [bs_size]; exact tcode_len c
  have s2 : (bs (element c.el)).size ≤ 11 := by rw [bs_size]; exact element_len _
  have s3 : (bs (element (Trail.elemOf c.nm))).size ≤ 11 := by rw [bs_size]; exact element_len _
  have f20 : ((c.st : Int) == 20) = false := by rw [beq_eq_false_iff_ne]; omega
  have f1 : ((c.st : Int) == 1) = false := by rw [beq_eq_false_iff_ne]; omega
  have f3 : ((c.st : Int) == 3) = false := by rw [beq_eq_false_iff_ne]; omega
  have f2 : ((c.st : Int) == 2) = false := by rw [beq_eq_false_iff_ne]; omega
  have f11 : ((c.st : Int) == 11) = false := by rw [beq_eq_false_iff_ne]; omega
  have f12 : ((c.st : Int) == 12) = false := by rw [beq_eq_false_iff_ne]; omega
  have f16 : ((c.st : Int) == 16) = false := by rw [beq_eq_false_iff_ne]; omega
  have f13 : ((c.st : Int) == 13) = false := by rw [beq_eq_false_iff_ne]; omega
  have f14 : ((c.st : Int) == 14) = false := by rw [beq_eq_false_iff_ne]; omega
  have f15 : ((c.st : Int) == 15) = false := by rw [beq_eq_false_iff_ne]; omega
  have f4 : ((c.st : Int) == 4) = false := by rw [beq_eq_false_iff_ne]; omega
  have f5 : ((c.st : Int) == 5) = false := by rw [beq_eq_false_iff_ne]; omega
  have f6 : ((c.st : Int) == 6) = false := by rw [beq_eq_false_iff_ne]; omega
  have f9 : ((c.st : Int) == 9) = false := by rw [beq_eq_false_iff_ne]; omega
  have f10 : ((c.st : Int) == 10) = true := by rw [beq_iff_eq]; omega
  clear e
  clear hi hl hG
  simp only [cxs]
  go_enter Tryd.func7, Tryd.ntmps7
  go_wp2_with (first | (go_at_call 9; (with_reducible refine (form_at c ?hv HI.out HL.out _).mono ?_); (case hv => rfl); rintro e w1 ⟨rfl, hb⟩; have hown : w1.heap[w.heap.size]? = some (.cells (cxs c) 33 (0, 0)) := (hb.block w.heap.size (by simp)).trans (alloc_at rfl); have HB1 := Aside0.mk (below_step ((Below.refl _ _).alloc (Nat.le_refl _) _) hb); have hl0 : w.heap.size < w1.heap.size := blk_lt hown; obtain ⟨y0, y1, y2, y3, y4, y5, y6, y7, y8, y9, yf⟩ := zero_of hown; clear hb hown) | (go_at_call 24; (with_reducible refine (element_at c.el ?hn H4.out _).mono ?_); (case hn => rfl); rintro e w2 ⟨rfl, rfl⟩))
  clear hu33
  go_ret2
  exact ⟨ret_two (bs_append [62] _), HB1.out⟩
set_option maxHeartbeats 4000000 in
set_option maxRecDepth 100000 in
theorem forS7 (c : Cx) (hi : Inv c) (hl : Low c.nm) (e : c.st = 7) (w : World) (hG : Glob w) : Calls Tryd.prog 7 #[.agg (cxs c)] w (RetT ([34, 34, 62] ++ element c.el) w) := by
  have hu33 := Tryd.underlying33
  have HI := Aside0.mk hi
  have HL := Aside0.mk hl
  have HG := Aside0.mk hG
  have H4 := Aside0.mk hi.el4
  have s1 : (bs (tcode c)).size ≤ 2 := by rw [bs_size]; exact tcode_len c
  have s2 : (bs (element c.el)).size ≤ 11 := by rw [bs_size]; exact element_len _
  have s3 : (bs (element (Trail.elemOf c.nm))).size ≤ 11 := by rw [bs_size]; exact element_len _
  have f20 : ((c.st : Int) == 20) = false := by rw [beq_eq_false_iff_ne]; omega
  have f1 : ((c.st : Int) == 1) = false := by rw [beq_eq_false_iff_ne]; omega
  have f3 : ((c.st : Int) == 3) = false := by rw [beq_eq_false_iff_ne]; omega
  have f2 : ((c.st : Int) == 2) = false := by rw [beq_eq_false_iff_ne]; omega
  have f11 : ((c.st : Int) == 11) = false := by rw [beq_eq_false_iff_ne]; omega
  have f12 : ((c.st : Int) == 12) = false := by rw [beq_eq_false_iff_ne]; omega
  have f16 : ((c.st : Int) == 16) = false := by rw [beq_eq_false_iff_ne]; omega
  have f13 : ((c.st : Int) == 13) = false := by rw [beq_eq_false_iff_ne]; omega
  have f14 : ((c.st : Int) == 14) = false := by rw [beq_eq_false_iff_ne]; omega
  have f15 : ((c.st : Int) == 15) = false := by rw [beq_eq_false_iff_ne]; omega
  have f4 : ((c.st : Int) == 4) = false := by rw [beq_eq_false_iff_ne]; omega
  have f5 : ((c.st : Int) == 5) = false := by rw [beq_eq_false_iff_ne]; omega
  have f6 : ((c.st : Int) == 6) = false := by rw [beq_eq_false_iff_ne]; omega
  have f9 : ((c.st : Int) == 9) = false := by rw [beq_eq_false_iff_ne]; omega
  have f10 : ((c.st : Int) == 10) = false := by rw [beq_eq_false_iff_ne]; omega
  have f7 : ((c.st : Int) == 7) = true := by rw [beq_iff_eq]; omega
  clear e
  clear hi hl hG
  simp only [cxs]
  go_enter Tryd.func7, Tryd.ntmps7
  go_wp2_with (first | (go_at_call 9; (with_reducible refine (form_at c ?hv HI.out HL.out _).mono ?_); (case hv => rfl); rintro e w1 ⟨rfl, hb⟩; have hown : w1.heap[w.heap.size]? = some (.cells (cxs c) 33 (0, 0)) := (hb.block w.heap.size (by simp)).trans (alloc_at rfl); have HB1 := Aside0.mk (below_step ((Below.refl _ _).alloc (Nat.le_refl _) _) hb); have hl0 : w.heap.size < w1.heap.size := blk_lt hown; obtain ⟨y0, y1, y2, y3, y4, y5, y6, y7, y8, y9, yf⟩ := zero_of hown; clear hb hown) | (go_at_call 24; (with_reducible refine (element_at c.el ?hn H4.out _).mono ?_); (case hn => rfl); rintro e w2 ⟨rfl, rfl⟩))
  clear hu33
  go_ret2
  exact ⟨ret_two (bs_append [34, 34, 62] _), HB1.out⟩
set_option maxHeartbeats 4000000 in
set_option maxRecDepth 100000 in
theorem forS17 (c : Cx) (hi : Inv c) (hl : Low c.nm) (e : c.st = 17) (w : World) (hG : Glob w) : Calls Tryd.prog 7 #[.agg (cxs c)] w (RetT (traw attrOf c) w) := by
  have hu33 := Tryd.underlying33
  have HI := Aside0.mk hi
  have HL := Aside0.mk hl
  have HG := Aside0.mk hG
  have H4 := Aside0.mk hi.el4
  have s1 : (bs (tcode c)).size ≤ 2 := by rw [bs_size]; exact tcode_len c
  have s2 : (bs (element c.el)).size ≤ 11 := by rw [bs_size]; exact element_len _
  have s3 : (bs (element (Trail.elemOf c.nm))).size ≤ 11 := by rw [bs_size]; exact element_len _
  have f20 : ((c.st : Int) == 20) = false := by rw [beq_eq_false_iff_ne]; omega
  have f1 : ((c.st : Int) == 1) = false := by rw [beq_eq_false_iff_ne]; omega
  have f3 : ((c.st : Int) == 3) = false := by rw [beq_eq_false_iff_ne]; omega
  have f2 : ((c.st : Int) == 2) = false := by rw [beq_eq_false_iff_ne]; omega
  have f11 : ((c.st : Int) == 11) = false := by rw [beq_eq_false_iff_ne]; omega
  have f12 : ((c.st : Int) == 12) = false := by rw [beq_eq_false_iff_ne]; omega
  have f16 : ((c.st : Int) == 16) = false := by rw [beq_eq_false_iff_ne]; omega
  have f13 : ((c.st : Int) == 13) = false := by rw [beq_eq_false_iff_ne]; omega
  have f14 : ((c.st : Int) == 14) = false := by rw [beq_eq_false_iff_ne]; omega
  have f15 : ((c.st : Int) == 15) = false := by rw [beq_eq_false_iff_ne]; omega
  have f4 : ((c.st : Int) == 4) = false := by rw [beq_eq_false_iff_ne]; omega
  have f5 : ((c.st : Int) == 5) = false := by rw [beq_eq_false_iff_ne]; omega
  have f6 : ((c.st : Int) == 6) = false := by rw [beq_eq_false_iff_ne]; omega
  have f9 : ((c.st : Int) == 9) = false := by rw [beq_eq_false_iff_ne]; omega
  have f10 : ((c.st : Int) == 10) = false := by rw [beq_eq_false_iff_ne]; omega
  have f7 : ((c.st : Int) == 7) = false := by rw [beq_eq_false_iff_ne]; omega
  have f8 : ((c.st : Int) == 8) = false := by rw [beq_eq_false_iff_ne]; omega
  have f17 : ((c.st : Int) == 17) = true := by rw [beq_iff_eq]; omega
  have E := Aside0.mk e
  clear e
  clear hi hl hG
  simp only [cxs]
  go_enter Tryd.func7, Tryd.ntmps7
  go_wp2_with (first | (go_at_call 9; (with_reducible refine (form_at c ?hv HI.out HL.out _).mono ?_); (case hv => rfl); rintro e w1 ⟨rfl, hb⟩; have hown : w1.heap[w.heap.size]? = some (.cells (cxs c) 33 (0, 0)) := (hb.block w.heap.size (by simp)).trans (alloc_at rfl); have HB1 := Aside0.mk (below_step ((Below.refl _ _).alloc (Nat.le_refl _) _) hb); have hl0 : w.heap.size < w1.heap.size := blk_lt hown; obtain ⟨y0, y1, y2, y3, y4, y5, y6, y7, y8, y9, yf⟩ := zero_of hown; clear hb hown) | (go_at_call 27; (with_reducible refine (traw_at c ?hv HI.out HL.out ?hs _ (glob_below HG.out HB1.out)).mono ?_); (case hv => rfl); (case hs => exact .inl E.out); rintro e w2 ⟨rfl, hb⟩; have HB2 := Aside0.mk (below_step HB1.out hb); clear hb))
  clear hu33
  go_ret2
  exact ⟨rfl, HB2.out⟩
set_option maxHeartbeats 4000000 in
set_option maxRecDepth 100000 in
theorem forS18 (c : Cx) (hi : Inv c) (hl : Low c.nm) (e : c.st = 18) (w : World) (hG : Glob w) : Calls Tryd.prog 7 #[.agg (cxs c)] w (RetT (traw attrOf c) w) := by
  have hu33 := Tryd.underlying33
  have HI := Aside0.mk hi
  have HL := Aside0.mk hl
  have HG := Aside0.mk hG
  have H4 := Aside0.mk hi.el4
  have s1 : (bs (tcode c)).size ≤ 2 := by rw [bs_size]; exact tcode_len c
  have s2 : (bs (element c.el)).size ≤ 11 := by rw [bs_size]; exact element_len _
  have s3 : (bs (element (Trail.elemOf c.nm))).size ≤ 11 := by rw [bs_size]; exact element_len _
  have f20 : ((c.st : Int) == 20) = false := by rw [beq_eq_false_iff_ne]; omega
  have f1 : ((c.st : Int) == 1) = false := by rw [beq_eq_false_iff_ne]; omega
  have f3 : ((c.st : Int) == 3) = false := by rw [beq_eq_false_iff_ne]; omega
  have f2 : ((c.st : Int) == 2) = false := by rw [beq_eq_false_iff_ne]; omega
  have f11 : ((c.st : Int) == 11) = false := by rw [beq_eq_false_iff_ne]; omega
  have f12 : ((c.st : Int) == 12) = false := by rw [beq_eq_false_iff_ne]; omega
  have f16 : ((c.st : Int) == 16) = false := by rw [beq_eq_false_iff_ne]; omega
  have f13 : ((c.st : Int) == 13) = false := by rw [beq_eq_false_iff_ne]; omega
  have f14 : ((c.st : Int) == 14) = false := by rw [beq_eq_false_iff_ne]; omega
  have f15 : ((c.st : Int) == 15) = false := by rw [beq_eq_false_iff_ne]; omega
  have f4 : ((c.st : Int) == 4) = false := by rw [beq_eq_false_iff_ne]; omega
  have f5 : ((c.st : Int) == 5) = false := by rw [beq_eq_false_iff_ne]; omega
  have f6 : ((c.st : Int) == 6) = false := by rw [beq_eq_false_iff_ne]; omega
  have f9 : ((c.st : Int) == 9) = false := by rw [beq_eq_false_iff_ne]; omega
  have f10 : ((c.st : Int) == 10) = false := by rw [beq_eq_false_iff_ne]; omega
  have f7 : ((c.st : Int) == 7) = false := by rw [beq_eq_false_iff_ne]; omega
  have f8 : ((c.st : Int) == 8) = false := by rw [beq_eq_false_iff_ne]; omega
  have f17 : ((c.st : Int) == 17) = false := by rw [beq_eq_false_iff_ne]; omega
  have f18 : ((c.st : Int) == 18) = true := by rw [beq_iff_eq]; omega
  have E := Aside0.mk e
  clear e
  clear hi hl hG
  simp only [cxs]
  go_enter Tryd.func7, Tryd.ntmps7
  go_wp2_with (first | (go_at_call 9; (with_reducible refine (form_at c ?hv HI.out HL.out _).mono ?_); (case hv => rfl); rintro e w1 ⟨rfl, hb⟩; have hown : w1.heap[w.heap.size]? = some (.cells (cxs c) 33 (0, 0)) := (hb.block w.heap.size (by simp)).trans (alloc_at rfl); have HB1 := Aside0.mk (below_step ((Below.refl _ _).alloc (Nat.le_refl _) _) hb); have hl0 : w.heap.size < w1.heap.size := blk_lt hown; obtain ⟨y0, y1, y2, y3, y4, y5, y6, y7, y8, y9, yf⟩ := zero_of hown; clear hb hown) | (go_at_call 27; (with_reducible refine (traw_at c ?hv HI.out HL.out ?hs _ (glob_below HG.out HB1.out)).mono ?_); (case hv => rfl); (case hs => exact .inr (.inl E.out)); rintro e w2 ⟨rfl, hb⟩; have HB2 := Aside0.mk (below_step HB1.out hb); clear hb))
  clear hu33
  go_ret2
  exact ⟨rfl, HB2.out⟩
set_option maxHeartbeats 4000000 in
set_option maxRecDepth 100000 in
theorem forS19 (c : Cx) (hi : Inv c) (hl : Low c.nm) (e : c.st = 19) (w : World) (hG : Glob w) : Calls Tryd.prog 7 #[.agg (cxs c)] w (RetT (traw attrOf c) w) := by
  have hu33 := Tryd.underlying33
  have HI := Aside0.mk hi
  have HL := Aside0.mk hl
  have HG := Aside0.mk hG
  have H4 := Aside0.mk hi.el4
  have s1 : (bs (tcode c)).size ≤ 2 := by rw [bs_size]; exact tcode_len c
  have s2 : (bs (element c.el)).size ≤ 11 := by rw [bs_size]; exact element_len _
  have s3 : (bs (element (Trail.elemOf c.nm))).size ≤ 11 := by rw [bs_size]; exact element_len _
  have f20 : ((c.st : Int) == 20) = false := by rw [beq_eq_false_iff_ne]; omega
  have f1 : ((c.st : Int) == 1) = false := by rw [beq_eq_false_iff_ne]; omega
  have f3 : ((c.st : Int) == 3) = false := by rw [beq_eq_false_iff_ne]; omega
  have f2 : ((c.st : Int) == 2) = false := by rw [beq_eq_false_iff_ne]; omega
  have f11 : ((c.st : Int) == 11) = false := by rw [beq_eq_false_iff_ne]; omega
  have f12 : ((c.st : Int) == 12) = false := by rw [beq_eq_false_iff_ne]; omega
  have f16 : ((c.st : Int) == 16) = false := by rw [beq_eq_false_iff_ne]; omega
  have f13 : ((c.st : Int) == 13) = false := by rw [beq_eq_false_iff_ne]; omega
  have f14 : ((c.st : Int) == 14) = false := by rw [beq_eq_false_iff_ne]; omega
  have f15 : ((c.st : Int) == 15) = false := by rw [beq_eq_false_iff_ne]; omega
  have f4 : ((c.st : Int) == 4) = false := by rw [beq_eq_false_iff_ne]; omega
  have f5 : ((c.st : Int) == 5) = false := by rw [beq_eq_false_iff_ne]; omega
  have f6 : ((c.st : Int) == 6) = false := by rw [beq_eq_false_iff_ne]; omega
  have f9 : ((c.st : Int) == 9) = false := by rw [beq_eq_false_iff_ne]; omega
  have f10 : ((c.st : Int) == 10) = false := by rw [beq_eq_false_iff_ne]; omega
  have f7 : ((c.st : Int) == 7) = false := by rw [beq_eq_false_iff_ne]; omega
  have f8 : ((c.st : Int) == 8) = false := by rw [beq_eq_false_iff_ne]; omega
  have f17 : ((c.st : Int) == 17) = false := by rw [beq_eq_false_iff_ne]; omega
  have f18 : ((c.st : Int) == 18) = false := by rw [beq_eq_false_iff_ne]; omega
  have f19 : ((c.st : Int) == 19) = true := by rw [beq_iff_eq]; omega
  have E := Aside0.mk e
  clear e
  clear hi hl hG
  simp only [cxs]
  go_enter Tryd.func7, Tryd.ntmps7
  go_wp2_with (first | (go_at_call 9; (with_reducible refine (form_at c ?hv HI.out HL.out _).mono ?_); (case hv => rfl); rintro e w1 ⟨rfl, hb⟩; have hown : w1.heap[w.heap.size]? = some (.cells (cxs c) 33 (0, 0)) := (hb.block w.heap.size (by simp)).trans (alloc_at rfl); have HB1 := Aside0.mk (below_step ((Below.refl _ _).alloc (Nat.le_refl _) _) hb); have hl0 : w.heap.size < w1.heap.size := blk_lt hown; obtain ⟨y0, y1, y2, y3, y4, y5, y6, y7, y8, y9, yf⟩ := zero_of hown; clear hb hown) | (go_at_call 27; (with_reducible refine (traw_at c ?hv HI.out HL.out ?hs _ (glob_below HG.out HB1.out)).mono ?_); (case hv => rfl); (case hs => exact .inr (.inr E.out)); rintro e w2 ⟨rfl, hb⟩; have HB2 := Aside0.mk (below_step HB1.out hb); clear hb))
  clear hu33
  go_ret2
  exact ⟨rfl, HB2.out⟩
end Go.Proofs.YtfplocpjdjjoaaaDoor.Ctxs
namespace Go.Proofs.YtfplocpjdjjoaaaDoor.Ctxs
open Go Go.RowKit Go.Proofs.YtfplocpjdjjoaaaDoor.Trail Go.Proofs.YtfplocpjdjjoaaaDoorW.PrintWords
set_option linter.unusedVariables false
set_option linter.unusedSimpArgs false
set_option maxHeartbeats 4000000 in
set_option maxRecDepth 100000 in
theorem forS80 (c : Cx) (hi : Inv c) (hl : Low c.nm) (e : c.st = 8) (e0 : c.qu = 0) (w : World) (hG : Glob w) : Calls Tryd.prog 7 #[.agg (cxs c)] w (RetT (tcode c ++ [] ++ 62 :: element c.el) w) := by
  have hu33 := Tryd.underlying33
  have HI := Aside0.mk hi
  have HL := Aside0.mk hl
  have HG := Aside0.mk hG
  have H4 := Aside0.mk hi.el4
  have s1 : (bs (tcode c)).size ≤ 2 := by rw [bs_size]; exact tcode_len c
  have s2 : (bs (element c.el)).size ≤ 11 := by rw [bs_size]; exact element_len _
  have s3 : (bs (element (Trail.elemOf c.nm))).size ≤ 11 := by rw [bs_size]; exact element_len _
  have f20 : ((c.st : Int) == 20) = false := by rw [beq_eq_false_iff_ne]; omega
  have f1 : ((c.st : Int) == 1) = false := by rw [beq_eq_false_iff_ne]; omega
  have f3 : ((c.st : Int) == 3) = false := by rw [beq_eq_false_iff_ne]; omega
  have f2 : ((c.st : Int) == 2) = false := by rw [beq_eq_false_iff_ne]; omega
  have f11 : ((c.st : Int) == 11) = false := by rw [beq_eq_false_iff_ne]; omega
  have f12 : ((c.st : Int) == 12) = false := by rw [beq_eq_false_iff_ne]; omega
  have f16 : ((c.st : Int) == 16) = false := by rw [beq_eq_false_iff_ne]; omega
  have f13 : ((c.st : Int) == 13) = false := by rw [beq_eq_false_iff_ne]; omega
  have f14 : ((c.st : Int) == 14) = false := by rw [beq_eq_false_iff_ne]; omega
  have f15 : ((c.st : Int) == 15) = false := by rw [beq_eq_false_iff_ne]; omega
  have f4 : ((c.st : Int) == 4) = false := by rw [beq_eq_false_iff_ne]; omega
  have f5 : ((c.st : Int) == 5) = false := by rw [beq_eq_false_iff_ne]; omega
  have f6 : ((c.st : Int) == 6) = false := by rw [beq_eq_false_iff_ne]; omega
  have f9 : ((c.st : Int) == 9) = false := by rw [beq_eq_false_iff_ne]; omega
  have f10 : ((c.st : Int) == 10) = false := by rw [beq_eq_false_iff_ne]; omega
  have f7 : ((c.st : Int) == 7) = false := by rw [beq_eq_false_iff_ne]; omega
  have f8 : ((c.st : Int) == 8) = true := by rw [beq_iff_eq]; omega
  have g0 : ((c.qu : Int) != 0) = false := by simp [e0]
  have u1 : ¬ 9223372036854775807 < (bs (tcode c)).size := by omega
  have u2 : ¬ 9223372036854775807 < (bs (tcode c)).size + 1 := by omega
  have u3 : ¬ 9223372036854775807 < (bs (tcode c)).size + 1 + (bs (element c.el)).size := by omega
  clear e e0 hi hl hG
  simp only [cxs]
  go_enter Tryd.func7, Tryd.ntmps7
  go_wp2_with (first | (go_at_call 9; (with_reducible refine (form_at c ?hv HI.out HL.out _).mono ?_); (case hv => rfl); rintro e w1 ⟨rfl, hb⟩; have hown : w1.heap[w.heap.size]? = some (.cells (cxs c) 33 (0, 0)) := (hb.block w.heap.size (by simp)).trans (alloc_at rfl); have HB1 := Aside0.mk (below_step ((Below.refl _ _).alloc (Nat.le_refl _) _) hb); have hl0 : w.heap.size < w1.heap.size := blk_lt hown; obtain ⟨y0, y1, y2, y3, y4, y5, y6, y7, y8, y9, yf⟩ := zero_of hown; have HOWN1 := Aside0.mk hown; clear hb hown))
  go_region_with (first | (go_at_call 26; (with_reducible refine (tcode_at c ?hv _).mono ?_); (case hv => rfl); rintro e w2 ⟨rfl, hb⟩; have HB2 := Aside0.mk (below_step (Below.drew HB1.out) hb); have HOWN2 := Aside0.mk ((hb.block w.heap.size hl0).trans HOWN1.out); obtain ⟨z0, z1, z2, z3, z4, z5, z6, z7, z8, z9, zf⟩ := zero_of HOWN2.out; clear hb) | (go_at_call 24; (with_reducible refine (element_at c.el ?hn H4.out _).mono ?_); (case hn => rfl); rintro e w3 ⟨rfl, rfl⟩))
  all_goals
    go_wp2
    clear hu33
    go_ret2
    exact ⟨ret_two (by rw [show (⟨#[]⟩ : ByteArray) = bs [] from rfl, show (⟨#[62]⟩ : ByteArray) = bs [62] from rfl, bs_append, bs_append, bs_append]; simp), HB2.out⟩
set_option maxHeartbeats 4000000 in
set_option maxRecDepth 100000 in
theorem forS81 (c : Cx) (hi : Inv c) (hl : Low c.nm) (e : c.st = 8) (e0 : c.qu ≠ 0) (w : World) (hG : Glob w) : Calls Tryd.prog 7 #[.agg (cxs c)] w (RetT (tcode c ++ [c.qu] ++ 62 :: element c.el) w) := by
  have hu33 := Tryd.underlying33
  have HI := Aside0.mk hi
  have HL := Aside0.mk hl
  have HG := Aside0.mk hG
  have H4 := Aside0.mk hi.el4
  have s1 : (bs (tcode c)).size ≤ 2 := by rw [bs_size]; exact tcode_len c
  have s2 : (bs (element c.el)).size ≤ 11 := by rw [bs_size]; exact element_len _
  have s3 : (bs (element (Trail.elemOf c.nm))).size ≤ 11 := by rw [bs_size]; exact element_len _
  have f20 : ((c.st : Int) == 20) = false := by rw [beq_eq_false_iff_ne]; omega
  have f1 : ((c.st : Int) == 1) = false := by rw [beq_eq_false_iff_ne]; omega
  have f3 : ((c.st : Int) == 3) = false := by rw [beq_eq_false_iff_ne]; omega
  have f2 : ((c.st : Int) == 2) = false := by rw [beq_eq_false_iff_ne]; omega
  have f11 : ((c.st : Int) == 11) = false := by rw [beq_eq_false_iff_ne]; omega
  have f12 : ((c.st : Int) == 12) = false := by rw [beq_eq_false_iff_ne]; omega
  have f16 : ((c.st : Int) == 16) = false := by rw [beq_eq_false_iff_ne]; omega
  have f13 : ((c.st : Int) == 13) = false := by rw [beq_eq_false_iff_ne]; omega
  have f14 : ((c.st : Int) == 14) = false := by rw [beq_eq_false_iff_ne]; omega
  have f15 : ((c.st : Int) == 15) = false := by rw [beq_eq_false_iff_ne]; omega
  have f4 : ((c.st : Int) == 4) = false := by rw [beq_eq_false_iff_ne]; omega
  have f5 : ((c.st : Int) == 5) = false := by rw [beq_eq_false_iff_ne]; omega
  have f6 : ((c.st : Int) == 6) = false := by rw [beq_eq_false_iff_ne]; omega
  have f9 : ((c.st : Int) == 9) = false := by rw [beq_eq_false_iff_ne]; omega
  have f10 : ((c.st : Int) == 10) = false := by rw [beq_eq_false_iff_ne]; omega
  have f7 : ((c.st : Int) == 7) = false := by rw [beq_eq_false_iff_ne]; omega
  have f8 : ((c.st : Int) == 8) = true := by rw [beq_iff_eq]; omega
  have g0 : ((c.qu : Int) != 0) = true := by simp [e0]
  have u0 : (bs [c.qu]).size = 1 := bs_size _
  have u1 : ¬ 9223372036854775807 < (bs (tcode c)).size + (bs [c.qu]).size := by omega
  have u2 : ¬ 9223372036854775807 < (bs (tcode c)).size + (bs [c.qu]).size + 1 := by omega
  have u3 : ¬ 9223372036854775807 < (bs (tcode c)).size + (bs [c.qu]).size + 1 + (bs (element c.el)).size := by omega
  have u4 : ¬ 9223372036854775807 < (bs (tcode c)).size + 1 := by omega
  have u5 : ¬ 9223372036854775807 < (bs (tcode c)).size + 1 + 1 := by omega
  have u6 : ¬ 9223372036854775807 < (bs (tcode c)).size + 1 + 1 + (bs (element c.el)).size := by omega
  clear e e0 hi hl hG
  simp only [cxs]
  go_enter Tryd.func7, Tryd.ntmps7
  go_wp2_with (first | (go_at_call 9; (with_reducible refine (form_at c ?hv HI.out HL.out _).mono ?_); (case hv => rfl); rintro e w1 ⟨rfl, hb⟩; have hown : w1.heap[w.heap.size]? = some (.cells (cxs c) 33 (0, 0)) := (hb.block w.heap.size (by simp)).trans (alloc_at rfl); have HB1 := Aside0.mk (below_step ((Below.refl _ _).alloc (Nat.le_refl _) _) hb); have hl0 : w.heap.size < w1.heap.size := blk_lt hown; obtain ⟨y0, y1, y2, y3, y4, y5, y6, y7, y8, y9, yf⟩ := zero_of hown; have HOWN1 := Aside0.mk hown; have hcv := one_conv (V := w1.alloc (.cells #[.int .u8 (c.qu : Int)] 5)) (g := w1.heap.size) (x := c.qu) (cell_last _ _ _ _ _ rfl); clear hb hown))
  go_region_with (first | (go_at_call 26; (with_reducible refine (tcode_at c ?hv _).mono ?_); (case hv => rfl); rintro e w2 ⟨rfl, hb⟩; have HB2 := Aside0.mk (below_step (Below.drew (below_alloc HB1.out (.cells #[.int .u8 (c.qu : Int)] 5))) hb); have HOWN2 := Aside0.mk ((hb.block w.heap.size (by show _ < (w1.alloc _).heap.size; rw [alloc_size]; omega)).trans ((alloc_old hl0).trans HOWN1.out)); obtain ⟨z0, z1, z2, z3, z4, z5, z6, z7, z8, z9, zf⟩ := zero_of HOWN2.out; clear hb) | (go_at_call 24; (with_reducible refine (element_at c.el ?hn H4.out _).mono ?_); (case hn => rfl); rintro e w3 ⟨rfl, rfl⟩))
  all_goals
    go_wp2
    clear hu33
    go_ret2
    exact ⟨ret_two (by rw [show (⟨#[62]⟩ : ByteArray) = bs [62] from rfl, bs_append, bs_append, bs_append]; simp), HB2.out⟩
/-- **trailer.For answers the trailer of a context, and no error.** -/
theorem for_calls (c : Cx) (hi : Inv c) (hl : Low c.nm) (w : World) (hG : Glob w) : Calls Tryd.prog 7 #[.agg (cxs c)] w (RetT (trailer attrOf c) w) := by
  have ht := hi.top
  have hs : c.st = 0 ∨ c.st = 1 ∨ c.st = 2 ∨ c.st = 3 ∨ c.st = 4 ∨ c.st = 5 ∨ c.st = 6 ∨ c.st = 7 ∨ c.st = 8 ∨ c.st = 9 ∨ c.st = 10 ∨ c.st = 11 ∨ c.st = 12 ∨ c.st = 13 ∨ c.st = 14 ∨ c.st = 15 ∨ c.st = 16 ∨ c.st = 17 ∨ c.st = 18 ∨ c.st = 19 := by omega
  have key : ∀ s, trailer attrOf c = s → Calls Tryd.prog 7 #[.agg (cxs c)] w (RetT s w) → Calls Tryd.prog 7 #[.agg (cxs c)] w (RetT (trailer attrOf c) w) := fun s e h => e ▸ h
  rcases hs with e | e | e | e | e | e | e | e | e | e | e | e | e | e | e | e | e | e | e | e
  · exact key _ (by simp [trailer, e]) (forS0 c hi hl e w hG)
  · exact key _ (by simp [trailer, e]) (forS1 c hi hl e w hG)
  · exact key _ (by simp [trailer, e]) (forS2 c hi hl e w hG)
  · exact key _ (by simp [trailer, e]) (forS3 c hi hl e w hG)
  · exact key _ (by simp [trailer, e]) (forS4 c hi hl e w hG)
  · exact key _ (by simp [trailer, e]) (forS5 c hi hl e w hG)
  · exact key _ (by simp [trailer, e]) (forS6 c hi hl e w hG)
  · exact key _ (by simp [trailer, e]) (forS7 c hi hl e w hG)
  · by_cases e0 : c.qu = 0
    · exact key _ (by simp [trailer, e, e0]) (forS80 c hi hl e e0 w hG)
    · exact key _ (by simp [trailer, e, e0]) (forS81 c hi hl e e0 w hG)
  · exact key _ (by simp [trailer, e]) (forS9 c hi hl e w hG)
  · exact key _ (by simp [trailer, e]) (forS10 c hi hl e w hG)
  · exact key _ (by simp [trailer, e]) (forS11 c hi hl e w hG)
  · exact key _ (by simp [trailer, e]) (forS12 c hi hl e w hG)
  · exact key _ (by simp [trailer, e]) (forS13 c hi hl e w hG)
  · exact key _ (by simp [trailer, e]) (forS14 c hi hl e w hG)
  · exact key _ (by simp [trailer, e]) (forS15 c hi hl e w hG)
  · exact key _ (by simp [trailer, e]) (forS16 c hi hl e w hG)
  · exact key _ (by simp [trailer, e]) (forS17 c hi hl e w hG)
  · exact key _ (by simp [trailer, e]) (forS18 c hi hl e w hG)
  · exact key _ (by simp [trailer, e]) (forS19 c hi hl e w hG)
end Go.Proofs.YtfplocpjdjjoaaaDoor.Ctxs
