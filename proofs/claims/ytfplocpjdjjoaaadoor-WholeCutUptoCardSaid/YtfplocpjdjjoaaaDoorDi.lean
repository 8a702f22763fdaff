/-
  The law WholeCut answers true.
  Conditions: as each theorem says.
-/
import Derived.Test.YtfplocpjdjjoaaaDoorDh
import Derived.BigQuiet
import Derived.Deep.QuietTactic
import Derived.Shelf.Abstract
namespace Go.Proofs.YtfplocpjdjjoaaaDoor.Cut
open Go Go.RowKit Go.Proofs.YtfplocpjdjjoaaaDoor.Trail Go.Proofs.YtfplocpjdjjoaaaDoor.Ctxs Go.Proofs.YtfplocpjdjjoaaaDoorW.PrintWords
attribute [local go_sem] Oper.semAt_some
set_option linter.unusedVariables false
set_option linter.unusedSimpArgs false
/-- The chunks that are handed in. -/
def Chunks (w : World) (A : Option Addr) (N : Nat) (ps : List (List Nat)) : Prop := N = ps.length ∧ ∀ (i : Nat) (p : List Nat), ps[i]? = some p → ∃ (ad : Addr) (x : Value), A = some ad ∧ w.cell? (ad.add i) = some x ∧ (ad.add i).block < w.heap.size ∧ Rdb w x p
theorem clean_one {c : List Nat} (h : Chr c) : cleanOf c = [c] := by
  cases h with
  | one a h =>
    have hf : first [a] = (1, true, false) := by rw [first_cons, if_pos h]
    unfold cleanOf
    rw [dec_step (by simp) (by rw [hf]), hf]
    rfl
  | two a b h1 h2 h3 h4 =>
    have ht : tailOf a = [(128, 191)] := by unfold tailOf; rw [if_pos (by omega)]
    have hf : first [a, b] = (2, true, false) := by
      rw [first_cons, if_neg (by omega), ht, if_neg (by simp)]
      simp only [fits]
      rw [if_neg (by omega)]
    unfold cleanOf
    rw [dec_step (by simp) (by rw [hf]), hf]
    rfl
  | three a b d h1 h2 h3 h4 h5 h6 h7 h8 =>
    have hf : first [a, b, d] = (3, true, false) := by
      have ht : tailOf a = [(if a = 224 then 160 else 128, if a = 237 then 159 else 191), (128, 191)] := by
        unfold tailOf
        repeat' split
        all_goals first | rfl | omega
      rw [first_cons, if_neg (by omega), ht, if_neg (by simp)]
      simp only [fits]
      rw [if_neg (by split <;> split <;> omega), if_neg (by omega)]
    unfold cleanOf
    rw [dec_step (by simp) (by rw [hf]), hf]
    rfl
  | four a b d e h1 h2 h3 h4 h5 h6 h7 h8 h9 h10 =>
    have hf : first [a, b, d, e] = (4, true, false) := by
      have ht : tailOf a = [(if a = 240 then 144 else 128, if a = 244 then 143 else 191), (128, 191), (128, 191)] := by
        unfold tailOf
        repeat' split
        all_goals first | rfl | omega
      rw [first_cons, if_neg (by omega), ht, if_neg (by simp)]
      simp only [fits]
      rw [if_neg (by split <;> split <;> omega), if_neg (by omega), if_neg (by omega)]
    unfold cleanOf
    rw [dec_step (by simp) (by rw [hf]), hf]
    rfl
theorem all_one {k : Nat} (h4 : k ≠ 4) {c : List Nat} (h : Chr c) : allOf k c = unitOf k c := by
  unfold allOf endK
  rw [if_neg h4, clean_one h]
  simp
theorem quote_all : allOf 3 [34] = [38, 35, 51, 52, 59] := by decide +kernel
theorem rdb_lit1 {W : World} {b : Nat} {fz : Nat × Nat} {g : Nat} (h : W.heap[g]? = some (.cells #[.int .u8 (b : Int)] 5 fz)) : Rdb W (.slice (some ⟨g, 0, none⟩) 1 1) [b] := by
  refine ⟨_, 1, rfl, Nat.le_refl _, Kd.C_of_reads (enc := Value.int .u8) (d := (0 : Int)) (h1 := fun _ => rfl) ⟨rfl, by simp, fun _ => ⟨_, rfl, fun j hj => ?_⟩⟩⟩
  have hj0 : j = 0 := by simp at hj; omega
  subst hj0
  rw [add_plain]
  simp [World.cell?, h, ints]
theorem all_at {x : Int} {v : Value} {k : Nat} (hx : x = (k : Int)) (h1 : 1 ≤ k) (h2 : k ≤ 10) (p : List Nat) (hs : Small p) (hlen : p.length ≤ 9000000) (w : World) (hT : Tabs w) (hv : Rdb w v p) :
    Calls Tryd.prog 13 #[.int .u8 x, v] w fun e W' => ∃ u, e = .returned (.tuple #[u, .int .i64 0]) ∧ Byr W' w.heap.size u (allOf k p) ∧ Below w.heap.size w W' := by
  subst hx
  exact all_calls h1 h2 p hs hlen w hT hv
theorem Esc.lower {W : World} {base b' E D k : Nat} {gb hb : Option Nat} {F : List (List Nat)} {cl : List Nat} (h : Esc W base E D gb hb k F cl) (hb' : b' ≤ base) : Esc W b' E D gb hb k F cl := by
  obtain ⟨gp, h1, h2⟩ := h.es
  exact ⟨⟨gp, h1, h2.lower hb'⟩, h.dc.lower hb', ⟨Nat.le_trans hb' h.lows.1, Nat.le_trans hb' h.lows.2⟩, h.chr, h.small, h.ap⟩
theorem rdb34 (w : World) (fz : Nat × Nat) : Rdb (w.alloc (.cells #[.int .u8 34] 5 fz)) (.slice (some ⟨w.heap.size, 0, none⟩) 1 1) [34] := rdb_lit1 (b := 34) (alloc_at rfl)
theorem small34 : Small [34] := small_one (by decide)
theorem conv_quote {W : World} {base : Nat} {v : Value} (h : Byr W base v [38, 35, 51, 52, 59]) : (convert 22 9 v).run Tryd.prog W = .ok (.string ⟨#[38, 35, 51, 52, 59]⟩) W := by
  obtain ⟨A, c, rfl⟩ := h.slice
  exact conv_row h.reads.2.2
theorem start_le (w : World) (o1 o2 : Obj) : w.heap.size ≤ ((w.alloc o1).alloc o2).heap.size := by rw [alloc_size, alloc_size]; omega
theorem start_at {k : Nat} (w w1 : World) (h : Below ((w.alloc (.cells #[.bool false] 4)).alloc (.cells #[.int .u8 (k : Int)] 47)).heap.size ((w.alloc (.cells #[.bool false] 4)).alloc (.cells #[.int .u8 (k : Int)] 47)) w1) :
    Below w.heap.size w w1 ∧ w1.heap[w.heap.size]? = some (.cells #[.bool false] 4 (0, 0)) ∧ w1.heap[w.heap.size + 1]? = some (.cells #[.int .u8 (k : Int)] 47 (0, 0)) := by
  have hb : Below w.heap.size w ((w.alloc (.cells #[.bool false] 4)).alloc (.cells #[.int .u8 (k : Int)] 47)) := ((Below.refl _ _).alloc (Nat.le_refl _) _).alloc (by rw [alloc_size]; omega) _
  refine ⟨below_step hb h, ?_, ?_⟩
  · rw [h.block _ (by rw [alloc_size, alloc_size]; omega), alloc_old (by rw [alloc_size]; omega)]
    exact alloc_at rfl
  · rw [h.block _ (by rw [alloc_size, alloc_size]; omega)]
    exact alloc_at (by rw [alloc_size])
/-- The same, told by the bytes that were fed. -/
def Lq (w W : World) (E D X B k : Nat) (gb hb : Option Nat) (ov uv : Value) (vs : List Value) (done : List Nat) : Prop := Lp w W E D X B k gb hb ov uv vs ((outK k (dec done).1).map (unitOf k)) done (dec done).1 (dec done).2
theorem lq_open {w W : World} {E D X B k : Nat} {gb hb : Option Nat} {ov uv : Value} {vs : List Value} {done : List Nat} (h : Lq w W E D X B k gb hb ov uv vs done) : Lp w W E D X B k gb hb ov uv vs ((outK k (dec done).1).map (unitOf k)) done (dec done).1 (dec done).2 := h
theorem unsv_open {W : World} {base : Nat} {v : Value} {vs : List Value} {us : List (List Nat)} (h : UnsV W base v vs us) : ∃ A N c, v = .slice A N c ∧ N = vs.length := by
  obtain ⟨A, c, e⟩ := h.slice
  exact ⟨A, _, c, e, rfl⟩
theorem below_of_alloc {W V : World} {o : Obj} (h : Below (W.alloc o).heap.size (W.alloc o) V) : Below W.heap.size W V := below_step ((Below.refl _ _).alloc (Nat.le_refl _) _) h
theorem start_lp {w w1 w2 : World} {E D k : Nat} {gb : Option Nat} (he : Esc w1 w.heap.size E D gb none k [] []) (hb : Below w.heap.size w w1) (h1 : w1.heap[w.heap.size]? = some (.cells #[.bool false] 4 (0, 0))) (h2 : w1.heap[w.heap.size + 1]? = some (.cells #[.int .u8 (k : Int)] 47 (0, 0))) (hb2 : Below w1.heap.size w1 w2) :
    Lq w (w2.alloc (.cells #[.slice none 0 0] 46)) E D w2.heap.size w.heap.size k gb none (.slice none 0 0) (.slice none 0 0) [] [] := by
  have hb3 : Below w1.heap.size w1 (w2.alloc (.cells #[.slice none 0 0] 46)) := hb2.alloc hb2.size _
  have hl : ∀ {q : Nat} {o : Obj}, w1.heap[q]? = some o → (w2.alloc (.cells #[.slice none 0 0] 46)).heap[q]? = some o := fun h => (hb3.block _ (Array.getElem?_eq_some_iff.1 h).1).trans h
  unfold Lq
  rw [dec_nil, outK_nil]
  exact ⟨he.below hb3, Byr.nil _ _, alloc_at rfl, ⟨Rw.nil _ _, rfl, fun i x u h => by simp at h, fun i x h => by simp at h⟩, hl h1, hl h2, below_step hb hb3, ⟨Nat.le_refl _, Nat.le_trans hb.size hb2.size⟩, fun q h => (by cases h), fun i x h => by simp at h, fun q h => by cases h⟩
theorem lq_next {w V : World} {E D X B k : Nat} {gb hb : Option Nat} {ov uv : Value} {vs : List Value} {T p : List Nat} (h : Lp w V E D X B k gb hb ov uv vs ((outK k (dec T).1).map (unitOf k) ++ (newK k (dec T).1 (dec ((dec T).2 ++ p)).1).map (unitOf k)) (T ++ p) ((dec T).1 ++ (dec ((dec T).2 ++ p)).1) (dec ((dec T).2 ++ p)).2) : Lq w V E D X B k gb hb ov uv vs (T ++ p) := by
  unfold Lq
  rw [dec_app _ T p (Nat.le_refl _)]
  rw [outK_app, List.map_append]
  exact h
theorem join_low {w W : World} {E D X B k m : Nat} {gb hb : Option Nat} {ov uv : Value} {vs : List Value} {us : List (List Nat)} {done : List Nat} {F : List (List Nat)} {cl : List Nat} (h : Lp w W E D X B k gb hb ov uv vs us done F cl) (hm : W.heap.size ≤ m) : E < m ∧ X < m ∧ B < m ∧ B + 1 < m := by
  have := h.lts
  have := h.esc.lt.1
  omega
theorem outK_len (k : Nat) (F : List (List Nat)) : (outK k F).flatten.length ≤ 8 + F.flatten.length := by
  unfold outK outG
  have hb : blocked.flatten.length = 8 := rfl
  repeat' split
  all_goals (try rw [hb])
  all_goals (try simp only [List.flatten_nil, List.length_nil])
  all_goals omega
theorem outK_chr {k : Nat} {F : List (List Nat)} (hF : ∀ c ∈ F, Chr c) : ∀ c ∈ outK k F, Chr c := by
  unfold outK outG
  repeat' split
  · intro c hc; cases hc
  · exact chr_blocked
  · exact hF
  · exact hF
theorem round_len (k : Nat) (T p : List Nat) (h : T.length + p.length ≤ 2000000) : (dec T).2.length + p.length ≤ 10000000 ∧ (dec T).1.flatten.length ≤ 40000000 ∧ ((outK k (dec T).1).length + (newK k (dec T).1 (dec ((dec T).2 ++ p)).1).length) * 24 ≤ 140737488355328 := by
  have h1 := dec_len _ T (Nat.le_refl _)
  have h2 := dec_len _ ((dec T).2 ++ p) (Nat.le_refl _)
  rw [List.length_append] at h2
  have hc1 := dec_chr _ T (Nat.le_refl _)
  have hc2 := dec_chr _ ((dec T).2 ++ p) (Nat.le_refl _)
  have h3 := len_flat (outK_chr (k := k) hc1)
  have h4 := len_flat (newK_chr (k := k) hc1 hc2)
  have h5 := outK_len k (dec T).1
  have h6 := newK_len k (dec T).1 (dec ((dec T).2 ++ p)).1
  omega
theorem end_units (k : Nat) (T : List Nat) : (outK k (dec T).1).map (unitOf k) ++ (restK k (dec T).1 (dec T).2).map (unitOf k) = (endK k (cleanOf T)).map (unitOf k) := by
  rw [← List.map_append, turns_all]
  rfl
theorem end_len (k : Nat) (T : List Nat) (h : T.length ≤ 2000000) : (dec T).1.flatten.length ≤ 40000000 ∧ ((outK k (dec T).1).length + (restK k (dec T).1 (dec T).2).length) * 24 ≤ 140737488355328 ∧ ((endK k (cleanOf T)).map (unitOf k)).length ≤ 40000000 ∧ ((endK k (cleanOf T)).map (unitOf k)).flatten.length ≤ 100000000000 := by
  have h1 := dec_len _ T (Nat.le_refl _)
  have hec := endK_chr (k := k) (clean_chr T)
  have h2 := endK_len k (cleanOf T)
  have h3 := clean_len T
  have h4 := len_flat hec
  have h5 := units_len (k := k) hec
  have h6 := congrArg List.length (turns_all k (dec T).1 (dec T).2)
  rw [List.length_append] at h6
  have h7 : endK k ((dec T).1 ++ fin (dec T).2) = endK k (cleanOf T) := rfl
  rw [h7] at h6
  rw [List.length_map]
  omega
theorem box_cell {W : World} {X t : Nat} {v : Value} (h : W.heap[X]? = some (.cells #[v] t (0, 0))) : W.cell? ⟨X, 0, none⟩ = some v := by simp [World.cell?, h]
theorem row_string {W : World} {base : Nat} {v : Value} {l : List Nat} {S : ByteArray} (hS : S = bs l) (h : Byr W base v l) : (convert 22 9 v).run Tryd.prog W = .ok (.string S) W := by
  obtain ⟨A, c, rfl⟩ := h.slice
  rw [hS]
  exact conv_row h.reads.2.2
theorem rdb_new {W : World} {base : Nat} {v : Value} {l : List Nat} (h : Byr W base v l) {o : Obj} : Rdb (W.alloc o) v l := h.rdb.below ((Below.refl _ _).alloc (Nat.le_refl _) _)
theorem new_at {W V : World} {o : Obj} (h : Below (W.alloc o).heap.size (W.alloc o) V) : V.heap[W.heap.size]? = some o := (h.block _ (by rw [alloc_size]; omega)).trans (alloc_at rfl)
theorem rdb_string {W : World} {v : Value} {l : List Nat} {S : ByteArray} (hS : S = bs l) (h : Rdb W v l) : (convert 22 9 v).run Tryd.prog W = .ok (.string S) W := by
  obtain ⟨A, c, rfl, -, h2⟩ := h
  rw [hS]
  exact conv_row h2
theorem unit_len0 {k N : Nat} {c : List Nat} (h : Chr c) (hN : N = (unitOf k c).length) : ((N : Int) == 0) = false := by
  rw [beq_eq_false_iff_ne]
  have := List.length_pos_iff.2 (unit_ne (kind := k) h)
  omega
theorem keeps3 {W w3 : World} (h : Below W.heap.size W w3) (m : Nat) (a : Addr) (v : Value) : KeepsOthers W ((w3.drewN m).setCell a v) :=
  (KeepsOthers.mk (W := W) (W' := w3.drewN m) h.size (fun k o hk _ => (h.block k (Array.getElem?_eq_some_iff.1 hk).1).trans hk)).trans (KeepsOthers.setCell _ _ _)
theorem below_three {Y : Nat} {w9 W w3 : World} (h : Below Y w9 W) (hY : Y ≤ W.heap.size) (h3 : Below W.heap.size W w3) (m : Nat) : Below Y w9 (w3.drewN m) :=
  h.trans ((h3.mono hY).trans ⟨rfl, rfl, rfl, Nat.le_refl _, fun _ _ => rfl⟩)
theorem us_small {T : List Nat} {US : List (List Nat)} {k n : Nat} {u : List Nat} (h : US = (cleanOf T).map (unitOf k)) (hu : US[n]? = some u) : Small u := by
  have := List.mem_of_getElem? hu
  rw [h] at this
  obtain ⟨c, hc, rfl⟩ := List.mem_map.1 this
  exact unit_small (clean_chr T c hc)
theorem bs_inj' {a b : List Nat} (ha : Small a) (hb : Small b) (h : bs a = bs b) : a = b := by
  have e : ∀ l : List Nat, Small l → (bs l).data.toList.map UInt8.toNat = l := by
    intro l hl
    simp only [bs, List.map_map]
    conv => rhs; rw [← List.map_id l]
    apply List.map_congr_left
    intro x hx
    have := hl x hx
    simp [Nat.toUInt8, Nat.mod_eq_of_lt (show x < 256 from this)]
  rw [← e a ha, ← e b hb, h]
theorem str_ne {S3 S2 : ByteArray} {a b : List Nat} (h3 : S3 = bs a) (h2 : S2 = bs b) (ha : Small a) (hb : Small b) (hne : a ≠ b) : (S3.toList == S2.toList) = false ∧ (S3.toList != S2.toList) = true ∧ (S3.data.toList == S2.data.toList) = false ∧ (S3.data.toList != S2.data.toList) = true := by
  have hinj : bs a ≠ bs b := fun e => hne (bs_inj' ha hb e)
  subst h3 h2
  have hd : (bs a).data.toList ≠ (bs b).data.toList := fun e => hinj (ByteArray.ext (Array.toList_inj.1 e))
  have ht : (bs a).toList ≠ (bs b).toList := by rw [Go.ByteArray.toList_eq, Go.ByteArray.toList_eq]; exact hd
  exact ⟨beq_eq_false_iff_ne.2 ht, bne_iff_ne.2 ht, beq_eq_false_iff_ne.2 hd, bne_iff_ne.2 hd⟩
theorem kind_mod (n : Nat) : ((n : Int)).tmod 10 = ((n % 10 : Nat) : Int) := by
  rw [Int.tmod_eq_emod_of_nonneg (by omega)]
  omega
set_option maxHeartbeats 8000000 in
set_option maxRecDepth 1000000 in
theorem cut_calls (kind : Nat) (hk : kind < 256) (ps : List (List Nat)) (hps : ∀ p ∈ ps, Small p) (hb : ps.flatten.length ≤ 2000000) (hn : ps.length ≤ 2000000) (w : World) (hT : Tabs w) (A : Option Addr) (N c : Nat) (hC : Chunks w A N ps) :
    Calls Tryd.prog 4 #[.int .u8 (kind : Int), .slice A N c] w fun e W' => e = .returned (.bool true) ∧ Below w.heap.size w W' := by
  obtain ⟨m, hm⟩ : ∃ m, m = kind % 10 := ⟨_, rfl⟩
  obtain ⟨k, hkm⟩ : ∃ k, k = m + 1 := ⟨_, rfl⟩
  have hk1 : 1 ≤ k := by omega
  have hk10 : k ≤ 10 := by omega
  have t1 : ((kind : Int)).tmod 10 = (m : Int) := by rw [kind_mod, hm]
  have t2 : (kind : Int) % 10 = (m : Int) := by omega
  have t3 : ((1 : Int) + (m : Int)) = (k : Int) := by omega
  have HK := Aside0.mk (And.intro hk1 hk10)
  have HP := Aside0.mk (And.intro hps (And.intro hb hn))
  have HT := Aside0.mk hT
  have HC := Aside0.mk hC
  clear hk hps hb hn hT hC hm hkm hk1 hk10
  refine (callsIn_wide (n := 6)).1 ?_
  refine callsIn_of_wp_marks Tryd.func4 rfl trivial ?_ rfl
  simp only [Tryd.ntmps4, List.size_toArray, List.length_cons, List.length_nil, Nat.reduceAdd, Nat.reduceSub, Array.replicate_succ, Array.replicate_zero, List.push_toArray, List.append_toArray, List.nil_append, List.cons_append]
  refine wpIn_wide.2 ?_
  go_wp2_with (first
    | (go_at_call 12; (with_reducible refine (new_esc HK.out.1 HK.out.2 _).mono ?_); rintro e w1 ⟨E, D, gb, rfl, he1, hb1⟩; have HL1 := Aside0.mk (start_at (k := k) w w1 hb1); have HE1 := Aside0.mk (he1.lower (start_le w _ _)); have kc := Joins.run_convert_bytes_const_at (P := Tryd.prog) w1 22 5 #[.int .u8 34] 1 1 w1.heap.size rfl Tryd.underlying22 Tryd.underlying5; clear he1 hb1)
    | (go_at_call 13; (with_reducible refine (all_at (k := 3) ?hx (by decide) (by decide) [34] small34 (by decide) _ (HT.out.below (HL1.out.1.alloc HL1.out.1.size _)) (rdb34 w1 (1, 2))).mono ?_); (case hx => rfl); rintro e w2 ⟨u, rfl, hu, hb2⟩; rw [quote_all] at hu; have hcv := conv_quote hu; obtain ⟨Au, Nu, cu, rfl, hNu⟩ := byr_open hu; have HB2 := Aside0.mk hb2; clear hu hb2 hNu))
  obtain ⟨B, hBe⟩ : ∃ B, B = w.heap.size := ⟨_, rfl⟩
  obtain ⟨X, hXe⟩ : ∃ X, X = w2.heap.size := ⟨_, rfl⟩
  have hlp := start_lp HE1.out HL1.out.1 HL1.out.2.1 HL1.out.2.2 (below_of_alloc HB2.out)
  rw [← hBe, ← hXe] at hlp
  rw [← hBe, ← hXe]
  have HST := Aside0.mk hlp
  have HBE := Aside0.mk hBe
  clear kc hcv hlp hBe hXe HE1 HL1 HB2
  go_loopw [10, 13] (fun ov iv wr => ∃ (i : Nat) (hb : Option Nat) (uv : Value) (vs : List Value), iv = .int .i64 (i : Int) ∧ i ≤ N ∧ Lq w wr E D X B k gb hb ov uv vs (ps.take i).flatten) (fun _ iv _ => N - (intOf iv).toNat)
  case atStart => exact ⟨0, none, _, [], rfl, Nat.zero_le _, HST.out⟩
  case round =>
    obtain ⟨i, hb, uv, vs, rfl, hi, hlq⟩ := hrel
    by_cases hiN : i < N
    · have hil : i < ps.length := by have := HC.out.1; omega
      obtain ⟨p, hp⟩ : ∃ p, ps[i]? = some p := ⟨_, List.getElem?_eq_getElem hil⟩
      obtain ⟨ad, x, rfl, hcell0, hal0, hrx⟩ := HC.out.2 i p hp
      have hpsm := HP.out.1 p (List.mem_of_getElem? hp)
      have hfl := flat_len ps i p hp
      obtain ⟨T, hTd⟩ : ∃ T, T = (ps.take i).flatten := ⟨_, rfl⟩
      have htk := flat_take ps i p hp
      rw [← hTd] at hlq hfl htk
      have hTl : T.length + p.length ≤ 2000000 := by have := HP.out.2.1; omega
      obtain ⟨hz1, hz2, hz3⟩ := round_len k T p hTl
      have hlp := lq_open hlq
      obtain ⟨Au, cu, rfl⟩ := hlp.uns.slice
      obtain ⟨Nu, hNu⟩ : ∃ Nu, Nu = vs.length := ⟨_, rfl⟩
      rw [← hNu] at hlp
      obtain ⟨Ao, No, co, rfl, hNo⟩ := byr_open hlp.all
      obtain ⟨Ap, Np, cp, rfl, hNp⟩ := rdb_open hrx
      have hcell := (hlp.bel.cell hal0).trans hcell0
      have hal := Nat.lt_of_lt_of_le hal0 hlp.bel.size
      have b1 : (0 : Int) ≤ (i : Int) ∧ (i : Int) < (N : Int) := by omega
      have d1 : decide ((i : Int) < (N : Int)) = true := decide_eq_true (by omega)
      have HLP := Aside0.mk hlp
      have HC0 := Aside0.mk (And.intro hcell0 hal0)
      have HRX := Aside0.mk hrx
      have HPS := Aside0.mk hpsm
      have HZ := Aside0.mk (And.intro hz1 (And.intro hz2 hz3))
      have HTL := Aside0.mk (And.intro hTl (And.intro hTd htk))
      have HNN := Aside0.mk (And.intro hNu (And.intro hNo hNp))
      have HIN := Aside0.mk hiN
      have D6 := Aside0.mk (show wrap64 ((i : Int) + 1) = ((i + 1 : Nat) : Int) by unfold wrap64; have := HC.out.1; have := HP.out.2.2; omega)
      clear hlq hlp hpsm hfl hTd htk hTl hz1 hz2 hz3 hNu hNo hNp hcell0 hal0 hrx hil hp hi hiN
      go_wp2_with (first
        | ((with_reducible refine gate_builtin (b := .append) (xs := #[.tmp 59, .tmp 63]) rfl ?_); at_builtin; refine Kd.R_append_rows (Kd.int .u8) (w0 := w) (W := wr) w.heap.size rfl (.tmp 59) (.tmp 63) 22 5 (.int .u8 0) 1 rfl Tryd.underlying22 info5 rfl (by decide) (by decide) (.slice Ao No co) (ints T) (ints p) Ap Np cp (fun _ => True) (fun _ => False) rfl rfl ?aN ?aR (fun _ _ h => h) (fun _ h => h.elim) (fun _ _ => trivial) ?aB ?aS ?aL ?_; (case aN => exact HLP.out.all); (case aR => exact (HRX.out.below HLP.out.bel).at_.2.2); (case aB => exact HLP.out.bel); (case aS => exact HLP.out.bel.size); (case aL => have := HTL.out.1; have := HNN.out.2.2; rw [List.length_map]; omega); intro v5 w5 hn5 hb5 hg5 hat5; have hn5' : Byr w5 w.heap.size v5 (T ++ p) := (by unfold Byr; rw [ints, List.map_append]; exact hn5); have hl5 := HLP.out.grow hn5' hb5 hg5 hat5; obtain ⟨A5, N5, c5, rfl, hN5⟩ := byr_open hn5'; have HL5 := Aside0.mk hl5; have q5 : w5.cell? (ad.add i) = some (.slice Ap Np cp) := (hb5.cell HC0.out.2).trans HC0.out.1; have l5 : (ad.add i).block < w5.heap.size := Nat.lt_of_lt_of_le HC0.out.2 hb5.size; clear hn5 hb5 hg5 hat5 hn5' hl5 hN5)
        | (go_at_call 14; (with_reducible refine (feed_esc w w5 _ (Below.refl _ _) HT.out HK.out.1 HK.out.2 p HL5.out.esc HL5.out.bel (HRX.out.below HL5.out.bel) HPS.out HZ.out.1 HZ.out.2.1).mono ?_); rintro e w6 ⟨u6, hb6, m6, rfl, hu6, hm6, hch6, hcv6, he6, hk6, hn6, hbl6⟩; have hl6 := HL5.out.feed he6 hk6 hn6 hbl6 hcv6; obtain ⟨A6, N6, c6, vs6, rfl, hv6, hN6, hM6⟩ := uns_vs hu6; have HL6 := Aside0.mk hl6; have HV6 := Aside0.mk hv6; have HM6 := Aside0.mk (And.intro hm6 (And.intro hch6 hcv6)); have HN6 := Aside0.mk (And.intro hN6 hM6); have x6 : w6.cell? ⟨X, 0, none⟩ = some (.slice Au Nu cu) := (by simp [World.cell?, hl6.box]); have y6 : X < w6.heap.size := hl6.lts.1; clear hu6 hm6 hch6 hcv6 he6 hk6 hn6 hbl6 hl6 hv6 hN6 hM6)
        | ((with_reducible refine gate_builtin (b := .append) (xs := #[.tmp 71, .tmp 72]) rfl ?_); at_builtin; refine Kd.R_append_rows (Kd.raw 1) (w0 := w) (W := w6) w.heap.size rfl (.tmp 71) (.tmp 72) 46 22 (.slice none 0 0) 24 rfl Tryd.underlying46 info22 rfl (by decide) (by decide) (.slice Au Nu cu) (vs.map fun x => [x]) (vs6.map fun x => [x]) A6 N6 c6 (fun _ => True) (fun _ => False) rfl rfl ?aN ?aR (fun _ _ h => h) (fun _ h => h.elim) (fun _ _ => trivial) ?aB ?aS ?aL ?_; (case aN => exact HL6.out.uns.rw); (case aR => exact HV6.out.rw.reads.2.2); (case aB => exact HL6.out.bel); (case aS => exact HL6.out.bel.size); (case aL => have h8 := HLP.out.uns.len; have h9 := HN6.out.1; rw [List.length_map] at h8 h9; have := HZ.out.2.2; rw [List.length_map]; omega); intro v7 w7 hn7 hb7 hg7 hat7; obtain ⟨hx7, hl7⟩ := HL6.out.join HV6.out (Nat.le_trans HL5.out.bel.size HM6.out.1) HM6.out.2.1 (fun cv f e q hq => (HM6.out.2.2 cv f e q hq).2) (join_low HL5.out HM6.out.1) (fun q e => Nat.lt_of_lt_of_le (HL5.out.all.lt q e.symm) HM6.out.1) (fun q e => Nat.lt_of_lt_of_le (HL5.out.uns.rw.lt q e.symm) HM6.out.1) hn7 hg7 hat7 hb7; obtain ⟨A7, N7, c7, rfl, hN7⟩ := unsv_open hl7.uns; have HL7 := Aside0.mk hl7; have f7 : w7.frozen? ⟨X, 0, none⟩ = false := Joins.unfrozen_of_block hx7 0; have y7 : X < w7.heap.size := (Array.getElem?_eq_some_iff.1 hx7).1; have x7 : w7.cell? ⟨X, 0, none⟩ = some (.slice Au Nu cu) := (by simp [World.cell?, hx7]); clear hn7 hb7 hg7 hat7 hx7 hl7 hN7))
      go_roundw
      case rel =>
        refine ⟨i + 1, hb6, .slice A7 N7 c7, vs ++ vs6, congrArg (Value.int .i64) D6.out, HIN.out, ?_⟩
        rw [HTL.out.2.2]
        exact lq_next HL7.out
      case measure => exact less2 (Nat.lt_succ_self i) HIN.out D6.out
    · have hiE : i = N := by omega
      subst hiE
      have d1 : decide ((i : Int) < (i : Int)) = false := decide_eq_false (by omega)
      have htk : (ps.take i).flatten = ps.flatten := by rw [HC.out.1, List.take_length]
      obtain ⟨T, hTd⟩ : ∃ T, T = ps.flatten := ⟨_, rfl⟩
      rw [htk, ← hTd] at hlq
      have hTl : T.length ≤ 2000000 := by rw [hTd]; exact HP.out.2.1
      have hTs : Small T := by
        rw [hTd]
        intro y hy
        obtain ⟨p, hp, hy⟩ := List.mem_flatten.1 hy
        exact HP.out.1 p hp y hy
      obtain ⟨hz1, hz2⟩ := end_len k T hTl
      have hlp := lq_open hlq
      have hen := end_units k T
      obtain ⟨US, hUS⟩ : ∃ US, US = (endK k (cleanOf T)).map (unitOf k) := ⟨_, rfl⟩
      rw [← hUS] at hen
      obtain ⟨Au, Nu, cu, rfl, hNu⟩ := unsv_open hlp.uns
      obtain ⟨Ao, No, co, rfl, hNo⟩ := byr_open hlp.all
      have HLP := Aside0.mk hlp
      have HTT := Aside0.mk (And.intro hTl (And.intro hTs hTd))
      have HZ := Aside0.mk (And.intro hz1 hz2)
      have HEN := Aside0.mk (And.intro hen hUS)
      have HNN := Aside0.mk (And.intro hNu hNo)
      clear hlq hlp hTl hTs hTd hz1 hz2 hen hUS hNu hNo hi hiN htk
      go_wp2_with (first
        | (go_at_call 15; (with_reducible refine (finish_esc w wr _ (Below.refl _ _) HT.out HK.out.1 HK.out.2 HLP.out.esc HLP.out.bel HZ.out.1).mono ?_); rintro e w6 ⟨u6, rfl, hu6, he6, hk6, hbl6⟩; obtain ⟨A6, N6, c6, vs6, rfl, hv6, hN6, hM6⟩ := uns_vs hu6; obtain ⟨hu6', hx6'⟩ := HLP.out.kept6 hk6; have HU6 := Aside0.mk hu6'; have HV6 := Aside0.mk hv6; have HE6 := Aside0.mk (And.intro he6 (And.intro hk6 hbl6)); have HN6 := Aside0.mk (And.intro hN6 hM6); have x6 : w6.cell? ⟨X, 0, none⟩ = some (.slice Au Nu cu) := (by simp [World.cell?, hx6']); have y6 : X < w6.heap.size := (Array.getElem?_eq_some_iff.1 hx6').1; clear hu6 he6 hk6 hbl6 hv6 hN6 hM6 hu6' hx6')
        | ((with_reducible refine gate_builtin (b := .append) (xs := #[.tmp 76, .tmp 77]) rfl ?_); at_builtin; refine Kd.R_append_rows (Kd.raw 1) (w0 := w) (W := w6) w.heap.size rfl (.tmp 76) (.tmp 77) 46 22 (.slice none 0 0) 24 rfl Tryd.underlying46 info22 rfl (by decide) (by decide) (.slice Au Nu cu) (vs.map fun x => [x]) (vs6.map fun x => [x]) A6 N6 c6 (fun _ => True) (fun _ => False) rfl rfl ?aN ?aR (fun _ _ h => h) (fun _ h => h.elim) (fun _ _ => trivial) ?aB ?aS ?aL ?_; (case aN => exact HU6.out.rw); (case aR => exact HV6.out.rw.reads.2.2); (case aB => exact HE6.out.2.2); (case aS => exact HE6.out.2.2.size); (case aL => have h8 := HLP.out.uns.len; have h9 := HN6.out.1; rw [List.length_map] at h8 h9; have := HZ.out.2.1; rw [List.length_map]; omega); intro v7 w7 hn7 hb7 hg7 hat7; obtain ⟨hx7, hf7⟩ := HLP.out.finish HE6.out.1 HE6.out.2.1 HV6.out hn7 hg7 hat7 hb7; rw [HEN.out.1] at hf7; obtain ⟨A7, N7, c7, rfl, hN7⟩ := unsv_open hf7.uns; have HF7 := Aside0.mk (And.intro hf7 hN7); have f7 : w7.frozen? ⟨X, 0, none⟩ = false := Joins.unfrozen_of_block hx7 0; have y7 : X < w7.heap.size := (Array.getElem?_eq_some_iff.1 hx7).1; have x7 : w7.cell? ⟨X, 0, none⟩ = some (.slice Au Nu cu) := (by simp [World.cell?, hx7]); clear hn7 hb7 hg7 hat7 hx7 hf7 hN7))
      obtain ⟨V, hV⟩ : ∃ V, V = w7.setCell ⟨X, 0, none⟩ (.slice A7 N7 c7) := ⟨_, rfl⟩
      have hfn := HF7.out.1
      rw [← hV] at hfn ⊢
      have hN7 : N7 = US.length := HF7.out.2.trans hfn.uns.len
      have HFN := Aside0.mk hfn
      have HN7 := Aside0.mk hN7
      clear f7 y7 x7 x6 y6 hV HF7 hfn hN7 HU6 HV6 HE6 HN6 HLP d1
      go_loopw [11, 16] (fun ov iv wr => ∃ (j : Nat) (dn : List Nat), iv = .int .i64 (j : Int) ∧ j ≤ N7 ∧ Byr wr V.heap.size ov dn ∧ dn = (US.take j).flatten ∧ Below V.heap.size V wr) (fun _ iv _ => N7 - (intOf iv).toNat)
      case atStart => exact ⟨0, [], rfl, Nat.zero_le _, Byr.nil _ _, by simp, Below.refl _ _⟩
      case round =>
        obtain ⟨j, dn, rfl, hj, hov, hdn, hbw⟩ := hrel
        obtain ⟨Ad, Nd, cd, rfl, hNd⟩ := byr_open hov
        have hfw := HFN.out.below hbw
        have hbx := hfw.box
        have xX := box_cell hbx
        have yX := (Array.getElem?_eq_some_iff.1 hfw.box).1
        have HOV := Aside0.mk hov
        have HD := Aside0.mk hdn
        have HBW := Aside0.mk hbw
        have HFW := Aside0.mk hfw
        clear hov hdn hbw hfw hbx
        by_cases hjN : j < N7
        · have d1 : decide ((j : Int) < (N7 : Int)) = true := decide_eq_true (by omega)
          obtain ⟨u, hu⟩ : ∃ u, US[j]? = some u := ⟨_, List.getElem?_eq_getElem (by have := HN7.out; omega)⟩
          obtain ⟨x, hx⟩ : ∃ x, (vs ++ vs6)[j]? = some x := ⟨_, List.getElem?_eq_getElem (by have := HFW.out.uns.len; have := HN7.out; omega)⟩
          obtain ⟨ad, ea, hcell, hal⟩ := uns_cell HFW.out.uns j x hx
          subst ea
          have hrx := HFW.out.uns.reads j x u hx hu
          obtain ⟨Ax, Nx, cx, rfl, hNx⟩ := rdb_open hrx
          have b1 : (0 : Int) ≤ (j : Int) ∧ (j : Int) < (N7 : Int) := by omega
          have HUX := Aside0.mk hu
          have HRX := Aside0.mk hrx
          have HLN := Aside0.mk (show (dn.length + Nx) * 1 ≤ 140737488355328 by have := flat_len US j u hu; have := HZ.out.2.2.2; rw [← HEN.out.2] at this; rw [HD.out]; omega)
          have HK2 := Aside0.mk hjN
          have HNX := Aside0.mk (And.intro hNx hNd)
          have D6 := Aside0.mk (show wrap64 ((j : Int) + 1) = ((j + 1 : Nat) : Int) by unfold wrap64; have := HN7.out; have := HZ.out.2.2.1; rw [← HEN.out.2] at this; omega)
          clear hu hx hrx hjN hj hNd hNx
          go_wp2_with ((with_reducible refine gate_builtin (b := .append) (xs := #[.tmp 85, .tmp 89]) rfl ?_); at_builtin; refine Kd.R_append_rows (Kd.int .u8) (w0 := V) (W := wr) V.heap.size rfl (.tmp 85) (.tmp 89) 22 5 (.int .u8 0) 1 rfl Tryd.underlying22 info5 rfl (by decide) (by decide) (.slice Ad Nd cd) (ints dn) (ints u) Ax Nx cx (fun _ => True) (fun _ => False) rfl rfl ?aN ?aR (fun _ _ h => h) (fun _ h => h.elim) (fun _ _ => trivial) ?aB ?aS ?aL ?_; (case aN => exact HOV.out); (case aR => exact HRX.out.at_.2.2); (case aB => exact HBW.out); (case aS => exact HBW.out.size); (case aL => have := HLN.out; rw [List.length_map]; exact this); intro v8 w8 hn8 hb8 hg8 hat8; have hn8' : Byr w8 V.heap.size v8 (dn ++ u) := (by unfold Byr; rw [ints, List.map_append]; exact hn8); obtain ⟨A8, N8, c8, rfl, hN8⟩ := byr_open hn8'; have HN8 := Aside0.mk hn8'; have HB8 := Aside0.mk hb8; clear hn8 hb8 hg8 hat8 hn8' hN8)
          go_roundw
          case rel => exact ⟨j + 1, dn ++ u, congrArg (Value.int .i64) D6.out, HK2.out, HN8.out, by rw [flat_take US j u HUX.out, HD.out], HB8.out⟩
          case measure => exact less2 (Nat.lt_succ_self j) HK2.out D6.out
        · have hje : j = N7 := by omega
          subst hje
          have d1 : decide ((j : Int) < (j : Int)) = false := decide_eq_false (by omega)
          have hde : dn = allOf k T := by
            rw [HD.out, HN7.out, List.take_length, HEN.out.2]
            rfl
          have hov := HOV.out
          rw [hde] at hov
          have xK := box_cell HFW.out.knd
          have yK : B + 1 < wr.heap.size := (Array.getElem?_eq_some_iff.1 HFW.out.knd).1
          obtain ⟨S, hS⟩ : ∃ S, S = bs (allOf k T) := ⟨_, rfl⟩
          have HOA := Aside0.mk hov
          have HSS := Aside0.mk hS
          have HDE := Aside0.mk hde
          clear hov hde hS hNd hj hjN
          by_cases h4 : k = 4
          · have dk : ((k : Int) == 4) = true := by rw [beq_iff_eq]; omega
            have H4 := Aside0.mk h4
            clear h4
            go_wp2_with (first
              | (go_at_call 13; (with_reducible refine (all_at (k := k) ?hx HK.out.1 HK.out.2 T HTT.out.2.1 (Nat.le_trans HTT.out.1 (by decide)) _ (HT.out.below HFW.out.bel) HFW.out.all.rdb).mono ?_); (case hx => rfl); rintro e w8 ⟨u8, rfl, hu8, hb8⟩; obtain ⟨A8, N8, c8, rfl, hN8⟩ := byr_open hu8; have hcv1 := row_string HSS.out (HOA.out.below hb8); have hcv2 := row_string HSS.out hu8; have HF8 := Aside0.mk (HFW.out.below hb8); have xK8 := box_cell HF8.out.knd; have yK8 : B + 1 < w8.heap.size := (Array.getElem?_eq_some_iff.1 HF8.out.knd).1; clear hu8 hb8 hN8)
              | (go_at_call 16; (with_reducible refine (held_calls _ HF8.out.esc).mono ?_); rintro e w9 ⟨rfl, hb9⟩; have HF9 := Aside0.mk (HF8.out.below hb9); have xK9 := box_cell HF9.out.knd; have yK9 : B + 1 < w9.heap.size := (Array.getElem?_eq_some_iff.1 HF9.out.knd).1; have yB9 : B < w9.heap.size := (Array.getElem?_eq_some_iff.1 HF9.out.res).1; have fB9 : w9.frozen? ⟨B, 0, none⟩ = false := Joins.unfrozen_of_block HF9.out.res 0; have xB9 := box_cell HF9.out.res; clear hb9))
            have xR := box_cell (Joins.block_setCell (i := 0) HF9.out.res (.bool true))
            refine ⟨.bool true, ?_, rfl, HF9.out.bel.setCell (p := ⟨B, 0, none⟩) HF9.out.low.1 _⟩
            simp [results, Tryd.f4, go_sem, xR]
          · have dk : ((k : Int) == 4) = false := by rw [beq_eq_false_iff_ne]; omega
            have H4 := Aside0.mk h4
            clear h4
            go_wp2_with (first
              | (go_at_call 13; (with_reducible refine (all_at (k := k) ?hx HK.out.1 HK.out.2 T HTT.out.2.1 (Nat.le_trans HTT.out.1 (by decide)) _ (HT.out.below HFW.out.bel) HFW.out.all.rdb).mono ?_); (case hx => rfl); rintro e w8 ⟨u8, rfl, hu8, hb8⟩; obtain ⟨A8, N8, c8, rfl, hN8⟩ := byr_open hu8; have hcv1 := row_string HSS.out (HOA.out.below hb8); have hcv2 := row_string HSS.out hu8; have HF8 := Aside0.mk (HFW.out.below hb8); have xK8 := box_cell HF8.out.knd; have yK8 : B + 1 < w8.heap.size := (Array.getElem?_eq_some_iff.1 HF8.out.knd).1; clear hu8 hb8 hN8)
              | (go_at_call 16; (with_reducible refine (held_calls _ HF8.out.esc).mono ?_); rintro e w9 ⟨rfl, hb9⟩; have HF9 := Aside0.mk (HF8.out.below hb9); have xK9 := box_cell HF9.out.knd; have yK9 : B + 1 < w9.heap.size := (Array.getElem?_eq_some_iff.1 HF9.out.knd).1; clear hb9)
              | (go_at_call 17; (with_reducible refine (each_calls T HTT.out.2.1 (Nat.le_trans HTT.out.1 (by decide)) _ (rdb_new HF9.out.all)).mono ?_); rintro e wA ⟨TT, tv, rfl, htc, htv, hbA⟩; have HTA := Aside0.mk (And.intro htc htv); have HBA := Aside0.mk hbA; clear htc htv hbA))
            obtain ⟨Y, hYe⟩ : ∃ Y, Y = w9.heap.size := ⟨_, rfl⟩
            rw [← hYe]
            have hbo := HBA.out
            have hYA := new_at hbo
            have hbA9 := below_of_alloc hbo
            have hszA : Y < wA.heap.size := by rw [hYe]; exact (Array.getElem?_eq_some_iff.1 hYA).1
            rw [← hYe] at hYA hbA9
            have hend : endK k (cleanOf T) = cleanOf T := by unfold endK; rw [if_neg H4.out]
            have hUS : US = (cleanOf T).map (unitOf k) := by rw [HEN.out.2, hend]
            have hst := each_stops (6 - 1) (by omega) TT (cleanOf T) (clean_chr T) tv wA HTA.out.1 HTA.out.2
            have HY9 := Aside0.mk hYe
            have HU := Aside0.mk hUS
            have HB9 := Aside0.mk (And.intro hbA9 (And.intro hYA hszA))
            clear hYe hbo hYA hbA9 hszA hend hUS HTA HBA
            refine (wpIn_wide (n := 6)).1 ?_
            refine wpIn_rangeFunc_ownG rfl (by omega) (gf := 45) (lb := #[.pointer (some ⟨TT, 0, none⟩)]) rfl trivial (Go.Proofs.enters_of Tryd.func45 (by kernel_rfl) rfl)
              hst walksK_t walksK_b (Below.refl _ _) (fun _ => rfl)
              (fun pre W => Below Y w9 W ∧ W.heap[Y]? = some (.cells #[.int .i64 (pre.length : Int)] 3 (0, 0)) ∧ pre.map (fun x : Hnd => unitOf k x.2.1) = US.take pre.length)
              (fun _ pre _ => pre.map (fun x : Hnd => unitOf k x.2.1) ≠ US.take pre.length)
              (fun pre W W' row hs hg hr => ⟨hs.1.grown hg (by have := hs.1.size; have := HY9.out; omega) (fun r e => by have := (hr r e).1; have := HB9.out.2.2; omega), (hg.block Y (Array.getElem?_eq_some_iff.1 hs.2.1).1 (fun e => by have := (hr Y e.symm).1; have := HB9.out.2.2; omega)).trans hs.2.1, hs.2.2⟩)
              (fun _ _ _ _ _ hs _ _ => hs)
              ⟨HB9.out.1, HB9.out.2.1, rfl⟩ ?a1 ?assign ?body ?done ?stop
            case assign =>
              intro l x W K hK
              dsimp only [encH]
              gi_wp2
              exact hK
            case body =>
              rintro l pre ⟨pl, cc, hch⟩ W ⟨hbb, hYc, hpre⟩ hlt
              obtain ⟨n, hn⟩ : ∃ n, n = pre.length := ⟨_, rfl⟩
              rw [← hn] at hYc hpre hlt
              have hfw := HF9.out.below (by rw [← HY9.out]; exact hbb)
              have hul : n < US.length := by rw [HU.out, List.length_map]; exact hlt
              obtain ⟨u, hu⟩ : ∃ u, US[n]? = some u := ⟨_, List.getElem?_eq_getElem hul⟩
              obtain ⟨xv, hxv⟩ : ∃ xv, (vs ++ vs6)[n]? = some xv := ⟨_, List.getElem?_eq_getElem (by have := hfw.uns.len; omega)⟩
              obtain ⟨ad, ea, hcell, hal⟩ := uns_cell hfw.uns n xv hxv
              subst ea
              have hrx := hfw.uns.reads n xv u hxv hu
              obtain ⟨Ax, Nx, cx, rfl, hNx⟩ := rdb_open hrx
              obtain ⟨W2, N2, c2, A2, hcv2, hr2, hb2, -⟩ := string_row W W (bs cc) cc rfl (chr_small hch) (by have := chr_len hch; omega) (Below.refl _ _)
              have hru := rune_string cc hch W
              have xK := box_cell hfw.knd
              have yK : B + 1 < W.heap.size := (Array.getElem?_eq_some_iff.1 hfw.knd).1
              have HFW2 := Aside0.mk hfw
              have HBB := Aside0.mk (And.intro hbb (And.intro hYc hpre))
              have HUN := Aside0.mk (And.intro hu (And.intro hul hn))
              have HRX := Aside0.mk hrx
              have HR2 := Aside0.mk (And.intro hr2 hb2)
              have HCC := Aside0.mk hch
              have HCE := Aside0.mk (And.intro hcell hal)
              clear hfw hbb hYc hpre hlt hu hul hxv hrx hr2 hb2 hcell hal hNx hn hst
              have d2 : decide ((j : Int) ≤ (n : Int)) = false := decide_eq_false (by have := HUN.out.2.1; have := HN7.out; omega)
              have d4 : ¬ j ≤ n := by have := HUN.out.2.1; have := HN7.out; omega
              have d5 : decide (j ≤ n) = false := decide_eq_false d4
              have d3 : decide ((pl : Int) < 0) = false := decide_eq_false (by omega)
              have b2 : (0 : Int) ≤ (n : Int) ∧ (n : Int) < (j : Int) := by have := HUN.out.2.1; have := HN7.out; omega
              obtain ⟨S2, hS2⟩ : ∃ S2, S2 = bs u := ⟨_, rfl⟩
              have HS2 := Aside0.mk hS2
              have HUS := Aside0.mk (us_small HU.out HUN.out.1)
              by_cases hEq : unitOf k cc = u
              · have HS3 := Aside0.mk (show S2 = bs (unitOf k cc) by rw [hEq]; exact hS2)
                have HEQ := Aside0.mk hEq
                clear hS2 hEq
                gi_wp2_with (refine ⟨trivial, ?_⟩; gi_at_call 13; refine (callsIn_wide.2 (all_at (k := k) rfl HK.out.1 HK.out.2 cc (chr_small HCC.out) (by have := chr_len HCC.out; omega) _ (HT.out.below (below_step HFW2.out.bel HR2.out.2)) HR2.out.1)).mono ?_; rintro e w3 ⟨u9, rfl, hu9, hb9⟩; rw [all_one H4.out HCC.out] at hu9; have hb3 := below_step HR2.out.2 hb9; obtain ⟨A9, N9, c9, rfl, hN9⟩ := byr_open hu9; have hN0 := unit_len0 (k := k) HCC.out hN9; have hcv9 := (fun m => row_string HS3.out (hu9.below (below_drewN w3 m))); have hcvx := (fun m => rdb_string HS2.out ((HRX.out.below hb3).below (below_drewN w3 m))); have hF3 := HFW2.out.below hb3; have HF3 := Aside0.mk hF3; have xX3 := box_cell hF3.box; have yX3 := (Array.getElem?_eq_some_iff.1 hF3.box).1; have hY3 := (hb3.block Y (Array.getElem?_eq_some_iff.1 HBB.out.2.1).1).trans HBB.out.2.1; have HY3 := Aside0.mk hY3; have xY3 := box_cell hY3; have yY3 := (Array.getElem?_eq_some_iff.1 hY3).1; have fY3 : w3.frozen? ⟨Y, 0, none⟩ = false := Joins.unfrozen_of_block hY3 0; have fB3 : w3.frozen? ⟨B, 0, none⟩ = false := Joins.unfrozen_of_block hF3.res 0; have xB3 := box_cell hF3.res; have yB3 := (Array.getElem?_eq_some_iff.1 hF3.res).1; have hcell3 := (hb3.cell HCE.out.2).trans HCE.out.1; have hal3 := Nat.lt_of_lt_of_le HCE.out.2 hb3.size; have HB3 := Aside0.mk hb3; clear hu9 hb9 hb3 hN9 hF3 hY3)
                refine wpIn_region_quiet_lit (by kernel_rfl) (by kernel_rfl) (by kernel_rfl) ?_
                repeat (go_big_quiet_step (fail))
                refine wpQuiet_nil ?_
                intro _ hw'
                obtain ⟨nq, hw''⟩ := hw'
                subst hw''
                gi_wp2
                refine ⟨(keeps3 HB3.out nq _ _).from _, (keeps3 HB3.out nq _ _).walks, ((below_three HBB.out.1 (Nat.le_of_lt (Array.getElem?_eq_some_iff.1 HBB.out.2.1).1) HB3.out nq).setCell (p := ⟨Y, 0, none⟩) (Nat.le_refl _) _), ?_, ?_⟩
                · rw [List.length_append, ← HUN.out.2.2, List.length_singleton]
                  have h9 := Joins.block_setCell (w := w3.drewN nq) (i := 0) HY3.out (.int .i64 ((n + 1 : Nat) : Int))
                  have D6 : wrap64 ((n : Int) + 1) = ((n + 1 : Nat) : Int) := by
                    have h7 := HUN.out.2.1
                    have h8 := HZ.out.2.2.1
                    rw [← HEN.out.2] at h8
                    clear h9
                    unfold wrap64
                    omega
                  rw [D6]
                  exact h9
                · rw [List.map_append, HBB.out.2.2, List.length_append, ← HUN.out.2.2, List.length_singleton, List.take_add_one, HUN.out.1]
                  simp [HEQ.out]
              · obtain ⟨S3, hS3⟩ : ∃ S3, S3 = bs (unitOf k cc) := ⟨_, rfl⟩
                have HS3 := Aside0.mk hS3
                have HEQ := Aside0.mk hEq
                clear hS2 hEq hS3
                gi_wp2_with (refine ⟨trivial, ?_⟩; gi_at_call 13; refine (callsIn_wide.2 (all_at (k := k) rfl HK.out.1 HK.out.2 cc (chr_small HCC.out) (by have := chr_len HCC.out; omega) _ (HT.out.below (below_step HFW2.out.bel HR2.out.2)) HR2.out.1)).mono ?_; rintro e w3 ⟨u9, rfl, hu9, hb9⟩; rw [all_one H4.out HCC.out] at hu9; have hb3 := below_step HR2.out.2 hb9; obtain ⟨A9, N9, c9, rfl, hN9⟩ := byr_open hu9; have hN0 := unit_len0 (k := k) HCC.out hN9; have hcv9 := (fun m => row_string HS3.out (hu9.below (below_drewN w3 m))); have hcvx := (fun m => rdb_string HS2.out ((HRX.out.below hb3).below (below_drewN w3 m))); have hF3 := HFW2.out.below hb3; have HF3 := Aside0.mk hF3; have xX3 := box_cell hF3.box; have yX3 := (Array.getElem?_eq_some_iff.1 hF3.box).1; have hY3 := (hb3.block Y (Array.getElem?_eq_some_iff.1 HBB.out.2.1).1).trans HBB.out.2.1; have HY3 := Aside0.mk hY3; have xY3 := box_cell hY3; have yY3 := (Array.getElem?_eq_some_iff.1 hY3).1; have fY3 : w3.frozen? ⟨Y, 0, none⟩ = false := Joins.unfrozen_of_block hY3 0; have fB3 : w3.frozen? ⟨B, 0, none⟩ = false := Joins.unfrozen_of_block hF3.res 0; have xB3 := box_cell hF3.res; have yB3 := (Array.getElem?_eq_some_iff.1 hF3.res).1; have hcell3 := (hb3.cell HCE.out.2).trans HCE.out.1; have hal3 := Nat.lt_of_lt_of_le HCE.out.2 hb3.size; have HB3 := Aside0.mk hb3; clear hu9 hb9 hb3 hN9 hF3 hY3)
                have dS := str_ne HS3.out HS2.out (unit_small HCC.out) HUS.out HEQ.out
                refine wpIn_region_quiet_lit (by kernel_rfl) (by kernel_rfl) (by kernel_rfl) ?_
                obtain ⟨s1, s2, s3, s4⟩ := dS
                repeat (go_big_quiet_step (fail))
                refine wpQuiet_nil ?_
                intro _ hw'
                obtain ⟨nq, hw''⟩ := hw'
                subst hw''
                gi_wp2
                refine ⟨(keeps3 HB3.out nq _ _).from _, ?_⟩
                dsimp only
                rw [List.map_append, HBB.out.2.2, List.length_append, ← HUN.out.2.2, List.length_singleton, List.take_add_one, HUN.out.1]
                simp [HEQ.out]
            case done =>
              rintro D xs W hD hS ⟨hbb, hYc, hpre⟩ hK
              have hxl : (xs.length : Int) = (j : Int) := by
                have h1 := congrArg List.length hS
                rw [List.length_map] at h1
                have h2 := congrArg List.length HU.out
                rw [List.length_map] at h2
                have := HN7.out
                omega
              rw [hxl] at hYc
              have hfw := HF9.out.below (by rw [← HY9.out]; exact hbb)
              have xX := box_cell hfw.box
              have yX := (Array.getElem?_eq_some_iff.1 hfw.box).1
              have xY := box_cell hYc
              have yY := (Array.getElem?_eq_some_iff.1 hYc).1
              have xB := box_cell hfw.res
              have yB := (Array.getElem?_eq_some_iff.1 hfw.res).1
              have fB : W.frozen? ⟨B, 0, none⟩ = false := Joins.unfrozen_of_block hfw.res 0
              have hDB : D ≠ B := by
                have h1 := HF9.out.lts
                have h2 := HY9.out
                have h3 := HB9.out.2.2
                omega
              have HFW2 := Aside0.mk hfw
              have HD := Aside0.mk (And.intro hD (And.intro hDB hK))
              clear hfw hbb hYc hpre hS hD hK hst hxl hDB
              go_wp2
              have v3 := (KeepsOthers.setCell W ⟨B, 0, none⟩ (.bool true)).same D _ HD.out.2.2 rfl
              refine ⟨by simp, .inl ⟨_, _, rfl, run_takeDeferred v3, ?_⟩⟩
              have u1 := (World.putObj_heap_other (w := W.setCell ⟨B, 0, none⟩ (.bool true)) (o := .deferred none) (show B ≠ D from fun h => HD.out.2.1 h.symm)).trans (Joins.block_setCell (i := 0) HFW2.out.res (.bool true))
              have xR := box_cell u1
              have hwD : w.heap.size ≤ D := by
                have h1 := HD.out.1
                have h2 := HB9.out.1.size
                have h3 := HF9.out.bel.size
                omega
              refine ⟨.bool true, ?_, rfl, (HFW2.out.bel.setCell (p := ⟨B, 0, none⟩) HFW2.out.low.1 _).trans (belowK_b (w := w) (Nat.le_refl _) _ D _ (.deferred none) hwD v3 rfl rfl)⟩
              simp [results, Tryd.f4, go_sem, xR]
            case stop =>
              rintro D c pre W hD hSp hIx hK
              exact absurd (by rw [HU.out, ← List.map_take, ← hSp, List.map_map]; rfl) hIx
end Go.Proofs.YtfplocpjdjjoaaaDoor.Cut
