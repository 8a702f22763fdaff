/-
  How a byte is written in HTML and in a URL.
  How a byte is written in a path and in a query of a URL.
  A small number in hexadecimal digits, as strconv.FormatUint writes it.
  A number in hexadecimal digits; how a byte is written in a string of CSS.
  Conditions: as each theorem says.
-/
import Derived.Test.YtfplocpjdjjoaaaDoorDa
import Derived.Test.YtfplocpjdjjoaaaDoorGk
namespace Go.Proofs.YtfplocpjdjjoaaaDoor.Cut
open Go Go.RowKit Go.Proofs.YtfplocpjdjjoaaaDoor.Trail Go.Proofs.YtfplocpjdjjoaaaDoor.Ctxs Go.Proofs.YtfplocpjdjjoaaaDoorW.PrintWords
set_option linter.unusedVariables false
set_option linter.unusedSimpArgs false
/-- A row that is new since a world. -/
def Fresh (W : World) (v : Value) : Prop := ∀ (ad : Addr) (n c : Nat), v = .slice (some ad) n c → W.heap.size ≤ ad.block
/-- What a call that writes a unit answers. -/
def Unt (l : List Nat) (W : World) (e : Ending) (W' : World) : Prop := ∃ v, e = .returned v ∧ Rdb W' v l ∧ Below W.heap.size W W' ∧ Fresh W v
theorem fresh_lit (W : World) {o n c : Nat} : Fresh W (.slice (some ⟨W.heap.size, o, none⟩) n c) := fun ad n c h => by injection h with h; injection h with h; rw [← h]; exact Nat.le_refl _
theorem fresh_byr {W W' : World} {v : Value} {l : List Nat} (h : Byr W' W.heap.size v l) : Fresh W v := fun ad n c e => h.low ad.block (by rw [e]; rfl)
theorem Fresh.mono {W V : World} {v : Value} (h : Fresh V v) (hb : W.heap.size ≤ V.heap.size) : Fresh W v := fun ad n c e => Nat.le_trans hb (h ad n c e)
def namedOf (b : Nat) : List Nat := if b = 0 then repl else if b = 38 then [38, 97, 109, 112, 59] else if b = 60 then [38, 108, 116, 59] else if b = 62 then [38, 103, 116, 59] else if b = 34 then [38, 35, 51, 52, 59] else if b = 39 then [38, 35, 51, 57, 59] else []
def htmlU (b : Nat) : List Nat := if namedOf b = [] then [b] else namedOf b
set_option maxHeartbeats 4000000 in
set_option maxRecDepth 100000 in
theorem named_calls (b : Nat) (w : World) : Calls Tryd.prog 117 #[.int .u8 (b : Int)] w fun e W' => e = .returned (.string (bs (namedOf b))) ∧ w = W' := by
  obtain ⟨t, ht⟩ : ∃ t, t = namedOf b := ⟨_, rfl⟩
  rw [← ht]
  have HT := Aside0.mk ht
  clear ht
  go_enter Tryd.func117, Tryd.ntmps117
  go_wp2
  all_goals
    have ht := HT.out
    clear HT
    (try simp only [beq_iff_eq, beq_eq_false_iff_ne, ne_eq] at *)
    rw [namedOf] at ht
    repeat' split at ht
    all_goals first
      | (exfalso; omega)
      | (subst ht; go_ret; exact ⟨rfl, rfl⟩)
theorem byr_one (W : World) (x : Nat) : Rdb (W.alloc (.cells #[.int .u8 (x : Int)] 5)) (.slice (some ⟨W.heap.size, 0, none⟩) 1 1) [x] :=
  (own_byr (base := 0) (l := [x]) (own_lit W 0 5 .u8 (ints [x]) (Nat.zero_le _) (by show 1 ≤ 9223372036854775807; decide))).rdb
theorem str_none {l : List Nat} (h : l = []) : (!(bs l).toList.isEmpty) = false := by
  subst h
  rw [ByteArray.toList_eq]
  rfl
theorem str_some {l : List Nat} (h : l ≠ []) : (!(bs l).toList.isEmpty) = true := by
  rw [ByteArray.toList_eq]
  cases l with
  | nil => exact absurd rfl h
  | cons x r => simp [bs]
theorem rdb_of {W : World} {g n cp : Nat} {l : List Nat} (hn : n = l.length) (hc : n ≤ cp) (h : Kd.C (Kd.int .u8) W (some ⟨g, 0, none⟩) l.length (ints l)) : Rdb W (.slice (some ⟨g, 0, none⟩) n cp) l := by
  subst hn
  exact ⟨_, cp, rfl, hc, h⟩
theorem conv_rdb (W : World) (l : List Nat) (hs : Small l) (hl : l.length ≤ 140737488355328) : ∃ (W2 : World) (cp : Nat), (convert 9 22 (.string (bs l))).run Tryd.prog W = .ok (.slice (some ⟨W.heap.size, 0, none⟩) l.length cp) W2 ∧ l.length ≤ cp ∧ Below W.heap.size W W2 ∧ Kd.C (Kd.int .u8) W2 (some ⟨W.heap.size, 0, none⟩) l.length (ints l) := by
  have hsz : (bs l).size = l.length := bs_size l
  have hr := bytes_reads W 5 (bs l) (by omega)
  have he : bytesOf (bs l) = ints l := by
    unfold bytesOf
    simp only [bs, List.map_map]
    apply List.map_congr_left
    intro x hx
    have := hs x hx
    simp only [Function.comp, Nat.toUInt8_eq, UInt8.toNat_ofNat']
    omega
  refine ⟨Lib.bytesWorld W 5 (bs l), grownCap W (bs l).size 0 5, ?_, ?_, bytes_below (Below.refl _ _) (Nat.le_refl _) 5 _, ?_⟩
  · have := print_bytes (P := Tryd.prog) 9 22 5 Tryd.underlying9 Tryd.underlying22 Tryd.underlying5 (bs l) W
    rw [hsz] at this ⊢
    exact this
  · exact Nat.le_trans (Nat.le_of_eq hsz.symm) (grownCap_ge W (bs l).size 0 5)
  · rw [he, hsz] at hr
    exact Kd.C_of_reads (enc := Value.int .u8) (d := (0 : Int)) (h1 := fun _ => rfl) hr
theorem namedOf_len (b : Nat) : (namedOf b).length ≤ 5 := by unfold namedOf; (repeat' split) <;> simp [repl]
theorem namedOf_small (b : Nat) : Small (namedOf b) := by
  intro x hx
  unfold namedOf at hx
  (repeat' split at hx) <;> simp [repl] at hx <;> omega
set_option maxHeartbeats 4000000 in
set_option maxRecDepth 100000 in
theorem html_calls (b : Nat) (w : World) : Calls Tryd.prog 87 #[.int .u8 (b : Int)] w (Unt (htmlU b) w) := by
  obtain ⟨n, hn⟩ : ∃ n, n = namedOf b := ⟨_, rfl⟩
  have HN := Aside0.mk hn
  have hs := namedOf_small b
  have hl := namedOf_len b
  rw [← hn] at hs hl
  by_cases h0 : n = []
  · have hu : htmlU b = [b] := by rw [htmlU, ← hn, if_pos h0]
    rw [hu]
    have h1 := str_none h0
    clear hn hs hl h0 hu
    go_enter Tryd.func87, Tryd.ntmps87
    go_wp2_with (go_at_call 117; (with_reducible refine (named_calls b _).mono ?_); rintro e w1 ⟨rfl, rfl⟩; rw [← HN.out])
    go_ret
    exact ⟨_, rfl, byr_one _ _, (Below.refl _ _).alloc (Nat.le_refl _) _, fresh_lit _⟩
  · have hu : htmlU b = n := by rw [htmlU, ← hn, if_neg h0]
    rw [hu]
    have h1 := str_some h0
    obtain ⟨W2, cp, hcv, hcp, hb2, hC2⟩ := conv_rdb w n hs (by omega)
    obtain ⟨L, hL⟩ : ∃ L, L = n.length := ⟨_, rfl⟩
    have HC := Aside0.mk hC2
    have HB := Aside0.mk hb2
    have HL := Aside0.mk hL
    have HCP := Aside0.mk (hL ▸ hcp)
    rw [← hL] at hcv
    clear hn hs hl h0 hu hb2 hC2 hL hcp
    go_enter Tryd.func87, Tryd.ntmps87
    go_wp2_with (go_at_call 117; (with_reducible refine (named_calls b _).mono ?_); rintro e w1 ⟨rfl, rfl⟩; rw [← HN.out])
    go_ret
    exact ⟨_, rfl, rdb_of HL.out HCP.out HC.out, HB.out, fresh_lit _⟩
end Go.Proofs.YtfplocpjdjjoaaaDoor.Cut
namespace Go.Proofs.YtfplocpjdjjoaaaDoor.Cut
open Go Go.RowKit Go.Proofs.YtfplocpjdjjoaaaDoor.Trail Go.Proofs.YtfplocpjdjjoaaaDoor.Ctxs Go.Proofs.YtfplocpjdjjoaaaDoorW.PrintWords
set_option linter.unusedVariables false
set_option linter.unusedSimpArgs false
def four (b : Nat) : Bool := b == 45 || b == 46 || b == 95 || b == 126
def simpleP (b : Nat) : Bool := (97 ≤ b && b ≤ 122) || (65 ≤ b && b ≤ 90) || (48 ≤ b && b ≤ 57) || (b != 0 && four b)
theorem four_index (b : Nat) (hb : b < 256) : decide (0 ≤ Lib.indexByte (⟨#[45, 46, 95, 126]⟩ : ByteArray).data.toList (b : Int).toNat.toUInt8) = four b := by
  have h : (List.range 256).all (fun b => decide (0 ≤ Lib.indexByte (⟨#[45, 46, 95, 126]⟩ : ByteArray).data.toList (b : Int).toNat.toUInt8) == four b) = true := by kernel_rfl
  exact beq_iff_eq.1 (List.all_eq_true.1 h b (List.mem_range.2 hb))
theorem indexByte_four {n : Int} (b : Nat) (hn : n = (b : Int)) (hb : b < 256) (w : World) : Calls Tryd.prog 104 #[.string (⟨#[45, 46, 95, 126]⟩ : ByteArray), .int .u8 n] w fun e w' => ∃ ix : Int, e = .returned (.int .i64 ix) ∧ decide (0 ≤ ix) = four b ∧ w = w' := by
  subst hn
  exact (indexByte_calls _ _ w).mono fun _ _ ⟨h, hw⟩ => ⟨_, h, four_index b hb, hw⟩
set_option maxHeartbeats 4000000 in
set_option maxRecDepth 100000 in
theorem simple_calls (b : Nat) (hb : b < 256) (w : World) : Calls Tryd.prog 112 #[.int .u8 (b : Int)] w fun e w' => e = .returned (.bool (simpleP b)) ∧ w = w' := by
  obtain ⟨t, ht⟩ : ∃ t, t = simpleP b := ⟨_, rfl⟩
  rw [← ht]
  have HT := Aside0.mk ht
  have HB := Aside0.mk hb
  clear ht hb
  go_enter Tryd.func112, Tryd.ntmps112
  go_wp2_with (go_at_call 104; (with_reducible refine (indexByte_four b ?hn HB.out _).mono ?_); (case hn => first | rfl | omega); rintro e w1 ⟨ix, rfl, hix, rfl⟩)
  all_goals
    go_ret
    refine ⟨ret_bool ?_, rfl⟩
    rw [HT.out, Bool.eq_iff_iff]
    cases hf : four b
    all_goals
      simp only [simpleP, hf, Bool.or_eq_true, Bool.and_eq_true, decide_eq_true_eq, bne_iff_ne, ne_eq, Bool.false_eq_true, and_false, or_false, and_true, true_iff, false_iff, not_or, not_and]
      (try omega)
theorem simple_at {n : Int} (b : Nat) (hn : n = (b : Int)) (hb : b < 256) (t : Bool) (ht : simpleP b = t) (w : World) : Calls Tryd.prog 112 #[.int .u8 n] w fun e w' => e = .returned (.bool t) ∧ w = w' := by
  subst hn ht
  exact simple_calls b hb w
def hexU (d : Nat) : Nat := if d < 10 then 48 + d else 55 + d
abbrev digs : ByteArray := ⟨#[48, 49, 50, 51, 52, 53, 54, 55, 56, 57, 65, 66, 67, 68, 69, 70]⟩
theorem dig_at (a : Nat) (h : a < 16) : (digs[a]'h).toNat = hexU a := by
  have : ∀ a : Fin 16, (digs[a.1]'a.2).toNat = hexU a.1 := by decide
  exact this ⟨a, h⟩
theorem and_15 (b : Nat) (hb : b < 256) : bits BinOp.and IntKind.u8 (b : Int) 15 = ((b % 16 : Nat) : Int) := by
  have h : (List.range 256).all (fun b => bits BinOp.and IntKind.u8 (b : Int) 15 == ((b % 16 : Nat) : Int)) = true := by kernel_rfl
  exact beq_iff_eq.1 (List.all_eq_true.1 h b (List.mem_range.2 hb))
theorem byr_three (W : World) (x y z : Nat) : Rdb (W.alloc (.cells #[.int .u8 (x : Int), .int .u8 (y : Int), .int .u8 (z : Int)] 5)) (.slice (some ⟨W.heap.size, 0, none⟩) 3 3) [x, y, z] :=
  (own_byr (base := 0) (l := [x, y, z]) (own_lit W 0 5 .u8 (ints [x, y, z]) (Nat.zero_le _) (by show 3 ≤ 9223372036854775807; decide))).rdb
def queryU (b : Nat) : List Nat := if simpleP b = true then [b] else [37, hexU (b / 16), hexU (b % 16)]
set_option maxHeartbeats 4000000 in
set_option maxRecDepth 100000 in
theorem query_calls (b : Nat) (hb : b < 256) (w : World) : Calls Tryd.prog 84 #[.int .u8 (b : Int)] w (Unt (queryU b) w) := by
  have HB := Aside0.mk hb
  by_cases hs : simpleP b = true
  · have hu : queryU b = [b] := by rw [queryU, if_pos hs]
    rw [hu]
    have HS := Aside0.mk hs
    clear hs hu hb
    go_enter Tryd.func84, Tryd.ntmps84
    go_wp2_with (go_at_call 112; (with_reducible refine (simple_at b ?hn HB.out true HS.out _).mono ?_); (case hn => first | rfl | omega); rintro e w1 ⟨rfl, rfl⟩)
    go_ret
    exact ⟨_, rfl, byr_one _ _, (Below.refl _ _).alloc (Nat.le_refl _) _, fresh_lit _⟩
  · have hs' : simpleP b = false := by simpa using hs
    have hu : queryU b = [37, hexU (b / 16), hexU (b % 16)] := by rw [queryU, if_neg hs]
    rw [hu]
    have HS := Aside0.mk hs'
    obtain ⟨a, ha⟩ : ∃ a, a = b / 16 := ⟨_, rfl⟩
    obtain ⟨c, hc⟩ : ∃ c, c = b % 16 := ⟨_, rfl⟩
    rw [← ha, ← hc]
    have ka : (b : Int) / 16 = (a : Int) := by omega
    have kc : bits BinOp.and IntKind.u8 (b : Int) 15 = (c : Int) := by rw [hc]; exact and_15 b hb
    have la : a < 16 := by omega
    have lc : c < 16 := by omega
    have ba : (0 : Int) ≤ (a : Int) ∧ (a : Int) < 16 := by omega
    have bc : (0 : Int) ≤ (c : Int) ∧ (c : Int) < 16 := by omega
    have da := dig_at a la
    have dc := dig_at c lc
    clear hs hs' hu hb ha hc
    go_enter Tryd.func84, Tryd.ntmps84
    go_wp2_with (go_at_call 112; (with_reducible refine (simple_at b ?hn HB.out false HS.out _).mono ?_); (case hn => first | rfl | omega); rintro e w1 ⟨rfl, rfl⟩)
    go_region
    go_wp2
    go_ret
    exact ⟨_, rfl, byr_three _ _ _ _, Below.drew ((Below.refl _ _).alloc (Nat.le_refl _) _), fresh_lit _⟩
def open18 (b : Nat) : Bool := b == 33 || b == 35 || b == 36 || b == 38 || b == 40 || b == 41 || b == 42 || b == 43 || b == 44 || b == 47 || b == 58 || b == 59 || b == 61 || b == 63 || b == 64 || b == 91 || b == 93 || b == 37
theorem open_index (b : Nat) (hb : b < 256) : decide (0 ≤ Lib.indexByte (⟨#[33, 35, 36, 38, 40, 41, 42, 43, 44, 47, 58, 59, 61, 63, 64, 91, 93, 37]⟩ : ByteArray).data.toList (b : Int).toNat.toUInt8) = open18 b := by
  have h : (List.range 256).all (fun b => decide (0 ≤ Lib.indexByte (⟨#[33, 35, 36, 38, 40, 41, 42, 43, 44, 47, 58, 59, 61, 63, 64, 91, 93, 37]⟩ : ByteArray).data.toList (b : Int).toNat.toUInt8) == open18 b) = true := by kernel_rfl
  exact beq_iff_eq.1 (List.all_eq_true.1 h b (List.mem_range.2 hb))
theorem indexByte_open {n : Int} (b : Nat) (hn : n = (b : Int)) (hb : b < 256) (t : Bool) (ht : open18 b = t) (w : World) : Calls Tryd.prog 104 #[.string (⟨#[33, 35, 36, 38, 40, 41, 42, 43, 44, 47, 58, 59, 61, 63, 64, 91, 93, 37]⟩ : ByteArray), .int .u8 n] w fun e w' => ∃ ix : Int, e = .returned (.int .i64 ix) ∧ decide (0 ≤ ix) = t ∧ w = w' := by
  subst hn ht
  exact (indexByte_calls _ _ w).mono fun _ _ ⟨h, hw⟩ => ⟨_, h, open_index b hb, hw⟩
theorem query_at {n : Int} (b : Nat) (hn : n = (b : Int)) (hb : b < 256) (l : List Nat) (hl : queryU b = l) (w : World) : Calls Tryd.prog 84 #[.int .u8 n] w fun e W' => ∃ A c, e = .returned (.slice A l.length c) ∧ l.length ≤ c ∧ Kd.C (Kd.int .u8) W' A l.length (ints l) ∧ Below w.heap.size w W' ∧ Fresh w (.slice A l.length c) := by
  subst hn hl
  refine (query_calls b hb w).mono ?_
  rintro e W' ⟨v, rfl, ⟨A, c, rfl, h1, h2⟩, h3, h4⟩
  exact ⟨A, c, rfl, h1, h2, h3, h4⟩
def pathU (b : Nat) : List Nat := if b ≠ 0 ∧ open18 b = true then [b] else queryU b
set_option maxHeartbeats 4000000 in
set_option maxRecDepth 100000 in
theorem path_calls (b : Nat) (hb : b < 256) (w : World) : Calls Tryd.prog 83 #[.int .u8 (b : Int)] w (Unt (pathU b) w) := by
  have HB := Aside0.mk hb
  obtain ⟨q, hq⟩ : ∃ q, queryU b = q := ⟨_, rfl⟩
  have HQ := Aside0.mk hq
  by_cases hs : b ≠ 0 ∧ open18 b = true
  · have hu : pathU b = [b] := by rw [pathU, if_pos hs]
    rw [hu]
    have h0 : ((b : Int) != 0) = true := by rw [bne_iff_ne]; omega
    have h1 : ¬ b = 0 := hs.1
    have HS := Aside0.mk hs.2
    clear hs hu hb hq
    go_enter Tryd.func83, Tryd.ntmps83
    go_wp2_with (go_at_call 104; (with_reducible refine (indexByte_open b ?hn HB.out true HS.out _).mono ?_); (case hn => first | rfl | omega); rintro e w1 ⟨ix, rfl, hix, rfl⟩)
    go_ret
    exact ⟨_, rfl, byr_one _ _, (Below.refl _ _).alloc (Nat.le_refl _) _, fresh_lit _⟩
  · have hu : pathU b = q := by rw [pathU, if_neg hs, hq]
    rw [hu]
    by_cases h0 : b = 0
    · subst h0
      clear hs hu hb hq
      go_enter Tryd.func83, Tryd.ntmps83
      go_wp2_with (go_at_call 84; (with_reducible refine (query_at 0 ?hn HB.out q HQ.out _).mono ?_); (case hn => first | rfl | omega); rintro e w1 ⟨A, c, rfl, h1, h2, h3⟩; have H1 := Aside0.mk (And.intro h1 (And.intro h2 h3)); clear h1 h2 h3)
      go_ret
      exact ⟨_, rfl, ⟨A, c, rfl, H1.out.1, H1.out.2.1⟩, H1.out.2.2.1, H1.out.2.2.2⟩
    · have hm : open18 b = false := by cases h : open18 b; rfl; exact absurd ⟨h0, h⟩ hs
      have HS := Aside0.mk hm
      have h1 : ((b : Int) != 0) = true := by rw [bne_iff_ne]; omega
      clear hs hu hb hq hm
      go_enter Tryd.func83, Tryd.ntmps83
      go_wp2_with (first
        | (go_at_call 104; (with_reducible refine (indexByte_open b ?hn HB.out false HS.out _).mono ?_); (case hn => first | rfl | omega); rintro e w1 ⟨ix, rfl, hix, rfl⟩)
        | (go_at_call 84; (with_reducible refine (query_at b ?hn HB.out q HQ.out _).mono ?_); (case hn => first | rfl | omega); rintro e w1 ⟨A, c, rfl, h1, h2, h3⟩; have H1 := Aside0.mk (And.intro h1 (And.intro h2 h3)); clear h1 h2 h3))
      go_ret
      exact ⟨_, rfl, ⟨A, c, rfl, H1.out.1, H1.out.2.1⟩, H1.out.2.2.1, H1.out.2.2.2⟩
end Go.Proofs.YtfplocpjdjjoaaaDoor.Cut
namespace Go.Proofs.YtfplocpjdjjoaaaDoor.Cut
open Go Go.RowKit Go.Proofs.YtfplocpjdjjoaaaDoor.Trail Go.Proofs.YtfplocpjdjjoaaaDoor.Ctxs Go.Proofs.YtfplocpjdjjoaaaDoorW.PrintWords
set_option linter.unusedVariables false
set_option linter.unusedSimpArgs false
/-- The one entry of bits' table that is read here. -/
def Tz (w : World) : Prop := w.cell? ⟨6, 15, none⟩ = some (.int .u8 4)
theorem Tz.below {w W : World} (h : Tz w) (hb : Below w.heap.size w W) : Tz W := (hb.cell (World.block_lt_of_cell? w _ h)).trans h
set_option maxHeartbeats 4000000 in
set_option maxRecDepth 100000 in
theorem zeros_calls (w : World) (h : Tz w) : Calls Tryd.prog 171 #[.int .u64 16] w fun e w' => e = .returned (.int .i64 4) ∧ w = w' := by
  unfold Tz at h
  have e2 : bits BinOp.and IntKind.u64 16 (IntKind.u64.wrap (-16)) = 16 := by kernel_rfl
  have e3 : IntKind.u64.wrap (16 * 285870213051353865) = 4573923408821661840 := by kernel_rfl
  have e4 : IntKind.u64.wrap 4573923408821661840 = 4573923408821661840 := by kernel_rfl
  go_enter Tryd.func171, Tryd.ntmps171
  go_wp2
  go_ret
  exact ⟨rfl, rfl⟩
theorem power_calls (w : World) : Calls Tryd.prog 170 #[.int .i64 16] w fun e w' => e = .returned (.bool true) ∧ w = w' := by
  have e2 : bits BinOp.and IntKind.i64 16 15 = 0 := by kernel_rfl
  go_enter Tryd.func170, Tryd.ntmps170
  go_wp2
  go_ret
  exact ⟨rfl, rfl⟩
def hexL (d : Nat) : Nat := if d < 10 then 48 + d else 87 + d
abbrev ldigs : ByteArray := ⟨#[48, 49, 50, 51, 52, 53, 54, 55, 56, 57, 97, 98, 99, 100, 101, 102, 103, 104, 105, 106, 107, 108, 109, 110, 111, 112, 113, 114, 115, 116, 117, 118, 119, 120, 121, 122]⟩
theorem ldig_at (a : Nat) (h : a < 16) : (ldigs[a]'(Nat.lt_of_lt_of_le h (by decide))).toNat = hexL a := by
  have : ∀ a : Fin 16, (ldigs[a.1]'(Nat.lt_of_lt_of_le a.2 (by decide))).toNat = hexL a.1 := by decide
  exact this ⟨a, h⟩
/-- The digits of a number, by fuel. -/
def hexF : Nat → Nat → List Nat
  | 0, n => [hexL n]
  | f + 1, n => if n < 16 then [hexL n] else hexF f (n / 16) ++ [hexL (n % 16)]
theorem hexF_big (f u : Nat) (h : 16 ≤ u) : hexF (f + 1) u = hexF f (u / 16) ++ [hexL (u % 16)] := by rw [hexF, if_neg (by omega)]
theorem hexF_low (f u : Nat) (h : u < 16) : hexF (f + 1) u = [hexL u] := by rw [hexF, if_pos h]
def cellsOf (ds : List Nat) : List Value := List.replicate (65 - ds.length) (.int .u8 0) ++ ds.map fun d => .int .u8 (d : Int)
theorem cells_zero (w : World) : (w.alloc (.cells Tryd.zeroCells229 229)).heap[w.heap.size]? = some (.cells (cellsOf []).toArray 229 (0, 0)) := by
  rw [alloc_at rfl]
  rfl
theorem cells_split (ds : List Nat) (m : Nat) (h : m + ds.length = 64) : cellsOf ds = List.replicate m (.int .u8 0) ++ (.int .u8 0) :: ds.map fun d => .int .u8 (d : Int) := by
  unfold cellsOf
  have : 65 - ds.length = m + 1 := by omega
  rw [this, List.replicate_succ', List.append_assoc]
  rfl
theorem cells_last (ds : List Nat) (p : Nat) (h : p + ds.length = 65) (h0 : 0 < p) : (cellsOf ds)[p - 1]? = some (.int .u8 0) := by
  rw [cells_split ds (p - 1) (by omega), List.getElem?_append_right (by simp)]
  simp
theorem cells_put (ds : List Nat) (p x : Nat) (h : p + ds.length = 65) (h0 : 0 < p) : (cellsOf ds).toArray.setIfInBounds (p - 1) (.int .u8 (x : Int)) = (cellsOf (x :: ds)).toArray := by
  rw [cells_split ds (p - 1) (by omega), List.setIfInBounds_toArray]
  congr 1
  rw [List.set_append_right _ _ (by simp)]
  simp only [List.length_replicate, Nat.sub_self, List.set_cons_zero]
  unfold cellsOf
  have : 65 - (x :: ds).length = p - 1 := by simp only [List.length_cons]; omega
  rw [this]
  rfl
theorem cells_at (ds : List Nat) (j : Nat) (h : ds.length ≤ 65) (hj : j < ds.length) : (cellsOf ds)[65 - ds.length + j]? = some (.int .u8 ((ds[j]'hj : Nat) : Int)) := by
  unfold cellsOf
  rw [List.getElem?_append_right (by simp)]
  simp [hj]
theorem slice_229 (W : World) (g p : Nat) (h1 : 1 ≤ p) (h2 : p ≤ 65) : (Instr.sliceAt 229 (.pointer (some ⟨g, 0, none⟩)) (some (.int .i64 ((p : Int) - 1))) none none).run Tryd.prog W = .ok (.slice (some ⟨g, p - 1, none⟩) (65 - (p - 1)) (65 - (p - 1))) W := by
  have u229 : Tryd.prog.underlying 229 = some (.array (Tryd.prog.arrayLen 229) (Tryd.prog.elem 229)) := by kernel_rfl
  have l229 : Tryd.prog.arrayLen 229 = 65 := by kernel_rfl
  have e229 : Tryd.prog.elem 229 = 5 := by kernel_rfl
  have s5 : (sizeOf 5).run Tryd.prog W = .ok 1 W := by kernel_rfl
  rw [run_sliceAt_array_l W 229 ⟨g, 0, none⟩ u229 .i64 ((p : Int) - 1) (by omega) (by rw [l229]; omega), e229, s5]
  simp only [Result.andThen, slicedAt, l229]
  have : ((p : Int) - 1).toNat = p - 1 := by omega
  rw [this, if_neg (by omega)]
  simp only [Addr.add, Nat.zero_add, Nat.mul_one]
  by_cases h : p - 1 = 0
  · rw [if_pos h, h]
  · rw [if_neg h]
theorem digits_at {W : World} {g p x : Nat} {ds : List Nat} (h : W.heap[g]? = some (.cells (cellsOf (x :: ds)).toArray 229 (0, 0))) (hp : p + ds.length = 65) (h0 : 0 < p) : ∀ i, i < 65 - (p - 1) → W.cell? ⟨g, p - 1 + i, none⟩ = some (.int .u8 ((ints (x :: ds)).getD i 0)) := by
  intro i hi
  have hl : (x :: ds).length = 65 - (p - 1) := by rw [List.length_cons]; omega
  have := cells_at (x :: ds) i (by omega) (by omega)
  rw [show 65 - (x :: ds).length + i = p - 1 + i by omega] at this
  simp only [World.cell?, h, List.getElem?_toArray, this]
  simp only [ints, List.getD_eq_getElem?_getD, List.getElem?_map]
  rw [List.getElem?_eq_getElem (by omega)]
  rfl
theorem nums_bs (l : List Nat) : strOfNums (ints l) = bs l := by
  unfold strOfNums bs ints
  congr 2
  rw [List.map_map]
  rfl
theorem wraps_u64 (n : Int) (h₀ : 0 ≤ n) (h₁ : n < 2 ^ 16) : IntKind.u64.wrap n = n := by
  have : IntKind.u64.wrap n = n % 18446744073709551616 := by simp [IntKind.wrap, IntKind.bits, IntKind.signed]
  rw [this]
  omega
theorem and_15w (u : Nat) (h : u < 65536) : bits BinOp.and IntKind.u64 (u : Int) 15 = ((u % 16 : Nat) : Int) := by
  have := bits_mask .u64 16 (by decide) wraps_u64 4 (by decide) (u : Int) (Int.natCast_nonneg _) (by omega)
  exact this
set_option maxHeartbeats 4000000 in
set_option maxRecDepth 100000 in
theorem bits_calls (n : Nat) (hn : n < 65536) (w : World) (hT : Tz w) : Calls Tryd.prog 155 #[.slice none 0 0, .int .u64 (n : Int), .int .i64 16, .bool false, .bool false] w fun e w' => e = .returned (.tuple #[.slice none 0 0, .string (bs (hexF 4 n))]) ∧ Below w.heap.size w w' := by
  have HN := Aside0.mk hn
  have HT := Aside0.mk hT
  clear hn hT
  go_enter Tryd.func155, Tryd.ntmps155
  go_wp2_with (first
    | (go_at_call 170; (with_reducible refine (power_calls _).mono ?_); rintro e w1 ⟨rfl, rfl⟩)
    | (go_at_call 171; (with_reducible refine (zeros_calls _ ?hz).mono ?_); (case hz => exact HT.out.below ((Below.refl _ _).alloc (Nat.le_refl _) _)); rintro e w1 ⟨rfl, rfl⟩))
  go_loopw [1, 13] (fun uv iv wr => ∃ (u p : Nat) (ds : List Nat), uv = .int .u64 (u : Int) ∧ iv = .int .i64 (p : Int) ∧ p + ds.length = 65 ∧ ds.length ≤ 3 ∧ u < 16 ^ (4 - ds.length) ∧ wr.heap[w.heap.size]? = some (.cells (cellsOf ds).toArray 229 (0, 0)) ∧ hexF 4 n = hexF (4 - ds.length) u ++ ds ∧ Below w.heap.size w wr)
    (fun uv _ _ => (intOf uv).toNat)
  case atStart =>
    exact ⟨n, 65, [], rfl, rfl, rfl, Nat.zero_le _, HN.out, cells_zero w, (List.append_nil (hexF 4 n)).symm, (Below.refl _ _).alloc (Nat.le_refl _) _⟩
  case round =>
    obtain ⟨u, p, ds, rfl, rfl, hp, hds, hu, hb, hx, hbw⟩ := hrel
    have hf : wr.frozen? ⟨w.heap.size, p - 1, none⟩ = false := Joins.unfrozen_of_block hb _
    have hl : w.heap.size < wr.heap.size := (Array.getElem?_eq_some_iff.1 hb).1
    have hc : wr.cell? ⟨w.heap.size, p - 1, none⟩ = some (.int .u8 0) := by simp [World.cell?, hb, cells_last ds p hp (by omega)]
    have hst := Joins.block_setCell (i := p - 1) hb (.int .u8 ((hexL (u % 16) : Nat) : Int))
    have hp1 : p - 1 = 64 - ds.length := by omega
    have bp : (0 : Int) ≤ (p : Int) - 1 ∧ (p : Int) - 1 < 65 := by omega
    have HU := Aside0.mk (And.intro hds hu)
    have HB := Aside0.mk hb
    have HX := Aside0.mk hx
    have HW := Aside0.mk hbw
    have HP := Aside0.mk hp
    have HST := Aside0.mk hst
    by_cases h16 : 16 ≤ u
    · have d1 : decide ((16 : Int) ≤ (u : Int)) = true := decide_eq_true (by omega)
      obtain ⟨a, ha⟩ : ∃ a, a = u % 16 := ⟨_, rfl⟩
      have ka : bits BinOp.and IntKind.u64 (u : Int) 15 = (a : Int) := by rw [and_15w u (Nat.lt_of_lt_of_le hu (Nat.pow_le_pow_right (by decide : 16 > 0) (by omega : 4 - ds.length ≤ 4))), ha]
      have la : a < 16 := by omega
      have ba : (0 : Int) ≤ (a : Int) ∧ (a : Int) < 36 := by omega
      have da := ldig_at a la
      clear hp hds hu hb hx hbw hst hp1
      go_wp2
      have hp1 := HP.out
      have hu1 := HU.out.2
      have hk : 4 - ds.length = (3 - ds.length) + 1 := by
        rcases Nat.lt_or_ge ds.length 3 with h | h
        · omega
        · exfalso
          have : 4 - ds.length = 1 := by have := HU.out.1; omega
          rw [this] at hu1
          omega
      rw [hk, Nat.pow_succ] at hu1
      have hds : ds.length ≤ 2 := by
        rcases Nat.lt_or_ge ds.length 3 with h | h
        · omega
        · exfalso
          have : 3 - ds.length = 0 := by omega
          rw [this] at hu1
          omega
      have hx := HX.out
      rw [hk, hexF_big (3 - ds.length) u h16] at hx
      refine ⟨⟨u / 16, p - 1, hexL (u % 16) :: ds, by rw [Int.natCast_ediv]; rfl, by rw [Int.natCast_sub (by omega)]; rfl, by rw [List.length_cons]; omega, by rw [List.length_cons]; omega, ?_, ?_, ?_, ?_⟩, ?_⟩
      · rw [List.length_cons, show 4 - (ds.length + 1) = 3 - ds.length by omega]
        exact Nat.div_lt_of_lt_mul (by rw [Nat.mul_comm]; exact hu1)
      · rw [show (ldigs[u % 16]'(Nat.lt_of_lt_of_le (by omega : u % 16 < 16) (by decide))).toNat = hexL (u % 16) from ldig_at _ (by omega)]; rw [HST.out, cells_put ds p _ hp1 (by omega)]
      · rw [hx, List.length_cons, show 4 - (ds.length + 1) = 3 - ds.length by omega, List.append_assoc]
        rfl
      · exact Below.setCell HW.out (Nat.le_refl w.heap.size) _
      · show ((u : Int) / 16).toNat < (u : Int).toNat
        omega
    · have d1 : decide ((16 : Int) ≤ (u : Int)) = false := decide_eq_false (by omega)
      have bu : (0 : Int) ≤ (u : Int) ∧ (u : Int) < 36 := by omega
      have da := ldig_at u (by omega)
      clear hp hds hu hb hx hbw hst hp1
      have hx := HX.out
      have hhx : hexF 4 n = hexL u :: ds := by
        rw [hx]
        cases hk : 4 - ds.length with
        | zero => rfl
        | succ f => rw [hexF_low f u (by omega)]; rfl
      have HST2 := Joins.block_setCell (i := p - 1) HB.out (.int .u8 ((hexL u : Nat) : Int))
      rw [cells_put ds p _ HP.out (by have := HP.out; have := HU.out.1; omega)] at HST2
      have hcv := run_convert_bytes_arg (P := Tryd.prog) (w := wr.setCell ⟨w.heap.size, p - 1, none⟩ (.int .u8 ((hexL u : Nat) : Int))) 22 5 Tryd.underlying22 Tryd.underlying5 w.heap.size (p - 1) (65 - (p - 1)) (65 - (p - 1)) (ints (hexL u :: ds)) (by have := HP.out; have := HU.out.1; rw [ints, List.length_map, List.length_cons]; omega) (digits_at HST2 HP.out (by omega)) 9 Tryd.underlying9
      have hsl := slice_229 (wr.setCell ⟨w.heap.size, p - 1, none⟩ (.int .u8 ((hexL u : Nat) : Int))) w.heap.size p (by have := HP.out; have := HU.out.1; omega) (by have := HP.out; omega)
      clear HST2
      go_wp2
      refine bodyPost_ret (v := .tuple #[.slice none 0 0, .string (bs (hexF 4 n))]) ?_ rfl ⟨rfl, Below.setCell HW.out (Nat.le_refl w.heap.size) _⟩
      rw [hhx]
      simp [results, Tryd.f155, go_sem]
      exact nums_bs (hexL u :: ds)
end Go.Proofs.YtfplocpjdjjoaaaDoor.Cut
namespace Go.Proofs.YtfplocpjdjjoaaaDoor.Cut
open Go Go.RowKit Go.Proofs.YtfplocpjdjjoaaaDoor.Trail Go.Proofs.YtfplocpjdjjoaaaDoor.Ctxs Go.Proofs.YtfplocpjdjjoaaaDoorW.PrintWords
set_option linter.unusedVariables false
set_option linter.unusedSimpArgs false
theorem bits_at {x : Int} (n : Nat) (hx : x = (n : Int)) (hn : n < 65536) (d : List Nat) (hd : hexF 4 n = d) (w : World) (hT : Tz w) : Calls Tryd.prog 155 #[.slice none 0 0, .int .u64 x, .int .i64 16, .bool false, .bool false] w fun e w' => e = .returned (.tuple #[.slice none 0 0, .string (bs d)]) ∧ Below w.heap.size w w' := by
  subst hx hd
  exact bits_calls n hn w hT
set_option maxHeartbeats 4000000 in
set_option maxRecDepth 100000 in
theorem format_in (n : Nat) (hn : n < 65536) (d : List Nat) (hd : hexF 4 n = d) (w : World) (hT : Tz w) : Calls Tryd.prog 131 #[.int .u64 (n : Int), .int .i64 16] w fun e w' => e = .returned (.string (bs d)) ∧ Below w.heap.size w w' := by
  have HN := Aside0.mk hn
  have HT := Aside0.mk hT
  have HD := Aside0.mk hd
  clear hn hT hd
  go_enter Tryd.func131, Tryd.ntmps131
  go_wp2_with (go_at_call 155; (with_reducible refine (bits_at n ?hx HN.out d HD.out _ HT.out).mono ?_); (case hx => first | rfl | omega); rintro e w1 ⟨rfl, hb⟩; have HB := Aside0.mk hb; clear hb)
  go_ret
  exact ⟨rfl, HB.out⟩
set_option maxHeartbeats 4000000 in
set_option maxRecDepth 100000 in
theorem format_calls (n : Nat) (hn : n < 65536) (d : List Nat) (hd : hexF 4 n = d) (w : World) (hT : Tz w) : Calls Tryd.prog 116 #[.int .u64 (n : Int), .int .i64 16] w fun e w' => e = .returned (.string (bs d)) ∧ Below w.heap.size w w' := by
  have HN := Aside0.mk hn
  have HT := Aside0.mk hT
  have HD := Aside0.mk hd
  clear hn hT hd
  go_enter Tryd.func116, Tryd.ntmps116
  go_wp2_with (go_at_call 131; (with_reducible refine (format_in n HN.out d HD.out _ HT.out).mono ?_); rintro e w1 ⟨rfl, hb⟩; have HB := Aside0.mk hb; clear hb)
  go_ret
  exact ⟨rfl, HB.out⟩
theorem format_at {x : Int} (n : Nat) (hx : x = (n : Int)) (hn : n < 65536) (d : List Nat) (hd : hexF 4 n = d) (w : World) (hT : Tz w) : Calls Tryd.prog 116 #[.int .u64 x, .int .i64 16] w fun e w' => e = .returned (.string (bs d)) ∧ Below w.heap.size w w' := by
  subst hx
  exact format_calls n hn d hd w hT
theorem hexF_len : ∀ (f n : Nat), (hexF f n).length ≤ f + 1
  | 0, n => Nat.le_refl _
  | f + 1, n => by
    rw [hexF]
    split
    · exact Nat.succ_le_succ (Nat.zero_le _)
    · rw [List.length_append]
      have := hexF_len f (n / 16)
      simp only [List.length_cons, List.length_nil]
      omega
theorem hexF_small : ∀ (f n : Nat), n < 16 ^ (f + 1) → Small (hexF f n)
  | 0, n, h => by
    intro x hx
    simp only [hexF, List.mem_singleton] at hx
    subst hx
    unfold hexL
    split <;> omega
  | f + 1, n, h => by
    intro x hx
    rw [hexF] at hx
    split at hx
    · simp only [List.mem_singleton] at hx
      subst hx
      unfold hexL
      split <;> omega
    · rcases List.mem_append.1 hx with hx | hx
      · exact hexF_small f (n / 16) (Nat.div_lt_of_lt_mul (by rw [Nat.pow_succ] at h; rw [Nat.mul_comm]; exact h)) x hx
      · simp only [List.mem_singleton] at hx
        subst hx
        have : n % 16 < 16 := Nat.mod_lt _ (by decide)
        unfold hexL
        split <;> omega
def simpleC (b : Nat) : Bool := b == 32 || b == 45 || b == 95 || b == 46 || b == 44 || 128 ≤ b || (97 ≤ b && b ≤ 122) || (65 ≤ b && b ≤ 90) || (48 ≤ b && b ≤ 57)
set_option maxHeartbeats 4000000 in
set_option maxRecDepth 100000 in
theorem css_simple (b : Nat) (t : Bool) (ht : simpleC b = t) (w : World) : Calls Tryd.prog 115 #[.int .u8 (b : Int)] w fun e w' => e = .returned (.bool t) ∧ w = w' := by
  have HT := Aside0.mk ht
  clear ht
  go_enter Tryd.func115, Tryd.ntmps115
  go_wp2
  all_goals
    go_ret
    refine ⟨ret_bool ?_, rfl⟩
    rw [← HT.out, Bool.eq_iff_iff]
    (try simp only [beq_iff_eq, beq_eq_false_iff_ne, ne_eq] at *)
    simp only [simpleC, Bool.or_eq_true, Bool.and_eq_true, decide_eq_true_eq, beq_iff_eq, true_iff, false_iff, Bool.false_eq_true, not_or, not_and]
    (try omega)
def cssU (b : Nat) : List Nat := if b = 0 then repl else if simpleC b = true then [b] else 92 :: (hexF 4 b ++ [32])
theorem bs_app (l m : List Nat) : bs l ++ bs m = bs (l ++ m) := by
  unfold bs
  rw [List.map_append]
  apply ByteArray.ext
  simp
theorem rdb_two {W : World} {fz : Nat × Nat} {g x y : Nat} (h : W.heap[g]? = some (.cells #[.int .u8 (x : Int), .int .u8 (y : Int)] 5 fz)) : Rdb W (.slice (some ⟨g, 0, none⟩) 2 2) [x, y] := by
  refine ⟨_, 2, rfl, Nat.le_refl _, Kd.C_of_reads (enc := Value.int .u8) (d := (0 : Int)) (h1 := fun _ => rfl) ⟨rfl, by show 2 ≤ 9223372036854775807; decide, fun _ => ⟨_, rfl, fun j hj => ?_⟩⟩⟩
  have hj3 : j = 0 ∨ j = 1 := by have : [x, y].length = 2 := rfl; omega
  rcases hj3 with rfl | rfl <;> (rw [add_plain]; simp [World.cell?, h, ints])
theorem wrap_64 (b : Nat) (h : b < 65536) : IntKind.u64.wrap (b : Int) = (b : Int) := wraps_u64 _ (Int.natCast_nonneg _) (by omega)
theorem small_app {l m : List Nat} (h : Small l) (h' : Small m) : Small (l ++ m) := fun x hx => (List.mem_append.1 hx).elim (h x) (h' x)
theorem small_one {x : Nat} (h : x < 256) : Small [x] := fun y hy => by rw [List.mem_singleton] at hy; rw [hy]; exact h
/-- A string that is made becomes a row. -/
theorem string_row (w W : World) (s : ByteArray) (L : List Nat) (hsL : s = bs L) (hs : Small L) (hl : L.length ≤ 140737488355328) (hb : Below w.heap.size w W) : ∃ (W2 : World) (N cp : Nat) (A : Option Addr), (convert 9 22 (.string s)).run Tryd.prog W = .ok (.slice A N cp) W2 ∧ Rdb W2 (.slice A N cp) L ∧ Below w.heap.size w W2 ∧ Fresh w (.slice A N cp) := by
  subst hsL
  obtain ⟨W2, cp, hcv, hcp, hb2, hC2⟩ := conv_rdb W L hs hl
  exact ⟨W2, _, cp, _, hcv, ⟨_, cp, rfl, hcp, hC2⟩, hb.trans (hb2.mono hb.size), (fresh_lit W).mono hb.size⟩
theorem str_css (d : List Nat) : (⟨#[92]⟩ : ByteArray) ++ bs d ++ ⟨#[32]⟩ = bs (92 :: (d ++ [32])) := by
  have : (⟨#[92]⟩ : ByteArray) = bs [92] := rfl
  have h2 : (⟨#[32]⟩ : ByteArray) = bs [32] := rfl
  rw [this, h2, bs_app, bs_app]
  rfl
set_option maxHeartbeats 4000000 in
set_option maxRecDepth 100000 in
theorem css_calls (b : Nat) (hb : b < 256) (w : World) (hT : Tz w) : Calls Tryd.prog 86 #[.int .u8 (b : Int)] w (Unt (cssU b) w) := by
  have HT := Aside0.mk hT
  have HB := Aside0.mk hb
  obtain ⟨d, hd⟩ : ∃ d, hexF 4 b = d := ⟨_, rfl⟩
  have HD := Aside0.mk hd
  by_cases h0 : b = 0
  · subst h0
    have hu : cssU 0 = repl := rfl
    rw [hu]
    clear hu hT hb hd
    have kc := Joins.run_convert_bytes_const_at (P := Tryd.prog) w 22 5 #[.int .u8 239, .int .u8 191, .int .u8 189] 3 3 w.heap.size rfl Tryd.underlying22 Tryd.underlying5
    go_enter Tryd.func86, Tryd.ntmps86
    go_wp2
    go_ret
    exact ⟨_, rfl, rdb_repl (alloc_at (o := .cells #[.int .u8 239, .int .u8 191, .int .u8 189] 5 (3, 4)) rfl), (Below.refl _ _).alloc (Nat.le_refl _) _, fresh_lit _⟩
  · by_cases hs : simpleC b = true
    · have hu : cssU b = [b] := by rw [cssU, if_neg h0, if_pos hs]
      rw [hu]
      have HS := Aside0.mk hs
      clear hs hu hb hT hd
      go_enter Tryd.func86, Tryd.ntmps86
      go_wp2_with (go_at_call 115; (with_reducible refine (css_simple b true HS.out _).mono ?_); rintro e w1 ⟨rfl, rfl⟩)
      go_ret
      exact ⟨_, rfl, byr_one _ _, (Below.refl _ _).alloc (Nat.le_refl _) _, fresh_lit _⟩
    · have hs' : simpleC b = false := by simpa using hs
      have hu : cssU b = 92 :: (d ++ [32]) := by rw [cssU, if_neg h0, if_neg hs, hd]
      rw [hu]
      have HS := Aside0.mk hs'
      have HSM := Aside0.mk (show Small (92 :: (d ++ [32])) from small_app (l := [92]) (small_one (by decide)) (small_app (hd ▸ hexF_small 4 b (by omega)) (small_one (by decide))))
      have HLN := Aside0.mk (show (92 :: (d ++ [32])).length ≤ 140737488355328 by have := hexF_len 4 b; rw [hd] at this; simp only [List.length_cons, List.length_append, List.length_nil]; omega)
      have hz : (bs d).size ≤ 5 := by rw [bs_size, ← hd]; exact hexF_len 4 b
      have hz1 : ¬ 9223372036854775807 < 1 + (bs d).size := by omega
      have hz2 : ¬ 9223372036854775807 < 1 + (bs d).size + 1 := by omega
      clear hs hs' hu hb hT hd hz
      go_enter Tryd.func86, Tryd.ntmps86
      go_wp2_with (first
        | (go_at_call 115; (with_reducible refine (css_simple b false HS.out _).mono ?_); rintro e w1 ⟨rfl, rfl⟩)
        | (go_at_call 116; (with_reducible refine (format_at b ?hx (by have := HB.out; omega) d HD.out _ HT.out).mono ?_); (case hx => exact wrap_64 b (by have := HB.out; omega)); rintro e w1 ⟨rfl, hb⟩; obtain ⟨W2, N2, cp, A2, hcv, hr2, hb2, hf2⟩ := string_row w w1 ((⟨#[92]⟩ : ByteArray) ++ bs d ++ ⟨#[32]⟩) (92 :: (d ++ [32])) (str_css d) HSM.out HLN.out hb; have HR2 := Aside0.mk hr2; have HB2 := Aside0.mk hb2; have HF2 := Aside0.mk hf2; clear hb hr2 hb2 hf2))
      go_ret
      exact ⟨_, rfl, HR2.out, HB2.out, HF2.out⟩
theorem css_at {x : Int} (b : Nat) (hx : x = (b : Int)) (hb : b < 256) (w : World) (hT : Tz w) : Calls Tryd.prog 86 #[.int .u8 x] w (Unt (cssU b) w) := by
  subst hx
  exact css_calls b hb w hT
/-! #### jsstr -/
def padded (k : Nat) (s : List Nat) : List Nat := List.replicate (k - s.length) 48 ++ s
theorem padded_next (k : Nat) (s : List Nat) (h : s.length < k) : padded k (48 :: s) = padded k s := by
  unfold padded
  obtain ⟨m, hm⟩ : ∃ m, k - s.length = m + 1 := ⟨k - s.length - 1, by omega⟩
  have : k - (48 :: s).length = m := by rw [List.length_cons]; omega
  rw [this, hm, List.replicate_succ', List.append_assoc]
  rfl
theorem padded_done (k : Nat) (s : List Nat) (h : ¬ s.length < k) : padded k s = s := by
  unfold padded
  rw [Nat.sub_eq_zero_of_le (by omega)]
  rfl
theorem str_zero (s : List Nat) : (⟨#[48]⟩ : ByteArray) ++ bs s = bs (48 :: s) := by
  have : (⟨#[48]⟩ : ByteArray) = bs [48] := rfl
  rw [this, bs_app]
  rfl
def strLen : Value → Nat
  | .string s => s.size
  | _ => 0
set_option maxHeartbeats 4000000 in
set_option maxRecDepth 100000 in
theorem hex_calls (n k : Nat) (hn : n < 65536) (hk : k ≤ 4) (d : List Nat) (hd : padded k (hexF 4 n) = d) (w : World) (hT : Tz w) : Calls Tryd.prog 113 #[.int .u64 (n : Int), .int .i64 (k : Int)] w fun e w' => e = .returned (.string (bs d)) ∧ Below w.heap.size w w' := by
  have HN := Aside0.mk hn
  have HK := Aside0.mk hk
  have HT := Aside0.mk hT
  have HD := Aside0.mk hd
  obtain ⟨s0, hs0⟩ : ∃ s0, hexF 4 n = s0 := ⟨_, rfl⟩
  have HS0 := Aside0.mk hs0
  clear hn hT hd hs0 hk
  go_enter Tryd.func113, Tryd.ntmps113
  go_wp2_with (go_at_call 116; (with_reducible refine (format_calls n HN.out s0 HS0.out _ HT.out).mono ?_); rintro e w1 ⟨rfl, hb⟩; have HB := Aside0.mk hb; clear hb)
  go_loopw [5] (fun sv wr => ∃ s : List Nat, sv = .string (bs s) ∧ padded k s = d ∧ s.length ≤ 5 ∧ Below w.heap.size w wr) (fun sv _ => k - strLen sv)
  case atStart => exact ⟨s0, rfl, by rw [← HS0.out]; exact HD.out, by rw [← HS0.out]; exact hexF_len 4 n, HB.out⟩
  case round =>
    obtain ⟨s, rfl, hp, hl, hb⟩ := hrel
    have HP := Aside0.mk hp
    have HL := Aside0.mk hl
    have HBR := Aside0.mk hb
    have hz : (bs s).size = s.length := bs_size s
    have hz1 : ¬ 9223372036854775807 < 1 + s.length := by omega
    clear hp hl hb
    by_cases hlt : s.length < k
    · have hz2 : decide ((s.length : Int) < (k : Int)) = true := decide_eq_true (by omega)
      have e := str_zero s
      go_wp2
      refine ⟨⟨48 :: s, rfl, by rw [padded_next k s hlt]; exact HP.out, by have := HK.out; rw [List.length_cons]; omega, HBR.out⟩, ?_⟩
      show k - (bs (48 :: s)).size < k - (bs s).size
      rw [bs_size, bs_size, List.length_cons]
      omega
    · have hz2 : decide ((s.length : Int) < (k : Int)) = false := decide_eq_false (by omega)
      have hd : d = s := by rw [← HP.out, padded_done k s hlt]
      subst hd
      go_wp2
      refine bodyPost_ret (v := .string (bs d)) ?_ rfl ⟨rfl, HBR.out⟩
      simp [results, Tryd.f113, go_sem]
end Go.Proofs.YtfplocpjdjjoaaaDoor.Cut
