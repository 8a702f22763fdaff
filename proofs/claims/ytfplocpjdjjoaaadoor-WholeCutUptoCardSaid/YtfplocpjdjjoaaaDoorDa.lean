/-
  Well-formed text out of bytes that come in pieces: the plain model, and that the cuts do not matter. Conditions: none.
  Which bytes may stand behind a first one; the first piece of bytes.
  The decoder's text, chunk by chunk.
  A decoder at its beginning, at its end, and what waits in it.
  The well-formed text of bytes, as utf.Clean answers it.
  The characters of well-formed text, as Go reads and writes them.
  Conditions: as each theorem says.
-/
import Derived.Test.YtfplocpjdjjoaaaDoorProg
import Derived.Test.YtfplocpjdjjoaaaDoorGb
import Derived.LoopTactic
import Derived.WalkSpells
namespace Go.Proofs.YtfplocpjdjjoaaaDoor.Cut
set_option linter.unusedVariables false
set_option linter.unusedSimpArgs false
/-- Which bytes may stand behind a first one, place by place. -/
def tailOf (b : Nat) : List (Nat × Nat) :=
  if 194 ≤ b ∧ b ≤ 223 then [(128, 191)]
  else if b = 224 then [(160, 191), (128, 191)]
  else if b = 237 then [(128, 159), (128, 191)]
  else if 225 ≤ b ∧ b ≤ 239 then [(128, 191), (128, 191)]
  else if b = 240 then [(144, 191), (128, 191), (128, 191)]
  else if 241 ≤ b ∧ b ≤ 243 then [(128, 191), (128, 191), (128, 191)]
  else if b = 244 then [(128, 143), (128, 191), (128, 191)]
  else []
/-- Behind n bytes that fit: the piece's length, whether it is a character, whether more bytes could make it one. -/
def fits : List (Nat × Nat) → List Nat → Nat → Nat × Bool × Bool
  | [], _, n => (n, true, false)
  | _ :: _, [], n => (n, false, true)
  | s :: t, x :: r, n => if x < s.1 ∨ s.2 < x then (n, false, false) else fits t r (n + 1)
/-- The first piece of bytes. -/
def first : List Nat → Nat × Bool × Bool
  | [] => (0, false, true)
  | b :: r => if b < 128 then (1, true, false) else if tailOf b = [] then (1, false, false) else fits (tailOf b) r 1
theorem fits_ge : ∀ (t : List (Nat × Nat)) (r : List Nat) (n : Nat), n ≤ (fits t r n).1 ∧ (fits t r n).1 ≤ n + r.length
  | [], r, n => ⟨Nat.le_refl _, Nat.le_add_right _ _⟩
  | s :: t, [], n => ⟨Nat.le_refl _, Nat.le_refl _⟩
  | s :: t, x :: r, n => by
    unfold fits
    split
    · exact ⟨Nat.le_refl _, Nat.le_add_right _ _⟩
    · have := fits_ge t r (n + 1)
      simp only [List.length_cons]
      omega
theorem fits_app : ∀ (t : List (Nat × Nat)) (r q : List Nat) (n : Nat), (fits t r n).2.2 = false → fits t (r ++ q) n = fits t r n
  | [], r, q, n, h => by cases r <;> cases q <;> rfl
  | s :: t, [], q, n, h => by cases h
  | s :: t, x :: r, q, n, h => by
    unfold fits at h ⊢
    simp only [List.cons_append]
    split
    · rfl
    · rename_i hn
      rw [if_neg hn] at h
      exact fits_app t r q (n + 1) h
theorem first_cons (b : Nat) (r : List Nat) : first (b :: r) = if b < 128 then (1, true, false) else if tailOf b = [] then (1, false, false) else fits (tailOf b) r 1 := rfl
theorem first_bounds {p : List Nat} (h : p ≠ []) : 1 ≤ (first p).1 ∧ (first p).1 ≤ p.length := by
  cases p with
  | nil => exact absurd rfl h
  | cons b r =>
    rw [first_cons]
    split
    · exact ⟨Nat.le_refl _, by simp⟩
    · split
      · exact ⟨Nat.le_refl _, by simp⟩
      · have := fits_ge (tailOf b) r 1
        simp only [List.length_cons]
        omega
theorem first_app {p : List Nat} (q : List Nat) (h : p ≠ []) (ho : (first p).2.2 = false) : first (p ++ q) = first p := by
  cases p with
  | nil => exact absurd rfl h
  | cons b r =>
    simp only [List.cons_append]
    rw [first_cons] at ho ⊢
    rw [first_cons]
    split
    · rfl
    · split
      · rfl
      · rename_i h1 h2
        rw [if_neg h1, if_neg h2] at ho
        exact fits_app _ _ _ _ ho
def repl : List Nat := [239, 191, 189]
/-- The characters that are sure, and the bytes that wait, by fuel. -/
def decF : Nat → List Nat → List (List Nat) × List Nat
  | 0, p => ([], p)
  | f + 1, p => if p = [] then ([], []) else if (first p).2.2 = true then ([], p)
    else ((if (first p).2.1 = true then p.take (first p).1 else repl) :: (decF f (p.drop (first p).1)).1, (decF f (p.drop (first p).1)).2)
def dec (p : List Nat) : List (List Nat) × List Nat := decF p.length p
theorem decF_more : ∀ (f g : Nat) (p : List Nat), p.length ≤ f → p.length ≤ g → decF f p = decF g p
  | 0, 0, p, _, _ => rfl
  | 0, g + 1, p, hf, _ => by
    have : p = [] := List.eq_nil_of_length_eq_zero (by omega)
    subst this
    rfl
  | f + 1, 0, p, _, hg => by
    have : p = [] := List.eq_nil_of_length_eq_zero (by omega)
    subst this
    rfl
  | f + 1, g + 1, p, hf, hg => by
    unfold decF
    split
    · rfl
    · rename_i hp
      have hb := first_bounds hp
      have hl : (p.drop (first p).1).length ≤ p.length - 1 := by rw [List.length_drop]; omega
      rw [decF_more f g (p.drop (first p).1) (by omega) (by omega)]
theorem dec_nil : dec [] = ([], []) := rfl
theorem dec_open {p : List Nat} (hp : p ≠ []) (ho : (first p).2.2 = true) : dec p = ([], p) := by
  unfold dec
  cases p with
  | nil => exact absurd rfl hp
  | cons b r =>
    simp only [List.length_cons]
    unfold decF
    rw [if_neg hp, if_pos ho]
theorem dec_step {p : List Nat} (hp : p ≠ []) (ho : (first p).2.2 = false) : dec p = ((if (first p).2.1 = true then p.take (first p).1 else repl) :: (dec (p.drop (first p).1)).1, (dec (p.drop (first p).1)).2) := by
  have hb := first_bounds hp
  have hl : (p.drop (first p).1).length ≤ p.length - 1 := by rw [List.length_drop]; omega
  unfold dec
  obtain ⟨n, hn⟩ : ∃ n, p.length = n + 1 := ⟨p.length - 1, by have : 0 < p.length := List.length_pos_iff.2 hp; omega⟩
  rw [hn, decF, if_neg hp, if_neg (by rw [ho]; decide)]
  rw [decF_more n (p.drop (first p).1).length (p.drop (first p).1) (by omega) (Nat.le_refl _)]
/-- What is cut is written as what is whole. -/
theorem dec_app : ∀ (n : Nat) (p q : List Nat), p.length ≤ n → dec (p ++ q) = ((dec p).1 ++ (dec ((dec p).2 ++ q)).1, (dec ((dec p).2 ++ q)).2)
  | n, [], q, _ => by rw [dec_nil]; rfl
  | 0, b :: r, q, h => by simp at h
  | n + 1, b :: r, q, h => by
    have hp : b :: r ≠ [] := by simp
    by_cases ho : (first (b :: r)).2.2 = true
    · rw [dec_open hp ho]
      rfl
    · have ho' : (first (b :: r)).2.2 = false := by simpa using ho
      have hf := first_app q hp ho'
      have hb := first_bounds hp
      have hpq : (b :: r) ++ q ≠ [] := by simp
      rw [dec_step hp ho', dec_step hpq (by rw [hf]; exact ho'), hf]
      have hd : ((b :: r) ++ q).drop (first (b :: r)).1 = (b :: r).drop (first (b :: r)).1 ++ q := List.drop_append_of_le_length hb.2
      have ht : ((b :: r) ++ q).take (first (b :: r)).1 = (b :: r).take (first (b :: r)).1 := List.take_append_of_le_length hb.2
      have hl : ((b :: r).drop (first (b :: r)).1).length ≤ n := by rw [List.length_drop]; simp only [List.length_cons] at h ⊢; omega
      rw [hd, ht, dec_app n _ q hl]
      rfl
/-- The text of what is left. -/
def fin (c : List Nat) : List (List Nat) := if c = [] then [] else [repl]
/-- Chunks, one behind another: the characters of each, and what waits. -/
def feeds : List Nat → List (List Nat) → List (List Nat) × List Nat
  | c, [] => ([], c)
  | c, p :: ps => ((dec (c ++ p)).1 ++ (feeds (dec (c ++ p)).2 ps).1, (feeds (dec (c ++ p)).2 ps).2)
/-- What waits has no more to give by itself. -/
theorem dec_rest (p : List Nat) : dec (dec p).2 = ([], (dec p).2) := by
  have h := dec_app p.length p [] (Nat.le_refl _)
  rw [List.append_nil, List.append_nil] at h
  have h1 := congrArg (fun x => x.1.length) h
  have h2 := congrArg Prod.snd h
  simp only [List.length_append] at h1 h2
  have h3 : (dec (dec p).2).1 = [] := List.eq_nil_of_length_eq_zero (by omega)
  exact Prod.ext h3 h2.symm
theorem feeds_whole : ∀ (ps : List (List Nat)) (c : List Nat), dec c = ([], c) → feeds c ps = dec (c ++ ps.flatten)
  | [], c, hc => by simp [feeds, hc]
  | p :: ps, c, hc => by
    simp only [feeds, List.flatten_cons]
    rw [feeds_whole ps _ (dec_rest _), ← List.append_assoc, dec_app _ (c ++ p) ps.flatten (Nat.le_refl _)]
end Go.Proofs.YtfplocpjdjjoaaaDoor.Cut
namespace Go.Proofs.YtfplocpjdjjoaaaDoor.Cut
open Go Go.RowKit Go.Proofs.YtfplocpjdjjoaaaDoor.Trail Go.Proofs.YtfplocpjdjjoaaaDoor.Ctxs Go.Proofs.YtfplocpjdjjoaaaDoorW.PrintWords
set_option linter.unusedVariables false
set_option linter.unusedSimpArgs false
/-- The spans, cell by cell. -/
def spanCells (t : List (Nat × Nat)) : List Value := t.flatMap fun s => [.int .u8 (s.1 : Int), .int .u8 (s.2 : Int)]
/-- The spans of a first byte in memory. -/
def Spans (W : World) (v : Value) (t : List (Nat × Nat)) : Prop :=
  (t = [] ∧ v = .slice none 0 0) ∨ ∃ g, t ≠ [] ∧ v = .slice (some ⟨g, 0, none⟩) t.length t.length ∧ W.heap[g]? = some (.cells (spanCells t).toArray 162 (0, 0))
theorem spans_new {W : World} {t : List (Nat × Nat)} {g n : Nat} {cs : Array Value} (ht : t ≠ []) (hn : n = t.length) (hg : g = W.heap.size) (hc : cs = (spanCells t).toArray) : Spans (W.alloc (.cells cs 162)) (.slice (some ⟨g, 0, none⟩) n n) t :=
  .inr ⟨g, ht, by rw [hn], by rw [hc]; exact alloc_at hg⟩
set_option maxHeartbeats 4000000 in
set_option maxRecDepth 100000 in
theorem tail_calls (b : Nat) (w : World) : Calls Tryd.prog 88 #[.int .u8 (b : Int)] w fun e W' => ∃ v, e = .returned v ∧ Spans W' v (tailOf b) ∧ Below w.heap.size w W' := by
  obtain ⟨t, ht⟩ : ∃ t, t = tailOf b := ⟨_, rfl⟩
  rw [← ht]
  have HT := Aside0.mk ht
  clear ht
  go_enter Tryd.func88, Tryd.ntmps88
  go_wp2
  all_goals
    have ht := HT.out
    clear HT
    (try simp only [beq_iff_eq, beq_eq_false_iff_ne, ne_eq] at *)
    rw [tailOf] at ht
    repeat' split at ht
    all_goals first
      | (exfalso; omega)
      | (subst ht; go_ret; exact ⟨_, rfl, .inl ⟨rfl, rfl⟩, (Below.refl _ _).alloc (Nat.le_refl _) _⟩)
      | (subst ht; go_ret; exact ⟨_, rfl, spans_new (by simp) rfl (by simp) rfl, ((Below.refl _ _).alloc (Nat.le_refl _) _).alloc (by simp) _⟩)
theorem tail_nil {n : Int} (b : Nat) (hb : n = (b : Int)) (h : tailOf b = []) (w : World) : Calls Tryd.prog 88 #[.int .u8 n] w fun e W' => e = .returned (.slice none 0 0) ∧ Below w.heap.size w W' := by
  subst hb
  refine (tail_calls b w).mono ?_
  rintro e W' ⟨v, rfl, hs, hb⟩
  rcases hs with ⟨-, rfl⟩ | ⟨g, h0, -⟩
  · exact ⟨rfl, hb⟩
  · exact absurd h h0
theorem tail_some {n : Int} (b : Nat) (hb : n = (b : Int)) (t : List (Nat × Nat)) (ht : tailOf b = t) (h : t ≠ []) (w : World) : Calls Tryd.prog 88 #[.int .u8 n] w fun e W' => ∃ g, e = .returned (.slice (some ⟨g, 0, none⟩) t.length t.length) ∧ W'.heap[g]? = some (.cells (spanCells t).toArray 162 (0, 0)) ∧ Below w.heap.size w W' := by
  subst hb ht
  refine (tail_calls b w).mono ?_
  rintro e W' ⟨v, rfl, hs, hb⟩
  rcases hs with ⟨h0, -⟩ | ⟨g, h0, rfl, hg⟩
  · exact absurd h0 h
  · exact ⟨g, rfl, hg, hb⟩
theorem less2 {N a b : Nat} {x : Int} (h : a < b) (hb : a < N) (hx : x = (b : Int)) : N - (intOf (.int .i64 x)).toNat < N - (intOf (.int .i64 (a : Int))).toNat := by
  subst hx
  show N - ((b : Nat) : Int).toNat < N - ((a : Nat) : Int).toNat
  rw [Int.toNat_natCast, Int.toNat_natCast]
  omega
theorem span_at : ∀ (t : List (Nat × Nat)) (i : Nat) (s : Nat × Nat), t[i]? = some s → (spanCells t)[i * 2]? = some (.int .u8 (s.1 : Int)) ∧ (spanCells t)[i * 2 + 1]? = some (.int .u8 (s.2 : Int))
  | [], i, s, h => by simp at h
  | x :: t, 0, s, h => by
    simp only [List.getElem?_cons_zero, Option.some.injEq] at h
    subst h
    exact ⟨rfl, rfl⟩
  | x :: t, i + 1, s, h => by
    have := span_at t i s (by simpa using h)
    have e1 : (i + 1) * 2 = i * 2 + 1 + 1 := by omega
    rw [e1]
    exact this
theorem fits_nil (t : List (Nat × Nat)) (s : Nat × Nat) (n : Nat) : fits (s :: t) [] n = (n, false, true) := rfl
theorem fits_cons (t : List (Nat × Nat)) (s : Nat × Nat) (x : Nat) (r : List Nat) (n : Nat) : fits (s :: t) (x :: r) n = if x < s.1 ∨ s.2 < x then (n, false, false) else fits t r (n + 1) := rfl
set_option maxHeartbeats 4000000 in
set_option maxRecDepth 100000 in
theorem first_calls (b : Nat) (r : List Nat) (A : Option Addr) (c : Nat) (hs : Small (b :: r)) (hlen : (b :: r).length ≤ 140737488355328) (w : World) (hC : Kd.C (Kd.int .u8) w A (b :: r).length ((b :: r).map fun n : Nat => (n : Int))) :
    Calls Tryd.prog 61 #[.slice A (b :: r).length c] w fun e W' => e = .returned (.tuple #[.int .i64 ((first (b :: r)).1 : Int), .bool (first (b :: r)).2.1, .bool (first (b :: r)).2.2]) ∧ Below w.heap.size w W' := by
  obtain ⟨ad, ea, hcx⟩ := Kd.at_int hC 0 (by omega) (by simp only [List.length_cons]; omega)
  subst ea
  simp only [Int.toNat_zero] at hcx
  rw [show ad.add 0 = ad by unfold Addr.add; simp] at hcx
  have hx0 : rd ((b :: r).map fun n : Nat => (n : Int)) 0 = (b : Int) := by simp [rd]
  rw [hx0] at hcx
  obtain ⟨N, hN⟩ : ∃ N, N = r.length + 1 := ⟨_, rfl⟩
  have hN' : (b :: r).length = N := by rw [hN]; rfl
  obtain ⟨R, hR⟩ : ∃ R, R = first (b :: r) := ⟨_, rfl⟩
  rw [← hR]
  rw [hN'] at hC ⊢
  have kn := fun (W : World) (a : Option Addr) (n c n' c' : Nat) => run_neq_nil_slice (P := Tryd.prog) W 159 162 a n c n' c' Tryd.underlying159
  have kn2 := fun (W : World) (a : Option Addr) (n c n' c' : Nat) => run_neq_slice_nil_any (P := Tryd.prog) W 159 162 a n c n' c' Tryd.underlying159
  have HC := Aside0.mk hC
  have HN := Aside0.mk (And.intro hN (hN' ▸ hlen))
  have HS := Aside0.mk hs
  have hR' := hR.trans (first_cons b r)
  have hb1 : (0 : Int) < (N : Int) := by omega
  clear hC hR hlen hs hx0 hN'
  by_cases h8 : b < 128
  · have c1 : decide ((b : Int) < 128) = true := decide_eq_true (by omega)
    have c2 : decide (b < 128) = true := decide_eq_true h8
    rw [if_pos h8] at hR'
    subst hR'
    clear h8
    go_enter Tryd.func61, Tryd.ntmps61
    go_wp2
    refine bodyPost_ret (v := .tuple #[.int .i64 1, .bool true, .bool false]) ?_ rfl ⟨rfl, Below.refl _ _⟩
    simp [results, Tryd.f61, go_sem]
  · have c1 : decide ((b : Int) < 128) = false := decide_eq_false (by omega)
    have c2 : decide (b < 128) = false := decide_eq_false h8
    rw [if_neg h8] at hR'
    clear h8
    by_cases ht : tailOf b = []
    · rw [if_pos ht] at hR'
      subst hR'
      have HT := Aside0.mk ht
      clear ht
      go_enter Tryd.func61, Tryd.ntmps61
      go_wp2_with (go_at_call 88; (with_reducible refine (tail_nil b ?hb HT.out _).mono ?_); (case hb => rfl); rintro e w1 ⟨rfl, hb1⟩; have HB1 := Aside0.mk hb1; clear hb1)
      go_loopw [18] (fun iv wr => iv = .int .i64 0 ∧ Below w.heap.size w wr) (fun _ _ => 0)
      case atStart => exact ⟨rfl, HB1.out⟩
      case round =>
        obtain ⟨rfl, hb⟩ := hrel
        have HB := Aside0.mk hb
        clear hb
        go_wp2
        refine bodyPost_ret (v := .tuple #[.int .i64 1, .bool false, .bool false]) ?_ rfl ⟨rfl, HB.out⟩
        simp [results, Tryd.f61, go_sem]
    · rw [if_neg ht] at hR'
      obtain ⟨t, htt⟩ : ∃ t, t = tailOf b := ⟨_, rfl⟩
      rw [← htt] at hR' ht
      obtain ⟨M, hM⟩ : ∃ M, M = t.length := ⟨_, rfl⟩
      have hM3 : M ≤ 3 := by rw [hM, htt]; unfold tailOf; (repeat' split) <;> simp
      have hM1 : 0 < M := by rw [hM]; exact List.length_pos_iff.2 ht
      have HT := Aside0.mk (And.intro htt.symm ht)
      have HM := Aside0.mk hM
      have HR := Aside0.mk hR'
      clear htt ht hR'
      have htt1 := HT.out
      go_enter Tryd.func61, Tryd.ntmps61
      go_wp2_with (go_at_call 88; (with_reducible refine (tail_some b ?hb t HT.out.1 HT.out.2 _).mono ?_); (case hb => rfl); rintro e w1 ⟨g, rfl, hg, hb1⟩; have HB1 := Aside0.mk hb1; have HG1 := Aside0.mk hg; rw [← HM.out]; clear hb1 hg)
      go_loopw [18] (fun iv wr => ∃ i : Nat, iv = .int .i64 (i : Int) ∧ i ≤ M ∧ i ≤ r.length ∧ R = fits (t.drop i) (r.drop i) (i + 1) ∧ wr.heap[g]? = some (.cells (spanCells t).toArray 162 (0, 0)) ∧ Below w.heap.size w wr)
        (fun iv _ => M - (intOf iv).toNat)
      case atStart => exact ⟨0, rfl, Nat.zero_le _, Nat.zero_le _, HR.out, HG1.out, HB1.out⟩
      case round =>
        obtain ⟨i, rfl, hiM, hir, hrun, hg, hb⟩ := hrel
        have HB := Aside0.mk hb
        have HG := Aside0.mk hg
        by_cases hi : i < M
        · have d1 : decide ((i : Int) < (M : Int)) = true := decide_eq_true (Int.ofNat_lt.2 hi)
          have d2 : decide (i < M) = true := decide_eq_true hi
          obtain ⟨s, hst⟩ : ∃ s, t[i]? = some s := ⟨_, List.getElem?_eq_getElem (by have := HM.out; omega)⟩
          have hdr : t.drop i = s :: t.drop (i + 1) := by rw [List.drop_eq_getElem_cons (by have := HM.out; omega)]; rw [List.getElem?_eq_getElem (by have := HM.out; omega)] at hst; injection hst with hst; rw [hst]
          obtain ⟨s0, s1⟩ := span_at t i s hst
          have x0 : wr.cell? ⟨g, i * 2, none⟩ = some (.int .u8 (s.1 : Int)) := by simp [World.cell?, hg, s0]
          have x1 : wr.cell? ⟨g, i * 2 + 1, none⟩ = some (.int .u8 (s.2 : Int)) := by simp [World.cell?, hg, s1]
          have hgl : g < wr.heap.size := (Array.getElem?_eq_some_iff.1 hg).1
          have b1 : (0 : Int) ≤ (i : Int) ∧ (i : Int) < (M : Int) := by omega
          have d6 : wrap64 ((i : Int) + 1) = ((i + 1 : Nat) : Int) := by unfold wrap64; omega
          have HI := Aside0.mk hi
          rw [hdr] at hrun
          clear hg hb hst s0 s1 hdr hi
          by_cases hr0 : i = r.length
          · have e1 : decide ((N : Int) ≤ ((i + 1 : Nat) : Int)) = true := decide_eq_true (by have := HN.out.1; omega)
            have e2 : R = (i + 1, false, true) := by rw [hrun, hr0, List.drop_length, fits_nil]
            have e3 : N = i + 1 := by have := HN.out.1; omega
            subst e2
            have e4 : ((N : Nat) : Int) ≤ (i : Int) + 1 := by omega
            clear hrun hr0
            go_wp2
            refine bodyPost_ret (v := .tuple #[.int .i64 (N : Int), .bool false, .bool true]) ?_ rfl ⟨by rw [e3]; rfl, HB.out.alloc HB.out.size _⟩
            simp [results, Tryd.f61, go_sem]
            have := HN.out.1
            omega
          · obtain ⟨x, hx⟩ : ∃ x, r[i]? = some x := ⟨_, List.getElem?_eq_getElem (by omega)⟩
            have hdr : r.drop i = x :: r.drop (i + 1) := by rw [List.drop_eq_getElem_cons (by omega)]; rw [List.getElem?_eq_getElem (by omega)] at hx; injection hx with hx; rw [hx]
            rw [hdr, fits_cons] at hrun
            have e1 : decide ((N : Int) ≤ ((i + 1 : Nat) : Int)) = false := decide_eq_false (by have := HN.out.1; omega)
            have e4 : ¬ ((N : Nat) : Int) ≤ (i : Int) + 1 := by have := HN.out.1; omega
            have e5 : (0 : Int) ≤ (i : Int) + 1 ∧ (i : Int) + 1 < (N : Int) := by have := HN.out.1; omega
            obtain ⟨ad', ea', hcy⟩ := Kd.at_int (Kd.C_below HC.out HB.out) ((i + 1 : Nat) : Int) (Int.natCast_nonneg _) (by have := HN.out.1; omega)
            injection ea' with ea'
            subst ea'
            simp only [Int.toNat_natCast] at hcy
            have hlt : i < r.length := by omega
            have hx' : r[i] = x := by rw [List.getElem?_eq_getElem hlt] at hx; injection hx
            have hxr : rd ((b :: r).map fun n : Nat => (n : Int)) ((i + 1 : Nat) : Int) = (x : Int) := by simp [rd, hlt, hx']
            rw [hxr] at hcy
            have HX := Aside0.mk (And.intro hx hr0)
            clear hxr hdr hx hr0 hlt hx'
            have d7 : decide ((N : Int) ≤ (i : Int) + 1) = false := decide_eq_false e4
            have hcy2 : wr.cell? ⟨ad.block, ad.off + (i + 1), none⟩ = some (.int .u8 (x : Int)) := by
              have := hcy
              unfold Addr.add at this
              simpa using this
            have hal : ad.block < wr.heap.size := World.block_lt_of_cell? wr ⟨ad.block, ad.off + (i + 1), none⟩ hcy2
            clear hcy
            by_cases h1 : x < s.1
            · rw [if_pos (.inl h1)] at hrun
              subst hrun
              have g1 : decide ((x : Int) < (s.1 : Int)) = true := decide_eq_true (Int.ofNat_lt.2 h1)
              have g2 : decide (x < s.1) = true := decide_eq_true h1
              clear h1
              go_wp2
              go_region
              go_wp2
              refine bodyPost_ret (v := .tuple #[.int .i64 ((i : Int) + 1), .bool false, .bool false]) ?_ rfl ⟨rfl, Below.drew (HB.out.alloc HB.out.size _)⟩
              simp [results, Tryd.f61, go_sem]
            · by_cases h2 : s.2 < x
              · rw [if_pos (.inr h2)] at hrun
                subst hrun
                have g1 : decide ((x : Int) < (s.1 : Int)) = false := decide_eq_false (fun q => h1 (Int.ofNat_lt.1 q))
                have g2 : decide (x < s.1) = false := decide_eq_false h1
                have g3 : decide ((s.2 : Int) < (x : Int)) = true := decide_eq_true (Int.ofNat_lt.2 h2)
                have g4 : decide (s.2 < x) = true := decide_eq_true h2
                clear h1 h2
                go_wp2
                go_region
                go_wp2
                refine bodyPost_ret (v := .tuple #[.int .i64 ((i : Int) + 1), .bool false, .bool false]) ?_ rfl ⟨rfl, Below.drew (HB.out.alloc HB.out.size _)⟩
                simp [results, Tryd.f61, go_sem]
              · rw [if_neg (by omega)] at hrun
                have g1 : decide ((x : Int) < (s.1 : Int)) = false := decide_eq_false (fun q => h1 (Int.ofNat_lt.1 q))
                have g2 : decide (x < s.1) = false := decide_eq_false h1
                have g3 : decide ((s.2 : Int) < (x : Int)) = false := decide_eq_false (fun q => h2 (Int.ofNat_lt.1 q))
                have g4 : decide (s.2 < x) = false := decide_eq_false h2
                have HRUN := Aside0.mk hrun
                clear h1 h2 hrun
                go_wp2
                go_region
                go_wp2
                go_roundw
                case rel => exact ⟨i + 1, rfl, HI.out, by have := HX.out.2; omega, HRUN.out, (alloc_old hgl).trans HG.out, Below.drew (HB.out.alloc HB.out.size _)⟩
                case measure => exact less2 (Nat.lt_succ_self i) HI.out rfl
        · obtain rfl : i = M := by omega
          have d1 : decide ((i : Int) < (i : Int)) = false := decide_eq_false (by omega)
          have d2 : decide (i < i) = false := decide_eq_false (by omega)
          have e2 : R = (i + 1, true, false) := by
            rw [hrun, List.drop_eq_nil_of_le (by have := HM.out; omega)]
            cases r.drop i <;> rfl
          subst e2
          clear hrun hg hb hi
          go_wp2
          refine bodyPost_ret (v := .tuple #[.int .i64 ((t.length : Int) + 1), .bool true, .bool false]) ?_ rfl ⟨rfl, HB.out⟩
          simp [results, Tryd.f61, go_sem]
          omega
end Go.Proofs.YtfplocpjdjjoaaaDoor.Cut
namespace Go.Proofs.YtfplocpjdjjoaaaDoor.Cut
open Go Go.RowKit Go.Proofs.YtfplocpjdjjoaaaDoor.Trail Go.Proofs.YtfplocpjdjjoaaaDoor.Ctxs Go.Proofs.YtfplocpjdjjoaaaDoorW.PrintWords
set_option linter.unusedVariables false
set_option linter.unusedSimpArgs false
theorem info5 : (Tryd.prog.info? 5).map (fun i => (i.zero, i.size, i.bytes)) = some (some (.int .u8 0), 1, 1) := by kernel_rfl
abbrev ints (l : List Nat) : List Int := l.map fun n : Nat => (n : Int)
def lenOf : Value → Nat
  | .slice _ n _ => n
  | _ => 0
/-- A row of bytes of one's own. -/
def Byr (W : World) (base : Nat) (v : Value) (l : List Nat) : Prop := (Kd.int .u8).R 5 W base (fun _ => True) v (ints l)
section
variable {W V : World} {base : Nat} {v : Value} {l : List Nat}
theorem Byr.slice (h : Byr W base v l) : ∃ A c, v = .slice A l.length c := by
  obtain ⟨A, c, h⟩ := Kd.R_slice h
  rw [List.length_map] at h
  exact ⟨A, c, h⟩
theorem Byr.reads {A : Option Addr} {n c : Nat} (h : Byr W base (.slice A n c) l) : n = l.length ∧ n ≤ c ∧ Kd.C (Kd.int .u8) W A n (ints l) := by
  obtain ⟨h1, h2, h3⟩ := Kd.R_reads' h
  exact ⟨h1.trans (List.length_map _), h2, h1 ▸ h3⟩
theorem Byr.same (h : Byr W base v l) (hk : ∀ k, v.ownBlock = some k → V.heap[k]? = W.heap[k]?) : Byr V base v l := Kd.R_mono (Kd.R_step (Kd.R_tight rfl h) (fun k hk' _ => hk k hk'.symm)) (fun _ _ => trivial)
theorem Byr.lt (h : Byr W base v l) : ∀ k, v.ownBlock = some k → k < W.heap.size := Kd.R_lt h
theorem Byr.low (h : Byr W base v l) : ∀ k, v.ownBlock = some k → base ≤ k := Kd.R_base h
theorem Byr.below (h : Byr W base v l) (hb : Below W.heap.size W V) : Byr V base v l := Kd.R_below h hb
theorem Byr.ne (h : Byr W base v l) {g t : Nat} {cells : Array Value} (hb : W.heap[g]? = some (.cells cells t (0, 0))) (ht : 5 ≠ t) : some g ≠ v.ownBlock := Kd.R_ne h hb ht
theorem Byr.nil (W : World) (base : Nat) : Byr W base (.slice none 0 0) [] := Kd.R_nil _ _ _ _ _
theorem Byr.lower {b' : Nat} (h : Byr W base v l) (hb : b' ≤ base) : Byr W b' v l := Kd.R_lower h hb
theorem Byr.empty (W : World) (hb : base ≤ W.heap.size) : Byr (W.alloc (.cells #[] 5)) base (.slice (some ⟨W.heap.size, 0, none⟩) 0 0) [] :=
  Kd.R_of_own (enc := Value.int .u8) (h1 := fun _ => rfl) (own_lit W base 5 .u8 [] hb (by decide)) (fun _ _ => trivial)
end
theorem cut_from (A : Option Addr) (n c m : Nat) (hm : m ≤ n) : ∃ A' : Option Addr, (∀ W : World, (Instr.slice 22 (.slice A n c) (some (.int .i64 (m : Int))) none none).run Tryd.prog W = .ok (.slice A' (n - m) (c - m)) W) ∧
    ∀ (w : World) (l : List Nat), n ≤ c → Kd.C (Kd.int .u8) w A n (ints l) → Kd.C (Kd.int .u8) w A' (n - m) (ints (l.drop m)) := by
  obtain ⟨i0, hi, hzz⟩ := Option.map_eq_some_iff.1 info5
  simp only [Prod.mk.injEq] at hzz
  obtain ⟨A', h1, h2⟩ := print_cut_of (P := Tryd.prog) (Value.int .u8) (0 : Int) 22 5 .i64 Tryd.underlying22 hi hzz.2.1 A n c m hm
  refine ⟨A', h1, fun w l hc h => ?_⟩
  have h3 := h2 w (ints l) hc (Kd.reads_of_C (enc := Value.int .u8) (d := (0 : Int)) (h1 := fun _ => rfl) h)
  rw [← List.map_drop] at h3
  exact Kd.C_of_reads (enc := Value.int .u8) (d := (0 : Int)) (h1 := fun _ => rfl) h3
theorem take_C {w : World} {A : Option Addr} {n : Nat} {l : List Nat} (h : Kd.C (Kd.int .u8) w A l.length (ints l)) (hn : n ≤ l.length) : Kd.C (Kd.int .u8) w A n (ints (l.take n)) := by
  have h' : Kd.C (Kd.int .u8) w A (ints l).length (ints l) := by rw [List.length_map]; exact h
  have := Kd.C_take (m := n) h' (by rw [List.length_map]; exact hn)
  rw [← List.map_take, List.length_map, List.length_take, Nat.min_eq_left hn] at this
  exact this
theorem own_byr {W : World} {base : Nat} {v : Value} {l : List Nat} (h : W.ownsRow base 5 1 v (ints l).length (nums .u8 (ints l))) : Byr W base v l :=
  Kd.R_of_own (enc := Value.int .u8) (h1 := fun _ => rfl) h (fun _ _ => trivial)
theorem feed_end {D : Nat} {w0 W w6 : World} {ov v6 cv : Value} {l1 l2 : List Nat} (hD : w6.heap[D]? = some (.cells #[cv] 127 (0, 0))) (hW : Below W.heap.size W w6) (hB : Below w0.heap.size w0 W) (hb : w0.heap.size ≤ D) (h1 : Byr w6 W.heap.size ov l1) (h2 : Byr w6 W.heap.size v6 l2) :
    Byr (w6.setCell ⟨D, 0, none⟩ v6) W.heap.size ov l1 ∧ Byr (w6.setCell ⟨D, 0, none⟩ v6) W.heap.size v6 l2 ∧ (w6.setCell ⟨D, 0, none⟩ v6).heap[D]? = some (.cells #[v6] 127 (0, 0)) ∧ Kept W (w6.setCell ⟨D, 0, none⟩ v6) (fun q => q = D) ∧ Below w0.heap.size w0 (w6.setCell ⟨D, 0, none⟩ v6) := by
  have hh : ∀ q, q ≠ D → (w6.setCell ⟨D, 0, none⟩ v6).heap[q]? = w6.heap[q]? := fun q hq => Below.heap_setCell _ _ _ _ hq
  refine ⟨h1.same (fun q hq => hh q ?_), h2.same (fun q hq => hh q ?_), Joins.block_setCell (i := 0) hD _, (Kept.of_below hW (fun q => q = D)).setCell (p := ⟨D, 0, none⟩) (.inl rfl) _, (below_step hB hW).setCell (p := ⟨D, 0, none⟩) hb _⟩
  · rintro rfl; exact h1.ne hD (by decide) hq.symm
  · rintro rfl; exact h2.ne hD (by decide) hq.symm
theorem first_at {n : Nat} {s : List Nat} (b : Nat) (r : List Nat) (hsr : s = b :: r) (A : Option Addr) (c : Nat) (hn : n = s.length) (hs : Small s) (hlen : s.length ≤ 140737488355328) (w : World) (hC : Kd.C (Kd.int .u8) w A n (ints s)) :
    Calls Tryd.prog 61 #[.slice A n c] w fun e W' => e = .returned (.tuple #[.int .i64 ((first s).1 : Int), .bool (first s).2.1, .bool (first s).2.2]) ∧ Below w.heap.size w W' := by
  subst hn hsr
  exact first_calls b r A c hs hlen w hC
theorem piece_len {p : List Nat} (hp : p ≠ []) : (if (first p).2.1 = true then p.take (first p).1 else repl).length ≤ 3 * (first p).1 := by
  have hb := first_bounds hp
  split
  · rw [List.length_take]; omega
  · show 3 ≤ _; omega
set_option maxHeartbeats 4000000 in
set_option maxRecDepth 100000 in
theorem feed_calls (D : Nat) (w0 W : World) (cv : Value) (cl p : List Nat) (A : Option Addr) (cp : Nat) (hD : W.heap[D]? = some (.cells #[cv] 127 (0, 0))) (hb : w0.heap.size ≤ D) (hB : Below w0.heap.size w0 W) (hc : Byr W w0.heap.size cv cl) (hcs : Small cl) (hs : Small p) (hlen : cl.length + p.length ≤ 100000000) (hC : Kd.C (Kd.int .u8) W A p.length (ints p)) :
    Calls Tryd.prog 39 #[.pointer (some ⟨D, 0, none⟩), .slice A p.length cp] W fun e W' => ∃ v cv', e = .returned v ∧ Byr W' W.heap.size v (dec (cl ++ p)).1.flatten ∧ Byr W' W.heap.size cv' (dec (cl ++ p)).2 ∧ W'.heap[D]? = some (.cells #[cv'] 127 (0, 0)) ∧ Kept W W' (fun q => q = D) ∧ Below w0.heap.size w0 W' := by
  obtain ⟨Ac, cc, rfl⟩ := hc.slice
  have hlt : D < W.heap.size := (Array.getElem?_eq_some_iff.1 hD).1
  have y0 : W.cell? ⟨D, 0, none⟩ = some (.slice Ac cl.length cc) := by simp [World.cell?, hD]
  have yf : W.frozen? ⟨D, 0, none⟩ = false := Joins.unfrozen_of_block hD 0
  have HD := Aside0.mk hD
  have HB := Aside0.mk hB
  have HC := Aside0.mk hC
  have HCV := Aside0.mk hc
  have HLN := Aside0.mk hlen
  have HSM := Aside0.mk (And.intro hcs hs)
  have HBD := Aside0.mk hb
  have HE := Aside0.mk (Byr.empty (base := W.heap.size) W (Nat.le_refl _))
  have hba : Below W.heap.size W (W.alloc (.cells #[] 5)) := (Below.refl _ _).alloc (Nat.le_refl _) _
  have HBA := Aside0.mk hba
  clear hD hB hC hc hlen hcs hs hb hba
  obtain ⟨L, hL⟩ : ∃ L, L = cl ++ p := ⟨_, rfl⟩
  have HLL := Aside0.mk hL
  have hsl : Small L := by rw [hL]; intro x hx; rcases List.mem_append.1 hx with h | h; exact HSM.out.1 x h; exact HSM.out.2 x h
  have hll : L.length ≤ 100000000 := by rw [hL, List.length_append]; exact HLN.out
  have HSL := Aside0.mk (And.intro hsl hll)
  rw [← hL]
  clear hL hsl hll
  go_enter Tryd.func39, Tryd.ntmps39
  go_wp2_with (first
    | ((with_reducible refine gate_builtin (b := .append) (xs := #[.tmp 12, .tmp 16]) rfl ?_); at_builtin; refine Kd.R_append_rows (Kd.int .u8) (w0 := W) (W := W.alloc (.cells #[] 5)) W.heap.size rfl (.tmp 12) (.tmp 16) 22 5 (.int .u8 0) 1 rfl Tryd.underlying22 info5 rfl (by decide) (by decide) (.slice (some ⟨W.heap.size, 0, none⟩) 0 0) [] (ints cl) Ac cl.length cc (fun _ => True) (fun _ => False) rfl rfl ?aN ?aR (fun _ _ h => h) (fun _ h => h.elim) (fun _ _ => trivial) ?aB ?aS ?aL ?_; (case aN => exact HE.out); (case aR => exact Kd.C_below HCV.out.reads.2.2 HBA.out); (case aB => exact HBA.out); (case aS => exact HBA.out.size); (case aL => have := HLN.out; simp only [List.length_nil]; omega); intro v2 w2 hn2 hb2 hg2 hat2; have HN2 := Aside0.mk (show Byr w2 W.heap.size v2 cl from hn2); have HB2 := Aside0.mk hb2; clear hn2 hb2 hg2 hat2)
    | ((with_reducible refine gate_builtin (b := .append) (xs := #[.tmp 17, .tmp 18]) rfl ?_); at_builtin; refine Kd.R_append_rows (Kd.int .u8) (w0 := W) (W := w2) W.heap.size rfl (.tmp 17) (.tmp 18) 22 5 (.int .u8 0) 1 rfl Tryd.underlying22 info5 rfl (by decide) (by decide) v2 (ints cl) (ints p) A p.length cp (fun _ => True) (fun _ => False) rfl rfl ?aN ?aR (fun _ _ h => h) (fun _ h => h.elim) (fun _ _ => trivial) ?aB ?aS ?aL ?_; (case aN => exact HN2.out); (case aR => exact Kd.C_below HC.out HB2.out); (case aB => exact HB2.out); (case aS => exact HB2.out.size); (case aL => have := HLN.out; rw [List.length_map]; omega); intro v3 w3 hn3 hb3 hg3 hat3; have hn3' : Byr w3 W.heap.size v3 L := (by rw [HLL.out]; unfold Byr; rw [ints, List.map_append]; exact hn3); obtain ⟨A3, c3, rfl⟩ := hn3'.slice; have HN3 := Aside0.mk hn3'; have HB3 := Aside0.mk hb3; clear hn3 hb3 hg3 hat3 hn3'))
  have hsl3 : W.heap.size ≤ w3.heap.size := HB3.out.size
  have HS3 := Aside0.mk hsl3
  have HD3 := Aside0.mk ((HB3.out.block D hlt).trans HD.out)
  clear hsl3
  go_loopw [5, 6] (fun av ov wr => ∃ (rest : List Nat) (done : List (List Nat)) (Aa : Option Addr) (ca : Nat), av = .slice Aa rest.length ca ∧ rest.length ≤ ca ∧ Kd.C (Kd.int .u8) w3 Aa rest.length (ints rest) ∧ Byr wr w3.heap.size ov done.flatten ∧ dec L = (done ++ (dec rest).1, (dec rest).2) ∧ Below w3.heap.size w3 wr ∧ Small rest ∧ done.flatten.length + 3 * rest.length ≤ 3 * L.length)
    (fun av _ _ => lenOf av)
  case atStart =>
    have hr := HN3.out.reads
    exact ⟨L, [], A3, c3, rfl, hr.2.1, hr.2.2, Byr.nil _ _, rfl, Below.refl _ _, HSL.out.1, by simp⟩
  case round =>
    obtain ⟨rest, done, Aa, ca, rfl, hca, hCr, hov, hdec, hbw, hsr, hln⟩ := hrel
    obtain ⟨fl, hfl⟩ : ∃ fl, fl = done.flatten := ⟨_, rfl⟩
    rw [← hfl] at hov hln
    have HFL := Aside0.mk hfl
    clear hfl
    obtain ⟨Ao, co, rfl⟩ := hov.slice
    have hdl : D < wr.heap.size := by have := hbw.size; have := HS3.out; omega
    have hDr := (hbw.block D (by have := HS3.out; omega)).trans HD3.out
    have HDwr := Aside0.mk hDr
    have HDLwr := Aside0.mk (show D < (wr.alloc (.cells #[] 5)).heap.size by rw [alloc_size]; omega)
    have HRB := Aside0.mk (show (0 + rest.length) * 1 ≤ 140737488355328 ∧ rest.length ≤ L.length by have := HSL.out.2; omega)
    have HCr := Aside0.mk hCr
    have HCwr := Aside0.mk (Kd.C_below hCr hbw)
    have HOV := Aside0.mk hov
    have HDEC := Aside0.mk hdec
    have HBW := Aside0.mk hbw
    have HSR := Aside0.mk (And.intro hsr hln)
    clear hDr hCr hov hdec hbw hsr hln
    cases hre : rest with
    | nil =>
      subst hre
      have hdn : dec L = (done, []) := by rw [HDEC.out, dec_nil, List.append_nil]
      have HDN := Aside0.mk hdn
      clear hdn
      go_wp2_with (first
        | ((with_reducible refine gate_builtin (b := .append) (xs := #[.tmp 42, .tmp 43]) rfl ?_); at_builtin; refine Kd.R_append_rows (Kd.int .u8) (w0 := wr) (W := (wr.alloc (.cells #[] 5))) wr.heap.size rfl (.tmp 42) (.tmp 43) 22 5 (.int .u8 0) 1 rfl Tryd.underlying22 info5 rfl (by decide) (by decide) (.slice (some ⟨wr.heap.size, 0, none⟩) 0 0) [] (ints []) Aa 0 ca (fun _ => True) (fun _ => False) rfl rfl ?aN ?aR (fun _ _ h => h) (fun _ h => h.elim) (fun _ _ => trivial) ?aB ?aS ?aL ?_; (case aN => exact Byr.empty wr (Nat.le_refl _)); (case aR => exact Kd.C_below HCwr.out ((Below.refl _ _).alloc (Nat.le_refl _) _)); (case aB => exact ((Below.refl wr.heap.size wr).alloc (Nat.le_refl _) (.cells #[] 5))); (case aS => exact (((Below.refl wr.heap.size wr).alloc (Nat.le_refl _) (.cells #[] 5))).size); (case aL => have := HRB.out.1; simp only [List.length_nil]; omega); intro v6 w6 hn6 hb6 hg6 hat6; have hn6' : Byr w6 wr.heap.size v6 [] := hn6; obtain ⟨A6, c6, hv6⟩ := hn6'.slice; have hD6 := (hb6.block D (Array.getElem?_eq_some_iff.1 HDwr.out).1).trans HDwr.out; have s0 : w6.cell? ⟨D, 0, none⟩ = some (.slice Ac cl.length cc) := (by simp [World.cell?, hD6]); have sf : w6.frozen? ⟨D, 0, none⟩ = false := Joins.unfrozen_of_block hD6 0; have hl6 : D < w6.heap.size := (Array.getElem?_eq_some_iff.1 hD6).1; have HN6 := Aside0.mk hn6'; have HB6 := Aside0.mk hb6; have HD6 := Aside0.mk hD6; subst hv6; clear hn6 hb6 hg6 hat6 hn6' hD6))
      have hfe := feed_end HD6.out ((HB3.out.trans (HBW.out.mono HS3.out)).trans (HB6.out.mono (Nat.le_trans HS3.out HBW.out.size))) HB.out HBD.out ((HOV.out.below HB6.out).lower HS3.out) (HN6.out.lower (Nat.le_trans HS3.out HBW.out.size))
      go_ret
      refine ⟨_, _, rfl, ?_, ?_, hfe.2.2.1, hfe.2.2.2.1, hfe.2.2.2.2⟩
      · rw [HDN.out, ← HFL.out]; exact hfe.1
      · rw [HDN.out]; exact hfe.2.1
    | cons b r =>
      have HRE := Aside0.mk hre
      have hne : rest ≠ [] := by rw [hre]; simp
      have HNE := Aside0.mk hne
      have hr0 : 0 < rest.length := List.length_pos_iff.2 hne
      have hr1 : (0 : Int) < (rest.length : Int) := by omega
      rw [← hre]
      obtain ⟨nn, hnn⟩ : ∃ nn, nn = (first rest).1 := ⟨_, rfl⟩
      have hfb := first_bounds hne
      have HNN := Aside0.mk hnn
      rw [← hnn] at hfb
      clear hre hne hnn
      by_cases ho : (first rest).2.2 = true
      · have HO := Aside0.mk ho
        have hdn : dec L = (done, rest) := by rw [HDEC.out, dec_open HNE.out ho, List.append_nil]
        have HDN := Aside0.mk hdn
        clear ho hdn
        go_wp2_with (first
          | (go_at_call 61; (with_reducible refine (first_at b r HRE.out Aa ca rfl HSR.out.1 (by have := HSL.out.2; have := HRB.out.2; omega) _ HCwr.out).mono ?_); rintro e w4 ⟨rfl, hb4⟩; rw [← HNN.out, HO.out]; have HD4 := Aside0.mk ((hb4.block D hdl).trans HDwr.out); have HB4 := Aside0.mk (HBW.out.trans (hb4.mono HBW.out.size)); have HOV4 := Aside0.mk (HOV.out.below hb4); have HC4 := Aside0.mk (Kd.C_below HCwr.out hb4); clear hb4)
          | ((with_reducible refine gate_builtin (b := .append) (xs := #[.tmp 42, .tmp 43]) rfl ?_); at_builtin; refine Kd.R_append_rows (Kd.int .u8) (w0 := w4) (W := (w4.alloc (.cells #[] 5))) w4.heap.size rfl (.tmp 42) (.tmp 43) 22 5 (.int .u8 0) 1 rfl Tryd.underlying22 info5 rfl (by decide) (by decide) (.slice (some ⟨w4.heap.size, 0, none⟩) 0 0) [] (ints rest) Aa rest.length ca (fun _ => True) (fun _ => False) rfl rfl ?aN ?aR (fun _ _ h => h) (fun _ h => h.elim) (fun _ _ => trivial) ?aB ?aS ?aL ?_; (case aN => exact Byr.empty w4 (Nat.le_refl _)); (case aR => exact Kd.C_below HC4.out ((Below.refl _ _).alloc (Nat.le_refl _) _)); (case aB => exact ((Below.refl w4.heap.size w4).alloc (Nat.le_refl _) (.cells #[] 5))); (case aS => exact (((Below.refl w4.heap.size w4).alloc (Nat.le_refl _) (.cells #[] 5))).size); (case aL => have := HRB.out.1; simp only [List.length_nil]; omega); intro v6 w6 hn6 hb6 hg6 hat6; have hn6' : Byr w6 w4.heap.size v6 rest := hn6; obtain ⟨A6, c6, hv6⟩ := hn6'.slice; have hD6 := (hb6.block D (Array.getElem?_eq_some_iff.1 HD4.out).1).trans HD4.out; have s0 : w6.cell? ⟨D, 0, none⟩ = some (.slice Ac cl.length cc) := (by simp [World.cell?, hD6]); have sf : w6.frozen? ⟨D, 0, none⟩ = false := Joins.unfrozen_of_block hD6 0; have hl6 : D < w6.heap.size := (Array.getElem?_eq_some_iff.1 hD6).1; have HN6 := Aside0.mk hn6'; have HB6 := Aside0.mk hb6; have HD6 := Aside0.mk hD6; subst hv6; clear hn6 hb6 hg6 hat6 hn6' hD6))
        have hfe := feed_end HD6.out ((HB3.out.trans (HB4.out.mono HS3.out)).trans (HB6.out.mono (Nat.le_trans HS3.out HB4.out.size))) HB.out HBD.out ((HOV4.out.below HB6.out).lower HS3.out) (HN6.out.lower (Nat.le_trans HS3.out HB4.out.size))
        go_ret
        refine ⟨_, _, rfl, ?_, ?_, hfe.2.2.1, hfe.2.2.2.1, hfe.2.2.2.2⟩
        · rw [HDN.out, ← HFL.out]; exact hfe.1
        · rw [HDN.out]; exact hfe.2.1
      · have ho' : (first rest).2.2 = false := by simpa using ho
        have HO := Aside0.mk ho'
        have hdn := dec_step HNE.out ho'
        rw [← HNN.out] at hdn
        have HDN := Aside0.mk hdn
        obtain ⟨A', hcut, hcutC⟩ := cut_from Aa rest.length ca nn hfb.2
        have HCUT := Aside0.mk (hcutC w3 rest hca HCr.out)
        have hnn1 : (0 : Int) ≤ (nn : Int) ∧ (nn : Int) ≤ (rest.length : Int) := by omega
        have hnn2 : nn ≤ ca := by omega
        have HFB := Aside0.mk hfb
        have HBND := Aside0.mk (show (fl.length + nn) * 1 ≤ 140737488355328 ∧ fl.length + 3 ≤ 140737488355328 by have := HSR.out.2; have := HRB.out.2; have := HSL.out.2; omega)
        clear ho ho' hdn hcutC
        by_cases hg : (first rest).2.1 = true
        · have HG := Aside0.mk hg
          rw [hg, if_pos rfl] at HDN
          clear hg
          go_wp2_with (first
            | (go_at_call 61; (with_reducible refine (first_at b r HRE.out Aa ca rfl HSR.out.1 (by have := HSL.out.2; have := HRB.out.2; omega) _ HCwr.out).mono ?_); rintro e w4 ⟨rfl, hb4⟩; rw [← HNN.out, HO.out, HG.out]; have HB4 := Aside0.mk (HBW.out.trans (hb4.mono HBW.out.size)); have HOV4 := Aside0.mk (HOV.out.below hb4); have HC4 := Aside0.mk (Kd.C_below HCwr.out hb4); clear hb4)
            | ((with_reducible refine gate_builtin (b := .append) (xs := #[.tmp 31, .tmp 34]) rfl ?_); at_builtin; refine Kd.R_append_rows (Kd.int .u8) (w0 := w3) (W := w4) w3.heap.size rfl (.tmp 31) (.tmp 34) 22 5 (.int .u8 0) 1 rfl Tryd.underlying22 info5 rfl (by decide) (by decide) (.slice Ao fl.length co) (ints fl) (ints (rest.take nn)) Aa nn ca (fun _ => True) (fun _ => False) rfl rfl ?aN ?aR (fun _ _ h => h) (fun _ h => h.elim) (fun _ _ => trivial) ?aB ?aS ?aL ?_; (case aN => exact HOV4.out); (case aR => exact take_C HC4.out HFB.out.2); (case aB => exact HB4.out); (case aS => exact (HB4.out).size); (case aL => have := HBND.out.1; rw [List.length_map]; exact this); intro v5 w5 hn5 hb5 hg5 hat5; have hn5' : Byr w5 w3.heap.size v5 (fl ++ rest.take nn) := (by unfold Byr; rw [ints, List.map_append]; exact hn5); obtain ⟨A5, c5, rfl⟩ := hn5'.slice; have HN5 := Aside0.mk hn5'; have HB5 := Aside0.mk hb5; clear hn5 hb5 hg5 hat5 hn5'))
          go_roundw
          case rel =>
            have h5 := HN5.out
            rw [show (fl ++ rest.take nn).length = fl.length + nn by rw [List.length_append, List.length_take, Nat.min_eq_left HFB.out.2]] at h5
            refine ⟨rest.drop nn, done ++ [rest.take nn], A', ca - nn, by rw [List.length_drop], by rw [List.length_drop]; omega, by rw [List.length_drop]; exact HCUT.out, ?_, ?_, HB5.out, fun x hx => HSR.out.1 x (List.mem_of_mem_drop hx), ?_⟩
            · rw [List.flatten_append, ← HFL.out, List.flatten_cons, List.flatten_nil, List.append_nil]; exact h5
            · rw [HDEC.out, HDN.out, List.append_assoc]; rfl
            · rw [List.flatten_append, ← HFL.out, List.flatten_cons, List.flatten_nil, List.append_nil, List.length_append, List.length_take, List.length_drop]
              have := HSR.out.2
              omega
          case measure =>
            show rest.length - nn < rest.length
            omega
        · have hg' : (first rest).2.1 = false := by simpa using hg
          have HG := Aside0.mk hg'
          rw [hg', if_neg (by decide)] at HDN
          clear hg hg'
          go_wp2_with (first
            | (go_at_call 61; (with_reducible refine (first_at b r HRE.out Aa ca rfl HSR.out.1 (by have := HSL.out.2; have := HRB.out.2; omega) _ HCwr.out).mono ?_); rintro e w4 ⟨rfl, hb4⟩; rw [← HNN.out, HO.out, HG.out]; have HB4 := Aside0.mk (HBW.out.trans (hb4.mono HBW.out.size)); have HOV4 := Aside0.mk (HOV.out.below hb4); have HC4 := Aside0.mk (Kd.C_below HCwr.out hb4); clear hb4)
            | ((with_reducible refine gate_builtin (b := .append) (xs := #[.tmp 36, .const (.string ⟨#[239, 191, 189]⟩)]) rfl ?_); at_builtin; refine print_append_str (w0 := w3) (W := w4) w3.heap.size rfl (.tmp 36) (.const (.string ⟨#[239, 191, 189]⟩)) 22 9 5 rfl Tryd.underlying22 Tryd.underlying9 info5 (.slice Ao fl.length co) (ints fl) ⟨#[239, 191, 189]⟩ rfl rfl ?aN ?aB ?aS ?aL ?_; (case aN => exact Kd.own_of_R HOV4.out); (case aB => exact HB4.out); (case aS => exact HB4.out.size); (case aL => have := HBND.out.2; rw [List.length_map]; exact this); intro v5 w5 hn5 hb5 hg5; have hn5' : Byr w5 w3.heap.size v5 (fl ++ repl) := own_byr (l := fl ++ repl) (by rw [ints, List.map_append]; exact hn5); obtain ⟨A5, c5, rfl⟩ := hn5'.slice; have HN5 := Aside0.mk hn5'; have HB5 := Aside0.mk hb5; clear hn5 hb5 hg5 hn5'))
          go_roundw
          case rel =>
            have h5 := HN5.out
            rw [List.length_append] at h5
            refine ⟨rest.drop nn, done ++ [repl], A', ca - nn, by rw [List.length_drop], by rw [List.length_drop]; omega, by rw [List.length_drop]; exact HCUT.out, ?_, ?_, HB5.out, fun x hx => HSR.out.1 x (List.mem_of_mem_drop hx), ?_⟩
            · rw [List.flatten_append, ← HFL.out, List.flatten_cons, List.flatten_nil, List.append_nil]; exact h5
            · rw [HDEC.out, HDN.out, List.append_assoc]; rfl
            · rw [List.flatten_append, ← HFL.out, List.flatten_cons, List.flatten_nil, List.append_nil, List.length_append, List.length_drop]
              have := HSR.out.2
              show fl.length + 3 + _ ≤ _
              omega
          case measure =>
            show rest.length - nn < rest.length
            omega
end Go.Proofs.YtfplocpjdjjoaaaDoor.Cut
namespace Go.Proofs.YtfplocpjdjjoaaaDoor.Cut
open Go Go.RowKit Go.Proofs.YtfplocpjdjjoaaaDoor.Trail Go.Proofs.YtfplocpjdjjoaaaDoor.Ctxs Go.Proofs.YtfplocpjdjjoaaaDoorW.PrintWords
set_option linter.unusedVariables false
set_option linter.unusedSimpArgs false
theorem new_calls (W : World) : Calls Tryd.prog 35 #[] W fun e W' => e = .returned (.pointer (some ⟨W.heap.size, 0, none⟩)) ∧ W' = W.alloc (.cells #[.slice none 0 0] 127) := by
  go_enter Tryd.func35, Tryd.ntmps35
  go_wp2
  go_ret
  exact ⟨rfl, rfl⟩
/-- A decoder in memory: its bytes that wait. -/
def Dcd (W : World) (base D : Nat) (cl : List Nat) : Prop := ∃ cv, W.heap[D]? = some (.cells #[cv] 127 (0, 0)) ∧ Byr W base cv cl
theorem Dcd.lt {W : World} {base D : Nat} {cl : List Nat} (h : Dcd W base D cl) : D < W.heap.size := by
  obtain ⟨cv, h, -⟩ := h
  exact (Array.getElem?_eq_some_iff.1 h).1
theorem Dcd.below {W V : World} {base D : Nat} {cl : List Nat} (h : Dcd W base D cl) (hb : Below W.heap.size W V) : Dcd V base D cl := by
  have hl := h.lt
  obtain ⟨cv, h1, h2⟩ := h
  exact ⟨cv, (hb.block D hl).trans h1, h2.below hb⟩
theorem Dcd.lower {W : World} {base b' D : Nat} {cl : List Nat} (h : Dcd W base D cl) (hb : b' ≤ base) : Dcd W b' D cl := by
  obtain ⟨cv, h1, h2⟩ := h
  exact ⟨cv, h1, h2.lower hb⟩
theorem dcd_new (W : World) (base : Nat) : Dcd (W.alloc (.cells #[.slice none 0 0] 127)) base W.heap.size [] := ⟨_, alloc_last W _, Byr.nil _ _⟩
/-- A row of bytes that can be read. -/
def Rdb (W : World) (v : Value) (l : List Nat) : Prop := ∃ A c, v = .slice A l.length c ∧ l.length ≤ c ∧ Kd.C (Kd.int .u8) W A l.length (ints l)
theorem Byr.rdb {W : World} {base : Nat} {v : Value} {l : List Nat} (h : Byr W base v l) : Rdb W v l := by
  obtain ⟨A, c, rfl⟩ := h.slice
  exact ⟨A, c, rfl, h.reads.2.1, h.reads.2.2⟩
theorem Rdb.below {W V : World} {v : Value} {l : List Nat} (h : Rdb W v l) (hb : Below W.heap.size W V) : Rdb V v l := by
  obtain ⟨A, c, h1, h2, h3⟩ := h
  exact ⟨A, c, h1, h2, Kd.C_below h3 hb⟩
theorem rdb_repl {W : World} {fz : Nat × Nat} {g : Nat} (h : W.heap[g]? = some (.cells #[.int .u8 239, .int .u8 191, .int .u8 189] 5 fz)) : Rdb W (.slice (some ⟨g, 0, none⟩) 3 3) repl := by
  refine ⟨_, 3, rfl, Nat.le_refl _, Kd.C_of_reads (enc := Value.int .u8) (d := (0 : Int)) (h1 := fun _ => rfl) ⟨rfl, by decide, fun _ => ⟨_, rfl, fun j hj => ?_⟩⟩⟩
  have hj3 : j = 0 ∨ j = 1 ∨ j = 2 := by have : repl.length = 3 := rfl; omega
  rcases hj3 with rfl | rfl | rfl <;> (rw [add_plain]; simp [World.cell?, h, ints, repl])
set_option maxHeartbeats 4000000 in
set_option maxRecDepth 100000 in
theorem finish_calls (D : Nat) (w0 W : World) (cl : List Nat) (hD : Dcd W w0.heap.size D cl) (hb : w0.heap.size ≤ D) (hB : Below w0.heap.size w0 W) :
    Calls Tryd.prog 40 #[.pointer (some ⟨D, 0, none⟩)] W fun e W' => ∃ v, e = .returned v ∧ Rdb W' v (fin cl).flatten ∧ Dcd W' w0.heap.size D [] ∧ Kept W W' (fun q => q = D) ∧ Below w0.heap.size w0 W' := by
  obtain ⟨cv, hD, hc⟩ := hD
  obtain ⟨Ac, cc, rfl⟩ := hc.slice
  have hlt : D < W.heap.size := (Array.getElem?_eq_some_iff.1 hD).1
  have y0 : W.cell? ⟨D, 0, none⟩ = some (.slice Ac cl.length cc) := by simp [World.cell?, hD]
  have yf : W.frozen? ⟨D, 0, none⟩ = false := Joins.unfrozen_of_block hD 0
  have hlf : D < W.heap.size + 1 := by omega
  have hDW : D ≠ W.heap.size := by omega
  have HD := Aside0.mk hD
  have HB := Aside0.mk hB
  have HC := Aside0.mk hc
  have HBD := Aside0.mk hb
  by_cases hcl : cl = []
  · subst hcl
    clear hD hB hb
    go_enter Tryd.func40, Tryd.ntmps40
    go_wp2
    go_ret
    exact ⟨_, rfl, (Byr.nil _ 0).rdb, ⟨_, HD.out, HC.out⟩, Kept.refl _ _, HB.out⟩
  · have h1 : ((cl.length : Int) == 0) = false := by rw [beq_eq_false_iff_ne]; have := List.length_pos_iff.2 hcl; omega
    have h2 : ¬ cl.length = 0 := by have := List.length_pos_iff.2 hcl; omega
    have HCL := Aside0.mk hcl
    have kc := Joins.run_convert_bytes_const_at (P := Tryd.prog) (W.setCell ⟨D, 0, none⟩ (.slice none 0 0)) 22 5 #[.int .u8 239, .int .u8 191, .int .u8 189] 3 3 W.heap.size (by rw [setCell_size]) Tryd.underlying22 Tryd.underlying5
    clear hD hB hb hcl hc
    go_enter Tryd.func40, Tryd.ntmps40
    go_wp2
    go_ret
    have hn : (W.setCell ⟨D, 0, none⟩ (.slice none 0 0)).heap.size = W.heap.size := setCell_size _ _ _
    have hnew := alloc_at (w := W.setCell ⟨D, 0, none⟩ (.slice none 0 0)) (o := .cells #[.int .u8 239, .int .u8 191, .int .u8 189] 5 (3, 4)) (g := W.heap.size) hn.symm
    have hfin : (fin cl).flatten = repl := by unfold fin; rw [if_neg HCL.out]; rfl
    rw [hfin]
    refine ⟨_, rfl, rdb_repl hnew, ⟨.slice none 0 0, ?_, Byr.nil _ _⟩, ((Kept.refl W (fun q => q = D)).setCell (p := ⟨D, 0, none⟩) (.inl rfl) _).alloc _, (HB.out.setCell (p := ⟨D, 0, none⟩) HBD.out _).alloc (by rw [hn]; exact HB.out.size) _⟩
    rw [alloc_old (by rw [hn]; exact hlt)]
    exact Joins.block_setCell (i := 0) HD.out _
set_option maxHeartbeats 4000000 in
set_option maxRecDepth 100000 in
theorem carry_calls (D : Nat) (W : World) (base : Nat) (cl : List Nat) (hD : Dcd W base D cl) (hlen : cl.length ≤ 100000000) :
    Calls Tryd.prog 42 #[.pointer (some ⟨D, 0, none⟩)] W fun e W' => ∃ v, e = .returned v ∧ Byr W' W.heap.size v cl ∧ Below W.heap.size W W' := by
  obtain ⟨cv, hD, hc⟩ := hD
  obtain ⟨Ac, cc, rfl⟩ := hc.slice
  have hlt : D < W.heap.size := (Array.getElem?_eq_some_iff.1 hD).1
  have y0 : W.cell? ⟨D, 0, none⟩ = some (.slice Ac cl.length cc) := by simp [World.cell?, hD]
  have HC := Aside0.mk hc
  have HL := Aside0.mk hlen
  clear hD hc hlen
  go_enter Tryd.func42, Tryd.ntmps42
  go_wp2_with ((with_reducible refine gate_builtin (b := .append) (xs := #[.const (.slice none 0 0), .tmp 8]) rfl ?_); at_builtin; refine Kd.R_append_rows (Kd.int .u8) (w0 := W) (W := W) W.heap.size rfl (.const (.slice none 0 0)) (.tmp 8) 22 5 (.int .u8 0) 1 rfl Tryd.underlying22 info5 rfl (by decide) (by decide) (.slice none 0 0) [] (ints cl) Ac cl.length cc (fun _ => True) (fun _ => False) rfl rfl ?aN ?aR (fun _ _ h => h) (fun _ h => h.elim) (fun _ _ => trivial) ?aB ?aS ?aL ?_; (case aN => exact Byr.nil _ _); (case aR => exact HC.out.reads.2.2); (case aB => exact Below.refl _ _); (case aS => exact Nat.le_refl _); (case aL => have := HL.out; simp only [List.length_nil]; omega); intro v5 w5 hn5 hb5 hg5 hat5; have hn5' : Byr w5 W.heap.size v5 cl := hn5; obtain ⟨A5, c5, rfl⟩ := hn5'.slice; have HN5 := Aside0.mk hn5'; have HB5 := Aside0.mk hb5; clear hn5 hb5 hg5 hat5 hn5')
  go_ret
  exact ⟨_, rfl, HN5.out, HB5.out⟩
end Go.Proofs.YtfplocpjdjjoaaaDoor.Cut
namespace Go.Proofs.YtfplocpjdjjoaaaDoor.Cut
open Go Go.RowKit Go.Proofs.YtfplocpjdjjoaaaDoor.Trail Go.Proofs.YtfplocpjdjjoaaaDoor.Ctxs Go.Proofs.YtfplocpjdjjoaaaDoorW.PrintWords
set_option linter.unusedVariables false
set_option linter.unusedSimpArgs false
/-- The characters of a whole text. -/
def cleanOf (p : List Nat) : List (List Nat) := (dec p).1 ++ fin (dec p).2
theorem dec_len : ∀ (n : Nat) (p : List Nat), p.length ≤ n → (dec p).1.flatten.length + 3 * (dec p).2.length ≤ 3 * p.length
  | n, [], _ => by rw [dec_nil]; simp
  | 0, b :: r, h => by simp at h
  | n + 1, b :: r, h => by
    have hp : b :: r ≠ [] := by simp
    by_cases ho : (first (b :: r)).2.2 = true
    · rw [dec_open hp ho]; simp
    · have ho' : (first (b :: r)).2.2 = false := by simpa using ho
      have hb := first_bounds hp
      have hl := piece_len hp
      have hd : ((b :: r).drop (first (b :: r)).1).length = (b :: r).length - (first (b :: r)).1 := List.length_drop
      have := dec_len n ((b :: r).drop (first (b :: r)).1) (by omega)
      rw [dec_step hp ho', List.flatten_cons, List.length_append]
      show _ + 3 * (dec _).2.length ≤ _
      omega
theorem dec_rest_small {p : List Nat} (h : Small p) : ∀ n, p.length ≤ n → Small (dec p).2 := by
  intro n hn
  induction n generalizing p with
  | zero =>
    have : p = [] := List.eq_nil_of_length_eq_zero (by omega)
    subst this
    intro x hx
    cases hx
  | succ n ih =>
    by_cases hp : p = []
    · subst hp
      intro x hx
      cases hx
    · by_cases ho : (first p).2.2 = true
      · rw [dec_open hp ho]; exact h
      · have ho' : (first p).2.2 = false := by simpa using ho
        have hb := first_bounds hp
        rw [dec_step hp ho']
        exact ih (fun x hx => h x (List.mem_of_mem_drop hx)) (by rw [List.length_drop]; omega)
theorem small_nil : Small [] := fun x hx => by cases hx
theorem fin_len (c : List Nat) : (fin c).flatten.length ≤ 3 := by
  unfold fin
  split <;> simp [repl]
theorem feed_to {v : Value} (D : Nat) (w0 W : World) (cl p : List Nat) (hv : Rdb W v p) (hD : Dcd W w0.heap.size D cl) (hb : w0.heap.size ≤ D) (hB : Below w0.heap.size w0 W) (hcs : Small cl) (hs : Small p) (hlen : cl.length + p.length ≤ 100000000) :
    Calls Tryd.prog 39 #[.pointer (some ⟨D, 0, none⟩), v] W fun e W' => ∃ u, e = .returned u ∧ Byr W' W.heap.size u (dec (cl ++ p)).1.flatten ∧ Dcd W' w0.heap.size D (dec (cl ++ p)).2 ∧ Kept W W' (fun q => q = D) ∧ Below w0.heap.size w0 W' := by
  obtain ⟨A, c, rfl, -, hC⟩ := hv
  obtain ⟨cv, h1, h2⟩ := hD
  refine (feed_calls D w0 W cv cl p A c h1 hb hB h2 hcs hs hlen hC).mono ?_
  rintro e W' ⟨u, cv', rfl, h3, h4, h5, h6, h7⟩
  exact ⟨u, rfl, h3, ⟨cv', h5, h4.lower hB.size⟩, h6, h7⟩
set_option maxHeartbeats 4000000 in
set_option maxRecDepth 100000 in
theorem clean_calls {v : Value} (p : List Nat) (hs : Small p) (hlen : p.length ≤ 10000000) (W : World) (hv : Rdb W v p) :
    Calls Tryd.prog 44 #[v] W fun e W' => ∃ u, e = .returned u ∧ Byr W' W.heap.size u (cleanOf p).flatten ∧ Below W.heap.size W W' := by
  have HS := Aside0.mk (And.intro hs hlen)
  have HV := Aside0.mk hv
  have hb0 : Below W.heap.size W (W.alloc (.cells #[.slice none 0 0] 127)) := (Below.refl _ _).alloc (Nat.le_refl _) _
  have HB0 := Aside0.mk hb0
  obtain ⟨cs, hcs⟩ : ∃ cs, cs = (dec p).1.flatten := ⟨_, rfl⟩
  obtain ⟨rs, hrs⟩ : ∃ rs, rs = (dec p).2 := ⟨_, rfl⟩
  have hll := dec_len _ p (Nat.le_refl _)
  rw [← hcs, ← hrs] at hll
  have HCR := Aside0.mk (And.intro hcs (And.intro hrs hll))
  obtain ⟨ff, hff⟩ : ∃ ff, ff = (fin rs).flatten := ⟨_, rfl⟩
  have HFF := Aside0.mk (And.intro hff (show ff.length ≤ 3 by rw [hff]; exact fin_len rs))
  clear hs hlen hv hb0 hcs hrs hll hff
  go_enter Tryd.func44, Tryd.ntmps44
  go_wp2_with (first
    | (go_at_call 35; (with_reducible refine (new_calls _).mono ?_); rintro e w1 ⟨rfl, rfl⟩)
    | (go_at_call 39; (with_reducible refine (feed_to W.heap.size W _ [] p (HV.out.below HB0.out) (dcd_new W W.heap.size) (Nat.le_refl _) HB0.out small_nil HS.out.1 (by have := HS.out.2; simp only [List.length_nil]; omega)).mono ?_); rintro e w2 ⟨u, rfl, hu, hd, -, hb2⟩; rw [List.nil_append, ← HCR.out.1] at hu; rw [List.nil_append, ← HCR.out.2.1] at hd; obtain ⟨Au, cu, rfl⟩ := hu.slice; have HU := Aside0.mk (hu.lower HB0.out.size); have HD := Aside0.mk hd; have HB2 := Aside0.mk hb2; clear hu hd hb2)
    | (go_at_call 40; (with_reducible refine (finish_calls W.heap.size W _ rs HD.out (Nat.le_refl _) HB2.out).mono ?_); rintro e w3 ⟨x, rfl, hx, -, hk3, hb3⟩; rw [← HFF.out.1] at hx; obtain ⟨Ax, cx, rfl, hcx, hCx⟩ := hx; have HX := Aside0.mk (And.intro hcx hCx); have HB3 := Aside0.mk hb3; have HU3 := Aside0.mk (HU.out.same (V := w3) (fun q hq => hk3.2 q (HU.out.lt q hq) (by rintro rfl; obtain ⟨cv, hq1, -⟩ := HD.out; exact HU.out.ne hq1 (by decide) hq.symm))); clear hcx hCx hk3 hb3)
    | ((with_reducible refine gate_builtin (b := .append) (xs := #[.tmp 9, .tmp 11]) rfl ?_); at_builtin; refine Kd.R_append_rows (Kd.int .u8) (w0 := W) (W := w3) W.heap.size rfl (.tmp 9) (.tmp 11) 22 5 (.int .u8 0) 1 rfl Tryd.underlying22 info5 rfl (by decide) (by decide) (.slice Au cs.length cu) (ints cs) (ints ff) Ax ff.length cx (fun _ => True) (fun _ => False) rfl rfl ?aN ?aR (fun _ _ h => h) (fun _ h => h.elim) (fun _ _ => trivial) ?aB ?aS ?aL ?_; (case aN => exact HU3.out); (case aR => exact HX.out.2); (case aB => exact HB3.out); (case aS => exact HB3.out.size); (case aL => have := HCR.out.2.2; have := HS.out.2; have := HFF.out.2; rw [List.length_map]; omega); intro v5 w5 hn5 hb5 hg5 hat5; have HN5 := Aside0.mk (show Byr w5 W.heap.size v5 (cs ++ ff) by unfold Byr; rw [ints, List.map_append]; exact hn5); have HB5 := Aside0.mk hb5; clear hn5 hb5 hg5 hat5))
  go_ret
  refine ⟨_, rfl, ?_, HB5.out⟩
  rw [cleanOf, List.flatten_append, ← HCR.out.2.1, ← HFF.out.1, ← HCR.out.1]
  exact HN5.out
end Go.Proofs.YtfplocpjdjjoaaaDoor.Cut
namespace Go.Proofs.YtfplocpjdjjoaaaDoor.Cut
open Go Go.RowKit Go.Proofs.YtfplocpjdjjoaaaDoor.Trail Go.Proofs.YtfplocpjdjjoaaaDoor.Ctxs Go.Proofs.YtfplocpjdjjoaaaDoorW.PrintWords
set_option linter.unusedVariables false
set_option linter.unusedSimpArgs false
/-- The bytes of one character. -/
inductive Chr : List Nat → Prop where
  | one (a : Nat) : a < 128 → Chr [a]
  | two (a b : Nat) : 194 ≤ a → a ≤ 223 → 128 ≤ b → b ≤ 191 → Chr [a, b]
  | three (a b d : Nat) : 224 ≤ a → a ≤ 239 → 128 ≤ b → b ≤ 191 → (a = 224 → 160 ≤ b) → (a = 237 → b ≤ 159) → 128 ≤ d → d ≤ 191 → Chr [a, b, d]
  | four (a b d e : Nat) : 240 ≤ a → a ≤ 244 → 128 ≤ b → b ≤ 191 → (a = 240 → 144 ≤ b) → (a = 244 → b ≤ 143) → 128 ≤ d → d ≤ 191 → 128 ≤ e → e ≤ 191 → Chr [a, b, d, e]
theorem chr_repl : Chr repl := .three 239 191 189 (by omega) (by omega) (by omega) (by omega) (by omega) (by omega) (by omega) (by omega)
theorem chr_ne {c : List Nat} (h : Chr c) : c ≠ [] := by cases h <;> simp
theorem chr_small {c : List Nat} (h : Chr c) : Small c := by
  intro x hx
  cases h <;> simp at hx <;> omega
/-- The number of a character. -/
def val : List Nat → Nat
  | [a] => a
  | [a, b] => (a % 32) * 64 + b % 64
  | [a, b, d] => (a % 16) * 4096 + (b % 64) * 64 + d % 64
  | [a, b, d, e] => (a % 8) * 262144 + (b % 64) * 4096 + (d % 64) * 64 + e % 64
  | _ => 65533
theorem fits_good : ∀ (t : List (Nat × Nat)) (r : List Nat) (n : Nat), (fits t r n).2.1 = true → (fits t r n).1 = n + t.length ∧ t.length ≤ r.length ∧ ∀ (i : Nat) (s : Nat × Nat) (x : Nat), t[i]? = some s → r[i]? = some x → s.1 ≤ x ∧ x ≤ s.2
  | [], r, n, h => ⟨by cases r <;> rfl, Nat.zero_le _, fun i s x hs _ => by simp at hs⟩
  | s :: t, [], n, h => by cases h
  | s :: t, x :: r, n, h => by
    rw [fits_cons] at h ⊢
    by_cases hx : x < s.1 ∨ s.2 < x
    · rw [if_pos hx] at h
      cases h
    · rw [if_neg hx] at h ⊢
      obtain ⟨h1, h2, h3⟩ := fits_good t r (n + 1) h
      refine ⟨by rw [h1, List.length_cons]; omega, by simp only [List.length_cons]; omega, fun i s' x' hs hr => ?_⟩
      cases i with
      | zero =>
        simp only [List.getElem?_cons_zero, Option.some.injEq] at hs hr
        subst hs hr
        omega
      | succ i => exact h3 i s' x' (by simpa using hs) (by simpa using hr)
theorem tail_one {b : Nat} {r : List Nat} (lo hi : Nat) (h : (fits [(lo, hi)] r 1).2.1 = true) : ∃ x, (b :: r).take (fits [(lo, hi)] r 1).1 = [b, x] ∧ lo ≤ x ∧ x ≤ hi := by
  obtain ⟨h1, h2, h3⟩ := fits_good _ _ _ h
  match r, h2, h3 with
  | x :: r, _, h3 => exact ⟨x, by rw [h1]; rfl, h3 0 _ x rfl rfl⟩
theorem tail_two {b : Nat} {r : List Nat} (l1 u1 l2 u2 : Nat) (h : (fits [(l1, u1), (l2, u2)] r 1).2.1 = true) : ∃ x y, (b :: r).take (fits [(l1, u1), (l2, u2)] r 1).1 = [b, x, y] ∧ (l1 ≤ x ∧ x ≤ u1) ∧ l2 ≤ y ∧ y ≤ u2 := by
  obtain ⟨h1, h2, h3⟩ := fits_good _ _ _ h
  match r, h2, h3 with
  | x :: y :: r, _, h3 => exact ⟨x, y, by rw [h1]; rfl, h3 0 _ x rfl rfl, h3 1 _ y rfl rfl⟩
theorem tail_three {b : Nat} {r : List Nat} (l1 u1 l2 u2 l3 u3 : Nat) (h : (fits [(l1, u1), (l2, u2), (l3, u3)] r 1).2.1 = true) : ∃ x y z, (b :: r).take (fits [(l1, u1), (l2, u2), (l3, u3)] r 1).1 = [b, x, y, z] ∧ (l1 ≤ x ∧ x ≤ u1) ∧ (l2 ≤ y ∧ y ≤ u2) ∧ l3 ≤ z ∧ z ≤ u3 := by
  obtain ⟨h1, h2, h3⟩ := fits_good _ _ _ h
  match r, h2, h3 with
  | x :: y :: z :: r, _, h3 => exact ⟨x, y, z, by rw [h1]; rfl, h3 0 _ x rfl rfl, h3 1 _ y rfl rfl, h3 2 _ z rfl rfl⟩
/-- A good first piece is a character. -/
theorem good_chr (p : List Nat) (hp : p ≠ []) (hg : (first p).2.1 = true) : Chr (p.take (first p).1) := by
  cases p with
  | nil => exact absurd rfl hp
  | cons b r =>
    rw [first_cons] at hg ⊢
    by_cases h8 : b < 128
    · rw [if_pos h8]
      exact .one b h8
    rw [if_neg h8] at hg ⊢
    by_cases ht : tailOf b = []
    · rw [if_pos ht] at hg
      cases hg
    rw [if_neg ht] at hg ⊢
    generalize hT : tailOf b = t at hg ht ⊢
    unfold tailOf at hT
    repeat' split at hT
    all_goals subst hT
    · obtain ⟨x, e, h1, h2⟩ := tail_one (b := b) _ _ hg
      rw [e]
      exact .two b x (by omega) (by omega) h1 h2
    · obtain ⟨x, y, e, h1, h2⟩ := tail_two (b := b) _ _ _ _ hg
      rw [e]
      exact .three b x y (by omega) (by omega) (by omega) (by omega) (by omega) (by omega) (by omega) (by omega)
    · obtain ⟨x, y, e, h1, h2⟩ := tail_two (b := b) _ _ _ _ hg
      rw [e]
      exact .three b x y (by omega) (by omega) (by omega) (by omega) (by omega) (by omega) (by omega) (by omega)
    · obtain ⟨x, y, e, h1, h2⟩ := tail_two (b := b) _ _ _ _ hg
      rw [e]
      exact .three b x y (by omega) (by omega) (by omega) (by omega) (by omega) (by omega) (by omega) (by omega)
    · obtain ⟨x, y, z, e, h1, h2, h3⟩ := tail_three (b := b) _ _ _ _ _ _ hg
      rw [e]
      exact .four b x y z (by omega) (by omega) (by omega) (by omega) (by omega) (by omega) (by omega) (by omega) (by omega) (by omega)
    · obtain ⟨x, y, z, e, h1, h2, h3⟩ := tail_three (b := b) _ _ _ _ _ _ hg
      rw [e]
      exact .four b x y z (by omega) (by omega) (by omega) (by omega) (by omega) (by omega) (by omega) (by omega) (by omega) (by omega)
    · obtain ⟨x, y, z, e, h1, h2, h3⟩ := tail_three (b := b) _ _ _ _ _ _ hg
      rw [e]
      exact .four b x y z (by omega) (by omega) (by omega) (by omega) (by omega) (by omega) (by omega) (by omega) (by omega) (by omega)
    · exact absurd rfl ht
/-- What is decoded is characters. -/
theorem dec_chr : ∀ (n : Nat) (p : List Nat), p.length ≤ n → ∀ c ∈ (dec p).1, Chr c
  | n, [], _, c, hc => by rw [dec_nil] at hc; cases hc
  | 0, b :: r, h, c, hc => by simp at h
  | n + 1, b :: r, h, c, hc => by
    have hp : b :: r ≠ [] := by simp
    by_cases ho : (first (b :: r)).2.2 = true
    · rw [dec_open hp ho] at hc; cases hc
    · have ho' : (first (b :: r)).2.2 = false := by simpa using ho
      have hb := first_bounds hp
      rw [dec_step hp ho'] at hc
      rcases List.mem_cons.1 hc with rfl | hc
      · by_cases hg : (first (b :: r)).2.1 = true
        · rw [if_pos hg]; exact good_chr _ hp hg
        · rw [if_neg hg]; exact chr_repl
      · exact dec_chr n _ (by rw [List.length_drop]; simp only [List.length_cons] at h ⊢; omega) c hc
theorem fin_chr (c : List Nat) : ∀ x ∈ fin c, Chr x := by
  unfold fin
  split
  · intro x hx; cases hx
  · intro x hx
    rw [List.mem_singleton] at hx
    rw [hx]
    exact chr_repl
theorem clean_chr (p : List Nat) : ∀ c ∈ cleanOf p, Chr c := fun c hc => by
  rcases List.mem_append.1 hc with h | h
  · exact dec_chr _ p (Nat.le_refl _) c h
  · exact fin_chr _ c h
/-! #### As Go reads and writes them -/
theorem get_at {l : List Nat} (hs : Small l) {j x : Nat} (hx : l[j]? = some x) : ((bs l).get! j).toNat = x := by
  obtain ⟨hj, hx'⟩ := List.getElem?_eq_some_iff.1 hx
  have hb : x < 256 := hs x (List.mem_of_getElem? hx)
  have : (bs l).get! j = x.toUInt8 := by
    simp [ByteArray.get!, bs, hj, hx']
  rw [this]
  simp [Nat.toUInt8, Nat.mod_eq_of_lt hb]
theorem decode_chr {l : List Nat} (hs : Small l) (i : Nat) {c : List Nat} (hc : Chr c) (hi : ∀ k x, c[k]? = some x → l[i + k]? = some x) : Utf8.decode (bs l) i = (val c, c.length) := by
  have hsz : (bs l).size = l.length := bs_size l
  have hget : ∀ k x, c[k]? = some x → ((bs l).get! (i + k)).toNat = x ∧ i + k < l.length := fun k x hx => ⟨get_at hs (hi k x hx), (List.getElem?_eq_some_iff.1 (hi k x hx)).1⟩
  cases hc with
  | one a h =>
    obtain ⟨g0, l0⟩ := hget 0 a rfl
    unfold Utf8.decode
    simp only [g0, if_pos h]
    rfl
  | two a b h1 h2 h3 h4 =>
    obtain ⟨g0, l0⟩ := hget 0 a rfl
    obtain ⟨g1, l1⟩ := hget 1 b rfl
    unfold Utf8.decode
    have e1 : ¬ a < 128 := by omega
    have e2 : a / 32 = 6 := by omega
    have e3 : b / 64 = 2 := by omega
    have e4 : a % 32 * 64 + b % 64 ≥ 128 := by omega
    simp only [g0, g1, hsz, e1, e2, e3, l1, e4, if_true, if_false, decide_true, Bool.and_self, beq_self_eq_true]
    rfl
  | three a b d h1 h2 h3 h4 h5 h6 h7 h8 =>
    obtain ⟨g0, l0⟩ := hget 0 a rfl
    obtain ⟨g1, l1⟩ := hget 1 b rfl
    obtain ⟨g2, l2⟩ := hget 2 d rfl
    unfold Utf8.decode
    have e1 : ¬ a < 128 := by omega
    have e2 : (a / 32 == 6) = false := by rw [beq_eq_false_iff_ne]; omega
    have e2' : a / 16 = 14 := by omega
    have e3 : b / 64 = 2 := by omega
    have e5 : d / 64 = 2 := by omega
    have e4 : a % 16 * 4096 + b % 64 * 64 + d % 64 ≥ 2048 := by omega
    have e6 : Utf8.valid ((a % 16 * 4096 + b % 64 * 64 + d % 64 : Nat) : Int) = true := by
      unfold Utf8.valid
      simp only [Bool.or_eq_true, Bool.and_eq_true, decide_eq_true_eq]
      omega
    simp only [g0, g1, g2, hsz, e1, e2, e2', e3, e5, l1, l2, e4, e6, if_true, if_false, decide_true, Bool.and_self, beq_self_eq_true, Bool.false_and, Bool.false_eq_true]
    rfl
  | four a b d e h1 h2 h3 h4 h5 h6 h7 h8 h9 h10 =>
    obtain ⟨g0, l0⟩ := hget 0 a rfl
    obtain ⟨g1, l1⟩ := hget 1 b rfl
    obtain ⟨g2, l2⟩ := hget 2 d rfl
    obtain ⟨g3, l3⟩ := hget 3 e rfl
    unfold Utf8.decode
    have e1 : ¬ a < 128 := by omega
    have e2 : (a / 32 == 6) = false := by rw [beq_eq_false_iff_ne]; omega
    have e7 : (a / 16 == 14) = false := by rw [beq_eq_false_iff_ne]; omega
    have e2' : a / 8 = 30 := by omega
    have e3 : b / 64 = 2 := by omega
    have e5 : d / 64 = 2 := by omega
    have e8 : e / 64 = 2 := by omega
    have e4 : a % 8 * 262144 + b % 64 * 4096 + d % 64 * 64 + e % 64 ≥ 65536 := by omega
    have e6 : Utf8.valid ((a % 8 * 262144 + b % 64 * 4096 + d % 64 * 64 + e % 64 : Nat) : Int) = true := by
      unfold Utf8.valid
      simp only [Bool.or_eq_true, Bool.and_eq_true, decide_eq_true_eq]
      omega
    simp only [g0, g1, g2, g3, hsz, e1, e2, e7, e2', e3, e5, e8, l1, l2, l3, e4, e6, if_true, if_false, decide_true, Bool.and_self, beq_self_eq_true, Bool.false_and, Bool.false_eq_true]
    rfl
theorem encode_chr {c : List Nat} (hc : Chr c) : Utf8.encode ((val c : Nat) : Int) = bs c := by
  have hv : Utf8.valid ((val c : Nat) : Int) = true := by
    unfold Utf8.valid
    simp only [Bool.or_eq_true, Bool.and_eq_true, decide_eq_true_eq]
    cases hc <;> simp only [val] <;> omega
  unfold Utf8.encode
  simp only [hv, if_true, Int.toNat_natCast]
  cases hc with
  | one a h =>
    have e1 : val [a] < 128 := h
    rw [if_pos e1]
    rfl
  | two a b h1 h2 h3 h4 =>
    obtain ⟨v, hv'⟩ : ∃ v, v = val [a, b] := ⟨_, rfl⟩
    have hd : v = (a % 32) * 64 + b % 64 := hv'
    rw [← hv', if_neg (by omega), if_pos (by omega)]
    have e1 : 192 + v / 64 = a := by omega
    have e2 : 128 + v % 64 = b := by omega
    rw [e1, e2]
    rfl
  | three a b d h1 h2 h3 h4 h5 h6 h7 h8 =>
    obtain ⟨v, hv'⟩ : ∃ v, v = val [a, b, d] := ⟨_, rfl⟩
    have hd : v = (a % 16) * 4096 + (b % 64) * 64 + d % 64 := hv'
    rw [← hv', if_neg (by omega), if_neg (by omega), if_pos (by omega)]
    have e1 : 224 + v / 4096 = a := by omega
    have e2 : 128 + v / 64 % 64 = b := by omega
    have e3 : 128 + v % 64 = d := by omega
    rw [e1, e2, e3]
    rfl
  | four a b d e h1 h2 h3 h4 h5 h6 h7 h8 h9 h10 =>
    obtain ⟨v, hv'⟩ : ∃ v, v = val [a, b, d, e] := ⟨_, rfl⟩
    have hd : v = (a % 8) * 262144 + (b % 64) * 4096 + (d % 64) * 64 + e % 64 := hv'
    rw [← hv', if_neg (by omega), if_neg (by omega), if_neg (by omega)]
    have e1 : 240 + v / 262144 = a := by omega
    have e2 : 128 + v / 4096 % 64 = b := by omega
    have e3 : 128 + v / 64 % 64 = d := by omega
    have e4 : 128 + v % 64 = e := by omega
    rw [e1, e2, e3, e4]
    rfl
end Go.Proofs.YtfplocpjdjjoaaaDoor.Cut
