/-
  The items of a datum, one by one: the iterator that data.Items hands back, and the document's answer. Conditions: as each theorem says.
-/
import Derived.Test.YtclanebbalgpfaaPDataGrowsx1
import Derived.RangeFuncNested
import Derived.RangeFuncBound
import Derived.RangeFuncCalls
import Derived.RangeFuncLeaves
import Derived.Shelf.Abstract
import Derived.Shelf.RegionOpen
import Derived.OwnWalkIn
import Derived.TacticsInMore
import Derived.LoopNIn
import Derived.LoopIn
import Derived.RangeFuncFrom
import Derived.BigQuiet
import Derived.Deep.QuietTactic
namespace Go.Proofs.Ytclanebbalgpfaa.Items
open Go.RowKit Go.Shelf Go.Proofs.YtclanebbalgpfaaW.PrintWords Go.Proofs.YtclanebbalgpfaaW.PrintLast Go.Proofs.YtclanebbalgpfaaW.PrintMore Go.Proofs.Ytclanebbalgpfaa.PDataGrows
attribute [local go_sem] Oper.semAt_some max2_int min2_int
set_option linter.unusedVariables false
set_option linter.unusedSimpArgs false

theorem byte_in {x : Int} (h0 : 0 ≤ x) (h1 : x ≤ 255) : IntKind.i64.wrap x = x := by rw [IntKind.wrap_i64]; omega
def inr (d : List S49) (i : Int) : Bool := decide (0 ≤ i) && decide (i < (d.length : Int))
def isList (d : List S49) (i : Int) : Bool := inr d i && decide ((rd_T49 d i).f0 = 2)
def itemsM (d : List S49) (i : Int) : List Int := if isList d i = true then (rd_T49 d i).f3 else []

set_option maxHeartbeats 8000000 in
theorem there_calls (A0 : Option Addr) (c0 : Nat) (d : List S49) (i : Int) (w : World) : Calls Try.prog 25 #[.slice A0 d.length c0, .int .i64 i] w fun e w' => e = .returned (.bool (inr d i)) ∧ w = w' := by
  unfold inr
  by_cases h : 0 ≤ i
  · have c1 : decide (0 ≤ i) = true := decide_eq_true h
    clear h
    go_enter Try.func25, Try.ntmps25
    go_wp2
    go_ret
    exact ⟨by simp [c1], rfl⟩
  · have c1 : decide (0 ≤ i) = false := decide_eq_false h
    clear h
    go_enter Try.func25, Try.ntmps25
    go_wp2
    go_ret
    exact ⟨by simp [c1], rfl⟩
set_option maxHeartbeats 8000000 in
theorem is_calls (A0 : Option Addr) (c0 : Nat) (d : List S49) (i : Int) (w : World) : Calls Try.prog 24 #[.slice A0 d.length c0, .int .i64 i] w fun e w' => e = .returned (.bool (inr d i)) ∧ w = w' := by
  unfold inr
  by_cases h : 0 ≤ i
  · have c1 : decide (0 ≤ i) = true := decide_eq_true h
    clear h
    go_enter Try.func24, Try.ntmps24
    go_wp2
    go_ret
    exact ⟨by simp [c1], rfl⟩
  · have c1 : decide (0 ≤ i) = false := decide_eq_false h
    clear h
    go_enter Try.func24, Try.ntmps24
    go_wp2
    go_ret
    exact ⟨by simp [c1], rfl⟩
set_option maxHeartbeats 8000000 in
theorem items_calls (A0 : Option Addr) (c0 : Nat) (d : List S49) (i : Int) (w : World) : Calls Try.prog 17 #[.slice A0 d.length c0, .int .i64 i] w fun e w' =>
    e = .returned (.func (.func 26) #[] #[.pointer (some ⟨w.heap.size, 0, none⟩), .pointer (some ⟨w.heap.size + 1, 0, none⟩)]) ∧ w' = (w.alloc (.cells #[.slice A0 d.length c0] 22)).alloc (.cells #[.int .i64 i] 3) := by
  go_enter Try.func17, Try.ntmps17
  go_wp2
  go_ret
  exact ⟨rfl, rfl⟩
set_option maxHeartbeats 8000000 in
/-- The document's answer: the very row of the datum's kids, or nil. -/
theorem ref_calls (A0 : Option Addr) (c0 : Nat) (d : List S49) (i : Int) (w0 w : World) (hd : Kd.C k49 w0 A0 d.length d) (hw0 : Below w0.heap.size w0 w) (hf : inr d i = true → 0 ≤ (rd_T49 d i).f0 ∧ (rd_T49 d i).f0 ≤ 255) : Calls Try.prog 16 #[.slice A0 d.length c0, .int .i64 i] w fun e w' =>
    w = w' ∧ ∃ (A : Option Addr) (c : Nat), e = .returned (.slice A (itemsM d i).length c) ∧ Kd.C (Kd.int .i64) w0 A (itemsM d i).length (itemsM d i) := by
  cases hin : inr d i with
  | false =>
    have e1 : itemsM d i = [] := by simp [itemsM, isList, hin]
    rw [e1]
    go_enter Try.func16, Try.ntmps16
    go_wp2_with (go_at_call 24; refine (is_calls A0 c0 d i _).mono ?_; rintro e w2 ⟨rfl, rfl⟩; rw [hin])
    go_ret
    exact ⟨rfl, none, 0, rfl, Kd.C_nil _ _⟩
  | true =>
    have hb : 0 ≤ i ∧ i < (d.length : Int) := by simpa [inr] using hin
    obtain ⟨ad, A2, c2, A3, c3, e0, x0, x1, x2, x3, l2, g2, l3, g3⟩ := at_T49 hd i hb.1 hb.2
    subst e0
    have G3 := Aside0.mk g3
    replace x0 := (hw0.cell (World.block_lt_of_cell? w0 _ x0)).trans x0
    replace x3 := (hw0.cell (World.block_lt_of_cell? w0 _ x3)).trans x3
    have p0 := eq_true hb.1
    have q0 := eq_true hb.2
    by_cases h2 : (rd_T49 d i).f0 = 2
    · have e1 : itemsM d i = (rd_T49 d i).f3 := by simp [itemsM, isList, hin, h2]
      rw [e1]
      rw [h2] at x0
      clear h2 e1 hb g2 g3 l2 l3
      go_enter Try.func16, Try.ntmps16
      go_wp2_with (go_at_call 24; refine (is_calls _ c0 d i _).mono ?_; rintro e w2 ⟨rfl, rfl⟩; rw [hin])
      go_ret
      exact ⟨rfl, _, _, rfl, G3.out⟩
    · have e1 : itemsM d i = [] := by simp [itemsM, isList, h2]
      rw [e1]
      have hf2 := hf hin
      generalize (rd_T49 d i).f0 = f at x0 h2 hf2
      have w1 : IntKind.i64.wrap f = f := byte_in hf2.1 hf2.2
      have w2 : wrap64 f = f := by unfold wrap64; omega
      have h3 : (f == 2) = false := by simpa using h2
      have h4 : (f != 2) = true := by simpa using h2
      clear e1 hb g2 g3 l2 l3 G3 hf2 hf
      go_enter Try.func16, Try.ntmps16
      go_wp2_with (go_at_call 24; refine (is_calls _ c0 d i _).mono ?_; rintro e w2 ⟨rfl, rfl⟩; rw [hin])
      go_ret
      exact ⟨rfl, none, 0, rfl, Kd.C_nil _ _⟩

/-- WHAT HAS COME WHEN k ROUNDS ARE OVER. -/
def upto (xs : List Int) (k : Nat) : List (Nat × Int) := (List.range k).map (fun j => (j, rd xs (j : Int)))
theorem upto_succ (xs : List Int) (k : Nat) : upto xs (k + 1) = upto xs k ++ [(k, rd xs (k : Int))] := by simp [upto, List.range_succ]
theorem upto_length (xs : List Int) (k : Nat) : (upto xs k).length = k := by simp [upto]

set_option maxHeartbeats 8000000 in
set_option maxRecDepth 100000 in
theorem iter_in (n : Nat) (hn : 1 ≤ n) (l Bd Bi : Nat) (A0 : Option Addr) (c0 : Nat) (d : List S49) (i : Int) (w0 : World) (hd : Kd.C k49 w0 A0 d.length d) (J Jx : List (Nat × Int) → World → Prop)
    (hY : ∀ pre x W, J pre W → pre.length < (itemsM d i).length → YieldAt Fence.wide (n - 1) Try.prog l #[.int .i64 (x.1 : Int), .int .i64 x.2] W fun e W' =>
      (e = .returned (.bool true) ∧ J (pre ++ [x]) W' ∧ Below w0.heap.size W W') ∨ (e = .returned (.bool false) ∧ Jx (pre ++ [x]) W'))
    (W : World) (hW : Below w0.heap.size w0 W) (hBd : W.cell? ⟨Bd, 0, none⟩ = some (.slice A0 d.length c0)) (hBi : W.cell? ⟨Bi, 0, none⟩ = some (.int .i64 i)) (h0 : J [] W) (hmx : (itemsM d i).length ≤ 140737488351232) :
    CallsIn Fence.wide n Try.prog 26 (#[.func (.yield l) #[] #[]] ++ #[.pointer (some ⟨Bd, 0, none⟩), .pointer (some ⟨Bi, 0, none⟩)]) W fun e W' => (∃ v, e = .returned v) ∧
      ((∃ ys, ys = upto (itemsM d i) (itemsM d i).length ∧ J ys W') ∨ (∃ pre, (∃ k, k ≤ (itemsM d i).length ∧ pre = upto (itemsM d i) k) ∧ Jx pre W')) := by
  cases hin : inr d i with
  | false =>
    have e1 : itemsM d i = [] := by simp [itemsM, isList, hin]
    rw [e1]
    refine callsIn_of_wp Try.func26 rfl trivial ?_ rfl
    simp only [Try.ntmps26, List.size_toArray, List.length_cons, List.length_nil, Nat.reduceAdd, Nat.reduceSub, Array.replicate_succ, Array.replicate_zero, List.push_toArray, List.append_toArray, List.nil_append, List.cons_append]
    gi_wp2_with (refine ⟨trivial, ?_⟩; gi_at_call 25; refine (callsIn_wide.2 (there_calls A0 c0 d i _)).mono ?_; rintro e w2 ⟨rfl, rfl⟩; rw [hin])
    refine bodyPost_ret (results_none rfl _ _ _) rfl ?_
    exact ⟨⟨_, rfl⟩, .inl ⟨[], rfl, h0⟩⟩
  | true =>
    have hb : 0 ≤ i ∧ i < (d.length : Int) := by simpa [inr] using hin
    obtain ⟨ad, A2, c2, A3, c3, e0, x0, x1, x2, x3, l2, g2, l3, g3⟩ := at_T49 hd i hb.1 hb.2
    subst e0
    have G3 := Aside0.mk g3
    replace x0 := (hW.cell (World.block_lt_of_cell? w0 _ x0)).trans x0
    replace x3 := (hW.cell (World.block_lt_of_cell? w0 _ x3)).trans x3
    have p0 := eq_true hb.1
    have q0 := eq_true hb.2
    clear x1 x2 g2 g3 l2 l3 hb
    by_cases h2 : (rd_T49 d i).f0 = 2
    · have e1 : itemsM d i = (rd_T49 d i).f3 := by simp [itemsM, isList, hin, h2]
      rw [e1] at hY hmx ⊢
      rw [h2] at x0
      clear h2 e1
      generalize (rd_T49 d i).f3 = xs at hY hmx x3 G3 ⊢
      refine callsIn_of_wp Try.func26 rfl trivial ?_ rfl
      simp only [Try.ntmps26, List.size_toArray, List.length_cons, List.length_nil, Nat.reduceAdd, Nat.reduceSub, Array.replicate_succ, Array.replicate_zero, List.push_toArray, List.append_toArray, List.nil_append, List.cons_append]
      gi_wp2_with (refine ⟨trivial, ?_⟩; gi_at_call 25; refine (callsIn_wide.2 (there_calls _ c0 d i _)).mono ?_; rintro e w2 ⟨rfl, rfl⟩; rw [hin])
      gi_loopw [24] (fun iv wr => ∃ k : Nat, k ≤ xs.length ∧ iv = .int .i64 k ∧ J (upto xs k) wr ∧ Below w0.heap.size W wr)
        (fun iv _ => xs.length - (intOf iv).toNat)
      case atStart => exact ⟨0, Nat.zero_le _, rfl, h0, Below.refl _ _⟩
      case round =>
        obtain ⟨k, hk, rfl, hJs, hnx⟩ := hrel
        by_cases hlt : k < xs.length
        · obtain ⟨ad3, ea, hcx⟩ := Kd.at_int (Kd.C_below G3.out (hW.trans hnx)) (k : Int) (Int.natCast_nonneg _) (Int.ofNat_lt.2 hlt)
          subst ea
          simp only [Int.toNat_natCast] at hcx
          obtain ⟨fn, tmps, assign, body, hy, hR⟩ := hY _ (k, rd xs (k : Int)) wr hJs (by rw [upto_length]; exact hlt)
          dsimp only at hy
          have c1 : decide ((k : Int) < (xs.length : Int)) = true := decide_eq_true (Int.ofNat_lt.2 hlt)
          have e9 : wrap64 ((k : Int) + 1) = ((k + 1 : Nat) : Int) := by unfold wrap64; omega
          gi_wp2
          refine hR.mono ?_
          rintro e W3 (⟨rfl, hJ3, hk3⟩ | ⟨rfl, hJx3⟩)
          · gi_wp2
            go_roundw
            case rel => exact ⟨k + 1, by omega, by first | rfl | simp, by rw [upto_succ]; exact hJ3, hnx.trans hk3⟩
            case measure => simp [intOf]; omega
          · gi_wp2
            refine bodyPost_ret (results_none rfl _ _ _) rfl ?_
            exact ⟨⟨_, rfl⟩, .inr ⟨_, ⟨k + 1, by omega, (upto_succ _ _).symm⟩, hJx3⟩⟩
        · obtain rfl : k = xs.length := by omega
          gi_wp2
          go_end0
          exact ⟨⟨_, rfl⟩, .inl ⟨_, rfl, hJs⟩⟩
    · have e1 : itemsM d i = [] := by simp [itemsM, isList, h2]
      rw [e1]
      generalize (rd_T49 d i).f0 = f at x0 h2
      have h3 : (f == 2) = false := by simpa using h2
      have h4 : (f != 2) = true := by simpa using h2
      clear e1
      refine callsIn_of_wp Try.func26 rfl trivial ?_ rfl
      simp only [Try.ntmps26, List.size_toArray, List.length_cons, List.length_nil, Nat.reduceAdd, Nat.reduceSub, Array.replicate_succ, Array.replicate_zero, List.push_toArray, List.append_toArray, List.nil_append, List.cons_append]
      gi_wp2_with (refine ⟨trivial, ?_⟩; gi_at_call 25; refine (callsIn_wide.2 (there_calls _ c0 d i _)).mono ?_; rintro e w2 ⟨rfl, rfl⟩; rw [hin])
      refine bodyPost_ret (results_none rfl _ _ _) rfl ?_
      exact ⟨⟨_, rfl⟩, .inl ⟨[], rfl, h0⟩⟩
end Go.Proofs.Ytclanebbalgpfaa.Items
