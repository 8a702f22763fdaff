/-
  The calls of html.Unit and html.Text: what they answer, and that nothing that was there is changed. Condition: html.Text's answer has fewer than 2^47 bytes.
-/
import Derived.Test.YtpphhnfpingghaaPHtmlUnitsx1
import Derived.Outline
import Derived.Lib.ConvBytes
namespace Go.Proofs.Ytpphhnfpingghaa.Html
open Go.RowKit Go.Proofs.YtpphhnfpingghaaW.PrintWords Go.Proofs.YtpphhnfpingghaaW.PrintLast Go.Proofs.YtpphhnfpingghaaW.PrintMore Go.Proofs.Ytpphhnfpingghaa.PHtmlUnits
set_option linter.unusedVariables false
set_option linter.unusedSimpArgs false

/-- How a byte is written. -/
def unitM (a : Int) : List Int :=
  if a = 0 then [239, 191, 189] else if a = 38 then [38, 97, 109, 112, 59] else if a = 60 then [38, 108, 116, 59] else if a = 62 then [38, 103, 116, 59] else if a = 34 then [38, 35, 51, 52, 59] else if a = 39 then [38, 35, 51, 57, 59] else [a]
def namedM (a : Int) : ByteArray := (html_named.f a).getD ByteArray.empty
theorem named_some (a : Int) : html_named.f a = some (namedM a) := by
  unfold namedM html_named.f
  repeat' split
  all_goals rfl

theorem named_nil (a : Int) (h : (namedM a).toList = []) : unitM a = [a] := by
  unfold unitM
  revert h
  unfold namedM html_named.f
  repeat' split
  all_goals first | (intro _; rfl) | (intro h; exact absurd h (by simp [ByteArray.toList_mk]))
theorem named_bytes (a : Int) (h : (namedM a).toList ≠ []) : unitM a = bytesOf (namedM a) := by
  unfold unitM
  revert h
  unfold namedM html_named.f
  repeat' split
  all_goals first | (intro _; rfl) | (intro h; exact absurd (by simp [ByteArray.toList_mk]) h)
theorem below_bytes {w : World} {B : Nat} {w1 : World} (h : Below B w w1) (hB : B ≤ w1.heap.size) (e : TypeId) (s : ByteArray) : Below B w (Lib.bytesWorld w1 e s) :=
  ⟨h.os, h.tape, h.output, by rw [Lib.bytesWorld_size]; have := h.size; omega, fun k hk => (Lib.bytesWorld_at_old w1 e s k (by omega)).trans (h.block k hk)⟩
theorem reads_bytes (w : World) (e : TypeId) (s : ByteArray) (hs : s.size ≤ 9223372036854775807) : Kd.C (Kd.int .u8) (Lib.bytesWorld w e s) (some ⟨w.heap.size, 0, none⟩) (bytesOf s).length (bytesOf s) := by
  refine Kd.C_of_reads (d := (0 : Int)) (h1 := fun _ => rfl) (show ReadsInt _ .u8 _ _ _ from ⟨rfl, by rw [bytesOf_length]; exact hs, fun _ => ⟨_, rfl, fun j hj => ?_⟩⟩)
  rw [bytesOf_length] at hj
  have h := Lib.bytesWorld_cell w e s j hj
  rw [add_plain, h]
  have hl : j < s.data.toList.length := by rw [data_length]; exact hj
  simp only [bytesOf, List.getD_eq_getElem?_getD, List.getElem?_map, List.getElem?_eq_getElem hl, Option.getD_some, Option.map_some]

set_option maxHeartbeats 8000000 in
set_option maxRecDepth 100000 in
theorem unit_named (a : Int) (w : World) (hn : (namedM a).toList ≠ []) :
    Calls Try.prog 12 #[.int .u8 a] w fun e w' => ∃ (A : Option Addr) (c : Nat), e = .returned (.slice A (bytesOf (namedM a)).length c) ∧ (bytesOf (namedM a)).length ≤ c ∧ Kd.C (Kd.int .u8) w' A (bytesOf (namedM a)).length (bytesOf (namedM a)) ∧ Below w.heap.size w w' := by
  have HN := Aside0.mk (named_some a)
  have e1 : (namedM a).toList.isEmpty = false := by simpa using hn
  have e2 : ((namedM a).toList = []) = False := by simpa using hn
  have hcv := fun (W : World) => Lib.run_convert_string_bytes (P := Try.prog) W 9 22 5 (namedM a) Try.underlying9 Try.underlying22 Try.underlying5
  have hsz : (namedM a).size ≤ 100 := by
    unfold namedM html_named.f
    repeat' split
    all_goals decide
  have HZ := Aside0.mk hsz
  clear hsz
  go_enter Try.func12, Try.ntmps12
  go_wp2_with (go_at_call 32; refine (html_named.calls a (namedM a) _ HN.out).mono ?_; rintro e w1 ⟨rfl, hd⟩; have HD := Aside0.mk hd; clear hd)
  have hz := HZ.out
  have hb := HD.out.below
  go_ret
  refine ⟨some ⟨w1.heap.size, 0, none⟩, grownCap w1 (namedM a).size 0 5, ?_, ?_, ?_, ?_⟩
  · rw [bytesOf_length]; rfl
  · rw [bytesOf_length]; exact grownCap_ge _ _ _ _
  · exact reads_bytes _ _ _ (by omega)
  · exact below_bytes hb hb.size _ _

set_option maxHeartbeats 8000000 in
set_option maxRecDepth 100000 in
theorem unit_plain (a : Int) (w : World) (hn : (namedM a).toList = []) :
    Calls Try.prog 12 #[.int .u8 a] w fun e w' => ∃ (A : Option Addr) (c : Nat), e = .returned (.slice A ([a] : List Int).length c) ∧ ([a] : List Int).length ≤ c ∧ Kd.C (Kd.int .u8) w' A ([a] : List Int).length [a] ∧ Below w.heap.size w w' := by
  have HN := Aside0.mk (named_some a)
  have e1 : (namedM a).toList.isEmpty = true := by simpa using hn
  have e2 : ((namedM a).toList = []) = True := by simpa using hn
  clear hn
  go_enter Try.func12, Try.ntmps12
  go_wp2_with (go_at_call 32; refine (html_named.calls a (namedM a) _ HN.out).mono ?_; rintro e w1 ⟨rfl, hd⟩; have HD := Aside0.mk hd; clear hd)
  have hb := HD.out.below
  go_ret
  refine ⟨some ⟨w1.heap.size, 0, none⟩, 1, rfl, Nat.le_refl _, ?_, below_alloc hb _⟩
  refine Kd.C_of_reads (d := (0 : Int)) (h1 := fun _ => rfl) (show ReadsInt _ .u8 _ _ _ from ⟨rfl, by simp, fun _ => ⟨_, rfl, fun j hj => ?_⟩⟩)
  obtain rfl : j = 0 := by simpa using hj
  simp [go_sem, add_plain]

theorem unit_calls (a : Int) (w : World) :
    Calls Try.prog 12 #[.int .u8 a] w fun e w' => ∃ (A : Option Addr) (c : Nat), e = .returned (.slice A (unitM a).length c) ∧ (unitM a).length ≤ c ∧ Kd.C (Kd.int .u8) w' A (unitM a).length (unitM a) ∧ Below w.heap.size w w' := by
  by_cases hn : (namedM a).toList = []
  · rw [named_nil a hn]
    exact unit_plain a w hn
  · rw [named_bytes a hn]
    exact unit_named a w hn

/-- How bytes are written. -/
def textM (l : List Int) : List Int := l.flatMap unitM
theorem textM_snoc (l : List Int) (x : Int) : textM (l ++ [x]) = textM l ++ unitM x := by simp [textM]
theorem unitM_len (a : Int) : 1 ≤ (unitM a).length ∧ (unitM a).length ≤ 5 := by
  unfold unitM
  repeat' split
  all_goals simp
theorem textM_len : ∀ l : List Int, (textM l).length ≤ 5 * l.length
  | [] => by simp [textM]
  | x :: r => by
    have := textM_len r
    have := (unitM_len x).2
    simp only [textM, List.flatMap_cons, List.length_append, List.length_cons] at *
    omega
theorem textM_take (l : List Int) (k : Nat) : (textM (l.take k)).length ≤ (textM l).length := by
  have h : textM l = textM (l.take k) ++ textM (l.drop k) := by rw [textM, textM, textM, ← List.flatMap_append, List.take_append_drop]
  rw [h, List.length_append]
  omega
theorem take_rd {l : List Int} {k : Nat} (h : k < l.length) : l.take (k + 1) = l.take k ++ [rd l (k : Int)] := by
  rw [List.take_succ_eq_append_getElem h]
  unfold rd
  rw [Int.toNat_natCast, List.getD_eq_getElem?_getD, List.getElem?_eq_getElem h]
  rfl

set_option maxHeartbeats 8000000 in
set_option maxRecDepth 100000 in
theorem text_calls (A0 : Option Addr) (c0 : Nat) (l0 : List Int) (w : World) (hr0 : Kd.C (Kd.int .u8) w A0 l0.length l0) (hc0 : l0.length ≤ c0) (hs : (textM l0).length < 140737488355328) :
    Calls Try.prog 20 #[.slice A0 l0.length c0] w fun e w' => ∃ v : Value, e = .returned v ∧ Kd.R (Kd.int .u8) 5 w' w.heap.size (fun _ => True) v (textM l0) ∧ Below w.heap.size w w' := by
  have HR0 := Aside0.mk hr0
  have HS := Aside0.mk hs
  have HLM := Aside0.mk hr0.2.1
  clear hr0 hc0 hs
  have HB := Aside0.mk (Below.refl w.heap.size w)
  go_enter Try.func20, Try.ntmps20
  go_wp2
  go_loopg [3, 8] l0.length (fun m v3 v8 w' => ∃ i : Int, v8 = .int .i64 i ∧ Aside0 (0 ≤ i ∧ i + m = (l0.length : Int)) ∧ Aside0 (Kd.R (Kd.int .u8) 5 w' w.heap.size (fun _ => True) v3 (textM (l0.take i.toNat))) ∧ Aside0 (Below w.heap.size w w'))
  case atStart => exact ⟨0, rfl, ⟨by omega⟩, ⟨Kd.R_nil _ _ _ _ _⟩, HB⟩
  case round =>
    clear HB
    obtain ⟨i, rfl, HK, HO, HB⟩ := hrel
    cases gk with
    | zero =>
      have c0b : decide (i < (l0.length : Int)) = false := decide_eq_false (by have := HK.out; omega)
      go_wp2
      go_ret
      have hk := HK.out
      have ho := HO.out
      rw [List.take_of_length_le (by omega)] at ho
      exact ⟨_, rfl, ho, HB.out⟩
    | succ m =>
      have c0b : decide (i < (l0.length : Int)) = true := decide_eq_true (by have := HK.out; omega)
      have p0 : 0 ≤ i := by have := HK.out; omega
      have q0 : i < (l0.length : Int) := by have := HK.out; omega
      obtain ⟨ad, e0, hx⟩ := Kd.at_int HR0.out i p0 q0
      cases e0
      replace hx := (HB.out.cell (World.block_lt_of_cell? w _ hx)).trans hx
      obtain ⟨y, hy⟩ : ∃ y : List Int, y = textM (l0.take (i.toNat + 1)) := ⟨_, rfl⟩
      have NY := Aside0.mk hy
      clear hy
      replace p0 := eq_true p0
      replace q0 := eq_true q0
      go_wp2_with (first
        | (go_at_call 12; refine (unit_calls (rd l0 i) _).mono ?_; rintro e w2 ⟨A2, c2, rfl, hl2, hr2, hb2⟩; have HR2 := Aside0.mk hr2; have HO2 := Aside0.mk (Kd.R_below HO.out hb2); have HB2 := Aside0.mk (below_step HB.out hb2); clear hl2 hr2 hb2)
        | ((with_reducible refine gate_builtin (b := .append) (xs := #[.tmp 12, .tmp 14]) rfl ?_); at_builtin; refine Kd.R_append_rows (Kd.int .u8) (w0 := w) w.heap.size rfl (.tmp 12) (.tmp 14) 22 5 (.int .u8 0) 1 rfl Try.underlying22 info5 rfl (by decide) (by omega) u3 (textM (l0.take i.toNat)) (unitM (rd l0 i)) _ _ _ (fun _ => True) (fun _ => False) rfl rfl ?aO ?aR (fun _ _ h => h) (fun _ h => h.elim) ?aF ?aB ?aS ?aL ?_; (case aO => exact HO2.out); (case aR => exact HR2.out); (case aF => exact (fun _ _ => trivial)); (case aB => exact HB2.out); (case aS => exact below_size HB2.out); (case aL => have hq := HK.out; have hs := HS.out; have ht := textM_take l0 (i.toNat + 1); rw [take_rd (show i.toNat < l0.length by omega), textM_snoc, List.length_append, show ((i.toNat : Nat) : Int) = i by omega] at ht; omega); intro v3 w3 ho hb hg hat; have HO3 := Aside0.mk ho; have HB3 := Aside0.mk hb; clear ho hb hg hat))
      go_roundg m
      case measure => omega
      case rel =>
        have hq := HK.out
        have hlm := HLM.out
        refine ⟨_, rfl, ⟨?_⟩, ⟨?_⟩, HB3⟩
        · unfold wrap64; omega
        · have e : (wrap64 (i + 1)).toNat = i.toNat + 1 := by unfold wrap64; omega
          rw [e, take_rd (show i.toNat < l0.length by omega), textM_snoc, show ((i.toNat : Nat) : Int) = i by omega]
          exact HO3.out
end Go.Proofs.Ytpphhnfpingghaa.Html
