/-
  A step of any context, as step.Byte and step.Plain take it.
  A text, byte by byte, from any context: step.all under step.Byte, and step.Bytes.
  step.Bytes, and the parts of a trailer.
  What ends the text of an element of its own.
  What ends the text of an element of its own.
  Conditions: as each theorem says.
-/
import Derived.Test.YtfplocpjdjjoaaaDoorGi
import Derived.Test.YtfplocpjdjjoaaaDoorGa
import Derived.LoopTactic
import Derived.Lib.IndexBytes
namespace Go.Proofs.YtfplocpjdjjoaaaDoor.Ctxs
open Go Go.RowKit Go.Proofs.YtfplocpjdjjoaaaDoor.Trail Go.Proofs.YtfplocpjdjjoaaaDoorW.PrintWords
set_option linter.unusedVariables false
set_option linter.unusedSimpArgs false
theorem move_at {v : Array Value} {n : Int} (c : Cx) (hv : v = cxs c) (b : Nat) (hb : n = (b : Int)) (feed : Bool) (hi : Inv c) (hl : Low c.nm) (hb2 : b < 256) (w : World) (hG : Glob w) : Calls Tryd.prog 54 #[.agg v, .int .u8 n, .bool feed] w (Ret (Trail.move attrOf feed 8 c b) w) := hv ▸ hb ▸ move_calls c b feed hi hl hb2 w hG
theorem flat_at {v : Array Value} (c : Cx) (hv : v = cxs c) (w : World) : Calls Tryd.prog 108 #[.agg v] w (Ret (flat c) w) := hv ▸ flat_calls c w
theorem inv_of_flat {c : Cx} (h : Inv c) : Inv (flat c) := by
  have ht := h.top
  refine ⟨h.top, h.el4, h.en0, ?_, ?_, ?_, ?_, ?_, ?_, ?_, ?_⟩
  · intro e
    have e' : c.st = 0 ∨ c.st = 1 ∨ c.st = 2 ∨ c.st = 11 ∨ c.st = 12 ∨ c.st = 13 ∨ c.st = 14 ∨ c.st = 16 := e
    have q := h.flat e'
    have : ¬ c.st = 8 := by omega
    rw [q]
    simp [flat]
  · intro e
    have e' : c.st = 3 := e
    obtain ⟨q, q1, q2⟩ := h.tagName e'
    rw [q]
    exact ⟨rfl, by simpa [flat] using q1, by simpa [flat] using q2⟩
  · intro e
    have e' : c.st = 4 ∨ c.st = 9 ∨ c.st = 10 := e
    have q := h.inTag e'
    have : ¬ c.st = 8 := by omega
    rw [q]
    simp [flat]
  · intro e
    have e' : c.st = 5 ∨ c.st = 6 := e
    obtain ⟨q, q1, q2⟩ := h.attrName e'
    have h8 : ¬ c.st = 8 := by omega
    refine ⟨?_, ?_, ?_⟩
    · rw [q]; simp [flat, h8]
    · show 1 ≤ (if c.st = 8 then [] else c.nm).length; rw [if_neg h8]; exact q1
    · show (if c.st = 8 then [] else c.nm).length ≤ 32; rw [if_neg h8]; exact q2
  · intro e
    have e' : c.st = 7 := e
    obtain ⟨q, q1⟩ := h.behindEq e'
    rw [q]
    exact ⟨rfl, Nat.zero_le _⟩
  · intro e
    have e' : c.st = 8 := e
    obtain ⟨h1, h2, h3, -⟩ := h.val e'
    refine ⟨h1, Nat.zero_le _, h3, Nat.zero_le _, fun _ _ => ⟨rfl, rfl⟩, (fun q => by cases q), (fun q => by cases q), (fun q => by cases q), (fun q => by cases q), fun _ => ⟨rfl, ?_⟩, Nat.zero_le _, fun _ => ?_, (fun q => by cases q)⟩
    · show (if c.st = 8 then [] else c.nm) = []; rw [if_pos e']
    · show (if c.st = 8 then [] else c.nm) = []; rw [if_pos e']
  · intro e
    have e' : c.st = 15 := e
    obtain ⟨q, q1⟩ := h.comment e'
    rw [q]
    exact ⟨rfl, q1⟩
  · intro e
    have e' : c.st = 17 ∨ c.st = 18 ∨ c.st = 19 := e
    obtain ⟨h1, h2, h3, h5, h6, h7, h8, h9, k, hk, hnm⟩ := h.inRaw e'
    have h88 : ¬ c.st = 8 := by omega
    have hn : (flat c).nm = c.nm := by show (if c.st = 8 then [] else c.nm) = _; rw [if_neg h88]
    refine ⟨?_, h2, Nat.zero_le _, (fun q => by cases q), fun _ => rfl, fun _ => by show (0 : Nat) ≠ 4; omega, fun q => by rw [hn]; exact h8 q, fun _ => ⟨by show (0 : Nat) ≠ 3; omega, by show (0 : Nat) ≠ 6; omega, rfl⟩, k, hk, by rw [hn]; exact hnm⟩
    rw [h1]
    simp [flat, h88]
theorem low_flat {c : Cx} (h : Low c.nm) : Low (flat c).nm := by
  show Low (if c.st = 8 then [] else c.nm)
  split
  · intro x hx; cases hx
  · exact h
set_option maxHeartbeats 4000000 in
set_option maxRecDepth 100000 in
theorem byte_calls (c : Cx) (b : Nat) (hi : Inv c) (hl : Low c.nm) (hb : b < 256) (w : World) (hG : Glob w) : Calls Tryd.prog 29 #[.agg (cxs c), .int .u8 (b : Int)] w (Ret (Trail.step attrOf true c b) w) := by
  have hu33 := Tryd.underlying33
  have hst := Aside0.mk (st0 c hG)
  have HI := Aside0.mk hi
  have HL := Aside0.mk hl
  have HB := Aside0.mk hb
  clear hG hi hl hb
  simp only [cxs] at hst ⊢
  go_enter Tryd.func29, Tryd.ntmps29
  go_wp2_with (go_at_call 54; (with_reducible refine (move_at c ?hv b ?hn true HI.out HL.out HB.out _ hst.out.gl).mono ?_); (case hv => rfl); (case hn => first | rfl | omega); rintro e w1 ⟨rfl, hb⟩; have HS1 := Aside0.mk (hst.out.step hb); clear hb; obtain ⟨⟨y0, y1, y2, y3, y4, y5, y6, y7, y8, y9, yf⟩, ⟨z0, z1, z2, z3, z4, z5, z6, z7, z8, z9, zf⟩, -, ⟨g0, g1, g2, g3, g4, g5, g6, g7, g8, g9⟩, hlt1⟩ := (HS1.out).facts; simp only [cxs])
  (with_reducible refine ret_put HS1.out.after Tryd.results29 ?_ ?_ ?_) <;> rfl
set_option maxHeartbeats 4000000 in
set_option maxRecDepth 100000 in
theorem plain_calls (c : Cx) (b : Nat) (hi : Inv c) (hl : Low c.nm) (hb : b < 256) (w : World) (hG : Glob w) : Calls Tryd.prog 76 #[.agg (cxs c), .int .u8 (b : Int)] w (Ret (flat (Trail.step attrOf false (flat c) b)) w) := by
  have hu33 := Tryd.underlying33
  have hst := Aside0.mk (st0 c hG)
  have HI := Aside0.mk hi
  have HL := Aside0.mk hl
  have HB := Aside0.mk hb
  clear hG hi hl hb
  simp only [cxs] at hst ⊢
  go_enter Tryd.func76, Tryd.ntmps76
  go_wp2_with (first | (go_at_call 9; (with_reducible refine (form_at c ?hv HI.out HL.out _).mono ?_); (case hv => rfl); rintro e w1 ⟨rfl, hb⟩; have HS1 := Aside0.mk (hst.out.step hb); clear hb; obtain ⟨⟨y0, y1, y2, y3, y4, y5, y6, y7, y8, y9, yf⟩, ⟨z0, z1, z2, z3, z4, z5, z6, z7, z8, z9, zf⟩, -, ⟨g0, g1, g2, g3, g4, g5, g6, g7, g8, g9⟩, hlt1⟩ := (HS1.out).facts; simp only [cxs]) | (go_at_call 108; (with_reducible refine (flat_at c ?hv _).mono ?_); (case hv => rfl); rintro e w2 ⟨rfl, hb⟩; have HS2 := Aside0.mk (HS1.out.step hb); clear hb; obtain ⟨⟨y0, y1, y2, y3, y4, y5, y6, y7, y8, y9, yf⟩, ⟨z0, z1, z2, z3, z4, z5, z6, z7, z8, z9, zf⟩, -, ⟨g0, g1, g2, g3, g4, g5, g6, g7, g8, g9⟩, hlt1⟩ := (HS2.out).facts; simp only [cxs]) | (go_at_call 54; (with_reducible refine (move_at (flat c) ?hv b ?hn false (inv_of_flat HI.out) (low_flat HL.out) HB.out _ HS2.out.gl).mono ?_); (case hv => rfl); (case hn => first | rfl | omega); rintro e w3 ⟨rfl, hb⟩; have HS3 := Aside0.mk (HS2.out.step hb); clear hb; obtain ⟨⟨y0, y1, y2, y3, y4, y5, y6, y7, y8, y9, yf⟩, ⟨z0, z1, z2, z3, z4, z5, z6, z7, z8, z9, zf⟩, -, ⟨g0, g1, g2, g3, g4, g5, g6, g7, g8, g9⟩, hlt1⟩ := (HS3.out).facts; simp only [cxs]) | (go_at_call 108; (with_reducible refine (flat_at (Trail.move attrOf false 8 (flat c) b) ?hv _).mono ?_); (case hv => rfl); rintro e w4 ⟨rfl, hb⟩; have HS4 := Aside0.mk (HS3.out.step hb); clear hb; obtain ⟨⟨y0, y1, y2, y3, y4, y5, y6, y7, y8, y9, yf⟩, ⟨z0, z1, z2, z3, z4, z5, z6, z7, z8, z9, zf⟩, -, ⟨g0, g1, g2, g3, g4, g5, g6, g7, g8, g9⟩, hlt1⟩ := (HS4.out).facts; simp only [cxs]))
  (with_reducible refine ret_put HS4.out.after Tryd.results76 ?_ ?_ ?_) <;> rfl
end Go.Proofs.YtfplocpjdjjoaaaDoor.Ctxs
namespace Go.Proofs.YtfplocpjdjjoaaaDoor.Ctxs
open Go Go.RowKit Go.Proofs.YtfplocpjdjjoaaaDoor.Trail Go.Proofs.YtfplocpjdjjoaaaDoorW.PrintWords
set_option linter.unusedVariables false
set_option linter.unusedSimpArgs false
theorem low_step {c : Cx} {b : Nat} (feed : Bool) (h : Low c.nm) (hb : b < 256) : Low (Trail.step attrOf feed c b).nm := by
  intro x hx
  rcases sub_step attrOf feed c b x hx with q | q
  · exact h x q
  · rw [q]
    unfold small
    split <;> omega
/-- The context behind all bytes, and the place of the one behind which it is bad, or -1. -/
def bytesAt : Cx → List Nat → Nat → Cx × Int
  | c, [], _ => (c, -1)
  | c, b :: r, i => if (Trail.step attrOf true c b).st = 20 then (Trail.step attrOf true c b, (i : Int)) else bytesAt (Trail.step attrOf true c b) r (i + 1)
def RetI (c : Cx × Int) (w : World) (e : Ending) (w' : World) : Prop := e = .returned (.tuple #[.agg (cxs c.1), .int .i64 c.2]) ∧ Below w.heap.size w w'
theorem ret_puti {fn : Func} {a : Act} {w V : World} {g : Nat} {p u : Tmp} {c : Cx × Int} {v0 v1 v2 v3 v4 v5 v6 v7 v8 v9 : Value} (H : After w V g) (h : fn.results = #[.cell p 33, .tmp u]) (hd : a.defers = []) (hp : a.tmps.getD p undef = .pointer (some ⟨g, 0, none⟩)) (hu : a.tmps.getD u undef = .int .i64 c.2) (hc : #[v0, v1, v2, v3, v4, v5, v6, v7, v8, v9] = cxs c.1) :
    bodyPost Tryd.prog fn (RetI c w) .ret a ((((((((((V.setCell ⟨g, 0, none⟩ v0).setCell ⟨g, 1, none⟩ v1).setCell ⟨g, 2, none⟩ v2).setCell ⟨g, 3, none⟩ v3).setCell ⟨g, 4, none⟩ v4).setCell ⟨g, 5, none⟩ v5).setCell ⟨g, 6, none⟩ v6).setCell ⟨g, 7, none⟩ v7).setCell ⟨g, 8, none⟩ v8).setCell ⟨g, 9, none⟩ v9) := by
  obtain ⟨⟨cs, hs, hk⟩, hw, le⟩ := H
  refine ret_ctxb g h hd hp hu (put10 hs hk v0 v1 v2 v3 v4 v5 v6 v7 v8 v9) rfl ⟨?_, below10 hw le v0 v1 v2 v3 v4 v5 v6 v7 v8 v9⟩
  rw [hc]
theorem byte_at {v : Array Value} {n : Int} (c : Cx) (hv : v = cxs c) (b : Nat) (hb : n = (b : Int)) (hi : Inv c) (hl : Low c.nm) (hb2 : b < 256) (w : World) (hG : Glob w) : Calls Tryd.prog 29 #[.agg v, .int .u8 n] w (Ret (Trail.step attrOf true c b) w) := hv ▸ hb ▸ byte_calls c b hi hl hb2 w hG
set_option maxHeartbeats 4000000 in
set_option maxRecDepth 100000 in
theorem all_calls (c : Cx) (A : Option Addr) (cp : Nat) (l : List Nat) (hi : Inv c) (hl : Low c.nm) (hs : Small l) (hlen : l.length ≤ 140737488355328) (w : World) (hC : Kd.C (Kd.int .u8) w A l.length (l.map fun n : Nat => (n : Int))) (hG : Glob w) : Calls Tryd.prog 28 #[.agg (cxs c), .slice A l.length cp, .func (.func 29) #[] #[]] w (RetI (bytesAt c l 0) w) := by
  have hu33 := Tryd.underlying33
  have hz := glob_pos hG
  have HZ := Aside0.mk hz
  have hst := Aside0.mk (st0 c hG)
  have HI := Aside0.mk hi
  have HL := Aside0.mk hl
  have HSM := Aside0.mk hs
  have HC := Aside0.mk hC
  clear hG hi hl hs hC
  simp only [cxs] at hst ⊢
  go_enter Tryd.func28, Tryd.ntmps28
  go_wp2_with (go_at_call 9; (with_reducible refine (form_at c ?hv HI.out HL.out _).mono ?_); (case hv => rfl); rintro e w1 ⟨rfl, hb⟩; have HS1 := Aside0.mk (hst.out.step hb); clear hb; obtain ⟨⟨y0, y1, y2, y3, y4, y5, y6, y7, y8, y9, yf⟩, ⟨z0, z1, z2, z3, z4, z5, z6, z7, z8, z9, zf⟩, -, ⟨g0, g1, g2, g3, g4, g5, g6, g7, g8, g9⟩, hlt1⟩ := (HS1.out).facts; simp only [cxs])
  go_loopw [16] (fun iv wr => ∃ (k : Nat) (d : Cx), k ≤ l.length ∧ iv = .int .i64 k ∧ Inv d ∧ Low d.nm ∧ bytesAt c l 0 = bytesAt d (l.drop k) k ∧ St w wr d)
    (fun iv _ => l.length - (intOf iv).toNat)
  case atStart => exact ⟨0, c, Nat.zero_le _, rfl, HI.out, HL.out, rfl, HS1.out⟩
  case round =>
    obtain ⟨k, d, hk, rfl, hid, hld, hrun, hS⟩ := hrel
    have HID := Aside0.mk hid
    have HLD := Aside0.mk hld
    have HRUN := Aside0.mk hrun
    have HS := Aside0.mk hS
    have HB := Aside0.mk hS.bw
    clear hid hld hrun
    obtain ⟨⟨y0, y1, y2, y3, y4, y5, y6, y7, y8, y9, yf⟩, ⟨z0, z1, z2, z3, z4, z5, z6, z7, z8, z9, zf⟩, -, ⟨g0, g1, g2, g3, g4, g5, g6, g7, g8, g9⟩, hlt1⟩ := (HS.out).facts
    clear hS
    by_cases hlt : k < l.length
    · have hcx0 := Kd.at_int (Kd.C_below HC.out HB.out) (k : Int) (Int.natCast_nonneg _) (Int.ofNat_lt.2 hlt)
      obtain ⟨ad, ea, hcx⟩ := hcx0
      subst ea
      simp only [Int.toNat_natCast] at hcx
      have hx : rd (l.map fun n : Nat => (n : Int)) (k : Int) = (l[k] : Int) := by simp [rd, hlt]
      rw [hx] at hcx
      obtain ⟨x, hxl⟩ : ∃ x, x = l[k] := ⟨_, rfl⟩
      rw [← hxl] at hcx
      have HX := Aside0.mk (show x < 256 by rw [hxl]; exact HSM.out _ (List.getElem_mem hlt))
      have HD := Aside0.mk (show l.drop k = x :: l.drop (k + 1) by rw [hxl]; exact List.drop_eq_getElem_cons hlt)
      have HK := Aside0.mk hlt
      have c1 : decide ((k : Int) < (l.length : Int)) = true := decide_eq_true (Int.ofNat_lt.2 hlt)
      clear hx hxl hk
      by_cases hbad : (Trail.step attrOf true d x).st = 20
      · have c2 : (((Trail.step attrOf true d x).st : Int) == 20) = true := by rw [hbad]; rfl
        have HBAD := Aside0.mk hbad
        clear hbad
        go_wp2_with (go_at_call 29; (with_reducible refine (byte_at d ?hv x ?hn HID.out HLD.out HX.out _ HS.out.gl).mono ?_); (case hv => rfl); (case hn => first | rfl | omega); rintro e w2 ⟨rfl, hb⟩; have HS2 := Aside0.mk (HS.out.step hb); clear hb; obtain ⟨⟨y0, y1, y2, y3, y4, y5, y6, y7, y8, y9, yf⟩, ⟨z0, z1, z2, z3, z4, z5, z6, z7, z8, z9, zf⟩, -, ⟨g0, g1, g2, g3, g4, g5, g6, g7, g8, g9⟩, hlt1⟩ := (HS2.out).facts; simp only [cxs])
        have e : bytesAt c l 0 = (Trail.step attrOf true d x, (k : Int)) := by rw [HRUN.out, HD.out, bytesAt, if_pos HBAD.out]
        rw [e]
        (with_reducible refine ret_puti (V := _) ?_ Tryd.results28 ?_ ?_ ?_ ?_)
        rotate_left
        · rfl
        · rfl
        · rfl
        · rfl
        · exact St.after (St.put (c' := Trail.step attrOf true d x) HS2.out HZ.out rfl)
      · have c2 : (((Trail.step attrOf true d x).st : Int) == 20) = false := by rw [beq_eq_false_iff_ne]; omega
        have HBAD := Aside0.mk hbad
        clear hbad
        go_wp2_with (go_at_call 29; (with_reducible refine (byte_at d ?hv x ?hn HID.out HLD.out HX.out _ HS.out.gl).mono ?_); (case hv => rfl); (case hn => first | rfl | omega); rintro e w2 ⟨rfl, hb⟩; have HS2 := Aside0.mk (HS.out.step hb); clear hb; obtain ⟨⟨y0, y1, y2, y3, y4, y5, y6, y7, y8, y9, yf⟩, ⟨z0, z1, z2, z3, z4, z5, z6, z7, z8, z9, zf⟩, -, ⟨g0, g1, g2, g3, g4, g5, g6, g7, g8, g9⟩, hlt1⟩ := (HS2.out).facts; simp only [cxs])
        go_roundw
        case rel => exact ⟨k + 1, Trail.step attrOf true d x, HK.out, by go_num, (inv_step attrOf attrOf_le d x HID.out).resolve_left HBAD.out, low_step true HLD.out HX.out, (by rw [HRUN.out, HD.out, bytesAt, if_neg HBAD.out]), St.put (c' := Trail.step attrOf true d x) HS2.out HZ.out rfl⟩
        case measure => have := HK.out; simp [intOf]; omega
    · obtain rfl : k = l.length := by omega
      have c1 : decide ((l.length : Int) < (l.length : Int)) = false := decide_eq_false (by omega)
      go_wp2
      have e : bytesAt c l 0 = (d, -1) := by rw [HRUN.out, List.drop_length]; rfl
      rw [e]
      (with_reducible refine ret_puti HS.out.after Tryd.results28 ?_ ?_ ?_ ?_) <;> rfl
end Go.Proofs.YtfplocpjdjjoaaaDoor.Ctxs
namespace Go.Proofs.YtfplocpjdjjoaaaDoor.Ctxs
open Go Go.RowKit Go.Proofs.YtfplocpjdjjoaaaDoor.Trail Go.Proofs.YtfplocpjdjjoaaaDoorW.PrintWords
set_option linter.unusedVariables false
set_option linter.unusedSimpArgs false
theorem all_at {v : Array Value} (c : Cx) (hv : v = cxs c) (A : Option Addr) (cp : Nat) (l : List Nat) (hi : Inv c) (hl : Low c.nm) (hs : Small l) (hlen : l.length ≤ 140737488355328) (w : World) (hC : Kd.C (Kd.int .u8) w A l.length (l.map fun n : Nat => (n : Int))) (hG : Glob w) : Calls Tryd.prog 28 #[.agg v, .slice A l.length cp, .func (.func 29) #[] #[]] w (RetI (bytesAt c l 0) w) := hv ▸ all_calls c A cp l hi hl hs hlen w hC hG
set_option maxHeartbeats 4000000 in
set_option maxRecDepth 100000 in
theorem bytes_calls (c : Cx) (A : Option Addr) (cp : Nat) (l : List Nat) (hi : Inv c) (hl : Low c.nm) (hs : Small l) (hlen : l.length ≤ 140737488355328) (w : World) (hC : Kd.C (Kd.int .u8) w A l.length (l.map fun n : Nat => (n : Int))) (hG : Glob w) : Calls Tryd.prog 8 #[.agg (cxs c), .slice A l.length cp] w (RetI (bytesAt c l 0) w) := by
  have hu33 := Tryd.underlying33
  have hst := Aside0.mk (st0 c hG)
  have HI := Aside0.mk hi
  have HL := Aside0.mk hl
  have HSM := Aside0.mk hs
  have HLN := Aside0.mk hlen
  have HC := Aside0.mk hC
  clear hG hi hl hs hC hlen
  simp only [cxs] at hst ⊢
  go_enter Tryd.func8, Tryd.ntmps8
  go_wp2_with (go_at_call 28; (with_reducible refine (all_at c ?hv A cp l HI.out HL.out HSM.out HLN.out _ (Kd.C_below HC.out hst.out.bw) hst.out.gl).mono ?_); (case hv => rfl); rintro e w1 ⟨rfl, hb⟩; have HS1 := Aside0.mk (hst.out.step hb); clear hb; obtain ⟨⟨y0, y1, y2, y3, y4, y5, y6, y7, y8, y9, yf⟩, ⟨z0, z1, z2, z3, z4, z5, z6, z7, z8, z9, zf⟩, -, ⟨g0, g1, g2, g3, g4, g5, g6, g7, g8, g9⟩, hlt1⟩ := (HS1.out).facts; simp only [cxs])
  (with_reducible refine ret_puti HS1.out.after Tryd.results8 ?_ ?_ ?_ ?_) <;> rfl
set_option maxHeartbeats 4000000 in
set_option maxRecDepth 100000 in
theorem element_calls (k : Nat) (h : k ≤ 4) (w : World) : Calls Tryd.prog 24 #[.int .u8 (k : Int)] w fun e w' => e = .returned (.string (bs (element k))) ∧ w = w' := by
  have hk : k = 0 ∨ k = 1 ∨ k = 2 ∨ k = 3 ∨ k = 4 := by omega
  rcases hk with rfl | rfl | rfl | rfl | rfl
  · go_enter Tryd.func24, Tryd.ntmps24
    go_wp2
    go_ret
    exact ⟨rfl, rfl⟩
  · have hsz : (bs (nameOf 1)).size = 8 := by rw [bs_size]; rfl
    go_enter Tryd.func24, Tryd.ntmps24
    go_wp2_with (go_at_call 52; (with_reducible refine (nameOf_at' 1 ?hn _).mono ?_); (case hn => rfl); rintro e w1 ⟨rfl, rfl⟩)
    go_ret
    exact ⟨ret_str (by rw [show (⟨#[60, 47]⟩ : ByteArray) = bs [60, 47] from rfl, show (⟨#[62]⟩ : ByteArray) = bs [62] from rfl, bs_append, bs_append]; rfl), rfl⟩
  · have hsz : (bs (nameOf 2)).size = 5 := by rw [bs_size]; rfl
    go_enter Tryd.func24, Tryd.ntmps24
    go_wp2_with (go_at_call 52; (with_reducible refine (nameOf_at' 2 ?hn _).mono ?_); (case hn => rfl); rintro e w1 ⟨rfl, rfl⟩)
    go_ret
    exact ⟨ret_str (by rw [show (⟨#[60, 47]⟩ : ByteArray) = bs [60, 47] from rfl, show (⟨#[62]⟩ : ByteArray) = bs [62] from rfl, bs_append, bs_append]; rfl), rfl⟩
  · have hsz : (bs (nameOf 3)).size = 6 := by rw [bs_size]; rfl
    go_enter Tryd.func24, Tryd.ntmps24
    go_wp2_with (go_at_call 52; (with_reducible refine (nameOf_at' 3 ?hn _).mono ?_); (case hn => rfl); rintro e w1 ⟨rfl, rfl⟩)
    go_ret
    exact ⟨ret_str (by rw [show (⟨#[60, 47]⟩ : ByteArray) = bs [60, 47] from rfl, show (⟨#[62]⟩ : ByteArray) = bs [62] from rfl, bs_append, bs_append]; rfl), rfl⟩
  · have hsz : (bs (nameOf 4)).size = 5 := by rw [bs_size]; rfl
    go_enter Tryd.func24, Tryd.ntmps24
    go_wp2_with (go_at_call 52; (with_reducible refine (nameOf_at' 4 ?hn _).mono ?_); (case hn => rfl); rintro e w1 ⟨rfl, rfl⟩)
    go_ret
    exact ⟨ret_str (by rw [show (⟨#[60, 47]⟩ : ByteArray) = bs [60, 47] from rfl, show (⟨#[62]⟩ : ByteArray) = bs [62] from rfl, bs_append, bs_append]; rfl), rfl⟩
set_option maxHeartbeats 4000000 in
set_option maxRecDepth 100000 in
theorem tcode_calls (c : Cx) (w : World) : Calls Tryd.prog 26 #[.agg (cxs c)] w fun e w' => e = .returned (.string (bs (tcode c))) ∧ Below w.heap.size w w' := by
  have hu33 := Tryd.underlying33
  obtain ⟨q, hq⟩ : ∃ q, q = tcode c := ⟨_, rfl⟩
  rw [← hq]
  have HQ := Aside0.mk hq
  clear hq
  obtain ⟨st, el, en, ak, qu, pa, su, es, da, nm⟩ := c
  simp only [cxs]
  go_enter Tryd.func26, Tryd.ntmps26
  go_wp2
  all_goals
    clear hu33
    go_ret
    refine ⟨ret_str ?_, ((Below.refl _ _).alloc (Nat.le_refl _) _)⟩
    have hr := HQ.out
    try simp only [cast_eq, Int.natCast_inj, beq_iff_eq, bne_iff_ne, Bool.eq_false_iff, ne_eq, Bool.not_eq_true', Bool.or_eq_true, Bool.and_eq_true, Decidable.not_not, decide_eq_true_eq] at *
    unfold tcode at hr
    dsimp only at hr
    repeat' split at hr
    all_goals first
      | contradiction
      | (exfalso; omega)
      | (subst hr; rfl)
      | (exfalso; simp_all; done)
end Go.Proofs.YtfplocpjdjjoaaaDoor.Ctxs
namespace Go.Proofs.YtfplocpjdjjoaaaDoor.Ctxs
open Go Go.RowKit Go.Proofs.YtfplocpjdjjoaaaDoor.Trail Go.Proofs.YtfplocpjdjjoaaaDoorW.PrintWords
set_option linter.unusedVariables false
set_option linter.unusedSimpArgs false
set_option maxHeartbeats 4000000 in
set_option maxRecDepth 100000 in
theorem trim_in (s t : ByteArray) (h : t.toList.isPrefixOf s.toList = true) (w : World) : Calls Tryd.prog 68 #[.string s, .string t] w fun e w' => e = .returned (.string (s.extract t.size s.size)) ∧ w = w' := by
  have hle : t.size ≤ s.size := by
    have := (List.isPrefixOf_iff_prefix.1 h).length_le
    rwa [list_length, list_length] at this
  have HP := Aside0.mk h
  clear h
  go_enter Tryd.func68, Tryd.ntmps68
  go_wp2_with (go_at_call 75; (with_reducible refine (hasPrefix_in s t _).mono ?_); rintro e w1 ⟨rfl, rfl⟩; rw [HP.out])
  go_ret
  exact ⟨rfl, rfl⟩
set_option maxHeartbeats 4000000 in
set_option maxRecDepth 100000 in
theorem trim_calls (s t : ByteArray) (h : t.toList.isPrefixOf s.toList = true) (w : World) : Calls Tryd.prog 53 #[.string s, .string t] w fun e w' => e = .returned (.string (s.extract t.size s.size)) ∧ w = w' := by
  have HP := Aside0.mk h
  clear h
  go_enter Tryd.func53, Tryd.ntmps53
  go_wp2_with (go_at_call 68; (with_reducible refine (trim_in s t HP.out _).mono ?_); rintro e w1 ⟨rfl, rfl⟩)
  go_ret
  exact ⟨rfl, rfl⟩
theorem bs_drop (l : List Nat) (k : Nat) : (bs l).extract k (bs l).size = bs (l.drop k) := by
  apply ByteArray.ext
  apply Array.toList_inj.1
  rw [Lib.extract_to_end]
  simp [bs]
end Go.Proofs.YtfplocpjdjjoaaaDoor.Ctxs
namespace Go.Proofs.YtfplocpjdjjoaaaDoor.Ctxs
open Go Go.RowKit Go.Proofs.YtfplocpjdjjoaaaDoor.Trail Go.Proofs.YtfplocpjdjjoaaaDoorW.PrintWords
set_option linter.unusedVariables false
set_option linter.unusedSimpArgs false
theorem element_at {n : Int} (k : Nat) (hn : n = (k : Int)) (h : k ≤ 4) (w : World) : Calls Tryd.prog 24 #[.int .u8 n] w fun e w' => e = .returned (.string (bs (element k))) ∧ w = w' := hn ▸ element_calls k h w
theorem tcode_at {v : Array Value} (c : Cx) (hv : v = cxs c) (w : World) : Calls Tryd.prog 26 #[.agg v] w fun e w' => e = .returned (.string (bs (tcode c))) ∧ Below w.heap.size w w' := hv ▸ tcode_calls c w
theorem tcode_len (c : Cx) : (tcode c).length ≤ 2 := by
  unfold tcode
  repeat' split
  all_goals first
    | (simp; done)
    | (simp; split <;> simp; done)
    | (simp; omega)
theorem element_len (k : Nat) : (element k).length ≤ 11 := by
  have := nameOf_len k
  unfold element
  split
  · simp
  · simp; omega
theorem bcell_lt {W w1 : World} (hb : Below W.heap.size W w1) : ∀ b o, b < W.heap.size → w1.cell? ⟨b, o, none⟩ = W.cell? ⟨b, o, none⟩ := fun b o h => hb.cell (p := ⟨b, o, none⟩) h
set_option maxHeartbeats 4000000 in
set_option maxRecDepth 100000 in
theorem traw1 (c : Cx) (h1 : c.st ≠ 19) (h4 : c.el ≤ 4) (w : World) : Calls Tryd.prog 27 #[.agg (cxs c)] w fun e w' => e = .returned (.string (bs (tcode c ++ element c.el))) ∧ Below w.heap.size w w' := by
  have hu33 := Tryd.underlying33
  have H4 := Aside0.mk h4
  have a1 : ((c.st : Int) != 19) = true := by rw [bne_iff_ne]; omega
  have s1 : (bs (tcode c)).size ≤ 2 := by rw [bs_size]; exact tcode_len c
  have s2 : (bs (element c.el)).size ≤ 11 := by rw [bs_size]; exact element_len _
  have s3 : ¬ 9223372036854775807 < (bs (tcode c)).size + (bs (element c.el)).size := by omega
  clear h1 h4
  simp only [cxs]
  go_enter Tryd.func27, Tryd.ntmps27
  go_wp2
  go_region_with (first | (go_at_call 26; (with_reducible refine (tcode_at c ?hv _).mono ?_); (case hv => rfl); rintro e w1 ⟨rfl, hb⟩; have HB1 := Aside0.mk (below_step (Below.drew ((Below.refl _ _).alloc (Nat.le_refl _) _)) hb); have hcl := bcell_lt hb; clear hb) | (go_at_call 24; (with_reducible refine (element_at c.el ?hn H4.out _).mono ?_); (case hn => rfl); rintro e w1 ⟨rfl, rfl⟩))
  all_goals
    go_wp2
    clear hu33
    go_ret
    exact ⟨ret_str (bs_append _ _), HB1.out⟩
end Go.Proofs.YtfplocpjdjjoaaaDoor.Ctxs
