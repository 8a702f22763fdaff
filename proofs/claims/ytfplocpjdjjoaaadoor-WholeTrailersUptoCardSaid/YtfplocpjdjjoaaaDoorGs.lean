/-
  A pair begins; and a reader's byte.
  A reader takes a byte.
  A reader takes a text.
  The tokens of a text, as token.All answers them.
  A list of tokens is alike to itself.
  The law WholeTrailers: it returns true.
  The walk of the law WholeTrailers.
  Conditions: as each theorem says.
-/
import Derived.Test.YtfplocpjdjjoaaaDoorGn
import Derived.Test.YtfplocpjdjjoaaaDoorGj
import Derived.Test.YtfplocpjdjjoaaaDoorGl
import Derived.LoopTactic
import Derived.Test.YtfplocpjdjjoaaaDoorPWholeTrailersx9
namespace Go.Proofs.YtfplocpjdjjoaaaDoor.Ctxs
open Go Go.RowKit Go.Proofs.YtfplocpjdjjoaaaDoor.PWholeTrailers Go.Proofs.YtfplocpjdjjoaaaDoor.Trail Go.Proofs.YtfplocpjdjjoaaaDoorW.PrintWords
set_option linter.unusedVariables false
set_option linter.unusedSimpArgs false
set_option maxHeartbeats 4000000 in
set_option maxRecDepth 100000 in
theorem tag5a (B O : Nat) (w0 W : World) (r : Rd) (f : Cx) (b : Nat) (hb : b < 256) (h : RdAt B O w0 W r) (hl : (r.out.length + 1) * 64 ≤ 140737488355328) (hs : r.tx.length + r.pe.length + 1 ≤ 1000000000000) (h1 : r.c.st = 5) (h2 : f.st ≠ 5) (h9 : r.tk.f2.length ≤ 1000000000000) : Calls Tryd.prog 80 #[.pointer (some ⟨B, 0, none⟩), .agg (cxs f), .int .u8 (b : Int)] W fun e W' => (∃ v, e = .returned v) ∧ RdAt B O w0 W' (tagM r f.st b) := by
  have e : tagM r f.st b = { r with tk := { r.tk with f2 := lastly (r.tk.f2 ++ [⟨bs [], bs []⟩]) fun x => { x with f0 := bs r.c.nm } } } := by simp [tagM, h1, h2]
  rw [e]
  clear e
  have hu33 := Tryd.underlying33
  obtain ⟨tv, pv, av, ov, hblk, hrows⟩ := h
  obtain ⟨A2, c2, e2⟩ := Kd.R_slice hrows.pe
  subst e2
  obtain ⟨m, hm⟩ : ∃ m : Nat, r.tk.f2.length = m := ⟨_, rfl⟩
  obtain ⟨A7, c7, e7⟩ := Kd.R_slice hrows.ats
  rw [hm] at e7
  subst e7
  have HLN := Aside0.mk (show (r.tk.f2 ++ [(⟨bs [], bs []⟩ : S94)]).length = m + 1 by rw [List.length_append, hm]; rfl)
  have H9 := Aside0.mk (show (r.tk.f2.length + 1) * 32 ≤ 140737488355328 by omega)
  obtain ⟨x3, x1⟩ := wrapN m (by omega)
  obtain ⟨x5, x6⟩ := wrapN (m + 1) (by omega)
  have x4 : (0 : Int) ≤ (m : Int) ∧ (m : Int) < (m : Int) + 1 := ⟨Int.natCast_nonneg m, Int.lt_succ _⟩
  rw [show ((m + 1 : Nat) : Int) = (m : Int) + 1 from rfl] at x5 x6
  obtain ⟨y0, y1, y2, y3, y4, y5, y6, y7, y8, y9, y10, y11, y12, y13, y14, y15, y16, y17, y18, yf, ylt⟩ := rcells hblk
  have HBLK := Aside0.mk hblk
  have HR := Aside0.mk hrows
  have HL := Aside0.mk hl
  have HS := Aside0.mk hs
  have HAT := Aside0.mk (show RdAt B O w0 W r from ⟨tv, _, _, ov, hblk, hrows⟩)
  have f3 : ((r.c.st : Int) == 3) = false := by rw [beq_eq_false_iff_ne]; omega
  have f5 : ((r.c.st : Int) == 5) = true := by rw [beq_iff_eq]; omega
  have k5 : ((f.st : Int) != 5) = true := by rw [bne_iff_ne]; omega
  simp only [cxs]
  clear hblk hrows hl hs h1 h2 h9 hm
  go_enter Tryd.func80, Tryd.ntmps80
  go_wp2_with ((with_reducible refine gate_builtin (b := .append) (xs := #[.tmp 39, .tmp 41]) rfl ?_); at_builtin; refine Kd.R_append k94 (w0 := w0) (W := W.alloc (.cells #[.int .u8 (f.st : Int), .int .u8 (f.el : Int), .bool f.en, .int .u8 (f.ak : Int), .int .u8 (f.qu : Int), .int .u8 (f.pa : Int), .int .u8 (f.su : Int), .bool f.es, .int .u8 (f.da : Int), .string (bs f.nm)] 33)) w0.heap.size rfl (.tmp 39) (.tmp 41) 41 94 (.agg #[.string ⟨#[]⟩, .string ⟨#[]⟩]) 32 rfl Tryd.underlying41 info94 rfl (by decide) (by omega) (.slice A7 m c7) r.tk.f2 ⟨bs [], bs []⟩ [.string ⟨#[]⟩, .string ⟨#[]⟩] (fun _ => True) (fun _ => False) rfl ?aX (k94_mkM _ _ _ ⟨bs [], bs []⟩) (fun _ h => h.elim) (fun _ _ => trivial) ?aO ?aB ?aS ?aL ?_; (case aX => show Value.slice (some ⟨W.heap.size + 1, 0, none⟩) 1 1 = _; rw [alloc_size]); (case aO => exact (HR.out.below (below_alloc (Below.refl _ _) _)).ats); (case aB => exact below_alloc HR.out.bw _); (case aS => exact (below_alloc HR.out.bw _).size); (case aL => have := H9.out; omega); intro v1 w1 hn hb1 hg hat; obtain ⟨g, cap, ev, hgb, hgl, -⟩ := Kd.R_form hn (by simp); rw [HLN.out] at ev; subst ev; obtain ⟨q0, q1, qf, qlt⟩ := last_cells hn; have hr1 := (HR.out.below (below_alloc (Below.refl _ _) _)).setats hg hat hn hb1; have HR1 := Aside0.mk hr1; have HBLK1 := Aside0.mk ((hg.block B (by rw [alloc_size]; omega) (HR.out.nB.2.2.2.1)).trans ((alloc_old ylt).trans HBLK.out)); obtain ⟨z0, z1, z2, z3, z4, z5, z6, z7, z8, z9, z10, z11, z12, z13, z14, z15, z16, z17, z18, zf, zlt⟩ := rcells HBLK1.out; have hne : B ≠ g := fun e => hr1.nB.2.2.2.1 (by rw [e]; rfl); have hne2 : g ≠ B := fun e => hne e.symm; clear hn hb1 hg hat hr1)
  go_region_with (fail)
  all_goals
    go_wp2
    go_end0
    have hv := putsV [(15, .slice (some ⟨g, 0, none⟩) (m + 1) cap)] (r1 := { r with tk := { r.tk with f2 := r.tk.f2 ++ [⟨bs [], bs []⟩] } }) HR1.out HBLK1.out rfl
    exact ⟨⟨_, rfl⟩, (RdV.last hv 0 (by decide) (bs r.c.nm) (fun x => { x with f0 := bs r.c.nm }) rfl rfl).below (Below.drew (Below.refl _ _))⟩
theorem data_calls (B O : Nat) (w0 W : World) (r : Rd) (f : Cx) (b : Nat) (hb : b < 256) (h : RdAt B O w0 W r) (i : Nat) (hi : i ≤ 100000000000) (ht : r.tx.length + r.pe.length ≤ i) (h3 : r.tk.f3.size ≤ i) (ha : r.tk.f2.length ≤ i) (hv : ∀ x ∈ r.tk.f2, x.f1.size ≤ i) (ho : r.out.length ≤ 2 * i) (hs : r.c.st = 0 ∨ r.c.st = 1 ∨ r.c.st = 2 ∨ r.c.st = 3 ∨ r.c.st = 11 ∨ r.c.st = 16) : Calls Tryd.prog 77 #[.pointer (some ⟨B, 0, none⟩), .agg (cxs f), .int .u8 (b : Int)] W fun e W' => (∃ v, e = .returned v) ∧ RdAt B O w0 W' (dataM r f.st b) := by
  rcases hs with e | e | e | e | e | e
  · by_cases q : f.st = 2
    · exact data0a B O w0 W r f b hb h (by omega) (by omega) e q
    · exact data0b B O w0 W r f b hb h (by omega) (by omega) e q
  · by_cases q : f.st = 1
    · exact data1a B O w0 W r f b hb h (by omega) (by omega) e q
    · exact data1b B O w0 W r f b hb h (by omega) (by omega) e q
  · exact data2 B O w0 W r f b hb h (by omega) (by omega) e
  · cases q : r.c.en with
    | true => exact data3a B O w0 W r f b hb h (by omega) (by omega) e q
    | false => exact data3b B O w0 W r f b hb h (by omega) (by omega) e q
  · exact data11 B O w0 W r f b hb h (by omega) (by omega) e
  · exact data16 B O w0 W r f b hb h (by omega) (by omega) e
theorem raw_calls' (B O : Nat) (w0 W : World) (r : Rd) (f : Cx) (b : Nat) (hb : b < 256) (h : RdAt B O w0 W r) (i : Nat) (hi : i ≤ 100000000000) (ht : r.tx.length + r.pe.length ≤ i) (h3 : r.tk.f3.size ≤ i) (ha : r.tk.f2.length ≤ i) (hv : ∀ x ∈ r.tk.f2, x.f1.size ≤ i) (ho : r.out.length ≤ 2 * i) (hs : r.c.st = 17 ∨ r.c.st = 18 ∨ r.c.st = 19 ∨ r.c.st = 4 ∨ r.c.st = 10 ∨ r.c.st = 0) : Calls Tryd.prog 78 #[.pointer (some ⟨B, 0, none⟩), .agg (cxs f), .int .u8 (b : Int)] W fun e W' => (∃ v, e = .returned v) ∧ RdAt B O w0 W' (rawM r f.nm b) := by
  rcases hs with e | e | e | e | e | e
  · exact raw17 B O w0 W r f b hb h (by omega) (by omega) e
  · exact raw18 B O w0 W r f b hb h (by omega) (by omega) e
  · exact raw19 B O w0 W r f b hb h (by omega) (by omega) e
  · exact raw4 B O w0 W r f b hb h (by omega) (by omega) e
  · exact raw10 B O w0 W r f b hb h (by omega) (by omega) e
  · exact raw0 B O w0 W r f b hb h (by omega) (by omega) e
theorem note_calls' (B O : Nat) (w0 W : World) (r : Rd) (f : Cx) (b : Nat) (hb : b < 256) (h : RdAt B O w0 W r) (i : Nat) (hi : i ≤ 100000000000) (ht : r.tx.length + r.pe.length ≤ i) (h3 : r.tk.f3.size ≤ i) (ha : r.tk.f2.length ≤ i) (hv : ∀ x ∈ r.tk.f2, x.f1.size ≤ i) (ho : r.out.length ≤ 2 * i) (h2 : r.c.st = 0 → f.st = 15 → 2 ≤ r.tk.f3.size) : Calls Tryd.prog 79 #[.pointer (some ⟨B, 0, none⟩), .agg (cxs f), .int .u8 (b : Int)] W fun e W' => (∃ v, e = .returned v) ∧ RdAt B O w0 W' (noteM r f.st b) := by
  by_cases e : r.c.st = 13
  · exact note13 B O w0 W r f b hb h (by omega) (by omega) e (by omega)
  · by_cases e0 : r.c.st = 0
    · by_cases q : f.st = 15
      · exact noteEnd15 B O w0 W r f b hb h (by omega) (by omega) e0 q (h2 e0 q) (by omega)
      · exact noteEnd B O w0 W r f b hb h (by omega) (by omega) e0 q (by omega)
    · exact noteMid B O w0 W r f b hb h (by omega) (by omega) e e0 (by omega)
theorem tag_calls' (B O : Nat) (w0 W : World) (r : Rd) (f : Cx) (b : Nat) (hb : b < 256) (h : RdAt B O w0 W r) (i : Nat) (hi : i ≤ 100000000000) (ht : r.tx.length + r.pe.length ≤ i) (h3 : r.tk.f3.size ≤ i) (ha : r.tk.f2.length ≤ i) (hv : ∀ x ∈ r.tk.f2, x.f1.size ≤ i) (ho : r.out.length ≤ 2 * i) (h2 : r.c.st = 5 ∧ f.st = 5 ∨ r.c.st = 8 → r.tk.f2 ≠ []) : Calls Tryd.prog 80 #[.pointer (some ⟨B, 0, none⟩), .agg (cxs f), .int .u8 (b : Int)] W fun e W' => (∃ v, e = .returned v) ∧ RdAt B O w0 W' (tagM r f.st b) := by
  have hv' : ∀ x ∈ r.tk.f2, x.f1.size ≤ 1000000000000 := fun x hx => Nat.le_trans (hv x hx) (by omega)
  have hp : r.tk.f2 ≠ [] → 1 ≤ r.tk.f2.length := fun q => List.length_pos_iff.2 q
  by_cases e3 : r.c.st = 3
  · exact tag3 B O w0 W r f b hb h (by omega) (by omega) e3 (by omega)
  · by_cases e5 : r.c.st = 5
    · by_cases q : f.st = 5
      · exact tag5b B O w0 W r f b hb h (by omega) (by omega) e5 q (hp (h2 (.inl ⟨e5, q⟩))) (by omega)
      · exact tag5a B O w0 W r f b hb h (by omega) (by omega) e5 q (by omega)
    · by_cases e8 : r.c.st = 8
      · by_cases q : f.st = 8
        · exact tag8a B O w0 W r f b hb h (by omega) (by omega) e8 q (hp (h2 (.inr e8))) hv' (by omega)
        · by_cases z : r.c.qu = 0
          · exact tag8b B O w0 W r f b hb h (by omega) (by omega) e8 q z (hp (h2 (.inr e8))) hv' (by omega)
          · exact tag8n B O w0 W r f b hb h (by omega) (by omega) e8 q z (by omega)
      · by_cases e0 : r.c.st = 0
        · exact tag0 B O w0 W r f b hb h (by omega) (by omega) e0 (by omega)
        · by_cases e17 : r.c.st = 17
          · exact tag17 B O w0 W r f b hb h (by omega) (by omega) e17 (by omega)
          · exact tagNo B O w0 W r f b hb h (by omega) (by omega) ⟨e3, e5, e8, e0, e17⟩ (by omega)
end Go.Proofs.YtfplocpjdjjoaaaDoor.Ctxs
namespace Go.Proofs.YtfplocpjdjjoaaaDoor.Ctxs
open Go Go.RowKit Go.Proofs.YtfplocpjdjjoaaaDoor.PWholeTrailers Go.Proofs.YtfplocpjdjjoaaaDoor.Trail Go.Proofs.YtfplocpjdjjoaaaDoorW.PrintWords
set_option linter.unusedVariables false
set_option linter.unusedSimpArgs false
theorem plain_at {v : Array Value} {n : Int} (c d : Cx) (hv : v = cxs c) (b : Nat) (hb : n = (b : Int)) (hf : flat c = c) (hd : d = flat (Trail.step attrOf false c b)) (hi : Inv c) (hl : Low c.nm) (hb2 : b < 256) (w : World) (hG : Glob w) : Calls Tryd.prog 76 #[.agg v, .int .u8 n] w (Ret d w) := by
  subst hv
  subst hb
  have h := plain_calls c b hi hl hb2 w hG
  rw [hf, ← hd] at h
  exact h
def nxt (r : Rd) (d : Cx) : Rd := { r with c := d }
theorem rcs_put10 (r : Rd) (d : Cx) (tv pv av : Value) (O : Nat) : (([(0, .int .u8 (d.st : Int)), (1, .int .u8 (d.el : Int)), (2, .bool d.en), (3, .int .u8 (d.ak : Int)), (4, .int .u8 (d.qu : Int)), (5, .int .u8 (d.pa : Int)), (6, .int .u8 (d.su : Int)), (7, .bool d.es), (8, .int .u8 (d.da : Int)), (9, .string (bs d.nm))] : List (Nat × Value)).foldl (fun cs p => cs.setIfInBounds p.1 p.2) (rcs r tv pv av O)) = rcs (nxt r d) tv pv av O := by
  simp [rcs, nxt]
theorem rd_data_at {v : Array Value} (B O : Nat) (w0 W : World) (r : Rd) (f : Cx) (b : Nat) (hb : b < 256) (h : RdAt B O w0 W r) (i : Nat) (hi : i ≤ 100000000000) (ht : r.tx.length + r.pe.length ≤ i) (h3 : r.tk.f3.size ≤ i) (ha : r.tk.f2.length ≤ i) (hv : ∀ x ∈ r.tk.f2, x.f1.size ≤ i) (ho : r.out.length ≤ 2 * i) (hv' : v = cxs f) (hs : r.c.st = 0 ∨ r.c.st = 1 ∨ r.c.st = 2 ∨ r.c.st = 3 ∨ r.c.st = 11 ∨ r.c.st = 16) : Calls Tryd.prog 77 #[.pointer (some ⟨B, 0, none⟩), .agg v, .int .u8 (b : Int)] W fun e W' => (∃ v, e = .returned v) ∧ RdAt B O w0 W' (dataM r f.st b) := hv' ▸ data_calls B O w0 W r f b hb h i hi ht h3 ha hv ho hs
theorem rd_raw_at {v : Array Value} (B O : Nat) (w0 W : World) (r : Rd) (f : Cx) (b : Nat) (hb : b < 256) (h : RdAt B O w0 W r) (i : Nat) (hi : i ≤ 100000000000) (ht : r.tx.length + r.pe.length ≤ i) (h3 : r.tk.f3.size ≤ i) (ha : r.tk.f2.length ≤ i) (hv : ∀ x ∈ r.tk.f2, x.f1.size ≤ i) (ho : r.out.length ≤ 2 * i) (hv' : v = cxs f) (hs : r.c.st = 17 ∨ r.c.st = 18 ∨ r.c.st = 19 ∨ r.c.st = 4 ∨ r.c.st = 10 ∨ r.c.st = 0) : Calls Tryd.prog 78 #[.pointer (some ⟨B, 0, none⟩), .agg v, .int .u8 (b : Int)] W fun e W' => (∃ v, e = .returned v) ∧ RdAt B O w0 W' (rawM r f.nm b) := hv' ▸ raw_calls' B O w0 W r f b hb h i hi ht h3 ha hv ho hs
theorem rd_note_at {v : Array Value} (B O : Nat) (w0 W : World) (r : Rd) (f : Cx) (b : Nat) (hb : b < 256) (h : RdAt B O w0 W r) (i : Nat) (hi : i ≤ 100000000000) (ht : r.tx.length + r.pe.length ≤ i) (h3 : r.tk.f3.size ≤ i) (ha : r.tk.f2.length ≤ i) (hv : ∀ x ∈ r.tk.f2, x.f1.size ≤ i) (ho : r.out.length ≤ 2 * i) (hv' : v = cxs f) (h2 : r.c.st = 0 → f.st = 15 → 2 ≤ r.tk.f3.size) : Calls Tryd.prog 79 #[.pointer (some ⟨B, 0, none⟩), .agg v, .int .u8 (b : Int)] W fun e W' => (∃ v, e = .returned v) ∧ RdAt B O w0 W' (noteM r f.st b) := hv' ▸ note_calls' B O w0 W r f b hb h i hi ht h3 ha hv ho h2
theorem rd_tag_at {v : Array Value} (B O : Nat) (w0 W : World) (r : Rd) (f : Cx) (b : Nat) (hb : b < 256) (h : RdAt B O w0 W r) (i : Nat) (hi : i ≤ 100000000000) (ht : r.tx.length + r.pe.length ≤ i) (h3 : r.tk.f3.size ≤ i) (ha : r.tk.f2.length ≤ i) (hv : ∀ x ∈ r.tk.f2, x.f1.size ≤ i) (ho : r.out.length ≤ 2 * i) (hv' : v = cxs f) (h2 : r.c.st = 5 ∧ f.st = 5 ∨ r.c.st = 8 → r.tk.f2 ≠ []) : Calls Tryd.prog 80 #[.pointer (some ⟨B, 0, none⟩), .agg v, .int .u8 (b : Int)] W fun e W' => (∃ v, e = .returned v) ∧ RdAt B O w0 W' (tagM r f.st b) := hv' ▸ tag_calls' B O w0 W r f b hb h i hi ht h3 ha hv ho h2
set_option maxHeartbeats 4000000 in
set_option maxRecDepth 100000 in
theorem takeD0 (B O : Nat) (w0 W : World) (r : Rd) (b : Nat) (hb : b < 256) (h : RdAt B O w0 W r) (i : Nat) (hi : i ≤ 100000000000) (hok : Ok r i) (hin : Inv r.c) (hlo : Low r.c.nm) (hfl : flat r.c = r.c) (d : Cx) (hd : d = flat (Trail.step attrOf false r.c b)) (hs : r.c.st = 0) (hto : (nxt r d).c.st = 0 ∨ (nxt r d).c.st = 1 ∨ (nxt r d).c.st = 2 ∨ (nxt r d).c.st = 3 ∨ (nxt r d).c.st = 11 ∨ (nxt r d).c.st = 16) : Calls Tryd.prog 57 #[.pointer (some ⟨B, 0, none⟩), .int .u8 (b : Int)] W fun e W' => (∃ v, e = .returned v) ∧ RdAt B O w0 W' (dataM (nxt r d) r.c.st b) := by
  have hu33 := Tryd.underlying33
  obtain ⟨tv, pv, av, ov, hblk, hrows⟩ := h
  obtain ⟨y0, y1, y2, y3, y4, y5, y6, y7, y8, y9, y10, y11, y12, y13, y14, y15, y16, y17, y18, yf, ylt⟩ := rcells hblk
  have HBLK := Aside0.mk hblk
  have HR := Aside0.mk hrows
  have HI := Aside0.mk hin
  have HLO := Aside0.mk hlo
  have HB8 := Aside0.mk hb
  have HOK := Aside0.mk hok
  have HII := Aside0.mk hi
  have HTO := Aside0.mk hto
  have HX1 := Aside0.mk (show (nxt r d).tx.length + (nxt r d).pe.length ≤ i from hok.tx)
  have HX2 := Aside0.mk (show (nxt r d).tk.f3.size ≤ i from hok.f3)
  have HX3 := Aside0.mk (show (nxt r d).tk.f2.length ≤ i from hok.ats)
  have HX4 := Aside0.mk (show ∀ x ∈ (nxt r d).tk.f2, x.f1.size ≤ i from hok.val)
  have HX5 := Aside0.mk (show (nxt r d).out.length ≤ 2 * i from hok.out)
  have HFL := Aside0.mk hfl
  have HD := Aside0.mk hd
  have f0 : ((r.c.st : Int) == 0) = true := by rw [beq_iff_eq]; omega
  clear hblk hrows hin hlo hok hi hto hs hfl hd
  go_enter Tryd.func57, Tryd.ntmps57
  go_wp2_with (first | (go_at_call 76; (with_reducible refine (plain_at r.c d ?hv b ?hn HFL.out HD.out HI.out HLO.out HB8.out _ (glob_below HR.out.glob (below_alloc (Below.refl _ _) _))).mono ?_); (case hv => rfl); (case hn => rfl); rintro e w1 ⟨rfl, hbw⟩; have HOWN := Aside0.mk ((hbw.block W.heap.size (by rw [alloc_size]; omega)).trans (alloc_at rfl)); have HBLK1 := Aside0.mk ((hbw.block B (by rw [alloc_size]; omega)).trans ((alloc_old ylt).trans HBLK.out)); have HR1 := Aside0.mk (HR.out.below (below_step (below_alloc (Below.refl _ _) _) hbw)); obtain ⟨z0, z1, z2, z3, z4, z5, z6, z7, z8, z9, z10, z11, z12, z13, z14, z15, z16, z17, z18, zf, zlt⟩ := rcells HBLK1.out; obtain ⟨o0, o1, o2, o3, o4, o5, o6, o7, o8, o9, of⟩ := zero_of HOWN.out; have hBO : B ≠ W.heap.size := (by omega); have hOB : W.heap.size ≠ B := (by omega); have holt : W.heap.size < w1.heap.size := blk_lt HOWN.out; clear hbw; have HP := Aside0.mk (show RdAt B O w0 ((((((((((w1.setCell ⟨B, 0, none⟩ (.int .u8 (d.st : Int))).setCell ⟨B, 1, none⟩ (.int .u8 (d.el : Int))).setCell ⟨B, 2, none⟩ (.bool d.en)).setCell ⟨B, 3, none⟩ (.int .u8 (d.ak : Int))).setCell ⟨B, 4, none⟩ (.int .u8 (d.qu : Int))).setCell ⟨B, 5, none⟩ (.int .u8 (d.pa : Int))).setCell ⟨B, 6, none⟩ (.int .u8 (d.su : Int))).setCell ⟨B, 7, none⟩ (.bool d.es)).setCell ⟨B, 8, none⟩ (.int .u8 (d.da : Int))).setCell ⟨B, 9, none⟩ (.string (bs d.nm))) (nxt r d) from puts [(0, .int .u8 (d.st : Int)), (1, .int .u8 (d.el : Int)), (2, .bool d.en), (3, .int .u8 (d.ak : Int)), (4, .int .u8 (d.qu : Int)), (5, .int .u8 (d.pa : Int)), (6, .int .u8 (d.su : Int)), (7, .bool d.es), (8, .int .u8 (d.da : Int)), (9, .string (bs d.nm))] (r1 := nxt r d) HR1.out HBLK1.out (rcs_put10 r d tv pv av O)); simp only [cxs]) | (go_at_call 77; (with_reducible refine (rd_data_at B O w0 _ (nxt r d) r.c b HB8.out HP.out i HII.out HX1.out HX2.out HX3.out HX4.out HX5.out ?hv' HTO.out).mono ?_); (case hv' => rfl); rintro e w2 ⟨⟨v, rfl⟩, h1⟩; have H1 := Aside0.mk h1; clear h1))

  go_end0
  exact ⟨⟨_, rfl⟩, H1.out⟩
set_option maxHeartbeats 4000000 in
set_option maxRecDepth 100000 in
theorem takeD1 (B O : Nat) (w0 W : World) (r : Rd) (b : Nat) (hb : b < 256) (h : RdAt B O w0 W r) (i : Nat) (hi : i ≤ 100000000000) (hok : Ok r i) (hin : Inv r.c) (hlo : Low r.c.nm) (hfl : flat r.c = r.c) (d : Cx) (hd : d = flat (Trail.step attrOf false r.c b)) (hs : r.c.st = 1) (hto : (nxt r d).c.st = 0 ∨ (nxt r d).c.st = 1 ∨ (nxt r d).c.st = 2 ∨ (nxt r d).c.st = 3 ∨ (nxt r d).c.st = 11 ∨ (nxt r d).c.st = 16) : Calls Tryd.prog 57 #[.pointer (some ⟨B, 0, none⟩), .int .u8 (b : Int)] W fun e W' => (∃ v, e = .returned v) ∧ RdAt B O w0 W' (dataM (nxt r d) r.c.st b) := by
  have hu33 := Tryd.underlying33
  obtain ⟨tv, pv, av, ov, hblk, hrows⟩ := h
  obtain ⟨y0, y1, y2, y3, y4, y5, y6, y7, y8, y9, y10, y11, y12, y13, y14, y15, y16, y17, y18, yf, ylt⟩ := rcells hblk
  have HBLK := Aside0.mk hblk
  have HR := Aside0.mk hrows
  have HI := Aside0.mk hin
  have HLO := Aside0.mk hlo
  have HB8 := Aside0.mk hb
  have HOK := Aside0.mk hok
  have HII := Aside0.mk hi
  have HTO := Aside0.mk hto
  have HX1 := Aside0.mk (show (nxt r d).tx.length + (nxt r d).pe.length ≤ i from hok.tx)
  have HX2 := Aside0.mk (show (nxt r d).tk.f3.size ≤ i from hok.f3)
  have HX3 := Aside0.mk (show (nxt r d).tk.f2.length ≤ i from hok.ats)
  have HX4 := Aside0.mk (show ∀ x ∈ (nxt r d).tk.f2, x.f1.size ≤ i from hok.val)
  have HX5 := Aside0.mk (show (nxt r d).out.length ≤ 2 * i from hok.out)
  have HFL := Aside0.mk hfl
  have HD := Aside0.mk hd
  have f0 : ((r.c.st : Int) == 0) = false := by rw [beq_eq_false_iff_ne]; omega
  have f1 : ((r.c.st : Int) == 1) = true := by rw [beq_iff_eq]; omega
  clear hblk hrows hin hlo hok hi hto hs hfl hd
  go_enter Tryd.func57, Tryd.ntmps57
  go_wp2_with (first | (go_at_call 76; (with_reducible refine (plain_at r.c d ?hv b ?hn HFL.out HD.out HI.out HLO.out HB8.out _ (glob_below HR.out.glob (below_alloc (Below.refl _ _) _))).mono ?_); (case hv => rfl); (case hn => rfl); rintro e w1 ⟨rfl, hbw⟩; have HOWN := Aside0.mk ((hbw.block W.heap.size (by rw [alloc_size]; omega)).trans (alloc_at rfl)); have HBLK1 := Aside0.mk ((hbw.block B (by rw [alloc_size]; omega)).trans ((alloc_old ylt).trans HBLK.out)); have HR1 := Aside0.mk (HR.out.below (below_step (below_alloc (Below.refl _ _) _) hbw)); obtain ⟨z0, z1, z2, z3, z4, z5, z6, z7, z8, z9, z10, z11, z12, z13, z14, z15, z16, z17, z18, zf, zlt⟩ := rcells HBLK1.out; obtain ⟨o0, o1, o2, o3, o4, o5, o6, o7, o8, o9, of⟩ := zero_of HOWN.out; have hBO : B ≠ W.heap.size := (by omega); have hOB : W.heap.size ≠ B := (by omega); have holt : W.heap.size < w1.heap.size := blk_lt HOWN.out; clear hbw; have HP := Aside0.mk (show RdAt B O w0 ((((((((((w1.setCell ⟨B, 0, none⟩ (.int .u8 (d.st : Int))).setCell ⟨B, 1, none⟩ (.int .u8 (d.el : Int))).setCell ⟨B, 2, none⟩ (.bool d.en)).setCell ⟨B, 3, none⟩ (.int .u8 (d.ak : Int))).setCell ⟨B, 4, none⟩ (.int .u8 (d.qu : Int))).setCell ⟨B, 5, none⟩ (.int .u8 (d.pa : Int))).setCell ⟨B, 6, none⟩ (.int .u8 (d.su : Int))).setCell ⟨B, 7, none⟩ (.bool d.es)).setCell ⟨B, 8, none⟩ (.int .u8 (d.da : Int))).setCell ⟨B, 9, none⟩ (.string (bs d.nm))) (nxt r d) from puts [(0, .int .u8 (d.st : Int)), (1, .int .u8 (d.el : Int)), (2, .bool d.en), (3, .int .u8 (d.ak : Int)), (4, .int .u8 (d.qu : Int)), (5, .int .u8 (d.pa : Int)), (6, .int .u8 (d.su : Int)), (7, .bool d.es), (8, .int .u8 (d.da : Int)), (9, .string (bs d.nm))] (r1 := nxt r d) HR1.out HBLK1.out (rcs_put10 r d tv pv av O)); simp only [cxs]) | (go_at_call 77; (with_reducible refine (rd_data_at B O w0 _ (nxt r d) r.c b HB8.out HP.out i HII.out HX1.out HX2.out HX3.out HX4.out HX5.out ?hv' HTO.out).mono ?_); (case hv' => rfl); rintro e w2 ⟨⟨v, rfl⟩, h1⟩; have H1 := Aside0.mk h1; clear h1))

  go_end0
  exact ⟨⟨_, rfl⟩, H1.out⟩
set_option maxHeartbeats 4000000 in
set_option maxRecDepth 100000 in
theorem takeD2 (B O : Nat) (w0 W : World) (r : Rd) (b : Nat) (hb : b < 256) (h : RdAt B O w0 W r) (i : Nat) (hi : i ≤ 100000000000) (hok : Ok r i) (hin : Inv r.c) (hlo : Low r.c.nm) (hfl : flat r.c = r.c) (d : Cx) (hd : d = flat (Trail.step attrOf false r.c b)) (hs : r.c.st = 2) (hto : (nxt r d).c.st = 0 ∨ (nxt r d).c.st = 1 ∨ (nxt r d).c.st = 2 ∨ (nxt r d).c.st = 3 ∨ (nxt r d).c.st = 11 ∨ (nxt r d).c.st = 16) : Calls Tryd.prog 57 #[.pointer (some ⟨B, 0, none⟩), .int .u8 (b : Int)] W fun e W' => (∃ v, e = .returned v) ∧ RdAt B O w0 W' (dataM (nxt r d) r.c.st b) := by
  have hu33 := Tryd.underlying33
  obtain ⟨tv, pv, av, ov, hblk, hrows⟩ := h
  obtain ⟨y0, y1, y2, y3, y4, y5, y6, y7, y8, y9, y10, y11, y12, y13, y14, y15, y16, y17, y18, yf, ylt⟩ := rcells hblk
  have HBLK := Aside0.mk hblk
  have HR := Aside0.mk hrows
  have HI := Aside0.mk hin
  have HLO := Aside0.mk hlo
  have HB8 := Aside0.mk hb
  have HOK := Aside0.mk hok
  have HII := Aside0.mk hi
  have HTO := Aside0.mk hto
  have HX1 := Aside0.mk (show (nxt r d).tx.length + (nxt r d).pe.length ≤ i from hok.tx)
  have HX2 := Aside0.mk (show (nxt r d).tk.f3.size ≤ i from hok.f3)
  have HX3 := Aside0.mk (show (nxt r d).tk.f2.length ≤ i from hok.ats)
  have HX4 := Aside0.mk (show ∀ x ∈ (nxt r d).tk.f2, x.f1.size ≤ i from hok.val)
  have HX5 := Aside0.mk (show (nxt r d).out.length ≤ 2 * i from hok.out)
  have HFL := Aside0.mk hfl
  have HD := Aside0.mk hd
  have f0 : ((r.c.st : Int) == 0) = false := by rw [beq_eq_false_iff_ne]; omega
  have f1 : ((r.c.st : Int) == 1) = false := by rw [beq_eq_false_iff_ne]; omega
  have f2 : ((r.c.st : Int) == 2) = true := by rw [beq_iff_eq]; omega
  clear hblk hrows hin hlo hok hi hto hs hfl hd
  go_enter Tryd.func57, Tryd.ntmps57
  go_wp2_with (first | (go_at_call 76; (with_reducible refine (plain_at r.c d ?hv b ?hn HFL.out HD.out HI.out HLO.out HB8.out _ (glob_below HR.out.glob (below_alloc (Below.refl _ _) _))).mono ?_); (case hv => rfl); (case hn => rfl); rintro e w1 ⟨rfl, hbw⟩; have HOWN := Aside0.mk ((hbw.block W.heap.size (by rw [alloc_size]; omega)).trans (alloc_at rfl)); have HBLK1 := Aside0.mk ((hbw.block B (by rw [alloc_size]; omega)).trans ((alloc_old ylt).trans HBLK.out)); have HR1 := Aside0.mk (HR.out.below (below_step (below_alloc (Below.refl _ _) _) hbw)); obtain ⟨z0, z1, z2, z3, z4, z5, z6, z7, z8, z9, z10, z11, z12, z13, z14, z15, z16, z17, z18, zf, zlt⟩ := rcells HBLK1.out; obtain ⟨o0, o1, o2, o3, o4, o5, o6, o7, o8, o9, of⟩ := zero_of HOWN.out; have hBO : B ≠ W.heap.size := (by omega); have hOB : W.heap.size ≠ B := (by omega); have holt : W.heap.size < w1.heap.size := blk_lt HOWN.out; clear hbw; have HP := Aside0.mk (show RdAt B O w0 ((((((((((w1.setCell ⟨B, 0, none⟩ (.int .u8 (d.st : Int))).setCell ⟨B, 1, none⟩ (.int .u8 (d.el : Int))).setCell ⟨B, 2, none⟩ (.bool d.en)).setCell ⟨B, 3, none⟩ (.int .u8 (d.ak : Int))).setCell ⟨B, 4, none⟩ (.int .u8 (d.qu : Int))).setCell ⟨B, 5, none⟩ (.int .u8 (d.pa : Int))).setCell ⟨B, 6, none⟩ (.int .u8 (d.su : Int))).setCell ⟨B, 7, none⟩ (.bool d.es)).setCell ⟨B, 8, none⟩ (.int .u8 (d.da : Int))).setCell ⟨B, 9, none⟩ (.string (bs d.nm))) (nxt r d) from puts [(0, .int .u8 (d.st : Int)), (1, .int .u8 (d.el : Int)), (2, .bool d.en), (3, .int .u8 (d.ak : Int)), (4, .int .u8 (d.qu : Int)), (5, .int .u8 (d.pa : Int)), (6, .int .u8 (d.su : Int)), (7, .bool d.es), (8, .int .u8 (d.da : Int)), (9, .string (bs d.nm))] (r1 := nxt r d) HR1.out HBLK1.out (rcs_put10 r d tv pv av O)); simp only [cxs]) | (go_at_call 77; (with_reducible refine (rd_data_at B O w0 _ (nxt r d) r.c b HB8.out HP.out i HII.out HX1.out HX2.out HX3.out HX4.out HX5.out ?hv' HTO.out).mono ?_); (case hv' => rfl); rintro e w2 ⟨⟨v, rfl⟩, h1⟩; have H1 := Aside0.mk h1; clear h1))

  go_end0
  exact ⟨⟨_, rfl⟩, H1.out⟩
set_option maxHeartbeats 4000000 in
set_option maxRecDepth 100000 in
theorem takeR17 (B O : Nat) (w0 W : World) (r : Rd) (b : Nat) (hb : b < 256) (h : RdAt B O w0 W r) (i : Nat) (hi : i ≤ 100000000000) (hok : Ok r i) (hin : Inv r.c) (hlo : Low r.c.nm) (hfl : flat r.c = r.c) (d : Cx) (hd : d = flat (Trail.step attrOf false r.c b)) (hs : r.c.st = 17) (hto : (nxt r d).c.st = 17 ∨ (nxt r d).c.st = 18 ∨ (nxt r d).c.st = 19 ∨ (nxt r d).c.st = 4 ∨ (nxt r d).c.st = 10 ∨ (nxt r d).c.st = 0) : Calls Tryd.prog 57 #[.pointer (some ⟨B, 0, none⟩), .int .u8 (b : Int)] W fun e W' => (∃ v, e = .returned v) ∧ RdAt B O w0 W' (rawM (nxt r d) r.c.nm b) := by
  have hu33 := Tryd.underlying33
  obtain ⟨tv, pv, av, ov, hblk, hrows⟩ := h
  obtain ⟨y0, y1, y2, y3, y4, y5, y6, y7, y8, y9, y10, y11, y12, y13, y14, y15, y16, y17, y18, yf, ylt⟩ := rcells hblk
  have HBLK := Aside0.mk hblk
  have HR := Aside0.mk hrows
  have HI := Aside0.mk hin
  have HLO := Aside0.mk hlo
  have HB8 := Aside0.mk hb
  have HOK := Aside0.mk hok
  have HII := Aside0.mk hi
  have HTO := Aside0.mk hto
  have HX1 := Aside0.mk (show (nxt r d).tx.length + (nxt r d).pe.length ≤ i from hok.tx)
  have HX2 := Aside0.mk (show (nxt r d).tk.f3.size ≤ i from hok.f3)
  have HX3 := Aside0.mk (show (nxt r d).tk.f2.length ≤ i from hok.ats)
  have HX4 := Aside0.mk (show ∀ x ∈ (nxt r d).tk.f2, x.f1.size ≤ i from hok.val)
  have HX5 := Aside0.mk (show (nxt r d).out.length ≤ 2 * i from hok.out)
  have HFL := Aside0.mk hfl
  have HD := Aside0.mk hd
  have f0 : ((r.c.st : Int) == 0) = false := by rw [beq_eq_false_iff_ne]; omega
  have f1 : ((r.c.st : Int) == 1) = false := by rw [beq_eq_false_iff_ne]; omega
  have f2 : ((r.c.st : Int) == 2) = false := by rw [beq_eq_false_iff_ne]; omega
  have f17 : ((r.c.st : Int) == 17) = true := by rw [beq_iff_eq]; omega
  clear hblk hrows hin hlo hok hi hto hs hfl hd
  go_enter Tryd.func57, Tryd.ntmps57
  go_wp2_with (first | (go_at_call 76; (with_reducible refine (plain_at r.c d ?hv b ?hn HFL.out HD.out HI.out HLO.out HB8.out _ (glob_below HR.out.glob (below_alloc (Below.refl _ _) _))).mono ?_); (case hv => rfl); (case hn => rfl); rintro e w1 ⟨rfl, hbw⟩; have HOWN := Aside0.mk ((hbw.block W.heap.size (by rw [alloc_size]; omega)).trans (alloc_at rfl)); have HBLK1 := Aside0.mk ((hbw.block B (by rw [alloc_size]; omega)).trans ((alloc_old ylt).trans HBLK.out)); have HR1 := Aside0.mk (HR.out.below (below_step (below_alloc (Below.refl _ _) _) hbw)); obtain ⟨z0, z1, z2, z3, z4, z5, z6, z7, z8, z9, z10, z11, z12, z13, z14, z15, z16, z17, z18, zf, zlt⟩ := rcells HBLK1.out; obtain ⟨o0, o1, o2, o3, o4, o5, o6, o7, o8, o9, of⟩ := zero_of HOWN.out; have hBO : B ≠ W.heap.size := (by omega); have hOB : W.heap.size ≠ B := (by omega); have holt : W.heap.size < w1.heap.size := blk_lt HOWN.out; clear hbw; have HP := Aside0.mk (show RdAt B O w0 ((((((((((w1.setCell ⟨B, 0, none⟩ (.int .u8 (d.st : Int))).setCell ⟨B, 1, none⟩ (.int .u8 (d.el : Int))).setCell ⟨B, 2, none⟩ (.bool d.en)).setCell ⟨B, 3, none⟩ (.int .u8 (d.ak : Int))).setCell ⟨B, 4, none⟩ (.int .u8 (d.qu : Int))).setCell ⟨B, 5, none⟩ (.int .u8 (d.pa : Int))).setCell ⟨B, 6, none⟩ (.int .u8 (d.su : Int))).setCell ⟨B, 7, none⟩ (.bool d.es)).setCell ⟨B, 8, none⟩ (.int .u8 (d.da : Int))).setCell ⟨B, 9, none⟩ (.string (bs d.nm))) (nxt r d) from puts [(0, .int .u8 (d.st : Int)), (1, .int .u8 (d.el : Int)), (2, .bool d.en), (3, .int .u8 (d.ak : Int)), (4, .int .u8 (d.qu : Int)), (5, .int .u8 (d.pa : Int)), (6, .int .u8 (d.su : Int)), (7, .bool d.es), (8, .int .u8 (d.da : Int)), (9, .string (bs d.nm))] (r1 := nxt r d) HR1.out HBLK1.out (rcs_put10 r d tv pv av O)); simp only [cxs]) | (go_at_call 78; (with_reducible refine (rd_raw_at B O w0 _ (nxt r d) r.c b HB8.out HP.out i HII.out HX1.out HX2.out HX3.out HX4.out HX5.out ?hv' HTO.out).mono ?_); (case hv' => rfl); rintro e w2 ⟨⟨v, rfl⟩, h1⟩; have H1 := Aside0.mk h1; clear h1))

  go_end0
  exact ⟨⟨_, rfl⟩, H1.out⟩
set_option maxHeartbeats 4000000 in
set_option maxRecDepth 100000 in
theorem takeR18 (B O : Nat) (w0 W : World) (r : Rd) (b : Nat) (hb : b < 256) (h : RdAt B O w0 W r) (i : Nat) (hi : i ≤ 100000000000) (hok : Ok r i) (hin : Inv r.c) (hlo : Low r.c.nm) (hfl : flat r.c = r.c) (d : Cx) (hd : d = flat (Trail.step attrOf false r.c b)) (hs : r.c.st = 18) (hto : (nxt r d).c.st = 17 ∨ (nxt r d).c.st = 18 ∨ (nxt r d).c.st = 19 ∨ (nxt r d).c.st = 4 ∨ (nxt r d).c.st = 10 ∨ (nxt r d).c.st = 0) : Calls Tryd.prog 57 #[.pointer (some ⟨B, 0, none⟩), .int .u8 (b : Int)] W fun e W' => (∃ v, e = .returned v) ∧ RdAt B O w0 W' (rawM (nxt r d) r.c.nm b) := by
  have hu33 := Tryd.underlying33
  obtain ⟨tv, pv, av, ov, hblk, hrows⟩ := h
  obtain ⟨y0, y1, y2, y3, y4, y5, y6, y7, y8, y9, y10, y11, y12, y13, y14, y15, y16, y17, y18, yf, ylt⟩ := rcells hblk
  have HBLK := Aside0.mk hblk
  have HR := Aside0.mk hrows
  have HI := Aside0.mk hin
  have HLO := Aside0.mk hlo
  have HB8 := Aside0.mk hb
  have HOK := Aside0.mk hok
  have HII := Aside0.mk hi
  have HTO := Aside0.mk hto
  have HX1 := Aside0.mk (show (nxt r d).tx.length + (nxt r d).pe.length ≤ i from hok.tx)
  have HX2 := Aside0.mk (show (nxt r d).tk.f3.size ≤ i from hok.f3)
  have HX3 := Aside0.mk (show (nxt r d).tk.f2.length ≤ i from hok.ats)
  have HX4 := Aside0.mk (show ∀ x ∈ (nxt r d).tk.f2, x.f1.size ≤ i from hok.val)
  have HX5 := Aside0.mk (show (nxt r d).out.length ≤ 2 * i from hok.out)
  have HFL := Aside0.mk hfl
  have HD := Aside0.mk hd
  have f0 : ((r.c.st : Int) == 0) = false := by rw [beq_eq_false_iff_ne]; omega
  have f1 : ((r.c.st : Int) == 1) = false := by rw [beq_eq_false_iff_ne]; omega
  have f2 : ((r.c.st : Int) == 2) = false := by rw [beq_eq_false_iff_ne]; omega
  have f17 : ((r.c.st : Int) == 17) = false := by rw [beq_eq_false_iff_ne]; omega
  have f18 : ((r.c.st : Int) == 18) = true := by rw [beq_iff_eq]; omega
  clear hblk hrows hin hlo hok hi hto hs hfl hd
  go_enter Tryd.func57, Tryd.ntmps57
  go_wp2_with (first | (go_at_call 76; (with_reducible refine (plain_at r.c d ?hv b ?hn HFL.out HD.out HI.out HLO.out HB8.out _ (glob_below HR.out.glob (below_alloc (Below.refl _ _) _))).mono ?_); (case hv => rfl); (case hn => rfl); rintro e w1 ⟨rfl, hbw⟩; have HOWN := Aside0.mk ((hbw.block W.heap.size (by rw [alloc_size]; omega)).trans (alloc_at rfl)); have HBLK1 := Aside0.mk ((hbw.block B (by rw [alloc_size]; omega)).trans ((alloc_old ylt).trans HBLK.out)); have HR1 := Aside0.mk (HR.out.below (below_step (below_alloc (Below.refl _ _) _) hbw)); obtain ⟨z0, z1, z2, z3, z4, z5, z6, z7, z8, z9, z10, z11, z12, z13, z14, z15, z16, z17, z18, zf, zlt⟩ := rcells HBLK1.out; obtain ⟨o0, o1, o2, o3, o4, o5, o6, o7, o8, o9, of⟩ := zero_of HOWN.out; have hBO : B ≠ W.heap.size := (by omega); have hOB : W.heap.size ≠ B := (by omega); have holt : W.heap.size < w1.heap.size := blk_lt HOWN.out; clear hbw; have HP := Aside0.mk (show RdAt B O w0 ((((((((((w1.setCell ⟨B, 0, none⟩ (.int .u8 (d.st : Int))).setCell ⟨B, 1, none⟩ (.int .u8 (d.el : Int))).setCell ⟨B, 2, none⟩ (.bool d.en)).setCell ⟨B, 3, none⟩ (.int .u8 (d.ak : Int))).setCell ⟨B, 4, none⟩ (.int .u8 (d.qu : Int))).setCell ⟨B, 5, none⟩ (.int .u8 (d.pa : Int))).setCell ⟨B, 6, none⟩ (.int .u8 (d.su : Int))).setCell ⟨B, 7, none⟩ (.bool d.es)).setCell ⟨B, 8, none⟩ (.int .u8 (d.da : Int))).setCell ⟨B, 9, none⟩ (.string (bs d.nm))) (nxt r d) from puts [(0, .int .u8 (d.st : Int)), (1, .int .u8 (d.el : Int)), (2, .bool d.en), (3, .int .u8 (d.ak : Int)), (4, .int .u8 (d.qu : Int)), (5, .int .u8 (d.pa : Int)), (6, .int .u8 (d.su : Int)), (7, .bool d.es), (8, .int .u8 (d.da : Int)), (9, .string (bs d.nm))] (r1 := nxt r d) HR1.out HBLK1.out (rcs_put10 r d tv pv av O)); simp only [cxs]) | (go_at_call 78; (with_reducible refine (rd_raw_at B O w0 _ (nxt r d) r.c b HB8.out HP.out i HII.out HX1.out HX2.out HX3.out HX4.out HX5.out ?hv' HTO.out).mono ?_); (case hv' => rfl); rintro e w2 ⟨⟨v, rfl⟩, h1⟩; have H1 := Aside0.mk h1; clear h1))

  go_end0
  exact ⟨⟨_, rfl⟩, H1.out⟩
set_option maxHeartbeats 4000000 in
set_option maxRecDepth 100000 in
theorem takeR19 (B O : Nat) (w0 W : World) (r : Rd) (b : Nat) (hb : b < 256) (h : RdAt B O w0 W r) (i : Nat) (hi : i ≤ 100000000000) (hok : Ok r i) (hin : Inv r.c) (hlo : Low r.c.nm) (hfl : flat r.c = r.c) (d : Cx) (hd : d = flat (Trail.step attrOf false r.c b)) (hs : r.c.st = 19) (hto : (nxt r d).c.st = 17 ∨ (nxt r d).c.st = 18 ∨ (nxt r d).c.st = 19 ∨ (nxt r d).c.st = 4 ∨ (nxt r d).c.st = 10 ∨ (nxt r d).c.st = 0) : Calls Tryd.prog 57 #[.pointer (some ⟨B, 0, none⟩), .int .u8 (b : Int)] W fun e W' => (∃ v, e = .returned v) ∧ RdAt B O w0 W' (rawM (nxt r d) r.c.nm b) := by
  have hu33 := Tryd.underlying33
  obtain ⟨tv, pv, av, ov, hblk, hrows⟩ := h
  obtain ⟨y0, y1, y2, y3, y4, y5, y6, y7, y8, y9, y10, y11, y12, y13, y14, y15, y16, y17, y18, yf, ylt⟩ := rcells hblk
  have HBLK := Aside0.mk hblk
  have HR := Aside0.mk hrows
  have HI := Aside0.mk hin
  have HLO := Aside0.mk hlo
  have HB8 := Aside0.mk hb
  have HOK := Aside0.mk hok
  have HII := Aside0.mk hi
  have HTO := Aside0.mk hto
  have HX1 := Aside0.mk (show (nxt r d).tx.length + (nxt r d).pe.length ≤ i from hok.tx)
  have HX2 := Aside0.mk (show (nxt r d).tk.f3.size ≤ i from hok.f3)
  have HX3 := Aside0.mk (show (nxt r d).tk.f2.length ≤ i from hok.ats)
  have HX4 := Aside0.mk (show ∀ x ∈ (nxt r d).tk.f2, x.f1.size ≤ i from hok.val)
  have HX5 := Aside0.mk (show (nxt r d).out.length ≤ 2 * i from hok.out)
  have HFL := Aside0.mk hfl
  have HD := Aside0.mk hd
  have f0 : ((r.c.st : Int) == 0) = false := by rw [beq_eq_false_iff_ne]; omega
  have f1 : ((r.c.st : Int) == 1) = false := by rw [beq_eq_false_iff_ne]; omega
  have f2 : ((r.c.st : Int) == 2) = false := by rw [beq_eq_false_iff_ne]; omega
  have f17 : ((r.c.st : Int) == 17) = false := by rw [beq_eq_false_iff_ne]; omega
  have f18 : ((r.c.st : Int) == 18) = false := by rw [beq_eq_false_iff_ne]; omega
  have f19 : ((r.c.st : Int) == 19) = true := by rw [beq_iff_eq]; omega
  clear hblk hrows hin hlo hok hi hto hs hfl hd
  go_enter Tryd.func57, Tryd.ntmps57
  go_wp2_with (first | (go_at_call 76; (with_reducible refine (plain_at r.c d ?hv b ?hn HFL.out HD.out HI.out HLO.out HB8.out _ (glob_below HR.out.glob (below_alloc (Below.refl _ _) _))).mono ?_); (case hv => rfl); (case hn => rfl); rintro e w1 ⟨rfl, hbw⟩; have HOWN := Aside0.mk ((hbw.block W.heap.size (by rw [alloc_size]; omega)).trans (alloc_at rfl)); have HBLK1 := Aside0.mk ((hbw.block B (by rw [alloc_size]; omega)).trans ((alloc_old ylt).trans HBLK.out)); have HR1 := Aside0.mk (HR.out.below (below_step (below_alloc (Below.refl _ _) _) hbw)); obtain ⟨z0, z1, z2, z3, z4, z5, z6, z7, z8, z9, z10, z11, z12, z13, z14, z15, z16, z17, z18, zf, zlt⟩ := rcells HBLK1.out; obtain ⟨o0, o1, o2, o3, o4, o5, o6, o7, o8, o9, of⟩ := zero_of HOWN.out; have hBO : B ≠ W.heap.size := (by omega); have hOB : W.heap.size ≠ B := (by omega); have holt : W.heap.size < w1.heap.size := blk_lt HOWN.out; clear hbw; have HP := Aside0.mk (show RdAt B O w0 ((((((((((w1.setCell ⟨B, 0, none⟩ (.int .u8 (d.st : Int))).setCell ⟨B, 1, none⟩ (.int .u8 (d.el : Int))).setCell ⟨B, 2, none⟩ (.bool d.en)).setCell ⟨B, 3, none⟩ (.int .u8 (d.ak : Int))).setCell ⟨B, 4, none⟩ (.int .u8 (d.qu : Int))).setCell ⟨B, 5, none⟩ (.int .u8 (d.pa : Int))).setCell ⟨B, 6, none⟩ (.int .u8 (d.su : Int))).setCell ⟨B, 7, none⟩ (.bool d.es)).setCell ⟨B, 8, none⟩ (.int .u8 (d.da : Int))).setCell ⟨B, 9, none⟩ (.string (bs d.nm))) (nxt r d) from puts [(0, .int .u8 (d.st : Int)), (1, .int .u8 (d.el : Int)), (2, .bool d.en), (3, .int .u8 (d.ak : Int)), (4, .int .u8 (d.qu : Int)), (5, .int .u8 (d.pa : Int)), (6, .int .u8 (d.su : Int)), (7, .bool d.es), (8, .int .u8 (d.da : Int)), (9, .string (bs d.nm))] (r1 := nxt r d) HR1.out HBLK1.out (rcs_put10 r d tv pv av O)); simp only [cxs]) | (go_at_call 78; (with_reducible refine (rd_raw_at B O w0 _ (nxt r d) r.c b HB8.out HP.out i HII.out HX1.out HX2.out HX3.out HX4.out HX5.out ?hv' HTO.out).mono ?_); (case hv' => rfl); rintro e w2 ⟨⟨v, rfl⟩, h1⟩; have H1 := Aside0.mk h1; clear h1))

  go_end0
  exact ⟨⟨_, rfl⟩, H1.out⟩
set_option maxHeartbeats 4000000 in
set_option maxRecDepth 100000 in
theorem takeN11 (B O : Nat) (w0 W : World) (r : Rd) (b : Nat) (hb : b < 256) (h : RdAt B O w0 W r) (i : Nat) (hi : i ≤ 100000000000) (hok : Ok r i) (hin : Inv r.c) (hlo : Low r.c.nm) (hfl : flat r.c = r.c) (d : Cx) (hd : d = flat (Trail.step attrOf false r.c b)) (hs : r.c.st = 11) (hto : (nxt r d).c.st = 0 → r.c.st = 15 → 2 ≤ (nxt r d).tk.f3.size) : Calls Tryd.prog 57 #[.pointer (some ⟨B, 0, none⟩), .int .u8 (b : Int)] W fun e W' => (∃ v, e = .returned v) ∧ RdAt B O w0 W' (noteM (nxt r d) r.c.st b) := by
  have hu33 := Tryd.underlying33
  obtain ⟨tv, pv, av, ov, hblk, hrows⟩ := h
  obtain ⟨y0, y1, y2, y3, y4, y5, y6, y7, y8, y9, y10, y11, y12, y13, y14, y15, y16, y17, y18, yf, ylt⟩ := rcells hblk
  have HBLK := Aside0.mk hblk
  have HR := Aside0.mk hrows
  have HI := Aside0.mk hin
  have HLO := Aside0.mk hlo
  have HB8 := Aside0.mk hb
  have HOK := Aside0.mk hok
  have HII := Aside0.mk hi
  have HTO := Aside0.mk hto
  have HX1 := Aside0.mk (show (nxt r d).tx.length + (nxt r d).pe.length ≤ i from hok.tx)
  have HX2 := Aside0.mk (show (nxt r d).tk.f3.size ≤ i from hok.f3)
  have HX3 := Aside0.mk (show (nxt r d).tk.f2.length ≤ i from hok.ats)
  have HX4 := Aside0.mk (show ∀ x ∈ (nxt r d).tk.f2, x.f1.size ≤ i from hok.val)
  have HX5 := Aside0.mk (show (nxt r d).out.length ≤ 2 * i from hok.out)
  have HFL := Aside0.mk hfl
  have HD := Aside0.mk hd
  have f0 : ((r.c.st : Int) == 0) = false := by rw [beq_eq_false_iff_ne]; omega
  have f1 : ((r.c.st : Int) == 1) = false := by rw [beq_eq_false_iff_ne]; omega
  have f2 : ((r.c.st : Int) == 2) = false := by rw [beq_eq_false_iff_ne]; omega
  have f17 : ((r.c.st : Int) == 17) = false := by rw [beq_eq_false_iff_ne]; omega
  have f18 : ((r.c.st : Int) == 18) = false := by rw [beq_eq_false_iff_ne]; omega
  have f19 : ((r.c.st : Int) == 19) = false := by rw [beq_eq_false_iff_ne]; omega
  have f11 : ((r.c.st : Int) == 11) = true := by rw [beq_iff_eq]; omega
  clear hblk hrows hin hlo hok hi hto hs hfl hd
  go_enter Tryd.func57, Tryd.ntmps57
  go_wp2_with (first | (go_at_call 76; (with_reducible refine (plain_at r.c d ?hv b ?hn HFL.out HD.out HI.out HLO.out HB8.out _ (glob_below HR.out.glob (below_alloc (Below.refl _ _) _))).mono ?_); (case hv => rfl); (case hn => rfl); rintro e w1 ⟨rfl, hbw⟩; have HOWN := Aside0.mk ((hbw.block W.heap.size (by rw [alloc_size]; omega)).trans (alloc_at rfl)); have HBLK1 := Aside0.mk ((hbw.block B (by rw [alloc_size]; omega)).trans ((alloc_old ylt).trans HBLK.out)); have HR1 := Aside0.mk (HR.out.below (below_step (below_alloc (Below.refl _ _) _) hbw)); obtain ⟨z0, z1, z2, z3, z4, z5, z6, z7, z8, z9, z10, z11, z12, z13, z14, z15, z16, z17, z18, zf, zlt⟩ := rcells HBLK1.out; obtain ⟨o0, o1, o2, o3, o4, o5, o6, o7, o8, o9, of⟩ := zero_of HOWN.out; have hBO : B ≠ W.heap.size := (by omega); have hOB : W.heap.size ≠ B := (by omega); have holt : W.heap.size < w1.heap.size := blk_lt HOWN.out; clear hbw; have HP := Aside0.mk (show RdAt B O w0 ((((((((((w1.setCell ⟨B, 0, none⟩ (.int .u8 (d.st : Int))).setCell ⟨B, 1, none⟩ (.int .u8 (d.el : Int))).setCell ⟨B, 2, none⟩ (.bool d.en)).setCell ⟨B, 3, none⟩ (.int .u8 (d.ak : Int))).setCell ⟨B, 4, none⟩ (.int .u8 (d.qu : Int))).setCell ⟨B, 5, none⟩ (.int .u8 (d.pa : Int))).setCell ⟨B, 6, none⟩ (.int .u8 (d.su : Int))).setCell ⟨B, 7, none⟩ (.bool d.es)).setCell ⟨B, 8, none⟩ (.int .u8 (d.da : Int))).setCell ⟨B, 9, none⟩ (.string (bs d.nm))) (nxt r d) from puts [(0, .int .u8 (d.st : Int)), (1, .int .u8 (d.el : Int)), (2, .bool d.en), (3, .int .u8 (d.ak : Int)), (4, .int .u8 (d.qu : Int)), (5, .int .u8 (d.pa : Int)), (6, .int .u8 (d.su : Int)), (7, .bool d.es), (8, .int .u8 (d.da : Int)), (9, .string (bs d.nm))] (r1 := nxt r d) HR1.out HBLK1.out (rcs_put10 r d tv pv av O)); simp only [cxs]) | (go_at_call 79; (with_reducible refine (rd_note_at B O w0 _ (nxt r d) r.c b HB8.out HP.out i HII.out HX1.out HX2.out HX3.out HX4.out HX5.out ?hv' HTO.out).mono ?_); (case hv' => rfl); rintro e w2 ⟨⟨v, rfl⟩, h1⟩; have H1 := Aside0.mk h1; clear h1))

  go_end0
  exact ⟨⟨_, rfl⟩, H1.out⟩
set_option maxHeartbeats 4000000 in
set_option maxRecDepth 100000 in
theorem takeN12 (B O : Nat) (w0 W : World) (r : Rd) (b : Nat) (hb : b < 256) (h : RdAt B O w0 W r) (i : Nat) (hi : i ≤ 100000000000) (hok : Ok r i) (hin : Inv r.c) (hlo : Low r.c.nm) (hfl : flat r.c = r.c) (d : Cx) (hd : d = flat (Trail.step attrOf false r.c b)) (hs : r.c.st = 12) (hto : (nxt r d).c.st = 0 → r.c.st = 15 → 2 ≤ (nxt r d).tk.f3.size) : Calls Tryd.prog 57 #[.pointer (some ⟨B, 0, none⟩), .int .u8 (b : Int)] W fun e W' => (∃ v, e = .returned v) ∧ RdAt B O w0 W' (noteM (nxt r d) r.c.st b) := by
  have hu33 := Tryd.underlying33
  obtain ⟨tv, pv, av, ov, hblk, hrows⟩ := h
  obtain ⟨y0, y1, y2, y3, y4, y5, y6, y7, y8, y9, y10, y11, y12, y13, y14, y15, y16, y17, y18, yf, ylt⟩ := rcells hblk
  have HBLK := Aside0.mk hblk
  have HR := Aside0.mk hrows
  have HI := Aside0.mk hin
  have HLO := Aside0.mk hlo
  have HB8 := Aside0.mk hb
  have HOK := Aside0.mk hok
  have HII := Aside0.mk hi
  have HTO := Aside0.mk hto
  have HX1 := Aside0.mk (show (nxt r d).tx.length + (nxt r d).pe.length ≤ i from hok.tx)
  have HX2 := Aside0.mk (show (nxt r d).tk.f3.size ≤ i from hok.f3)
  have HX3 := Aside0.mk (show (nxt r d).tk.f2.length ≤ i from hok.ats)
  have HX4 := Aside0.mk (show ∀ x ∈ (nxt r d).tk.f2, x.f1.size ≤ i from hok.val)
  have HX5 := Aside0.mk (show (nxt r d).out.length ≤ 2 * i from hok.out)
  have HFL := Aside0.mk hfl
  have HD := Aside0.mk hd
  have f0 : ((r.c.st : Int) == 0) = false := by rw [beq_eq_false_iff_ne]; omega
  have f1 : ((r.c.st : Int) == 1) = false := by rw [beq_eq_false_iff_ne]; omega
  have f2 : ((r.c.st : Int) == 2) = false := by rw [beq_eq_false_iff_ne]; omega
  have f17 : ((r.c.st : Int) == 17) = false := by rw [beq_eq_false_iff_ne]; omega
  have f18 : ((r.c.st : Int) == 18) = false := by rw [beq_eq_false_iff_ne]; omega
  have f19 : ((r.c.st : Int) == 19) = false := by rw [beq_eq_false_iff_ne]; omega
  have f11 : ((r.c.st : Int) == 11) = false := by rw [beq_eq_false_iff_ne]; omega
  have f12 : ((r.c.st : Int) == 12) = true := by rw [beq_iff_eq]; omega
  clear hblk hrows hin hlo hok hi hto hs hfl hd
  go_enter Tryd.func57, Tryd.ntmps57
  go_wp2_with (first | (go_at_call 76; (with_reducible refine (plain_at r.c d ?hv b ?hn HFL.out HD.out HI.out HLO.out HB8.out _ (glob_below HR.out.glob (below_alloc (Below.refl _ _) _))).mono ?_); (case hv => rfl); (case hn => rfl); rintro e w1 ⟨rfl, hbw⟩; have HOWN := Aside0.mk ((hbw.block W.heap.size (by rw [alloc_size]; omega)).trans (alloc_at rfl)); have HBLK1 := Aside0.mk ((hbw.block B (by rw [alloc_size]; omega)).trans ((alloc_old ylt).trans HBLK.out)); have HR1 := Aside0.mk (HR.out.below (below_step (below_alloc (Below.refl _ _) _) hbw)); obtain ⟨z0, z1, z2, z3, z4, z5, z6, z7, z8, z9, z10, z11, z12, z13, z14, z15, z16, z17, z18, zf, zlt⟩ := rcells HBLK1.out; obtain ⟨o0, o1, o2, o3, o4, o5, o6, o7, o8, o9, of⟩ := zero_of HOWN.out; have hBO : B ≠ W.heap.size := (by omega); have hOB : W.heap.size ≠ B := (by omega); have holt : W.heap.size < w1.heap.size := blk_lt HOWN.out; clear hbw; have HP := Aside0.mk (show RdAt B O w0 ((((((((((w1.setCell ⟨B, 0, none⟩ (.int .u8 (d.st : Int))).setCell ⟨B, 1, none⟩ (.int .u8 (d.el : Int))).setCell ⟨B, 2, none⟩ (.bool d.en)).setCell ⟨B, 3, none⟩ (.int .u8 (d.ak : Int))).setCell ⟨B, 4, none⟩ (.int .u8 (d.qu : Int))).setCell ⟨B, 5, none⟩ (.int .u8 (d.pa : Int))).setCell ⟨B, 6, none⟩ (.int .u8 (d.su : Int))).setCell ⟨B, 7, none⟩ (.bool d.es)).setCell ⟨B, 8, none⟩ (.int .u8 (d.da : Int))).setCell ⟨B, 9, none⟩ (.string (bs d.nm))) (nxt r d) from puts [(0, .int .u8 (d.st : Int)), (1, .int .u8 (d.el : Int)), (2, .bool d.en), (3, .int .u8 (d.ak : Int)), (4, .int .u8 (d.qu : Int)), (5, .int .u8 (d.pa : Int)), (6, .int .u8 (d.su : Int)), (7, .bool d.es), (8, .int .u8 (d.da : Int)), (9, .string (bs d.nm))] (r1 := nxt r d) HR1.out HBLK1.out (rcs_put10 r d tv pv av O)); simp only [cxs]) | (go_at_call 79; (with_reducible refine (rd_note_at B O w0 _ (nxt r d) r.c b HB8.out HP.out i HII.out HX1.out HX2.out HX3.out HX4.out HX5.out ?hv' HTO.out).mono ?_); (case hv' => rfl); rintro e w2 ⟨⟨v, rfl⟩, h1⟩; have H1 := Aside0.mk h1; clear h1))

  go_end0
  exact ⟨⟨_, rfl⟩, H1.out⟩
set_option maxHeartbeats 4000000 in
set_option maxRecDepth 100000 in
theorem takeN13 (B O : Nat) (w0 W : World) (r : Rd) (b : Nat) (hb : b < 256) (h : RdAt B O w0 W r) (i : Nat) (hi : i ≤ 100000000000) (hok : Ok r i) (hin : Inv r.c) (hlo : Low r.c.nm) (hfl : flat r.c = r.c) (d : Cx) (hd : d = flat (Trail.step attrOf false r.c b)) (hs : r.c.st = 13) (hto : (nxt r d).c.st = 0 → r.c.st = 15 → 2 ≤ (nxt r d).tk.f3.size) : Calls Tryd.prog 57 #[.pointer (some ⟨B, 0, none⟩), .int .u8 (b : Int)] W fun e W' => (∃ v, e = .returned v) ∧ RdAt B O w0 W' (noteM (nxt r d) r.c.st b) := by
  have hu33 := Tryd.underlying33
  obtain ⟨tv, pv, av, ov, hblk, hrows⟩ := h
  obtain ⟨y0, y1, y2, y3, y4, y5, y6, y7, y8, y9, y10, y11, y12, y13, y14, y15, y16, y17, y18, yf, ylt⟩ := rcells hblk
  have HBLK := Aside0.mk hblk
  have HR := Aside0.mk hrows
  have HI := Aside0.mk hin
  have HLO := Aside0.mk hlo
  have HB8 := Aside0.mk hb
  have HOK := Aside0.mk hok
  have HII := Aside0.mk hi
  have HTO := Aside0.mk hto
  have HX1 := Aside0.mk (show (nxt r d).tx.length + (nxt r d).pe.length ≤ i from hok.tx)
  have HX2 := Aside0.mk (show (nxt r d).tk.f3.size ≤ i from hok.f3)
  have HX3 := Aside0.mk (show (nxt r d).tk.f2.length ≤ i from hok.ats)
  have HX4 := Aside0.mk (show ∀ x ∈ (nxt r d).tk.f2, x.f1.size ≤ i from hok.val)
  have HX5 := Aside0.mk (show (nxt r d).out.length ≤ 2 * i from hok.out)
  have HFL := Aside0.mk hfl
  have HD := Aside0.mk hd
  have f0 : ((r.c.st : Int) == 0) = false := by rw [beq_eq_false_iff_ne]; omega
  have f1 : ((r.c.st : Int) == 1) = false := by rw [beq_eq_false_iff_ne]; omega
  have f2 : ((r.c.st : Int) == 2) = false := by rw [beq_eq_false_iff_ne]; omega
  have f17 : ((r.c.st : Int) == 17) = false := by rw [beq_eq_false_iff_ne]; omega
  have f18 : ((r.c.st : Int) == 18) = false := by rw [beq_eq_false_iff_ne]; omega
  have f19 : ((r.c.st : Int) == 19) = false := by rw [beq_eq_false_iff_ne]; omega
  have f11 : ((r.c.st : Int) == 11) = false := by rw [beq_eq_false_iff_ne]; omega
  have f12 : ((r.c.st : Int) == 12) = false := by rw [beq_eq_false_iff_ne]; omega
  have f13 : ((r.c.st : Int) == 13) = true := by rw [beq_iff_eq]; omega
  clear hblk hrows hin hlo hok hi hto hs hfl hd
  go_enter Tryd.func57, Tryd.ntmps57
  go_wp2_with (first | (go_at_call 76; (with_reducible refine (plain_at r.c d ?hv b ?hn HFL.out HD.out HI.out HLO.out HB8.out _ (glob_below HR.out.glob (below_alloc (Below.refl _ _) _))).mono ?_); (case hv => rfl); (case hn => rfl); rintro e w1 ⟨rfl, hbw⟩; have HOWN := Aside0.mk ((hbw.block W.heap.size (by rw [alloc_size]; omega)).trans (alloc_at rfl)); have HBLK1 := Aside0.mk ((hbw.block B (by rw [alloc_size]; omega)).trans ((alloc_old ylt).trans HBLK.out)); have HR1 := Aside0.mk (HR.out.below (below_step (below_alloc (Below.refl _ _) _) hbw)); obtain ⟨z0, z1, z2, z3, z4, z5, z6, z7, z8, z9, z10, z11, z12, z13, z14, z15, z16, z17, z18, zf, zlt⟩ := rcells HBLK1.out; obtain ⟨o0, o1, o2, o3, o4, o5, o6, o7, o8, o9, of⟩ := zero_of HOWN.out; have hBO : B ≠ W.heap.size := (by omega); have hOB : W.heap.size ≠ B := (by omega); have holt : W.heap.size < w1.heap.size := blk_lt HOWN.out; clear hbw; have HP := Aside0.mk (show RdAt B O w0 ((((((((((w1.setCell ⟨B, 0, none⟩ (.int .u8 (d.st : Int))).setCell ⟨B, 1, none⟩ (.int .u8 (d.el : Int))).setCell ⟨B, 2, none⟩ (.bool d.en)).setCell ⟨B, 3, none⟩ (.int .u8 (d.ak : Int))).setCell ⟨B, 4, none⟩ (.int .u8 (d.qu : Int))).setCell ⟨B, 5, none⟩ (.int .u8 (d.pa : Int))).setCell ⟨B, 6, none⟩ (.int .u8 (d.su : Int))).setCell ⟨B, 7, none⟩ (.bool d.es)).setCell ⟨B, 8, none⟩ (.int .u8 (d.da : Int))).setCell ⟨B, 9, none⟩ (.string (bs d.nm))) (nxt r d) from puts [(0, .int .u8 (d.st : Int)), (1, .int .u8 (d.el : Int)), (2, .bool d.en), (3, .int .u8 (d.ak : Int)), (4, .int .u8 (d.qu : Int)), (5, .int .u8 (d.pa : Int)), (6, .int .u8 (d.su : Int)), (7, .bool d.es), (8, .int .u8 (d.da : Int)), (9, .string (bs d.nm))] (r1 := nxt r d) HR1.out HBLK1.out (rcs_put10 r d tv pv av O)); simp only [cxs]) | (go_at_call 79; (with_reducible refine (rd_note_at B O w0 _ (nxt r d) r.c b HB8.out HP.out i HII.out HX1.out HX2.out HX3.out HX4.out HX5.out ?hv' HTO.out).mono ?_); (case hv' => rfl); rintro e w2 ⟨⟨v, rfl⟩, h1⟩; have H1 := Aside0.mk h1; clear h1))

  go_end0
  exact ⟨⟨_, rfl⟩, H1.out⟩
set_option maxHeartbeats 4000000 in
set_option maxRecDepth 100000 in
theorem takeN14 (B O : Nat) (w0 W : World) (r : Rd) (b : Nat) (hb : b < 256) (h : RdAt B O w0 W r) (i : Nat) (hi : i ≤ 100000000000) (hok : Ok r i) (hin : Inv r.c) (hlo : Low r.c.nm) (hfl : flat r.c = r.c) (d : Cx) (hd : d = flat (Trail.step attrOf false r.c b)) (hs : r.c.st = 14) (hto : (nxt r d).c.st = 0 → r.c.st = 15 → 2 ≤ (nxt r d).tk.f3.size) : Calls Tryd.prog 57 #[.pointer (some ⟨B, 0, none⟩), .int .u8 (b : Int)] W fun e W' => (∃ v, e = .returned v) ∧ RdAt B O w0 W' (noteM (nxt r d) r.c.st b) := by
  have hu33 := Tryd.underlying33
  obtain ⟨tv, pv, av, ov, hblk, hrows⟩ := h
  obtain ⟨y0, y1, y2, y3, y4, y5, y6, y7, y8, y9, y10, y11, y12, y13, y14, y15, y16, y17, y18, yf, ylt⟩ := rcells hblk
  have HBLK := Aside0.mk hblk
  have HR := Aside0.mk hrows
  have HI := Aside0.mk hin
  have HLO := Aside0.mk hlo
  have HB8 := Aside0.mk hb
  have HOK := Aside0.mk hok
  have HII := Aside0.mk hi
  have HTO := Aside0.mk hto
  have HX1 := Aside0.mk (show (nxt r d).tx.length + (nxt r d).pe.length ≤ i from hok.tx)
  have HX2 := Aside0.mk (show (nxt r d).tk.f3.size ≤ i from hok.f3)
  have HX3 := Aside0.mk (show (nxt r d).tk.f2.length ≤ i from hok.ats)
  have HX4 := Aside0.mk (show ∀ x ∈ (nxt r d).tk.f2, x.f1.size ≤ i from hok.val)
  have HX5 := Aside0.mk (show (nxt r d).out.length ≤ 2 * i from hok.out)
  have HFL := Aside0.mk hfl
  have HD := Aside0.mk hd
  have f0 : ((r.c.st : Int) == 0) = false := by rw [beq_eq_false_iff_ne]; omega
  have f1 : ((r.c.st : Int) == 1) = false := by rw [beq_eq_false_iff_ne]; omega
  have f2 : ((r.c.st : Int) == 2) = false := by rw [beq_eq_false_iff_ne]; omega
  have f17 : ((r.c.st : Int) == 17) = false := by rw [beq_eq_false_iff_ne]; omega
  have f18 : ((r.c.st : Int) == 18) = false := by rw [beq_eq_false_iff_ne]; omega
  have f19 : ((r.c.st : Int) == 19) = false := by rw [beq_eq_false_iff_ne]; omega
  have f11 : ((r.c.st : Int) == 11) = false := by rw [beq_eq_false_iff_ne]; omega
  have f12 : ((r.c.st : Int) == 12) = false := by rw [beq_eq_false_iff_ne]; omega
  have f13 : ((r.c.st : Int) == 13) = false := by rw [beq_eq_false_iff_ne]; omega
  have f14 : ((r.c.st : Int) == 14) = true := by rw [beq_iff_eq]; omega
  clear hblk hrows hin hlo hok hi hto hs hfl hd
  go_enter Tryd.func57, Tryd.ntmps57
  go_wp2_with (first | (go_at_call 76; (with_reducible refine (plain_at r.c d ?hv b ?hn HFL.out HD.out HI.out HLO.out HB8.out _ (glob_below HR.out.glob (below_alloc (Below.refl _ _) _))).mono ?_); (case hv => rfl); (case hn => rfl); rintro e w1 ⟨rfl, hbw⟩; have HOWN := Aside0.mk ((hbw.block W.heap.size (by rw [alloc_size]; omega)).trans (alloc_at rfl)); have HBLK1 := Aside0.mk ((hbw.block B (by rw [alloc_size]; omega)).trans ((alloc_old ylt).trans HBLK.out)); have HR1 := Aside0.mk (HR.out.below (below_step (below_alloc (Below.refl _ _) _) hbw)); obtain ⟨z0, z1, z2, z3, z4, z5, z6, z7, z8, z9, z10, z11, z12, z13, z14, z15, z16, z17, z18, zf, zlt⟩ := rcells HBLK1.out; obtain ⟨o0, o1, o2, o3, o4, o5, o6, o7, o8, o9, of⟩ := zero_of HOWN.out; have hBO : B ≠ W.heap.size := (by omega); have hOB : W.heap.size ≠ B := (by omega); have holt : W.heap.size < w1.heap.size := blk_lt HOWN.out; clear hbw; have HP := Aside0.mk (show RdAt B O w0 ((((((((((w1.setCell ⟨B, 0, none⟩ (.int .u8 (d.st : Int))).setCell ⟨B, 1, none⟩ (.int .u8 (d.el : Int))).setCell ⟨B, 2, none⟩ (.bool d.en)).setCell ⟨B, 3, none⟩ (.int .u8 (d.ak : Int))).setCell ⟨B, 4, none⟩ (.int .u8 (d.qu : Int))).setCell ⟨B, 5, none⟩ (.int .u8 (d.pa : Int))).setCell ⟨B, 6, none⟩ (.int .u8 (d.su : Int))).setCell ⟨B, 7, none⟩ (.bool d.es)).setCell ⟨B, 8, none⟩ (.int .u8 (d.da : Int))).setCell ⟨B, 9, none⟩ (.string (bs d.nm))) (nxt r d) from puts [(0, .int .u8 (d.st : Int)), (1, .int .u8 (d.el : Int)), (2, .bool d.en), (3, .int .u8 (d.ak : Int)), (4, .int .u8 (d.qu : Int)), (5, .int .u8 (d.pa : Int)), (6, .int .u8 (d.su : Int)), (7, .bool d.es), (8, .int .u8 (d.da : Int)), (9, .string (bs d.nm))] (r1 := nxt r d) HR1.out HBLK1.out (rcs_put10 r d tv pv av O)); simp only [cxs]) | (go_at_call 79; (with_reducible refine (rd_note_at B O w0 _ (nxt r d) r.c b HB8.out HP.out i HII.out HX1.out HX2.out HX3.out HX4.out HX5.out ?hv' HTO.out).mono ?_); (case hv' => rfl); rintro e w2 ⟨⟨v, rfl⟩, h1⟩; have H1 := Aside0.mk h1; clear h1))

  go_end0
  exact ⟨⟨_, rfl⟩, H1.out⟩
set_option maxHeartbeats 4000000 in
set_option maxRecDepth 100000 in
theorem takeN15 (B O : Nat) (w0 W : World) (r : Rd) (b : Nat) (hb : b < 256) (h : RdAt B O w0 W r) (i : Nat) (hi : i ≤ 100000000000) (hok : Ok r i) (hin : Inv r.c) (hlo : Low r.c.nm) (hfl : flat r.c = r.c) (d : Cx) (hd : d = flat (Trail.step attrOf false r.c b)) (hs : r.c.st = 15) (hto : (nxt r d).c.st = 0 → r.c.st = 15 → 2 ≤ (nxt r d).tk.f3.size) : Calls Tryd.prog 57 #[.pointer (some ⟨B, 0, none⟩), .int .u8 (b : Int)] W fun e W' => (∃ v, e = .returned v) ∧ RdAt B O w0 W' (noteM (nxt r d) r.c.st b) := by
  have hu33 := Tryd.underlying33
  obtain ⟨tv, pv, av, ov, hblk, hrows⟩ := h
  obtain ⟨y0, y1, y2, y3, y4, y5, y6, y7, y8, y9, y10, y11, y12, y13, y14, y15, y16, y17, y18, yf, ylt⟩ := rcells hblk
  have HBLK := Aside0.mk hblk
  have HR := Aside0.mk hrows
  have HI := Aside0.mk hin
  have HLO := Aside0.mk hlo
  have HB8 := Aside0.mk hb
  have HOK := Aside0.mk hok
  have HII := Aside0.mk hi
  have HTO := Aside0.mk hto
  have HX1 := Aside0.mk (show (nxt r d).tx.length + (nxt r d).pe.length ≤ i from hok.tx)
  have HX2 := Aside0.mk (show (nxt r d).tk.f3.size ≤ i from hok.f3)
  have HX3 := Aside0.mk (show (nxt r d).tk.f2.length ≤ i from hok.ats)
  have HX4 := Aside0.mk (show ∀ x ∈ (nxt r d).tk.f2, x.f1.size ≤ i from hok.val)
  have HX5 := Aside0.mk (show (nxt r d).out.length ≤ 2 * i from hok.out)
  have HFL := Aside0.mk hfl
  have HD := Aside0.mk hd
  have f0 : ((r.c.st : Int) == 0) = false := by rw [beq_eq_false_iff_ne]; omega
  have f1 : ((r.c.st : Int) == 1) = false := by rw [beq_eq_false_iff_ne]; omega
  have f2 : ((r.c.st : Int) == 2) = false := by rw [beq_eq_false_iff_ne]; omega
  have f17 : ((r.c.st : Int) == 17) = false := by rw [beq_eq_false_iff_ne]; omega
  have f18 : ((r.c.st : Int) == 18) = false := by rw [beq_eq_false_iff_ne]; omega
  have f19 : ((r.c.st : Int) == 19) = false := by rw [beq_eq_false_iff_ne]; omega
  have f11 : ((r.c.st : Int) == 11) = false := by rw [beq_eq_false_iff_ne]; omega
  have f12 : ((r.c.st : Int) == 12) = false := by rw [beq_eq_false_iff_ne]; omega
  have f13 : ((r.c.st : Int) == 13) = false := by rw [beq_eq_false_iff_ne]; omega
  have f14 : ((r.c.st : Int) == 14) = false := by rw [beq_eq_false_iff_ne]; omega
  have f15 : ((r.c.st : Int) == 15) = true := by rw [beq_iff_eq]; omega
  clear hblk hrows hin hlo hok hi hto hs hfl hd
  go_enter Tryd.func57, Tryd.ntmps57
  go_wp2_with (first | (go_at_call 76; (with_reducible refine (plain_at r.c d ?hv b ?hn HFL.out HD.out HI.out HLO.out HB8.out _ (glob_below HR.out.glob (below_alloc (Below.refl _ _) _))).mono ?_); (case hv => rfl); (case hn => rfl); rintro e w1 ⟨rfl, hbw⟩; have HOWN := Aside0.mk ((hbw.block W.heap.size (by rw [alloc_size]; omega)).trans (alloc_at rfl)); have HBLK1 := Aside0.mk ((hbw.block B (by rw [alloc_size]; omega)).trans ((alloc_old ylt).trans HBLK.out)); have HR1 := Aside0.mk (HR.out.below (below_step (below_alloc (Below.refl _ _) _) hbw)); obtain ⟨z0, z1, z2, z3, z4, z5, z6, z7, z8, z9, z10, z11, z12, z13, z14, z15, z16, z17, z18, zf, zlt⟩ := rcells HBLK1.out; obtain ⟨o0, o1, o2, o3, o4, o5, o6, o7, o8, o9, of⟩ := zero_of HOWN.out; have hBO : B ≠ W.heap.size := (by omega); have hOB : W.heap.size ≠ B := (by omega); have holt : W.heap.size < w1.heap.size := blk_lt HOWN.out; clear hbw; have HP := Aside0.mk (show RdAt B O w0 ((((((((((w1.setCell ⟨B, 0, none⟩ (.int .u8 (d.st : Int))).setCell ⟨B, 1, none⟩ (.int .u8 (d.el : Int))).setCell ⟨B, 2, none⟩ (.bool d.en)).setCell ⟨B, 3, none⟩ (.int .u8 (d.ak : Int))).setCell ⟨B, 4, none⟩ (.int .u8 (d.qu : Int))).setCell ⟨B, 5, none⟩ (.int .u8 (d.pa : Int))).setCell ⟨B, 6, none⟩ (.int .u8 (d.su : Int))).setCell ⟨B, 7, none⟩ (.bool d.es)).setCell ⟨B, 8, none⟩ (.int .u8 (d.da : Int))).setCell ⟨B, 9, none⟩ (.string (bs d.nm))) (nxt r d) from puts [(0, .int .u8 (d.st : Int)), (1, .int .u8 (d.el : Int)), (2, .bool d.en), (3, .int .u8 (d.ak : Int)), (4, .int .u8 (d.qu : Int)), (5, .int .u8 (d.pa : Int)), (6, .int .u8 (d.su : Int)), (7, .bool d.es), (8, .int .u8 (d.da : Int)), (9, .string (bs d.nm))] (r1 := nxt r d) HR1.out HBLK1.out (rcs_put10 r d tv pv av O)); simp only [cxs]) | (go_at_call 79; (with_reducible refine (rd_note_at B O w0 _ (nxt r d) r.c b HB8.out HP.out i HII.out HX1.out HX2.out HX3.out HX4.out HX5.out ?hv' HTO.out).mono ?_); (case hv' => rfl); rintro e w2 ⟨⟨v, rfl⟩, h1⟩; have H1 := Aside0.mk h1; clear h1))

  go_end0
  exact ⟨⟨_, rfl⟩, H1.out⟩
set_option maxHeartbeats 4000000 in
set_option maxRecDepth 100000 in
theorem takeN16 (B O : Nat) (w0 W : World) (r : Rd) (b : Nat) (hb : b < 256) (h : RdAt B O w0 W r) (i : Nat) (hi : i ≤ 100000000000) (hok : Ok r i) (hin : Inv r.c) (hlo : Low r.c.nm) (hfl : flat r.c = r.c) (d : Cx) (hd : d = flat (Trail.step attrOf false r.c b)) (hs : r.c.st = 16) (hto : (nxt r d).c.st = 0 → r.c.st = 15 → 2 ≤ (nxt r d).tk.f3.size) : Calls Tryd.prog 57 #[.pointer (some ⟨B, 0, none⟩), .int .u8 (b : Int)] W fun e W' => (∃ v, e = .returned v) ∧ RdAt B O w0 W' (noteM (nxt r d) r.c.st b) := by
  have hu33 := Tryd.underlying33
  obtain ⟨tv, pv, av, ov, hblk, hrows⟩ := h
  obtain ⟨y0, y1, y2, y3, y4, y5, y6, y7, y8, y9, y10, y11, y12, y13, y14, y15, y16, y17, y18, yf, ylt⟩ := rcells hblk
  have HBLK := Aside0.mk hblk
  have HR := Aside0.mk hrows
  have HI := Aside0.mk hin
  have HLO := Aside0.mk hlo
  have HB8 := Aside0.mk hb
  have HOK := Aside0.mk hok
  have HII := Aside0.mk hi
  have HTO := Aside0.mk hto
  have HX1 := Aside0.mk (show (nxt r d).tx.length + (nxt r d).pe.length ≤ i from hok.tx)
  have HX2 := Aside0.mk (show (nxt r d).tk.f3.size ≤ i from hok.f3)
  have HX3 := Aside0.mk (show (nxt r d).tk.f2.length ≤ i from hok.ats)
  have HX4 := Aside0.mk (show ∀ x ∈ (nxt r d).tk.f2, x.f1.size ≤ i from hok.val)
  have HX5 := Aside0.mk (show (nxt r d).out.length ≤ 2 * i from hok.out)
  have HFL := Aside0.mk hfl
  have HD := Aside0.mk hd
  have f0 : ((r.c.st : Int) == 0) = false := by rw [beq_eq_false_iff_ne]; omega
  have f1 : ((r.c.st : Int) == 1) = false := by rw [beq_eq_false_iff_ne]; omega
  have f2 : ((r.c.st : Int) == 2) = false := by rw [beq_eq_false_iff_ne]; omega
  have f17 : ((r.c.st : Int) == 17) = false := by rw [beq_eq_false_iff_ne]; omega
  have f18 : ((r.c.st : Int) == 18) = false := by rw [beq_eq_false_iff_ne]; omega
  have f19 : ((r.c.st : Int) == 19) = false := by rw [beq_eq_false_iff_ne]; omega
  have f11 : ((r.c.st : Int) == 11) = false := by rw [beq_eq_false_iff_ne]; omega
  have f12 : ((r.c.st : Int) == 12) = false := by rw [beq_eq_false_iff_ne]; omega
  have f13 : ((r.c.st : Int) == 13) = false := by rw [beq_eq_false_iff_ne]; omega
  have f14 : ((r.c.st : Int) == 14) = false := by rw [beq_eq_false_iff_ne]; omega
  have f15 : ((r.c.st : Int) == 15) = false := by rw [beq_eq_false_iff_ne]; omega
  have f16 : ((r.c.st : Int) == 16) = true := by rw [beq_iff_eq]; omega
  clear hblk hrows hin hlo hok hi hto hs hfl hd
  go_enter Tryd.func57, Tryd.ntmps57
  go_wp2_with (first | (go_at_call 76; (with_reducible refine (plain_at r.c d ?hv b ?hn HFL.out HD.out HI.out HLO.out HB8.out _ (glob_below HR.out.glob (below_alloc (Below.refl _ _) _))).mono ?_); (case hv => rfl); (case hn => rfl); rintro e w1 ⟨rfl, hbw⟩; have HOWN := Aside0.mk ((hbw.block W.heap.size (by rw [alloc_size]; omega)).trans (alloc_at rfl)); have HBLK1 := Aside0.mk ((hbw.block B (by rw [alloc_size]; omega)).trans ((alloc_old ylt).trans HBLK.out)); have HR1 := Aside0.mk (HR.out.below (below_step (below_alloc (Below.refl _ _) _) hbw)); obtain ⟨z0, z1, z2, z3, z4, z5, z6, z7, z8, z9, z10, z11, z12, z13, z14, z15, z16, z17, z18, zf, zlt⟩ := rcells HBLK1.out; obtain ⟨o0, o1, o2, o3, o4, o5, o6, o7, o8, o9, of⟩ := zero_of HOWN.out; have hBO : B ≠ W.heap.size := (by omega); have hOB : W.heap.size ≠ B := (by omega); have holt : W.heap.size < w1.heap.size := blk_lt HOWN.out; clear hbw; have HP := Aside0.mk (show RdAt B O w0 ((((((((((w1.setCell ⟨B, 0, none⟩ (.int .u8 (d.st : Int))).setCell ⟨B, 1, none⟩ (.int .u8 (d.el : Int))).setCell ⟨B, 2, none⟩ (.bool d.en)).setCell ⟨B, 3, none⟩ (.int .u8 (d.ak : Int))).setCell ⟨B, 4, none⟩ (.int .u8 (d.qu : Int))).setCell ⟨B, 5, none⟩ (.int .u8 (d.pa : Int))).setCell ⟨B, 6, none⟩ (.int .u8 (d.su : Int))).setCell ⟨B, 7, none⟩ (.bool d.es)).setCell ⟨B, 8, none⟩ (.int .u8 (d.da : Int))).setCell ⟨B, 9, none⟩ (.string (bs d.nm))) (nxt r d) from puts [(0, .int .u8 (d.st : Int)), (1, .int .u8 (d.el : Int)), (2, .bool d.en), (3, .int .u8 (d.ak : Int)), (4, .int .u8 (d.qu : Int)), (5, .int .u8 (d.pa : Int)), (6, .int .u8 (d.su : Int)), (7, .bool d.es), (8, .int .u8 (d.da : Int)), (9, .string (bs d.nm))] (r1 := nxt r d) HR1.out HBLK1.out (rcs_put10 r d tv pv av O)); simp only [cxs]) | (go_at_call 79; (with_reducible refine (rd_note_at B O w0 _ (nxt r d) r.c b HB8.out HP.out i HII.out HX1.out HX2.out HX3.out HX4.out HX5.out ?hv' HTO.out).mono ?_); (case hv' => rfl); rintro e w2 ⟨⟨v, rfl⟩, h1⟩; have H1 := Aside0.mk h1; clear h1))

  go_end0
  exact ⟨⟨_, rfl⟩, H1.out⟩
set_option maxHeartbeats 4000000 in
set_option maxRecDepth 100000 in
theorem takeT (B O : Nat) (w0 W : World) (r : Rd) (b : Nat) (hb : b < 256) (h : RdAt B O w0 W r) (i : Nat) (hi : i ≤ 100000000000) (hok : Ok r i) (hin : Inv r.c) (hlo : Low r.c.nm) (hfl : flat r.c = r.c) (d : Cx) (hd : d = flat (Trail.step attrOf false r.c b)) (hs : 3 ≤ r.c.st ∧ r.c.st ≤ 10) (hto : (nxt r d).c.st = 5 ∧ r.c.st = 5 ∨ (nxt r d).c.st = 8 → (nxt r d).tk.f2 ≠ []) : Calls Tryd.prog 57 #[.pointer (some ⟨B, 0, none⟩), .int .u8 (b : Int)] W fun e W' => (∃ v, e = .returned v) ∧ RdAt B O w0 W' (tagM (nxt r d) r.c.st b) := by
  have hu33 := Tryd.underlying33
  obtain ⟨tv, pv, av, ov, hblk, hrows⟩ := h
  obtain ⟨y0, y1, y2, y3, y4, y5, y6, y7, y8, y9, y10, y11, y12, y13, y14, y15, y16, y17, y18, yf, ylt⟩ := rcells hblk
  have HBLK := Aside0.mk hblk
  have HR := Aside0.mk hrows
  have HI := Aside0.mk hin
  have HLO := Aside0.mk hlo
  have HB8 := Aside0.mk hb
  have HOK := Aside0.mk hok
  have HII := Aside0.mk hi
  have HTO := Aside0.mk hto
  have HX1 := Aside0.mk (show (nxt r d).tx.length + (nxt r d).pe.length ≤ i from hok.tx)
  have HX2 := Aside0.mk (show (nxt r d).tk.f3.size ≤ i from hok.f3)
  have HX3 := Aside0.mk (show (nxt r d).tk.f2.length ≤ i from hok.ats)
  have HX4 := Aside0.mk (show ∀ x ∈ (nxt r d).tk.f2, x.f1.size ≤ i from hok.val)
  have HX5 := Aside0.mk (show (nxt r d).out.length ≤ 2 * i from hok.out)
  have HFL := Aside0.mk hfl
  have HD := Aside0.mk hd
  have f0 : ((r.c.st : Int) == 0) = false := by rw [beq_eq_false_iff_ne]; omega
  have f1 : ((r.c.st : Int) == 1) = false := by rw [beq_eq_false_iff_ne]; omega
  have f2 : ((r.c.st : Int) == 2) = false := by rw [beq_eq_false_iff_ne]; omega
  have f17 : ((r.c.st : Int) == 17) = false := by rw [beq_eq_false_iff_ne]; omega
  have f18 : ((r.c.st : Int) == 18) = false := by rw [beq_eq_false_iff_ne]; omega
  have f19 : ((r.c.st : Int) == 19) = false := by rw [beq_eq_false_iff_ne]; omega
  have f11 : ((r.c.st : Int) == 11) = false := by rw [beq_eq_false_iff_ne]; omega
  have f12 : ((r.c.st : Int) == 12) = false := by rw [beq_eq_false_iff_ne]; omega
  have f13 : ((r.c.st : Int) == 13) = false := by rw [beq_eq_false_iff_ne]; omega
  have f14 : ((r.c.st : Int) == 14) = false := by rw [beq_eq_false_iff_ne]; omega
  have f15 : ((r.c.st : Int) == 15) = false := by rw [beq_eq_false_iff_ne]; omega
  have f16 : ((r.c.st : Int) == 16) = false := by rw [beq_eq_false_iff_ne]; omega
  clear hblk hrows hin hlo hok hi hto hs hfl hd
  go_enter Tryd.func57, Tryd.ntmps57
  go_wp2_with (first | (go_at_call 76; (with_reducible refine (plain_at r.c d ?hv b ?hn HFL.out HD.out HI.out HLO.out HB8.out _ (glob_below HR.out.glob (below_alloc (Below.refl _ _) _))).mono ?_); (case hv => rfl); (case hn => rfl); rintro e w1 ⟨rfl, hbw⟩; have HOWN := Aside0.mk ((hbw.block W.heap.size (by rw [alloc_size]; omega)).trans (alloc_at rfl)); have HBLK1 := Aside0.mk ((hbw.block B (by rw [alloc_size]; omega)).trans ((alloc_old ylt).trans HBLK.out)); have HR1 := Aside0.mk (HR.out.below (below_step (below_alloc (Below.refl _ _) _) hbw)); obtain ⟨z0, z1, z2, z3, z4, z5, z6, z7, z8, z9, z10, z11, z12, z13, z14, z15, z16, z17, z18, zf, zlt⟩ := rcells HBLK1.out; obtain ⟨o0, o1, o2, o3, o4, o5, o6, o7, o8, o9, of⟩ := zero_of HOWN.out; have hBO : B ≠ W.heap.size := (by omega); have hOB : W.heap.size ≠ B := (by omega); have holt : W.heap.size < w1.heap.size := blk_lt HOWN.out; clear hbw; have HP := Aside0.mk (show RdAt B O w0 ((((((((((w1.setCell ⟨B, 0, none⟩ (.int .u8 (d.st : Int))).setCell ⟨B, 1, none⟩ (.int .u8 (d.el : Int))).setCell ⟨B, 2, none⟩ (.bool d.en)).setCell ⟨B, 3, none⟩ (.int .u8 (d.ak : Int))).setCell ⟨B, 4, none⟩ (.int .u8 (d.qu : Int))).setCell ⟨B, 5, none⟩ (.int .u8 (d.pa : Int))).setCell ⟨B, 6, none⟩ (.int .u8 (d.su : Int))).setCell ⟨B, 7, none⟩ (.bool d.es)).setCell ⟨B, 8, none⟩ (.int .u8 (d.da : Int))).setCell ⟨B, 9, none⟩ (.string (bs d.nm))) (nxt r d) from puts [(0, .int .u8 (d.st : Int)), (1, .int .u8 (d.el : Int)), (2, .bool d.en), (3, .int .u8 (d.ak : Int)), (4, .int .u8 (d.qu : Int)), (5, .int .u8 (d.pa : Int)), (6, .int .u8 (d.su : Int)), (7, .bool d.es), (8, .int .u8 (d.da : Int)), (9, .string (bs d.nm))] (r1 := nxt r d) HR1.out HBLK1.out (rcs_put10 r d tv pv av O)); simp only [cxs]) | (go_at_call 80; (with_reducible refine (rd_tag_at B O w0 _ (nxt r d) r.c b HB8.out HP.out i HII.out HX1.out HX2.out HX3.out HX4.out HX5.out ?hv' HTO.out).mono ?_); (case hv' => rfl); rintro e w2 ⟨⟨v, rfl⟩, h1⟩; have H1 := Aside0.mk h1; clear h1))

  go_end0
  exact ⟨⟨_, rfl⟩, H1.out⟩
end Go.Proofs.YtfplocpjdjjoaaaDoor.Ctxs
namespace Go.Proofs.YtfplocpjdjjoaaaDoor.Ctxs
open Go Go.RowKit Go.Proofs.YtfplocpjdjjoaaaDoor.PWholeTrailers Go.Proofs.YtfplocpjdjjoaaaDoor.Trail Go.Proofs.YtfplocpjdjjoaaaDoorW.PrintWords
set_option linter.unusedVariables false
set_option linter.unusedSimpArgs false
theorem take_calls (B O : Nat) (w0 W : World) (r : Rd) (b : Nat) (hb : b < 256) (h : RdAt B O w0 W r) (i : Nat) (hi : i ≤ 100000000000) (hok : Ok r i) (c : Cx) (hc : r.c = flat c) (hin : Inv c) (hlo : Low c.nm) (hn : (Trail.step attrOf true c b).st ≠ 20) : Calls Tryd.prog 57 #[.pointer (some ⟨B, 0, none⟩), .int .u8 (b : Int)] W fun e W' => (∃ v, e = .returned v) ∧ RdAt B O w0 W' (take r b) := by
  obtain ⟨d, hd⟩ : ∃ d, d = flat (Trail.step attrOf false r.c b) := ⟨_, rfl⟩
  have h1 : Inv r.c := hc ▸ inv_of_flat hin
  have h2 : Low r.c.nm := hc ▸ low_flat hlo
  have h3 : flat r.c = r.c := by rw [hc, flat_flat]
  have h4 : d.st ≠ 20 := by
    rw [hd, hc, step_flat attrOf c b hin hn]
    exact hn
  have hdst : d.st = (Trail.step attrOf false r.c b).st := by rw [hd]; rfl
  have hq : (nxt r d) = { r with c := flat (Trail.step attrOf false r.c b) } := by rw [hd]; rfl
  have hoc : OkC r.c := hc ▸ okC_flat c hin
  have ht := hoc.top
  have key : ∀ r' : Rd, take r b = r' → Calls Tryd.prog 57 #[.pointer (some ⟨B, 0, none⟩), .int .u8 (b : Int)] W (fun e W' => (∃ v, e = .returned v) ∧ RdAt B O w0 W' r') → Calls Tryd.prog 57 #[.pointer (some ⟨B, 0, none⟩), .int .u8 (b : Int)] W (fun e W' => (∃ v, e = .returned v) ∧ RdAt B O w0 W' (take r b)) := fun r' e h => e ▸ h
  by_cases q1 : r.c.st = 0 ∨ r.c.st = 1 ∨ r.c.st = 2
  · have hto := go02 attrOf r.c b q1
    rw [← hdst] at hto
    refine key (dataM (nxt r d) r.c.st b) (by rw [hq]; unfold take; rw [if_pos q1]) ?_
    rcases q1 with q | q | q
    · exact takeD0 B O w0 W r b hb h i hi hok h1 h2 h3 d hd q hto
    · exact takeD1 B O w0 W r b hb h i hi hok h1 h2 h3 d hd q hto
    · exact takeD2 B O w0 W r b hb h i hi hok h1 h2 h3 d hd q hto
  · by_cases q2 : r.c.st = 17 ∨ r.c.st = 18 ∨ r.c.st = 19
    · have hto := goRaw attrOf r.c b q2
      rw [← hdst] at hto
      have hto' : d.st = 17 ∨ d.st = 18 ∨ d.st = 19 ∨ d.st = 4 ∨ d.st = 10 ∨ d.st = 0 := by omega
      refine key (rawM (nxt r d) r.c.nm b) (by rw [hq]; unfold take; rw [if_neg q1, if_pos q2]) ?_
      rcases q2 with q | q | q
      · exact takeR17 B O w0 W r b hb h i hi hok h1 h2 h3 d hd q hto'
      · exact takeR18 B O w0 W r b hb h i hi hok h1 h2 h3 d hd q hto'
      · exact takeR19 B O w0 W r b hb h i hi hok h1 h2 h3 d hd q hto'
    · by_cases q3 : r.c.st = 11 ∨ r.c.st = 12 ∨ r.c.st = 13 ∨ r.c.st = 14 ∨ r.c.st = 15 ∨ r.c.st = 16
      · have hto : d.st = 0 → r.c.st = 15 → 2 ≤ (nxt r d).tk.f3.size := fun e0 e15 => by
          have e1 := hdst
          rw [goNote attrOf r.c b q3] at e1
          have e2 := note_end r.c b e15 (by omega)
          have e3 := hok.da e15
          show 2 ≤ r.tk.f3.size
          omega
        refine key (noteM (nxt r d) r.c.st b) (by rw [hq]; unfold take; rw [if_neg q1, if_neg q2, if_pos q3]) ?_
        rcases q3 with q | q | q | q | q | q
        · exact takeN11 B O w0 W r b hb h i hi hok h1 h2 h3 d hd q hto
        · exact takeN12 B O w0 W r b hb h i hi hok h1 h2 h3 d hd q hto
        · exact takeN13 B O w0 W r b hb h i hi hok h1 h2 h3 d hd q hto
        · exact takeN14 B O w0 W r b hb h i hi hok h1 h2 h3 d hd q hto
        · exact takeN15 B O w0 W r b hb h i hi hok h1 h2 h3 d hd q hto
        · exact takeN16 B O w0 W r b hb h i hi hok h1 h2 h3 d hd q hto
      · have hs : 3 ≤ r.c.st ∧ r.c.st ≤ 10 := by omega
        have htag := goTag attrOf r.c b hs hoc.n4 hoc.n5 hoc.n6
        unfold TagTo at htag
        rw [← hdst] at htag
        refine key (tagM (nxt r d) r.c.st b) (by rw [hq]; unfold take; rw [if_neg q1, if_neg q2, if_neg q3]) ?_
        exact takeT B O w0 W r b hb h i hi hok h1 h2 h3 d hd hs (fun e => hok.has (by have e' : d.st = 5 ∧ r.c.st = 5 ∨ d.st = 8 := e; omega))
theorem takes_snoc : ∀ (l : List Nat) (r : Rd) (b : Nat), takes r (l ++ [b]) = take (takes r l) b := fun l r b => by rw [takes_append]; rfl
set_option maxHeartbeats 4000000 in
set_option maxRecDepth 100000 in
theorem run_calls (B O : Nat) (w0 W : World) (A : Option Addr) (cp : Nat) (l : List Nat) (hs : Small l) (hlen : l.length ≤ 100000000000) (hC : Kd.C (Kd.int .u8) w0 A l.length (l.map fun n : Nat => (n : Int))) (h : RdAt B O w0 W {}) (d : Cx) (hd : steps attrOf true {} l = some d) : Calls Tryd.prog 34 #[.pointer (some ⟨B, 0, none⟩), .slice A l.length cp] W fun e W' => e = .returned (.int .i64 (-1)) ∧ RdAt B O w0 W' (flush (takes {} l)) := by
  have hu33 := Tryd.underlying33
  have H := Aside0.mk h
  have HSM := Aside0.mk hs
  have HC := Aside0.mk hC
  have HLN := Aside0.mk hlen
  have HD := Aside0.mk hd
  clear h hs hC hlen hd
  go_enter Tryd.func34, Tryd.ntmps34
  go_wp2
  go_loopw [9] (fun iv wr => ∃ (k : Nat) (c : Cx), k ≤ l.length ∧ iv = .int .i64 k ∧ Inv c ∧ Low c.nm ∧ steps attrOf true c (l.drop k) = some d ∧ (takes {} (l.take k)).c = flat c ∧ Ok (takes {} (l.take k)) k ∧ RdAt B O w0 wr (takes {} (l.take k)))
    (fun iv _ => l.length - (intOf iv).toNat)
  case atStart => exact ⟨0, {}, Nat.zero_le _, rfl, inv_flat 0 (by omega), (fun x hx => by cases hx), HD.out, rfl, ok_zero, H.out⟩
  case round =>
    obtain ⟨k, c, hk, rfl, hid, hld, hrun, hfc, hok, hat⟩ := hrel
    obtain ⟨r, hr⟩ : ∃ r, r = takes {} (l.take k) := ⟨_, rfl⟩
    rw [← hr] at hfc hok hat
    have HRR := Aside0.mk hr
    have HID := Aside0.mk hid
    have HLD := Aside0.mk hld
    have HRUN := Aside0.mk hrun
    have HFC := Aside0.mk hfc
    have HOK := Aside0.mk hok
    have HAT := Aside0.mk hat
    obtain ⟨tv, pv, av, ov, hblk, hrows⟩ := hat
    obtain ⟨y0, y1, y2, y3, y4, y5, y6, y7, y8, y9, y10, y11, y12, y13, y14, y15, y16, y17, y18, yf, ylt⟩ := rcells hblk
    have HBW := Aside0.mk hrows.bw
    have HBLK := Aside0.mk hblk
    have HR := Aside0.mk hrows
    clear hid hld hrun hfc hok hr hblk hrows
    by_cases hlt : k < l.length
    · have hcx0 := Kd.at_int (Kd.C_below HC.out HBW.out) (k : Int) (Int.natCast_nonneg _) (Int.ofNat_lt.2 hlt)
      obtain ⟨ad, ea, hcx⟩ := hcx0
      subst ea
      simp only [Int.toNat_natCast] at hcx
      have hx : rd (l.map fun n : Nat => (n : Int)) (k : Int) = (l[k] : Int) := by simp [rd, hlt]
      rw [hx] at hcx
      obtain ⟨x, hxl⟩ : ∃ x, x = l[k] := ⟨_, rfl⟩
      rw [← hxl] at hcx
      have HX := Aside0.mk (show x < 256 by rw [hxl]; exact HSM.out _ (List.getElem_mem hlt))
      have hdr : l.drop k = x :: l.drop (k + 1) := by rw [hxl]; exact List.drop_eq_getElem_cons hlt
      have htk : l.take (k + 1) = l.take k ++ [x] := by rw [hxl, List.take_add_one, List.getElem?_eq_getElem hlt]; rfl
      have HTK := Aside0.mk htk
      have HK := Aside0.mk hlt
      have HKI := Aside0.mk (show k ≤ 100000000000 by have := HLN.out; omega)
      have c1 : decide ((k : Int) < (l.length : Int)) = true := decide_eq_true (Int.ofNat_lt.2 hlt)
      have hrun := HRUN.out
      rw [hdr, steps] at hrun
      try dsimp only at hrun
      have hbad : (Trail.step attrOf true c x).st ≠ 20 := fun q => by rw [if_pos q] at hrun; cases hrun
      rw [if_neg hbad] at hrun
      have HRUN1 := Aside0.mk hrun
      have HBAD := Aside0.mk hbad
      have hnc : (take r x).c = flat (Trail.step attrOf true c x) := by rw [take_c, HFC.out]; exact step_flat attrOf c x HID.out hbad
      have c2 : (((take r x).c.st : Int) == 20) = false := by
        rw [hnc, beq_eq_false_iff_ne]
        have : (flat (Trail.step attrOf true c x)).st = (Trail.step attrOf true c x).st := rfl
        omega
      have HNC := Aside0.mk hnc
      clear hx hxl hk hdr htk hrun hbad hnc
      go_wp2_with (go_at_call 57; (with_reducible refine (take_calls B O w0 _ r x HX.out HAT.out k HKI.out HOK.out c HFC.out HID.out HLD.out HBAD.out).mono ?_); rintro e w1 ⟨⟨v, rfl⟩, tv1, pv1, av1, ov1, hblk1, hrows1⟩; have HAT1 := Aside0.mk (show RdAt B O w0 w1 (take r x) from ⟨tv1, pv1, av1, ov1, hblk1, hrows1⟩); obtain ⟨z0, z1, z2, z3, z4, z5, z6, z7, z8, z9, z10, z11, z12, z13, z14, z15, z16, z17, z18, zf, zlt⟩ := rcells hblk1; clear hblk1 hrows1)
      have hki := HKI.out
      have hw : wrap64 ((k : Int) + 1) = ((k + 1 : Nat) : Int) := (wrapN (k + 1) (by omega)).2
      go_roundw
      case rel => exact ⟨k + 1, Trail.step attrOf true c x, HK.out, by rw [hw], (inv_step attrOf attrOf_le c x HID.out).resolve_left HBAD.out, low_step true HLD.out HX.out, HRUN1.out, (by rw [HTK.out, takes_snoc, ← HRR.out]; exact HNC.out), (by rw [HTK.out, takes_snoc, ← HRR.out]; exact ok_take r k HOK.out (HFC.out ▸ okC_flat c HID.out) x), (by rw [HTK.out, takes_snoc, ← HRR.out]; exact HAT1.out)⟩
      case measure => have := HK.out; rw [hw]; show l.length - ((k + 1 : Nat) : Int).toNat < l.length - (k : Int).toNat; omega
    · obtain rfl : k = l.length := by omega
      have c1 : decide ((l.length : Int) < (l.length : Int)) = false := decide_eq_false (by omega)
      have HOL := Aside0.mk (show (r.out.length + 1) * 64 ≤ 140737488355328 by have := HOK.out.out; have := HLN.out; omega)
      have HP := Aside0.mk (show RdAt B O w0 (wr.setCell ⟨B, 11, none⟩ (.slice none 0 0)) { r with pe := [] } from puts [(11, .slice none 0 0)] (r1 := { r with pe := [] }) HR.out.nope HBLK.out rfl)
      go_wp2_with (go_at_call 58; (with_reducible refine (flush_calls B O w0 _ { r with pe := [] } HP.out HOL.out).mono ?_); rintro e w1 ⟨⟨v, rfl⟩, h1⟩; have H1 := Aside0.mk h1; clear h1)
      go_ret
      refine ⟨rfl, ?_⟩
      have e := HRR.out
      rw [List.take_length] at e
      rw [← e]
      exact H1.out
end Go.Proofs.YtfplocpjdjjoaaaDoor.Ctxs
namespace Go.Proofs.YtfplocpjdjjoaaaDoor.Ctxs
open Go Go.RowKit Go.Proofs.YtfplocpjdjjoaaaDoor.PWholeTrailers Go.Proofs.YtfplocpjdjjoaaaDoor.Trail Go.Proofs.YtfplocpjdjjoaaaDoorW.PrintWords
set_option linter.unusedVariables false
set_option linter.unusedSimpArgs false
def rcs0 (O : Nat) : Array Value := #[.int .u8 0, .int .u8 0, .bool false, .int .u8 0, .int .u8 0, .int .u8 0, .int .u8 0, .bool false, .int .u8 0, .string ⟨#[]⟩, .slice none 0 0, .slice none 0 0, .bool false, .int .u8 0, .string ⟨#[]⟩, .slice none 0 0, .string ⟨#[]⟩, .func (.func 33) #[] #[.pointer (some ⟨O, 0, none⟩)], .bool false]
theorem rcs_zero (O : Nat) : rcs0 O = rcs {} (.slice none 0 0) (.slice none 0 0) (.slice none 0 0) O := rfl
theorem rd_zero (w0 : World) (hG : Glob w0) : RdAt (w0.heap.size + 1) w0.heap.size w0 ((w0.alloc (.cells #[.slice none 0 0] 37)).alloc (.cells (rcs0 w0.heap.size) 91)) {} := by
  have hblk : ((w0.alloc (.cells #[.slice none 0 0] 37)).alloc (.cells (rcs0 w0.heap.size) 91)).heap[w0.heap.size + 1]? = some (.cells (rcs0 w0.heap.size) 91 (0, 0)) := alloc_at (by rw [alloc_size])
  refine ⟨.slice none 0 0, .slice none 0 0, .slice none 0 0, .slice none 0 0, ?_, ?_⟩
  · rw [← rcs_zero]
    exact hblk
  · exact ⟨(alloc_old (by rw [alloc_size]; omega)).trans (alloc_at rfl), Kd.R_nil _ _ _ _ _, Kd.R_nil _ _ _ _ _, Kd.R_nil _ _ _ _ _, Kd.N_nil _ _ _ _ _, (fun k e => by simp [Value.ownBlock] at e), below_alloc (below_alloc (Below.refl _ _) _) _, hG, by omega, by omega, ⟨_, hblk⟩⟩
theorem run_at {V : World} {v : Value} (w0 : World) (n : Nat) (hn : n = w0.heap.size) (hG : Glob w0) (A : Option Addr) (cp : Nat) (l : List Nat) (hs : Small l) (hlen : l.length ≤ 100000000000) (hC : Kd.C (Kd.int .u8) w0 A l.length (l.map fun n : Nat => (n : Int))) (d : Cx) (hd : steps attrOf true {} l = some d) (hv : v = .pointer (some ⟨n + 1, 0, none⟩)) (hV : V = (w0.alloc (.cells #[.slice none 0 0] 37)).alloc (.cells (rcs0 n) 91)) : Calls Tryd.prog 34 #[v, .slice A l.length cp] V fun e W' => e = .returned (.int .i64 (-1)) ∧ RdAt (n + 1) n w0 W' (flush (takes {} l)) := by
  subst hv
  subst hV
  subst hn
  exact run_calls _ _ w0 _ A cp l hs hlen hC (rd_zero w0 hG) d hd
theorem far10 {V : World} {g : Nat} (v0 v1 v2 v3 v4 v5 v6 v7 v8 v9 : Value) (k : Nat) (h : k ≠ g) : ((((((((((V.setCell ⟨g, 0, none⟩ v0).setCell ⟨g, 1, none⟩ v1).setCell ⟨g, 2, none⟩ v2).setCell ⟨g, 3, none⟩ v3).setCell ⟨g, 4, none⟩ v4).setCell ⟨g, 5, none⟩ v5).setCell ⟨g, 6, none⟩ v6).setCell ⟨g, 7, none⟩ v7).setCell ⟨g, 8, none⟩ v8).setCell ⟨g, 9, none⟩ v9).heap[k]? = V.heap[k]? := by
  have e : ∀ (W : World) (i : Nat) (v : Value), (W.setCell ⟨g, i, none⟩ v).heap[k]? = W.heap[k]? := fun W i v => setCell_block W ⟨g, i, none⟩ v k h
  rw [e, e, e, e, e, e, e, e, e, e]
/-- What token.All answers: the tokens, their context, and that it is not bad. -/
def RetAll (l : List Nat) (d : Cx) (w : World) (e : Ending) (w' : World) : Prop := ∃ ov, e = .returned (.tuple #[ov, .agg (cxs (flat d)), .int .i64 (-1)]) ∧ Kd.N k43 43 w' w.heap.size (fun _ => True) ov (tokens l) ∧ Below w.heap.size w w'
theorem ret_all {fn : Func} {a : Act} {w W : World} {g : Nat} {l : List Nat} {d : Cx} {ov : Value} (h : fn.results = #[.tmp 2, .cell 3 33, .tmp 4]) (hd : a.defers = []) (h2 : a.tmps.getD 2 undef = ov) (h3 : a.tmps.getD 3 undef = .pointer (some ⟨g, 0, none⟩)) (h4 : a.tmps.getD 4 undef = .int .i64 (-1)) (hp : W.heap[g]? = some (.cells (cxs (flat d)) 33 (0, 0))) (hw : Below w.heap.size w W) (hn : Kd.N k43 43 W w.heap.size (fun k => True) ov (tokens l)) :
    bodyPost Tryd.prog fn (RetAll l d w) .ret a W := by
  subst h2
  have hr := results_list (tmps := a.tmps) (P := Tryd.prog) (w := W) (rs := [.tmp 2, .cell 3 33, .tmp 4]) h (vs := [a.tmps.getD 2 undef, .agg (cxs (flat d)), a.tmps.getD 4 undef]) (by simp) (.tmp (.cell g 33 (cxs (flat d)) (0, 0) _ h3 hp Tryd.underlying33 rfl info33 (.tmp .nil)))
  rw [h4] at hr
  exact bodyPost_ret hr hd ⟨_, rfl, hn, hw⟩
theorem drew_heap (w : World) : w.drew.heap = w.heap := rfl
theorem put10d {V : World} {g : Nat} {c : Cx} {v0 v1 v2 v3 v4 v5 v6 v7 v8 v9 : Value} (hb : V.heap[g]? = some (.cells zeros 33 (0, 0))) (hc : #[v0, v1, v2, v3, v4, v5, v6, v7, v8, v9] = cxs c) : ((((((((((V.setCell ⟨g, 0, none⟩ v0).setCell ⟨g, 1, none⟩ v1).setCell ⟨g, 2, none⟩ v2).setCell ⟨g, 3, none⟩ v3).setCell ⟨g, 4, none⟩ v4).setCell ⟨g, 5, none⟩ v5).setCell ⟨g, 6, none⟩ v6).setCell ⟨g, 7, none⟩ v7).setCell ⟨g, 8, none⟩ v8).setCell ⟨g, 9, none⟩ v9).drew.heap[g]? = some (.cells (cxs c) 33 (0, 0)) := by
  rw [← hc, drew_heap]
  exact put10 (cs := zeros) rfl hb v0 v1 v2 v3 v4 v5 v6 v7 v8 v9
theorem below10d {V w : World} {g : Nat} {v0 v1 v2 v3 v4 v5 v6 v7 v8 v9 : Value} (hb : Below w.heap.size w V) (le : w.heap.size ≤ g) : Below w.heap.size w ((((((((((V.setCell ⟨g, 0, none⟩ v0).setCell ⟨g, 1, none⟩ v1).setCell ⟨g, 2, none⟩ v2).setCell ⟨g, 3, none⟩ v3).setCell ⟨g, 4, none⟩ v4).setCell ⟨g, 5, none⟩ v5).setCell ⟨g, 6, none⟩ v6).setCell ⟨g, 7, none⟩ v7).setCell ⟨g, 8, none⟩ v8).setCell ⟨g, 9, none⟩ v9).drew := Below.drew (below10 hb le v0 v1 v2 v3 v4 v5 v6 v7 v8 v9)
theorem n10d {V w : World} {g : Nat} {v0 v1 v2 v3 v4 v5 v6 v7 v8 v9 ov : Value} {xs : List S43} {ok : Nat → Prop} (hn : Kd.N k43 43 V (w.heap.size + 1) ok ov xs) (hok : ∀ k, ok k → k ≠ g) : Kd.N k43 43 ((((((((((V.setCell ⟨g, 0, none⟩ v0).setCell ⟨g, 1, none⟩ v1).setCell ⟨g, 2, none⟩ v2).setCell ⟨g, 3, none⟩ v3).setCell ⟨g, 4, none⟩ v4).setCell ⟨g, 5, none⟩ v5).setCell ⟨g, 6, none⟩ v6).setCell ⟨g, 7, none⟩ v7).setCell ⟨g, 8, none⟩ v8).setCell ⟨g, 9, none⟩ v9).drew w.heap.size (fun _ => True) ov xs :=
  Kd.N_drew (Kd.N_mono (Kd.N_lower (Kd.N_step hn (fun k hk hlt => far10 v0 v1 v2 v3 v4 v5 v6 v7 v8 v9 k (hok k hk))) (Nat.le_succ _)) (fun _ _ => trivial))
set_option maxHeartbeats 4000000 in
set_option maxRecDepth 100000 in
theorem tokens_calls (A : Option Addr) (cp : Nat) (l : List Nat) (hs : Small l) (hlen : l.length ≤ 100000000000) (w : World) (hG : Glob w) (hC : Kd.C (Kd.int .u8) w A l.length (l.map fun n : Nat => (n : Int))) (d : Cx) (hd : steps attrOf true {} l = some d) : Calls Tryd.prog 10 #[.slice A l.length cp] w (RetAll l d w) := by
  have hu33 := Tryd.underlying33
  have HSM := Aside0.mk hs
  have HLN := Aside0.mk hlen
  have HD := Aside0.mk hd
  have HC := Aside0.mk (Kd.C_below hC (below_alloc (Below.refl _ _) (.cells zeros 33)))
  have HG := Aside0.mk (glob_below hG (below_alloc (Below.refl _ _) (.cells zeros 33)))
  have hfl : (flush (takes {} l)).c = flat d := takes_c l {} {} d (inv_flat 0 (by omega)) rfl hd
  have HFL := Aside0.mk hfl
  clear hs hlen hG hC hd hfl
  go_enter Tryd.func10, Tryd.ntmps10
  go_wp2_with (go_at_call 34; (with_reducible refine (run_at (w.alloc (.cells zeros 33)) (w.heap.size + 1) (alloc_size _ _).symm HG.out A cp l HSM.out HLN.out HC.out d HD.out ?hv ?hV).mono ?_); (case hv => rfl); (case hV => rfl); (rintro e w1 ⟨rfl, tv, pv, av, ov, hblk, hrows⟩; obtain ⟨A9, c9, e9⟩ := Kd.N_slice hrows.out; subst e9); (obtain ⟨z0, z1, z2, z3, z4, z5, z6, z7, z8, z9, z10, z11, z12, z13, z14, z15, z16, z17, z18, zf, zlt⟩ := rcells hblk; rw [HFL.out] at z0 z1 z2 z3 z4 z5 z6 z7 z8 z9; have HR := Aside0.mk hrows; have HB1 := Aside0.mk (below_step (below_alloc (Below.refl w.heap.size w) (.cells zeros 33)) hrows.bw); have HP := Aside0.mk ((hrows.bw.block w.heap.size (by rw [alloc_size]; omega)).trans (alloc_at rfl)); obtain ⟨o0, o1, o2, o3, o4, o5, o6, o7, o8, o9, of⟩ := zero_of HP.out; have x0 : w1.cell? ⟨w.heap.size + 1, 0, none⟩ = some (.slice A9 (flush (takes {} l)).out.length c9) := (by simp [World.cell?, hrows.box]);  clear hblk hrows))
  go_region_with (fail)
  all_goals
    go_wp2
    (with_reducible refine ret_all (g := w.heap.size) (d := d) (l := l) (w := w) (ov := .slice A9 (flush (takes {} l)).out.length c9) Tryd.results10 ?_ ?_ ?_ ?_ ?_ ?_ ?_)
    · rfl
    · rfl
    · rfl
    · rfl
    · (with_reducible refine put10d HP.out ?_)
      rfl
    · exact below10d HB1.out (Nat.le_refl _)
    · have hn := HR.out.out
      rw [alloc_size] at hn
      (with_reducible refine n10d hn ?_)
      intro k hk
      have := hk.1
      omega
end Go.Proofs.YtfplocpjdjjoaaaDoor.Ctxs
namespace Go.Proofs.YtfplocpjdjjoaaaDoor.Ctxs
open Go Go.RowKit Go.Proofs.YtfplocpjdjjoaaaDoor.PWholeTrailers Go.Proofs.YtfplocpjdjjoaaaDoorW.PrintWords
set_option linter.unusedVariables false
set_option linter.unusedSimpArgs false
theorem wrap_next (i n : Nat) (h : i < n) (hn : n ≤ 9223372036854775807) : wrap64 ((i : Int) + 1) = ((i + 1 : Nat) : Int) := by unfold wrap64; omega
theorem alike_l1 (x : List S43) (i : Nat) (hi : i < x.length) (hf : (rd_T43 x (i : Int)).f2.length ≤ 9223372036854775807) (k0 : Nat) (h0 : bobbintop_alike.l0 k0 x x (wrap64 ((i : Int) + 1)) = some true) : ∀ (m j : Nat), (rd_T43 x (i : Int)).f2.length - j = m → ∃ k, bobbintop_alike.l1 k x x (i : Int) (j : Int) = some true
  | 0, j, hm => ⟨k0 + 1, by
    have h1 : (0 : Int) ≤ (i : Int) := Int.natCast_nonneg i
    have h2 : (i : Int) < (x.length : Int) := Int.ofNat_lt.2 hi
    have h3 : ¬ (j : Int) < ((rd_T43 x (i : Int)).f2.length : Int) := by omega
    rw [bobbintop_alike.l1, if_pos h1, if_pos h2, if_neg h3]
    exact h0⟩
  | m + 1, j, hm => by
    obtain ⟨k, h⟩ := alike_l1 x i hi hf k0 h0 m (j + 1) (by omega)
    have h1 : (0 : Int) ≤ (i : Int) := Int.natCast_nonneg i
    have h2 : (i : Int) < (x.length : Int) := Int.ofNat_lt.2 hi
    have h3 : (j : Int) < ((rd_T43 x (i : Int)).f2.length : Int) := by omega
    have h4 : (0 : Int) ≤ (j : Int) := Int.natCast_nonneg j
    refine ⟨k + 1, ?_⟩
    rw [bobbintop_alike.l1, if_pos h1, if_pos h2, if_pos h3, if_pos h4, if_pos h2, if_pos h3, if_pos rfl, wrap_next j _ (by omega) hf]
    exact h
theorem alike_l0 (x : List S43) (hx : x.length ≤ 9223372036854775807) (hf : ∀ i : Nat, i < x.length → (rd_T43 x (i : Int)).f2.length ≤ 9223372036854775807) : ∀ (m i : Nat), x.length - i = m → ∃ k, bobbintop_alike.l0 k x x (i : Int) = some true
  | 0, i, hm => ⟨1, by
    have h2 : ¬ (i : Int) < (x.length : Int) := by omega
    rw [bobbintop_alike.l0, if_neg h2]⟩
  | m + 1, i, hm => by
    have hi : i < x.length := by omega
    obtain ⟨k0, h0⟩ := alike_l0 x hx hf m (i + 1) (by omega)
    rw [← wrap_next i _ hi hx] at h0
    obtain ⟨k, h⟩ := alike_l1 x i hi (hf i hi) k0 h0 _ 0 rfl
    have h1 : (0 : Int) ≤ (i : Int) := Int.natCast_nonneg i
    have h2 : (i : Int) < (x.length : Int) := Int.ofNat_lt.2 hi
    refine ⟨k + 2, ?_⟩
    rw [bobbintop_alike.l0, if_pos h2, if_pos h1, if_pos h2, if_pos rfl, if_pos rfl, bobbintop_alike.j1, if_neg (by simp)]
    exact h
theorem alike_refl (x : List S43) (hx : x.length ≤ 9223372036854775807) (hf : ∀ i : Nat, i < x.length → (rd_T43 x (i : Int)).f2.length ≤ 9223372036854775807) : ∃ k, bobbintop_alike.f k x x = some true := by
  obtain ⟨k, h⟩ := alike_l0 x hx hf _ 0 rfl
  refine ⟨k, ?_⟩
  unfold bobbintop_alike.f
  rw [if_pos rfl]
  exact h
theorem alike_bounds {w : World} {A : Option Addr} {x : List S43} (h : Kd.C k43 w A x.length x) : x.length ≤ 9223372036854775807 ∧ ∀ i : Nat, i < x.length → (rd_T43 x (i : Int)).f2.length ≤ 9223372036854775807 := by
  refine ⟨h.2.1, fun i hi => ?_⟩
  obtain ⟨ad, A2, c2, e, x0, x1, x2, x3, l2, g2⟩ := at_T43 h (i : Int) (Int.natCast_nonneg _) (Int.ofNat_lt.2 hi)
  exact g2.2.1
/-- What bobbintop.alike answers of a list and itself, wherever both lie. -/
theorem alike_calls {x : List S43} {n m : Nat} (A0 : Option Addr) (c0 : Nat) (A1 : Option Addr) (c1 : Nat) (w : World) (hn : n = x.length) (hm : m = x.length) (h0 : Kd.C k43 w A0 x.length x) (hc0 : x.length ≤ c0) (h1 : Kd.C k43 w A1 x.length x) (hc1 : x.length ≤ c1) : Calls Tryd.prog 11 #[.slice A0 n c0, .slice A1 m c1] w fun e w' => e = .returned (.bool true) ∧ Below w.heap.size w w' := by
  subst hn
  subst hm
  obtain ⟨b1, b2⟩ := alike_bounds h0
  obtain ⟨k, hk⟩ := alike_refl x b1 b2
  refine (bobbintop_alike.calls k A0 c0 x A1 c1 x true w h0 hc0 h1 hc1 hk).mono ?_
  rintro e w' ⟨rfl, hd⟩
  exact ⟨rfl, hd.below⟩
end Go.Proofs.YtfplocpjdjjoaaaDoor.Ctxs
namespace Go.Proofs.YtfplocpjdjjoaaaDoor.Ctxs
open Go Go.RowKit Go.Proofs.YtfplocpjdjjoaaaDoor.PWholeTrailers Go.Proofs.YtfplocpjdjjoaaaDoor.Trail Go.Proofs.YtfplocpjdjjoaaaDoorW.PrintWords
set_option linter.unusedVariables false
set_option linter.unusedSimpArgs false
theorem for_first {v : Array Value} (hv : v = cxs { st := 8, el := 3, qu := 34 }) (w : World) (hG : Glob w) : Calls Tryd.prog 7 #[.agg v] w fun e w' => e = .returned (.tuple #[.string ⟨#[34, 62, 60, 47, 115, 99, 114, 105, 112, 116, 62]⟩, .int .i64 0]) ∧ Below w.heap.size w w' := by
  subst hv
  have hi : Inv { st := 8, el := 3, qu := 34 } := inv_val 3 0 34 0 0 false false [] (by omega) (fun q => by cases q) (by omega) (.inr (.inl rfl)) (by omega) (fun _ _ => ⟨rfl, rfl⟩) (fun q => by cases q) (fun _ => by omega) (fun q => by omega) (fun q => by omega) (fun _ => ⟨rfl, rfl⟩) (by omega) (fun _ => rfl) (fun q => by omega)
  refine (for_calls { st := 8, el := 3, qu := 34 } hi (fun x hx => by cases hx) w hG).mono ?_
  rintro e w' ⟨rfl, hb⟩
  exact ⟨rfl, hb⟩
theorem bytes_none {v : Array Value} {n : Nat} (hv : v = cxs {}) (A : Option Addr) (cp : Nat) (l : List Nat) (hn : n = l.length) (hs : Small l) (hlen : l.length ≤ 140737488355328) (w : World) (hC : Kd.C (Kd.int .u8) w A l.length (l.map fun n : Nat => (n : Int))) (hG : Glob w) (h : steps attrOf true {} l = none) : Calls Tryd.prog 8 #[.agg v, .slice A n cp] w fun e w' => ∃ c : Cx, ∃ i : Int, c.st = 20 ∧ 0 ≤ i ∧ e = .returned (.tuple #[.agg (cxs c), .int .i64 i]) ∧ Below w.heap.size w w' := by
  subst hv
  subst hn
  refine (bytes_calls {} A cp l (inv_flat 0 (by omega)) (fun x hx => by cases hx) hs hlen w hC hG).mono ?_
  rintro e w' ⟨rfl, hb⟩
  obtain ⟨h1, h2⟩ := bytesAt_none l {} 0 h
  exact ⟨_, _, h1, h2, rfl, hb⟩
theorem bytes_some {v : Array Value} {n : Nat} (hv : v = cxs {}) (A : Option Addr) (cp : Nat) (l : List Nat) (hn : n = l.length) (hs : Small l) (hlen : l.length ≤ 140737488355328) (w : World) (hC : Kd.C (Kd.int .u8) w A l.length (l.map fun n : Nat => (n : Int))) (hG : Glob w) (d : Cx) (h : steps attrOf true {} l = some d) : Calls Tryd.prog 8 #[.agg v, .slice A n cp] w fun e w' => e = .returned (.tuple #[.agg (cxs d), .int .i64 (-1)]) ∧ Below w.heap.size w w' := by
  subst hv
  subst hn
  refine (bytes_calls {} A cp l (inv_flat 0 (by omega)) (fun x hx => by cases hx) hs hlen w hC hG).mono ?_
  rintro e w' ⟨rfl, hb⟩
  rw [bytesAt_some l {} d 0 h]
  exact ⟨rfl, hb⟩
theorem for_at {v : Array Value} (c : Cx) (hv : v = cxs c) (hi : Inv c) (hl : Low c.nm) (w : World) (hG : Glob w) : Calls Tryd.prog 7 #[.agg v] w (RetT (trailer attrOf c) w) := hv ▸ for_calls c hi hl w hG
theorem inv_low (l : List Nat) (hs : Small l) : ∀ (c d : Cx), Inv c → Low c.nm → steps attrOf true c l = some d → Inv d ∧ Low d.nm := by
  induction l with
  | nil => intro c d hi hl h; cases h; exact ⟨hi, hl⟩
  | cons b l ih =>
    intro c d hi hl h
    rw [steps] at h
    try dsimp only at h
    split at h
    · cases h
    · rename_i hn
      exact ih (fun x hx => hs x (List.mem_cons_of_mem _ hx)) _ d ((inv_step attrOf attrOf_le c b hi).resolve_left hn) (low_step true hl (hs b List.mem_cons_self)) h
theorem sm_app {a b : List Nat} (ha : Small a) (hb : Small b) : Small (a ++ b) := fun x hx => (List.mem_append.1 hx).elim (ha x) (hb x)
theorem small_element (e : Nat) : Small (element e) := by
  unfold element
  split
  · intro x hx; cases hx
  · exact sm_app (sm_app (fun x hx => by simp at hx; omega) (small_name e)) (fun x hx => by simp at hx; omega)
theorem small_tcode (c : Cx) : Small (tcode c) := by
  unfold tcode
  repeat' split
  all_goals
    intro x hx
    simp at hx
    try omega
    try (split at hx <;> simp at hx <;> omega)
theorem small_trailer (c : Cx) (hi : Inv c) : Small (trailer attrOf c) := by
  unfold trailer
  have h62 : Small [62] := fun x hx => by simp at hx; omega
  have hc : ∀ l, Small l → Small (62 :: l) := fun l hl => sm_app h62 hl
  split
  · intro x hx; simp at hx; omega
  · split
    · split
      · exact h62
      · exact hc _ (small_element _)
    · split
      · exact h62
      · split
        · intro x hx; simp at hx; omega
        · split
          · exact hc _ (small_element _)
          · split
            · exact sm_app (fun x hx => by simp at hx; omega) (small_element _)
            · split
              · rename_i h8
                refine sm_app (sm_app (small_tcode c) ?_) (hc _ (small_element _))
                split
                · intro x hx
                  have := (hi.val h8).2.2.1
                  simp at hx
                  omega
                · intro x hx; cases hx
              · split
                · unfold traw
                  split
                  · exact sm_app (small_tcode c) (small_element _)
                  · split
                    · exact sm_app (fun x hx => small_name _ x (List.mem_of_mem_drop hx)) h62
                    · exact sm_app (small_tcode _) (small_element _)
                · intro x hx; cases hx
theorem trailer_len (c : Cx) : (trailer attrOf c).length ≤ 40 := by
  have h1 := tcode_len c
  have h2 := element_len c.el
  have h3 := element_len (Trail.elemOf c.nm)
  have h4 := nameOf_len c.el
  have h5 := tcode_len ((steps attrOf true { st := 17, el := c.el, su := c.su, es := c.es } (47 :: c.nm)).getD bad)
  unfold trailer traw
  repeat' split
  all_goals (simp only [List.length_append, List.length_cons, List.length_nil, List.length_drop]; try omega)
  all_goals (try (split <;> simp <;> omega))
theorem bytesOf_bs (l : List Nat) (hs : Small l) : bytesOf (bs l) = l.map fun n : Nat => (n : Int) := by
  unfold bytesOf bs
  simp only [List.map_map]
  apply List.map_congr_left
  intro x hx
  have := hs x hx
  simp
  omega
end Go.Proofs.YtfplocpjdjjoaaaDoor.Ctxs
namespace Go.Proofs.YtfplocpjdjjoaaaDoor.Ctxs
open Go Go.RowKit Go.Proofs.YtfplocpjdjjoaaaDoor.PWholeTrailers Go.Proofs.YtfplocpjdjjoaaaDoor.Trail Go.Proofs.YtfplocpjdjjoaaaDoorW.PrintWords
set_option linter.unusedVariables false
set_option linter.unusedSimpArgs false
set_option maxHeartbeats 4000000 in
set_option maxRecDepth 100000 in
theorem law_none (A : Option Addr) (cp : Nat) (p : List Nat) (at_ : Nat) (hs : Small p) (hlen : p.length ≤ 1048576) (hcp : p.length ≤ cp) (hat : at_ < 65536) (w : World) (hG : Glob w) (hC : Kd.C (Kd.int .u8) w A p.length (p.map fun n : Nat => (n : Int))) (hst : steps attrOf true {} (p.take (at_ % (p.length + 1))) = none) : Calls Tryd.prog 3 #[.slice A p.length cp, .int .u16 (at_ : Int)] w fun e w' => e = .returned (.bool true) ∧ Below w.heap.size w w' := by
  have hu33 := Tryd.underlying33
  obtain ⟨n, hn⟩ : ∃ n, n = at_ % (p.length + 1) := ⟨_, rfl⟩
  rw [← hn] at hst
  have hnl : n ≤ p.length := by
    have := Nat.mod_lt at_ (show 0 < p.length + 1 by omega)
    omega
  have hql : n = (p.take n).length := by rw [List.length_take]; omega
  have m1 : ((at_ : Int)).tmod ((p.length : Int) + 1) = (n : Int) := by rw [hn]; rfl
  have m2 : ((at_ : Int)) % ((p.length : Int) + 1) = (n : Int) := by rw [hn]; rfl
  have m3 : ¬ ((p.length : Int) + 1 = 0) := by omega
  have m4 : (((p.length : Int) + 1) == 0) = false := by rw [beq_eq_false_iff_ne]; omega
  have m5 : ¬ (p.length + 1 = 0) := by omega
  have b1 : n ≤ 1000000000002 := by omega
  have b2 : at_ ≤ 1000000000002 := by omega
  have b3 : p.length + 1 ≤ 1000000000002 := by omega
  have i1 : (0 : Int) ≤ (n : Int) ∧ (n : Int) ≤ (cp : Int) := by omega
  have i2 : (0 : Int) ≤ (n : Int) ∧ n ≤ cp := by omega
  have i3 : n ≤ cp := by omega
  have HSQ := Aside0.mk (show Small (p.take n) from fun x hx => hs x (List.mem_of_mem_take hx))
  have HCQ := Aside0.mk (show Kd.C (Kd.int .u8) w A (p.take n).length ((p.take n).map fun n : Nat => (n : Int)) by
    have := Kd.C_take (m := n) (show Kd.C (Kd.int .u8) w A (p.map fun n : Nat => (n : Int)).length (p.map fun n : Nat => (n : Int)) by rw [List.length_map]; exact hC) (by rw [List.length_map]; omega)
    rw [← List.map_take, List.length_map] at this
    exact this)
  have HQL := Aside0.mk hql
  have HLQ := Aside0.mk (show (p.take n).length ≤ 140737488355328 by omega)
  have HLQ2 := Aside0.mk (show (p.take n).length ≤ 1048576 by omega)
  have HG := Aside0.mk hG
  have HST := Aside0.mk hst
  obtain ⟨x1, x2⟩ := wrapN n b1
  obtain ⟨x3, x4⟩ := wrapN at_ b2
  obtain ⟨x5, x6⟩ := wrapN (p.length + 1) b3
  rw [show ((p.length + 1 : Nat) : Int) = (p.length : Int) + 1 from rfl] at x5 x6
  clear b1 b2 b3
  clear hn hql hnl hG hs hC hst hlen hcp hat
  go_enter Tryd.func3, Tryd.ntmps3
  go_wp2_with (first | (go_at_call 7; (with_reducible refine (for_first ?hv _ HG.out).mono ?_); (case hv => rfl); rintro e w1 ⟨rfl, hb⟩; have HB1 := Aside0.mk hb; clear hb) | (go_at_call 8; (with_reducible refine (bytes_none ?hv A cp (p.take n) ?hn HSQ.out HLQ.out _ (Kd.C_below HCQ.out HB1.out) (glob_below HG.out HB1.out) HST.out).mono ?_); (case hv => rfl); (case hn => exact HQL.out); rintro e w2 ⟨c, i, hc, hi, rfl, hb⟩; have HB2 := Aside0.mk (below_step HB1.out hb); have c1 : decide ((0 : Int) ≤ i) = true := decide_eq_true hi; have c2 : ((c.st : Int) == 20) = true := (by rw [hc]; rfl); clear hb hc hi; simp only [cxs]))
  go_ret
  exact ⟨rfl, below_alloc HB2.out _⟩
end Go.Proofs.YtfplocpjdjjoaaaDoor.Ctxs
