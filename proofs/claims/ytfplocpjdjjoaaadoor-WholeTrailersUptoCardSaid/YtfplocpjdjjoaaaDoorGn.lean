/-
  A reader's byte of a comment, or of what is taken for one (note), by the state it leads to.
  A reader's byte of a tag, by the state it leads to.
  Conditions: as each theorem says.
-/
import Derived.Test.YtfplocpjdjjoaaaDoorGm
namespace Go.Proofs.YtfplocpjdjjoaaaDoor.Ctxs
open Go Go.RowKit Go.Proofs.YtfplocpjdjjoaaaDoor.PWholeTrailers Go.Proofs.YtfplocpjdjjoaaaDoor.Trail Go.Proofs.YtfplocpjdjjoaaaDoorW.PrintWords
set_option linter.unusedVariables false
set_option linter.unusedSimpArgs false
set_option maxHeartbeats 4000000 in
set_option maxRecDepth 100000 in
theorem note13 (B O : Nat) (w0 W : World) (r : Rd) (f : Cx) (b : Nat) (hb : b < 256) (h : RdAt B O w0 W r) (hl : (r.out.length + 1) * 64 ≤ 140737488355328) (hs : r.tx.length + r.pe.length + 1 ≤ 1000000000000) (h1 : r.c.st = 13) (h3 : r.tk.f3.size ≤ 1000000000000) : Calls Tryd.prog 79 #[.pointer (some ⟨B, 0, none⟩), .agg (cxs f), .int .u8 (b : Int)] W fun e W' => (∃ v, e = .returned v) ∧ RdAt B O w0 W' (noteM r f.st b) := by
  have e : noteM r f.st b = { r with tk := ⟨3, bs [], [], bs []⟩ } := by simp [noteM, h1]
  rw [e]
  clear e
  have hu33 := Tryd.underlying33
  obtain ⟨tv, pv, av, ov, hblk, hrows⟩ := h
  obtain ⟨A2, c2, e2⟩ := Kd.R_slice hrows.pe
  subst e2
  obtain ⟨y0, y1, y2, y3, y4, y5, y6, y7, y8, y9, y10, y11, y12, y13, y14, y15, y16, y17, y18, yf, ylt⟩ := rcells hblk
  have HBLK := Aside0.mk hblk
  have HR := Aside0.mk hrows
  have HL := Aside0.mk hl
  have HS := Aside0.mk hs
  have HAT := Aside0.mk (show RdAt B O w0 W r from ⟨tv, _, av, ov, hblk, hrows⟩)
  have f13 : ((r.c.st : Int) == 13) = true := by rw [beq_iff_eq]; omega
  have f0 : ((r.c.st : Int) != 0) = true := by rw [bne_iff_ne]; omega
  simp only [cxs]
  clear hblk hrows hl hs
  go_enter Tryd.func79, Tryd.ntmps79
  go_wp2
  go_end0
  refine ⟨⟨_, rfl⟩, ?_⟩
  exact (puts [(13, .int .u8 3), (14, .string ⟨#[]⟩), (15, .slice none 0 0), (16, .string ⟨#[]⟩)] (r1 := { r with tk := ⟨3, bs [], [], bs []⟩ }) HR.out.noats HBLK.out rfl).below (below_alloc (Below.refl _ _) _)
set_option maxHeartbeats 4000000 in
set_option maxRecDepth 100000 in
theorem noteMid (B O : Nat) (w0 W : World) (r : Rd) (f : Cx) (b : Nat) (hb : b < 256) (h : RdAt B O w0 W r) (hl : (r.out.length + 1) * 64 ≤ 140737488355328) (hs : r.tx.length + r.pe.length + 1 ≤ 1000000000000) (h1 : r.c.st ≠ 13) (h2 : r.c.st ≠ 0) (h3 : r.tk.f3.size ≤ 1000000000000) : Calls Tryd.prog 79 #[.pointer (some ⟨B, 0, none⟩), .agg (cxs f), .int .u8 (b : Int)] W fun e W' => (∃ v, e = .returned v) ∧ RdAt B O w0 W' (noteM r f.st b) := by
  have e : noteM r f.st b = { r with tk := { r.tk with f3 := r.tk.f3 ++ bs [b] } } := by simp [noteM, h1, h2]
  rw [e]
  clear e
  have hu33 := Tryd.underlying33
  obtain ⟨tv, pv, av, ov, hblk, hrows⟩ := h
  obtain ⟨A2, c2, e2⟩ := Kd.R_slice hrows.pe
  subst e2
  obtain ⟨y0, y1, y2, y3, y4, y5, y6, y7, y8, y9, y10, y11, y12, y13, y14, y15, y16, y17, y18, yf, ylt⟩ := rcells hblk
  have HBLK := Aside0.mk hblk
  have HR := Aside0.mk hrows
  have HL := Aside0.mk hl
  have HS := Aside0.mk hs
  have HAT := Aside0.mk (show RdAt B O w0 W r from ⟨tv, _, av, ov, hblk, hrows⟩)
  have f13 : ((r.c.st : Int) == 13) = false := by rw [beq_eq_false_iff_ne]; omega
  have f0 : ((r.c.st : Int) != 0) = true := by rw [bne_iff_ne]; omega
  have u0 : (bs [b]).size = 1 := bs_size _
  have u1 : ¬ 9223372036854775807 < r.tk.f3.size + (bs [b]).size := by omega
  have u2 : ¬ 9223372036854775807 < r.tk.f3.size + 1 := by omega
  have hcv := one_conv (V := ((W.alloc (.cells #[.int .u8 (f.st : Int), .int .u8 (f.el : Int), .bool f.en, .int .u8 (f.ak : Int), .int .u8 (f.qu : Int), .int .u8 (f.pa : Int), .int .u8 (f.su : Int), .bool f.es, .int .u8 (f.da : Int), .string (bs f.nm)] 33)).alloc (.cells #[.int .u8 (b : Int)] 5)).drew) (g := W.heap.size + 1) (x := b) (cell_last (W.alloc _) _ _ _ _ (by rw [alloc_size]))
  simp only [cxs]
  clear hblk hrows hl hs
  go_enter Tryd.func79, Tryd.ntmps79
  go_wp2
  go_region_with (fail)
  all_goals
    go_wp2
    go_end0
    refine ⟨⟨_, rfl⟩, ?_⟩
    exact (puts [(16, .string (r.tk.f3 ++ bs [b]))] (r1 := { r with tk := { r.tk with f3 := r.tk.f3 ++ bs [b] } }) HR.out HBLK.out rfl).below (Below.drew (below_alloc (below_alloc (Below.refl _ _) _) _))
set_option maxHeartbeats 4000000 in
set_option maxRecDepth 100000 in
theorem noteEnd (B O : Nat) (w0 W : World) (r : Rd) (f : Cx) (b : Nat) (hb : b < 256) (h : RdAt B O w0 W r) (hl : (r.out.length + 1) * 64 ≤ 140737488355328) (hs : r.tx.length + r.pe.length + 1 ≤ 1000000000000) (h1 : r.c.st = 0) (h2 : f.st ≠ 15) (h3 : r.tk.f3.size ≤ 1000000000000) : Calls Tryd.prog 79 #[.pointer (some ⟨B, 0, none⟩), .agg (cxs f), .int .u8 (b : Int)] W fun e W' => (∃ v, e = .returned v) ∧ RdAt B O w0 W' (noteM r f.st b) := by
  have e : noteM r f.st b = fin r := by simp [noteM, h1, h2]
  rw [e]
  clear e
  have hu33 := Tryd.underlying33
  obtain ⟨tv, pv, av, ov, hblk, hrows⟩ := h
  obtain ⟨A2, c2, e2⟩ := Kd.R_slice hrows.pe
  subst e2
  obtain ⟨y0, y1, y2, y3, y4, y5, y6, y7, y8, y9, y10, y11, y12, y13, y14, y15, y16, y17, y18, yf, ylt⟩ := rcells hblk
  have HBLK := Aside0.mk hblk
  have HR := Aside0.mk hrows
  have HL := Aside0.mk hl
  have HS := Aside0.mk hs
  have HAT := Aside0.mk (show RdAt B O w0 W r from ⟨tv, _, av, ov, hblk, hrows⟩)
  have f13 : ((r.c.st : Int) == 13) = false := by rw [beq_eq_false_iff_ne]; omega
  have f0 : ((r.c.st : Int) != 0) = false := by simp [h1]
  have k15 : ((f.st : Int) == 15) = false := by rw [beq_eq_false_iff_ne]; omega
  simp only [cxs]
  clear hblk hrows hl hs
  go_enter Tryd.func79, Tryd.ntmps79
  go_wp2_with (go_at_call 111; (with_reducible refine (end_calls B O w0 _ r (HAT.out.below (below_alloc (Below.refl _ _) _)) HL.out).mono ?_); rintro e w1 ⟨⟨v, rfl⟩, h1⟩; have H1 := Aside0.mk h1; clear h1)
  go_end0
  exact ⟨⟨_, rfl⟩, H1.out⟩
set_option maxHeartbeats 4000000 in
set_option maxRecDepth 100000 in
theorem noteEnd15 (B O : Nat) (w0 W : World) (r : Rd) (f : Cx) (b : Nat) (hb : b < 256) (h : RdAt B O w0 W r) (hl : (r.out.length + 1) * 64 ≤ 140737488355328) (hs : r.tx.length + r.pe.length + 1 ≤ 1000000000000) (h1 : r.c.st = 0) (h2 : f.st = 15) (h4 : 2 ≤ r.tk.f3.size) (h3 : r.tk.f3.size ≤ 1000000000000) : Calls Tryd.prog 79 #[.pointer (some ⟨B, 0, none⟩), .agg (cxs f), .int .u8 (b : Int)] W fun e W' => (∃ v, e = .returned v) ∧ RdAt B O w0 W' (noteM r f.st b) := by
  have e : noteM r f.st b = fin { r with tk := { r.tk with f3 := r.tk.f3.extract 0 (r.tk.f3.size - 2) } } := by simp [noteM, h1, h2]
  rw [e]
  clear e
  have hu33 := Tryd.underlying33
  obtain ⟨tv, pv, av, ov, hblk, hrows⟩ := h
  obtain ⟨A2, c2, e2⟩ := Kd.R_slice hrows.pe
  subst e2
  obtain ⟨y0, y1, y2, y3, y4, y5, y6, y7, y8, y9, y10, y11, y12, y13, y14, y15, y16, y17, y18, yf, ylt⟩ := rcells hblk
  have HBLK := Aside0.mk hblk
  have HR := Aside0.mk hrows
  have HL := Aside0.mk hl
  have HS := Aside0.mk hs
  have HAT := Aside0.mk (show RdAt B O w0 W r from ⟨tv, _, av, ov, hblk, hrows⟩)
  have f13 : ((r.c.st : Int) == 13) = false := by rw [beq_eq_false_iff_ne]; omega
  have f0 : ((r.c.st : Int) != 0) = false := by simp [h1]
  have k15 : ((f.st : Int) == 15) = true := by rw [beq_iff_eq]; omega
  obtain ⟨m, hm⟩ : ∃ m : Nat, r.tk.f3.size = m + 2 := ⟨r.tk.f3.size - 2, by omega⟩
  have x1 : wrap64 ((r.tk.f3.size : Int) - 2) = (m : Int) := by unfold wrap64; omega
  have x2 : wrap64 ((m + 2 : Int) - 2) = (m : Int) := by unfold wrap64; omega
  have x3 : IntKind.i64.wrap (m : Int) = (m : Int) := by rw [IntKind.wrap_i64]; omega
  have x4 : (0 : Int) ≤ (m : Int) ∧ (m : Int) ≤ (m : Int) + 2 := by omega
  have hm2 : r.tk.f3.size - 2 = m := by omega
  rw [hm2]
  have HP := Aside0.mk (show RdAt B O w0 (W.setCell ⟨B, 16, none⟩ (.string (r.tk.f3.extract 0 m))) { r with tk := { r.tk with f3 := r.tk.f3.extract 0 m } } from puts [(16, .string (r.tk.f3.extract 0 m))] (r1 := { r with tk := { r.tk with f3 := r.tk.f3.extract 0 m } }) hrows hblk rfl)
  simp only [cxs]
  clear hblk hrows hl hs
  go_enter Tryd.func79, Tryd.ntmps79
  go_wp2
  go_region_with (fail)
  all_goals
    go_wp2_with (go_at_call 111; (with_reducible refine (end_calls B O w0 _ { r with tk := { r.tk with f3 := r.tk.f3.extract 0 m } } (HP.out.below (Below.drew (below_alloc (Below.refl _ _) _))) HL.out).mono ?_); rintro e w1 ⟨⟨v, rfl⟩, h1⟩; have H1 := Aside0.mk h1; clear h1)
    go_end0
    exact ⟨⟨_, rfl⟩, H1.out⟩
end Go.Proofs.YtfplocpjdjjoaaaDoor.Ctxs
namespace Go.Proofs.YtfplocpjdjjoaaaDoor.Ctxs
open Go Go.RowKit Go.Proofs.YtfplocpjdjjoaaaDoor.PWholeTrailers Go.Proofs.YtfplocpjdjjoaaaDoor.Trail Go.Proofs.YtfplocpjdjjoaaaDoorW.PrintWords
set_option linter.unusedVariables false
set_option linter.unusedSimpArgs false
theorem info94 : (Tryd.prog.info? 94).map (fun i => (i.zero, i.size, i.bytes)) = some (some (.agg #[.string ⟨#[]⟩, .string ⟨#[]⟩]), 2, 32) := by kernel_rfl
theorem putsV {B O : Nat} {w0 W : World} {r1 : Rd} {tv1 pv1 av1 ov : Value} {cs : Array Value} (l : List (Nat × Value)) (hr : Rows B O w0 W r1.tx r1.pe r1.tk.f2 r1.out tv1 pv1 av1 ov) (hb : W.heap[B]? = some (.cells cs 91 (0, 0))) (hc : l.foldl (fun cs p => cs.setIfInBounds p.1 p.2) cs = rcs r1 tv1 pv1 av1 O) : RdV B O w0 (l.foldl (fun W p => W.setCell ⟨B, p.1, none⟩ p.2) W) r1 tv1 pv1 av1 ov := by
  have key : ∀ (l : List (Nat × Value)) (W : World) (cs : Array Value), Below w0.heap.size w0 W → W.heap[B]? = some (.cells cs 91 (0, 0)) → Kept W (l.foldl (fun W p => W.setCell ⟨B, p.1, none⟩ p.2) W) (fun k => k = B) ∧ Below w0.heap.size w0 (l.foldl (fun W p => W.setCell ⟨B, p.1, none⟩ p.2) W) ∧ (l.foldl (fun W p => W.setCell ⟨B, p.1, none⟩ p.2) W).heap[B]? = some (.cells (l.foldl (fun cs p => cs.setIfInBounds p.1 p.2) cs) 91 (0, 0)) := by
    intro l
    induction l with
    | nil => intro W cs h1 h2; exact ⟨Kept.refl _ _, h1, h2⟩
    | cons p l ih =>
      intro W cs h1 h2
      obtain ⟨q1, q2, q3⟩ := ih (W.setCell ⟨B, p.1, none⟩ p.2) (cs.setIfInBounds p.1 p.2) (h1.setCell (p := ⟨B, p.1, none⟩) hr.bB _) (set_blk h2 _)
      exact ⟨((Kept.refl W (fun k => k = B)).setCell (p := ⟨B, p.1, none⟩) (.inl rfl) p.2).then_ q1 (fun k hk => .inl hk), q2, q3⟩
  obtain ⟨q1, q2, q3⟩ := key l W cs hr.bw hb
  rw [hc] at q3
  exact ⟨q3, hr.kept q1 q2 ⟨_, q3⟩⟩
theorem wrapN (m : Nat) (h : m ≤ 1000000000002) : IntKind.i64.wrap (m : Int) = (m : Int) ∧ wrap64 (m : Int) = (m : Int) := ⟨by rw [IntKind.wrap_i64]; omega, by unfold wrap64; omega⟩
/-- The cells of the last of the pairs. -/
theorem last_cells {W : World} {base g m cap : Nat} {ok : Nat → Prop} {xs : List S94} (h : k94.R 94 W base ok (.slice (some ⟨g, 0, none⟩) (m + 1) cap) xs) : W.cell? ⟨g, m * 2, none⟩ = some (.string (xs.getD m ⟨bs [], bs []⟩).f0) ∧ W.cell? ⟨g, m * 2 + 1, none⟩ = some (.string (xs.getD m ⟨bs [], bs []⟩).f1) ∧ (∀ i, W.frozen? ⟨g, i, none⟩ = false) ∧ g < W.heap.size := by
  obtain ⟨c, hcl, hM, hcc, _⟩ := Kd.R_elem h ⟨bs [], bs []⟩ (m : Int) (Int.natCast_nonneg _) (by omega)
  rw [Int.toNat_natCast] at hM hcc
  have hc := k94_openM hM
  obtain ⟨cells, hty⟩ := Kd.R_typed h g rfl
  refine ⟨hcc 0 _ (by rw [hc]; rfl), hcc 1 _ (by rw [hc]; rfl), fun i => Joins.unfrozen_of_block hty i, blk_lt hty⟩
theorem last_set {W : World} {base g m cap : Nat} {ok : Nat → Prop} {xs : List S94} (h : k94.R 94 W base ok (.slice (some ⟨g, 0, none⟩) (m + 1) cap) xs) (j : Nat) (hj : j < 2) (s : ByteArray) (f : S94 → S94) (hf : f (xs.getD m ⟨bs [], bs []⟩) = if j = 0 then ⟨s, (xs.getD m ⟨bs [], bs []⟩).f1⟩ else ⟨(xs.getD m ⟨bs [], bs []⟩).f0, s⟩) : k94.R 94 (W.setCell ⟨g, m * 2 + j, none⟩ (.string s)) base ok (.slice (some ⟨g, 0, none⟩) (m + 1) cap) (lastly xs f) ∧ W.grownBy (W.setCell ⟨g, m * 2 + j, none⟩ (.string s)) (some g) := by
  obtain ⟨c, hcl, hM, hcc, _⟩ := Kd.R_elem h ⟨bs [], bs []⟩ (m : Int) (Int.natCast_nonneg _) (by omega)
  have hn := (Kd.R_reads' h).1
  have e : lastly xs f = xs.set m (f (xs.getD m ⟨bs [], bs []⟩)) := by unfold lastly; rw [show xs.length - 1 = m by omega]
  rw [e]
  have hc := k94_openM hM
  rw [Int.toNat_natCast] at hc
  have hM' : k94.M W base (fun k => ok k ∧ k ≠ g) (f (xs.getD m ⟨bs [], bs []⟩)) (c.take j ++ [.string s] ++ c.drop (j + 1)) := by
    rw [hf, hc]
    rcases j with _ | _ | j
    · exact k94_mkM _ _ _ _
    · exact k94_mkM _ _ _ _
    · omega
  have := Kd.R_seg h (m : Int) (Int.natCast_nonneg _) (by omega) (seg := [.string s]) (j := j) hcl hcc (by simp [k94, Kd.iso, Kd.pair, Kd.string, Kd.scalar]; omega) hM' (fun k hk => hk)
  rw [Int.toNat_natCast] at this
  exact this
theorem RdV.last {B O g m cap : Nat} {w0 W : World} {r r1 : Rd} {tv pv ov : Value} (h : RdV B O w0 W r tv pv (.slice (some ⟨g, 0, none⟩) (m + 1) cap) ov) (j : Nat) (hj : j < 2) (s : ByteArray) (f : S94 → S94) (hf : f (r.tk.f2.getD m ⟨bs [], bs []⟩) = if j = 0 then ⟨s, (r.tk.f2.getD m ⟨bs [], bs []⟩).f1⟩ else ⟨(r.tk.f2.getD m ⟨bs [], bs []⟩).f0, s⟩) (e : r1 = { r with tk := { r.tk with f2 := lastly r.tk.f2 f } }) : RdAt B O w0 (W.setCell ⟨g, m * 2 + j, none⟩ (.string s)) r1 := by
  subst e
  obtain ⟨h1, h2⟩ := last_set h.rows.ats j hj s f hf
  have hbg := Kd.R_base h.rows.ats g rfl
  have hr := h.rows.setats (v1 := .slice (some ⟨g, 0, none⟩) (m + 1) cap) h2 (.inl rfl) h1 (h.rows.bw.setCell (p := ⟨g, m * 2 + j, none⟩) hbg _)
  exact ⟨tv, pv, _, ov, (h2.block B (blk_lt h.blk) h.rows.nB.2.2.2.1).trans h.blk, hr⟩
set_option maxHeartbeats 4000000 in
set_option maxRecDepth 100000 in
theorem tag3 (B O : Nat) (w0 W : World) (r : Rd) (f : Cx) (b : Nat) (hb : b < 256) (h : RdAt B O w0 W r) (hl : (r.out.length + 1) * 64 ≤ 140737488355328) (hs : r.tx.length + r.pe.length + 1 ≤ 1000000000000) (h1 : r.c.st = 3) (h9 : r.tk.f2.length ≤ 1000000000000) : Calls Tryd.prog 80 #[.pointer (some ⟨B, 0, none⟩), .agg (cxs f), .int .u8 (b : Int)] W fun e W' => (∃ v, e = .returned v) ∧ RdAt B O w0 W' (tagM r f.st b) := by
  have e : tagM r f.st b = { r with tk := { r.tk with f1 := bs r.c.nm } } := by simp [tagM, h1]
  rw [e]
  clear e
  have hu33 := Tryd.underlying33
  obtain ⟨tv, pv, av, ov, hblk, hrows⟩ := h
  obtain ⟨A2, c2, e2⟩ := Kd.R_slice hrows.pe
  subst e2
  obtain ⟨A7, c7, e7⟩ := Kd.R_slice hrows.ats
  subst e7
  obtain ⟨y0, y1, y2, y3, y4, y5, y6, y7, y8, y9, y10, y11, y12, y13, y14, y15, y16, y17, y18, yf, ylt⟩ := rcells hblk
  have HBLK := Aside0.mk hblk
  have HR := Aside0.mk hrows
  have HL := Aside0.mk hl
  have HS := Aside0.mk hs
  have HAT := Aside0.mk (show RdAt B O w0 W r from ⟨tv, _, _, ov, hblk, hrows⟩)
  have f3 : ((r.c.st : Int) == 3) = true := by rw [beq_iff_eq]; omega
  simp only [cxs]
  clear hblk hrows hl hs
  go_enter Tryd.func80, Tryd.ntmps80
  go_wp2
  go_end0
  exact ⟨⟨_, rfl⟩, (puts [(14, .string (bs r.c.nm))] (r1 := { r with tk := { r.tk with f1 := bs r.c.nm } }) HR.out HBLK.out rfl).below (below_alloc (Below.refl _ _) _)⟩
set_option maxHeartbeats 4000000 in
set_option maxRecDepth 100000 in
theorem tag0 (B O : Nat) (w0 W : World) (r : Rd) (f : Cx) (b : Nat) (hb : b < 256) (h : RdAt B O w0 W r) (hl : (r.out.length + 1) * 64 ≤ 140737488355328) (hs : r.tx.length + r.pe.length + 1 ≤ 1000000000000) (h1 : r.c.st = 0) (h9 : r.tk.f2.length ≤ 1000000000000) : Calls Tryd.prog 80 #[.pointer (some ⟨B, 0, none⟩), .agg (cxs f), .int .u8 (b : Int)] W fun e W' => (∃ v, e = .returned v) ∧ RdAt B O w0 W' (tagM r f.st b) := by
  have e : tagM r f.st b = fin r := by simp [tagM, h1]
  rw [e]
  clear e
  have hu33 := Tryd.underlying33
  obtain ⟨tv, pv, av, ov, hblk, hrows⟩ := h
  obtain ⟨A2, c2, e2⟩ := Kd.R_slice hrows.pe
  subst e2
  obtain ⟨A7, c7, e7⟩ := Kd.R_slice hrows.ats
  subst e7
  obtain ⟨y0, y1, y2, y3, y4, y5, y6, y7, y8, y9, y10, y11, y12, y13, y14, y15, y16, y17, y18, yf, ylt⟩ := rcells hblk
  have HBLK := Aside0.mk hblk
  have HR := Aside0.mk hrows
  have HL := Aside0.mk hl
  have HS := Aside0.mk hs
  have HAT := Aside0.mk (show RdAt B O w0 W r from ⟨tv, _, _, ov, hblk, hrows⟩)
  have f3 : ((r.c.st : Int) == 3) = false := by rw [beq_eq_false_iff_ne]; omega
  have f5 : ((r.c.st : Int) == 5) = false := by rw [beq_eq_false_iff_ne]; omega
  have f8 : ((r.c.st : Int) == 8) = false := by rw [beq_eq_false_iff_ne]; omega
  have f0 : ((r.c.st : Int) == 0) = true := by rw [beq_iff_eq]; omega
  simp only [cxs]
  clear hblk hrows hl hs
  go_enter Tryd.func80, Tryd.ntmps80
  go_wp2_with (go_at_call 111; (with_reducible refine (end_calls B O w0 _ r (HAT.out.below (below_alloc (Below.refl _ _) _)) HL.out).mono ?_); rintro e w1 ⟨⟨v, rfl⟩, h1⟩; have H1 := Aside0.mk h1; clear h1)
  go_end0
  exact ⟨⟨_, rfl⟩, H1.out⟩
set_option maxHeartbeats 4000000 in
set_option maxRecDepth 100000 in
theorem tag17 (B O : Nat) (w0 W : World) (r : Rd) (f : Cx) (b : Nat) (hb : b < 256) (h : RdAt B O w0 W r) (hl : (r.out.length + 1) * 64 ≤ 140737488355328) (hs : r.tx.length + r.pe.length + 1 ≤ 1000000000000) (h1 : r.c.st = 17) (h9 : r.tk.f2.length ≤ 1000000000000) : Calls Tryd.prog 80 #[.pointer (some ⟨B, 0, none⟩), .agg (cxs f), .int .u8 (b : Int)] W fun e W' => (∃ v, e = .returned v) ∧ RdAt B O w0 W' (tagM r f.st b) := by
  have e : tagM r f.st b = fin r := by simp [tagM, h1]
  rw [e]
  clear e
  have hu33 := Tryd.underlying33
  obtain ⟨tv, pv, av, ov, hblk, hrows⟩ := h
  obtain ⟨A2, c2, e2⟩ := Kd.R_slice hrows.pe
  subst e2
  obtain ⟨A7, c7, e7⟩ := Kd.R_slice hrows.ats
  subst e7
  obtain ⟨y0, y1, y2, y3, y4, y5, y6, y7, y8, y9, y10, y11, y12, y13, y14, y15, y16, y17, y18, yf, ylt⟩ := rcells hblk
  have HBLK := Aside0.mk hblk
  have HR := Aside0.mk hrows
  have HL := Aside0.mk hl
  have HS := Aside0.mk hs
  have HAT := Aside0.mk (show RdAt B O w0 W r from ⟨tv, _, _, ov, hblk, hrows⟩)
  have f3 : ((r.c.st : Int) == 3) = false := by rw [beq_eq_false_iff_ne]; omega
  have f5 : ((r.c.st : Int) == 5) = false := by rw [beq_eq_false_iff_ne]; omega
  have f8 : ((r.c.st : Int) == 8) = false := by rw [beq_eq_false_iff_ne]; omega
  have f0 : ((r.c.st : Int) == 0) = false := by rw [beq_eq_false_iff_ne]; omega
  have f17 : ((r.c.st : Int) == 17) = true := by rw [beq_iff_eq]; omega
  simp only [cxs]
  clear hblk hrows hl hs
  go_enter Tryd.func80, Tryd.ntmps80
  go_wp2_with (go_at_call 111; (with_reducible refine (end_calls B O w0 _ r (HAT.out.below (below_alloc (Below.refl _ _) _)) HL.out).mono ?_); rintro e w1 ⟨⟨v, rfl⟩, h1⟩; have H1 := Aside0.mk h1; clear h1)
  go_end0
  exact ⟨⟨_, rfl⟩, H1.out⟩
set_option maxHeartbeats 4000000 in
set_option maxRecDepth 100000 in
theorem tagNo (B O : Nat) (w0 W : World) (r : Rd) (f : Cx) (b : Nat) (hb : b < 256) (h : RdAt B O w0 W r) (hl : (r.out.length + 1) * 64 ≤ 140737488355328) (hs : r.tx.length + r.pe.length + 1 ≤ 1000000000000) (h1 : r.c.st ≠ 3 ∧ r.c.st ≠ 5 ∧ r.c.st ≠ 8 ∧ r.c.st ≠ 0 ∧ r.c.st ≠ 17) (h9 : r.tk.f2.length ≤ 1000000000000) : Calls Tryd.prog 80 #[.pointer (some ⟨B, 0, none⟩), .agg (cxs f), .int .u8 (b : Int)] W fun e W' => (∃ v, e = .returned v) ∧ RdAt B O w0 W' (tagM r f.st b) := by
  have e : tagM r f.st b = r := by simp [tagM, h1]
  rw [e]
  clear e
  have hu33 := Tryd.underlying33
  obtain ⟨tv, pv, av, ov, hblk, hrows⟩ := h
  obtain ⟨A2, c2, e2⟩ := Kd.R_slice hrows.pe
  subst e2
  obtain ⟨A7, c7, e7⟩ := Kd.R_slice hrows.ats
  subst e7
  obtain ⟨y0, y1, y2, y3, y4, y5, y6, y7, y8, y9, y10, y11, y12, y13, y14, y15, y16, y17, y18, yf, ylt⟩ := rcells hblk
  have HBLK := Aside0.mk hblk
  have HR := Aside0.mk hrows
  have HL := Aside0.mk hl
  have HS := Aside0.mk hs
  have HAT := Aside0.mk (show RdAt B O w0 W r from ⟨tv, _, _, ov, hblk, hrows⟩)
  have f3 : ((r.c.st : Int) == 3) = false := by rw [beq_eq_false_iff_ne]; omega
  have f5 : ((r.c.st : Int) == 5) = false := by rw [beq_eq_false_iff_ne]; omega
  have f8 : ((r.c.st : Int) == 8) = false := by rw [beq_eq_false_iff_ne]; omega
  have f0 : ((r.c.st : Int) == 0) = false := by rw [beq_eq_false_iff_ne]; omega
  have f17 : ((r.c.st : Int) == 17) = false := by rw [beq_eq_false_iff_ne]; omega
  simp only [cxs]
  clear hblk hrows hl hs
  go_enter Tryd.func80, Tryd.ntmps80
  go_wp2
  go_end0
  exact ⟨⟨_, rfl⟩, HAT.out.below (below_alloc (Below.refl _ _) _)⟩
set_option maxHeartbeats 4000000 in
set_option maxRecDepth 100000 in
theorem tag8n (B O : Nat) (w0 W : World) (r : Rd) (f : Cx) (b : Nat) (hb : b < 256) (h : RdAt B O w0 W r) (hl : (r.out.length + 1) * 64 ≤ 140737488355328) (hs : r.tx.length + r.pe.length + 1 ≤ 1000000000000) (h1 : r.c.st = 8) (h2 : f.st ≠ 8) (h3 : r.c.qu ≠ 0) (h9 : r.tk.f2.length ≤ 1000000000000) : Calls Tryd.prog 80 #[.pointer (some ⟨B, 0, none⟩), .agg (cxs f), .int .u8 (b : Int)] W fun e W' => (∃ v, e = .returned v) ∧ RdAt B O w0 W' (tagM r f.st b) := by
  have e : tagM r f.st b = r := by simp [tagM, h1, h2, h3]
  rw [e]
  clear e
  have hu33 := Tryd.underlying33
  obtain ⟨tv, pv, av, ov, hblk, hrows⟩ := h
  obtain ⟨A2, c2, e2⟩ := Kd.R_slice hrows.pe
  subst e2
  obtain ⟨A7, c7, e7⟩ := Kd.R_slice hrows.ats
  subst e7
  obtain ⟨y0, y1, y2, y3, y4, y5, y6, y7, y8, y9, y10, y11, y12, y13, y14, y15, y16, y17, y18, yf, ylt⟩ := rcells hblk
  have HBLK := Aside0.mk hblk
  have HR := Aside0.mk hrows
  have HL := Aside0.mk hl
  have HS := Aside0.mk hs
  have HAT := Aside0.mk (show RdAt B O w0 W r from ⟨tv, _, _, ov, hblk, hrows⟩)
  have f3 : ((r.c.st : Int) == 3) = false := by rw [beq_eq_false_iff_ne]; omega
  have f5 : ((r.c.st : Int) == 5) = false := by rw [beq_eq_false_iff_ne]; omega
  have f8 : ((r.c.st : Int) == 8) = true := by rw [beq_iff_eq]; omega
  have k8 : ((f.st : Int) == 8) = false := by rw [beq_eq_false_iff_ne]; omega
  have q0 : ((r.c.qu : Int) == 0) = false := by rw [beq_eq_false_iff_ne]; omega
  simp only [cxs]
  clear hblk hrows hl hs
  go_enter Tryd.func80, Tryd.ntmps80
  go_wp2
  go_end0
  exact ⟨⟨_, rfl⟩, HAT.out.below (below_alloc (Below.refl _ _) _)⟩
set_option maxHeartbeats 4000000 in
set_option maxRecDepth 100000 in
theorem tag5b (B O : Nat) (w0 W : World) (r : Rd) (f : Cx) (b : Nat) (hb : b < 256) (h : RdAt B O w0 W r) (hl : (r.out.length + 1) * 64 ≤ 140737488355328) (hs : r.tx.length + r.pe.length + 1 ≤ 1000000000000) (h1 : r.c.st = 5) (h2 : f.st = 5) (h5 : 1 ≤ r.tk.f2.length) (h9 : r.tk.f2.length ≤ 1000000000000) : Calls Tryd.prog 80 #[.pointer (some ⟨B, 0, none⟩), .agg (cxs f), .int .u8 (b : Int)] W fun e W' => (∃ v, e = .returned v) ∧ RdAt B O w0 W' (tagM r f.st b) := by
  have e : tagM r f.st b = { r with tk := { r.tk with f2 := lastly r.tk.f2 fun x => { x with f0 := bs r.c.nm } } } := by simp [tagM, h1, h2]
  rw [e]
  clear e
  have hu33 := Tryd.underlying33
  obtain ⟨tv, pv, av, ov, hblk, hrows⟩ := h
  obtain ⟨A2, c2, e2⟩ := Kd.R_slice hrows.pe
  subst e2
  obtain ⟨m, hm⟩ : ∃ m : Nat, r.tk.f2.length = m + 1 := ⟨r.tk.f2.length - 1, by omega⟩
  obtain ⟨g, c7, e7, hgb, hgl, -⟩ := Kd.R_form hrows.ats (by omega)
  rw [hm] at e7
  subst e7
  obtain ⟨q0, q1, qf, qlt⟩ := last_cells hrows.ats
  obtain ⟨y0, y1, y2, y3, y4, y5, y6, y7, y8, y9, y10, y11, y12, y13, y14, y15, y16, y17, y18, yf, ylt⟩ := rcells hblk
  have HBLK := Aside0.mk hblk
  have HR := Aside0.mk hrows
  have HL := Aside0.mk hl
  have HS := Aside0.mk hs
  have HAT := Aside0.mk (show RdAt B O w0 W r from ⟨tv, _, _, ov, hblk, hrows⟩)
  have f3 : ((r.c.st : Int) == 3) = false := by rw [beq_eq_false_iff_ne]; omega
  have f5 : ((r.c.st : Int) == 5) = true := by rw [beq_iff_eq]; omega
  have k5 : ((f.st : Int) != 5) = false := by simp [h2]
  obtain ⟨x3, x1⟩ := wrapN m (by omega)
  have x4 : (0 : Int) ≤ (m : Int) ∧ (m : Int) < (m : Int) + 1 := ⟨Int.natCast_nonneg m, Int.lt_succ _⟩
  have HV := Aside0.mk (RdV.mk hblk hrows)
  simp only [cxs]
  clear hblk hrows hl hs
  go_enter Tryd.func80, Tryd.ntmps80
  go_wp2
  go_region_with (fail)
  all_goals
    go_wp2
    go_end0
    exact ⟨⟨_, rfl⟩, (RdV.last HV.out 0 (by decide) (bs r.c.nm) (fun x => { x with f0 := bs r.c.nm }) rfl rfl).below (Below.drew (below_alloc (Below.refl _ _) _))⟩
set_option maxHeartbeats 4000000 in
set_option maxRecDepth 100000 in
theorem tag8a (B O : Nat) (w0 W : World) (r : Rd) (f : Cx) (b : Nat) (hb : b < 256) (h : RdAt B O w0 W r) (hl : (r.out.length + 1) * 64 ≤ 140737488355328) (hs : r.tx.length + r.pe.length + 1 ≤ 1000000000000) (h1 : r.c.st = 8) (h2 : f.st = 8) (h5 : 1 ≤ r.tk.f2.length) (h7 : ∀ x ∈ r.tk.f2, x.f1.size ≤ 1000000000000) (h9 : r.tk.f2.length ≤ 1000000000000) : Calls Tryd.prog 80 #[.pointer (some ⟨B, 0, none⟩), .agg (cxs f), .int .u8 (b : Int)] W fun e W' => (∃ v, e = .returned v) ∧ RdAt B O w0 W' (tagM r f.st b) := by
  have e : tagM r f.st b = { r with tk := { r.tk with f2 := lastly r.tk.f2 fun x => { x with f1 := x.f1 ++ bs [b] } } } := by simp [tagM, h1, h2]
  rw [e]
  clear e
  have hu33 := Tryd.underlying33
  obtain ⟨tv, pv, av, ov, hblk, hrows⟩ := h
  obtain ⟨A2, c2, e2⟩ := Kd.R_slice hrows.pe
  subst e2
  obtain ⟨m, hm⟩ : ∃ m : Nat, r.tk.f2.length = m + 1 := ⟨r.tk.f2.length - 1, by omega⟩
  obtain ⟨g, c7, e7, hgb, hgl, -⟩ := Kd.R_form hrows.ats (by omega)
  rw [hm] at e7
  subst e7
  obtain ⟨q0, q1, qf, qlt⟩ := last_cells hrows.ats
  obtain ⟨y0, y1, y2, y3, y4, y5, y6, y7, y8, y9, y10, y11, y12, y13, y14, y15, y16, y17, y18, yf, ylt⟩ := rcells hblk
  have HBLK := Aside0.mk hblk
  have HR := Aside0.mk hrows
  have HL := Aside0.mk hl
  have HS := Aside0.mk hs
  have HAT := Aside0.mk (show RdAt B O w0 W r from ⟨tv, _, _, ov, hblk, hrows⟩)
  have f3 : ((r.c.st : Int) == 3) = false := by rw [beq_eq_false_iff_ne]; omega
  have f5 : ((r.c.st : Int) == 5) = false := by rw [beq_eq_false_iff_ne]; omega
  have f8 : ((r.c.st : Int) == 8) = true := by rw [beq_iff_eq]; omega
  have k8 : ((f.st : Int) == 8) = true := by rw [beq_iff_eq]; omega
  have u0 : (bs [b]).size = 1 := bs_size _
  obtain ⟨fv, hfv⟩ : ∃ fv, fv = (r.tk.f2.getD m ⟨bs [], bs []⟩).f1 := ⟨_, rfl⟩
  have hsz : fv.size ≤ 1000000000000 := by
    rw [hfv, List.getD_eq_getElem?_getD, List.getElem?_eq_getElem (by omega)]
    exact h7 _ (List.getElem_mem _)
  rw [← hfv] at q1
  have u1 : ¬ 9223372036854775807 < fv.size + (bs [b]).size := by omega
  have u2 : ¬ 9223372036854775807 < fv.size + 1 := by omega
  have hcv := one_conv (V := ((W.alloc (.cells #[.int .u8 (f.st : Int), .int .u8 (f.el : Int), .bool f.en, .int .u8 (f.ak : Int), .int .u8 (f.qu : Int), .int .u8 (f.pa : Int), .int .u8 (f.su : Int), .bool f.es, .int .u8 (f.da : Int), .string (bs f.nm)] 33)).alloc (.cells #[.int .u8 (b : Int)] 5)).drew) (g := W.heap.size + 1) (x := b) (cell_last (W.alloc _) _ _ _ _ (by rw [alloc_size]))
  obtain ⟨x3, x1⟩ := wrapN m (by omega)
  have x4 : (0 : Int) ≤ (m : Int) ∧ (m : Int) < (m : Int) + 1 := ⟨Int.natCast_nonneg m, Int.lt_succ _⟩
  have HV := Aside0.mk (RdV.mk hblk hrows)
  have HFV := Aside0.mk hfv
  clear hfv hsz h7
  simp only [cxs]
  clear hblk hrows hl hs h1 h2
  go_enter Tryd.func80, Tryd.ntmps80
  go_wp2
  go_region_with (fail)
  all_goals
    go_wp2
    go_end0
    exact ⟨⟨_, rfl⟩, (RdV.last HV.out 1 (by decide) (fv ++ bs [b]) (fun x => { x with f1 := x.f1 ++ bs [b] }) (by rw [HFV.out]; rfl) rfl).below (Below.drew (below_alloc (below_alloc (Below.refl _ _) _) _))⟩
set_option maxHeartbeats 4000000 in
set_option maxRecDepth 100000 in
theorem tag8b (B O : Nat) (w0 W : World) (r : Rd) (f : Cx) (b : Nat) (hb : b < 256) (h : RdAt B O w0 W r) (hl : (r.out.length + 1) * 64 ≤ 140737488355328) (hs : r.tx.length + r.pe.length + 1 ≤ 1000000000000) (h1 : r.c.st = 8) (h2 : f.st ≠ 8) (h3 : r.c.qu = 0) (h5 : 1 ≤ r.tk.f2.length) (h7 : ∀ x ∈ r.tk.f2, x.f1.size ≤ 1000000000000) (h9 : r.tk.f2.length ≤ 1000000000000) : Calls Tryd.prog 80 #[.pointer (some ⟨B, 0, none⟩), .agg (cxs f), .int .u8 (b : Int)] W fun e W' => (∃ v, e = .returned v) ∧ RdAt B O w0 W' (tagM r f.st b) := by
  have e : tagM r f.st b = { r with tk := { r.tk with f2 := lastly r.tk.f2 fun x => { x with f1 := x.f1 ++ bs [b] } } } := by simp [tagM, h1, h2, h3]
  rw [e]
  clear e
  have hu33 := Tryd.underlying33
  obtain ⟨tv, pv, av, ov, hblk, hrows⟩ := h
  obtain ⟨A2, c2, e2⟩ := Kd.R_slice hrows.pe
  subst e2
  obtain ⟨m, hm⟩ : ∃ m : Nat, r.tk.f2.length = m + 1 := ⟨r.tk.f2.length - 1, by omega⟩
  obtain ⟨g, c7, e7, hgb, hgl, -⟩ := Kd.R_form hrows.ats (by omega)
  rw [hm] at e7
  subst e7
  obtain ⟨q0, q1, qf, qlt⟩ := last_cells hrows.ats
  obtain ⟨y0, y1, y2, y3, y4, y5, y6, y7, y8, y9, y10, y11, y12, y13, y14, y15, y16, y17, y18, yf, ylt⟩ := rcells hblk
  have HBLK := Aside0.mk hblk
  have HR := Aside0.mk hrows
  have HL := Aside0.mk hl
  have HS := Aside0.mk hs
  have HAT := Aside0.mk (show RdAt B O w0 W r from ⟨tv, _, _, ov, hblk, hrows⟩)
  have f3 : ((r.c.st : Int) == 3) = false := by rw [beq_eq_false_iff_ne]; omega
  have f5 : ((r.c.st : Int) == 5) = false := by rw [beq_eq_false_iff_ne]; omega
  have f8 : ((r.c.st : Int) == 8) = true := by rw [beq_iff_eq]; omega
  have k8 : ((f.st : Int) == 8) = false := by rw [beq_eq_false_iff_ne]; omega
  have w0q : ((r.c.qu : Int) == 0) = true := by rw [beq_iff_eq]; omega
  have u0 : (bs [b]).size = 1 := bs_size _
  obtain ⟨fv, hfv⟩ : ∃ fv, fv = (r.tk.f2.getD m ⟨bs [], bs []⟩).f1 := ⟨_, rfl⟩
  have hsz : fv.size ≤ 1000000000000 := by
    rw [hfv, List.getD_eq_getElem?_getD, List.getElem?_eq_getElem (by omega)]
    exact h7 _ (List.getElem_mem _)
  rw [← hfv] at q1
  have u1 : ¬ 9223372036854775807 < fv.size + (bs [b]).size := by omega
  have u2 : ¬ 9223372036854775807 < fv.size + 1 := by omega
  have hcv := one_conv (V := ((W.alloc (.cells #[.int .u8 (f.st : Int), .int .u8 (f.el : Int), .bool f.en, .int .u8 (f.ak : Int), .int .u8 (f.qu : Int), .int .u8 (f.pa : Int), .int .u8 (f.su : Int), .bool f.es, .int .u8 (f.da : Int), .string (bs f.nm)] 33)).alloc (.cells #[.int .u8 (b : Int)] 5)).drew) (g := W.heap.size + 1) (x := b) (cell_last (W.alloc _) _ _ _ _ (by rw [alloc_size]))
  obtain ⟨x3, x1⟩ := wrapN m (by omega)
  have x4 : (0 : Int) ≤ (m : Int) ∧ (m : Int) < (m : Int) + 1 := ⟨Int.natCast_nonneg m, Int.lt_succ _⟩
  have HV := Aside0.mk (RdV.mk hblk hrows)
  have HFV := Aside0.mk hfv
  clear hfv hsz h7
  simp only [cxs]
  clear hblk hrows hl hs h1 h2 h3
  go_enter Tryd.func80, Tryd.ntmps80
  go_wp2
  go_region_with (fail)
  all_goals
    go_wp2
    go_end0
    exact ⟨⟨_, rfl⟩, (RdV.last HV.out 1 (by decide) (fv ++ bs [b]) (fun x => { x with f1 := x.f1 ++ bs [b] }) (by rw [HFV.out]; rfl) rfl).below (Below.drew (below_alloc (below_alloc (Below.refl _ _) _) _))⟩
end Go.Proofs.YtfplocpjdjjoaaaDoor.Ctxs
