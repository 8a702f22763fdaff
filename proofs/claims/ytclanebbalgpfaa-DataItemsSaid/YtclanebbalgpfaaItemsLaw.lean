/-
  The walk of the law DataItems: it returns true and leaves what was there as it was. Conditions: as the theorem says.
-/
import Derived.Test.YtclanebbalgpfaaItems
import Derived.Deep.RegionHeldLaw
import Derived.Lib.SmallJoins
namespace Go.Proofs.Ytclanebbalgpfaa.Items
open Go.RowKit Go.Shelf Go.Proofs.YtclanebbalgpfaaW.PrintWords Go.Proofs.YtclanebbalgpfaaW.PrintLast Go.Proofs.YtclanebbalgpfaaW.PrintMore Go.Proofs.Ytclanebbalgpfaa.PDataGrows
attribute [local go_sem] Oper.semAt_some max2_int min2_int
set_option linter.unusedVariables false
set_option linter.unusedSimpArgs false

theorem iter_stops (n : Nat) (hn : 1 ≤ n) (Bd Bi : Nat) (A0 : Option Addr) (c0 : Nat) (d : List S49) (i : Int) (w0 w : World) (hd : Kd.C k49 w0 A0 d.length d) (hw : Below w0.heap.size w0 w) (hBd : w.cell? ⟨Bd, 0, none⟩ = some (.slice A0 d.length c0)) (hBi : w.cell? ⟨Bi, 0, none⟩ = some (.int .i64 i)) (hmx : (itemsM d i).length ≤ 140737488351232) :
    SeqStopsK Fence.wide n Try.prog 26 #[.pointer (some ⟨Bd, 0, none⟩), .pointer (some ⟨Bi, 0, none⟩)] (fun x : Nat × Int => #[Value.int .i64 (x.1 : Int), Value.int .i64 x.2]) (Below w0.heap.size)
      (fun ys => ys = upto (itemsM d i) (itemsM d i).length) (fun pre => ∃ k, k ≤ (itemsM d i).length ∧ pre = upto (itemsM d i) k) (itemsM d i).length w := fun l J Jx W hW _ _ hY h0 =>
  iter_in n hn l Bd Bi A0 c0 d i w0 hd J Jx hY W (hw.trans (hW.mono hw.size)) ((hW.cell (World.block_lt_of_cell? w _ hBd)).trans hBd) ((hW.cell (World.block_lt_of_cell? w _ hBi)).trans hBi) h0 hmx

def Good (xs : List Int) (pre : List (Nat × Int)) : Prop := pre = upto xs pre.length ∧ pre.length ≤ xs.length
theorem good_upto (xs : List Int) {k : Nat} (h : k ≤ xs.length) : Good xs (upto xs k) := ⟨by rw [upto_length], by rw [upto_length]; exact h⟩
theorem good_nil (xs : List Int) : Good xs [] := ⟨rfl, Nat.zero_le _⟩
theorem good_snoc {xs : List Int} {pre : List (Nat × Int)} (h : Good xs pre) (x : Nat × Int) : Good xs (pre ++ [x]) ↔ x.1 = pre.length ∧ pre.length < xs.length ∧ x.2 = rd xs (pre.length : Int) := by
  obtain ⟨h1, h2⟩ := h
  unfold Good
  rw [List.length_append, show ([x] : List (Nat × Int)).length = 1 from rfl, upto_succ, ← h1]
  constructor
  · rintro ⟨h3, h4⟩
    have h5 := List.append_cancel_left h3
    injection h5 with h6 _
    subst h6
    exact ⟨rfl, by omega, rfl⟩
  · rintro ⟨h3, h4, h5⟩
    obtain ⟨a, b⟩ := x
    dsimp only at h3 h5
    subst h3
    subst h5
    exact ⟨rfl, by omega⟩

/-- The boxes of the law's variables. -/
def Bx (W : World) (b5 b6 M st : Nat) (Aw : Option Addr) (xl cw : Nat) (A0 : Option Addr) (dl c0 : Nat) (i : Int) (nv : Nat) : Prop :=
  W.cell? ⟨b5, 0, none⟩ = some (.int .u8 (st : Int)) ∧ (W.cell? ⟨b6, 0, none⟩ = some (.bool false) ∧ W.frozen? ⟨b6, 0, none⟩ = false) ∧ W.cell? ⟨M, 0, none⟩ = some (.slice Aw xl cw) ∧ W.cell? ⟨M + 1, 0, none⟩ = some (.slice A0 dl c0) ∧ W.cell? ⟨M + 1 + 1, 0, none⟩ = some (.int .i64 i) ∧
    W.cell? ⟨M + 1 + 1 + 1, 0, none⟩ = some (.int .i64 (nv : Int)) ∧ W.frozen? ⟨M + 1 + 1 + 1, 0, none⟩ = false
theorem Bx.kept {W W' : World} {b5 b6 M st : Nat} {Aw : Option Addr} {xl cw : Nat} {A0 : Option Addr} {dl c0 : Nat} {i : Int} {nv : Nat} {row : Option Nat} (h : Bx W b5 b6 M st Aw xl cw A0 dl c0 i nv) (hg : W.grownBy W' row) (hr : ∀ r, row = some r → ∃ o : Obj, W.heap[r]? = some o ∧ o.isCells = false) : Bx W' b5 b6 M st Aw xl cw A0 dl c0 i nv := by
  obtain ⟨h1, ⟨h2, h3⟩, h4, h5, h6, h7, h8⟩ := h
  exact ⟨cell_kept h1 hg hr, ⟨cell_kept h2 hg hr, (frozen_kept h2 hg hr).trans h3⟩, cell_kept h4 hg hr, cell_kept h5 hg hr, cell_kept h6 hg hr, cell_kept h7 hg hr, (frozen_kept h7 hg hr).trans h8⟩
theorem Bx.store {W : World} {b5 b6 M st : Nat} {Aw : Option Addr} {xl cw : Nat} {A0 : Option Addr} {dl c0 : Nat} {i : Int} {nv : Nat} (h : Bx W b5 b6 M st Aw xl cw A0 dl c0 i nv) (h5 : b5 < M) (h6 : b6 < M) (nv' : Nat) : Bx (W.setCell ⟨M + 1 + 1 + 1, 0, none⟩ (.int .i64 (nv' : Int))) b5 b6 M st Aw xl cw A0 dl c0 i nv' := by
  obtain ⟨g1, ⟨g2, g3⟩, g4, g5, g6, g7, g8⟩ := h
  refine ⟨(World.cell?_setCell_far _ _ _ _ (by show M + 1 + 1 + 1 ≠ b5; omega)).trans g1, ⟨(World.cell?_setCell_far _ _ _ _ (by show M + 1 + 1 + 1 ≠ b6; omega)).trans g2, by rw [World.frozen?_setCell]; exact g3⟩, (World.cell?_setCell_far _ _ _ _ (by show M + 1 + 1 + 1 ≠ M; omega)).trans g4, (World.cell?_setCell_far _ _ _ _ (by show M + 1 + 1 + 1 ≠ M + 1; omega)).trans g5,
    (World.cell?_setCell_far _ _ _ _ (by show M + 1 + 1 + 1 ≠ M + 1 + 1; omega)).trans g6, World.cell?_setCell_same' _ _ _ (by rw [g7]; rfl), by rw [World.frozen?_setCell]; exact g8⟩
theorem Bx.far {W : World} {b5 b6 M st : Nat} {Aw : Option Addr} {xl cw : Nat} {A0 : Option Addr} {dl c0 : Nat} {i : Int} {nv E : Nat} (h : Bx W b5 b6 M st Aw xl cw A0 dl c0 i nv) (h5 : b5 < M) (h6 : b6 < M) (hE : M + 1 + 1 + 1 < E) (v : Value) : Bx (W.setCell ⟨E, 0, none⟩ v) b5 b6 M st Aw xl cw A0 dl c0 i nv := by
  obtain ⟨g1, ⟨g2, g3⟩, g4, g5, g6, g7, g8⟩ := h
  exact ⟨(World.cell?_setCell_far _ _ _ _ (by show E ≠ b5; omega)).trans g1, ⟨(World.cell?_setCell_far _ _ _ _ (by show E ≠ b6; omega)).trans g2, by rw [World.frozen?_setCell]; exact g3⟩, (World.cell?_setCell_far _ _ _ _ (by show E ≠ M; omega)).trans g4, (World.cell?_setCell_far _ _ _ _ (by show E ≠ M + 1; omega)).trans g5,
    (World.cell?_setCell_far _ _ _ _ (by show E ≠ M + 1 + 1; omega)).trans g6, (World.cell?_setCell_far _ _ _ _ (by show E ≠ M + 1 + 1 + 1; omega)).trans g7, by rw [World.frozen?_setCell]; exact g8⟩
theorem ownFrom_block {β : Type} {D B : Nat} {o : Obj} (h : D < B) : OwnFrom B (fun (_ : β) W => W.heap[D]? = some o) :=
  fun _ W _ row hs hg hr => (hg.block D (Array.getElem?_eq_some_iff.1 hs).1 (fun e => by have := (hr D e.symm).1; omega)).trans hs
theorem box_cell {W : World} {B : Nat} {v : Value} {t : TypeId} (h : W.heap[B]? = some (.cells #[v] t (0, 0))) : W.cell? ⟨B, 0, none⟩ = some v ∧ W.frozen? ⟨B, 0, none⟩ = false := by
  constructor <;> simp [World.cell?, World.frozen?, h]
theorem alloc_size (w : World) (o : Obj) : (w.alloc o).heap.size = w.heap.size + 1 := by show (w.heap.push o).size = _; simp
theorem alloc_last (w : World) (o : Obj) : (w.alloc o).heap[w.heap.size]? = some o := by show (w.heap.push o)[w.heap.size]? = _; simp
theorem alloc_last' (w : World) (o : Obj) {m : Nat} (h : m = w.heap.size) : (w.alloc o).heap[m]? = some o := by subst h; exact alloc_last w o
theorem alloc_old (w : World) (o : Obj) {k : Nat} {x : Obj} (h : w.heap[k]? = some x) : (w.alloc o).heap[k]? = some x := (Below.heap_alloc w o k (Array.getElem?_eq_some_iff.1 h).1).trans h
theorem min_if {x y m : Nat} (h : m = min x y) : (if (y : Int) < (x : Int) then (y : Int) else (x : Int)) = m := by split <;> omega
theorem min_if' {x y m : Nat} (h : m = min x y) : (if y < x then (y : Int) else (x : Int)) = m := by split <;> omega
theorem big_one {a : Nat} (h : a ≤ 1000000000000000) : wrap64 ((a : Int) + 1) = ((a + 1 : Nat) : Int) := by unfold wrap64; omega

set_option maxHeartbeats 8000000 in
set_option maxRecDepth 100000 in
theorem law.calls (A0 : Option Addr) (c0 : Nat) (d : List S49) (i stop : Int) (r : Bool) (w : World) (hd : Kd.C k49 w A0 d.length d) (hc0 : d.length ≤ c0)
    (h : (∃ k, bobbinlaw17_awake.f k = some true) ∧ (inr d i = true → 0 ≤ (rd_T49 d i).f0 ∧ (rd_T49 d i).f0 ≤ 255) ∧ (itemsM d i).length ≤ 140737488351232 ∧ 0 ≤ stop ∧ stop ≤ 255) :
    Calls Try.prog 5 #[.slice A0 d.length c0, .int .i64 i, .int .u8 stop] w fun e w' => e = .returned (.bool true) ∧ Below w.heap.size w w' := by
  obtain ⟨⟨ka, ha⟩, hf, hmx, hs0, hs1⟩ := h
  have HD := Aside0.mk hd
  have HA := Aside0.mk ha
  have HF := Aside0.mk hf
  have HMX := Aside0.mk hmx
  obtain ⟨st, rfl⟩ : ∃ st : Nat, stop = st := ⟨stop.toNat, (Int.toNat_of_nonneg hs0).symm⟩
  have HS := Aside0.mk (show st ≤ 255 by omega)
  clear hd hc0 ha hf hmx hs0 hs1
  refine (callsIn_wide (n := 6)).1 ?_
  refine callsIn_of_wp_marks Try.func5 rfl trivial ?_ rfl
  simp only [Try.ntmps5, List.size_toArray, List.length_cons, List.length_nil, Nat.reduceAdd, Nat.reduceSub, Array.replicate_succ, Array.replicate_zero, List.push_toArray, List.append_toArray, List.nil_append, List.cons_append]
  gi_wp2_with (first
    | (refine ⟨trivial, ?_⟩; gi_at_call 11; refine (callsIn_wide.2 (bobbinlaw17_awake.calls ka true _ HA.out)).mono ?_; rintro e w2 ⟨rfl, hb2⟩; have HB2 := Aside0.mk (below_step (below_alloc (below_alloc (Below.refl w.heap.size w) _) _) hb2); have HBX := Aside0.mk hb2; clear hb2)
    | (refine ⟨trivial, ?_⟩; gi_at_call 16; refine (callsIn_wide.2 (ref_calls A0 c0 d i w _ HD.out HB2.out HF.out)).mono ?_; rintro e w3 ⟨rfl, Aw, cw, rfl, hw⟩; have HW := Aside0.mk hw; clear hw)
    | (refine ⟨trivial, ?_⟩; gi_at_call 17; refine (callsIn_wide.2 (items_calls A0 c0 d i _)).mono ?_; rintro e w4 ⟨rfl, rfl⟩))
  obtain ⟨xs, hxs⟩ : ∃ xs, xs = itemsM d i := ⟨_, rfl⟩
  have HXS := Aside0.mk hxs
  rw [← hxs] at HW HMX ⊢
  clear hxs
  have k5 := HBX.out.block w.heap.size (by rw [alloc_size, alloc_size]; omega)
  rw [alloc_old (w.alloc (.cells #[.int .u8 (st : Int)] 5)) (.cells #[.bool false] 4) (alloc_last w _)] at k5
  have k6 := (HBX.out.block (w.heap.size + 1) (by rw [alloc_size, alloc_size]; omega)).trans (alloc_last' (w.alloc (.cells #[.int .u8 (st : Int)] 5)) (.cells #[.bool false] 4) (by rw [alloc_size]))
  have hM : w.heap.size + 1 < w2.heap.size := by have := HBX.out.size; rw [alloc_size, alloc_size] at this; omega
  obtain ⟨b5, hb5⟩ : ∃ b5, b5 = w.heap.size := ⟨_, rfl⟩
  obtain ⟨b6, hb6⟩ : ∃ b6, b6 = w.heap.size + 1 := ⟨_, rfl⟩
  rw [← hb5] at k5
  rw [← hb6] at k6 hM
  have j5 := alloc_old _ (.cells #[.int .i64 0] 3) (alloc_old _ (.cells #[.int .i64 i] 3) (alloc_old _ (.cells #[.slice A0 d.length c0] 22) (alloc_old _ (.cells #[.slice Aw xs.length cw] 27) k5)))
  have j6 := alloc_old _ (.cells #[.int .i64 0] 3) (alloc_old _ (.cells #[.int .i64 i] 3) (alloc_old _ (.cells #[.slice A0 d.length c0] 22) (alloc_old _ (.cells #[.slice Aw xs.length cw] 27) k6)))
  have j7 := alloc_old _ (.cells #[.int .i64 0] 3) (alloc_old _ (.cells #[.int .i64 i] 3) (alloc_old _ (.cells #[.slice A0 d.length c0] 22) (alloc_last w2 (.cells #[.slice Aw xs.length cw] 27))))
  have j8 := alloc_old _ (.cells #[.int .i64 0] 3) (alloc_old _ (.cells #[.int .i64 i] 3) (alloc_last' (w2.alloc (.cells #[.slice Aw xs.length cw] 27)) (.cells #[.slice A0 d.length c0] 22) (m := w2.heap.size + 1) (by rw [alloc_size])))
  have j9 := alloc_old _ (.cells #[.int .i64 0] 3) (alloc_last' ((w2.alloc (.cells #[.slice Aw xs.length cw] 27)).alloc (.cells #[.slice A0 d.length c0] 22)) (.cells #[.int .i64 i] 3) (m := w2.heap.size + 1 + 1) (by rw [alloc_size, alloc_size]))
  have j10 := alloc_last' (((w2.alloc (.cells #[.slice Aw xs.length cw] 27)).alloc (.cells #[.slice A0 d.length c0] 22)).alloc (.cells #[.int .i64 i] 3)) (.cells #[.int .i64 0] 3) (m := w2.heap.size + 1 + 1 + 1) (by rw [alloc_size, alloc_size, alloc_size])
  have HBA := Aside0.mk (below_alloc (below_alloc (below_alloc (below_alloc HB2.out (.cells #[.slice Aw xs.length cw] 27)) (.cells #[.slice A0 d.length c0] 22)) (.cells #[.int .i64 i] 3)) (.cells #[.int .i64 0] 3))
  have HSZ := Aside0.mk (show w2.heap.size + 1 + 1 + 1 < ((((w2.alloc (.cells #[.slice Aw xs.length cw] 27)).alloc (.cells #[.slice A0 d.length c0] 22)).alloc (.cells #[.int .i64 i] 3)).alloc (.cells #[.int .i64 0] 3)).heap.size by rw [alloc_size, alloc_size, alloc_size, alloc_size]; omega)
  generalize (((w2.alloc (.cells #[.slice Aw xs.length cw] 27)).alloc (.cells #[.slice A0 d.length c0] 22)).alloc (.cells #[.int .i64 i] 3)).alloc (.cells #[.int .i64 0] 3) = wA at j5 j6 j7 j8 j9 j10 HBA HSZ ⊢
  rw [← hb6, ← hb5]
  have HB5E := Aside0.mk hb5
  generalize w2.heap.size = M at hM j7 j8 j9 j10 HSZ ⊢
  have HBXS := Aside0.mk (show Bx wA b5 b6 M st Aw xs.length cw A0 d.length c0 i 0 from ⟨(box_cell j5).1, box_cell j6, (box_cell j7).1, (box_cell j8).1, (box_cell j9).1, (box_cell j10).1, (box_cell j10).2⟩)
  have HM := Aside0.mk (show b5 < M ∧ b6 < M ∧ w.heap.size ≤ b5 ∧ w.heap.size ≤ b6 by omega)
  clear k5 k6 j5 j6 j7 j8 j9 j10 HB2 HBX hM hb5 hb6
  have hst := iter_stops (6 - 1) (by omega) (M + 1) (M + 1 + 1) A0 c0 d i w wA HD.out HBA.out HBXS.out.2.2.2.1 HBXS.out.2.2.2.2.1 (HXS.out ▸ HMX.out)
  rw [← HXS.out] at hst
  refine wpIn_rangeFunc_ownF rfl (by omega) (gf := 26) (lb := #[.pointer (some ⟨M + 1, 0, none⟩), .pointer (some ⟨M + 1 + 1, 0, none⟩)]) rfl trivial (enters_of Try.func26 (by kernel_rfl) rfl)
    hst belowK_t (belowK_b HBA.out.size) (Below.refl _ _) (fun _ => rfl)
    (fun pre W => ((Good xs pre ∧ pre.length ≤ st) ∧ Bx W b5 b6 M st Aw xs.length cw A0 d.length c0 i pre.length) ∧ Below w.heap.size w W)
    (fun c pre W => ((c = .ret ∧ ¬ Good xs pre) ∨ (c = .exit 0 ∧ (Good xs pre ∧ pre.length = st + 1) ∧ Bx W b5 b6 M st Aw xs.length cw A0 d.length c0 i pre.length)) ∧ Below w.heap.size w W)
    (OwnFrom.and (Own.from (fun s A B row hs hg hr => ⟨hs.1, hs.2.kept hg hr⟩) _) (ownFrom_below (Nat.le_refl _) HBA.out.size))
    (fun c => OwnFrom.and (Own.from (fun s A B row hs hg hr => hs.imp id (fun h => ⟨h.1, h.2.1, h.2.2.kept hg hr⟩)) _) (ownFrom_below (Nat.le_refl _) HBA.out.size))
    ⟨⟨⟨good_nil xs, Nat.zero_le _⟩, HBXS.out⟩, HBA.out⟩
    (fun x => { tmps := #[.slice A0 d.length c0, .int .i64 i, .int .u8 (st : Int), undef, undef, .pointer (some ⟨b5, 0, none⟩), .pointer (some ⟨b6, 0, none⟩), .pointer (some ⟨M, 0, none⟩), .func (.func 26) #[] #[.pointer (some ⟨M + 1, 0, none⟩), .pointer (some ⟨M + 1 + 1, 0, none⟩)], .pointer (some ⟨M + 1 + 1 + 1, 0, none⟩), .int .i64 (x.1 : Int), .int .i64 x.2, undef, undef, undef, .bool true, .bool false, .slice A0 d.length c0, .int .i64 i, .slice Aw xs.length cw, .slice A0 d.length c0, .int .i64 i, .func (.func 26) #[] #[.pointer (some ⟨M + 1, 0, none⟩), .pointer (some ⟨M + 1 + 1, 0, none⟩)], .func (.func 26) #[] #[.pointer (some ⟨M + 1, 0, none⟩), .pointer (some ⟨M + 1 + 1, 0, none⟩)], .int .i64 (x.1 : Int), .int .i64 x.2, undef, undef, undef, undef, undef, undef, undef, undef, undef, undef, undef, undef, undef, undef, undef, undef, undef, undef, undef, undef, undef, undef, undef, undef, undef, undef, undef, undef, undef, undef, undef, undef, undef, undef, undef, undef, undef, undef, undef, undef, undef, undef, undef, undef, undef, undef, undef, undef, undef, undef, undef, undef, undef, undef, undef, undef, undef], defers := [] }) ?assign ?body ?done ?stop
  case assign =>
    intro l x W K hK
    gi_wp2
    exact hK
  case body =>
    rintro l pre ⟨xa, xb⟩ W ⟨⟨⟨hgood, hle⟩, hbx⟩, hB⟩ hlen
    have HBODY := Aside0.mk hbx
    have HGOOD := Aside0.mk (good_snoc hgood (xa, xb))
    have HBB := Aside0.mk hB
    obtain ⟨adw, ea, hx⟩ := Kd.at_int HW.out (pre.length : Int) (Int.natCast_nonneg _) (Int.ofNat_lt.2 hlen)
    replace hx := (hB.cell (World.block_lt_of_cell? w _ hx)).trans hx
    simp only [Int.toNat_natCast] at hx
    obtain ⟨nn, hnn⟩ : ∃ nn, nn = pre.length := ⟨_, rfl⟩
    rw [← hnn] at hbx hx hle hlen HBODY HGOOD
    have HNN := Aside0.mk hnn
    subst ea
    obtain ⟨g1, ⟨g2, g3⟩, g4, g5, g6, g7, g8⟩ := hbx
    have p0 := eq_true (Int.natCast_nonneg nn)
    have q0 := eq_true (Int.ofNat_lt.2 hlen)
    have q1 := eq_true hlen
    have q2 : decide (xs.length ≤ nn) = false := decide_eq_false (Nat.not_le.2 hlen)
    have q3 : decide ((xs.length : Int) ≤ (nn : Int)) = false := decide_eq_false (by omega)
    obtain ⟨n1, hn1⟩ : ∃ n1, n1 = nn + 1 := ⟨_, rfl⟩
    have HN1 := Aside0.mk hn1
    have f1 : wrap64 ((nn : Int) + 1) = (n1 : Int) := by rw [hn1]; exact big_one (by have := HMX.out; omega)
    have f2 : IntKind.i64.wrap (st : Int) = st := byte_in (Int.natCast_nonneg _) (by have := HS.out; omega)
    have HLEN := Aside0.mk hlen
    have HLE0 := Aside0.mk hle
    generalize hyy : rd xs (nn : Int) = y at hx HGOOD
    have HY := Aside0.mk hyy
    clear hgood hB hle hlen hnn hn1 hyy
    by_cases h1 : xa = nn
    · subst h1
      by_cases h2 : xb = y
      · subst h2
        have HG2 := Aside0.mk (HGOOD.out.2 ⟨rfl, HLEN.out, rfl⟩)
        have HST := Aside0.mk (HBODY.out.store HM.out.1 HM.out.2.1 n1)
        have HBS := Aside0.mk (HBB.out.setCell (p := ⟨M + 1 + 1 + 1, 0, none⟩) (by have := HM.out; show w.heap.size ≤ M + 1 + 1 + 1; omega) (.int .i64 (n1 : Int)))
        have HBN := Aside0.mk ((Below.refl w.heap.size W).setCell (p := ⟨M + 1 + 1 + 1, 0, none⟩) (by have := HM.out; show w.heap.size ≤ M + 1 + 1 + 1; omega) (.int .i64 (n1 : Int)))
        have g1s := HST.out.1
        have g7s := HST.out.2.2.2.2.2.1
        have HLP := Aside0.mk (show (pre ++ [(xa, xb)]).length = n1 by rw [List.length_append, ← HNN.out, HN1.out]; rfl)
        by_cases h3 : st < n1
        · have c1 : decide (st < n1) = true := decide_eq_true h3
          have c2 : decide ((st : Int) < (n1 : Int)) = true := decide_eq_true (by omega)
          have HEQ := Aside0.mk h3
          clear h3
          gi_wp2
          exact ⟨KeepsOthers.setCell _ _ _, .inr ⟨rfl, ⟨HG2.out, by rw [HLP.out]; have := HEQ.out; have := HLE0.out; have := HN1.out; omega⟩, by rw [HLP.out]; exact HST.out⟩, HBS.out⟩
        · have c1 : decide (st < n1) = false := decide_eq_false h3
          have c2 : decide ((st : Int) < (n1 : Int)) = false := decide_eq_false (by omega)
          have HLE := Aside0.mk (Nat.le_of_not_lt h3)
          clear h3
          gi_wp2
          exact ⟨KeepsOthers.setCell _ _ _, HBN.out, ⟨⟨HG2.out, by rw [HLP.out]; exact HLE.out⟩, by rw [HLP.out]; exact HST.out⟩, HBS.out⟩
      · have HBAD := Aside0.mk (show ¬ Good xs (pre ++ [(xa, xb)]) from fun h => h2 (HGOOD.out.1 h).2.2)
        have d1 : (xb == y) = false := by simpa using h2
        have d2 : (xb != y) = true := by simpa using h2
        clear h2
        gi_wp2
        exact ⟨KeepsOthers.setCell _ _ _, .inl ⟨rfl, HBAD.out⟩, HBB.out.setCell (p := ⟨b6, 0, none⟩) HM.out.2.2.2 _⟩
    · have HBAD := Aside0.mk (show ¬ Good xs (pre ++ [(xa, xb)]) from fun h => h1 (HGOOD.out.1 h).1)
      have d1 : (xa == nn) = false := by simpa using h1
      have d2 : (xa != nn) = true := by simpa using h1
      have d3 : ((xa : Int) == (nn : Int)) = false := by simpa using (fun h : (xa : Int) = nn => h1 (Int.ofNat_inj.1 h))
      have d4 : ((xa : Int) != (nn : Int)) = true := by simpa using (fun h : (xa : Int) = nn => h1 (Int.ofNat_inj.1 h))
      clear h1
      gi_wp2
      exact ⟨KeepsOthers.setCell _ _ _, .inl ⟨rfl, HBAD.out⟩, HBB.out.setCell (p := ⟨b6, 0, none⟩) HM.out.2.2.2 _⟩
  case done =>
    rintro D ys W hD rfl ⟨⟨⟨hgood, hle⟩, hbx⟩, hB⟩ hK
    rw [upto_length] at hle hbx
    obtain ⟨nv, hnv⟩ : ∃ nv, nv = xs.length := ⟨_, rfl⟩
    rw [← hnv] at hle
    have hmin : nv = min xs.length (st + 1) := by omega
    replace hbx : Bx W b5 b6 M st Aw xs.length cw A0 d.length c0 i nv := hnv ▸ hbx
    clear hle hnv
    have HK1 := Aside0.mk hK
    have HBX2 := Aside0.mk hbx
    have HBW := Aside0.mk hB
    have HDD := Aside0.mk hD
    obtain ⟨g1, ⟨g2, g3⟩, g4, g5, g6, g7, g8⟩ := hbx
    obtain ⟨s1, hs1⟩ : ∃ s1, s1 = st + 1 := ⟨_, rfl⟩
    rw [← hs1] at hmin
    have f1 : wrap64 ((st : Int) + 1) = (s1 : Int) := by rw [hs1]; exact big_one (by have := HS.out; omega)
    have f2 : IntKind.i64.wrap (st : Int) = st := byte_in (Int.natCast_nonneg _) (by have := HS.out; omega)
    have e1 := min_if hmin
    have e2 := min_if' hmin
    clear hs1 hgood hB hK hD hmin
    gi_wp2
    obtain ⟨E, hE⟩ : ∃ E, E = W.heap.size := ⟨_, rfl⟩
    have kE := alloc_last' W (.cells #[.int .i64 0] 3) hE
    have HBXB := Aside0.mk (HBX2.out.kept (World.grownBy_alloc W (.cells #[.int .i64 0] 3) none) (fun r e => by cases e))
    have HKB := Aside0.mk ((Below.heap_alloc W (.cells #[.int .i64 0] 3) D (Array.getElem?_eq_some_iff.1 HK1.out).1).trans HK1.out)
    have HBB := Aside0.mk (below_alloc HBW.out (.cells #[.int .i64 0] 3))
    have HLT := Aside0.mk (show M + 1 + 1 + 1 < E ∧ D < E by
      have q1 := World.block_lt_of_cell? W _ HBX2.out.2.2.2.2.2.1
      have q2 := (Array.getElem?_eq_some_iff.1 HK1.out).1
      have q3 : M + 1 + 1 + 1 < W.heap.size := q1
      omega)
    have HSB := Aside0.mk (show (W.alloc (.cells #[.int .i64 0] 3)).heap.size = E + 1 by rw [alloc_size, hE])
    have HWE := Aside0.mk (show w.heap.size ≤ E by rw [hE]; exact HBW.out.size)
    rw [← hE]
    generalize W.alloc (.cells #[.int .i64 0] 3) = wB at kE HBXB HKB HBB HSB ⊢
    have HCE := Aside0.mk (box_cell kE)
    clear kE hE g1 g2 g3 g4 g5 g6 g7 g8 f1 f2 e1 e2 hst
    have hst2 := iter_stops (6 - 1) (by omega) (M + 1) (M + 1 + 1) A0 c0 d i w wB HD.out HBB.out HBXB.out.2.2.2.1 HBXB.out.2.2.2.2.1 (HXS.out ▸ HMX.out)
    rw [← HXS.out] at hst2
    refine wpIn_rangeFunc_ownF rfl (by omega) (gf := 26) (lb := #[.pointer (some ⟨M + 1, 0, none⟩), .pointer (some ⟨M + 1 + 1, 0, none⟩)]) rfl trivial (enters_of Try.func26 (by kernel_rfl) rfl)
      hst2 belowK_t (belowK_b HBB.out.size) (Below.refl _ _) (fun _ => rfl)
      (fun pre W => ((Good xs pre ∧ Bx W b5 b6 M st Aw xs.length cw A0 d.length c0 i nv ∧ W.cell? ⟨E, 0, none⟩ = some (.int .i64 (pre.length : Int)) ∧ W.frozen? ⟨E, 0, none⟩ = false) ∧ Below w.heap.size w W) ∧ W.heap[D]? = some (.deferred (some [])))
      (fun c pre W => (c = .ret ∧ ¬ Good xs pre) ∧ Below w.heap.size w W)
      (OwnFrom.and (OwnFrom.and (Own.from (fun s A B row hs hg hr => ⟨hs.1, hs.2.1.kept hg hr, cell_kept hs.2.2.1 hg hr, (frozen_kept hs.2.2.1 hg hr).trans hs.2.2.2⟩) _) (ownFrom_below (Nat.le_refl _) HBB.out.size)) (ownFrom_block (by rw [HSB.out]; have := HLT.out; omega)))
      (fun c => OwnFrom.and (Own.from (fun s A B row hs hg hr => hs) _) (ownFrom_below (Nat.le_refl _) HBB.out.size))
      ⟨⟨⟨good_nil xs, HBXB.out, HCE.out.1, HCE.out.2⟩, HBB.out⟩, HKB.out⟩
      (fun x => { tmps := #[.slice A0 d.length c0, .int .i64 i, .int .u8 (st : Int), undef, undef, .pointer (some ⟨b5, 0, none⟩), .pointer (some ⟨b6, 0, none⟩), .pointer (some ⟨M, 0, none⟩), .func (.func 26) #[] #[.pointer (some ⟨M + 1, 0, none⟩), .pointer (some ⟨M + 1 + 1, 0, none⟩)], .pointer (some ⟨M + 1 + 1 + 1, 0, none⟩), undef, undef, .pointer (some ⟨E, 0, none⟩), .int .i64 (x.1 : Int), .int .i64 x.2, .bool true, .bool false, .slice A0 d.length c0, .int .i64 i, .slice Aw xs.length cw, .slice A0 d.length c0, .int .i64 i, .func (.func 26) #[] #[.pointer (some ⟨M + 1, 0, none⟩), .pointer (some ⟨M + 1 + 1, 0, none⟩)], .func (.func 26) #[] #[.pointer (some ⟨M + 1, 0, none⟩), .pointer (some ⟨M + 1 + 1, 0, none⟩)], undef, undef, undef, undef, undef, undef, undef, undef, undef, undef, undef, undef, undef, undef, undef, undef, undef, undef, undef, undef, undef, undef, undef, undef, undef, .int .i64 (nv : Int), .slice Aw xs.length cw, .int .i64 (xs.length : Int), .int .u8 (st : Int), .int .i64 (st : Int), .int .i64 (wrap64 ((st : Int) + 1)), .int .i64 (nv : Int), .bool false, .func (.func 26) #[] #[.pointer (some ⟨M + 1, 0, none⟩), .pointer (some ⟨M + 1 + 1, 0, none⟩)], .int .i64 (x.1 : Int), .int .i64 x.2, undef, undef, undef, undef, undef, undef, undef, undef, undef, undef, undef, undef, undef, undef, undef, undef, undef, undef, undef, undef, undef, undef, undef], defers := [] }) ?assign2 ?body2 ?done2 ?stop2
    case assign2 =>
      intro l x W K hK
      gi_wp2
      exact hK
    case body2 =>
      rintro l pre ⟨xa, xb⟩ W ⟨⟨⟨hgood, hbx, hcE, hfE⟩, hB⟩, hKD⟩ hlen
      have HBODY := Aside0.mk hbx
      have HGOOD := Aside0.mk (good_snoc hgood (xa, xb))
      have HBB2 := Aside0.mk hB
      have HKD := Aside0.mk hKD
      obtain ⟨adw, ea, hx⟩ := Kd.at_int HW.out (pre.length : Int) (Int.natCast_nonneg _) (Int.ofNat_lt.2 hlen)
      replace hx := (hB.cell (World.block_lt_of_cell? w _ hx)).trans hx
      simp only [Int.toNat_natCast] at hx
      obtain ⟨nn, hnn⟩ : ∃ nn, nn = pre.length := ⟨_, rfl⟩
      rw [← hnn] at hcE hx hlen HGOOD
      have HNN := Aside0.mk hnn
      subst ea
      obtain ⟨g1, ⟨g2, g3⟩, g4, g5, g6, g7, g8⟩ := hbx
      have p0 := eq_true (Int.natCast_nonneg nn)
      have q0 := eq_true (Int.ofNat_lt.2 hlen)
      have q1 := eq_true hlen
      have q2 : decide (xs.length ≤ nn) = false := decide_eq_false (Nat.not_le.2 hlen)
      have q3 : decide ((xs.length : Int) ≤ (nn : Int)) = false := decide_eq_false (by omega)
      obtain ⟨n1, hn1⟩ : ∃ n1, n1 = nn + 1 := ⟨_, rfl⟩
      have HN1 := Aside0.mk hn1
      have f1 : wrap64 ((nn : Int) + 1) = (n1 : Int) := by rw [hn1]; exact big_one (by have := HMX.out; omega)
      have HLEN := Aside0.mk hlen
      have HCE2 := Aside0.mk hcE
      have HFE2 := Aside0.mk hfE
      generalize hyy : rd xs (nn : Int) = y at hx HGOOD
      clear hgood hB hlen hnn hn1 hyy hKD g5 g6 g7 g8
      by_cases h1 : xa = nn
      · subst h1
        by_cases h2 : xb = y
        · subst h2
          have HG2 := Aside0.mk (HGOOD.out.2 ⟨rfl, HLEN.out, rfl⟩)
          have HST := Aside0.mk (HBODY.out.far (E := E) HM.out.1 HM.out.2.1 HLT.out.1 (.int .i64 (n1 : Int)))
          have HBS := Aside0.mk (HBB2.out.setCell (p := ⟨E, 0, none⟩) HWE.out (.int .i64 (n1 : Int)))
          have HBN := Aside0.mk ((Below.refl w.heap.size W).setCell (p := ⟨E, 0, none⟩) HWE.out (.int .i64 (n1 : Int)))
          have HLP := Aside0.mk (show (pre ++ [(xa, xb)]).length = n1 by rw [List.length_append, ← HNN.out, HN1.out]; rfl)
          have HKS := Aside0.mk ((KeepsOthers.setCell W ⟨E, 0, none⟩ (.int .i64 (n1 : Int))).same D _ HKD.out rfl)
          have HCS := Aside0.mk (World.cell?_setCell_same' W ⟨E, 0, none⟩ (.int .i64 (n1 : Int)) (by rw [HCE2.out]; rfl))
          gi_wp2
          exact ⟨KeepsOthers.setCell _ _ _, HBN.out, ⟨⟨HG2.out, HST.out, by rw [HLP.out]; exact HCS.out, by rw [World.frozen?_setCell]; exact HFE2.out⟩, HBS.out⟩, HKS.out⟩
        · have HBAD := Aside0.mk (show ¬ Good xs (pre ++ [(xa, xb)]) from fun h => h2 (HGOOD.out.1 h).2.2)
          have d1 : (xb == y) = false := by simpa using h2
          have d2 : (xb != y) = true := by simpa using h2
          clear h2
          gi_wp2
          exact ⟨KeepsOthers.setCell _ _ _, ⟨rfl, HBAD.out⟩, HBB2.out.setCell (p := ⟨b6, 0, none⟩) HM.out.2.2.2 _⟩
      · have HBAD := Aside0.mk (show ¬ Good xs (pre ++ [(xa, xb)]) from fun h => h1 (HGOOD.out.1 h).1)
        have d1 : (xa == nn) = false := by simpa using h1
        have d2 : (xa != nn) = true := by simpa using h1
        have d3 : ((xa : Int) == (nn : Int)) = false := by simpa using (fun h : (xa : Int) = nn => h1 (Int.ofNat_inj.1 h))
        have d4 : ((xa : Int) != (nn : Int)) = true := by simpa using (fun h : (xa : Int) = nn => h1 (Int.ofNat_inj.1 h))
        clear h1
        gi_wp2
        exact ⟨KeepsOthers.setCell _ _ _, ⟨rfl, HBAD.out⟩, HBB2.out.setCell (p := ⟨b6, 0, none⟩) HM.out.2.2.2 _⟩
    case done2 =>
      rintro D2 ys W3 hD2 rfl ⟨⟨⟨hgood, hbx, hcE, hfE⟩, hB⟩, hKD⟩ hK2
      rw [upto_length] at hcE
      have HBX3 := Aside0.mk hbx
      have HB3 := Aside0.mk hB
      have HKD := Aside0.mk hKD
      have HK2 := Aside0.mk hK2
      have HD2 := Aside0.mk hD2
      obtain ⟨g1, ⟨g2, g3⟩, g4, g5, g6, g7, g8⟩ := hbx
      have HG2 := Aside0.mk g2
      clear hgood hB hKD hK2 hD2 g5 g6 g7 g8
      gi_wp2
      have k2 := (KeepsOthers.setCell W3 ⟨b6, 0, none⟩ (.bool true)).same D2 _ HK2.out rfl
      have k1 := (KeepsOthers.setCell W3 ⟨b6, 0, none⟩ (.bool true)).same D _ HKD.out rfl
      have k1' := (World.putObj_heap_other (w := W3.setCell ⟨b6, 0, none⟩ (.bool true)) (o := .deferred none) (show D ≠ D2 by have q1 := HD2.out; have q2 := HSB.out; have q3 := HLT.out; omega)).trans k1
      have c6 := World.cell?_setCell_same' W3 ⟨b6, 0, none⟩ (.bool true) (by rw [HG2.out]; rfl)
      have c6' := cell_kept c6 (grownBy_putObj' _ D2 (.deferred none)) (fun r e => by cases e; exact ⟨_, k2, rfl⟩)
      have c6'' := cell_kept c6' (grownBy_putObj' _ D (.deferred none)) (fun r e => by cases e; exact ⟨_, k1', rfl⟩)
      refine ⟨by simp, .inl ⟨_, _, rfl, run_takeDeferred k2, by simp, .inl ⟨_, _, rfl, run_takeDeferred k1', ?_⟩⟩⟩
      refine ⟨.bool true, ?_, rfl, ((HB3.out.setCell (p := ⟨b6, 0, none⟩) HM.out.2.2.2 _).trans (belowK_b (w := w) (Nat.le_refl _) _ D2 _ _ (by have q1 := HD2.out; have q2 := HSB.out; have q3 := HWE.out; omega) k2 rfl rfl)).trans (belowK_b (w := w) (Nat.le_refl _) _ D _ _ (by have q1 := HDD.out; have q2 := HBA.out.size; omega) k1' rfl rfl)⟩
      simp [results, Try.f5, go_sem, c6'']
    case stop2 =>
      rintro D2 c pre W3 _ ⟨k, hk, rfl⟩ ⟨⟨rfl, hbad⟩, _⟩ _
      exact absurd (good_upto xs hk) hbad
  case stop =>
    rintro D c pre W hD ⟨k, hk, rfl⟩ ⟨(⟨rfl, hbad⟩ | ⟨rfl, ⟨hgood, hst1⟩, hbx⟩), hB⟩ hK
    · exact absurd (good_upto xs hk) hbad
    · rw [upto_length] at hst1 hbx
      obtain ⟨nv, hnv⟩ : ∃ nv, nv = k := ⟨_, rfl⟩
      have hmin : nv = min xs.length (st + 1) := by omega
      replace hbx : Bx W b5 b6 M st Aw xs.length cw A0 d.length c0 i nv := hnv ▸ hbx
      clear hnv hst1 hk
      have HK1 := Aside0.mk hK
      have HBX2 := Aside0.mk hbx
      have HBW := Aside0.mk hB
      have HDD := Aside0.mk hD
      obtain ⟨g1, ⟨g2, g3⟩, g4, g5, g6, g7, g8⟩ := hbx
      obtain ⟨s1, hs1⟩ : ∃ s1, s1 = st + 1 := ⟨_, rfl⟩
      rw [← hs1] at hmin
      have f1 : wrap64 ((st : Int) + 1) = (s1 : Int) := by rw [hs1]; exact big_one (by have := HS.out; omega)
      have f2 : IntKind.i64.wrap (st : Int) = st := byte_in (Int.natCast_nonneg _) (by have := HS.out; omega)
      have e1 := min_if hmin
      have e2 := min_if' hmin
      clear hs1 hgood hB hK hD hmin
      gi_wp2
      obtain ⟨E, hE⟩ : ∃ E, E = W.heap.size := ⟨_, rfl⟩
      have kE := alloc_last' W (.cells #[.int .i64 0] 3) hE
      have HBXB := Aside0.mk (HBX2.out.kept (World.grownBy_alloc W (.cells #[.int .i64 0] 3) none) (fun r e => by cases e))
      have HKB := Aside0.mk ((Below.heap_alloc W (.cells #[.int .i64 0] 3) D (Array.getElem?_eq_some_iff.1 HK1.out).1).trans HK1.out)
      have HBB := Aside0.mk (below_alloc HBW.out (.cells #[.int .i64 0] 3))
      have HLT := Aside0.mk (show M + 1 + 1 + 1 < E ∧ D < E by
        have q1 := World.block_lt_of_cell? W _ HBX2.out.2.2.2.2.2.1
        have q2 := (Array.getElem?_eq_some_iff.1 HK1.out).1
        have q3 : M + 1 + 1 + 1 < W.heap.size := q1
        omega)
      have HSB := Aside0.mk (show (W.alloc (.cells #[.int .i64 0] 3)).heap.size = E + 1 by rw [alloc_size, hE])
      have HWE := Aside0.mk (show w.heap.size ≤ E by rw [hE]; exact HBW.out.size)
      rw [← hE]
      generalize W.alloc (.cells #[.int .i64 0] 3) = wB at kE HBXB HKB HBB HSB ⊢
      have HCE := Aside0.mk (box_cell kE)
      clear kE hE g1 g2 g3 g4 g5 g6 g7 g8 f1 f2 e1 e2 hst
      have hst2 := iter_stops (6 - 1) (by omega) (M + 1) (M + 1 + 1) A0 c0 d i w wB HD.out HBB.out HBXB.out.2.2.2.1 HBXB.out.2.2.2.2.1 (HXS.out ▸ HMX.out)
      rw [← HXS.out] at hst2
      refine wpIn_rangeFunc_ownF rfl (by omega) (gf := 26) (lb := #[.pointer (some ⟨M + 1, 0, none⟩), .pointer (some ⟨M + 1 + 1, 0, none⟩)]) rfl trivial (enters_of Try.func26 (by kernel_rfl) rfl)
        hst2 belowK_t (belowK_b HBB.out.size) (Below.refl _ _) (fun _ => rfl)
        (fun pre W => ((Good xs pre ∧ Bx W b5 b6 M st Aw xs.length cw A0 d.length c0 i nv ∧ W.cell? ⟨E, 0, none⟩ = some (.int .i64 (pre.length : Int)) ∧ W.frozen? ⟨E, 0, none⟩ = false) ∧ Below w.heap.size w W) ∧ W.heap[D]? = some (.deferred (some [])))
        (fun c pre W => (c = .ret ∧ ¬ Good xs pre) ∧ Below w.heap.size w W)
        (OwnFrom.and (OwnFrom.and (Own.from (fun s A B row hs hg hr => ⟨hs.1, hs.2.1.kept hg hr, cell_kept hs.2.2.1 hg hr, (frozen_kept hs.2.2.1 hg hr).trans hs.2.2.2⟩) _) (ownFrom_below (Nat.le_refl _) HBB.out.size)) (ownFrom_block (by rw [HSB.out]; have := HLT.out; omega)))
        (fun c => OwnFrom.and (Own.from (fun s A B row hs hg hr => hs) _) (ownFrom_below (Nat.le_refl _) HBB.out.size))
        ⟨⟨⟨good_nil xs, HBXB.out, HCE.out.1, HCE.out.2⟩, HBB.out⟩, HKB.out⟩
        (fun x => { tmps := #[.slice A0 d.length c0, .int .i64 i, .int .u8 (st : Int), undef, undef, .pointer (some ⟨b5, 0, none⟩), .pointer (some ⟨b6, 0, none⟩), .pointer (some ⟨M, 0, none⟩), .func (.func 26) #[] #[.pointer (some ⟨M + 1, 0, none⟩), .pointer (some ⟨M + 1 + 1, 0, none⟩)], .pointer (some ⟨M + 1 + 1 + 1, 0, none⟩), undef, undef, .pointer (some ⟨E, 0, none⟩), .int .i64 (x.1 : Int), .int .i64 x.2, .bool true, .bool false, .slice A0 d.length c0, .int .i64 i, .slice Aw xs.length cw, .slice A0 d.length c0, .int .i64 i, .func (.func 26) #[] #[.pointer (some ⟨M + 1, 0, none⟩), .pointer (some ⟨M + 1 + 1, 0, none⟩)], .func (.func 26) #[] #[.pointer (some ⟨M + 1, 0, none⟩), .pointer (some ⟨M + 1 + 1, 0, none⟩)], undef, undef, undef, undef, undef, undef, undef, undef, undef, undef, undef, undef, undef, undef, undef, undef, undef, undef, undef, undef, undef, undef, undef, undef, undef, .int .i64 (nv : Int), .slice Aw xs.length cw, .int .i64 (xs.length : Int), .int .u8 (st : Int), .int .i64 (st : Int), .int .i64 (wrap64 ((st : Int) + 1)), .int .i64 (nv : Int), .bool false, .func (.func 26) #[] #[.pointer (some ⟨M + 1, 0, none⟩), .pointer (some ⟨M + 1 + 1, 0, none⟩)], .int .i64 (x.1 : Int), .int .i64 x.2, undef, undef, undef, undef, undef, undef, undef, undef, undef, undef, undef, undef, undef, undef, undef, undef, undef, undef, undef, undef, undef, undef, undef], defers := [] }) ?assign2 ?body2 ?done2 ?stop2
      case assign2 =>
        intro l x W K hK
        gi_wp2
        exact hK
      case body2 =>
        rintro l pre ⟨xa, xb⟩ W ⟨⟨⟨hgood, hbx, hcE, hfE⟩, hB⟩, hKD⟩ hlen
        have HBODY := Aside0.mk hbx
        have HGOOD := Aside0.mk (good_snoc hgood (xa, xb))
        have HBB2 := Aside0.mk hB
        have HKD := Aside0.mk hKD
        obtain ⟨adw, ea, hx⟩ := Kd.at_int HW.out (pre.length : Int) (Int.natCast_nonneg _) (Int.ofNat_lt.2 hlen)
        replace hx := (hB.cell (World.block_lt_of_cell? w _ hx)).trans hx
        simp only [Int.toNat_natCast] at hx
        obtain ⟨nn, hnn⟩ : ∃ nn, nn = pre.length := ⟨_, rfl⟩
        rw [← hnn] at hcE hx hlen HGOOD
        have HNN := Aside0.mk hnn
        subst ea
        obtain ⟨g1, ⟨g2, g3⟩, g4, g5, g6, g7, g8⟩ := hbx
        have p0 := eq_true (Int.natCast_nonneg nn)
        have q0 := eq_true (Int.ofNat_lt.2 hlen)
        have q1 := eq_true hlen
        have q2 : decide (xs.length ≤ nn) = false := decide_eq_false (Nat.not_le.2 hlen)
        have q3 : decide ((xs.length : Int) ≤ (nn : Int)) = false := decide_eq_false (by omega)
        obtain ⟨n1, hn1⟩ : ∃ n1, n1 = nn + 1 := ⟨_, rfl⟩
        have HN1 := Aside0.mk hn1
        have f1 : wrap64 ((nn : Int) + 1) = (n1 : Int) := by rw [hn1]; exact big_one (by have := HMX.out; omega)
        have HLEN := Aside0.mk hlen
        have HCE2 := Aside0.mk hcE
        have HFE2 := Aside0.mk hfE
        generalize hyy : rd xs (nn : Int) = y at hx HGOOD
        clear hgood hB hlen hnn hn1 hyy hKD g5 g6 g7 g8
        by_cases h1 : xa = nn
        · subst h1
          by_cases h2 : xb = y
          · subst h2
            have HG2 := Aside0.mk (HGOOD.out.2 ⟨rfl, HLEN.out, rfl⟩)
            have HST := Aside0.mk (HBODY.out.far (E := E) HM.out.1 HM.out.2.1 HLT.out.1 (.int .i64 (n1 : Int)))
            have HBS := Aside0.mk (HBB2.out.setCell (p := ⟨E, 0, none⟩) HWE.out (.int .i64 (n1 : Int)))
            have HBN := Aside0.mk ((Below.refl w.heap.size W).setCell (p := ⟨E, 0, none⟩) HWE.out (.int .i64 (n1 : Int)))
            have HLP := Aside0.mk (show (pre ++ [(xa, xb)]).length = n1 by rw [List.length_append, ← HNN.out, HN1.out]; rfl)
            have HKS := Aside0.mk ((KeepsOthers.setCell W ⟨E, 0, none⟩ (.int .i64 (n1 : Int))).same D _ HKD.out rfl)
            have HCS := Aside0.mk (World.cell?_setCell_same' W ⟨E, 0, none⟩ (.int .i64 (n1 : Int)) (by rw [HCE2.out]; rfl))
            gi_wp2
            exact ⟨KeepsOthers.setCell _ _ _, HBN.out, ⟨⟨HG2.out, HST.out, by rw [HLP.out]; exact HCS.out, by rw [World.frozen?_setCell]; exact HFE2.out⟩, HBS.out⟩, HKS.out⟩
          · have HBAD := Aside0.mk (show ¬ Good xs (pre ++ [(xa, xb)]) from fun h => h2 (HGOOD.out.1 h).2.2)
            have d1 : (xb == y) = false := by simpa using h2
            have d2 : (xb != y) = true := by simpa using h2
            clear h2
            gi_wp2
            exact ⟨KeepsOthers.setCell _ _ _, ⟨rfl, HBAD.out⟩, HBB2.out.setCell (p := ⟨b6, 0, none⟩) HM.out.2.2.2 _⟩
        · have HBAD := Aside0.mk (show ¬ Good xs (pre ++ [(xa, xb)]) from fun h => h1 (HGOOD.out.1 h).1)
          have d1 : (xa == nn) = false := by simpa using h1
          have d2 : (xa != nn) = true := by simpa using h1
          have d3 : ((xa : Int) == (nn : Int)) = false := by simpa using (fun h : (xa : Int) = nn => h1 (Int.ofNat_inj.1 h))
          have d4 : ((xa : Int) != (nn : Int)) = true := by simpa using (fun h : (xa : Int) = nn => h1 (Int.ofNat_inj.1 h))
          clear h1
          gi_wp2
          exact ⟨KeepsOthers.setCell _ _ _, ⟨rfl, HBAD.out⟩, HBB2.out.setCell (p := ⟨b6, 0, none⟩) HM.out.2.2.2 _⟩
      case done2 =>
        rintro D2 ys W3 hD2 rfl ⟨⟨⟨hgood, hbx, hcE, hfE⟩, hB⟩, hKD⟩ hK2
        rw [upto_length] at hcE
        have HBX3 := Aside0.mk hbx
        have HB3 := Aside0.mk hB
        have HKD := Aside0.mk hKD
        have HK2 := Aside0.mk hK2
        have HD2 := Aside0.mk hD2
        obtain ⟨g1, ⟨g2, g3⟩, g4, g5, g6, g7, g8⟩ := hbx
        have HG2 := Aside0.mk g2
        clear hgood hB hKD hK2 hD2 g5 g6 g7 g8
        gi_wp2
        have k2 := (KeepsOthers.setCell W3 ⟨b6, 0, none⟩ (.bool true)).same D2 _ HK2.out rfl
        have k1 := (KeepsOthers.setCell W3 ⟨b6, 0, none⟩ (.bool true)).same D _ HKD.out rfl
        have k1' := (World.putObj_heap_other (w := W3.setCell ⟨b6, 0, none⟩ (.bool true)) (o := .deferred none) (show D ≠ D2 by have q1 := HD2.out; have q2 := HSB.out; have q3 := HLT.out; omega)).trans k1
        have c6 := World.cell?_setCell_same' W3 ⟨b6, 0, none⟩ (.bool true) (by rw [HG2.out]; rfl)
        have c6' := cell_kept c6 (grownBy_putObj' _ D2 (.deferred none)) (fun r e => by cases e; exact ⟨_, k2, rfl⟩)
        have c6'' := cell_kept c6' (grownBy_putObj' _ D (.deferred none)) (fun r e => by cases e; exact ⟨_, k1', rfl⟩)
        refine ⟨by simp, .inl ⟨_, _, rfl, run_takeDeferred k2, by simp, .inl ⟨_, _, rfl, run_takeDeferred k1', ?_⟩⟩⟩
        refine ⟨.bool true, ?_, rfl, ((HB3.out.setCell (p := ⟨b6, 0, none⟩) HM.out.2.2.2 _).trans (belowK_b (w := w) (Nat.le_refl _) _ D2 _ _ (by have q1 := HD2.out; have q2 := HSB.out; have q3 := HWE.out; omega) k2 rfl rfl)).trans (belowK_b (w := w) (Nat.le_refl _) _ D _ _ (by have q1 := HDD.out; have q2 := HBA.out.size; omega) k1' rfl rfl)⟩
        simp [results, Try.f5, go_sem, c6'']
      case stop2 =>
        rintro D2 c pre W3 _ ⟨k, hk, rfl⟩ ⟨⟨rfl, hbad⟩, _⟩ _
        exact absurd (good_upto xs hk) hbad
end Go.Proofs.Ytclanebbalgpfaa.Items
