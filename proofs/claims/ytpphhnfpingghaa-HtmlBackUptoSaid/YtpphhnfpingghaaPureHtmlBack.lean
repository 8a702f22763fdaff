/- The plain law of HtmlBack: what the functions compute answers as the statement says. Conditions: as the theorem says. -/
import Derived.Test.YtpphhnfpingghaaOpen
import Derived.Test.YtpphhnfpingghaaQHtmlBackx
import Derived.Lib.Bytes
namespace Go.Proofs.Ytpphhnfpingghaa.HtmlBackPure
open Go.RowKit Go.Proofs.YtpphhnfpingghaaW.PrintWords Go.Proofs.Ytpphhnfpingghaa.Open Go.Proofs.Ytpphhnfpingghaa.QHtmlBack
set_option linter.unusedVariables false
abbrev wfBytes (xs : List Int) : Prop := xs.length ≤ maxLen ∧ ∀ x ∈ xs, (Lit.int .u8 x).wf = true
abbrev bkRow (xs : List Int) : Nat := sumBy (fun _ => 1) xs + 1
abbrev wtBytes (xs : List Int) : Prop := xs.length * 1 ≤ 140737488351232 ∧ ∀ x ∈ xs, True
theorem opByte : Rdg Try.prog 5 (Kd.int .u8) (fun x => (Lit.int .u8 x).wf = true) (fun _ => 1) (fun _ => True) := op_int Try.underlying5 (by kernel_rfl)
theorem opBytes : Rdg Try.prog 22 (Kd.slice 5 (Kd.int .u8)) wfBytes bkRow wtBytes := op_slice (B := 1) opByte Try.underlying22 (by kernel_rfl) (by kernel_rfl)
theorem row_len (xs : List Int) : bkRow xs = xs.length + 1 := by
  have : ∀ l : List Int, sumBy (fun _ => 1) l = l.length := by
    intro l
    induction l with
    | nil => rfl
    | cons x r ih => simp only [sumBy, ih, List.length_cons]; omega
  rw [bkRow, this]
theorem Ev.now {α : Type} (r : α) : Ev (fun _ => some r) r := ⟨0, fun _ _ => rfl⟩
theorem Ev.eq {α : Type} {g : Nat → Option α} {r s : α} (h : Ev g r) (e : r = s) : Ev g s := e ▸ h
theorem wrap_idx {i : Nat} {n : Nat} (h : i < n) (hn : n ≤ maxLen) : wrap64 ((i : Int) + 1) = ((i + 1 : Nat) : Int) := by
  unfold wrap64 maxLen at *
  omega
theorem byte_range {x : Int} (h : (Lit.int .u8 x).wf = true) : 0 ≤ x ∧ x ≤ 255 := by
  simpa [Lit.wf, IntKind.min, IntKind.max, IntKind.signed, IntKind.bits] using h
open Html

abbrev five : List ByteArray := [(⟨#[38, 97, 109, 112, 59]⟩ : ByteArray), (⟨#[38, 108, 116, 59]⟩ : ByteArray), (⟨#[38, 103, 116, 59]⟩ : ByteArray), (⟨#[38, 35, 51, 52, 59]⟩ : ByteArray), (⟨#[38, 35, 51, 57, 59]⟩ : ByteArray)]
/-- The names, as numbers. -/
def nameM (j : Nat) : List Int := if j = 0 then [38, 97, 109, 112, 59] else if j = 1 then [38, 108, 116, 59] else if j = 2 then [38, 103, 116, 59] else if j = 3 then [38, 35, 51, 52, 59] else [38, 35, 51, 57, 59]
def markM (j : Nat) : Int := if j = 0 then 38 else if j = 1 then 60 else if j = 2 then 62 else if j = 3 then 34 else 39
theorem five_size (j : Nat) (h : j < 5) : (rdOf ByteArray.empty five (j : Int)).size = (nameM j).length := by
  have : j = 0 ∨ j = 1 ∨ j = 2 ∨ j = 3 ∨ j = 4 := by omega
  rcases this with rfl | rfl | rfl | rfl | rfl <;> rfl
theorem five_list (j : Nat) (h : j < 5) : (rdOf ByteArray.empty five (j : Int)).toList = (strOfNums (nameM j)).toList := by
  have : j = 0 ∨ j = 1 ∨ j = 2 ∨ j = 3 ∨ j = 4 := by omega
  rcases this with rfl | rfl | rfl | rfl | rfl <;> rfl
theorem marks_rd (j : Nat) (h : j < 5) : rd [38, 60, 62, 34, 39] (j : Int) = markM j := by
  have : j = 0 ∨ j = 1 ∨ j = 2 ∨ j = 3 ∨ j = 4 := by omega
  rcases this with rfl | rfl | rfl | rfl | rfl <;> rfl
theorem name_len (j : Nat) : 4 ≤ (nameM j).length ∧ (nameM j).length ≤ 5 := by
  unfold nameM
  repeat' split
  all_goals simp
theorem str_inj {a b : List Int} (ha : ∀ x ∈ a, 0 ≤ x ∧ x ≤ 255) (hb : ∀ x ∈ b, 0 ≤ x ∧ x ≤ 255) : (strOfNums a).toList = (strOfNums b).toList ↔ a = b := by
  constructor
  · intro h
    rw [Lib.strOfNums_toList, Lib.strOfNums_toList] at h
    unfold Lib.bytesOf at h
    induction a generalizing b with
    | nil => cases b with
      | nil => rfl
      | cons y t => simp at h
    | cons x r ih =>
      cases b with
      | nil => simp at h
      | cons y t =>
        simp only [List.map_cons, List.cons.injEq] at h
        have hx := ha x List.mem_cons_self
        have hy := hb y List.mem_cons_self
        have e : x = y := by
          have := congrArg UInt8.toNat h.1
          rw [UInt8.toNat_ofNat_of_lt' (show x.toNat < 256 by omega), UInt8.toNat_ofNat_of_lt' (show y.toNat < 256 by omega)] at this
          omega
        rw [e, ih (fun z hz => ha z (List.mem_cons_of_mem _ hz)) (fun z hz => hb z (List.mem_cons_of_mem _ hz)) h.2]
  · intro h
    rw [h]
theorem name_range (j : Nat) : ∀ x ∈ nameM j, 0 ≤ x ∧ x ≤ 255 := by
  unfold nameM
  repeat' split
  all_goals (intro x hx; simp at hx; omega)
theorem unit_range {a : Int} (ha : 0 ≤ a ∧ a ≤ 255) : ∀ x ∈ unitM a, 0 ≤ x ∧ x ≤ 255 := by
  unfold unitM
  repeat' split
  all_goals (intro x hx; simp at hx; omega)
theorem text_range {l : List Int} (hl : ∀ a ∈ l, 0 ≤ a ∧ a ≤ 255) : ∀ x ∈ textM l, 0 ≤ x ∧ x ≤ 255 := by
  intro x hx
  simp only [textM, List.mem_flatMap] at hx
  obtain ⟨a, ha, hx⟩ := hx
  exact unit_range (hl a ha) x hx
theorem rd_nat (l : List Int) (i : Nat) : rd l (i : Int) = l.getD i 0 := by unfold rd; rw [Int.toNat_natCast]

/-- begins: a name that stands at the front is found. -/
theorem begins_is (p : List Int) (J : Nat) (hJ : J < 5) (hp : (nameM J).length ≤ p.length) (he : p.take (nameM J).length = nameM J) : Ev (fun k => bobbinlaw03_begins.f k p) true := by
  have loop : ∀ (m j : Nat), j + m = J → Ev (fun k => bobbinlaw03_begins.l0 k p five (j : Int)) true := by
    intro m
    induction m with
    | zero =>
      intro j hj
      refine Ev.step (fun k => ?_) (Ev.now true)
      simp only [bobbinlaw03_begins.l0]
      have h5 := five_size j (by omega)
      have hl := five_list j (by omega)
      obtain rfl : j = J := by omega
      rw [if_pos (by omega), if_pos (by omega), if_pos (by rw [show five.length = 5 from rfl]; omega), h5, if_pos (by omega), if_pos (by omega), if_pos (by omega), Int.toNat_natCast, he, if_pos hl.symm]
    | succ m ih =>
      intro j hj
      have nx := ih (j + 1) (by omega)
      have h5 := five_size j (by omega)
      have ew : wrap64 ((j : Int) + 1) = ((j + 1 : Nat) : Int) := by unfold wrap64; omega
      by_cases c1 : (p.length : Int) ≥ ((nameM j).length : Int)
      · by_cases c2 : (strOfNums (p.take (nameM j).length)).toList = (rdOf ByteArray.empty five (j : Int)).toList
        · refine Ev.step (fun k => ?_) (Ev.now true)
          simp only [bobbinlaw03_begins.l0]
          rw [if_pos (by omega), if_pos (by omega), if_pos (by rw [show five.length = 5 from rfl]; omega), h5, if_pos c1, if_pos (by omega), if_pos (by omega), Int.toNat_natCast, if_pos c2]
        · refine Ev.step (fun k => ?_) nx
          simp only [bobbinlaw03_begins.l0]
          rw [if_pos (by omega), if_pos (by omega), if_pos (by rw [show five.length = 5 from rfl]; omega), h5, if_pos c1, if_pos (by omega), if_pos (by omega), Int.toNat_natCast, if_neg c2, ew]
      · refine Ev.step (fun k => ?_) nx
        simp only [bobbinlaw03_begins.l0]
        rw [if_pos (by omega), if_pos (by omega), if_pos (by rw [show five.length = 5 from rfl]; omega), h5, if_neg c1, ew]
  exact loop J 0 (Nat.zero_add _)

/-- One byte of the answer is looked at. -/
theorem look_step (w want : List Int) (i : Nat) (hi : i < w.length) (hw : w.length ≤ 9000000) (h1 : w.getD i 0 ≠ 60) (h2 : w.getD i 0 ≠ 62) (h3 : w.getD i 0 ≠ 34) (h4 : w.getD i 0 ≠ 39) (h5 : w.getD i 0 ≠ 0)
    (h6 : w.getD i 0 = 38 → Ev (fun k => bobbinlaw03_begins.f k (w.drop i)) true) (nx : Ev (fun k => bobbinlaw03_HtmlBack.l1 k w want ((i + 1 : Nat) : Int)) true) : Ev (fun k => bobbinlaw03_HtmlBack.l1 k w want (i : Int)) true := by
  have ew : wrap64 ((i : Int) + 1) = ((i + 1 : Nat) : Int) := by unfold wrap64; omega
  have mid : Ev (fun k => bobbinlaw03_HtmlBack.j2 k w want (i : Int) (rd w (i : Int)) false) true := by
    by_cases c : w.getD i 0 = 38
    · refine Ev.step (f := fun k => (bobbinlaw03_begins.f k (w.drop i)).bind fun t => if t = true then bobbinlaw03_HtmlBack.l1 k w want ((i + 1 : Nat) : Int) else some false) (fun k => ?_) ?_
      · simp only [bobbinlaw03_HtmlBack.j2, Bool.false_eq_true, if_false]
        rw [rd_nat, if_pos c, if_pos (by omega), if_pos (by omega), Int.toNat_natCast, ew]
      · refine Ev.bind (h6 c) ?_
        simp only [if_true]
        exact nx
    · refine Ev.step (fun k => ?_) nx
      simp only [bobbinlaw03_HtmlBack.j2, Bool.false_eq_true, if_false]
      rw [rd_nat, if_neg c, ew]
  refine Ev.step (fun k => ?_) mid
  simp only [bobbinlaw03_HtmlBack.l1]
  rw [if_pos (by omega), if_pos (by omega), rd_nat, if_neg h1, if_neg h2, if_neg h3, if_neg h4, show (w.getD i 0 == 0) = false by simpa using h5]

theorem getD_at (pre u rest : List Int) (j : Nat) (hj : j < u.length) : (pre ++ (u ++ rest)).getD (pre.length + j) 0 = u.getD j 0 := by
  rw [List.getD_eq_getElem?_getD, List.getD_eq_getElem?_getD, List.getElem?_append_right (by omega), show pre.length + j - pre.length = j by omega, List.getElem?_append_left hj]

theorem take_front (pre u rest : List Int) : ((pre ++ (u ++ rest)).drop pre.length).take u.length = u := by
  rw [List.drop_left, List.take_left]

/-- A unit of the answer is looked at, byte by byte. -/
theorem look_unit (pre rest want : List Int) (a : Int) (ha : 0 ≤ a ∧ a ≤ 255) (hw : (pre ++ (unitM a ++ rest)).length ≤ 9000000)
    (nx : Ev (fun k => bobbinlaw03_HtmlBack.l1 k (pre ++ (unitM a ++ rest)) want ((pre.length + (unitM a).length : Nat) : Int)) true) :
    Ev (fun k => bobbinlaw03_HtmlBack.l1 k (pre ++ (unitM a ++ rest)) want (pre.length : Int)) true := by
  have hlen : (pre ++ (unitM a ++ rest)).length = pre.length + ((unitM a).length + rest.length) := by simp
  have back : ∀ (m j : Nat), j + m = (unitM a).length → Ev (fun k => bobbinlaw03_HtmlBack.l1 k (pre ++ (unitM a ++ rest)) want ((pre.length + j : Nat) : Int)) true := by
    intro m
    induction m with
    | zero =>
      intro j hj
      rw [show j = (unitM a).length by omega]
      exact nx
    | succ m ih =>
      intro j hj
      have hjl : j < (unitM a).length := by omega
      have e := getD_at pre (unitM a) rest j hjl
      have facts : (unitM a).getD j 0 ≠ 60 ∧ (unitM a).getD j 0 ≠ 62 ∧ (unitM a).getD j 0 ≠ 34 ∧ (unitM a).getD j 0 ≠ 39 ∧ (unitM a).getD j 0 ≠ 0 ∧ ((unitM a).getD j 0 = 38 → j = 0 ∧ ∃ J, J < 5 ∧ unitM a = nameM J) := by
        clear nx ih e hlen hw
        revert hjl
        unfold unitM
        have cases5 : ∀ {n : Nat}, j < n → n ≤ 5 → j = 0 ∨ j = 1 ∨ j = 2 ∨ j = 3 ∨ j = 4 := by intro n; omega
        split
        · intro h; simp only [List.length_cons, List.length_nil] at h
          rcases cases5 h (by omega) with rfl | rfl | rfl | rfl | rfl <;> simp_all
        · split
          · intro h; simp only [List.length_cons, List.length_nil] at h
            rcases cases5 h (by omega) with rfl | rfl | rfl | rfl | rfl <;> first | exact ⟨by decide, by decide, by decide, by decide, by decide, fun _ => ⟨rfl, 0, by decide, rfl⟩⟩ | exact ⟨by decide, by decide, by decide, by decide, by decide, fun h => absurd h (by decide)⟩
          · split
            · intro h; simp only [List.length_cons, List.length_nil] at h
              rcases cases5 h (by omega) with rfl | rfl | rfl | rfl | rfl <;> first | exact ⟨by decide, by decide, by decide, by decide, by decide, fun _ => ⟨rfl, 1, by decide, rfl⟩⟩ | exact ⟨by decide, by decide, by decide, by decide, by decide, fun h => absurd h (by decide)⟩ | omega
            · split
              · intro h; simp only [List.length_cons, List.length_nil] at h
                rcases cases5 h (by omega) with rfl | rfl | rfl | rfl | rfl <;> first | exact ⟨by decide, by decide, by decide, by decide, by decide, fun _ => ⟨rfl, 2, by decide, rfl⟩⟩ | exact ⟨by decide, by decide, by decide, by decide, by decide, fun h => absurd h (by decide)⟩ | omega
              · split
                · intro h; simp only [List.length_cons, List.length_nil] at h
                  rcases cases5 h (by omega) with rfl | rfl | rfl | rfl | rfl <;> first | exact ⟨by decide, by decide, by decide, by decide, by decide, fun _ => ⟨rfl, 3, by decide, rfl⟩⟩ | exact ⟨by decide, by decide, by decide, by decide, by decide, fun h => absurd h (by decide)⟩
                · split
                  · intro h; simp only [List.length_cons, List.length_nil] at h
                    rcases cases5 h (by omega) with rfl | rfl | rfl | rfl | rfl <;> first | exact ⟨by decide, by decide, by decide, by decide, by decide, fun _ => ⟨rfl, 4, by decide, rfl⟩⟩ | exact ⟨by decide, by decide, by decide, by decide, by decide, fun h => absurd h (by decide)⟩
                  · intro h
                    simp only [List.length_cons, List.length_nil] at h
                    obtain rfl : j = 0 := by omega
                    simp only [List.getD_cons_zero]
                    exact ⟨by omega, by omega, by omega, by omega, by omega, fun h => by omega⟩
      obtain ⟨f1, f2, f3, f4, f5, f6⟩ := facts
      refine look_step _ _ _ (by rw [hlen]; omega) hw (by rw [e]; exact f1) (by rw [e]; exact f2) (by rw [e]; exact f3) (by rw [e]; exact f4) (by rw [e]; exact f5) (fun h => ?_) (ih (j + 1) (by omega))
      rw [e] at h
      obtain ⟨rfl, J, hJ, hU⟩ := f6 h
      refine begins_is _ J hJ ?_ ?_
      · rw [List.length_drop, hlen, ← hU]; omega
      · rw [← hU, Nat.add_zero]
        exact take_front pre (unitM a) rest
  exact back _ 0 (Nat.zero_add _)

theorem look_all (want : List Int) : ∀ (l pre : List Int), (∀ a ∈ l, 0 ≤ a ∧ a ≤ 255) → (pre ++ textM l).length ≤ 9000000 →
    Ev (fun k => bobbinlaw03_HtmlBack.l1 k (pre ++ textM l) want ((pre ++ textM l).length : Int)) true → Ev (fun k => bobbinlaw03_HtmlBack.l1 k (pre ++ textM l) want (pre.length : Int)) true
  | [], pre, _, _, h => by
    simpa [textM] using h
  | a :: l, pre, hr, hl, h => by
    have e : textM (a :: l) = unitM a ++ textM l := by simp [textM]
    rw [e] at hl h ⊢
    refine look_unit pre (textM l) want a (hr a List.mem_cons_self) hl ?_
    have ih := look_all want l (pre ++ unitM a) (fun x hx => hr x (List.mem_cons_of_mem _ hx)) (by rw [List.append_assoc]; exact hl) (by rw [List.append_assoc]; exact h)
    rw [List.append_assoc, List.length_append] at ih
    exact ih

def wantM (l : List Int) : List Int := l.flatMap fun a => if a = 0 then [239, 191, 189] else [a]
theorem want_len : ∀ l : List Int, (wantM l).length ≤ 3 * l.length
  | [] => by simp [wantM]
  | a :: l => by
    have := want_len l
    have e : wantM (a :: l) = (if a = 0 then [239, 191, 189] else [a]) ++ wantM l := by simp [wantM]
    rw [e, List.length_append, List.length_cons]
    split
    · simp only [List.length_cons, List.length_nil]; omega
    · simp only [List.length_cons, List.length_nil]; omega

abbrev five5 : List Int := [38, 60, 62, 34, 39]
theorem cut_is (w : List Int) (i n : Nat) : (w.take (i + n)).drop i = (w.drop i).take n := by
  rw [List.drop_take, show i + n - i = n by omega]

section
variable (w : List Int) (hw : w.length ≤ 9000000) (hr : ∀ x ∈ w, 0 ≤ x ∧ x ≤ 255)
include hw hr

theorem back_same (i j : Nat) : (strOfNums ((w.drop i).take (nameM j).length)).toList = (strOfNums (nameM j)).toList ↔ (w.drop i).take (nameM j).length = nameM j :=
  have _ := hw
  str_inj (fun x hx => hr x (List.mem_of_mem_drop (List.mem_of_mem_take hx))) (name_range j)

theorem back_skip (out r : List Int) (i j : Nat) (hi : i ≤ w.length) (hj : j < 5) (hno : (w.drop i).take (nameM j).length ≠ nameM j)
    (nx : Ev (fun k => bobbinlaw03_back.l1 k w five five5 out (i : Int) false ((j + 1 : Nat) : Int)) r) : Ev (fun k => bobbinlaw03_back.l1 k w five five5 out (i : Int) false (j : Int)) r := by
  have h5 := five_size j hj
  have hl := five_list j hj
  have hn := name_len j
  have ew : wrap64 ((j : Int) + 1) = ((j + 1 : Nat) : Int) := by unfold wrap64; omega
  have e1 : wrap64 ((w.length : Int) - (i : Int)) = (w.length : Int) - (i : Int) := by unfold wrap64; omega
  have e2 : wrap64 ((i : Int) + ((nameM j).length : Int)) = ((i + (nameM j).length : Nat) : Int) := by unfold wrap64; omega
  refine Ev.step (fun k => ?_) nx
  simp only [bobbinlaw03_back.l1]
  rw [if_pos (by omega), if_pos (by omega), if_pos (by rw [show five.length = 5 from rfl]; omega), h5, e1]
  by_cases c : (w.length : Int) - (i : Int) ≥ ((nameM j).length : Int)
  · rw [if_pos c, if_pos (by omega), e2, if_pos (by omega), if_pos (by omega), Int.toNat_natCast, Int.toNat_natCast, cut_is, hl, if_neg (fun h => hno ((back_same w hw hr i j).1 h)), ew]
  · rw [if_neg c, ew]

theorem back_hit (out r : List Int) (i j : Nat) (hj : j < 5) (ho : out.length ≤ 9000000) (hlen : i + (nameM j).length ≤ w.length) (hyes : (w.drop i).take (nameM j).length = nameM j)
    (nx : Ev (fun k => bobbinlaw03_back.l0 k w five five5 (out ++ [markM j]) ((i + (nameM j).length : Nat) : Int)) r) : Ev (fun k => bobbinlaw03_back.l1 k w five five5 out (i : Int) false (j : Int)) r := by
  have h5 := five_size j hj
  have hl := five_list j hj
  have hm := marks_rd j hj
  have e1 : wrap64 ((w.length : Int) - (i : Int)) = (w.length : Int) - (i : Int) := by unfold wrap64; omega
  have e2 : wrap64 ((i : Int) + ((nameM j).length : Int)) = ((i + (nameM j).length : Nat) : Int) := by unfold wrap64; omega
  refine Ev.step (fun k => ?_) nx
  simp only [bobbinlaw03_back.l1]
  rw [if_pos (by omega), if_pos (by omega), if_pos (by rw [show five.length = 5 from rfl]; omega), h5, e1, if_pos (by omega), if_pos (by omega), e2, if_pos (by omega), if_pos (by omega), Int.toNat_natCast, Int.toNat_natCast, cut_is, hl,
    if_pos ((back_same w hw hr i j).2 hyes), if_pos (by rw [show five5.length = 5 from rfl]; omega), if_pos (by omega), hm]

theorem back_end (out r : List Int) (i : Nat) (hi : i < w.length) (ho : out.length ≤ 9000000)
    (nx : Ev (fun k => bobbinlaw03_back.l0 k w five five5 (out ++ [w.getD i 0]) ((i + 1 : Nat) : Int)) r) : Ev (fun k => bobbinlaw03_back.l1 k w five five5 out (i : Int) false ((5 : Nat) : Int)) r := by
  have _ := hr
  have ew : wrap64 ((i : Int) + 1) = ((i + 1 : Nat) : Int) := by unfold wrap64; omega
  refine Ev.step (fun k => ?_) nx
  simp only [bobbinlaw03_back.l1, Bool.false_eq_true, if_false]
  rw [if_neg (by omega), if_pos (by omega), if_pos (by omega), if_pos (by omega), rd_nat, ew]

theorem back_one (out r : List Int) (i : Nat) (hi : i < w.length) (ho : out.length ≤ 9000000) (hc : w.getD i 0 ≠ 38)
    (nx : Ev (fun k => bobbinlaw03_back.l0 k w five five5 (out ++ [w.getD i 0]) ((i + 1 : Nat) : Int)) r) : Ev (fun k => bobbinlaw03_back.l0 k w five five5 out (i : Int)) r := by
  have hno : ∀ j, (w.drop i).take (nameM j).length ≠ nameM j := by
    intro j h
    have h0 : ((w.drop i).take (nameM j).length).getD 0 0 = (nameM j).getD 0 0 := by rw [h]
    have hn := name_len j
    rw [List.getD_eq_getElem?_getD, List.getElem?_take_of_lt (by omega), List.getElem?_drop, ← List.getD_eq_getElem?_getD] at h0
    have : (nameM j).getD 0 0 = 38 := by unfold nameM; repeat' split
                                         all_goals rfl
    exact hc (by rw [← this, ← h0, Nat.add_zero])
  refine Ev.step (fun k => ?_) (back_skip w hw hr out r i 0 (by omega) (by omega) (hno 0) (back_skip w hw hr out r i 1 (by omega) (by omega) (hno 1) (back_skip w hw hr out r i 2 (by omega) (by omega) (hno 2) (back_skip w hw hr out r i 3 (by omega) (by omega) (hno 3) (back_skip w hw hr out r i 4 (by omega) (by omega) (hno 4)
    (back_end w hw hr out r i hi ho nx))))))
  simp only [bobbinlaw03_back.l0]
  rw [if_pos (by omega)]
  rfl

theorem back_name (out r : List Int) (i J : Nat) (hJ : J < 5) (ho : out.length ≤ 9000000) (hlen : i + (nameM J).length ≤ w.length) (hyes : (w.drop i).take (nameM J).length = nameM J) (hno : ∀ j, j < J → (w.drop i).take (nameM j).length ≠ nameM j)
    (nx : Ev (fun k => bobbinlaw03_back.l0 k w five five5 (out ++ [markM J]) ((i + (nameM J).length : Nat) : Int)) r) : Ev (fun k => bobbinlaw03_back.l0 k w five five5 out (i : Int)) r := by
  have hn := name_len J
  have back : ∀ (m j : Nat), j + m = J → Ev (fun k => bobbinlaw03_back.l1 k w five five5 out (i : Int) false (j : Int)) r := by
    intro m
    induction m with
    | zero =>
      intro j hj
      obtain rfl : j = J := by omega
      exact back_hit w hw hr out r i j hJ ho hlen hyes nx
    | succ m ih =>
      intro j hj
      exact back_skip w hw hr out r i j (by omega) (by omega) (hno j (by omega)) (ih (j + 1) (by omega))
  refine Ev.step (fun k => ?_) (back J 0 (Nat.zero_add _))
  simp only [bobbinlaw03_back.l0]
  rw [if_pos (by omega)]
  rfl
end

/-- No earlier name stands where a later one does. -/
theorem names_apart (J j : Nat) (hJ : J < 5) (hj : j < J) (rest : List Int) : (nameM J ++ rest).take (nameM j).length ≠ nameM j := by
  have h : (J = 1 ∧ j = 0) ∨ (J = 2 ∧ j = 0) ∨ (J = 2 ∧ j = 1) ∨ (J = 3 ∧ j = 0) ∨ (J = 3 ∧ j = 1) ∨ (J = 3 ∧ j = 2) ∨ (J = 4 ∧ j = 0) ∨ (J = 4 ∧ j = 1) ∨ (J = 4 ∧ j = 2) ∨ (J = 4 ∧ j = 3) := by omega
  rcases h with ⟨rfl, rfl⟩ | ⟨rfl, rfl⟩ | ⟨rfl, rfl⟩ | ⟨rfl, rfl⟩ | ⟨rfl, rfl⟩ | ⟨rfl, rfl⟩ | ⟨rfl, rfl⟩ | ⟨rfl, rfl⟩ | ⟨rfl, rfl⟩ | ⟨rfl, rfl⟩ <;> simp [nameM]

theorem back_unit (pre rest out r : List Int) (a : Int) (ha : 0 ≤ a ∧ a ≤ 255) (hw : (pre ++ (unitM a ++ rest)).length ≤ 9000000) (hr : ∀ x ∈ pre ++ (unitM a ++ rest), 0 ≤ x ∧ x ≤ 255) (ho : out.length ≤ 8000000)
    (nx : Ev (fun k => bobbinlaw03_back.l0 k (pre ++ (unitM a ++ rest)) five five5 (out ++ if a = 0 then [239, 191, 189] else [a]) ((pre.length + (unitM a).length : Nat) : Int)) r) :
    Ev (fun k => bobbinlaw03_back.l0 k (pre ++ (unitM a ++ rest)) five five5 out (pre.length : Int)) r := by
  have hlen : (pre ++ (unitM a ++ rest)).length = pre.length + ((unitM a).length + rest.length) := by simp
  have named : ∀ J, J < 5 → unitM a = nameM J → markM J = a → a ≠ 0 → Ev (fun k => bobbinlaw03_back.l0 k (pre ++ (unitM a ++ rest)) five five5 out (pre.length : Int)) r := by
    intro J hJ hU hm h0
    refine back_name _ hw hr out r pre.length J hJ (by omega) (by rw [hlen, ← hU]; omega) (by rw [← hU]; exact take_front pre (unitM a) rest) (fun j hj => ?_) ?_
    · rw [List.drop_left, hU]
      exact names_apart J j hJ hj rest
    · rw [if_neg h0] at nx
      rw [hm, ← hU]
      exact nx
  by_cases c0 : a = 0
  · subst c0
    have hU : unitM 0 = [239, 191, 189] := rfl
    rw [if_pos rfl] at nx
    have l3 : (unitM 0).length = 3 := rfl
    have g0 := getD_at pre (unitM 0) rest 0 (by rw [l3]; omega)
    have g1 := getD_at pre (unitM 0) rest 1 (by rw [l3]; omega)
    have g2 := getD_at pre (unitM 0) rest 2 (by rw [l3]; omega)
    rw [hU] at g0 g1 g2
    simp only [Nat.add_zero, List.getD_cons_zero, List.getD_cons_succ] at g0 g1 g2
    rw [hU] at hw hr nx hlen ⊢
    refine back_one _ hw hr out r pre.length (by rw [hlen]; simp; omega) (by omega) (by rw [g0]; decide) ?_
    refine back_one _ hw hr _ r (pre.length + 1) (by rw [hlen]; simp; omega) (by simp; omega) (by rw [g1]; decide) ?_
    refine back_one _ hw hr _ r (pre.length + 1 + 1) (by rw [hlen]; simp; omega) (by simp; omega) (by rw [show pre.length + 1 + 1 = pre.length + 2 by omega, g2]; decide) ?_
    rw [g0, g1, show pre.length + 1 + 1 = pre.length + 2 by omega, g2]
    have e3 : ((out ++ [239]) ++ [191]) ++ [189] = out ++ [(239 : Int), 191, 189] := by simp
    rw [e3]
    exact nx
  · by_cases c1 : a = 38
    · exact named 0 (by omega) (by subst c1; rfl) (by subst c1; rfl) c0
    · by_cases c2 : a = 60
      · exact named 1 (by omega) (by subst c2; rfl) (by subst c2; rfl) c0
      · by_cases c3 : a = 62
        · exact named 2 (by omega) (by subst c3; rfl) (by subst c3; rfl) c0
        · by_cases c4 : a = 34
          · exact named 3 (by omega) (by subst c4; rfl) (by subst c4; rfl) c0
          · by_cases c5 : a = 39
            · exact named 4 (by omega) (by subst c5; rfl) (by subst c5; rfl) c0
            · have hU : unitM a = [a] := by unfold unitM; rw [if_neg c0, if_neg c1, if_neg c2, if_neg c3, if_neg c4, if_neg c5]
              have g0 := getD_at pre (unitM a) rest 0 (by rw [hU]; simp)
              rw [hU] at g0
              simp only [Nat.add_zero, List.getD_cons_zero] at g0
              rw [if_neg c0] at nx
              rw [hU] at hw hr nx hlen ⊢
              refine back_one _ hw hr out r pre.length (by rw [hlen]; simp; omega) (by omega) (by rw [g0]; exact c1) ?_
              rw [g0]
              exact nx

theorem back_all : ∀ (l pre out : List Int), (∀ a ∈ l, 0 ≤ a ∧ a ≤ 255) → (pre ++ textM l).length ≤ 9000000 → (∀ x ∈ pre ++ textM l, 0 ≤ x ∧ x ≤ 255) → out.length + (wantM l).length ≤ 8000000 →
    Ev (fun k => bobbinlaw03_back.l0 k (pre ++ textM l) five five5 out (pre.length : Int)) (out ++ wantM l)
  | [], pre, out, _, _, _, _ => by
    have e : textM [] = [] := rfl
    have e2 : wantM [] = [] := rfl
    rw [e, e2, List.append_nil, List.append_nil]
    refine Ev.step (fun k => ?_) (Ev.now out)
    simp only [bobbinlaw03_back.l0]
    rw [if_neg (by omega)]
  | a :: l, pre, out, hl, hw, hr, ho => by
    have e : textM (a :: l) = unitM a ++ textM l := by simp [textM]
    have e2 : wantM (a :: l) = (if a = 0 then [239, 191, 189] else [a]) ++ wantM l := by simp [wantM]
    rw [e] at hw hr ⊢
    rw [e2] at ho ⊢
    rw [List.length_append] at ho
    have ih := back_all l (pre ++ unitM a) (out ++ if a = 0 then [239, 191, 189] else [a]) (fun x hx => hl x (List.mem_cons_of_mem _ hx)) (by rw [List.append_assoc]; exact hw) (by rw [List.append_assoc]; exact hr) (by rw [List.length_append]; omega)
    rw [List.append_assoc, List.append_assoc, List.length_append] at ih
    exact back_unit pre (textM l) out _ a (hl a List.mem_cons_self) hw hr (by omega) ih

theorem want_loop (l w : List Int) (hl : l.length ≤ 1048576) (r : Bool) (h : Ev (fun k => bobbinlaw03_HtmlBack.l1 k w (wantM l) 0) r) : ∀ (m j : Nat), j + m = l.length → Ev (fun k => bobbinlaw03_HtmlBack.l0 k l w (wantM (l.take j)) (j : Int)) r
  | 0, j, hj => by
    rw [List.take_of_length_le (by omega)]
    refine Ev.step (fun k => ?_) h
    simp only [bobbinlaw03_HtmlBack.l0]
    rw [if_neg (by omega)]
  | m + 1, j, hj => by
    have nx := want_loop l w hl r h m (j + 1) (by omega)
    have hb := want_len (l.take j)
    rw [List.length_take] at hb
    have e : wantM (l.take (j + 1)) = wantM (l.take j) ++ if rd l (j : Int) = 0 then [239, 191, 189] else [rd l (j : Int)] := by
      rw [take_rd (by omega)]
      simp [wantM]
    rw [e] at nx
    have ew : wrap64 ((j : Int) + 1) = ((j + 1 : Nat) : Int) := by unfold wrap64; omega
    refine Ev.step (fun k => ?_) nx
    simp only [bobbinlaw03_HtmlBack.l0]
    by_cases c : rd l (j : Int) = 0
    · rw [if_pos (by omega), if_pos (by omega), if_pos c, if_pos c, Option.bind_some, if_pos (by simp; omega), ew]
    · rw [if_pos (by omega), if_pos (by omega), if_neg c, if_neg c, if_pos (by omega), ew]

theorem HtmlBack (l : List Int) (hl : wfBytes l) (hb : bkRow l ≤ 1048576) : ∃ k, bobbinlaw03_HtmlBack.f k l = some true := by
  refine Ev.rounds (g := fun k => bobbinlaw03_HtmlBack.f k l) ?_
  rw [row_len] at hb
  have hr : ∀ a ∈ l, 0 ≤ a ∧ a ≤ 255 := fun a ha => byte_range (hl.2 a ha)
  have ht := textM_len l
  have hwl := want_len l
  have e : ∀ k, bobbinlaw03_HtmlBack.f k l = bobbinlaw03_HtmlBack.l0 k l (textM l) [] 0 := by
    intro k
    unfold bobbinlaw03_HtmlBack.f bobbinlaw03_awake.f html_Text.f
    rw [Option.bind_some, if_pos rfl, if_pos (by omega), Option.bind_some]
  rw [show (fun k => bobbinlaw03_HtmlBack.f k l) = fun k => bobbinlaw03_HtmlBack.l0 k l (textM l) [] 0 from funext e]
  have fin : Ev (fun k => bobbinlaw03_HtmlBack.l1 k ([] ++ textM l) (wantM l) (([] ++ textM l).length : Int)) true := by
    have hbk := back_all l [] [] hr (by rw [List.nil_append]; omega) (by rw [List.nil_append]; exact text_range hr) (by rw [List.length_nil]; omega)
    refine Ev.step (f := fun k => (bobbinlaw03_back.f k (textM l)).bind fun t => some ((strOfNums t).toList == (strOfNums (wantM l)).toList)) (fun k => ?_) ?_
    · simp only [bobbinlaw03_HtmlBack.l1]
      rw [if_neg (by omega), List.nil_append]
    · refine Ev.bind (a := wantM l) ?_ ?_
      · exact hbk
      · simpa using Ev.now true
  exact want_loop l (textM l) (by omega) true (look_all (wantM l) l [] hr (by rw [List.nil_append]; omega) fin) _ 0 (Nat.zero_add _)

end Go.Proofs.Ytpphhnfpingghaa.HtmlBackPure
