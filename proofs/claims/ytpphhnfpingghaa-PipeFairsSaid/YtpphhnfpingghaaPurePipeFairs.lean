/- The plain law of PipeFairs: what the functions compute answers as the statement says. Conditions: as the theorem says. -/
import Derived.Test.YtpphhnfpingghaaOpen
import Derived.Test.YtpphhnfpingghaaQPipeFairsx
namespace Go.Proofs.Ytpphhnfpingghaa.PipeFairsPure
open Go.RowKit Go.Proofs.YtpphhnfpingghaaW.PrintWords Go.Proofs.Ytpphhnfpingghaa.Open Go.Proofs.Ytpphhnfpingghaa.QPipeFairs
set_option linter.unusedVariables false
abbrev wfBytes (xs : List Int) : Prop := xs.length ≤ maxLen ∧ ∀ x ∈ xs, (Lit.int .u8 x).wf = true
abbrev bkRow (xs : List Int) : Nat := sumBy (fun _ => 1) xs + 1
abbrev wtBytes (xs : List Int) : Prop := xs.length * 1 ≤ 140737488351232 ∧ ∀ x ∈ xs, True
theorem opByte : Rdg Try.prog 5 (Kd.int .u8) (fun x => (Lit.int .u8 x).wf = true) (fun _ => 1) (fun _ => True) := op_int Try.underlying5 (by kernel_rfl)
theorem opBytes : Rdg Try.prog 22 (Kd.slice 5 (Kd.int .u8)) wfBytes bkRow wtBytes := op_slice (B := 1) opByte Try.underlying22 (by kernel_rfl) (by kernel_rfl)
theorem row_len (xs : List Int) : bkRow xs = xs.length + 1 := by
  have : ∀ l : List Int, sumBy (fun _ => 1) l = l.length := by
    intro l
    induction l with
    | nil => rfl
    | cons x r ih => simp only [sumBy, ih, List.length_cons]; omega
  rw [bkRow, this]
theorem Ev.now {α : Type} (r : α) : Ev (fun _ => some r) r := ⟨0, fun _ _ => rfl⟩
theorem Ev.eq {α : Type} {g : Nat → Option α} {r s : α} (h : Ev g r) (e : r = s) : Ev g s := e ▸ h
theorem wrap_idx {i : Nat} {n : Nat} (h : i < n) (hn : n ≤ maxLen) : wrap64 ((i : Int) + 1) = ((i + 1 : Nat) : Int) := by
  unfold wrap64 maxLen at *
  omega
theorem byte_range {x : Int} (h : (Lit.int .u8 x).wf = true) : 0 ≤ x ∧ x ≤ 255 := by
  simpa [Lit.wf, IntKind.min, IntKind.max, IntKind.signed, IntKind.bits] using h
abbrev wfTurn (x : S42) : Prop := (Lit.int .u8 x.f0).wf = true ∧ (Lit.int .i64 x.f1).wf = true ∧ (Lit.int .i64 x.f2).wf = true ∧ True
abbrev wfTurns (xs : List S42) : Prop := xs.length ≤ maxLen ∧ ∀ x ∈ xs, wfTurn x
abbrev bkTurn (x : S42) : Nat := 1 + (1 + (1 + 1)) + 1
abbrev bkTurns (xs : List S42) : Nat := sumBy bkTurn xs + 1
abbrev wtTurn (x : S42) : Prop := True ∧ True ∧ True ∧ True
abbrev wtTurns (xs : List S42) : Prop := xs.length * 32 ≤ 140737488351232 ∧ ∀ x ∈ xs, wtTurn x
theorem opInt : Rdg Try.prog 3 (Kd.int .i64) (fun x => (Lit.int .i64 x).wf = true) (fun _ => 1) (fun _ => True) := op_int Try.underlying3 (by kernel_rfl)
theorem opBool : Rdg Try.prog 4 Kd.bool (fun _ => True) (fun _ => 1) (fun _ => True) := op_bool Try.underlying4 (by kernel_rfl)
theorem opTurn : Rdg Try.prog 42 k42 wfTurn bkTurn wtTurn :=
  op_struct (fun x : S42 => (x.f0, x.f1, x.f2, x.f3)) (fun a => ⟨a.1, a.2.1, a.2.2.1, a.2.2.2⟩) (fun _ => rfl) Try.underlying42 (by kernel_rfl)
    (opf_cons opByte rfl rfl (opf_cons opInt rfl rfl (opf_cons opInt rfl rfl (opf_one opBool rfl))))
theorem opTurns : Rdg Try.prog 55 (Kd.slice 42 k42) wfTurns bkTurns wtTurns := op_slice (B := 32) opTurn Try.underlying55 (by kernel_rfl) (by kernel_rfl)

/-- No end. -/
def okT (t : S42) : Bool := !decide (t.f1 < 0) && (!t.f3 && !decide (t.f0 > 1))
def tk (t : S42) : Bool := decide (t.f1 > 0)
def hs (t : S42) : Bool := decide (t.f0 = 1)
/-- In each k that follow one another one is such; a: how many were none, so far. -/
def gap (p : S42 → Bool) (k : Int) : Int → List S42 → Bool
  | _, [] => true
  | a, t :: r => decide ((if p t then 0 else a + 1) < k) && gap p k (if p t then 0 else a + 1) r
def fairM (k a b : Int) (l : List S42) : Bool := decide (k ≥ 1) && (l.all okT && (gap tk k a l && gap hs k b l))

theorem drop_turn {xs : List S42} {j : Nat} (h : j < xs.length) : xs.drop j = rd_T42 xs (j : Int) :: xs.drop (j + 1) := by
  rw [List.drop_eq_getElem_cons h]
  unfold rd_T42
  rw [Int.toNat_natCast, List.getD_eq_getElem?_getD, List.getElem?_eq_getElem h]
  rfl

theorem fair_cons (k a b : Int) (t : S42) (r : List S42) (hk : k ≥ 1) : fairM k a b (t :: r) =
    (okT t && (decide ((if tk t then 0 else a + 1) < k) && (decide ((if hs t then 0 else b + 1) < k) && fairM k (if tk t then 0 else a + 1) (if hs t then 0 else b + 1) r))) := by
  unfold fairM
  simp only [List.all_cons, gap, decide_eq_true hk, Bool.true_and]
  cases okT t <;> cases decide ((if tk t then 0 else a + 1) < k) <;> cases decide ((if hs t then 0 else b + 1) < k) <;> cases r.all okT <;> simp

theorem fair_loop (l : List S42) (hl : l.length ≤ maxLen) (k : Int) : ∀ (m j : Nat), j + m = l.length → ∀ a b : Int, 0 ≤ a → a ≤ j → 0 ≤ b → b ≤ j →
    Ev (fun n => pipe_Fair.l0 n k a b l (l.length : Int) (j : Int)) (fairM k a b (l.drop j))
  | 0, j, hj, a, b, _, _, _, _ => by
    rw [List.drop_eq_nil_of_le (by omega)]
    refine Ev.step (fun n => ?_) (Ev.eq (Ev.now (decide (k ≥ 1))) (by simp [fairM, gap]))
    simp only [pipe_Fair.l0]
    rw [if_neg (by omega)]
  | m + 1, j, hj, a, b, ha, haj, hb, hbj => by
    rw [drop_turn (by omega)]
    obtain ⟨t, et⟩ : ∃ t, t = rd_T42 l (j : Int) := ⟨_, rfl⟩
    have wa : wrap64 (a + 1) = a + 1 := by unfold wrap64 maxLen at *; omega
    have wb : wrap64 (b + 1) = b + 1 := by unfold wrap64 maxLen at *; omega
    have wj : wrap64 ((j : Int) + 1) = ((j + 1 : Nat) : Int) := wrap_idx (show j < l.length by omega) hl
    have jump : ∀ x : Int, x = (if tk t then 0 else a + 1) → Ev (fun n => pipe_Fair.j1 n k x (b + 1) l (l.length : Int) (j : Int) t.f0 t.f1 t.f2 t.f3) (fairM k a b (t :: l.drop (j + 1))) := by
      intro x hx
      by_cases hk : k ≥ 1
      · rw [fair_cons k a b t _ hk, ← hx]
        obtain ⟨y, hy⟩ : ∃ y : Int, y = (if hs t then 0 else b + 1) := ⟨_, rfl⟩
        rw [← hy]
        have hx0 : 0 ≤ x ∧ x ≤ ((j + 1 : Nat) : Int) := by rw [hx]; split <;> omega
        have hy0 : 0 ≤ y ∧ y ≤ ((j + 1 : Nat) : Int) := by rw [hy]; split <;> omega
        have nx := fair_loop l hl k m (j + 1) (by omega) x y hx0.1 hx0.2 hy0.1 hy0.2
        have body : ∀ n, pipe_Fair.j1 (n + 1) k x (b + 1) l (l.length : Int) (j : Int) t.f0 t.f1 t.f2 t.f3 =
            if x ≥ k then some false else if y ≥ k then some false else if t.f1 < 0 then some false else if t.f3 = true then some false else if t.f0 > 1 then some false else pipe_Fair.l0 n k x y l (l.length : Int) ((j + 1 : Nat) : Int) := by
          intro n
          simp only [pipe_Fair.j1, wj]
          by_cases h1 : t.f0 = 1
          · rw [if_pos h1, show y = 0 by rw [hy]; simp [hs, h1]]
          · rw [if_neg h1, show y = b + 1 by rw [hy]; simp [hs, h1]]
        by_cases c1 : x ≥ k
        · refine Ev.step (f := fun _ => some false) (fun n => by rw [body, if_pos c1]) (Ev.eq (Ev.now false) ?_)
          rw [decide_eq_false (show ¬ x < k by omega), Bool.false_and, Bool.and_false]
        · by_cases c2 : y ≥ k
          · refine Ev.step (f := fun _ => some false) (fun n => by rw [body, if_neg c1, if_pos c2]) (Ev.eq (Ev.now false) ?_)
            rw [decide_eq_false (show ¬ y < k by omega), Bool.false_and, Bool.and_false, Bool.and_false]
          · by_cases c3 : t.f1 < 0
            · exact Ev.step (f := fun _ => some false) (fun n => by rw [body, if_neg c1, if_neg c2, if_pos c3]) (Ev.eq (Ev.now false) (by simp [okT, c3]))
            · by_cases c4 : t.f3 = true
              · exact Ev.step (f := fun _ => some false) (fun n => by rw [body, if_neg c1, if_neg c2, if_neg c3, if_pos c4]) (Ev.eq (Ev.now false) (by simp [okT, c4]))
              · by_cases c5 : t.f0 > 1
                · exact Ev.step (f := fun _ => some false) (fun n => by rw [body, if_neg c1, if_neg c2, if_neg c3, if_neg c4, if_pos c5]) (Ev.eq (Ev.now false) (by simp [okT, c5]))
                · refine Ev.step (fun n => by rw [body, if_neg c1, if_neg c2, if_neg c3, if_neg c4, if_neg c5]) (Ev.eq nx ?_)
                  rw [decide_eq_true (show x < k by omega), decide_eq_true (show y < k by omega), Bool.true_and, Bool.true_and, show okT t = true by simp [okT, c3, c4, c5], Bool.true_and]
      · have hx0 : 0 ≤ x := by rw [hx]; split <;> omega
        refine Ev.step (f := fun _ => some false) (fun n => ?_) (Ev.eq (Ev.now false) (by simp [fairM, hk]))
        simp only [pipe_Fair.j1]
        rw [if_pos (show x ≥ k by omega), if_pos (show x ≥ k by omega), ite_self]
    rw [← et]
    by_cases c : t.f1 > 0
    · refine Ev.step (fun n => ?_) (jump 0 (by simp [tk, c]))
      simp only [pipe_Fair.l0]
      rw [if_pos (by omega), if_pos (by omega), if_pos (by omega), ← et, if_pos c, wb]
    · refine Ev.step (fun n => ?_) (jump (a + 1) (by simp [tk, c]))
      simp only [pipe_Fair.l0]
      rw [if_pos (by omega), if_pos (by omega), if_pos (by omega), ← et, if_neg c, wa, wb]

theorem fair_is (l : List S42) (hl : l.length ≤ maxLen) (k : Int) : Ev (fun n => pipe_Fair.f n l k) (fairM k 0 0 l) := by
  unfold pipe_Fair.f
  exact fair_loop l hl k _ 0 (Nat.zero_add _) 0 0 (by omega) (by omega) (by omega) (by omega)

theorem gap_iff (p : S42 → Bool) (K : Nat) (hK : 1 ≤ K) : ∀ (l : List S42) (a : Nat), a < K →
    (gap p (K : Int) (a : Int) l = true ↔ ((∀ i, i + K ≤ l.length → ((l.drop i).take K).any p = true) ∧ (K - a ≤ l.length → (l.take (K - a)).any p = true)))
  | [], a, ha => by
    simp only [gap, List.length_nil, true_iff]
    exact ⟨fun i hi => by omega, fun hi => by omega⟩
  | t :: r, a, ha => by
    have shift : (∀ i, i + K ≤ (t :: r).length → (((t :: r).drop i).take K).any p = true) ↔ ((K ≤ r.length + 1 → ((t :: r).take K).any p = true) ∧ ∀ i, i + K ≤ r.length → ((r.drop i).take K).any p = true) := by
      constructor
      · intro h
        exact ⟨fun hi => by simpa using h 0 (by simpa using hi), fun i hi => by simpa using h (i + 1) (by simp; omega)⟩
      · rintro ⟨h0, h1⟩ i hi
        cases i with
        | zero => simpa using h0 (by simpa using hi)
        | succ i => simpa using h1 i (by simp at hi; omega)
    rw [shift]
    obtain ⟨K', rfl⟩ : ∃ K', K = K' + 1 := ⟨K - 1, by omega⟩
    by_cases c : p t = true
    · have ih := gap_iff p (K' + 1) hK r 0 (by omega)
      simp only [gap, c, if_true, Bool.and_eq_true, decide_eq_true_eq]
      rw [show (0 : Int) = ((0 : Nat) : Int) from rfl, ih]
      constructor
      · rintro ⟨_, h1, h2⟩
        exact ⟨⟨fun _ => by simp [c], h1⟩, fun _ => by
          rw [show K' + 1 - a = (K' - a) + 1 by omega]
          simp [c]⟩
      · rintro ⟨⟨_, h1⟩, _⟩
        exact ⟨by omega, h1, fun h => by simpa using h1 0 (by simpa using h)⟩
    · simp only [gap, c, Bool.false_eq_true, if_false, Bool.and_eq_true, decide_eq_true_eq]
      by_cases ha2 : a + 1 < K' + 1
      · have ih := gap_iff p (K' + 1) hK r (a + 1) ha2
        rw [show (a : Int) + 1 = ((a + 1 : Nat) : Int) by omega, ih]
        have e : K' + 1 - a = (K' + 1 - (a + 1)) + 1 := by omega
        constructor
        · rintro ⟨_, h1, h2⟩
          refine ⟨⟨fun hi => ?_, h1⟩, fun hi => ?_⟩
          · have := h2 (by omega)
            rw [List.take_succ_cons, List.any_cons]
            rw [List.any_eq_true] at this
            obtain ⟨x, hx, hpx⟩ := this
            rw [Bool.or_eq_true]
            right
            rw [List.any_eq_true]
            exact ⟨x, List.take_subset_take_left r (by omega) hx, hpx⟩
          · have := h2 (by simp at hi; omega)
            rw [e, List.take_succ_cons, List.any_cons, this, Bool.or_true]
        · rintro ⟨⟨_, h1⟩, h2⟩
          refine ⟨by omega, h1, fun hi => ?_⟩
          have := h2 (by simp; omega)
          rw [e, List.take_succ_cons, List.any_cons] at this
          simpa [c] using this
      · have hKa : K' = a := by omega
        subst hKa
        constructor
        · rintro ⟨h, _⟩
          exact absurd h (by omega)
        · rintro ⟨_, h⟩
          have := h (by simp)
          rw [show K' + 1 - K' = 1 by omega] at this
          simp [c] at this

/-- The windows from i on, m places. -/
def wins (l : List S42) (K : Nat) : Nat → Nat → Bool
  | 0, _ => true
  | m + 1, i => if i + K ≤ l.length then (((l.drop i).take K).any tk && ((l.drop i).take K).any hs) && wins l K m (i + 1) else true
theorem wins_iff (l : List S42) (K : Nat) : ∀ (m i : Nat), i + m = l.length → (wins l K m i = true ↔ ∀ j, i ≤ j → j + K ≤ l.length → j < l.length → (((l.drop j).take K).any tk = true ∧ ((l.drop j).take K).any hs = true))
  | 0, i, hi => by
    simp only [wins, true_iff]
    intro j h1 _ h2
    omega
  | m + 1, i, hi => by
    simp only [wins]
    by_cases c : i + K ≤ l.length
    · rw [if_pos c, Bool.and_eq_true, Bool.and_eq_true, wins_iff l K m (i + 1) (by omega)]
      constructor
      · rintro ⟨h0, h1⟩ j hj hjK hjl
        rcases Nat.eq_or_lt_of_le hj with rfl | hlt
        · exact h0
        · exact h1 j hlt hjK hjl
      · intro h
        exact ⟨h i (Nat.le_refl _) c (by omega), fun j hj => h j (by omega)⟩
    · rw [if_neg c]
      simp only [true_iff]
      intro j hj hjK
      omega

theorem ref_window (l : List S42) (hl : l.length ≤ 300) (k : Int) (K : Nat) (hk : k = (K : Int)) (hK1 : 1 ≤ K) (i : Nat) (hi : i + K ≤ l.length) (r : Bool) (nx : Ev (fun n => bobbinref20_Fair.l1 n l k ((i + 1 : Nat) : Int)) r) :
    ∀ (m j : Nat), i ≤ j → j + m = i + K → ∀ x y : Bool, Ev (fun n => bobbinref20_Fair.l2 n l k (i : Int) x y (j : Int)) (((x || ((l.drop j).take m).any tk) && (y || ((l.drop j).take m).any hs)) && r) := by
  have stop : ∀ (j : Nat) (x y : Bool), Ev (fun n => bobbinref20_Fair.j4 n l k (i : Int) x y (j : Int) false) ((x && y) && r) := by
    intro j x y
    have wi : wrap64 ((i : Int) + 1) = ((i + 1 : Nat) : Int) := by unfold wrap64; omega
    cases x with
    | false =>
      refine Ev.step (f := fun _ => some false) (fun n => ?_) (Ev.eq (Ev.now false) (by simp))
      simp only [bobbinref20_Fair.j4, Bool.false_eq_true, if_false]
    | true =>
      cases y with
      | false =>
        refine Ev.step (f := fun _ => some false) (fun n => ?_) (Ev.eq (Ev.now false) (by simp))
        simp only [bobbinref20_Fair.j4, Bool.false_eq_true, if_false, if_true]
      | true =>
        refine Ev.step (fun n => ?_) (Ev.eq nx (by simp))
        simp only [bobbinref20_Fair.j4, Bool.false_eq_true, if_false, if_true]
        rw [wi]
  intro m
  induction m with
  | zero =>
    intro j hij hj x y
    refine Ev.step (fun n => ?_) (Ev.eq (stop j x y) (by simp))
    have e1 : wrap64 ((j : Int) - (i : Int)) = (j : Int) - (i : Int) := by unfold wrap64; omega
    simp only [bobbinref20_Fair.l2]
    rw [e1, if_neg (by omega)]
  | succ m ih =>
    intro j hij hj x y
    have e1 : wrap64 ((j : Int) - (i : Int)) = (j : Int) - (i : Int) := by unfold wrap64; omega
    have wj : wrap64 ((j : Int) + 1) = ((j + 1 : Nat) : Int) := by unfold wrap64; omega
    by_cases both : (x && y) = true
    · obtain ⟨rfl, rfl⟩ : x = true ∧ y = true := by simpa using both
      refine Ev.step (fun n => ?_) (Ev.eq (stop j true true) (by simp))
      simp only [bobbinref20_Fair.l2]
      rw [e1, if_pos (by omega)]
      simp
    · rw [drop_turn (show j < l.length by omega), List.take_succ_cons, List.any_cons, List.any_cons]
      obtain ⟨t, et⟩ : ∃ t, t = rd_T42 l (j : Int) := ⟨_, rfl⟩
      rw [← et]
      have go : Ev (fun n => bobbinref20_Fair.j4 n l k (i : Int) x y (j : Int) true) (((x || (tk t || ((l.drop (j + 1)).take m).any tk)) && (y || (hs t || ((l.drop (j + 1)).take m).any hs))) && r) := by
        refine Ev.step (f := fun n => bobbinref20_Fair.l2 n l k (i : Int) (x || tk t) (y || hs t) ((j + 1 : Nat) : Int)) (fun n => ?_) (Ev.eq (ih (j + 1) (by omega) (by omega) (x || tk t) (y || hs t)) (by rw [Bool.or_assoc, Bool.or_assoc]))
        simp only [bobbinref20_Fair.j4, if_true]
        rw [if_pos (by omega), if_pos (by omega), ← et, wj]
        by_cases c1 : t.f1 > 0
        · by_cases c2 : t.f0 = 1
          · rw [if_pos c1, if_pos c2, show tk t = true by simp [tk, c1], show hs t = true by simp [hs, c2], Bool.or_true, Bool.or_true]
          · rw [if_pos c1, if_neg c2, show tk t = true by simp [tk, c1], show hs t = false by simp [hs, c2], Bool.or_true, Bool.or_false]
        · by_cases c2 : t.f0 = 1
          · rw [if_neg c1, if_pos c2, show tk t = false by simp [tk, c1], show hs t = true by simp [hs, c2], Bool.or_false, Bool.or_true]
          · rw [if_neg c1, if_neg c2, show tk t = false by simp [tk, c1], show hs t = false by simp [hs, c2], Bool.or_false, Bool.or_false]
      refine Ev.step (fun n => ?_) go
      simp only [bobbinref20_Fair.l2]
      rw [e1, if_pos (by omega)]
      cases x with
      | false => simp
      | true =>
        cases y with
        | false => simp
        | true => simp at both

theorem ref_wins (l : List S42) (hl : l.length ≤ 300) (k : Int) (hk : 1 ≤ k) : ∀ (m i : Nat), i + m = l.length → Ev (fun n => bobbinref20_Fair.l1 n l k (i : Int)) (wins l k.toNat m i)
  | 0, i, hi => by
    have stop : Ev (fun n => bobbinref20_Fair.j2 n l k (i : Int) false) true := Ev.step (f := fun _ => some true) (fun n => by simp only [bobbinref20_Fair.j2, Bool.false_eq_true, if_false]) (Ev.now true)
    refine Ev.step (fun n => ?_) stop
    simp only [bobbinref20_Fair.l1]
    rw [if_neg (by omega)]
  | m + 1, i, hi => by
    have e1 : wrap64 ((l.length : Int) - (i : Int)) = (l.length : Int) - (i : Int) := by unfold wrap64; omega
    simp only [wins]
    by_cases c : k ≤ (l.length : Int) - (i : Int)
    · rw [if_pos (show i + k.toNat ≤ l.length by omega)]
      have nx := ref_wins l hl k hk m (i + 1) (by omega)
      have win := ref_window l hl k k.toNat (by omega) (by omega) i (by omega) _ nx k.toNat i (Nat.le_refl _) rfl false false
      simp only [Bool.false_or] at win
      have go : Ev (fun n => bobbinref20_Fair.j2 n l k (i : Int) true) _ := Ev.step (fun n => by simp only [bobbinref20_Fair.j2, if_true]) win
      refine Ev.step (fun n => ?_) go
      simp only [bobbinref20_Fair.l1]
      rw [if_pos (by omega), e1, decide_eq_true c]
    · rw [if_neg (show ¬ i + k.toNat ≤ l.length by omega)]
      have stop : Ev (fun n => bobbinref20_Fair.j2 n l k (i : Int) false) true := Ev.step (f := fun _ => some true) (fun n => by simp only [bobbinref20_Fair.j2, Bool.false_eq_true, if_false]) (Ev.now true)
      refine Ev.step (fun n => ?_) stop
      simp only [bobbinref20_Fair.l1]
      rw [if_pos (by omega), e1, decide_eq_false c]

theorem ref_ok (l : List S42) (hl : l.length ≤ 300) (k : Int) (r : Bool) (nx : Ev (fun n => bobbinref20_Fair.l1 n l k 0) r) : ∀ (m j : Nat), j + m = l.length → Ev (fun n => bobbinref20_Fair.l0 n l k (j : Int)) ((l.drop j).all okT && r)
  | 0, j, hj => by
    rw [List.drop_eq_nil_of_le (by omega)]
    refine Ev.step (fun n => ?_) (Ev.eq nx (by simp))
    simp only [bobbinref20_Fair.l0]
    rw [if_neg (by omega)]
  | m + 1, j, hj => by
    have wj : wrap64 ((j : Int) + 1) = ((j + 1 : Nat) : Int) := by unfold wrap64; omega
    rw [drop_turn (show j < l.length by omega), List.all_cons]
    obtain ⟨t, et⟩ : ∃ t, t = rd_T42 l (j : Int) := ⟨_, rfl⟩
    rw [← et]
    by_cases c1 : t.f1 < 0
    · refine Ev.step (f := fun _ => some false) (fun n => ?_) (Ev.eq (Ev.now false) (by simp [okT, c1]))
      simp only [bobbinref20_Fair.l0]
      rw [if_pos (by omega), if_pos (by omega), ← et, if_pos c1]
    · by_cases c2 : t.f3 = true
      · refine Ev.step (f := fun _ => some false) (fun n => ?_) (Ev.eq (Ev.now false) (by simp [okT, c2]))
        simp only [bobbinref20_Fair.l0]
        rw [if_pos (by omega), if_pos (by omega), ← et, if_neg c1, if_pos c2]
      · by_cases c3 : t.f0 > 1
        · refine Ev.step (f := fun _ => some false) (fun n => ?_) (Ev.eq (Ev.now false) (by simp [okT, c3]))
          simp only [bobbinref20_Fair.l0]
          rw [if_pos (by omega), if_pos (by omega), ← et, if_neg c1, if_neg c2, if_pos c3]
        · refine Ev.step (fun n => ?_) (Ev.eq (ref_ok l hl k r nx m (j + 1) (by omega)) (by simp [okT, c1, c2, c3]))
          simp only [bobbinref20_Fair.l0]
          rw [if_pos (by omega), if_pos (by omega), ← et, if_neg c1, if_neg c2, if_neg c3, wj]

theorem ref_is (l : List S42) (hl : l.length ≤ 300) (k : Int) : Ev (fun n => bobbinref20_Fair.f n l k) (fairM k 0 0 l) := by
  unfold bobbinref20_Fair.f
  by_cases c : k < 1
  · simp only [if_pos c]
    exact Ev.eq (Ev.now false) (by simp [fairM]; omega)
  · simp only [if_neg c]
    refine Ev.eq (ref_ok l hl k _ (ref_wins l hl k (by omega) _ 0 (Nat.zero_add _)) _ 0 (Nat.zero_add _)) ?_
    unfold fairM
    rw [decide_eq_true (show k ≥ 1 by omega), Bool.true_and, List.drop_zero]
    congr 1
    have hkk : k = ((k.toNat : Nat) : Int) := by omega
    have g1 := gap_iff tk k.toNat (by omega) l 0 (by omega)
    have g2 := gap_iff hs k.toNat (by omega) l 0 (by omega)
    have g3 := wins_iff l k.toNat _ 0 (Nat.zero_add _)
    rw [← hkk] at g1 g2
    rw [Bool.eq_iff_iff, Bool.and_eq_true, g3]
    have z : ((0 : Nat) : Int) = 0 := rfl
    rw [z] at g1 g2
    rw [g1, g2]
    constructor
    · intro h
      have each : ∀ i, i + k.toNat ≤ l.length → ((l.drop i).take k.toNat).any tk = true ∧ ((l.drop i).take k.toNat).any hs = true := fun i hi => h i (Nat.zero_le _) hi (by omega)
      exact ⟨⟨fun i hi => (each i hi).1, fun hi => by simpa using (each 0 (by omega)).1⟩, ⟨fun i hi => (each i hi).2, fun hi => by simpa using (each 0 (by omega)).2⟩⟩
    · rintro ⟨⟨h1, _⟩, ⟨h2, _⟩⟩ j _ hj _
      exact ⟨h1 j hj, h2 j hj⟩

theorem PipeFairs (l : List S42) (k : Int) (hl : wfTurns l) (hw : wtTurns l) (_ : (Lit.int .i64 k).wf = true) : ∃ n, bobbinlaw20_PipeFairs.f n l k = some true := by
  refine Ev.rounds (g := fun n => bobbinlaw20_PipeFairs.f n l k) ?_
  by_cases c : (l.length : Int) > 300
  · have e : ∀ n, bobbinlaw20_PipeFairs.f n l k = (pipe_Fair.f n (l.take 300) k).bind fun t => (bobbinref20_Fair.f n (l.take 300) k).bind fun u => some (t == u) := by
      intro n
      unfold bobbinlaw20_PipeFairs.f bobbinlaw20_awake.f
      rw [Option.bind_some, if_pos rfl, if_pos c, if_pos (by omega)]
    rw [show (fun n => bobbinlaw20_PipeFairs.f n l k) = _ from funext e]
    have h3 : (l.take 300).length ≤ 300 := by rw [List.length_take]; omega
    refine Ev.bind (fair_is _ (by unfold maxLen; omega) k) ?_
    refine Ev.bind (ref_is _ h3 k) ?_
    simpa using Ev.now true
  · have e : ∀ n, bobbinlaw20_PipeFairs.f n l k = (pipe_Fair.f n l k).bind fun t => (bobbinref20_Fair.f n l k).bind fun u => some (t == u) := by
      intro n
      unfold bobbinlaw20_PipeFairs.f bobbinlaw20_awake.f
      rw [Option.bind_some, if_pos rfl, if_neg c, if_pos (by omega), if_pos (by omega), Int.toNat_natCast, List.take_length]
    rw [show (fun n => bobbinlaw20_PipeFairs.f n l k) = _ from funext e]
    refine Ev.bind (fair_is _ hl.1 k) ?_
    refine Ev.bind (ref_is _ (by omega) k) ?_
    simpa using Ev.now true

end Go.Proofs.Ytpphhnfpingghaa.PipeFairsPure
