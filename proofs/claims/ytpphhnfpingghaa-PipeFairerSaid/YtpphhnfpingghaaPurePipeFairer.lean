/- The plain law of PipeFairer: what the functions compute answers as the statement says. Conditions: as the theorem says. -/
import Derived.Test.YtpphhnfpingghaaOpen
import Derived.Test.YtpphhnfpingghaaQPipeFairerx
namespace Go.Proofs.Ytpphhnfpingghaa.PipeFairerPure
open Go.RowKit Go.Proofs.YtpphhnfpingghaaW.PrintWords Go.Proofs.Ytpphhnfpingghaa.Open Go.Proofs.Ytpphhnfpingghaa.QPipeFairer
set_option linter.unusedVariables false
abbrev wfBytes (xs : List Int) : Prop := xs.length ≤ maxLen ∧ ∀ x ∈ xs, (Lit.int .u8 x).wf = true
abbrev bkRow (xs : List Int) : Nat := sumBy (fun _ => 1) xs + 1
abbrev wtBytes (xs : List Int) : Prop := xs.length * 1 ≤ 140737488351232 ∧ ∀ x ∈ xs, True
theorem opByte : Rdg Try.prog 5 (Kd.int .u8) (fun x => (Lit.int .u8 x).wf = true) (fun _ => 1) (fun _ => True) := op_int Try.underlying5 (by kernel_rfl)
theorem opBytes : Rdg Try.prog 22 (Kd.slice 5 (Kd.int .u8)) wfBytes bkRow wtBytes := op_slice (B := 1) opByte Try.underlying22 (by kernel_rfl) (by kernel_rfl)
theorem row_len (xs : List Int) : bkRow xs = xs.length + 1 := by
  have : ∀ l : List Int, sumBy (fun _ => 1) l = l.length := by
    intro l
    induction l with
    | nil => rfl
    | cons x r ih => simp only [sumBy, ih, List.length_cons]; omega
  rw [bkRow, this]
theorem Ev.now {α : Type} (r : α) : Ev (fun _ => some r) r := ⟨0, fun _ _ => rfl⟩
theorem Ev.eq {α : Type} {g : Nat → Option α} {r s : α} (h : Ev g r) (e : r = s) : Ev g s := e ▸ h
theorem wrap_idx {i : Nat} {n : Nat} (h : i < n) (hn : n ≤ maxLen) : wrap64 ((i : Int) + 1) = ((i + 1 : Nat) : Int) := by
  unfold wrap64 maxLen at *
  omega
theorem byte_range {x : Int} (h : (Lit.int .u8 x).wf = true) : 0 ≤ x ∧ x ≤ 255 := by
  simpa [Lit.wf, IntKind.min, IntKind.max, IntKind.signed, IntKind.bits] using h
abbrev wfTurn (x : S42) : Prop := (Lit.int .u8 x.f0).wf = true ∧ (Lit.int .i64 x.f1).wf = true ∧ (Lit.int .i64 x.f2).wf = true ∧ True
abbrev wfTurns (xs : List S42) : Prop := xs.length ≤ maxLen ∧ ∀ x ∈ xs, wfTurn x
abbrev bkTurn (x : S42) : Nat := 1 + (1 + (1 + 1)) + 1
abbrev bkTurns (xs : List S42) : Nat := sumBy bkTurn xs + 1
abbrev wtTurn (x : S42) : Prop := True ∧ True ∧ True ∧ True
abbrev wtTurns (xs : List S42) : Prop := xs.length * 32 ≤ 140737488351232 ∧ ∀ x ∈ xs, wtTurn x
theorem opInt : Rdg Try.prog 3 (Kd.int .i64) (fun x => (Lit.int .i64 x).wf = true) (fun _ => 1) (fun _ => True) := op_int Try.underlying3 (by kernel_rfl)
theorem opBool : Rdg Try.prog 4 Kd.bool (fun _ => True) (fun _ => 1) (fun _ => True) := op_bool Try.underlying4 (by kernel_rfl)
theorem opTurn : Rdg Try.prog 42 k42 wfTurn bkTurn wtTurn :=
  op_struct (fun x : S42 => (x.f0, x.f1, x.f2, x.f3)) (fun a => ⟨a.1, a.2.1, a.2.2.1, a.2.2.2⟩) (fun _ => rfl) Try.underlying42 (by kernel_rfl)
    (opf_cons opByte rfl rfl (opf_cons opInt rfl rfl (opf_cons opInt rfl rfl (opf_one opBool rfl))))
theorem opTurns : Rdg Try.prog 55 (Kd.slice 42 k42) wfTurns bkTurns wtTurns := op_slice (B := 32) opTurn Try.underlying55 (by kernel_rfl) (by kernel_rfl)

/-- No end. -/
def okT (t : S42) : Bool := !decide (t.f1 < 0) && (!t.f3 && !decide (t.f0 > 1))
def tk (t : S42) : Bool := decide (t.f1 > 0)
def hs (t : S42) : Bool := decide (t.f0 = 1)
/-- In each k that follow one another one is such; a: how many were none, so far. -/
def gap (p : S42 → Bool) (k : Int) : Int → List S42 → Bool
  | _, [] => true
  | a, t :: r => decide ((if p t then 0 else a + 1) < k) && gap p k (if p t then 0 else a + 1) r
def fairM (k a b : Int) (l : List S42) : Bool := decide (k ≥ 1) && (l.all okT && (gap tk k a l && gap hs k b l))

theorem drop_turn {xs : List S42} {j : Nat} (h : j < xs.length) : xs.drop j = rd_T42 xs (j : Int) :: xs.drop (j + 1) := by
  rw [List.drop_eq_getElem_cons h]
  unfold rd_T42
  rw [Int.toNat_natCast, List.getD_eq_getElem?_getD, List.getElem?_eq_getElem h]
  rfl

theorem fair_cons (k a b : Int) (t : S42) (r : List S42) (hk : k ≥ 1) : fairM k a b (t :: r) =
    (okT t && (decide ((if tk t then 0 else a + 1) < k) && (decide ((if hs t then 0 else b + 1) < k) && fairM k (if tk t then 0 else a + 1) (if hs t then 0 else b + 1) r))) := by
  unfold fairM
  simp only [List.all_cons, gap, decide_eq_true hk, Bool.true_and]
  cases okT t <;> cases decide ((if tk t then 0 else a + 1) < k) <;> cases decide ((if hs t then 0 else b + 1) < k) <;> cases r.all okT <;> simp

theorem fair_loop (l : List S42) (hl : l.length ≤ maxLen) (k : Int) : ∀ (m j : Nat), j + m = l.length → ∀ a b : Int, 0 ≤ a → a ≤ j → 0 ≤ b → b ≤ j →
    Ev (fun n => pipe_Fair.l0 n k a b l (l.length : Int) (j : Int)) (fairM k a b (l.drop j))
  | 0, j, hj, a, b, _, _, _, _ => by
    rw [List.drop_eq_nil_of_le (by omega)]
    refine Ev.step (fun n => ?_) (Ev.eq (Ev.now (decide (k ≥ 1))) (by simp [fairM, gap]))
    simp only [pipe_Fair.l0]
    rw [if_neg (by omega)]
  | m + 1, j, hj, a, b, ha, haj, hb, hbj => by
    rw [drop_turn (by omega)]
    obtain ⟨t, et⟩ : ∃ t, t = rd_T42 l (j : Int) := ⟨_, rfl⟩
    have wa : wrap64 (a + 1) = a + 1 := by unfold wrap64 maxLen at *; omega
    have wb : wrap64 (b + 1) = b + 1 := by unfold wrap64 maxLen at *; omega
    have wj : wrap64 ((j : Int) + 1) = ((j + 1 : Nat) : Int) := wrap_idx (show j < l.length by omega) hl
    have jump : ∀ x : Int, x = (if tk t then 0 else a + 1) → Ev (fun n => pipe_Fair.j1 n k x (b + 1) l (l.length : Int) (j : Int) t.f0 t.f1 t.f2 t.f3) (fairM k a b (t :: l.drop (j + 1))) := by
      intro x hx
      by_cases hk : k ≥ 1
      · rw [fair_cons k a b t _ hk, ← hx]
        obtain ⟨y, hy⟩ : ∃ y : Int, y = (if hs t then 0 else b + 1) := ⟨_, rfl⟩
        rw [← hy]
        have hx0 : 0 ≤ x ∧ x ≤ ((j + 1 : Nat) : Int) := by rw [hx]; split <;> omega
        have hy0 : 0 ≤ y ∧ y ≤ ((j + 1 : Nat) : Int) := by rw [hy]; split <;> omega
        have nx := fair_loop l hl k m (j + 1) (by omega) x y hx0.1 hx0.2 hy0.1 hy0.2
        have body : ∀ n, pipe_Fair.j1 (n + 1) k x (b + 1) l (l.length : Int) (j : Int) t.f0 t.f1 t.f2 t.f3 =
            if x ≥ k then some false else if y ≥ k then some false else if t.f1 < 0 then some false else if t.f3 = true then some false else if t.f0 > 1 then some false else pipe_Fair.l0 n k x y l (l.length : Int) ((j + 1 : Nat) : Int) := by
          intro n
          simp only [pipe_Fair.j1, wj]
          by_cases h1 : t.f0 = 1
          · rw [if_pos h1, show y = 0 by rw [hy]; simp [hs, h1]]
          · rw [if_neg h1, show y = b + 1 by rw [hy]; simp [hs, h1]]
        by_cases c1 : x ≥ k
        · refine Ev.step (f := fun _ => some false) (fun n => by rw [body, if_pos c1]) (Ev.eq (Ev.now false) ?_)
          rw [decide_eq_false (show ¬ x < k by omega), Bool.false_and, Bool.and_false]
        · by_cases c2 : y ≥ k
          · refine Ev.step (f := fun _ => some false) (fun n => by rw [body, if_neg c1, if_pos c2]) (Ev.eq (Ev.now false) ?_)
            rw [decide_eq_false (show ¬ y < k by omega), Bool.false_and, Bool.and_false, Bool.and_false]
          · by_cases c3 : t.f1 < 0
            · exact Ev.step (f := fun _ => some false) (fun n => by rw [body, if_neg c1, if_neg c2, if_pos c3]) (Ev.eq (Ev.now false) (by simp [okT, c3]))
            · by_cases c4 : t.f3 = true
              · exact Ev.step (f := fun _ => some false) (fun n => by rw [body, if_neg c1, if_neg c2, if_neg c3, if_pos c4]) (Ev.eq (Ev.now false) (by simp [okT, c4]))
              · by_cases c5 : t.f0 > 1
                · exact Ev.step (f := fun _ => some false) (fun n => by rw [body, if_neg c1, if_neg c2, if_neg c3, if_neg c4, if_pos c5]) (Ev.eq (Ev.now false) (by simp [okT, c5]))
                · refine Ev.step (fun n => by rw [body, if_neg c1, if_neg c2, if_neg c3, if_neg c4, if_neg c5]) (Ev.eq nx ?_)
                  rw [decide_eq_true (show x < k by omega), decide_eq_true (show y < k by omega), Bool.true_and, Bool.true_and, show okT t = true by simp [okT, c3, c4, c5], Bool.true_and]
      · have hx0 : 0 ≤ x := by rw [hx]; split <;> omega
        refine Ev.step (f := fun _ => some false) (fun n => ?_) (Ev.eq (Ev.now false) (by simp [fairM, hk]))
        simp only [pipe_Fair.j1]
        rw [if_pos (show x ≥ k by omega), if_pos (show x ≥ k by omega), ite_self]
    rw [← et]
    by_cases c : t.f1 > 0
    · refine Ev.step (fun n => ?_) (jump 0 (by simp [tk, c]))
      simp only [pipe_Fair.l0]
      rw [if_pos (by omega), if_pos (by omega), if_pos (by omega), ← et, if_pos c, wb]
    · refine Ev.step (fun n => ?_) (jump (a + 1) (by simp [tk, c]))
      simp only [pipe_Fair.l0]
      rw [if_pos (by omega), if_pos (by omega), if_pos (by omega), ← et, if_neg c, wa, wb]

theorem fair_is (l : List S42) (hl : l.length ≤ maxLen) (k : Int) : Ev (fun n => pipe_Fair.f n l k) (fairM k 0 0 l) := by
  unfold pipe_Fair.f
  exact fair_loop l hl k _ 0 (Nat.zero_add _) 0 0 (by omega) (by omega) (by omega) (by omega)

theorem gap_mono (p : S42 → Bool) (k k' : Int) (hk : k ≤ k') : ∀ (l : List S42) (a a' : Int), a' ≤ a → gap p k a l = true → gap p k' a' l = true
  | [], _, _, _, _ => rfl
  | t :: r, a, a', ha, h => by
    simp only [gap, Bool.and_eq_true, decide_eq_true_eq] at h ⊢
    by_cases c : p t = true
    · simp only [c, if_true] at h ⊢
      exact ⟨by omega, gap_mono p k k' hk r 0 0 (by omega) h.2⟩
    · simp only [c, Bool.false_eq_true, if_false] at h ⊢
      exact ⟨by omega, gap_mono p k k' hk r _ _ (by omega) h.2⟩
theorem gap_front (p : S42 → Bool) (k : Int) : ∀ (l m : List S42) (a : Int), gap p k a (l ++ m) = true → gap p k a l = true
  | [], _, _, _ => rfl
  | t :: r, m, a, h => by
    simp only [List.cons_append, gap, Bool.and_eq_true, decide_eq_true_eq] at h ⊢
    exact ⟨h.1, gap_front p k r m _ h.2⟩
theorem gap_back (p : S42 → Bool) (k : Int) : ∀ (l m : List S42) (a : Int), 0 ≤ a → gap p k a (l ++ m) = true → gap p k 0 m = true
  | [], m, a, ha, h => gap_mono p k k (Int.le_refl _) m a 0 ha h
  | t :: r, m, a, ha, h => by
    simp only [List.cons_append, gap, Bool.and_eq_true, decide_eq_true_eq] at h
    exact gap_back p k r m _ (by split <;> omega) h.2
theorem fair_more {k : Int} {l : List S42} (h : fairM k 0 0 l = true) : fairM (k + 1) 0 0 l = true := by
  simp only [fairM, Bool.and_eq_true, decide_eq_true_eq] at h ⊢
  exact ⟨by omega, h.2.1, gap_mono _ _ _ (by omega) _ _ _ (by omega) h.2.2.1, gap_mono _ _ _ (by omega) _ _ _ (by omega) h.2.2.2⟩
theorem fair_front {k : Int} {l m : List S42} (h : fairM k 0 0 (l ++ m) = true) : fairM k 0 0 l = true := by
  simp only [fairM, Bool.and_eq_true, decide_eq_true_eq, List.all_append] at h ⊢
  exact ⟨h.1, h.2.1.1, gap_front _ _ _ _ _ h.2.2.1, gap_front _ _ _ _ _ h.2.2.2⟩
theorem fair_back {k : Int} {l m : List S42} (h : fairM k 0 0 (l ++ m) = true) : fairM k 0 0 m = true := by
  simp only [fairM, Bool.and_eq_true, decide_eq_true_eq, List.all_append] at h ⊢
  exact ⟨h.1, h.2.1.2, gap_back _ _ _ _ _ (by omega) h.2.2.1, gap_back _ _ _ _ _ (by omega) h.2.2.2⟩

theorem PipeFairer (l : List S42) (k a : Int) (hl : wfTurns l) (hw : wtTurns l) (hk : (Lit.int .u8 k).wf = true) (ha : (Lit.int .u16 a).wf = true) : ∃ n, bobbinlaw20_PipeFairer.f n l k a = some true := by
  refine Ev.rounds (g := fun n => bobbinlaw20_PipeFairer.f n l k a) ?_
  have hlen : l.length * 32 ≤ 140737488351232 := hw.1
  have hk0 := byte_range hk
  have ha0 : 0 ≤ a ∧ a ≤ 65535 := by simpa [Lit.wf, IntKind.min, IntKind.max, IntKind.signed, IntKind.bits] using ha
  have ek : wrap64 k = k := by unfold wrap64; omega
  have ek1 : wrap64 (k + 1) = k + 1 := by unfold wrap64; omega
  have ek2 : wrap64 (1 + k) = 1 + k := by unfold wrap64; omega
  have ew : wrap64 a = a := by unfold wrap64; omega
  have el : wrap64 ((l.length : Int) + 1) = ((l.length + 1 : Nat) : Int) := by unfold wrap64; omega
  obtain ⟨n, en⟩ : ∃ n : Nat, n = a.toNat % (l.length + 1) := ⟨_, rfl⟩
  have hnl : n < l.length + 1 := by rw [en]; exact Nat.mod_lt _ (by omega)
  have em : Int.tmod (wrap64 a) (wrap64 ((l.length : Int) + 1)) = (n : Int) := by
    rw [ew, el, Int.tmod_eq_emod_of_nonneg ha0.1, en, Int.natCast_emod, Int.toNat_of_nonneg ha0.1]
  have hF : ∀ (m : List S42) (q : Int), m.length ≤ l.length + 1 → Ev (fun n => pipe_Fair.f n m q) (fairM q 0 0 m) := fun m q hm => fair_is m (by unfold maxLen; omega) q
  have hsp : l = l.take n ++ l.drop n := (List.take_append_drop n l).symm
  have bad : fairM (1 + k) 0 0 (l.take n ++ [(⟨1, 1, 0, true⟩ : S42)] ++ l.drop n) = false := by
    unfold fairM
    rw [List.all_append, List.all_append]
    have : ([(⟨1, 1, 0, true⟩ : S42)] : List S42).all okT = false := by decide
    rw [this]
    simp
  have hlb : (l.take n ++ [(⟨1, 1, 0, true⟩ : S42)] ++ l.drop n).length = l.length + 1 := by
    rw [List.length_append, List.length_append, List.length_take, List.length_drop]
    simp only [List.length_cons, List.length_nil]
    omega
  have fin : Ev (fun m => bobbinlaw20_PipeFairer.j0 m l k (n : Int) false) true := by
    refine Ev.step (f := fun m => (pipe_Fair.f m (l.take n ++ [(⟨1, 1, 0, true⟩ : S42)] ++ l.drop n) (1 + k)).bind fun t => if t = true then some false else (pipe_Fair.f m ([] : List S42) 1).bind fun u => some u) (fun m => ?_) ?_
    · have e1 : (l.take n).length = n := by rw [List.length_take]; omega
      have e2 : (l.take n ++ [(⟨1, 1, 0, true⟩ : S42)]).length = n + 1 := by rw [List.length_append, e1]; rfl
      have e3 : (l.drop n).length = l.length - n := List.length_drop
      simp only [bobbinlaw20_PipeFairer.j0, Bool.false_eq_true, if_false]
      rw [if_pos (by omega), if_pos (by omega), Option.bind_some, Int.toNat_natCast, if_pos (by rw [List.length_nil, e1]; omega), Option.bind_some, List.nil_append, if_pos (by rw [e1]; omega), Option.bind_some, Option.bind_some, if_pos (by rw [e2, e3]; omega), ek, ek2]
    · refine Ev.bind (hF _ _ (by rw [hlb]; exact Nat.le_refl _)) ?_
      rw [bad]
      simp only [Bool.false_eq_true, if_false]
      exact Ev.bind (hF [] 1 (by simp)) (Ev.eq (Ev.now _) (by decide))
  have e : ∀ m, bobbinlaw20_PipeFairer.f m l k a = (pipe_Fair.f m l k).bind fun t104 => if t104 = true then (pipe_Fair.f m l (k + 1)).bind fun t105 => if t105 = true then (pipe_Fair.f m (l.take n) k).bind fun t110 => if t110 = true then (pipe_Fair.f m (l.drop n) k).bind fun t115 => bobbinlaw20_PipeFairer.j0 m l k (n : Int) (!t115) else bobbinlaw20_PipeFairer.j0 m l k (n : Int) true else bobbinlaw20_PipeFairer.j0 m l k (n : Int) true else bobbinlaw20_PipeFairer.j0 m l k (n : Int) false := by
    intro m
    unfold bobbinlaw20_PipeFairer.f bobbinlaw20_awake.f
    rw [Option.bind_some, if_pos rfl, em, el, if_neg (by omega), ek, ek1, if_pos (show (0 : Int) ≤ (n : Int) by omega), if_pos (show (n : Int) ≤ (l.length : Int) by omega), Int.toNat_natCast]
  rw [show (fun m => bobbinlaw20_PipeFairer.f m l k a) = _ from funext e]
  refine Ev.bind (hF l k (by omega)) ?_
  cases h1 : fairM k 0 0 l with
  | false => simpa using fin
  | true =>
    simp only [if_true]
    refine Ev.bind (hF l (k + 1) (by omega)) ?_
    rw [fair_more h1]
    simp only [if_true]
    refine Ev.bind (hF (l.take n) k (by rw [List.length_take]; omega)) ?_
    rw [fair_front (m := l.drop n) (by rw [← hsp]; exact h1)]
    simp only [if_true]
    refine Ev.bind (hF (l.drop n) k (by rw [List.length_drop]; omega)) ?_
    rw [fair_back (l := l.take n) (by rw [← hsp]; exact h1)]
    exact fin

end Go.Proofs.Ytpphhnfpingghaa.PipeFairerPure
