/-
  The call of ring.Ring.Write: how many bytes it takes, what becomes of the ring, and that nothing else is changed. Conditions: as each theorem says.
-/
import Derived.Test.YtnblegepecmblaaRingPeek
namespace Go.Proofs.Ytnblegepecmblaa.Ring
open Go.RowKit Go.Proofs.YtnblegepecmblaaW.PrintWords Go.Proofs.YtnblegepecmblaaW.PrintLast Go.Proofs.YtnblegepecmblaaW.PrintMore
attribute [local go_sem] max2_int min2_int max_two min_two max_three min_three max_four min_four
set_option linter.unusedVariables false
set_option linter.unusedSimpArgs false

theorem wrap_in {x : Int} (h0 : 0 ≤ x) (h1 : x ≤ 1000000) : wrap64 x = x := by unfold wrap64; omega
theorem wrap_lt {n c : Nat} (h : n < c) (hc : c ≤ 65536) : wrap64 ((n : Int) + 1) = n + 1 := wrap_in (by omega) (by omega)
theorem wrap_up {i : Int} {m n c : Nat} (h0 : 0 ≤ i) (h1 : i + ((m + 1 : Nat) : Int) = n) (h2 : n ≤ c) (hc : c ≤ 65536) : wrap64 (i + 1) = i + 1 := wrap_in (by omega) (by omega)
theorem min_le2 {n a b : Nat} {l : Nat} (h : n = min a (b - l)) : n ≤ b := by omega
theorem sum_in {hd : Int} {n c : Nat} (h0 : 0 ≤ hd) (h1 : hd < c) (h2 : n < c) (hc : c ≤ 65536) : IntKind.i64.wrap (hd + n) = hd + n := IntWalk.i64_in _ (by omega)
theorem tmod_same {a k c : Int} (h : 0 ≤ a) (hk : k = a % c) : a.tmod c = k := by rw [Int.tmod_eq_emod_of_nonneg h]; exact hk.symm
theorem mod_far {c hd : Int} {j n : Nat} (hc : 0 < c) (hj : j < n) (hn : (n : Int) < c) : (hd + j) % c ≠ (hd + n) % c := by
  intro h
  have h1 := Int.emod_emod_of_dvd (hd + n - (hd + j)) (Int.dvd_refl c)
  have h2 : (hd + n - (hd + j)) % c = 0 := by rw [Int.sub_emod, h, Int.sub_self, Int.zero_emod]
  rw [show hd + (n : Int) - (hd + j) = ((n - j : Nat) : Int) by omega, Int.emod_eq_of_lt (by omega) (by omega)] at h2
  omega
theorem rd_set {xs : List Int} {k i : Int} {y : Int} (h0 : 0 ≤ k) (h1 : k < xs.length) (hi : 0 ≤ i) : rd (xs.set k.toNat y) i = if i = k then y else rd xs i := by
  unfold rd
  rw [List.getD_eq_getElem?_getD, List.getD_eq_getElem?_getD, List.getElem?_set]
  by_cases h : i = k
  · subst h
    rw [if_pos rfl, if_pos rfl, if_pos (by omega)]
    rfl
  · rw [if_neg h, if_neg (by omega)]
theorem wt_snoc {xs : List Int} {c : Nat} {hd y : Int} {wait : List Int} (hw : Wt xs c hd wait) (hl : wait.length < c) : Wt (xs.set ((hd + wait.length) % c).toNat y) c hd (wait ++ [y]) := by
  obtain ⟨a, b, d, e, f, k⟩ := hw
  have hc : (0 : Int) < c := by omega
  have hk0 : 0 ≤ (hd + wait.length) % (c : Int) := Int.emod_nonneg _ (by omega)
  have hk1 : (hd + wait.length) % (c : Int) < c := Int.emod_lt_of_pos _ hc
  refine ⟨by rw [List.length_set]; exact a, b, d, by rw [List.length_append]; simp only [List.length_cons, List.length_nil]; omega, f, fun j hj => ?_⟩
  rw [List.length_append] at hj
  simp only [List.length_cons, List.length_nil] at hj
  rw [rd_set hk0 (by omega) (Int.emod_nonneg _ (by omega))]
  by_cases h : j = wait.length
  · subst h
    rw [if_pos rfl]
    simp [List.getD_eq_getElem?_getD]
  · rw [if_neg (mod_far hc (by omega) (by omega)), k j (by omega)]
    simp [List.getD_eq_getElem?_getD, List.getElem?_append_left (show j < wait.length by omega)]

/-- What one byte's two stores leave. -/
theorem push_end {w : World} {g b c : Nat} {wt xs : List Int} {hd ci co y k : Int} (hne : g ≠ b) (hw : Wt xs c hd wt)
    (hs : w.heap[g]? = some (.cells #[.slice (some ⟨b, 0, none⟩) c c, .int .i64 hd, .int .i64 wt.length, .int .u64 ci, .int .u64 co] 49 (0, 0)))
    (hr : w.ownsRow 0 5 1 (.slice (some ⟨b, 0, none⟩) c c) c (nums .u8 xs)) (hl : wt.length < c) (hk : k = (hd + wt.length) % (c : Int)) :
    Rg ((w.setCell ⟨b, k.toNat, none⟩ (.int .u8 y)).setCell ⟨g, 2, none⟩ (.int .i64 ((wt.length : Int) + 1))) g b c (wt ++ [y]) ci co ∧
    Kept w ((w.setCell ⟨b, k.toNat, none⟩ (.int .u8 y)).setCell ⟨g, 2, none⟩ (.int .i64 ((wt.length : Int) + 1))) (fun k => k = g ∨ k = b) ∧
    ∀ base w0, base ≤ g → base ≤ b → Below base w0 w → Below base w0 ((w.setCell ⟨b, k.toNat, none⟩ (.int .u8 y)).setCell ⟨g, 2, none⟩ (.int .i64 ((wt.length : Int) + 1))) := by
  refine ⟨⟨hne, xs.set k.toNat y, hd, by rw [hk]; exact wt_snoc hw hl, ?_, ?_⟩, ?_, ?_⟩
  · have q1 := (setCell_far (w := w) hne k.toNat (.int .u8 y)).trans hs
    have q2 := Joins.block_setCell (i := 2) q1 (.int .i64 ((wt.length : Int) + 1))
    rw [q2, show ((wt ++ [y]).length : Int) = (wt.length : Int) + 1 by rw [List.length_append]; simp]
    simp
  · exact own_same (own_store hr k y).1 (setCell_far (Ne.symm hne) _ _)
  · exact ((Kept.refl w _).setCell (p := ⟨b, k.toNat, none⟩) (.inl (.inr rfl)) _).setCell (p := ⟨g, 2, none⟩) (.inl (.inl rfl)) _
  · intro base w0 hg hb h
    exact (h.setCell (p := ⟨b, k.toNat, none⟩) hb _).setCell (p := ⟨g, 2, none⟩) hg _
theorem count_end {w : World} {g b c : Nat} {wt : List Int} {ci co v : Int} (h : Rg w g b c wt ci co) : 
    Rg (w.setCell ⟨g, 3, none⟩ (.int .u64 v)) g b c wt v co := by
  obtain ⟨hne, xs, hd, hw, hs, hr⟩ := h
  refine ⟨hne, xs, hd, hw, ?_, own_same hr (setCell_far (Ne.symm hne) _ _)⟩
  have q2 := Joins.block_setCell (i := 3) hs (.int .u64 v)
  rw [q2]
  simp

set_option maxHeartbeats 8000000 in
theorem write_nil (w : World) (A : Option Addr) (l c : Nat) : Calls Try.prog 11 #[.pointer none, .slice A l c] w fun e w' => e = .returned (.int .i64 0) ∧ w = w' := by
  have e1 : decide ((l : Int) < 0) = false := decide_eq_false (by omega)
  have e2 : (if (0 : Int) < l then 0 else (l : Int)) = 0 := by split <;> omega
  have e3 : (if 0 < l then (0 : Int) else (l : Int)) = 0 := by split <;> omega
  go_enter Try.func11, Try.ntmps11
  go_wp2_with (go_at_call 12; refine (free_nil _).mono ?_; rintro e w2 ⟨rfl, rfl⟩)
  go_loopg [13] 0 (fun m v13 w' => v13 = .int .i64 0 ∧ Aside0 (w = w'))
  case atStart => exact ⟨rfl, ⟨rfl⟩⟩
  case round =>
    obtain ⟨rfl, HW⟩ := hrel
    cases gk with
    | zero =>
      go_wp2
      go_ret
      exact ⟨rfl, HW.out⟩
    | succ m =>
      go_wp2
      go_ret
      exact ⟨rfl, HW.out⟩
set_option maxHeartbeats 8000000 in
set_option maxRecDepth 100000 in
theorem write_calls (w : World) (g b c : Nat) (wait : List Int) (ci co ci2 : Int) (A : Option Addr) (cp : Nat) (p : List Int) (n : Nat) (hR : Rg w g b c wait ci co) (hp : Kd.C (Kd.int .u8) w A p.length p) (hA : ∀ ad, A = some ad → 0 < p.length → ad.block ≠ g ∧ ad.block ≠ b) (hc : p.length ≤ cp)
    (hn : n = min p.length (c - wait.length)) (hci : ci2 = IntKind.u64.wrap (ci + n)) :
    Calls Try.prog 11 #[.pointer (some ⟨g, 0, none⟩), .slice A p.length cp] w fun e w' => e = .returned (.int .i64 n) ∧ Rg w' g b c (wait ++ p.take n) ci2 co ∧ Kept w w' (fun k => k = g ∨ k = b) ∧ (∀ base w0, base ≤ g → base ≤ b → Below base w0 w → Below base w0 w') := by
  have HRG := Aside0.mk hR
  have HROOM := Aside0.mk hR.room
  have HP := Aside0.mk hp
  have HA := Aside0.mk hA
  have HN := Aside0.mk hn
  have HCI := Aside0.mk hci
  have HNE := Aside0.mk hR.1
  have e1 : min (p.length : Int) ((c : Int) - wait.length) = n := by have := hR.room; omega
  have e2 : (if (c : Int) - wait.length < p.length then (c : Int) - wait.length else p.length) = n := by have := hR.room; split <;> omega
  have e3 : (if (p.length : Int) < (c : Int) - wait.length then (p.length : Int) else (c : Int) - wait.length) = n := by have := hR.room; split <;> omega
  clear hR hp hA hn hci
  go_enter Try.func11, Try.ntmps11
  go_wp2_with (go_at_call 12; refine (free_calls w g b c wait ci co ((c : Int) - wait.length) HRG.out rfl).mono ?_; rintro e w2 ⟨rfl, rfl⟩)

  go_loopg [13] n (fun m v13 w' => ∃ i : Int, v13 = .int .i64 i ∧ Aside0 (0 ≤ i ∧ i + m = (n : Int)) ∧ Aside0 (Rg w' g b c (wait ++ p.take i.toNat) ci co) ∧ Aside0 (Kept w w' (fun k => k = g ∨ k = b)) ∧ Aside0 (∀ (base : Nat) (w0 : World), base ≤ g → base ≤ b → Below base w0 w → Below base w0 w'))
  case atStart => exact ⟨0, rfl, ⟨by omega⟩, ⟨by simpa using HRG.out⟩, ⟨Kept.refl _ _⟩, ⟨fun _ _ _ _ h => h⟩⟩
  case round =>
    clear HRG
    obtain ⟨i, rfl, HI, HRG, HK, HB⟩ := hrel
    cases gk with
    | zero =>
      have c0b : decide (i < (n : Int)) = false := decide_eq_false (by have := HI.out; omega)
      obtain ⟨hne, xs, hd, hw, hs, hr⟩ := HRG.out
      have g3 : wr.cell? ⟨g, 3, none⟩ = some (.int .u64 ci) := block_cell (i := 3) hs rfl
      have f3 := Joins.unfrozen_of_block hs 3
      have e11 : IntKind.u64.wrap (n : Int) = n := by have := HROOM.out; have := HN.out; unfold IntKind.wrap; simp [IntKind.signed, IntKind.bits]; omega
      clear hw hs hr
      go_wp2
      go_ret
      have hf := count_end (v := IntKind.u64.wrap (ci + n)) HRG.out
      rw [show i.toNat = n by have := HI.out; omega] at hf
      obtain rfl := HCI.out
      exact ⟨rfl, hf, HK.out.setCell (p := ⟨g, 3, none⟩) (.inl (.inl rfl)) _, fun base w0 h1 h2 h => (HB.out base w0 h1 h2 h).setCell (p := ⟨g, 3, none⟩) h1 _⟩
    | succ m =>
      have c0b : decide (i < (n : Int)) = true := decide_eq_true (by have := HI.out; omega)
      have p0 : 0 ≤ i := by have := HI.out; omega
      have q0 : i < (p.length : Int) := by have := HI.out; have := HN.out; omega
      obtain ⟨ad, ea, hx⟩ := Kd.at_int HP.out i p0 q0
      have hA2 := HA.out ad ea (by omega)
      replace hx := cell_kept hx HK.out (fun h => by have e4 : (ad.add i.toNat).block = ad.block := by unfold Addr.add; split <;> rfl
                                                     rw [e4] at h; rcases h with h | h; exact hA2.1 h; exact hA2.2 h)
      subst ea
      obtain ⟨hne, xs, hd, hw, hs, hr⟩ := HRG.out
      obtain ⟨nn, hnn⟩ : ∃ nn, nn = (wait ++ p.take i.toNat).length := ⟨_, rfl⟩
      have hlen : nn = wait.length + i.toNat := by rw [hnn, List.length_append, List.length_take]; omega
      have hroom : nn < c := by have := HI.out; have := HN.out; have := HROOM.out; omega
      have hw1 := hw.2.1
      have hw2 := hw.2.2.1
      obtain ⟨k, hk⟩ : ∃ k, k = (hd + (wait ++ p.take i.toNat).length) % (c : Int) := ⟨_, rfl⟩
      have hend := push_end (y := rd p i) hne hw hs hr (by rw [← hnn]; exact hroom) hk
      rw [← hnn] at hend hk hs
      have HEND := Aside0.mk hend
      have g0 : wr.cell? ⟨g, 0, none⟩ = some (.slice (some ⟨b, 0, none⟩) c c) := block_cell (i := 0) hs rfl
      have g1 : wr.cell? ⟨g, 1, none⟩ = some (.int .i64 hd) := block_cell (i := 1) hs rfl
      have g2 : wr.cell? ⟨g, 2, none⟩ = some (.int .i64 nn) := block_cell (i := 2) hs rfl
      have f2 := Joins.unfrozen_of_block hs 2
      have hc3 := HROOM.out
      have e4 : IntKind.i64.wrap (hd + nn) = hd + nn := sum_in hw1 hw2 hroom hc3.2.2
      have e12 : wrap64 ((nn : Int) + 1) = nn + 1 := wrap_lt hroom hc3.2.2
      have e13 : wrap64 (i + 1) = i + 1 := wrap_up p0 HI.out.2 (min_le2 HN.out) hc3.2.2
      have e5 : ¬ (c : Int) = 0 := by omega
      have e6 : ¬ c = 0 := by omega
      have e7 : (c == 0) = false := by simp; omega
      have e8 : decide (c = 0) = false := decide_eq_false (by omega)
      have e9 : (hd + nn) % (c : Int) = k := hk.symm
      have e10 : (hd + nn).tmod (c : Int) = k := tmod_same (Int.add_nonneg hw1 (Int.natCast_nonneg _)) hk
      have pk : 0 ≤ k := by rw [hk]; exact Int.emod_nonneg _ (by omega)
      have qk : k < (c : Int) := by rw [hk]; exact Int.emod_lt_of_pos _ (by omega)
      have hxb := own_at hr k pk qk
      have fb := hxb.2
      have xb := hxb.1
      have pk' : decide (0 ≤ k) = true := decide_eq_true pk
      have qk' : decide (k < (c : Int)) = true := decide_eq_true qk
      have hne' : b ≠ g := Ne.symm hne
      have hneB : (g == b) = false := by simpa using hne
      have hneB' : (b == g) = false := by simpa using hne'
      have HNN := Aside0.mk hnn
      clear hend hw hs hr hA2 hlen hroom hxb hc3 hk hnn
      replace pk := eq_true pk
      replace qk := eq_true qk
      replace p0 := eq_true p0
      replace q0 := eq_true q0
      go_upto_region 5 with (fail)
      go_still_tail 23, (by kernel_rfl)
      change wpList _ _ _ _ _ wr.drew
      go_wp2
      go_roundg m
      case measure => omega
      case rel =>
        obtain ⟨a1, a2, a3⟩ := HEND.out
        have q0' : i < (p.length : Int) := by have := HI.out; have := HN.out; omega
        have ew : wrap64 (i + 1) = i + 1 := e13
        rw [List.append_assoc, take_snoc p i HI.out.1 q0'] at a1
        exact ⟨_, rfl, ⟨by have := HI.out; omega⟩, ⟨by rw [ew]; exact a1.step rfl rfl⟩, ⟨HK.out.then_ a2 (fun _ h => .inl h)⟩, ⟨fun base w0 h1 h2 h => below_drew1 (a3 base w0 h1 h2 (HB.out base w0 h1 h2 h))⟩⟩
end Go.Proofs.Ytnblegepecmblaa.Ring
