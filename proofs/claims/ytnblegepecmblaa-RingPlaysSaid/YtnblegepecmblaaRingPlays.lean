/-
  The walk of the law RingPlays: it returns true and leaves what was there as it was. Conditions: none beyond the arguments' kinds.
-/
import Derived.Test.YtnblegepecmblaaRingRefX
namespace Go.Proofs.Ytnblegepecmblaa.Ring
open Go.RowKit Go.Proofs.YtnblegepecmblaaW.PrintWords Go.Proofs.YtnblegepecmblaaW.PrintLast Go.Proofs.YtnblegepecmblaaW.PrintMore
attribute [local go_sem] max2_int min2_int max_two min_two max_three min_three max_four min_four
set_option linter.unusedVariables false
set_option linter.unusedSimpArgs false

structure SM where
  f0 : Bool
  f1 : Int
  f2 : List Int
def zM : SM := ⟨false, 0, []⟩
def kM : Kd SM := Kd.iso (Kd.pair Kd.bool (Kd.pair (Kd.int .i64) (Kd.slice 5 (Kd.int .u8)))) (fun x : SM => (x.f0, x.f1, x.f2))
theorem kM_open {w : World} {x : SM} {cs : List Value} (h : kM.K w x cs) : ∃ A0 c0, cs = [.bool x.f0, .int .i64 x.f1, .slice A0 x.f2.length c0] ∧ x.f2.length ≤ c0 ∧ (Kd.int .u8).C w A0 x.f2.length x.f2 := by
  obtain ⟨_, _, rfl, rfl, _, _, rfl, rfl, A0, c0, rfl, l0, g0⟩ := h
  exact ⟨A0, c0, rfl, l0, g0⟩
def rdM (xs : List SM) (i : Int) : SM := xs.getD i.toNat zM
theorem at_M {w : World} {A : Option Addr} {n : Nat} {xs : List SM} (h : Kd.C kM w A n xs) (i : Int) (h0 : 0 ≤ i) (h1 : i < n) : ∃ ad A0 c0, A = some ad ∧ w.cell? (ad.add (i.toNat * 3)) = some (.bool (rdM xs i).f0) ∧
    w.cell? ⟨(ad.add (i.toNat * 3)).block, (ad.add (i.toNat * 3)).off + 1, none⟩ = some (.int .i64 (rdM xs i).f1) ∧
    w.cell? ⟨(ad.add (i.toNat * 3)).block, (ad.add (i.toNat * 3)).off + 2, none⟩ = some (.slice A0 (rdM xs i).f2.length c0) ∧ (rdM xs i).f2.length ≤ c0 ∧ (Kd.int .u8).C w A0 (rdM xs i).f2.length (rdM xs i).f2 := by
  obtain ⟨ad, c, e, _, hK, hc0⟩ := Kd.C_get h zM i h0 h1
  have hc : ∀ j u, c[j]? = some u → w.cell? (ad.add (i.toNat * 3 + j)) = some u := hc0
  obtain ⟨A0, c0, rfl, l0, g0⟩ := kM_open hK
  exact ⟨ad, A0, c0, e, hc 0 _ rfl, by rw [← add_field _ _ 1 (by omega)]; exact hc 1 _ rfl, by rw [← add_field _ _ 2 (by omega)]; exact hc 2 _ rfl, l0, g0⟩
theorem ref_new (w : World) (c : Nat) (o : Obj) (l : Nat) (hl : l = w.heap.size) (ho : o = .cells #[.slice none 0 0, .int .i64 (c : Int), .int .u64 0, .int .u64 0] 39) : Ln (w.alloc o) l c [] 0 0 := by
  subst hl
  subst ho
  exact ⟨_, alloc_last w _, .inl ⟨rfl, rfl⟩⟩
theorem arg_lt {w : World} {A : Option Addr} {p : List Int} {l : Nat} (hp : Kd.C (Kd.int .u8) w A p.length p) (hl : w.heap.size ≤ l) : ∀ ad, A = some ad → 0 < p.length → ad.block < l := by
  intro ad e hlt
  obtain ⟨ad', c', e', hlen', hK', hc'⟩ := Kd.C_get hp (0 : Int) 0 (Int.le_refl _) (by omega)
  obtain rfl := Option.some.inj (e.symm.trans e')
  obtain rfl : c' = [Value.int .u8 (rd p 0)] := hK'
  have hq := hc' 0 _ rfl
  have h2 : ad.block < w.heap.size := World.block_lt_of_cell? w _ hq
  omega
theorem one_big {a s : Nat} (hs : s = a + 1) (h : s ≤ 1000000000000000) : wrap64 ((a : Int) + 1) = s := by unfold wrap64; omega
theorem Ln.drew {w : World} {l : Nat} {room : Int} {wait : List Int} {ci co : Int} (h : Ln w l room wait ci co) : Ln w.drew l room wait ci co := h.step (w1 := w.drew) (fun _ _ _ => rfl)

set_option maxHeartbeats 8000000 in
set_option maxRecDepth 100000 in
theorem plays.calls (room : Int) (A : Option Addr) (cp : Nat) (script : List SM) (r : Bool) (w : World) (hp : Kd.C kM w A script.length script) (hc : script.length ≤ cp) (h : -9223372036854775808 ≤ room ∧ room ≤ 9223372036854775807 ∧ script.length ≤ 140737488351232) :
    Calls Try.prog 5 #[.int .i64 room, .slice A script.length cp] w fun e w' => e = .returned (.bool true) ∧ Below w.heap.size w w' := by
  have HP := Aside0.mk hp
  have HL := Aside0.mk h.2.2
  clear hp hc h
  by_cases hr : room < 1 ∨ 65536 < room
  · have HRR := Aside0.mk hr
    by_cases h1 : room < 1
    all_goals
      first
        | (have c1 : decide (room < 1) = true := decide_eq_true h1)
        | (have c1 : decide (room < 1) = false := decide_eq_false h1
           have c2 : decide (65536 < room) = true := decide_eq_true (by omega))
      clear hr h1
      go_enter Try.func5, Try.ntmps5
      go_wp2_with (first
        | (go_at_call 9; refine (awake_calls _).mono ?_; rintro e w2 ⟨rfl, hb2⟩; have HB2 := Aside0.mk hb2; clear hb2)
        | (go_at_call 10; refine (new_refuses _ _ HRR.out).mono ?_; rintro e w3 ⟨rfl, rfl⟩))
      go_ret
      exact ⟨rfl, HB2.out⟩
  · obtain ⟨c, rfl⟩ : ∃ c : Nat, room = c := ⟨room.toNat, by omega⟩
    have hc2 : 1 ≤ c := by omega
    have hc3 : c ≤ 65536 := by omega
    have c1 : decide ((c : Int) < 1) = false := decide_eq_false (by omega)
    have c2 : decide (65536 < (c : Int)) = false := decide_eq_false (by omega)
    have HC2 := Aside0.mk hc2
    have HC3 := Aside0.mk hc3
    clear hr hc2 hc3
    go_enter Try.func5, Try.ntmps5
    go_wp2_with (first
      | (go_at_call 9; refine (awake_calls _).mono ?_; rintro e w2 ⟨rfl, hb2⟩; have HB2 := Aside0.mk hb2; clear hb2)
      | (go_at_call 10; refine (new_calls_int _ _ c rfl HC2.out HC3.out).mono ?_; rintro e w3 ⟨g, b, rfl, hr, hb, hg1, hb1⟩; have HR3 := Aside0.mk hr; have HB3 := Aside0.mk (below_step HB2.out hb); have HG := Aside0.mk (And.intro (Nat.le_trans HB2.out.size hg1) (Nat.le_trans HB2.out.size hb1)); have HGL := Aside0.mk hr.lt; clear hr hb hg1 hb1))
    clear c1 c2
    have HLN := Aside0.mk (ref_new w3 c _ w3.heap.size rfl rfl)
    have HR4 := Aside0.mk (HR3.out.step (w1 := w3.alloc (.cells #[.slice none 0 0, .int .i64 (c : Int), .int .u64 0, .int .u64 0] 39)) (Below.heap_alloc _ _ _ HGL.out.1) (Below.heap_alloc _ _ _ HGL.out.2))
    have HB4 := Aside0.mk (below_alloc HB3.out (.cells #[.slice none 0 0, .int .i64 (c : Int), .int .u64 0, .int .u64 0] 39))
    have HWL := Aside0.mk (show w.heap.size ≤ w3.heap.size from HB3.out.size)
    generalize w3.alloc (.cells #[.slice none 0 0, .int .i64 (c : Int), .int .u64 0, .int .u64 0] 39) = wa at HLN HR4 HB4 ⊢
    clear HR3 HB3 HB2
    generalize w3.heap.size = l at HLN HGL HWL ⊢
    go_loopg [8] script.length (fun m v8 w' => ∃ (i : Nat) (wait : List Int) (ci co : Int), v8 = .int .i64 i ∧ Aside0 (i + m = script.length) ∧ Aside0 (Rg w' g b c wait ci co) ∧ Aside0 (Ln w' l c wait ci co) ∧ Aside0 (Below w.heap.size w w'))
    case atStart => exact ⟨0, [], 0, 0, rfl, ⟨Nat.zero_add _⟩, HR4, HLN, HB4⟩
    case round =>
      clear HR4 HLN HB4
      obtain ⟨i, wait, ci, co, rfl, HI, HR, HN, HB⟩ := hrel
      cases gk with
      | zero =>
        have c0b : decide ((i : Int) < (script.length : Int)) = false := decide_eq_false (by have := HI.out; omega)
        have c0c : decide (i < script.length) = false := decide_eq_false (by have := HI.out; omega)
        go_wp2
        go_ret
        exact ⟨rfl, HB.out⟩
      | succ m =>
        have hi : i < script.length := by have := HI.out; omega
        have c0b : decide ((i : Int) < (script.length : Int)) = true := decide_eq_true (by omega)
        have c0c : decide (i < script.length) = true := decide_eq_true hi
        have p0 : (0 : Int) ≤ (i : Int) := Int.natCast_nonneg _
        have q0 : (i : Int) < (script.length : Int) := Int.ofNat_lt.2 hi
        obtain ⟨ad, A0, c0, ea, hx0, hx1, hx2, hlc, hq⟩ := at_M HP.out i p0 q0
        cases ea
        simp only [Int.toNat_natCast] at hx0 hx1 hx2
        have HX2 := Aside0.mk hx2
        have HX1 := Aside0.mk hx1
        replace hx0 := (HB.out.cell (World.block_lt_of_cell? w _ hx0)).trans hx0
        replace hx1 := (HB.out.cell (World.block_lt_of_cell? w _ hx1)).trans hx1
        replace hx2 := (HB.out.cell (World.block_lt_of_cell? w _ hx2)).trans hx2
        generalize rdM script i = x at hx0 hx1 hx2 hlc hq HX1 HX2
        obtain ⟨tk, n, q⟩ := x
        dsimp only at hx0 hx1 hx2 hlc hq HX1 HX2
        have HQ := Aside0.mk hq
        have HLC := Aside0.mk hlc
        have q1 := eq_true hi
        replace p0 := eq_true p0
        replace q0 := eq_true q0
        clear hi hlc hq
        go_upto_if 55 with (fail)
        go_cut [9, 10] from 45 to 151 (fun v9 v10 wc => ∃ (wait2 : List Int) (ci2 co2 : Int), Aside0 (Rg wc g b c wait2 ci2 co2) ∧ Aside0 (Ln wc l c wait2 ci2 co2) ∧ Aside0 (Below w.heap.size w wc))
        case first =>
          cases tk with
          | true =>
            by_cases hn : 0 ≤ n ∧ n ≤ wait.length
            · obtain ⟨k, rfl⟩ : ∃ k : Nat, n = k := ⟨n.toNat, (Int.toNat_of_nonneg hn.1).symm⟩
              have HK := Aside0.mk (show k ≤ wait.length from Int.ofNat_le.1 hn.2)
              clear hn
              go_wp2_with (first
                | (go_at_call 17; refine (ref_take wr l c wait ci co k HN.out HK.out (by have := HK.out; have := HR.out.room; omega)).mono ?_; rintro e w5 ⟨rfl, hn5, hb5⟩; have HN5 := Aside0.mk hn5; have HB5 := Aside0.mk (HB.out.trans (hb5.mono HWL.out)); have HR5 := Aside0.mk (HR.out.step (hb5.block g HGL.out.1) (hb5.block b HGL.out.2)); have hx5 := (HB5.out.cell (World.block_lt_of_cell? w _ HX1.out)).trans HX1.out; clear hn5 hb5)
                | (go_at_call 13; refine (take_calls w5 g b c wait ci co k _ HR5.out (Int.natCast_nonneg _) (Int.ofNat_le.2 HK.out) rfl).mono ?_; rintro e w6 ⟨rfl, hr6, hk6, hb6⟩; have HR6 := Aside0.mk (show Rg w6 g b c (wait.drop k) ci _ from hr6); have HN6 := Aside0.mk (HN5.out.step (w1 := w6) (fun j hj hlt => hk6.2 j hlt (fun h => by have := HGL.out; rcases h with h | h <;> omega))); have HB6 := Aside0.mk (hb6 _ _ HG.out.1 HB5.out); clear hr6 hk6 hb6))
              go_meet
              exact ⟨_, _, _, HR6, HN6, HB6⟩
            · have HREF := Aside0.mk (show n < 0 ∨ (wait.length : Int) < n by omega)
              clear hn
              go_wp2_with (first
                | (go_at_call 17; refine (ref_refuses wr l c wait ci co n HN.out HREF.out).mono ?_; rintro e w5 ⟨rfl, rfl⟩)
                | (go_at_call 13; refine (take_refuses wr g b c wait ci co n HR.out HREF.out).mono ?_; rintro e w6 ⟨rfl, rfl⟩))
              go_meet
              exact ⟨_, _, _, HR, HN, HB⟩
          | false =>
            obtain ⟨nn, hnn⟩ : ∃ nn, nn = min q.length (c - wait.length) := ⟨_, rfl⟩
            have HNN := Aside0.mk hnn
            clear hnn
            go_upto_region 17 with (fail)
            have gA : wr.drew.cell? ⟨(ad.add (i * 3)).block, (ad.add (i * 3)).off + 2, none⟩ = some (.slice A0 q.length c0) := hx2
            go_region_held_law (fun W => W.cell? ⟨(ad.add (i * 3)).block, (ad.add (i * 3)).off + 2, none⟩ = some (.slice A0 q.length c0)) (first | exact gC | exact gB | exact gA) (first
              | (go_at_call 11; refine (write_is (w := wr.drew) q.length nn rfl (HR.out.step rfl rfl) (Kd.C_drew (Kd.C_below HQ.out HB.out)) (arg_far HQ.out HG.out.1 HG.out.2) HLC.out HNN.out).mono ?_; rintro e w5 ⟨rfl, hr5, hk5, hb5⟩; have HR5 := Aside0.mk hr5; have HN5 := Aside0.mk (HN.out.drew.step (w1 := w5) (fun j hj hlt => hk5.2 j hlt (fun h => by have := HGL.out; rcases h with h | h <;> omega))); have HB5 := Aside0.mk (hb5 _ _ HG.out.1 HG.out.2 (below_drew1 HB.out)); have gB := (HB5.out.cell (World.block_lt_of_cell? w _ HX2.out)).trans HX2.out; clear hr5 hk5 hb5)
              | (go_at_call 18; refine (ref_write w5 l c wait ci co A0 c0 q nn HN5.out (Kd.C_below HQ.out HB5.out) (arg_lt HQ.out HWL.out) HNN.out HC3.out HR.out.room.1).mono ?_; rintro e w6 ⟨rfl, hn6, hb6⟩; have HN6 := Aside0.mk hn6; have HR6 := Aside0.mk (HR5.out.step (hb6.block g HGL.out.1) (hb6.block b HGL.out.2)); have HB6 := Aside0.mk (HB5.out.trans (hb6.mono HWL.out)); have gC := (HB6.out.cell (World.block_lt_of_cell? w _ HX2.out)).trans HX2.out; clear hn6 hb6))
            all_goals
              go_wp2
              go_meet
              exact ⟨_, _, _, HR6, HN6, HB6⟩
        case rest =>
          obtain ⟨wait2, ci2, co2, HR2, HN2, HB2⟩ := hcut
          clear HR HN HB hx0 hx1 hx2 p0 q0 q1 c0b c0c HX1 HX2 HQ HLC
          obtain ⟨v, hs, hw⟩ := HN2.out
          obtain ⟨Aw, cw, rfl, hlc⟩ := hw.slice
          obtain ⟨wl, hwl⟩ : ∃ wl, wl = wait2.length := ⟨_, rfl⟩
          have hwc : wl ≤ c := by rw [hwl]; exact HR2.out.room.1
          obtain ⟨fr, hfr⟩ : ∃ fr, fr = c - wl := ⟨_, rfl⟩
          have HFR := Aside0.mk (show wait2.length + fr = c by rw [← hwl, hfr]; exact Nat.add_sub_cancel' hwc)
          have HWLE := Aside0.mk hwl.symm
          have d1 := (sub_in hfr hwc HC3.out).2
          have HW := Aside0.mk hw
          rw [← hwl] at hs
          have HS := Aside0.mk hs
          clear hs hw hlc hwl hwc hfr
          go_upto_region 19 with (fail)
          have gA0 : wc.drew.cell? ⟨l, 0, none⟩ = some (.slice Aw wl cw) := block_cell (i := 0) (w := wc.drew) HS.out rfl
          have gA2 : wc.drew.cell? ⟨l, 2, none⟩ = some (.int .u64 ci2) := block_cell (i := 2) (w := wc.drew) HS.out rfl
          have gA3 : wc.drew.cell? ⟨l, 3, none⟩ = some (.int .u64 co2) := block_cell (i := 3) (w := wc.drew) HS.out rfl
          have hcvA := row_string wc.drew Aw wait2 wl cw HWLE.out (Kd.C_drew HW.out.reads)
          go_region_held_law (fun W => W.cell? ⟨l, 0, none⟩ = some (.slice Aw wl cw) ∧ W.cell? ⟨l, 2, none⟩ = some (.int .u64 ci2) ∧ W.cell? ⟨l, 3, none⟩ = some (.int .u64 co2) ∧ (convert 22 9 (.slice Aw wl cw)).run Try.prog W = .ok (.string (strOfNums wait2)) W) (first | exact ⟨gB0, gB2, gB3, hcvB⟩ | exact ⟨gA0, gA2, gA3, hcvA⟩) (first
            | (go_at_call 15; refine (peek_calls wc.drew _ _ _ _ _ _ (HR2.out.step rfl rfl)).mono ?_; rintro e w7 ⟨v7, rfl, hr7, hb7⟩; have hcvP := peek_string (W0 := w7) hr7; have HB7 := Aside0.mk (below_step (below_drew1 HB2.out) hb7); have HR7 := Aside0.mk ((HR2.out.step (w1 := wc.drew) rfl rfl).below hb7); have hn7 := HN2.out.drew.step (w1 := w7) (fun j _ hlt => hb7.block j hlt); have HN7 := Aside0.mk hn7; have hs7 := (hb7.block l (HN2.out.drew.lt)).trans HS.out; have gB0 := block_cell (i := 0) hs7 rfl; have gB2 := block_cell (i := 2) hs7 rfl; have gB3 := block_cell (i := 3) hs7 rfl; have hcvB := row_string w7 Aw wait2 wl cw HWLE.out (HW.out.step (w1 := w7) (fun j _ hlt => hb7.block j hlt)).reads; clear hr7 hb7 hn7 hs7)
            | (go_at_call 14; refine (len_is (w := w7) wl HR7.out HWLE.out).mono ?_; rintro e w8 ⟨rfl, rfl⟩)
            | (go_at_call 19; refine (cap_calls w7 _ _ _ _ _ _ HR7.out).mono ?_; rintro e w8 ⟨rfl, rfl⟩)
            | (go_at_call 12; refine (free_is (w := w7) fr HR7.out HFR.out).mono ?_; rintro e w8 ⟨rfl, rfl⟩)
            | (go_at_call 20; refine (in_calls w7 _ _ _ _ _ _ HR7.out).mono ?_; rintro e w8 ⟨rfl, rfl⟩)
            | (go_at_call 16; refine (out_calls w7 _ _ _ _ _ _ HR7.out).mono ?_; rintro e w8 ⟨rfl, rfl⟩))
          all_goals
            go_wp2
            go_roundg m
            case measure => omega
            case rel => exact ⟨i + 1, wait2, ci2, co2, by first | rfl | exact congrArg (Value.int .i64) (one_big (a := i) rfl (by have := HI.out; have := HL.out; omega)), ⟨by have := HI.out; omega⟩, HR7, HN7, HB7⟩
end Go.Proofs.Ytnblegepecmblaa.Ring
