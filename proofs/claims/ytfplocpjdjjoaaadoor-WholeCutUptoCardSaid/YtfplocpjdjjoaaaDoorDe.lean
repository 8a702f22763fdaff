/-
  The library's contracts at this program's numbers: bytes.makeASCIISet, its test, utf8.DecodeRune. Conditions: none.
  scheme.small, scheme.Allowed, bytes.shouldUseASCIISet, as the kit's print wrote them for this claim (a part of its text PWholeCutx3).
  scheme.Allowed in plain words.
  bytes.IndexAny at ":/?#", of more than eight bytes.
  Conditions: as each theorem says.
-/
import Derived.Shelf.Bytes.SlTrimWalks
import Derived.Shelf.Spec.DecodeRune
import Derived.Test.YtfplocpjdjjoaaaDoorProg
import Derived.Test.YtfplocpjdjjoaaaDoorPWholeCutx0
import Derived.Test.YtfplocpjdjjoaaaDoorDd
import Derived.Test.YtfplocpjdjjoaaaDoorGe
import Derived.LoopTactic
namespace Go.Proofs
open Go.Shelf
def Tryd.cutB11_ren : Go.Shelf.Ren := ⟨fun | 11 => 135 | n => n, fun | 27 => 196 | n => n, fun | n => n⟩
theorem Tryd.cutB11 : Go.Proofs.SlLaysV.n11 Tryd.prog Tryd.cutB11_ren := {
  mixed := by kernel_rfl
  f11 := Tryd.func135.trans (congrArg some (by kernel_rfl))
  t0 := Tryd.underlying0
  a0 := Tryd.isAgg0
  z0 := Tryd.sizeOf0
  v0 := Tryd.zeroValue0
  t3 := Tryd.underlying3
  a3 := Tryd.isAgg3
  z3 := Tryd.sizeOf3
  v3 := Tryd.zeroValue3
  t4 := Tryd.underlying4
  a4 := Tryd.isAgg4
  z4 := Tryd.sizeOf4
  v4 := Tryd.zeroValue4
  t5 := Tryd.underlying5
  a5 := Tryd.isAgg5
  z5 := Tryd.sizeOf5
  v5 := Tryd.zeroValue5
  t9 := Tryd.underlying9
  a9 := Tryd.isAgg9
  z9 := Tryd.sizeOf9
  v9 := Tryd.zeroValue9
  t27 := Tryd.underlying196
  a27 := Tryd.isAgg196
  z27 := Tryd.sizeOf196 }
def Tryd.cutB16_ren : Go.Shelf.Ren := ⟨fun | 16 => 136 | n => n, fun | 27 => 196 | 31 => 221 | n => n, fun | n => n⟩
theorem Tryd.cutB16 : Go.Proofs.SlLaysV.n16 Tryd.prog Tryd.cutB16_ren := {
  mixed := by kernel_rfl
  f16 := Tryd.func136.trans (congrArg some (by kernel_rfl))
  t0 := Tryd.underlying0
  a0 := Tryd.isAgg0
  z0 := Tryd.sizeOf0
  v0 := Tryd.zeroValue0
  t4 := Tryd.underlying4
  a4 := Tryd.isAgg4
  z4 := Tryd.sizeOf4
  v4 := Tryd.zeroValue4
  t5 := Tryd.underlying5
  a5 := Tryd.isAgg5
  z5 := Tryd.sizeOf5
  v5 := Tryd.zeroValue5
  t27 := Tryd.underlying196
  a27 := Tryd.isAgg196
  z27 := Tryd.sizeOf196
  t31 := Tryd.underlying221
  a31 := Tryd.isAgg221
  z31 := Tryd.sizeOf221
  v31 := Tryd.zeroValue221 }
def Tryd.cutD32_ren : Go.Shelf.Ren := ⟨fun | 32 => 137 | 49 => 160 | n => n, fun | 30 => 22 | 33 => 199 | 25 => 179 | 66 => 231 | 68 => 233 | 69 => 234 | n => n, fun | 2 => 3 | 3 => 4 | n => n⟩
theorem Tryd.cutD32 : Go.Proofs.Lays7.n32 Tryd.prog Tryd.cutD32_ren := {
  mixed := by kernel_rfl
  f32 := Tryd.func137.trans (congrArg some (by kernel_rfl))
  f49 := Tryd.func160.trans (congrArg some (by kernel_rfl))
  t0 := Tryd.underlying0
  a0 := Tryd.isAgg0
  z0 := Tryd.sizeOf0
  v0 := Tryd.zeroValue0
  i0 := by kernel_rfl
  t3 := Tryd.underlying3
  a3 := Tryd.isAgg3
  z3 := Tryd.sizeOf3
  v3 := Tryd.zeroValue3
  i3 := by kernel_rfl
  t4 := Tryd.underlying4
  a4 := Tryd.isAgg4
  z4 := Tryd.sizeOf4
  v4 := Tryd.zeroValue4
  i4 := by kernel_rfl
  t5 := Tryd.underlying5
  a5 := Tryd.isAgg5
  z5 := Tryd.sizeOf5
  v5 := Tryd.zeroValue5
  i5 := by kernel_rfl
  t21 := Tryd.underlying21
  a21 := Tryd.isAgg21
  z21 := Tryd.sizeOf21
  v21 := Tryd.zeroValue21
  i21 := by kernel_rfl
  t25 := Tryd.underlying179
  a25 := Tryd.isAgg179
  z25 := Tryd.sizeOf179
  v25 := Tryd.zeroValue179
  i25 := by kernel_rfl
  t30 := Tryd.underlying22
  a30 := Tryd.isAgg22
  z30 := Tryd.sizeOf22
  v30 := Tryd.zeroValue22
  i30 := by kernel_rfl
  t33 := Tryd.underlying199
  a33 := Tryd.isAgg199
  z33 := Tryd.sizeOf199
  v33 := Tryd.zeroValue199
  i33 := by kernel_rfl
  t66 := Tryd.underlying231
  a66 := Tryd.isAgg231
  z66 := Tryd.sizeOf231
  t68 := Tryd.underlying233
  a68 := Tryd.isAgg233
  z68 := Tryd.sizeOf233
  v68 := Tryd.zeroValue233
  i68 := by kernel_rfl
  t69 := Tryd.underlying234
  a69 := Tryd.isAgg234
  z69 := Tryd.sizeOf234
  v69 := Tryd.zeroValue234
  i69 := by kernel_rfl
  g2 := by kernel_rfl
  g3 := by kernel_rfl }
end Go.Proofs
namespace Go.Proofs.YtfplocpjdjjoaaaDoor.PWholeCut
open Go.RowKit Go.Proofs.YtfplocpjdjjoaaaDoorW.PrintWords Go.Proofs.YtfplocpjdjjoaaaDoorW.PrintLast Go.Proofs.YtfplocpjdjjoaaaDoorW.PrintMore
attribute [local go_sem] max2_int min2_int max_two min_two max_three min_three max_four min_four   -- for this text's walks alone
set_option linter.unusedVariables false
set_option linter.unusedSimpArgs false


/-! ### bytes_shouldUseASCIISet: function 134 -/
def bytes_shouldUseASCIISet.f (a0 : Int) : Option (Bool) := some (decide (a0 > 8))
set_option maxHeartbeats 8000000 in
set_option maxRecDepth 100000 in
theorem bytes_shouldUseASCIISet.calls (a0 : Int) (r : Bool) (w : World) (h : bytes_shouldUseASCIISet.f a0 = some r) :
    Calls Tryd.prog 134 #[.int .i64 a0] w fun e w' => e = .returned (.bool r) ∧ Drawn0 w w' := by
  have H : (some (decide (a0 > 8))) = some r := h
  clear h
  obtain rfl := Option.some.inj H
  go_enter Tryd.func134, Tryd.ntmps134
  go_wp2
  go_ret
  exact ⟨by first | rfl | (simp; done) | (simp [*]; done), by repeat (first | exact Drawn0.refl _ | apply Drawn0.step)⟩

/-! ### scheme_small: function 139 -/
def scheme_small.l0 : Nat → List Int → List Int → Int → Int → Option (List Int)
  | 0, _, _, _, _ => none
  | k + 1, x3, x9, x10, x11 => if x11 < x10 then (if 0 ≤ x11 then (if x11 < (x9.length : Int) then (if (rd x9 x11) ≥ 65 then (if (rd x9 x11) ≤ 90 then (if x11 < (x3.length : Int) then (scheme_small.l0 k (x3.set (x11 : Int).toNat (((rd x9 x11) + 32) % 256)) x9 x10 (wrap64 (x11 + 1))) else (none)) else (if x11 < (x3.length : Int) then (scheme_small.l0 k (x3.set (x11 : Int).toNat (rd x9 x11)) x9 x10 (wrap64 (x11 + 1))) else (none))) else (if x11 < (x3.length : Int) then (scheme_small.l0 k (x3.set (x11 : Int).toNat (rd x9 x11)) x9 x10 (wrap64 (x11 + 1))) else (none))) else (none)) else (none)) else (some x3)
def scheme_small.f (k : Nat) (l0 : List Int) : Option (List Int) := if 0 ≤ (l0.length : Int) then (if ((l0.length : Int) : Int).toNat ≤ 281474976710656 then (scheme_small.l0 k (List.replicate ((l0.length : Int) : Int).toNat 0) l0 (l0.length : Int) 0) else (none)) else (none)
theorem scheme_small.mono_l : ∀ k, (∀ y0 y1 y2 y3, LeO (scheme_small.l0 k y0 y1 y2 y3) (scheme_small.l0 (k + 1) y0 y1 y2 y3))
  | 0 => fun _ _ _ _ r h => by simp [scheme_small.l0] at h
  | k + 1 => by
    have ih0 := scheme_small.mono_l k
    · intro y0 y1 y2 y3
      unfold scheme_small.l0
      repeat' first
      | (with_reducible exact ih0 _ _ _ _)
      | (with_reducible exact LeO.refl _)
      | (with_reducible exact LeO.none _)
      | (with_reducible refine LeO.ite ?_ ?_)
      | (with_reducible refine LeO.bind ?_ (fun _ => ?_))
      | exact ih0 _ _ _ _
      | exact LeO.none _
      | refine LeO.ite ?_ ?_
      | refine LeO.bind ?_ (fun _ => ?_)
theorem scheme_small.mono : ∀ a0 k, LeO (scheme_small.f k a0) (scheme_small.f (k + 1) a0) := by
  intro a0 k
  have ih0 := scheme_small.mono_l k
  unfold scheme_small.f
  repeat' first
      | (with_reducible exact ih0 _ _ _ _)
      | (with_reducible exact LeO.refl _)
      | (with_reducible exact LeO.none _)
      | (with_reducible refine LeO.ite ?_ ?_)
      | (with_reducible refine LeO.bind ?_ (fun _ => ?_))
      | exact ih0 _ _ _ _
      | exact LeO.none _
      | refine LeO.ite ?_ ?_
      | refine LeO.bind ?_ (fun _ => ?_)
set_option maxHeartbeats 8000000 in
set_option maxRecDepth 100000 in
theorem scheme_small.calls (k : Nat) (A0 : Option Addr) (c0 : Nat) (l0 : List Int) (r : List Int) (w : World) (hr0 : Kd.C (Kd.int .u8) w A0 l0.length l0) (hc0 : l0.length ≤ c0) (h : scheme_small.f k l0 = some r) :
    Calls Tryd.prog 139 #[.slice A0 l0.length c0] w fun e w' => ∃ v0_ : Value, e = .returned (v0_) ∧ Kd.R (Kd.int .u8) 5 w' w.heap.size (fun _ => True) v0_ r ∧ Below w.heap.size w w' := by
  have HR0 := Aside0.mk hr0
  have HC0 := Aside0.mk hc0
  clear hr0 hc0
  have HB := Aside0.mk (Below.refl w.heap.size w)
  have H : (if 0 ≤ (l0.length : Int) then (if ((l0.length : Int) : Int).toNat ≤ 281474976710656 then (scheme_small.l0 k (List.replicate ((l0.length : Int) : Int).toNat 0) l0 (l0.length : Int) 0) else (none)) else (none)) = some r := h
  clear h
  by_cases c2 : 0 ≤ (l0.length : Int)
  · rw [if_pos c2] at H
    have c2b0 := eq_true c2
    have c2b1 : decide (0 ≤ (l0.length : Int)) = true := decide_eq_true c2
    clear c2
    by_cases c3 : ((l0.length : Int) : Int).toNat ≤ 281474976710656
    · rw [if_pos c3] at H
      have c3b0 := eq_true c3
      have c3b1 : decide (((l0.length : Int) : Int).toNat ≤ 281474976710656) = true := decide_eq_true c3
      clear c3
      obtain ⟨y210, hy210⟩ : ∃ y_ : List Int, y_ = (List.replicate ((l0.length : Int) : Int).toNat 0) := ⟨_, rfl⟩
      replace H : (scheme_small.l0 k y210 l0 (l0.length : Int) 0) = some r := by first | (rw [hy210]; with_reducible exact H) | (have H2_ := (Option.bind_some _ _).symm.trans H; rw [hy210]; with_reducible exact H2_) | (have H2_ := (Option.bind_some _ _).symm.trans H; with_reducible exact H2_) | with_reducible exact H | (rw [hy210]; exact H) | exact H
      have Ny210 := Aside0.mk hy210
      clear hy210
      have H' := Aside0.mk H
      clear H
      go_enter Tryd.func139, Tryd.ntmps139
      go_wp2_with (first | ((with_reducible refine gate_dst (N := 8) rfl ?_); refine Kd.R_make (Kd.int .u8) _ 5 rfl (N := 8) rfl 22 _ _ rfl (l0.length : Int) rfl rfl Tryd.underlying22 (.int .u8 0) 1 info5 rfl (by decide) (by omega) 0 (ok := fun _ => True) (okp := fun _ => True) rfl (fun _ hk => hk) trivial (of_decide_eq_true (by first | (with_reducible assumption) | assumption)) (Nat.le_trans (Nat.mul_le_mul_right _ (of_decide_eq_true (by first | (with_reducible assumption) | assumption) : (l0.length : Int).toNat ≤ 281474976710656)) (by omega)) (Below.refl _ _) (Nat.le_refl _) ?_; intro v211 w4 ho5 hb hg_ hnew_; clear hg_ hnew_; (first | rw [← Ny210.out] at ho5 | (simp only [Int.reduceToNat] at ho5; rw [← Ny210.out] at ho5)); have n0_ := Aside0.mk (Kd.R_lower ho5 (below_size (by repeat (first | (with_reducible first | exact HB.out | apply below_alloc | apply pw_below_drewN | apply below_drew1) | exact HB.out)))); have n1_ := Aside0.mk (below_step (by repeat (first | (with_reducible first | exact HB.out | apply below_alloc | apply pw_below_drewN | apply below_drew1) | exact HB.out)) hb); clear HB; have HO212 := n0_; have HB := n1_; clear n0_ n1_; clear hb ho5))
      go_loopg [11] k (fun kq v11 w' => ∃ (x3_1 : List Int) (x11_1 : Int), v11 = .int .i64 x11_1 ∧ Aside0 (scheme_small.l0 kq x3_1 l0 (l0.length : Int) x11_1 = some r) ∧ Aside0 (kq ≤ k) ∧ Aside0 (Kd.R (Kd.int .u8) 5 w' w.heap.size (fun _ => True) v211 x3_1) ∧ Aside0 (Below w.heap.size w w'))
      case atStart => exact ⟨(y210), (0), (by first | rfl | (simp; done) | (simp [*]; done)), H', ⟨Nat.le_refl _⟩, ⟨by (with_reducible repeat (first | apply Kd.R_alloc | apply Kd.R_drewN | apply Kd.R_drew)); exact HO212.out⟩, ⟨by repeat (first | (with_reducible first | exact HB.out | apply below_alloc | apply pw_below_drewN | apply below_drew1) | exact HB.out)⟩⟩
      case round =>
        clear H'
        try clear c1
        try clear c2
        try clear c2b0
        try clear c2b1
        try clear p2
        try clear c3
        try clear c3b0
        try clear c3b1
        obtain ⟨x3_1, x11_1, rfl, HA, HK1, HO_3, HB⟩ := hrel
        cases gk with
        | zero => exact absurd HA.out (by simp [scheme_small.l0])
        | succ k1 =>
          have H := HA.out
          clear HA
          simp only [scheme_small.l0] at H
          by_cases c6 : x11_1 < (l0.length : Int)
          · rw [if_pos c6] at H
            have c6b0 : decide (x11_1 < (l0.length : Int)) = true := decide_eq_true c6
            clear c6
            by_cases c7 : 0 ≤ x11_1
            · rw [if_pos c7] at H
              have c7b0 : decide (0 ≤ x11_1) = true := decide_eq_true c7
              clear c7
              by_cases c8 : x11_1 < (l0.length : Int)
              · rw [if_pos c8] at H
                have c8b0 : decide (x11_1 < (l0.length : Int)) = true := decide_eq_true c8
                clear c8
                by_cases c9 : (rd l0 x11_1) ≥ 65
                · rw [if_pos c9] at H
                  have c9b0 : decide (65 ≤ (rd l0 x11_1)) = true := decide_eq_true c9
                  clear c9
                  by_cases c10 : (rd l0 x11_1) ≤ 90
                  · rw [if_pos c10] at H
                    have c10b0 : decide ((rd l0 x11_1) ≤ 90) = true := decide_eq_true c10
                    clear c10
                    by_cases c11 : x11_1 < (x3_1.length : Int)
                    · rw [if_pos c11] at H
                      have c11b0 : decide (x11_1 < (x3_1.length : Int)) = true := decide_eq_true c11
                      clear c11
                      obtain ⟨y214, hy214⟩ : ∃ y_ : List Int, y_ = (x3_1.set (x11_1 : Int).toNat (((rd l0 x11_1) + 32) % 256)) := ⟨_, rfl⟩
                      replace H : (scheme_small.l0 k1 y214 l0 (l0.length : Int) (wrap64 (x11_1 + 1))) = some r := by first | (rw [hy214]; with_reducible exact H) | (have H2_ := (Option.bind_some _ _).symm.trans H; rw [hy214]; with_reducible exact H2_) | (have H2_ := (Option.bind_some _ _).symm.trans H; with_reducible exact H2_) | with_reducible exact H | (rw [hy214]; exact H) | exact H
                      have Ny214 := Aside0.mk hy214
                      clear hy214
                      have H' := Aside0.mk H
                      clear H
                      have p213 : 0 ≤ (x11_1 : Int) := of_decide_eq_true (by first | (with_reducible assumption) | assumption)
                      have q213 : x11_1 < (l0.length : Int) := of_decide_eq_true (by first | (with_reducible assumption) | assumption)
                      obtain ⟨ad213, e213, hx213_0⟩ := Kd.at_int HR0.out x11_1 p213 q213
                      cases e213
                      replace hx213_0 := (HB.out.cell (World.block_lt_of_cell? w _ hx213_0)).trans hx213_0
                      replace p213 := eq_true p213
                      replace q213 := eq_true q213
                      have p12 : 0 ≤ (x11_1 : Int) := of_decide_eq_true (by first | (with_reducible assumption) | assumption)
                      have q12 : (x11_1 : Int) < ((x3_1.length : Int) : Int) := of_decide_eq_true (by first | (with_reducible assumption) | assumption)
                      obtain ⟨go12, co12, eo12, gb12, gl12, cl12, HG12⟩ := Kd.R_form HO_3.out (by omega)
                      (first | cases eo12 | (injection eo12 with ea_ en_ ec_; (first | subst ea_ | (injection ea_ with ea_; subst ea_)); subst ec_; clear en_))
                      have GB12 := Aside0.mk gb12
                      have GG12 := Aside0.mk HG12
                      clear gb12 gl12 HG12
                      obtain ⟨hx12_0, hf12_0⟩ := Kd.R_celln 0 HO_3.out (x11_1 : Int) p12 q12
                      replace p12 := eq_true p12
                      replace q12 := eq_true q12
                      have HP13 := Kd.R_putg HO_3.out (x11_1 : Int) (((rd l0 x11_1) + 32) % 256)
                      go_wp2_with (first | ((with_reducible refine gate_store (t := 5) (p := 27) rfl ?_); refine store_event (t := 5) (p := 27) (v := ?vo_w14) (w1 := (wr.setCell ⟨go12, (x11_1 : Int).toNat, none⟩ (.int .u8 (((rd l0 x11_1) + 32) % 256)))) ?hg ?ho ?hn ?hr ?_; (case ho => rfl); (case hg => rfl); (case hn => rfl); (case hr => first | (go_simp; done) | (go_simp; rfl)); intro w14 hw; have hg : wr.grownBy w14 (some go12) := (by rw [hw]; exact HP13.2); have hp_ : Kd.R (Kd.int .u8) 5 w14 w.heap.size (fun _ => True) (.slice (some ⟨go12, 0, none⟩) x3_1.length co12) y214 := (by rw [hw, Ny214.out]; exact HP13.1); clear HP13; have n0_ := Aside0.mk (hp_); have n1_ := Aside0.mk ((by rw [hw]; exact below_set (HB.out) GB12.out : Below w.heap.size w w14)); clear HO_3; clear HB; have HO_3 := n0_; have HB := n1_; clear n0_ n1_; clear hg hw hp_))
                      go_roundg k1
                      case measure => have := HK1.out; omega
                      case rel => exact ⟨(y214), (wrap64 (x11_1 + 1)), (by first | rfl | (simp; done) | (simp [*]; done)), H', ⟨by have := HK1.out; omega⟩, ⟨by (with_reducible repeat (first | apply Kd.R_alloc | apply Kd.R_drewN | apply Kd.R_drew)); exact HO_3.out⟩, ⟨by repeat (first | (with_reducible first | exact HB.out | apply below_alloc | apply pw_below_drewN | apply below_drew1) | exact HB.out)⟩⟩
                    · rw [if_neg c11] at H
                      exact absurd H (by simp)
                  · rw [if_neg c10] at H
                    have c10b0 : decide ((rd l0 x11_1) ≤ 90) = false := decide_eq_false c10
                    clear c10
                    by_cases c15 : x11_1 < (x3_1.length : Int)
                    · rw [if_pos c15] at H
                      have c15b0 : decide (x11_1 < (x3_1.length : Int)) = true := decide_eq_true c15
                      clear c15
                      obtain ⟨y215, hy215⟩ : ∃ y_ : List Int, y_ = (x3_1.set (x11_1 : Int).toNat (rd l0 x11_1)) := ⟨_, rfl⟩
                      replace H : (scheme_small.l0 k1 y215 l0 (l0.length : Int) (wrap64 (x11_1 + 1))) = some r := by first | (rw [hy215]; with_reducible exact H) | (have H2_ := (Option.bind_some _ _).symm.trans H; rw [hy215]; with_reducible exact H2_) | (have H2_ := (Option.bind_some _ _).symm.trans H; with_reducible exact H2_) | with_reducible exact H | (rw [hy215]; exact H) | exact H
                      have Ny215 := Aside0.mk hy215
                      clear hy215
                      have H' := Aside0.mk H
                      clear H
                      have p213 : 0 ≤ (x11_1 : Int) := of_decide_eq_true (by first | (with_reducible assumption) | assumption)
                      have q213 : x11_1 < (l0.length : Int) := of_decide_eq_true (by first | (with_reducible assumption) | assumption)
                      obtain ⟨ad213, e213, hx213_0⟩ := Kd.at_int HR0.out x11_1 p213 q213
                      cases e213
                      replace hx213_0 := (HB.out.cell (World.block_lt_of_cell? w _ hx213_0)).trans hx213_0
                      replace p213 := eq_true p213
                      replace q213 := eq_true q213
                      have p16 : 0 ≤ (x11_1 : Int) := of_decide_eq_true (by first | (with_reducible assumption) | assumption)
                      have q16 : (x11_1 : Int) < ((x3_1.length : Int) : Int) := of_decide_eq_true (by first | (with_reducible assumption) | assumption)
                      obtain ⟨go16, co16, eo16, gb16, gl16, cl16, HG16⟩ := Kd.R_form HO_3.out (by omega)
                      (first | cases eo16 | (injection eo16 with ea_ en_ ec_; (first | subst ea_ | (injection ea_ with ea_; subst ea_)); subst ec_; clear en_))
                      have GB16 := Aside0.mk gb16
                      have GG16 := Aside0.mk HG16
                      clear gb16 gl16 HG16
                      obtain ⟨hx16_0, hf16_0⟩ := Kd.R_celln 0 HO_3.out (x11_1 : Int) p16 q16
                      replace p16 := eq_true p16
                      replace q16 := eq_true q16
                      have HP17 := Kd.R_putg HO_3.out (x11_1 : Int) (rd l0 x11_1)
                      go_wp2_with (first | ((with_reducible refine gate_store (t := 5) (p := 27) rfl ?_); refine store_event (t := 5) (p := 27) (v := ?vo_w18) (w1 := (wr.setCell ⟨go16, (x11_1 : Int).toNat, none⟩ (.int .u8 (rd l0 x11_1)))) ?hg ?ho ?hn ?hr ?_; (case ho => rfl); (case hg => rfl); (case hn => rfl); (case hr => first | (go_simp; done) | (go_simp; rfl)); intro w18 hw; have hg : wr.grownBy w18 (some go16) := (by rw [hw]; exact HP17.2); have hp_ : Kd.R (Kd.int .u8) 5 w18 w.heap.size (fun _ => True) (.slice (some ⟨go16, 0, none⟩) x3_1.length co16) y215 := (by rw [hw, Ny215.out]; exact HP17.1); clear HP17; have n0_ := Aside0.mk (hp_); have n1_ := Aside0.mk ((by rw [hw]; exact below_set (HB.out) GB16.out : Below w.heap.size w w18)); clear HO_3; clear HB; have HO_3 := n0_; have HB := n1_; clear n0_ n1_; clear hg hw hp_))
                      go_roundg k1
                      case measure => have := HK1.out; omega
                      case rel => exact ⟨(y215), (wrap64 (x11_1 + 1)), (by first | rfl | (simp; done) | (simp [*]; done)), H', ⟨by have := HK1.out; omega⟩, ⟨by (with_reducible repeat (first | apply Kd.R_alloc | apply Kd.R_drewN | apply Kd.R_drew)); exact HO_3.out⟩, ⟨by repeat (first | (with_reducible first | exact HB.out | apply below_alloc | apply pw_below_drewN | apply below_drew1) | exact HB.out)⟩⟩
                    · rw [if_neg c15] at H
                      exact absurd H (by simp)
                · rw [if_neg c9] at H
                  have c9b0 : decide (65 ≤ (rd l0 x11_1)) = false := decide_eq_false c9
                  clear c9
                  by_cases c19 : x11_1 < (x3_1.length : Int)
                  · rw [if_pos c19] at H
                    have c19b0 : decide (x11_1 < (x3_1.length : Int)) = true := decide_eq_true c19
                    clear c19
                    obtain ⟨y216, hy216⟩ : ∃ y_ : List Int, y_ = (x3_1.set (x11_1 : Int).toNat (rd l0 x11_1)) := ⟨_, rfl⟩
                    replace H : (scheme_small.l0 k1 y216 l0 (l0.length : Int) (wrap64 (x11_1 + 1))) = some r := by first | (rw [hy216]; with_reducible exact H) | (have H2_ := (Option.bind_some _ _).symm.trans H; rw [hy216]; with_reducible exact H2_) | (have H2_ := (Option.bind_some _ _).symm.trans H; with_reducible exact H2_) | with_reducible exact H | (rw [hy216]; exact H) | exact H
                    have Ny216 := Aside0.mk hy216
                    clear hy216
                    have H' := Aside0.mk H
                    clear H
                    have p213 : 0 ≤ (x11_1 : Int) := of_decide_eq_true (by first | (with_reducible assumption) | assumption)
                    have q213 : x11_1 < (l0.length : Int) := of_decide_eq_true (by first | (with_reducible assumption) | assumption)
                    obtain ⟨ad213, e213, hx213_0⟩ := Kd.at_int HR0.out x11_1 p213 q213
                    cases e213
                    replace hx213_0 := (HB.out.cell (World.block_lt_of_cell? w _ hx213_0)).trans hx213_0
                    replace p213 := eq_true p213
                    replace q213 := eq_true q213
                    have p20 : 0 ≤ (x11_1 : Int) := of_decide_eq_true (by first | (with_reducible assumption) | assumption)
                    have q20 : (x11_1 : Int) < ((x3_1.length : Int) : Int) := of_decide_eq_true (by first | (with_reducible assumption) | assumption)
                    obtain ⟨go20, co20, eo20, gb20, gl20, cl20, HG20⟩ := Kd.R_form HO_3.out (by omega)
                    (first | cases eo20 | (injection eo20 with ea_ en_ ec_; (first | subst ea_ | (injection ea_ with ea_; subst ea_)); subst ec_; clear en_))
                    have GB20 := Aside0.mk gb20
                    have GG20 := Aside0.mk HG20
                    clear gb20 gl20 HG20
                    obtain ⟨hx20_0, hf20_0⟩ := Kd.R_celln 0 HO_3.out (x11_1 : Int) p20 q20
                    replace p20 := eq_true p20
                    replace q20 := eq_true q20
                    have HP21 := Kd.R_putg HO_3.out (x11_1 : Int) (rd l0 x11_1)
                    go_wp2_with (first | ((with_reducible refine gate_store (t := 5) (p := 27) rfl ?_); refine store_event (t := 5) (p := 27) (v := ?vo_w22) (w1 := (wr.setCell ⟨go20, (x11_1 : Int).toNat, none⟩ (.int .u8 (rd l0 x11_1)))) ?hg ?ho ?hn ?hr ?_; (case ho => rfl); (case hg => rfl); (case hn => rfl); (case hr => first | (go_simp; done) | (go_simp; rfl)); intro w22 hw; have hg : wr.grownBy w22 (some go20) := (by rw [hw]; exact HP21.2); have hp_ : Kd.R (Kd.int .u8) 5 w22 w.heap.size (fun _ => True) (.slice (some ⟨go20, 0, none⟩) x3_1.length co20) y216 := (by rw [hw, Ny216.out]; exact HP21.1); clear HP21; have n0_ := Aside0.mk (hp_); have n1_ := Aside0.mk ((by rw [hw]; exact below_set (HB.out) GB20.out : Below w.heap.size w w22)); clear HO_3; clear HB; have HO_3 := n0_; have HB := n1_; clear n0_ n1_; clear hg hw hp_))
                    go_roundg k1
                    case measure => have := HK1.out; omega
                    case rel => exact ⟨(y216), (wrap64 (x11_1 + 1)), (by first | rfl | (simp; done) | (simp [*]; done)), H', ⟨by have := HK1.out; omega⟩, ⟨by (with_reducible repeat (first | apply Kd.R_alloc | apply Kd.R_drewN | apply Kd.R_drew)); exact HO_3.out⟩, ⟨by repeat (first | (with_reducible first | exact HB.out | apply below_alloc | apply pw_below_drewN | apply below_drew1) | exact HB.out)⟩⟩
                  · rw [if_neg c19] at H
                    exact absurd H (by simp)
              · rw [if_neg c8] at H
                exact absurd H (by simp)
            · rw [if_neg c7] at H
              exact absurd H (by simp)
          · rw [if_neg c6] at H
            have c6b0 : decide (x11_1 < (l0.length : Int)) = false := decide_eq_false c6
            clear c6
            obtain rfl := Option.some.inj H
            go_wp2
            go_ret
            exact ⟨_, by first | rfl | (simp [errW_none, errW_some] <;> rfl) | (simp [*, errW_none, errW_some] <;> rfl), by (with_reducible repeat (first | apply Kd.R_alloc | apply Kd.R_drewN | apply Kd.R_drew)); exact HO_3.out, by repeat (first | (with_reducible first | exact HB.out | apply below_alloc | apply pw_below_drewN | apply below_drew1) | exact HB.out)⟩
    · rw [if_neg c3] at H
      exact absurd H (by simp)
  · rw [if_neg c2] at H
    exact absurd H (by simp)

/-! ### scheme_Allowed: function 119 -/
def scheme_Allowed.f (k : Nat) (l0 : List Int) : Option (Bool) := (scheme_small.f k l0).bind fun t217 => (if (strOfNums t217).toList = ([104, 116, 116, 112] : List UInt8) then (some true) else (if (strOfNums t217).toList = ([104, 116, 116, 112, 115] : List UInt8) then (some true) else (if (strOfNums t217).toList = ([109, 97, 105, 108, 116, 111] : List UInt8) then (some true) else (some false))))
theorem scheme_Allowed.mono : ∀ a0 k, LeO (scheme_Allowed.f k a0) (scheme_Allowed.f (k + 1) a0) := by
  intro a0 k
  unfold scheme_Allowed.f
  repeat' first
      | (with_reducible exact scheme_small.mono _ _)
      | (with_reducible exact LeO.refl _)
      | (with_reducible exact LeO.none _)
      | (with_reducible refine LeO.ite ?_ ?_)
      | (with_reducible refine LeO.bind ?_ (fun _ => ?_))
      | exact scheme_small.mono _ _
      | exact LeO.none _
      | refine LeO.ite ?_ ?_
      | refine LeO.bind ?_ (fun _ => ?_)
set_option maxHeartbeats 8000000 in
set_option maxRecDepth 100000 in
theorem scheme_Allowed.calls (k : Nat) (A0 : Option Addr) (c0 : Nat) (l0 : List Int) (r : Bool) (w : World) (hr0 : Kd.C (Kd.int .u8) w A0 l0.length l0) (hc0 : l0.length ≤ c0) (h : scheme_Allowed.f k l0 = some r) :
    Calls Tryd.prog 119 #[.slice A0 l0.length c0] w fun e w' => e = .returned (.bool r) ∧ Below w.heap.size w w' := by
  have HR0 := Aside0.mk hr0
  have HC0 := Aside0.mk hc0
  clear hr0 hc0
  have HB := Aside0.mk (Below.refl w.heap.size w)
  have H : ((scheme_small.f k l0).bind fun t217 => (if (strOfNums t217).toList = ([104, 116, 116, 112] : List UInt8) then (some true) else (if (strOfNums t217).toList = ([104, 116, 116, 112, 115] : List UInt8) then (some true) else (if (strOfNums t217).toList = ([109, 97, 105, 108, 116, 111] : List UInt8) then (some true) else (some false))))) = some r := h
  clear h
  replace H := Option.bind_eq_some_iff.mp H
  obtain ⟨t217, A20, H⟩ := H
  replace H : (if (strOfNums t217).toList = ([104, 116, 116, 112] : List UInt8) then (some true) else (if (strOfNums t217).toList = ([104, 116, 116, 112, 115] : List UInt8) then (some true) else (if (strOfNums t217).toList = ([109, 97, 105, 108, 116, 111] : List UInt8) then (some true) else (some false)))) = some r := H
  have A2 := Aside0.mk A20
  clear A20
  by_cases c3 : (strOfNums t217).toList = ([104, 116, 116, 112] : List UInt8)
  · rw [if_pos c3] at H
    have c3b0 : ((strOfNums t217).toList == ([104, 116, 116, 112] : List UInt8)) = true := beq_iff_eq.mpr c3
    have c3b1 : ((strOfNums t217).toList != ([104, 116, 116, 112] : List UInt8)) = false := bne_eq_false_iff_eq.mpr c3
    clear c3
    obtain rfl := Option.some.inj H
    go_enter Tryd.func119, Tryd.ntmps119
    go_wp2_with (first | ((with_reducible refine gate_callee (f := 139) rfl ?_); refine goesL_ (some 4) rfl rfl Tryd.func139 (by kernel_rfl) rfl #[.slice A0 l0.length c0] rfl (by (try simp only [List.map_toArray, List.map_cons, List.map_nil]); first | done | rfl | (simp only [List.length_drop, List.length_take]; rfl)) ?_; (with_reducible refine (scheme_small.calls k _ _ l0 t217 _ ?side1 ?side2 A2.out).mono ?_); (case side1 => repeat (first | exact HR0.out | (with_reducible refine Kd.C_alloc ?_ _) | (with_reducible refine Kd.C_drewN ?_ _) | (with_reducible refine Kd.C_drew ?_))); (case side2 => exact HC0.out); rintro e w4 ⟨v218, rfl, ho0, hb⟩; refine ⟨_, rfl, ?_⟩; have n0_ := Aside0.mk (Kd.R_lower ho0 (below_size (by repeat (first | (with_reducible first | exact HB.out | apply below_alloc | apply pw_below_drewN | apply below_drew1) | exact HB.out)))); have n1_ := Aside0.mk (below_step (by repeat (first | (with_reducible first | exact HB.out | apply below_alloc | apply pw_below_drewN | apply below_drew1) | exact HB.out)) hb); clear HB; have HO219 := n0_; have HB := n1_; clear n0_ n1_; (try clear hb); (try clear hb2); (try clear hk); (try clear hi); (try clear ho0); have hcv5 := own_string (P := Tryd.prog) Tryd.underlying22 Tryd.underlying5 Tryd.underlying9 (Kd.own_of_R HO219.out)))
    go_ret
    exact ⟨by first | rfl | (simp [errW_none, errW_some] <;> rfl) | (simp [*, errW_none, errW_some] <;> rfl), by repeat (first | (with_reducible first | exact HB.out | apply below_alloc | apply pw_below_drewN | apply below_drew1) | exact HB.out)⟩
  · rw [if_neg c3] at H
    have c3b0 : ((strOfNums t217).toList == ([104, 116, 116, 112] : List UInt8)) = false := beq_eq_false_iff_ne.mpr c3
    have c3b1 : ((strOfNums t217).toList != ([104, 116, 116, 112] : List UInt8)) = true := bne_iff_ne.mpr c3
    by_cases c6 : (strOfNums t217).toList = ([104, 116, 116, 112, 115] : List UInt8)
    · rw [if_pos c6] at H
      have c6b0 : ((strOfNums t217).toList == ([104, 116, 116, 112, 115] : List UInt8)) = true := beq_iff_eq.mpr c6
      have c6b1 : ((strOfNums t217).toList != ([104, 116, 116, 112, 115] : List UInt8)) = false := bne_eq_false_iff_eq.mpr c6
      clear c6
      obtain rfl := Option.some.inj H
      go_enter Tryd.func119, Tryd.ntmps119
      go_wp2_with (first | ((with_reducible refine gate_callee (f := 139) rfl ?_); refine goesL_ (some 4) rfl rfl Tryd.func139 (by kernel_rfl) rfl #[.slice A0 l0.length c0] rfl (by (try simp only [List.map_toArray, List.map_cons, List.map_nil]); first | done | rfl | (simp only [List.length_drop, List.length_take]; rfl)) ?_; (with_reducible refine (scheme_small.calls k _ _ l0 t217 _ ?side1 ?side2 A2.out).mono ?_); (case side1 => repeat (first | exact HR0.out | (with_reducible refine Kd.C_alloc ?_ _) | (with_reducible refine Kd.C_drewN ?_ _) | (with_reducible refine Kd.C_drew ?_))); (case side2 => exact HC0.out); rintro e w7 ⟨v218, rfl, ho0, hb⟩; refine ⟨_, rfl, ?_⟩; have n0_ := Aside0.mk (Kd.R_lower ho0 (below_size (by repeat (first | (with_reducible first | exact HB.out | apply below_alloc | apply pw_below_drewN | apply below_drew1) | exact HB.out)))); have n1_ := Aside0.mk (below_step (by repeat (first | (with_reducible first | exact HB.out | apply below_alloc | apply pw_below_drewN | apply below_drew1) | exact HB.out)) hb); clear HB; have HO219 := n0_; have HB := n1_; clear n0_ n1_; (try clear hb); (try clear hb2); (try clear hk); (try clear hi); (try clear ho0); have hcv8 := own_string (P := Tryd.prog) Tryd.underlying22 Tryd.underlying5 Tryd.underlying9 (Kd.own_of_R HO219.out)))
      go_ret
      exact ⟨by first | rfl | (simp [errW_none, errW_some] <;> rfl) | (simp [*, errW_none, errW_some] <;> rfl), by repeat (first | (with_reducible first | exact HB.out | apply below_alloc | apply pw_below_drewN | apply below_drew1) | exact HB.out)⟩
    · rw [if_neg c6] at H
      have c6b0 : ((strOfNums t217).toList == ([104, 116, 116, 112, 115] : List UInt8)) = false := beq_eq_false_iff_ne.mpr c6
      have c6b1 : ((strOfNums t217).toList != ([104, 116, 116, 112, 115] : List UInt8)) = true := bne_iff_ne.mpr c6
      by_cases c9 : (strOfNums t217).toList = ([109, 97, 105, 108, 116, 111] : List UInt8)
      · rw [if_pos c9] at H
        have c9b0 : ((strOfNums t217).toList == ([109, 97, 105, 108, 116, 111] : List UInt8)) = true := beq_iff_eq.mpr c9
        have c9b1 : ((strOfNums t217).toList != ([109, 97, 105, 108, 116, 111] : List UInt8)) = false := bne_eq_false_iff_eq.mpr c9
        clear c9
        obtain rfl := Option.some.inj H
        go_enter Tryd.func119, Tryd.ntmps119
        go_wp2_with (first | ((with_reducible refine gate_callee (f := 139) rfl ?_); refine goesL_ (some 4) rfl rfl Tryd.func139 (by kernel_rfl) rfl #[.slice A0 l0.length c0] rfl (by (try simp only [List.map_toArray, List.map_cons, List.map_nil]); first | done | rfl | (simp only [List.length_drop, List.length_take]; rfl)) ?_; (with_reducible refine (scheme_small.calls k _ _ l0 t217 _ ?side1 ?side2 A2.out).mono ?_); (case side1 => repeat (first | exact HR0.out | (with_reducible refine Kd.C_alloc ?_ _) | (with_reducible refine Kd.C_drewN ?_ _) | (with_reducible refine Kd.C_drew ?_))); (case side2 => exact HC0.out); rintro e w10 ⟨v218, rfl, ho0, hb⟩; refine ⟨_, rfl, ?_⟩; have n0_ := Aside0.mk (Kd.R_lower ho0 (below_size (by repeat (first | (with_reducible first | exact HB.out | apply below_alloc | apply pw_below_drewN | apply below_drew1) | exact HB.out)))); have n1_ := Aside0.mk (below_step (by repeat (first | (with_reducible first | exact HB.out | apply below_alloc | apply pw_below_drewN | apply below_drew1) | exact HB.out)) hb); clear HB; have HO219 := n0_; have HB := n1_; clear n0_ n1_; (try clear hb); (try clear hb2); (try clear hk); (try clear hi); (try clear ho0); have hcv11 := own_string (P := Tryd.prog) Tryd.underlying22 Tryd.underlying5 Tryd.underlying9 (Kd.own_of_R HO219.out)))
        go_ret
        exact ⟨by first | rfl | (simp [errW_none, errW_some] <;> rfl) | (simp [*, errW_none, errW_some] <;> rfl), by repeat (first | (with_reducible first | exact HB.out | apply below_alloc | apply pw_below_drewN | apply below_drew1) | exact HB.out)⟩
      · rw [if_neg c9] at H
        have c9b0 : ((strOfNums t217).toList == ([109, 97, 105, 108, 116, 111] : List UInt8)) = false := beq_eq_false_iff_ne.mpr c9
        have c9b1 : ((strOfNums t217).toList != ([109, 97, 105, 108, 116, 111] : List UInt8)) = true := bne_iff_ne.mpr c9
        obtain rfl := Option.some.inj H
        go_enter Tryd.func119, Tryd.ntmps119
        go_wp2_with (first | ((with_reducible refine gate_callee (f := 139) rfl ?_); refine goesL_ (some 4) rfl rfl Tryd.func139 (by kernel_rfl) rfl #[.slice A0 l0.length c0] rfl (by (try simp only [List.map_toArray, List.map_cons, List.map_nil]); first | done | rfl | (simp only [List.length_drop, List.length_take]; rfl)) ?_; (with_reducible refine (scheme_small.calls k _ _ l0 t217 _ ?side1 ?side2 A2.out).mono ?_); (case side1 => repeat (first | exact HR0.out | (with_reducible refine Kd.C_alloc ?_ _) | (with_reducible refine Kd.C_drewN ?_ _) | (with_reducible refine Kd.C_drew ?_))); (case side2 => exact HC0.out); rintro e w12 ⟨v218, rfl, ho0, hb⟩; refine ⟨_, rfl, ?_⟩; have n0_ := Aside0.mk (Kd.R_lower ho0 (below_size (by repeat (first | (with_reducible first | exact HB.out | apply below_alloc | apply pw_below_drewN | apply below_drew1) | exact HB.out)))); have n1_ := Aside0.mk (below_step (by repeat (first | (with_reducible first | exact HB.out | apply below_alloc | apply pw_below_drewN | apply below_drew1) | exact HB.out)) hb); clear HB; have HO219 := n0_; have HB := n1_; clear n0_ n1_; (try clear hb); (try clear hb2); (try clear hk); (try clear hi); (try clear ho0); have hcv13 := own_string (P := Tryd.prog) Tryd.underlying22 Tryd.underlying5 Tryd.underlying9 (Kd.own_of_R HO219.out)))
        go_ret
        exact ⟨by first | rfl | (simp [errW_none, errW_some] <;> rfl) | (simp [*, errW_none, errW_some] <;> rfl), by repeat (first | (with_reducible first | exact HB.out | apply below_alloc | apply pw_below_drewN | apply below_drew1) | exact HB.out)⟩

-- NOT PRINTED: function 89 (scheme_look)

-- NOT PRINTED: function 62 (scheme_Gate_settle)

end Go.Proofs.YtfplocpjdjjoaaaDoor.PWholeCut
namespace Go.Proofs.YtfplocpjdjjoaaaDoor.Cut
open Go Go.RowKit Go.Proofs.YtfplocpjdjjoaaaDoor.Trail Go.Proofs.YtfplocpjdjjoaaaDoor.Ctxs Go.Proofs.YtfplocpjdjjoaaaDoorW.PrintWords
set_option linter.unusedVariables false
set_option linter.unusedSimpArgs false
theorem rd_ints (p : List Nat) (i b : Nat) (h : p[i]? = some b) : rd (ints p) (i : Int) = (b : Int) := by
  unfold rd ints
  rw [Int.toNat_natCast, List.getD_eq_getElem?_getD, List.getElem?_map, h]
  rfl
theorem wrap_next {i : Nat} (h : i < 1000) : wrap64 ((i : Int) + 1) = ((i + 1 : Nat) : Int) := by
  unfold wrap64
  omega
theorem small_loop (p : List Nat) (hs : Small p) (hl : p.length ≤ 900) : ∀ (m i : Nat), i + m = p.length →
    PWholeCut.scheme_small.l0 (m + 1) (ints ((p.take i).map smallB ++ List.replicate m 0)) (ints p) (p.length : Int) (i : Int) = some (ints (p.map smallB))
  | 0, i, h => by
    have : i = p.length := by omega
    subst this
    unfold PWholeCut.scheme_small.l0
    rw [if_neg (by omega), List.take_length, List.replicate_zero, List.append_nil]
  | m + 1, i, h => by
    have hi : i < p.length := by omega
    obtain ⟨b, hb⟩ : ∃ b, p[i]? = some b := ⟨_, List.getElem?_eq_getElem hi⟩
    have hb256 : b < 256 := hs b (List.mem_of_getElem? hb)
    have hx : ((ints p).length : Int) = (p.length : Int) := by simp [ints]
    have hlen : (((ints ((p.take i).map smallB ++ List.replicate (m + 1) 0)).length : Nat) : Int) = (p.length : Int) := by
      simp [ints]; omega
    have hstep : ∀ v : Nat, (ints ((p.take i).map smallB ++ List.replicate (m + 1) 0)).set (i : Int).toNat (v : Int) = ints ((p.take i).map smallB ++ v :: List.replicate m 0) := by
      intro v
      unfold ints
      rw [Int.toNat_natCast, List.map_append, List.map_append, List.replicate_succ, List.map_cons, List.map_cons]
      rw [List.set_append_right _ _ (by simp; omega)]
      have : i - (((p.take i).map smallB).map fun n : Nat => (n : Int)).length = 0 := by simp; omega
      rw [this]
      rfl
    have hih := small_loop p hs hl m (i + 1) (by omega)
    have htk : (p.take (i + 1)).map smallB ++ List.replicate m 0 = (p.take i).map smallB ++ smallB b :: List.replicate m 0 := by
      rw [List.take_add_one, hb]
      simp
    rw [htk] at hih
    unfold PWholeCut.scheme_small.l0
    rw [if_pos (by omega), if_pos (by omega), hx, hlen, rd_ints p i b hb, wrap_next (by omega)]
    simp only [if_pos (show (i : Int) < (p.length : Int) by omega)]
    by_cases h1 : 65 ≤ b
    · rw [if_pos (by omega : (b : Int) ≥ 65)]
      by_cases h2 : b ≤ 90
      · rw [if_pos (by omega : (b : Int) ≤ 90)]
        have hv : ((b : Int) + 32) % 256 = ((smallB b : Nat) : Int) := by unfold smallB; rw [if_pos ⟨h1, h2⟩]; omega
        rw [hv, hstep]
        exact hih
      · rw [if_neg (by omega : ¬ (b : Int) ≤ 90)]
        have hv : smallB b = b := by unfold smallB; rw [if_neg (by omega)]
        rw [hv] at hih
        rw [hstep]
        exact hih
    · rw [if_neg (by omega : ¬ (b : Int) ≥ 65)]
      have hv : smallB b = b := by unfold smallB; rw [if_neg (by omega)]
      rw [hv] at hih
      rw [hstep]
      exact hih
theorem small_f (p : List Nat) (hs : Small p) (hl : p.length ≤ 900) : PWholeCut.scheme_small.f (p.length + 1) (ints p) = some (ints (p.map smallB)) := by
  unfold PWholeCut.scheme_small.f
  have hx : (ints p).length = p.length := by simp [ints]
  rw [hx, if_pos (by omega), if_pos (by rw [Int.toNat_natCast]; omega), Int.toNat_natCast]
  have := small_loop p hs hl p.length 0 (by omega)
  have e : List.replicate p.length (0 : Int) = ints (((p.take 0).map smallB) ++ List.replicate p.length 0) := by simp [ints]
  rw [e]
  exact this
theorem smallB_small {p : List Nat} (hs : Small p) : Small (p.map smallB) := by
  intro x hx
  obtain ⟨b, hb, rfl⟩ := List.mem_map.1 hx
  have := hs b hb
  unfold smallB
  split <;> omega
theorem str_ints (q : List Nat) : (strOfNums (ints q)).toList = q.map Nat.toUInt8 := by
  rw [Go.ByteArray.toList_eq, strOfNums_data, ints, List.map_map]
  apply List.map_congr_left
  intro x _
  simp [Nat.toUInt8]
theorem lit_eq {q r : List Nat} (hq : Small q) (hr : Small r) : (q.map Nat.toUInt8 = r.map Nat.toUInt8) ↔ q = r := by
  constructor
  · intro h
    have h2 := congrArg (List.map UInt8.toNat) h
    rw [List.map_map, List.map_map] at h2
    have e : ∀ l : List Nat, Small l → l.map (UInt8.toNat ∘ Nat.toUInt8) = l := by
      intro l hl
      conv => rhs; rw [← List.map_id l]
      apply List.map_congr_left
      intro x hx
      have := hl x hx
      simp [Nat.toUInt8, Nat.mod_eq_of_lt (show x < 256 from this)]
    rwa [e q hq, e r hr] at h2
  · rintro rfl; rfl
theorem allowed_f (p : List Nat) (hs : Small p) (hl : p.length ≤ 900) : PWholeCut.scheme_Allowed.f (p.length + 1) (ints p) = some (allowed p) := by
  have hsm := smallB_small hs
  have key : ∀ r : List Nat, Small r → (((strOfNums (ints (p.map smallB))).toList = r.map Nat.toUInt8) ↔ p.map smallB = r) := fun r hr => by rw [str_ints, lit_eq hsm hr]
  have k1 := key [104, 116, 116, 112] (by intro x hx; simp at hx; omega)
  have k2 := key [104, 116, 116, 112, 115] (by intro x hx; simp at hx; omega)
  have k3 := key [109, 97, 105, 108, 116, 111] (by intro x hx; simp at hx; omega)
  have e1 : [104, 116, 116, 112].map Nat.toUInt8 = ([104, 116, 116, 112] : List UInt8) := rfl
  have e2 : [104, 116, 116, 112, 115].map Nat.toUInt8 = ([104, 116, 116, 112, 115] : List UInt8) := rfl
  have e3 : [109, 97, 105, 108, 116, 111].map Nat.toUInt8 = ([109, 97, 105, 108, 116, 111] : List UInt8) := rfl
  rw [e1] at k1
  rw [e2] at k2
  rw [e3] at k3
  unfold PWholeCut.scheme_Allowed.f
  rw [small_f p hs hl, Option.bind_some]
  unfold allowed
  by_cases h1 : p.map smallB = [104, 116, 116, 112]
  · rw [if_pos (k1.2 h1), beq_iff_eq.2 h1]; rfl
  · rw [if_neg (fun h => h1 (k1.1 h)), beq_eq_false_iff_ne.2 h1]
    by_cases h2 : p.map smallB = [104, 116, 116, 112, 115]
    · rw [if_pos (k2.2 h2), beq_iff_eq.2 h2]; rfl
    · rw [if_neg (fun h => h2 (k2.1 h)), beq_eq_false_iff_ne.2 h2]
      by_cases h3 : p.map smallB = [109, 97, 105, 108, 116, 111]
      · rw [if_pos (k3.2 h3), beq_iff_eq.2 h3]; rfl
      · rw [if_neg (fun h => h3 (k3.1 h)), beq_eq_false_iff_ne.2 h3]; rfl
theorem allowed_calls {v : Value} (p : List Nat) (hs : Small p) (hl : p.length ≤ 900) (w : World) (hv : Rdb w v p) : Calls Tryd.prog 119 #[v] w fun e w' => e = .returned (.bool (allowed p)) ∧ Below w.heap.size w w' := by
  obtain ⟨A, c, rfl, hc, hC⟩ := hv
  have hx : (ints p).length = p.length := by simp [ints]
  have := PWholeCut.scheme_Allowed.calls (p.length + 1) A c (ints p) (allowed p) w (by rw [hx]; exact hC) (by rw [hx]; exact hc) (allowed_f p hs hl)
  rwa [hx] at this
theorem use_calls (n : Nat) (w : World) : Calls Tryd.prog 134 #[.int .i64 (n : Int)] w fun e w' => e = .returned (.bool (decide (8 < n))) ∧ w = w' := by
  go_enter Tryd.func134, Tryd.ntmps134
  go_wp2
  go_ret
  refine ⟨?_, rfl⟩
  rw [show decide (8 < (n : Int)) = decide (8 < n) from decide_eq_decide.2 (by omega)]
  rfl
end Go.Proofs.YtfplocpjdjjoaaaDoor.Cut
namespace Go.Proofs.YtfplocpjdjjoaaaDoor.Cut
open Go Go.RowKit Go.Proofs.YtfplocpjdjjoaaaDoor.Trail Go.Proofs.YtfplocpjdjjoaaaDoor.Ctxs Go.Proofs.YtfplocpjdjjoaaaDoorW.PrintWords
set_option linter.unusedVariables false
set_option linter.unusedSimpArgs false
abbrev marks : ByteArray := ⟨#[58, 47, 63, 35]⟩
/-- Where the first mark stands; -1: there is none. -/
def spot (p : List Nat) : Int := match stopAt p with | none => -1 | some i => (i : Int)
theorem stop_at {p : List Nat} {i b : Nat} (h : stopAt (p.take i) = none) (hb : p[i]? = some b) (hs : stops b = true) : spot p = (i : Int) := by
  obtain ⟨hi, hbe⟩ := List.getElem?_eq_some_iff.1 hb
  have h1 : p = p.take i ++ (b :: p.drop (i + 1)) := by
    rw [← hbe, ← List.drop_eq_getElem_cons hi, List.take_append_drop]
  have h2 : stopAt p = some i := by
    conv => lhs; rw [h1]
    rw [stopAt_app, h]
    dsimp only
    rw [stopAt, if_pos hs]
    simp only [Option.map_some, List.length_take, Option.some.injEq]
    omega
  unfold spot
  rw [h2]
theorem stop_next {p : List Nat} {i b : Nat} (h : stopAt (p.take i) = none) (hb : p[i]? = some b) (hs : stops b = false) : stopAt (p.take (i + 1)) = none := by
  rw [List.take_add_one, hb, stopAt_app, h]
  simp [Option.toList, stopAt, hs]
theorem stop_end {p : List Nat} {i : Nat} (h : stopAt (p.take i) = none) (hi : p.length ≤ i) : spot p = -1 := by
  rw [List.take_of_length_le hi] at h
  unfold spot
  rw [h]
theorem marks_has (b : Nat) (hb : b < 256) : marks.data.toList.contains b.toUInt8 = stops b := by
  have h : (List.range 256).all (fun b => marks.data.toList.contains b.toUInt8 == stops b) = true := by kernel_rfl
  exact beq_iff_eq.1 (List.all_eq_true.1 h b (List.mem_range.2 hb))
theorem u8_nat {b : Nat} (h : b < 256) : (b.toUInt8).toNat = b := by simp [Nat.toUInt8, Nat.mod_eq_of_lt h]
theorem info196 : (Tryd.prog.info? 196).map (fun i => (i.zero, i.size)) = some (some (.agg (Array.replicate 256 (.bool false))), 256) := by kernel_rfl
theorem set_calls (w : World) : Calls Tryd.prog 135 #[.string marks] w fun e w' => e = .returned (.tuple #[.agg (Lib.setCells marks.data.toList), .bool true]) ∧ w' = w.alloc (.cells (Lib.setCells marks.data.toList) 196) :=
  Any.bytes_makeASCIISet Tryd.cutB11 (zero_of_info info196).1 (zero_of_info info196).2 marks w (by decide) (by
    intro j b hj
    match j, hj with
    | 0, hj => cases hj; decide
    | 1, hj => cases hj; decide
    | 2, hj => cases hj; decide
    | 3, hj => cases hj; decide)
theorem has_calls {x : Int} (g b : Nat) (v : Bool) (hx : x = (b : Int)) (hb : b < 256) (w : World) (hc : w.cell? ⟨g, b, none⟩ = some (.bool v)) : Calls Tryd.prog 136 #[.pointer (some ⟨g, 0, none⟩), .int .u8 x] w fun e w' => e = .returned (.bool v) ∧ w' = w := by
  subst hx
  have := Any.bytes_asciiSet_contains Tryd.cutB16 g b.toUInt8 v w (by rw [u8_nat hb]; exact hc)
  rwa [u8_nat hb] at this
/-- An element of a row, as the walk reads it. -/
theorem cell_row {W : World} {A : Option Addr} {N : Nat} {l : List Nat} (h : Kd.C (Kd.int .u8) W A N (ints l)) (k b : Nat) (hk : k < N) (hb : l[k]? = some b) : ∃ ad : Addr, A = some ad ∧ W.cell? (ad.add k) = some (.int .u8 (b : Int)) ∧ (ad.add k).block < W.heap.size := by
  obtain ⟨ad, ea, hc⟩ := Kd.at_int h (k : Int) (Int.natCast_nonneg _) (by omega)
  have hxr : rd (ints l) (k : Int) = (b : Int) := rd_ints l k b hb
  rw [hxr] at hc
  rw [Int.toNat_natCast] at hc
  exact ⟨ad, ea, hc, World.block_lt_of_cell? W _ hc⟩
theorem zc196 : Tryd.zeroCells196 = Array.replicate 256 (.bool false) := by kernel_rfl
set_option maxHeartbeats 4000000 in
set_option maxRecDepth 1000000 in
theorem any_long {v : Value} (p : List Nat) (hs : Small p) (h8 : 8 < p.length) (hl : p.length ≤ 1000000000) (w : World) (hv : Rdb w v p) : Calls Tryd.prog 118 #[v, .string marks] w fun e w' => e = .returned (.int .i64 (spot p)) ∧ Below w.heap.size w w' := by
  obtain ⟨A, c, rfl, hcap, hC⟩ := hv
  obtain ⟨N, hN⟩ : ∃ N, N = p.length := ⟨_, rfl⟩
  rw [← hN] at hC h8 hl hcap ⊢
  have hemp : (marks.toList.isEmpty) = false := by kernel_rfl
  have hn1 : ((N : Int) == 1) = false := beq_eq_false_iff_ne.2 (by omega)
  have h8z : decide (8 < N) = true := decide_eq_true h8
  have hb2 : Below w.heap.size w ((w.alloc (.cells (Lib.setCells marks.data.toList) 196)).alloc (.cells (Lib.setCells marks.data.toList) 196)) := ((Below.refl _ _).alloc (Nat.le_refl _) _).alloc (by simp) _
  have hsc : (storeCells ⟨w.heap.size + 1, 0, none⟩ (Lib.setCells marks.data.toList).toList 0).run Tryd.prog ((w.alloc (.cells (Lib.setCells marks.data.toList) 196)).alloc (.cells (Array.replicate 256 (.bool false)) 196)) = .ok () ((w.alloc (.cells (Lib.setCells marks.data.toList) 196)).alloc (.cells (Lib.setCells marks.data.toList) 196)) := by
    have := run_storeCells_new (P := Tryd.prog) (w.alloc (.cells (Lib.setCells marks.data.toList) 196)) 196 (Array.replicate 256 (.bool false)) (Lib.setCells marks.data.toList) (by rw [Lib.setCells_size]; exact (zero_of_info info196).2) (by rw [Lib.setCells_size, Array.size_replicate]) (Lib.setCells_one _)
    simpa using this
  have hsz := Lib.setCells_size marks.data.toList
  have HB2 := Aside0.mk hb2
  have HS := Aside0.mk hs
  have HC := Aside0.mk hC
  have HN := Aside0.mk (And.intro hN hl)
  have HZ := Aside0.mk hsz
  obtain ⟨SC, hSC⟩ : ∃ SC, SC = Lib.setCells marks.data.toList := ⟨_, rfl⟩
  have HSC := Aside0.mk hSC
  rw [← hSC, ← zc196] at hsc
  rw [← hSC] at hsz
  clear hb2 hC hs h8 hN hcap hSC hl
  go_enter Tryd.func118, Tryd.ntmps118
  go_wp2_with (first
    | (go_at_call 134; (with_reducible refine (use_calls _ _).mono ?_); rintro e w1 ⟨rfl, rfl⟩; rw [h8z])
    | (go_at_call 135; (with_reducible refine (set_calls _).mono ?_); rintro e w1 ⟨rfl, rfl⟩; rw [← HSC.out]))
  clear hsc
  obtain ⟨V, hV⟩ : ∃ V, V = (w.alloc (.cells SC 196)).alloc (.cells SC 196) := ⟨_, rfl⟩
  have HV := Aside0.mk hV
  have hcs : ∀ b, b < 256 → V.cell? ⟨w.heap.size + 1, b, none⟩ = some (.bool (stops b)) := by
    intro b hb
    rw [hV, World.cell?_alloc_at _ _ _ _ (by simp), HSC.out, ← u8_nat hb, Lib.setCells_at, u8_nat hb, marks_has b hb]
  have HCS := Aside0.mk hcs
  have hbv : Below w.heap.size w V := by rw [hV, HSC.out]; exact HB2.out
  have HBV := Aside0.mk hbv
  rw [← hV]
  clear hV hcs hbv
  go_loopw [62] (fun iv wr => ∃ i : Nat, i ≤ N ∧ iv = .int .i64 (i : Int) ∧ wr = V ∧ stopAt (p.take i) = none) (fun iv _ => N - (intOf iv).toNat)
  case atStart => exact ⟨0, Nat.zero_le _, rfl, rfl, by simp [stopAt]⟩
  case round =>
    obtain ⟨i, hi, rfl, rfl, hno⟩ := hrel
    have HNO := Aside0.mk hno
    clear hno
    by_cases hiN : i < N
    · have d1 : decide ((i : Int) < (N : Int)) = true := decide_eq_true (by omega)
      have hil : i < p.length := by have := HN.out.1; omega
      obtain ⟨b, hb⟩ : ∃ b, p[i]? = some b := ⟨_, List.getElem?_eq_getElem hil⟩
      have hb256 : b < 256 := HS.out b (List.mem_of_getElem? hb)
      obtain ⟨ad, ea, hcell, hal⟩ := cell_row (Kd.C_below HC.out HBV.out) i b hiN hb
      subst ea
      have b1 : (0 : Int) ≤ (i : Int) ∧ (i : Int) < (N : Int) := by omega
      have HB := Aside0.mk (And.intro hb hb256)
      have D6 := Aside0.mk (show wrap64 ((i : Int) + 1) = ((i + 1 : Nat) : Int) by unfold wrap64; have := HN.out; omega)
      have HK := Aside0.mk hiN
      obtain ⟨st, hst⟩ : ∃ st, st = stops b := ⟨_, rfl⟩
      have hcx := HCS.out b hb256
      rw [← hst] at hcx
      have HST := Aside0.mk hst
      have HCX := Aside0.mk hcx
      clear hb hb256 hil hst hcx hi
      cases st with
      | false =>
        go_wp2_with (go_at_call 136; (with_reducible refine (has_calls (w.heap.size + 1) b false ?hx HB.out.2 _ HCX.out).mono ?_); (case hx => first | rfl | omega); rintro e w1 ⟨rfl, rfl⟩)
        go_roundw
        case rel => exact ⟨i + 1, HK.out, congrArg (Value.int .i64) D6.out, by first | rfl | trivial, stop_next HNO.out HB.out.1 HST.out.symm⟩
        case measure => exact less2 (Nat.lt_succ_self i) HK.out D6.out
      | true =>
        go_wp2_with (go_at_call 136; (with_reducible refine (has_calls (w.heap.size + 1) b true ?hx HB.out.2 _ HCX.out).mono ?_); (case hx => first | rfl | omega); rintro e w1 ⟨rfl, rfl⟩)
        go_ret
        exact ⟨by rw [stop_at HNO.out HB.out.1 HST.out.symm]; rfl, HBV.out⟩
    · have hie : i = N := by omega
      subst hie
      have d1 : decide ((i : Int) < (i : Int)) = false := decide_eq_false (by omega)
      go_wp2
      go_ret
      exact ⟨by rw [stop_end HNO.out (by have := HN.out.1; omega)]; rfl, HBV.out⟩
end Go.Proofs.YtfplocpjdjjoaaaDoor.Cut
