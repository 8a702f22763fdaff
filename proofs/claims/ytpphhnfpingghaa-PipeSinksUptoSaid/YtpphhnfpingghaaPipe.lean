/-
  The calls of pipe.Sink's methods: what they answer, what becomes of the sink, and that nothing else is changed. Conditions: as each theorem says.
-/
import Derived.Test.YtpphhnfpingghaaWWords
import Derived.Test.YtpphhnfpingghaaWKept
import Derived.Test.YtpphhnfpingghaaWMore
import Derived.Test.YtpphhnfpingghaaProg
import Derived.Deep.RegionLaw
import Derived.Deep.RegionWith
import Derived.Lib.SmallJoins
import Derived.Lib.SlBytesConst
namespace Go.Proofs.Ytpphhnfpingghaa.Pipe
open Go.RowKit Go.Proofs.YtpphhnfpingghaaW.PrintWords Go.Proofs.YtpphhnfpingghaaW.PrintLast Go.Proofs.YtpphhnfpingghaaW.PrintMore
attribute [local go_sem] max2_int min2_int max_two min_two max_three min_three max_four min_four
set_option linter.unusedVariables false
set_option linter.unusedSimpArgs false

theorem info_byte : (Try.prog.info? 5).map (fun i => (i.zero, i.size, i.bytes)) = some (some (.int .u8 0), 1, 1) := by kernel_rfl

/-- The sink at block g: what it got (its row lies in M), how many offers it saw, whether it failed. -/
def Sk (w : World) (base g : Nat) (M : Nat → Prop) (got : List Int) (off : Int) (fl : Bool) : Prop :=
  ∃ v, w.heap[g]? = some (.cells #[v, .int .i64 off, .bool fl] 29 (0, 0)) ∧ Kd.R (Kd.int .u8) 5 w base (fun k => M k ∧ k ≠ g) v got

theorem block_cell {w : World} {g i : Nat} {cs : Array Value} {t : TypeId} {fr : Nat × Nat} {v : Value} (h : w.heap[g]? = some (.cells cs t fr)) (hv : cs[i]? = some v) : w.cell? ⟨g, i, none⟩ = some v := by
  simp [World.cell?, h, hv]

/-- What the append leaves of the sink, and the store behind it. -/
theorem sk_stored {w0 w w2 w3 : World} {base g : Nat} {M : Nat → Prop} {v v3 : Value} {got ys : List Int} {off : Int} (hb2 : w2.heap[g]? = some (.cells #[v, .int .i64 off, .bool false] 29 (0, 0)))
    (hg : M g) (hr0 : Kd.R (Kd.int .u8) 5 w2 base (fun k => M k ∧ k ≠ g) v got) (hk : Kept w w2 M) (hBb : Below base w0 w3) (hMb : ∀ k, M k → base ≤ k) (hgr : w2.grownBy w3 v.ownBlock)
    (hr3 : Kd.R (Kd.int .u8) 5 w3 base (fun k => (M k ∨ w.heap.size ≤ k) ∧ k ≠ g) v3 ys) :
    Sk (w3.setCell ⟨g, 0, none⟩ v3) base g (fun k => M k ∨ w.heap.size ≤ k) ys off false ∧ Kept w (w3.setCell ⟨g, 0, none⟩ v3) M ∧ Below base w0 (w3.setCell ⟨g, 0, none⟩ v3) := by
  have hne : some g ≠ v.ownBlock := fun e => (hr0.1 g e.symm).2 rfl
  have hlt : g < w2.heap.size := blk_lt hb2
  have hb3 : w3.heap[g]? = some (.cells #[v, .int .i64 off, .bool false] 29 (0, 0)) := (hgr.block g hlt hne).trans hb2
  refine ⟨⟨v3, ?_, Kd.R_far hr3 (fun k hk => hk.2) _⟩, ?_, hBb.setCell (hMb g hg) _⟩
  · have := Joins.block_setCell (i := 0) hb3 v3
    simpa using this
  · exact (hk.of_grown hgr (fun k e => .inl (hr0.1 k e).1)).setCell (.inl hg) _

set_option maxHeartbeats 8000000 in
set_option maxRecDepth 100000 in
theorem take_more (w0 w : World) (base g : Nat) (M : Nat → Prop) (got : List Int) (off : Int) (A : Option Addr) (c : Nat) (p : List Int) (n m : Int) (hS : Sk w base g M got off false) (hg : M g) (hMb : ∀ k, M k → base ≤ k) (hB : Below base w0 w) (hbs : base ≤ w.heap.size)
    (hp : Kd.C (Kd.int .u8) w A p.length p) (hA : ∀ ad, A = some ad → 0 < p.length → ad.block ≠ g) (hc : p.length ≤ c) (hn : 0 ≤ n) (hoff : 0 ≤ off ∧ off ≤ 9000000000000000000) (hlen : got.length + p.length ≤ 140737488355328)
    (hm : (n ≤ p.length → m = n) ∧ (p.length < n → m = p.length)) :
    Calls Try.prog 15 #[.pointer (some ⟨g, 0, none⟩), .slice A p.length c, .int .i64 n] w fun e w' => e = .returned (.int .i64 m) ∧
      Sk w' base g (fun k => M k ∨ w.heap.size ≤ k) (got ++ p.take m.toNat) (off + 1) false ∧ Kept w w' M ∧ Below base w0 w' := by
  obtain ⟨v, hb, hr⟩ := hS
  have h0 : w.cell? ⟨g, 0, none⟩ = some v := block_cell (i := 0) hb rfl
  have h1 : w.cell? ⟨g, 1, none⟩ = some (.int .i64 off) := block_cell (i := 1) hb rfl
  have h2 : w.cell? ⟨g, 2, none⟩ = some (.bool false) := block_cell (i := 2) hb rfl
  have hf1 := Joins.unfrozen_of_block hb 1
  have c0 : decide (n < 0) = false := decide_eq_false (by omega)
  have HM := Aside0.mk hm
  have HOFF := Aside0.mk hoff
  have HN := Aside0.mk hn
  have HLEN := Aside0.mk hlen
  have HP := Aside0.mk hp
  have HC := Aside0.mk hc
  have HBK := Aside0.mk hb
  have HR := Aside0.mk hr
  have HB := Aside0.mk hB
  have HMB := Aside0.mk hMb
  have HAF := Aside0.mk hA
  have o1 := hoff.1
  have o2 := hoff.2
  clear hm hoff hlen hp hb hr hB hMb hA
  go_enter Try.func15, Try.ntmps15
  go_wp2
  · have hlt : (p.length : Int) < n := by assumption
    obtain rfl : m = (p.length : Int) := HM.out.2 hlt
    have hk1 : KeepBut w (w.setCell ⟨g, 1, none⟩ (.int .i64 (off + 1))) g none := (KeepBut.refl w g none).set_ 1 _
    have hb1 : (w.setCell ⟨g, 1, none⟩ (.int .i64 (off + 1))).heap[g]? = some (.cells #[v, .int .i64 (off + 1), .bool false] 29 (0, 0)) := by
      have := Joins.block_setCell (i := 1) HBK.out (.int .i64 (off + 1))
      simpa using this
    have hr1 := Kd.R_far HR.out (p := ⟨g, 1, none⟩) (fun k hk => hk.2) (.int .i64 (off + 1))
    have hp1 := Kd.C_keep (0 : Int) HP.out hk1 HAF.out
    have hB1 := HB.out.setCell (p := ⟨g, 1, none⟩) (HMB.out g hg) (.int .i64 (off + 1))
    have hK1 : Kept w (w.setCell ⟨g, 1, none⟩ (.int .i64 (off + 1))) M := (Kept.refl w M).setCell (p := ⟨g, 1, none⟩) (.inl hg) _
    have hs1 : base ≤ (w.setCell ⟨g, 1, none⟩ (.int .i64 (off + 1))).heap.size := Nat.le_trans hbs hk1.1
    have hs2 : w.heap.size ≤ (w.setCell ⟨g, 1, none⟩ (.int .i64 (off + 1))).heap.size := hk1.1
    obtain ⟨i0, hi0, _, hsz0, _⟩ := info_parts info_byte
    obtain ⟨hcut, hAc, hCc⟩ := print_take_of (P := Try.prog) (Value.int .u8) 0 22 5 .i64 Try.underlying22 hi0 hsz0 A c p (p.length : Int) (by have := HN.out; omega) (by omega) HC.out
    have hp2 := Kd.C_of_reads (h1 := fun _ => rfl) (hAc _ (Kd.reads_of_C hp1))
    have hJ : decide (0 ≤ (p.length : Int)) = true := decide_eq_true (by have := HN.out; omega)
    have hJ2 : decide ((p.length : Int) ≤ (p.length : Int)) = true := decide_eq_true (by omega)
    generalize w.setCell ⟨g, 1, none⟩ (.int .i64 (off + 1)) = w2 at hb1 hr1 hp2 hB1 hK1 hs1 hs2 ⊢
    have HB1 := Aside0.mk hb1
    have HR1 := Aside0.mk hr1
    have HP2 := Aside0.mk hp2
    have HBB := Aside0.mk hB1
    have HK := Aside0.mk hK1
    have g0 : w2.cell? ⟨g, 0, none⟩ = some v := block_cell (i := 0) hb1 rfl
    have gf0 := Joins.unfrozen_of_block hb1 0
    clear hk1 hb1 hr1 hp1 hp2 hB1 hK1 h0 h1 h2 hf1 hAc hCc hi0 hsz0
    have eX : (p.take ((p.length : Int)).toNat).length = p.length := by rw [List.length_take]; omega
    have HP3 := Aside0.mk (show Kd.C (Kd.int .u8) w2 A p.length (p.take ((p.length : Int)).toNat) from by have hq := HP2.out; rw [eX] at hq; exact hq)
    have HX := Aside0.mk (show p.length ≤ p.length from by omega)
    have HYL := Aside0.mk (show (got ++ p.take ((p.length : Int)).toNat).length = got.length + p.length from by rw [List.length_append, eX])
    obtain ⟨ys, hys⟩ : ∃ ys, ys = p.take ((p.length : Int)).toNat := ⟨_, rfl⟩
    rw [← hys] at HP3 HYL
    have HYS := Aside0.mk hys
    clear hys eX HP2
    go_region_law ((refine Kd.R_append_rows_step (Kd.int .u8) (w0 := w0) base rfl (.tmp 35) (.tmp 38) 22 5 (.int .u8 0) 1 rfl Try.underlying22 info_byte rfl (by decide) (by omega) v got ys A p.length c (fun k => (M k ∨ w.heap.size ≤ k) ∧ k ≠ g) (fun _ => False) rfl rfl ?aO ?aR (fun _ _ h => h) (fun _ h => h.elim) ?aF ?aB ?aS ?aL ?_); (case aO => exact Kd.R_drew (Kd.R_mono HR1.out (fun k hk => ⟨.inl hk.1, hk.2⟩))); (case aR => exact Kd.C_drew HP3.out); (case aF => intro k hk; have := blk_lt HB1.out; have hk' : w2.heap.size ≤ k := hk; exact ⟨.inr (by omega), by omega⟩); (case aB => exact below_drew1 HBB.out); (case aS => exact hs1); (case aL => have := HLEN.out; have := HX.out; omega); intro v3 w3 ho hbb hgr hat; obtain ⟨A3, c3, rfl⟩ := Kd.R_slice ho; rw [HYL.out] at ho ⊢; have HO := Aside0.mk ho; have HB3 := Aside0.mk hbb; have hne : some g ≠ v.ownBlock := fun e => (HR1.out.1 g e.symm).2 rfl; have HG := Aside0.mk (show w2.grownBy w3 v.ownBlock from ⟨hgr.os, hgr.tape, hgr.output, hgr.size, hgr.block⟩); have hb3 : w3.heap[g]? = some (.cells #[v, .int .i64 (off + 1), .bool false] 29 (0, 0)) := (hgr.block g (blk_lt HB1.out) hne).trans HB1.out; have g03 : w3.cell? ⟨g, 0, none⟩ = some v := block_cell (i := 0) hb3 rfl; have gf3 := Joins.unfrozen_of_block hb3 0; clear ho hbb hat hgr hne hb3)
    all_goals
      go_wp2
      go_ret
      have hend := sk_stored HB1.out hg HR1.out HK.out HB3.out HMB.out HG.out HO.out
      rw [HYS.out] at hend
      first
      | exact ⟨rfl, hend⟩
      | (simp only [Int.toNat_natCast, List.take_length] at hend
         exact ⟨rfl, hend⟩)
  · have hle : n ≤ (p.length : Int) := by assumption
    obtain rfl : n = m := (HM.out.1 hle).symm
    have hk1 : KeepBut w (w.setCell ⟨g, 1, none⟩ (.int .i64 (off + 1))) g none := (KeepBut.refl w g none).set_ 1 _
    have hb1 : (w.setCell ⟨g, 1, none⟩ (.int .i64 (off + 1))).heap[g]? = some (.cells #[v, .int .i64 (off + 1), .bool false] 29 (0, 0)) := by
      have := Joins.block_setCell (i := 1) HBK.out (.int .i64 (off + 1))
      simpa using this
    have hr1 := Kd.R_far HR.out (p := ⟨g, 1, none⟩) (fun k hk => hk.2) (.int .i64 (off + 1))
    have hp1 := Kd.C_keep (0 : Int) HP.out hk1 HAF.out
    have hB1 := HB.out.setCell (p := ⟨g, 1, none⟩) (HMB.out g hg) (.int .i64 (off + 1))
    have hK1 : Kept w (w.setCell ⟨g, 1, none⟩ (.int .i64 (off + 1))) M := (Kept.refl w M).setCell (p := ⟨g, 1, none⟩) (.inl hg) _
    have hs1 : base ≤ (w.setCell ⟨g, 1, none⟩ (.int .i64 (off + 1))).heap.size := Nat.le_trans hbs hk1.1
    have hs2 : w.heap.size ≤ (w.setCell ⟨g, 1, none⟩ (.int .i64 (off + 1))).heap.size := hk1.1
    obtain ⟨i0, hi0, _, hsz0, _⟩ := info_parts info_byte
    obtain ⟨hcut, hAc, hCc⟩ := print_take_of (P := Try.prog) (Value.int .u8) 0 22 5 .i64 Try.underlying22 hi0 hsz0 A c p n (by have := HN.out; omega) (by omega) HC.out
    have hp2 := Kd.C_of_reads (h1 := fun _ => rfl) (hAc _ (Kd.reads_of_C hp1))
    have hJ : decide (0 ≤ n) = true := decide_eq_true (by have := HN.out; omega)
    have hJ2 : decide (n ≤ (p.length : Int)) = true := decide_eq_true (by omega)
    generalize w.setCell ⟨g, 1, none⟩ (.int .i64 (off + 1)) = w2 at hb1 hr1 hp2 hB1 hK1 hs1 hs2 ⊢
    have HB1 := Aside0.mk hb1
    have HR1 := Aside0.mk hr1
    have HP2 := Aside0.mk hp2
    have HBB := Aside0.mk hB1
    have HK := Aside0.mk hK1
    have g0 : w2.cell? ⟨g, 0, none⟩ = some v := block_cell (i := 0) hb1 rfl
    have gf0 := Joins.unfrozen_of_block hb1 0
    clear hk1 hb1 hr1 hp1 hp2 hB1 hK1 h0 h1 h2 hf1 hAc hCc hi0 hsz0
    have eX : (p.take (n).toNat).length = n.toNat := by rw [List.length_take]; omega
    have HP3 := Aside0.mk (show Kd.C (Kd.int .u8) w2 A n.toNat (p.take (n).toNat) from by have hq := HP2.out; rw [eX] at hq; exact hq)
    have HX := Aside0.mk (show n.toNat ≤ p.length from by omega)
    have HYL := Aside0.mk (show (got ++ p.take (n).toNat).length = got.length + n.toNat from by rw [List.length_append, eX])
    obtain ⟨ys, hys⟩ : ∃ ys, ys = p.take (n).toNat := ⟨_, rfl⟩
    rw [← hys] at HP3 HYL
    have HYS := Aside0.mk hys
    clear hys eX HP2
    go_region_law ((refine Kd.R_append_rows_step (Kd.int .u8) (w0 := w0) base rfl (.tmp 35) (.tmp 38) 22 5 (.int .u8 0) 1 rfl Try.underlying22 info_byte rfl (by decide) (by omega) v got ys A n.toNat c (fun k => (M k ∨ w.heap.size ≤ k) ∧ k ≠ g) (fun _ => False) rfl rfl ?aO ?aR (fun _ _ h => h) (fun _ h => h.elim) ?aF ?aB ?aS ?aL ?_); (case aO => exact Kd.R_drew (Kd.R_mono HR1.out (fun k hk => ⟨.inl hk.1, hk.2⟩))); (case aR => exact Kd.C_drew HP3.out); (case aF => intro k hk; have := blk_lt HB1.out; have hk' : w2.heap.size ≤ k := hk; exact ⟨.inr (by omega), by omega⟩); (case aB => exact below_drew1 HBB.out); (case aS => exact hs1); (case aL => have := HLEN.out; have := HX.out; omega); intro v3 w3 ho hbb hgr hat; obtain ⟨A3, c3, rfl⟩ := Kd.R_slice ho; rw [HYL.out] at ho ⊢; have HO := Aside0.mk ho; have HB3 := Aside0.mk hbb; have hne : some g ≠ v.ownBlock := fun e => (HR1.out.1 g e.symm).2 rfl; have HG := Aside0.mk (show w2.grownBy w3 v.ownBlock from ⟨hgr.os, hgr.tape, hgr.output, hgr.size, hgr.block⟩); have hb3 : w3.heap[g]? = some (.cells #[v, .int .i64 (off + 1), .bool false] 29 (0, 0)) := (hgr.block g (blk_lt HB1.out) hne).trans HB1.out; have g03 : w3.cell? ⟨g, 0, none⟩ = some v := block_cell (i := 0) hb3 rfl; have gf3 := Joins.unfrozen_of_block hb3 0; clear ho hbb hat hgr hne hb3)
    all_goals
      go_wp2
      go_ret
      have hend := sk_stored HB1.out hg HR1.out HK.out HB3.out HMB.out HG.out HO.out
      rw [HYS.out] at hend
      first
      | exact ⟨rfl, hend⟩
      | (simp only [Int.toNat_natCast, List.take_length] at hend
         exact ⟨rfl, hend⟩)

set_option maxHeartbeats 8000000 in
set_option maxRecDepth 100000 in
theorem take_stopped (w : World) (base g : Nat) (M : Nat → Prop) (got : List Int) (off : Int) (A : Option Addr) (l c : Nat) (n : Int) (hS : Sk w base g M got off true) :
    Calls Try.prog 15 #[.pointer (some ⟨g, 0, none⟩), .slice A l c, .int .i64 n] w fun e w' => e = .returned (.int .i64 0) ∧ w = w' := by
  obtain ⟨v, hb, hr⟩ := hS
  have h2 : w.cell? ⟨g, 2, none⟩ = some (.bool true) := block_cell (i := 2) hb rfl
  clear hb hr
  go_enter Try.func15, Try.ntmps15
  go_wp2
  go_ret
  exact ⟨rfl, rfl⟩

set_option maxHeartbeats 8000000 in
set_option maxRecDepth 100000 in
theorem take_fails (w0 w : World) (base g : Nat) (M : Nat → Prop) (got : List Int) (off : Int) (A : Option Addr) (l c : Nat) (n : Int) (hS : Sk w base g M got off false) (hg : M g) (hMb : ∀ k, M k → base ≤ k) (hB : Below base w0 w) (hn : n < 0) :
    Calls Try.prog 15 #[.pointer (some ⟨g, 0, none⟩), .slice A l c, .int .i64 n] w fun e w' => e = .returned (.int .i64 0) ∧ Sk w' base g M got off true ∧ Kept w w' M ∧ Below base w0 w' := by
  have HS := Aside0.mk hS
  obtain ⟨v, hb, hr⟩ := hS
  have h2 : w.cell? ⟨g, 2, none⟩ = some (.bool false) := block_cell (i := 2) hb rfl
  have hf2 := Joins.unfrozen_of_block hb 2
  have HBK := Aside0.mk hb
  have HR := Aside0.mk hr
  have HB := Aside0.mk hB
  have HMB := Aside0.mk hMb
  have c0 : decide (n < 0) = true := decide_eq_true hn
  clear hb hr hB hMb hn
  go_enter Try.func15, Try.ntmps15
  go_wp2
  go_ret
  refine ⟨rfl, ⟨v, ?_, Kd.R_far HR.out (p := ⟨g, 2, none⟩) (fun k hk => hk.2) _⟩, (Kept.refl w M).setCell (p := ⟨g, 2, none⟩) (.inl hg) _, HB.out.setCell (p := ⟨g, 2, none⟩) (HMB.out g hg) _⟩
  have := Joins.block_setCell (i := 2) HBK.out (.bool true)
  simpa using this

set_option maxHeartbeats 8000000 in
set_option maxRecDepth 100000 in
theorem take_nil (w : World) (A : Option Addr) (l c : Nat) (n : Int) :
    Calls Try.prog 15 #[.pointer none, .slice A l c, .int .i64 n] w fun e w' => e = .returned (.int .i64 0) ∧ w = w' := by
  go_enter Try.func15, Try.ntmps15
  go_wp2
  go_ret
  exact ⟨rfl, rfl⟩

set_option maxHeartbeats 8000000 in
theorem offers_calls (w : World) (base g : Nat) (M : Nat → Prop) (got : List Int) (off : Int) (fl : Bool) (hS : Sk w base g M got off fl) :
    Calls Try.prog 16 #[.pointer (some ⟨g, 0, none⟩)] w fun e w' => e = .returned (.int .i64 off) ∧ w = w' := by
  obtain ⟨v, hb, hr⟩ := hS
  have h1 : w.cell? ⟨g, 1, none⟩ = some (.int .i64 off) := block_cell (i := 1) hb rfl
  clear hb hr
  go_enter Try.func16, Try.ntmps16
  go_wp2
  go_ret
  exact ⟨rfl, rfl⟩
set_option maxHeartbeats 8000000 in
theorem offers_nil (w : World) : Calls Try.prog 16 #[.pointer none] w fun e w' => e = .returned (.int .i64 0) ∧ w = w' := by
  go_enter Try.func16, Try.ntmps16
  go_wp2
  go_ret
  exact ⟨rfl, rfl⟩
set_option maxHeartbeats 8000000 in
theorem failed_calls (w : World) (base g : Nat) (M : Nat → Prop) (got : List Int) (off : Int) (fl : Bool) (hS : Sk w base g M got off fl) :
    Calls Try.prog 17 #[.pointer (some ⟨g, 0, none⟩)] w fun e w' => e = .returned (.bool fl) ∧ w = w' := by
  obtain ⟨v, hb, hr⟩ := hS
  have h1 : w.cell? ⟨g, 2, none⟩ = some (.bool fl) := block_cell (i := 2) hb rfl
  clear hb hr
  go_enter Try.func17, Try.ntmps17
  go_wp2
  go_ret
  exact ⟨rfl, rfl⟩
set_option maxHeartbeats 8000000 in
theorem failed_nil (w : World) : Calls Try.prog 17 #[.pointer none] w fun e w' => e = .returned (.bool false) ∧ w = w' := by
  go_enter Try.func17, Try.ntmps17
  go_wp2
  go_ret
  exact ⟨rfl, rfl⟩
set_option maxHeartbeats 8000000 in
theorem got_nil (w : World) : Calls Try.prog 18 #[.pointer none] w fun e w' => e = .returned (.slice none 0 0) ∧ w = w' := by
  go_enter Try.func18, Try.ntmps18
  go_wp2
  go_ret
  exact ⟨rfl, rfl⟩
set_option maxHeartbeats 8000000 in
set_option maxRecDepth 100000 in
theorem got_calls (w : World) (base g : Nat) (M : Nat → Prop) (got : List Int) (off : Int) (fl : Bool) (hS : Sk w base g M got off fl) (hlen : got.length ≤ 140737488355328) :
    Calls Try.prog 18 #[.pointer (some ⟨g, 0, none⟩)] w fun e w' => ∃ v0 : Value, e = .returned v0 ∧ Kd.R (Kd.int .u8) 5 w' w.heap.size (fun _ => True) v0 got ∧ Below w.heap.size w w' := by
  obtain ⟨v, hb, hr⟩ := hS
  have h0 : w.cell? ⟨g, 0, none⟩ = some v := block_cell (i := 0) hb rfl
  obtain ⟨A1, c1, rfl⟩ := Kd.R_slice hr
  have HR := Aside0.mk hr
  have HL := Aside0.mk hlen
  clear hb hr hlen
  go_enter Try.func18, Try.ntmps18
  go_wp2_with ((with_reducible refine gate_builtin (b := .append) (xs := #[.const (.slice none 0 0), .tmp 8]) rfl ?_); at_builtin; refine Kd.R_append_rows (Kd.int .u8) (w0 := w) w.heap.size rfl (.const (.slice none 0 0)) (.tmp 8) 22 5 (.int .u8 0) 1 rfl Try.underlying22 info_byte rfl (by decide) (by omega) (.slice none 0 0) [] got _ _ _ (fun _ => True) (fun _ => False) rfl rfl ?aO ?aR (fun _ _ h => h) (fun _ h => h.elim) ?aF ?aB ?aS ?aL ?_; (case aO => exact Kd.R_nil _ _ _ _ _); (case aR => exact (Kd.R_reads' HR.out).2.2); (case aF => exact (fun _ _ => trivial)); (case aB => exact Below.refl _ _); (case aS => exact Nat.le_refl _); (case aL => have := HL.out; simp only [List.length_nil]; omega); intro v3 w3 ho hbb hgr hat; have HO := Aside0.mk ho; have HB3 := Aside0.mk hbb; clear ho hbb hgr hat)
  go_ret
  exact ⟨_, rfl, HO.out, HB3.out⟩
end Go.Proofs.Ytpphhnfpingghaa.Pipe
