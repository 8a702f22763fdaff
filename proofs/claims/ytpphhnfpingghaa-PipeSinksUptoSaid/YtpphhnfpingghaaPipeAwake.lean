/-
  The call of bobbinlaw20.awake: it answers true. Conditions: none.
-/
import Derived.Test.YtpphhnfpingghaaPipe
namespace Go.Proofs.Ytpphhnfpingghaa.Pipe
open Go.RowKit Go.Proofs.YtpphhnfpingghaaW.PrintWords Go.Proofs.YtpphhnfpingghaaW.PrintLast Go.Proofs.YtpphhnfpingghaaW.PrintMore
attribute [local go_sem] max2_int min2_int max_two min_two max_three min_three max_four min_four
set_option linter.unusedVariables false
set_option linter.unusedSimpArgs false

theorem awake_says : ((strOfNums [97]).toList == ([97] : List UInt8)) = true := by decide +kernel
/-- A new sink. -/
theorem sk_new (W : World) (base : Nat) (hb : base ≤ W.heap.size) : Sk (W.alloc (.cells #[.slice none 0 0, .int .i64 0, .bool false] 29)) base W.heap.size (fun k => k = W.heap.size) [] 0 false :=
  ⟨_, heap_alloc_new W _, Kd.R_nil _ _ _ _ _⟩
theorem Sk.step {w w1 : World} {base g : Nat} {M : Nat → Prop} {got : List Int} {off : Int} {fl : Bool} (h : Sk w base g M got off fl) (hg : M g) (hk : ∀ k, M k → k < w.heap.size → w1.heap[k]? = w.heap[k]?) : Sk w1 base g M got off fl := by
  obtain ⟨v, hb, hr⟩ := h
  exact ⟨v, (hk g hg (blk_lt hb)).trans hb, Kd.R_step hr (fun k hk' hlt => hk k hk'.1 hlt)⟩
theorem Sk.below {w w1 : World} {base g : Nat} {M : Nat → Prop} {got : List Int} {off : Int} {fl : Bool} (h : Sk w base g M got off fl) (hg : M g) (hb : Below w.heap.size w w1) : Sk w1 base g M got off fl :=
  h.step hg (fun k _ hlt => hb.block k hlt)
theorem Sk.lt {w : World} {base g : Nat} {M : Nat → Prop} {got : List Int} {off : Int} {fl : Bool} (h : Sk w base g M got off fl) : g < w.heap.size := by
  obtain ⟨v, hb, hr⟩ := h
  exact blk_lt hb
theorem Sk.mono {w : World} {base g : Nat} {M M' : Nat → Prop} {got : List Int} {off : Int} {fl : Bool} (h : Sk w base g M got off fl) (hm : ∀ k, M k → k < w.heap.size → M' k) : Sk w base g M' got off fl := by
  obtain ⟨v, hb, hr⟩ := h
  exact ⟨v, hb, Kd.R_mono (Kd.R_bound hr) (fun k hk => ⟨hm k hk.1.1 hk.2.2.1, hk.1.2⟩)⟩
theorem reads_two (w : World) (e : TypeId) (fr : Nat × Nat) (x y : Int) : Kd.C (Kd.int .u8) (w.alloc (.cells #[.int .u8 x, .int .u8 y] e fr)) (some ⟨w.heap.size, 0, none⟩) ([x, y] : List Int).length [x, y] := by
  refine Kd.C_of_reads (d := (0 : Int)) (h1 := fun _ => rfl) (show ReadsInt _ .u8 _ _ _ from ⟨rfl, by simp, fun _ => ⟨_, rfl, fun j hj => ?_⟩⟩)
  have hj' : j = 0 ∨ j = 1 := by simp at hj; omega
  rcases hj' with rfl | rfl
  · rw [add_plain, World.cell?_alloc_mark]; rfl
  · rw [add_plain, World.cell?_alloc_mark]; rfl

set_option maxHeartbeats 8000000 in
set_option maxRecDepth 100000 in
theorem awake_calls (w : World) : Calls Try.prog 14 #[] w fun e w' => e = .returned (.bool true) ∧ Below w.heap.size w w' := by
  have kc := fun (w : World) (C : Array Value) (n c g : Nat) (hg : g = w.heap.size) => Joins.run_convert_bytes_const_at (P := Try.prog) w 22 5 C n c g hg Try.underlying22 Try.underlying5
  go_enter Try.func14, Try.ntmps14
  go_wp2_with (first
    | (go_at_call 15
       have hr2 := reads_two (w.alloc (.cells #[.slice none 0 0, .int .i64 0, .bool false] 29)) 5 (2, 3) 97 98
       have e1 : (w.alloc (.cells #[.slice none 0 0, .int .i64 0, .bool false] 29)).heap.size = w.heap.size + 1 := by simp
       rw [e1] at hr2
       refine (take_more w _ w.heap.size w.heap.size (fun k => k = w.heap.size) [] 0 (some ⟨w.heap.size + 1, 0, none⟩) 2 [97, 98] 1 1 ?sS rfl (fun k hk => by omega) (below_alloc (below_alloc (Below.refl _ _) _) _) (by simp; omega) hr2 ?sA (by decide) (by omega) (by omega) (by decide) ⟨fun _ => rfl, fun h => absurd h (by decide)⟩).mono ?_
       case sS => exact (sk_new w w.heap.size (Nat.le_refl _)).below rfl (below_alloc (Below.refl _ _) _)
       case sA => intro ad e _; obtain rfl := Option.some.inj e; simp
       rintro e w2 ⟨rfl, hs, hk, hb⟩
       have HS := Aside0.mk hs
       have HB2 := Aside0.mk hb
       clear hr2 e1 hs hk hb)
    | (go_at_call 18
       refine (got_calls _ _ _ _ _ _ _ HS.out (by decide)).mono ?_
       rintro e w3 ⟨v3, rfl, hr3, hb3⟩
       have hcv := own_string (P := Try.prog) Try.underlying22 Try.underlying5 Try.underlying9 (Kd.own_of_R hr3)
       have HB3 := Aside0.mk (below_step HB2.out hb3)
       clear hr3 hb3))
  go_ret
  exact ⟨congrArg (fun b => Ending.returned (.bool b)) awake_says, HB3.out⟩
end Go.Proofs.Ytpphhnfpingghaa.Pipe
