/- The law DataGrows: for every input the call returns true, and its arguments read afterwards as they read before. Condition: what is read is of bulk at most 1048576. -/
import Derived.Test.YtclanebbalgpfaaRows
import Derived.Test.YtclanebbalgpfaaGrows
import Derived.Test.YtclanebbalgpfaaOpen
import Derived.Test.YtclanebbalgpfaaPureDataGrows
import Derived.WalkKit
import Derived.ProofKit
import Derived.OpenShut
import Derived.ShutString
import Derived.ChangeOld
import Derived.Below
import Derived.SizedLaws
import Derived.Lib.SmallJoins
import Derived.JoinedCond
namespace Go.Proofs.Ytclanebbalgpfaa.dataGrowsUpto
open Go.ChangeShapes Go.WideShapes Go.ChangeAt Go.RowKit Go.Proofs.YtclanebbalgpfaaW.PrintWords Go.Proofs.Ytclanebbalgpfaa.Open
open Go.Proofs.Ytclanebbalgpfaa.DataGrowsPure
open Go.ChangeMaps (open_string shut_string)
set_option linter.unusedVariables false
set_option linter.unusedSimpArgs false
theorem own : ownKnob Try.prog.godebug = none := by kernel_rfl
theorem laidOut : laidOutB Try.prog = true := by kernel_rfl
set_option maxRecDepth 100000 in
theorem lifted (os : Os) (started : os.Started) (H : Type) (enc : TypeId × Value → H) (F : Stop.Interp) :
    ReturnsInHanded {} Try.checked os 10 .any (((Rows.OpenSpec.upto Rows.dataGrowsSpec)).pre6 enc Try.prog Try.f10 Rows.dataGrowsUptoRow.domain false) ((((Rows.OpenSpec.upto Rows.dataGrowsSpec)).at F).post enc Try.prog Try.f10 false true false false) := by
  refine returnsInHanded_of_cond (C := Try.checked) (s := (Rows.OpenSpec.upto Rows.dataGrowsSpec)) (k := Rows.uptoSmall) rfl own started (by kernel_rfl) Try.func10
    (OpenSpec.witness (enc := enc) (C := Try.checked) (s := (Rows.OpenSpec.upto Rows.dataGrowsSpec)) (k := Rows.uptoSmall) rfl false ⟨#[], #[.slice none 0 0, .int .i64 0, .agg #[.bool false, .slice none 0 0], .slice none 0 0], []⟩ 8 (by kernel_rfl) (by kernel_rfl) (by kernel_rfl)
      (x := ([.nil, .lit (.int .i64 0), .agg [.lit (.bool false), .nil], .nil], [], [])) (by kernel_rfl) rfl (by kernel_rfl)) ?_
  intro W base args ds gs before hval0 hW _ hkb _
  have hval : ∀ (j : Nat) t v, Try.f10.params[j]? = some t → args[j]? = some v → Value.okWide Try.prog W .any base t v := hval0
  have hW' := hW
  obtain ⟨p, q, hA0, hV, rfl, hfz, hnd⟩ := hW
  have hA : DataW.TrodAll enc Try.prog W 0 (fun _ => true) true Try.f10.params.toList args.toList ds p := hA0
  rw [Try.params10] at hA hval
  obtain ⟨v0, vs0, d0, ds0, p0, q0, hargs, rfl, rfl, h0, r0⟩ := trodAll_cons hA
  obtain ⟨v1, vs1, d1, ds1, p1, q1, rfl, rfl, rfl, h1, r1⟩ := trodAll_cons r0
  obtain ⟨v2, vs2, d2, ds2, p2, q2, rfl, rfl, rfl, h2, r2⟩ := trodAll_cons r1
  obtain ⟨v3, vs3, d3, ds3, p3, q3, rfl, rfl, rfl, h3, r3⟩ := trodAll_cons r2
  obtain ⟨rfl, rfl, rfl⟩ := trodAll_nil r3
  obtain rfl : args = #[v0, v1, v2, v3] := by cases args; simp_all
  obtain ⟨rfl, rfl⟩ := trodVars_none hV
  have k0 := h0
  have lt0 : ∀ x ∈ p0, x.block < W.heap.size := by obtain ⟨m, hm⟩ := k0; exact DataW.trod_lt m _ _ _ hm
  have bb0 : Rows.uptoBulk d0 ≤ Rows.uptoBulk d0 := Nat.le_refl _
  have k1 := h1
  have lt1 : ∀ x ∈ p1, x.block < W.heap.size := by obtain ⟨m, hm⟩ := k1; exact DataW.trod_lt m _ _ _ hm
  have bb1 : Rows.uptoBulk d1 ≤ Rows.uptoBulk d1 := Nat.le_refl _
  have k2 := h2
  have lt2 : ∀ x ∈ p2, x.block < W.heap.size := by obtain ⟨m, hm⟩ := k2; exact DataW.trod_lt m _ _ _ hm
  have bb2 : Rows.uptoBulk d2 ≤ Rows.uptoBulk d2 := Nat.le_refl _
  have k3 := h3
  have lt3 : ∀ x ∈ p3, x.block < W.heap.size := by obtain ⟨m, hm⟩ := k3; exact DataW.trod_lt m _ _ _ hm
  have bb3 : Rows.uptoBulk d3 ≤ Rows.uptoBulk d3 := Nat.le_refl _
  have hbulk := small hkb
  simp only [List.append_nil, List.nil_append, List.cons_append, Rows.uptoBulkAll] at hbulk
  obtain ⟨A0_, L0_, C0_, rfl⟩ := okWide_slice Try.underlying22 (hval 0 22 v0 rfl rfl)
  obtain ⟨fuel0, hf0⟩ := h0
  obtain ⟨l0, ⟨A0, c0, hcs0, hc0, hr0⟩, wf0, bk0, wt0⟩ := (opData).get hf0
  simp only [Value.cells, List.cons.injEq, Value.slice.injEq, and_true] at hcs0
  obtain ⟨rfl, rfl, rfl⟩ := hcs0
  replace bk0 : _ ≤ Rows.uptoBulk d0 := bk0
  obtain ⟨a1, rfl, rfl, rfl, wa1⟩ := open_int Try.underlying3 (hval 1 3 v1 rfl rfl) h1
  obtain ⟨v2_0, v2_1, y2_0, y2_1, n2, rfl, rfl, rfl, g2_0, g2_1⟩ := Joins.open_agg2 Try.underlying39 (by kernel_rfl) (by kernel_rfl) (hval 2 39 v2 rfl rfl) h2
  obtain ⟨a2_0, ea2_0, xa2_0⟩ := DataW.trod_bool Try.underlying4 g2_0
  simp only [List.cons.injEq, and_true] at ea2_0
  subst ea2_0
  obtain ⟨l2_1, ⟨A2_1, c2_1, hcs2_1, hc2_1, hr2_1⟩, wf2_1, bk2_1, wt2_1⟩ := (opNames).get g2_1
  simp only [List.cons.injEq, and_true] at hcs2_1
  subst hcs2_1
  simp only [Rows.uptoBulk, Rows.uptoBulkAll] at bb2 hbulk
  obtain ⟨A3_, L3_, C3_, rfl⟩ := okWide_slice Try.underlying24 (hval 3 24 v3 rfl rfl)
  obtain ⟨fuel3, hf3⟩ := h3
  obtain ⟨l3, ⟨A3, c3, hcs3, hc3, hr3⟩, wf3, bk3, wt3⟩ := (opBytes).get hf3
  simp only [Value.cells, List.cons.injEq, Value.slice.injEq, and_true] at hcs3
  obtain ⟨rfl, rfl, rfl⟩ := hcs3
  replace bk3 : _ ≤ Rows.uptoBulk d3 := bk3
  clear hA0 hval0
  have hkk := DataGrowsPure.DataGrows l0 a1 a2_0 l2_1 l3 wf0 wa1 wf2_1 wf3 (by omega)
  refine (PDataGrows.grows.calls _ _ l0 a1 a2_0 _ _ l2_1 _ _ l3 true W hr0 hc0 hr2_1 hc2_1 hr3 hc3 hkk).mono fun e W' ⟨he, hd⟩ => ?_
  have bel : Below W.heap.size W W' := hd
  subst he
  exact ⟨_, rfl, _, _, _, [], _, [], hW', trodAll_mk1 (shut_bool Try.underlying4 _), (trodAll_cons_mk (Below.trod laidOut (by kernel_rfl) (of_decide_eq_true (by kernel_rfl)) k0 bel lt0) (trodAll_cons_mk (Below.trod laidOut (by kernel_rfl) (of_decide_eq_true (by kernel_rfl)) k1 bel lt1) (trodAll_cons_mk (Below.trod laidOut (by kernel_rfl) (of_decide_eq_true (by kernel_rfl)) k2 bel lt2) (trodAll_cons_mk (Below.trod laidOut (by kernel_rfl) (of_decide_eq_true (by kernel_rfl)) k3 bel lt3) trodAll_mk0)))), rfl, bel.frame _, fun h => by cases h⟩
theorem over : Rows.dataGrowsUptoRow.holds Try.pinned (Rows.OpenSpec.upto Rows.dataGrowsSpec) :=
  OpenClaim.holds_of_cond 10 Try.f10 rfl rfl rfl rfl rfl rfl rfl ⟨rfl, rfl, rfl, rfl, rfl⟩ rfl rfl rfl rfl rfl (by kernel_rfl) Try.func10 (by kernel_rfl)
    (of_decide_eq_true (by kernel_rfl)) (by unfold Func.isWrapper; first | (rw [if_pos (by decide +kernel)]; kernel_rfl) | (rw [if_neg (by decide +kernel)]; exact ⟨rfl, rfl⟩))
    (fun os started H enc _ F => lifted os started H enc F)
theorem proved : Rows.DataGrowsUptoSaid := over
#print axioms proved
end Go.Proofs.Ytclanebbalgpfaa.dataGrowsUpto
namespace Go.Proofs.Ytclanebbalgpfaa
theorem dataGrowsUpto_holds : Rows.DataGrowsUptoSaid := dataGrowsUpto.proved
end Go.Proofs.Ytclanebbalgpfaa
