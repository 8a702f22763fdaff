/-
  The law WholeTrailers: for every input the call returns true, and its arguments read afterwards as they read before. Condition: what is read is of bulk at most 1048576, and the variable bad of step reads as the program's text lays it.
-/
import Derived.Test.YtfplocpjdjjoaaaDoorRows
import Derived.Test.YtfplocpjdjjoaaaDoorCards
import Derived.Test.YtfplocpjdjjoaaaDoorTie
import Derived.Test.YtfplocpjdjjoaaaDoorOpen
import Derived.Test.YtfplocpjdjjoaaaDoorGt
import Derived.WalkKit
import Derived.ProofKit
import Derived.OpenShut
import Derived.ShutString
import Derived.ChangeOld
import Derived.Below
import Derived.SizedLaws
import Derived.Lib.SmallJoins
import Derived.Deep.DeepHandedRow
import Derived.Lib.LaidTab
namespace Go.Proofs.YtfplocpjdjjoaaaDoor.wholeTrailersUpto
open Go.ChangeShapes Go.WideShapes Go.ChangeAt Go.RowKit Go.Proofs.YtfplocpjdjjoaaaDoorW.PrintWords Go.Proofs.YtfplocpjdjjoaaaDoor.Open Go.Proofs.YtfplocpjdjjoaaaDoor.Ctxs
set_option linter.unusedVariables false
set_option linter.unusedSimpArgs false
theorem own : ownKnob Tryd.prog.godebug = none := by kernel_rfl
theorem laidOut : laidOutB Tryd.prog = true := by kernel_rfl
abbrev wfBytes (xs : List Int) : Prop := xs.length ≤ maxLen ∧ ∀ x ∈ xs, (Lit.int .u8 x).wf = true
abbrev bkRow (xs : List Int) : Nat := sumBy (fun _ => 1) xs + 1
abbrev wtBytes (xs : List Int) : Prop := xs.length * 1 ≤ 140737488351232 ∧ ∀ x ∈ xs, True
theorem opByte : Rdg Tryd.prog 5 (Kd.int .u8) (fun x => (Lit.int .u8 x).wf = true) (fun _ => 1) (fun _ => True) := op_int Tryd.underlying5 (by kernel_rfl)
theorem opBytes : Rdg Tryd.prog 22 (Kd.slice 5 (Kd.int .u8)) wfBytes bkRow wtBytes := op_slice (B := 1) opByte Tryd.underlying22 (by kernel_rfl) (by kernel_rfl)
theorem row_len (xs : List Int) : bkRow xs = xs.length + 1 := by
  have : ∀ l : List Int, sumBy (fun _ => 1) l = l.length := by
    intro l
    induction l with
    | nil => rfl
    | cons x r ih => simp only [sumBy, ih, List.length_cons]; omega
  rw [bkRow, this]
theorem byte_range {x : Int} (h : (Lit.int .u8 x).wf = true) : 0 ≤ x ∧ x ≤ 255 := by
  simpa [Lit.wf, IntKind.min, IntKind.max, IntKind.signed, IntKind.bits] using h
theorem half_range {x : Int} (h : (Lit.int .u16 x).wf = true) : 0 ≤ x ∧ x ≤ 65535 := by
  simpa [Lit.wf, IntKind.min, IntKind.max, IntKind.signed, IntKind.bits] using h
theorem as_nats (l : List Int) (h : ∀ x ∈ l, (Lit.int .u8 x).wf = true) : ∃ p : List Nat, l = p.map (fun n : Nat => (n : Int)) ∧ Small p := by
  refine ⟨l.map Int.toNat, ?_, ?_⟩
  · rw [List.map_map]
    have : ∀ x ∈ l, ((fun n : Nat => (n : Int)) ∘ Int.toNat) x = x := fun x hx => by
      have := byte_range (h x hx)
      show ((x.toNat : Nat) : Int) = x
      omega
    exact (List.map_id l).symm.trans (List.map_congr_left (fun x hx => (this x hx).symm))
  · intro n hn
    obtain ⟨x, hx, rfl⟩ := List.mem_map.1 hn
    have := byte_range (h x hx)
    omega
/-! #### The variable -/
theorem c27 : Tryd.prog.cellsOf 27 = 1 := by kernel_rfl
theorem c28 : Tryd.prog.cellsOf 28 = 1 := by kernel_rfl
theorem c29 : Tryd.prog.cellsOf 29 = 1 := by kernel_rfl
theorem c30 : Tryd.prog.cellsOf 30 = 1 := by kernel_rfl
theorem c31 : Tryd.prog.cellsOf 31 = 1 := by kernel_rfl
theorem c4 : Tryd.prog.cellsOf 4 = 1 := by kernel_rfl
theorem c5 : Tryd.prog.cellsOf 5 = 1 := by kernel_rfl
theorem c9 : Tryd.prog.cellsOf 9 = 1 := by kernel_rfl
theorem c33 : Tryd.prog.cellsOf 33 = 10 := by kernel_rfl
set_option maxRecDepth 100000 in
theorem bad_cells {W : World} {fuel : Nat} {cs : List Value} {p : List MemPlace} (h : DataW.trod (fun _ => ()) Tryd.prog W 0 (fun _ => true) false fuel 33 cs = some (Rows.laid_bobbin_step_bad, p)) : cs = badCells.toList := by
  obtain ⟨xs, n, _, hx, hl, hlen, hf⟩ := DataW.trod_struct Tryd.underlying33 h
  rw [c33] at hl
  match cs, hl, xs, hlen with
  | [d0, d1, d2, d3, d4, d5, d6, d7, d8, d9], _, [y0, y1, y2, y3, y4, y5, y6, y7, y8, y9], _ =>
    obtain ⟨n0, e0, k0, -⟩ := DataW.trod_int Tryd.underlying27 (show DataW.trod _ Tryd.prog W 0 _ false n 27 [d0] = some y0 by simpa [c27] using hf 0 _ rfl)
    obtain ⟨n1, e1, k1, -⟩ := DataW.trod_int Tryd.underlying28 (show DataW.trod _ Tryd.prog W 0 _ false n 28 [d1] = some y1 by simpa [c28] using hf 1 _ rfl)
    obtain ⟨n2, e2, k2⟩ := DataW.trod_bool Tryd.underlying4 (show DataW.trod _ Tryd.prog W 0 _ false n 4 [d2] = some y2 by simpa [c4] using hf 2 _ rfl)
    obtain ⟨n3, e3, k3, -⟩ := DataW.trod_int Tryd.underlying29 (show DataW.trod _ Tryd.prog W 0 _ false n 29 [d3] = some y3 by simpa [c29] using hf 3 _ rfl)
    obtain ⟨n4, e4, k4, -⟩ := DataW.trod_int Tryd.underlying5 (show DataW.trod _ Tryd.prog W 0 _ false n 5 [d4] = some y4 by simpa [c5] using hf 4 _ rfl)
    obtain ⟨n5, e5, k5, -⟩ := DataW.trod_int Tryd.underlying30 (show DataW.trod _ Tryd.prog W 0 _ false n 30 [d5] = some y5 by simpa [c30] using hf 5 _ rfl)
    obtain ⟨n6, e6, k6, -⟩ := DataW.trod_int Tryd.underlying31 (show DataW.trod _ Tryd.prog W 0 _ false n 31 [d6] = some y6 by simpa [c31] using hf 6 _ rfl)
    obtain ⟨n7, e7, k7⟩ := DataW.trod_bool Tryd.underlying4 (show DataW.trod _ Tryd.prog W 0 _ false n 4 [d7] = some y7 by simpa [c4] using hf 7 _ rfl)
    obtain ⟨n8, e8, k8, -⟩ := DataW.trod_int Tryd.underlying5 (show DataW.trod _ Tryd.prog W 0 _ false n 5 [d8] = some y8 by simpa [c5] using hf 8 _ rfl)
    obtain ⟨n9, e9, k9, -⟩ := DataW.trod_string Tryd.underlying9 (show DataW.trod _ Tryd.prog W 0 _ false n 9 [d9] = some y9 by simpa [c9] using hf 9 _ rfl)
    have hx1 := congrArg Prod.fst hx
    unfold Rows.laid_bobbin_step_bad at hx1
    simp only [k0, k1, k2, k3, k4, k5, k6, k7, k8, k9, List.map_cons, List.map_nil, DataW.agg.injEq, List.cons.injEq, DataW.lit.injEq, Lit.int.injEq, Lit.bool.injEq, Lit.string.injEq, true_and, and_true] at hx1
    obtain ⟨a0, a1, a2, a3, a4, a5, a6, a7, a8, a9⟩ := hx1
    simp only [List.cons.injEq, and_true] at e0 e1 e2 e3 e4 e5 e6 e7 e8 e9
    have s9 : n9 = (⟨#[]⟩ : ByteArray) := by
      apply ByteArray.ext
      apply Array.toList_inj.1
      exact a9.symm
    rw [e0, e1, e2, e3, e4, e5, e6, e7, e8, e9, s9, ← a0, ← a1, ← a2, ← a3, ← a4, ← a5, ← a6, ← a7, ← a8]
    rfl
theorem gBad : Tryd.prog.globalNamed "bobbin/step.bad" = some 0 := by kernel_rfl
theorem tBad : (Tryd.prog.globals[0]?).map (·.type) = some 33 := by kernel_rfl
theorem zBad : ((((begin Tryd.prog (fun _ _ => 0) default).world).heap[0]?).bind Obj.row?).map (·.2) = some 33 := by kernel_rfl
theorem sBad : 0 < Tryd.prog.globals.size := by
  have : Tryd.prog.globals.size ≠ 0 := by
    intro h
    have h2 := tBad
    have : Tryd.prog.globals[0]? = none := Array.getElem?_eq_none (by omega)
    rw [this] at h2
    cases h2
  omega
theorem glob_of {W : World} (hL : laidMetH Tryd.prog [("bobbin/step.bad", Rows.laid_bobbin_step_bad)] W) (hS : W.ShapedOpen Tryd.prog) : Glob W := by
  obtain ⟨ps, ⟨g, t, cs, fuel, p, q, hg, ht, hv, hd, _, _⟩, _⟩ := (show laidMet Tryd.prog [("bobbin/step.bad", Rows.laid_bobbin_step_bad)] W from hL)
  obtain rfl := Option.some.inj (gBad.symm.trans hg)
  obtain rfl := Option.some.inj (tBad.symm.trans ht)
  obtain ⟨z, hz, hz2⟩ := Option.map_eq_some_iff.1 zBad
  obtain ⟨zz, tt⟩ := z
  dsimp only at hz2
  subst hz2
  obtain ⟨ds, hh, _, _⟩ := hS.1 0 zz 33 sBad hz
  have hc := bad_cells hd
  have hcs : cs = badCells := Array.toList_inj.1 hc
  simp only [World.var?, gBad, Option.bind_some, hh, Option.some.injEq] at hv
  exact ⟨(0, 0), by rw [hh, hv, hcs]⟩
/-! #### The row -/
set_option maxRecDepth 100000 in
theorem contract (H : Type) (enc : TypeId × Value → H) (W : World) (base : Nat) (args : Array Value) (ds gs : List (DataW H)) (before : List MemPlace)
    (hval : ∀ (j : Nat) t v, Tryd.f3.params[j]? = some t → args[j]? = some v → Value.okWide Tryd.prog W .any base t v)
    (hW : DataW.Whole enc Tryd.prog Tryd.f3.params.toList Rows.wholeTrailersSpec.vars false W args.toList ds gs before) (hkb : Rows.uptoSmall H (ds ++ gs) = true) (hG : Glob W) :
    Calls Tryd.prog 3 args W fun e W' => ∃ v, e = .returned v ∧ Rows.wholeTrailersSpec.post enc Tryd.prog Tryd.f3 false true false false W args v W' := by
  have hW' := hW
  obtain ⟨p, q, hA0, hV, rfl, hfz, hnd⟩ := hW
  have hA : DataW.TrodAll enc Tryd.prog W 0 (fun _ => true) true Tryd.f3.params.toList args.toList ds p := hA0
  rw [Tryd.params3] at hA hval
  obtain ⟨v0, vs0, d0, ds0, p0, q0, hargs, rfl, rfl, h0, r0⟩ := trodAll_cons hA
  obtain ⟨v1, vs1, d1, ds1, p1, q1, rfl, rfl, rfl, h1, r1⟩ := trodAll_cons r0
  obtain ⟨rfl, rfl, rfl⟩ := trodAll_nil r1
  obtain rfl : args = #[v0, v1] := by cases args; simp_all
  obtain ⟨rfl, rfl⟩ := trodVars_none hV
  have k0 := h0
  have lt0 : ∀ x ∈ p0, x.block < W.heap.size := by obtain ⟨m, hm⟩ := k0; exact DataW.trod_lt m _ _ _ hm
  have k1 := h1
  have lt1 : ∀ x ∈ p1, x.block < W.heap.size := by obtain ⟨m, hm⟩ := k1; exact DataW.trod_lt m _ _ _ hm
  have hbulk := small hkb
  simp only [List.append_nil, List.nil_append, List.cons_append, Rows.uptoBulkAll] at hbulk
  obtain ⟨A0_, L0_, C0_, rfl⟩ := okWide_slice Tryd.underlying22 (hval 0 22 v0 rfl rfl)
  obtain ⟨fuel0, hf0⟩ := h0
  obtain ⟨l0, ⟨A0, c0, hcs0, hc0, hr0⟩, wf0, bk0, wt0⟩ := (opBytes).get hf0
  simp only [Value.cells, List.cons.injEq, Value.slice.injEq, and_true] at hcs0
  obtain ⟨rfl, rfl, rfl⟩ := hcs0
  replace bk0 : _ ≤ Rows.uptoBulk d0 := bk0
  obtain ⟨a1, rfl, rfl, rfl, wa1⟩ := open_int Tryd.underlying23 (hval 1 23 v1 rfl rfl) h1
  clear hA0 hval
  have hal := half_range wa1
  have hp : l0.length ≤ 1048576 := by rw [row_len] at bk0; omega
  obtain ⟨pp, rfl, hsm⟩ := as_nats l0 wf0.2
  obtain ⟨n1, rfl⟩ : ∃ n1 : Nat, a1 = n1 := ⟨a1.toNat, by omega⟩
  have walk : Calls Tryd.prog 3 #[.slice A0_ (pp.map fun n : Nat => (n : Int)).length C0_, .int .u16 (n1 : Int)] W fun e w' => e = .returned (.bool true) ∧ Below W.heap.size W w' := by
    rw [List.length_map] at hr0 hc0 hp ⊢
    exact law_calls A0_ C0_ pp n1 hsm hp hc0 (by omega) W hG hr0
  refine walk.mono fun e W' ⟨he, bel⟩ => ?_
  subst he
  exact ⟨_, rfl, _, _, _, [], _, [], hW', trodAll_mk1 (shut_bool Tryd.underlying4 _), (trodAll_cons_mk (Below.trod laidOut (by kernel_rfl) (of_decide_eq_true (by kernel_rfl)) k0 bel lt0) (trodAll_cons_mk (Below.trod laidOut (by kernel_rfl) (of_decide_eq_true (by kernel_rfl)) k1 bel lt1) trodAll_mk0)), rfl, bel.frame _, fun h => by cases h⟩
/-- A WORLD FOR THE WITNESS: the settled one, the variable (block 0) holding what its initialiser lays. -/
noncomputable def laidWorld (os : Os) : World :=
  { World.holding Tryd.prog os ⟨#[], #[], []⟩ with heap := (World.holding Tryd.prog os ⟨#[], #[], []⟩).heap.modify 0 fun
      | .cells _ t frozen => .cells badCells t frozen
      | o => o }
theorem laid_met (os : Os) : laidMet Tryd.prog Rows.wholeTrailersUptoRow.laid ((laidWorld os).forCall (fun _ _ => 0) ⟨#[], #[.slice none 0 0, .int .u16 0], []⟩).memory :=
  laidMet_of_run' 8 (by kernel_rfl) (by kernel_rfl)
theorem reads (os : Os) {H : Type} (enc : TypeId × Value → H) : ∃ places, DataW.whole enc Tryd.prog ((laidWorld os).forCall (fun _ _ => 0) ⟨#[], #[.slice none 0 0, .int .u16 0], []⟩).memory Tryd.f3.params.toList Rows.wholeTrailersSpec.vars false #[Value.slice none 0 0, Value.int .u16 0].toList 8 = some ([.nil, .lit (.int .u16 0)], [], places) :=
  ⟨[], by kernel_rfl⟩
set_option maxRecDepth 100000 in
theorem lifted (os : Os) (started : os.Started) (H : Type) (enc : TypeId × Value → H) (F : Stop.Interp) :
    ReturnsInHanded {} Tryd.checked os 3 .any ((Rows.OpenSpec.upto Rows.wholeTrailersSpec).preRow enc Tryd.prog Tryd.f3 Rows.wholeTrailersUptoRow.domain false Rows.wholeTrailersUptoRow.laid) (((Rows.OpenSpec.upto Rows.wholeTrailersSpec).at F).post enc Tryd.prog Tryd.f3 false true false false) := by
  obtain ⟨places, hx⟩ := reads os enc
  refine returnsInHanded_of_row (C := Tryd.checked) (s := Rows.OpenSpec.upto Rows.wholeTrailersSpec) own started (by kernel_rfl) Tryd.func3
    (witness_row_at (enc := enc) (C := Tryd.checked) false (laidWorld os) #[.slice none 0 0, .int .u16 0] rfl (by kernel_rfl) (by kernel_rfl) (by kernel_rfl)
      (OpenSpec.preRow_of_cond 8 hx (by kernel_rfl) (fun k hk => by cases hk; kernel_rfl) (by kernel_rfl) (laid_met os))) ?_
  intro W base args ds gs before hval hW _ hcond _ hL hS _
  exact contract H enc W base args ds gs before hval hW (hcond _ rfl) (glob_of hL hS)
theorem saidUpto : Rows.WholeTrailersUptoSaid :=
  OpenClaim.holds_of_cond 3 Tryd.f3 rfl rfl rfl rfl rfl rfl rfl ⟨rfl, rfl, rfl, rfl, rfl⟩ rfl rfl rfl rfl rfl (by kernel_rfl) Tryd.func3 (by kernel_rfl)
    (of_decide_eq_true (by kernel_rfl)) (by unfold Func.isWrapper; first | (rw [if_pos (by decide +kernel)]; kernel_rfl) | (rw [if_neg (by decide +kernel)]; exact ⟨rfl, rfl⟩))
    (fun os started H enc _ F => by rw [OpenClaim.pre_eq_preRow]; exact lifted os started H enc F)
theorem plain (f : FuncId) (fn : Func) (hf : Tryd.pinned.checked.prog.funcNamed "bobbin/bobbintop.WholeTrailers" = some f) (hfn : Tryd.pinned.checked.prog.funcs[f]? = some fn) :
    false = Tryd.pinned.checked.prog.looks [] ∧ ∀ (j : Nat) t, fn.params[j]? = some t → Tryd.pinned.checked.prog.wantsStandIn t = false := by
  obtain rfl : f = 3 := Option.some.inj ((show Tryd.prog.funcNamed "bobbin/bobbintop.WholeTrailers" = some 3 by kernel_rfl).symm.trans hf) |>.symm
  obtain rfl : fn = Tryd.f3 := (Option.some.inj (Tryd.func3.symm.trans hfn)).symm
  refine ⟨by kernel_rfl, fun j t ht => ?_⟩
  rw [Tryd.params3] at ht
  have hm : t ∈ [22, 23] := by simpa using Array.mem_of_getElem? ht
  have hall : ([22, 23].all fun u => !Tryd.prog.wantsStandIn u) = true := by kernel_rfl
  exact (show Tryd.prog.wantsStandIn t = false by simpa using List.all_eq_true.1 hall t hm)
theorem cardUpto : Rows.WholeTrailersUptoCardSaid :=
  Claim7.holds_tied_plain_at .later [] _ _ _ _ saidUpto (fun _ h => by cases h) (by kernel_rfl) (fun _ h => by cases h) wholeTrailersUpto_row_tie rfl ⟨rfl, rfl⟩ (by kernel_rfl) rfl plain (by kernel_rfl)
#print axioms cardUpto
end Go.Proofs.YtfplocpjdjjoaaaDoor.wholeTrailersUpto
namespace Go.Proofs.YtfplocpjdjjoaaaDoor
theorem wholeTrailersUpto_holds : Rows.WholeTrailersUptoCardSaid := wholeTrailersUpto.cardUpto
end Go.Proofs.YtfplocpjdjjoaaaDoor
