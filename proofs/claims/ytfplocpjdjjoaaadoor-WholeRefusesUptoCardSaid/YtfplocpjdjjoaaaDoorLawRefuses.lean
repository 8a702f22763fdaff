/-
  The law WholeRefuses: for every input the call returns true, and its argument reads afterwards as it read before. Condition: what is read is of bulk at most 1048576, and the variables bad of step, first and acceptRanges of utf8 read as the program's text and Go's tables lay them.
-/
import Derived.Test.YtfplocpjdjjoaaaDoorRows
import Derived.Test.YtfplocpjdjjoaaaDoorCards
import Derived.Test.YtfplocpjdjjoaaaDoorTie
import Derived.Test.YtfplocpjdjjoaaaDoorOpen
import Derived.Test.YtfplocpjdjjoaaaDoorRe0
import Derived.Lay
import Derived.LaidSub
import Derived.ChangeMaps5
import Derived.WalkKit
import Derived.ProofKit
import Derived.OpenShut
import Derived.ShutString
import Derived.ChangeOld
import Derived.Below
import Derived.SizedLaws
import Derived.Lib.SmallJoins
import Derived.Deep.DeepHandedRow
import Derived.Lib.LaidTab
namespace Go.Proofs.YtfplocpjdjjoaaaDoor.wholeRefusesUpto
open Go.ChangeShapes Go.WideShapes Go.ChangeAt Go.RowKit Go.Proofs.YtfplocpjdjjoaaaDoorW.PrintWords Go.Proofs.YtfplocpjdjjoaaaDoor.Open Go.Proofs.YtfplocpjdjjoaaaDoor.Ctxs Go.Proofs.YtfplocpjdjjoaaaDoor.Refuse
set_option linter.unusedVariables false
set_option linter.unusedSimpArgs false
theorem own : ownKnob Tryd.prog.godebug = none := by kernel_rfl
theorem laidOut : laidOutB Tryd.prog = true := by kernel_rfl
/-! #### The variable -/
theorem c27 : Tryd.prog.cellsOf 27 = 1 := by kernel_rfl
theorem c28 : Tryd.prog.cellsOf 28 = 1 := by kernel_rfl
theorem c29 : Tryd.prog.cellsOf 29 = 1 := by kernel_rfl
theorem c30 : Tryd.prog.cellsOf 30 = 1 := by kernel_rfl
theorem c31 : Tryd.prog.cellsOf 31 = 1 := by kernel_rfl
theorem c4 : Tryd.prog.cellsOf 4 = 1 := by kernel_rfl
theorem c5 : Tryd.prog.cellsOf 5 = 1 := by kernel_rfl
theorem c9 : Tryd.prog.cellsOf 9 = 1 := by kernel_rfl
theorem c33 : Tryd.prog.cellsOf 33 = 10 := by kernel_rfl
set_option maxRecDepth 100000 in
theorem bad_cells {W : World} {fuel : Nat} {cs : List Value} {p : List MemPlace} (h : DataW.trod (fun _ => ()) Tryd.prog W 0 (fun _ => true) false fuel 33 cs = some (Rows.laid_bobbin_step_bad, p)) : cs = badCells.toList := by
  obtain ⟨xs, n, _, hx, hl, hlen, hf⟩ := DataW.trod_struct Tryd.underlying33 h
  rw [c33] at hl
  match cs, hl, xs, hlen with
  | [d0, d1, d2, d3, d4, d5, d6, d7, d8, d9], _, [y0, y1, y2, y3, y4, y5, y6, y7, y8, y9], _ =>
    obtain ⟨n0, e0, k0, -⟩ := DataW.trod_int Tryd.underlying27 (show DataW.trod _ Tryd.prog W 0 _ false n 27 [d0] = some y0 by simpa [c27] using hf 0 _ rfl)
    obtain ⟨n1, e1, k1, -⟩ := DataW.trod_int Tryd.underlying28 (show DataW.trod _ Tryd.prog W 0 _ false n 28 [d1] = some y1 by simpa [c28] using hf 1 _ rfl)
    obtain ⟨n2, e2, k2⟩ := DataW.trod_bool Tryd.underlying4 (show DataW.trod _ Tryd.prog W 0 _ false n 4 [d2] = some y2 by simpa [c4] using hf 2 _ rfl)
    obtain ⟨n3, e3, k3, -⟩ := DataW.trod_int Tryd.underlying29 (show DataW.trod _ Tryd.prog W 0 _ false n 29 [d3] = some y3 by simpa [c29] using hf 3 _ rfl)
    obtain ⟨n4, e4, k4, -⟩ := DataW.trod_int Tryd.underlying5 (show DataW.trod _ Tryd.prog W 0 _ false n 5 [d4] = some y4 by simpa [c5] using hf 4 _ rfl)
    obtain ⟨n5, e5, k5, -⟩ := DataW.trod_int Tryd.underlying30 (show DataW.trod _ Tryd.prog W 0 _ false n 30 [d5] = some y5 by simpa [c30] using hf 5 _ rfl)
    obtain ⟨n6, e6, k6, -⟩ := DataW.trod_int Tryd.underlying31 (show DataW.trod _ Tryd.prog W 0 _ false n 31 [d6] = some y6 by simpa [c31] using hf 6 _ rfl)
    obtain ⟨n7, e7, k7⟩ := DataW.trod_bool Tryd.underlying4 (show DataW.trod _ Tryd.prog W 0 _ false n 4 [d7] = some y7 by simpa [c4] using hf 7 _ rfl)
    obtain ⟨n8, e8, k8, -⟩ := DataW.trod_int Tryd.underlying5 (show DataW.trod _ Tryd.prog W 0 _ false n 5 [d8] = some y8 by simpa [c5] using hf 8 _ rfl)
    obtain ⟨n9, e9, k9, -⟩ := DataW.trod_string Tryd.underlying9 (show DataW.trod _ Tryd.prog W 0 _ false n 9 [d9] = some y9 by simpa [c9] using hf 9 _ rfl)
    have hx1 := congrArg Prod.fst hx
    unfold Rows.laid_bobbin_step_bad at hx1
    simp only [k0, k1, k2, k3, k4, k5, k6, k7, k8, k9, List.map_cons, List.map_nil, DataW.agg.injEq, List.cons.injEq, DataW.lit.injEq, Lit.int.injEq, Lit.bool.injEq, Lit.string.injEq, true_and, and_true] at hx1
    obtain ⟨a0, a1, a2, a3, a4, a5, a6, a7, a8, a9⟩ := hx1
    simp only [List.cons.injEq, and_true] at e0 e1 e2 e3 e4 e5 e6 e7 e8 e9
    have s9 : n9 = (⟨#[]⟩ : ByteArray) := by
      apply ByteArray.ext
      apply Array.toList_inj.1
      exact a9.symm
    rw [e0, e1, e2, e3, e4, e5, e6, e7, e8, e9, s9, ← a0, ← a1, ← a2, ← a3, ← a4, ← a5, ← a6, ← a7, ← a8]
    rfl
theorem gBad : Tryd.prog.globalNamed "bobbin/step.bad" = some 0 := by kernel_rfl
theorem tBad : (Tryd.prog.globals[0]?).map (·.type) = some 33 := by kernel_rfl
theorem zBad : ((((begin Tryd.prog (fun _ _ => 0) default).world).heap[0]?).bind Obj.row?).map (·.2) = some 33 := by kernel_rfl
theorem sBad : 0 < Tryd.prog.globals.size := by
  have : Tryd.prog.globals.size ≠ 0 := by
    intro h
    have h2 := tBad
    have : Tryd.prog.globals[0]? = none := Array.getElem?_eq_none (by omega)
    rw [this] at h2
    cases h2
  omega
theorem glob_of {W : World} (hL : laidMetH Tryd.prog [("bobbin/step.bad", Rows.laid_bobbin_step_bad)] W) (hS : W.ShapedOpen Tryd.prog) : Glob W := by
  obtain ⟨ps, ⟨g, t, cs, fuel, p, q, hg, ht, hv, hd, _, _⟩, _⟩ := (show laidMet Tryd.prog [("bobbin/step.bad", Rows.laid_bobbin_step_bad)] W from hL)
  obtain rfl := Option.some.inj (gBad.symm.trans hg)
  obtain rfl := Option.some.inj (tBad.symm.trans ht)
  obtain ⟨z, hz, hz2⟩ := Option.map_eq_some_iff.1 zBad
  obtain ⟨zz, tt⟩ := z
  dsimp only at hz2
  subst hz2
  obtain ⟨ds, hh, _, _⟩ := hS.1 0 zz 33 sBad hz
  have hc := bad_cells hd
  have hcs : cs = badCells := Array.toList_inj.1 hc
  simp only [World.var?, gBad, Option.bind_some, hh, Option.some.injEq] at hv
  exact ⟨(0, 0), by rw [hh, hv, hcs]⟩
/-! #### The row -/
theorem glob3 {W : World} (hL : laidMetH Tryd.prog Rows.wholeRefusesUptoRow.laid W) (hS : W.ShapedOpen Tryd.prog) : Glob W := by
  have h := laidMetH.filter (fun y => y.1 == "bobbin/step.bad") hL
  rw [show Rows.wholeRefusesUptoRow.laid.filter (fun y => y.1 == "bobbin/step.bad") = [("bobbin/step.bad", Rows.laid_bobbin_step_bad)] by kernel_rfl] at h
  exact glob_of h hS
theorem mx_of {W : World} (h : W.ShapedOpen Tryd.prog) : Mx W := Tryd.laysM143.s1_3 W h
theorem as_bytes (s : ByteArray) : ∃ l : List Nat, s = bs l ∧ Small l ∧ l.length = s.data.toList.length := by
  refine ⟨s.data.toList.map UInt8.toNat, ?_, ?_, by simp⟩
  · apply ByteArray.ext
    apply Array.toList_inj.1
    simp only [bs, List.map_map]
    rw [show (Nat.toUInt8 ∘ UInt8.toNat) = id from funext fun x => by simp [Nat.toUInt8]]
    simp
  · intro n hn
    obtain ⟨b, -, rfl⟩ := List.mem_map.1 hn
    exact b.toNat_lt
set_option maxRecDepth 100000 in
theorem contract (H : Type) (enc : TypeId × Value → H) (W : World) (base : Nat) (args : Array Value) (ds gs : List (DataW H)) (before : List MemPlace)
    (hval : ∀ (j : Nat) t v, Tryd.f5.params[j]? = some t → args[j]? = some v → Value.okWide Tryd.prog W .any base t v)
    (hW : DataW.Whole enc Tryd.prog Tryd.f5.params.toList Rows.wholeRefusesSpec.vars false W args.toList ds gs before) (hkb : Rows.uptoSmall H (ds ++ gs) = true) (hG : Glob W) (hM : Mx W) :
    Calls Tryd.prog 5 args W fun e W' => ∃ v, e = .returned v ∧ Rows.wholeRefusesSpec.post enc Tryd.prog Tryd.f5 false true false false W args v W' := by
  have hW' := hW
  obtain ⟨p, q, hA0, hV, rfl, hfz, hnd⟩ := hW
  have hA : DataW.TrodAll enc Tryd.prog W 0 (fun _ => true) true Tryd.f5.params.toList args.toList ds p := hA0
  rw [Tryd.params5] at hA hval
  obtain ⟨v0, vs0, d0, ds0, p0, q0, hargs, rfl, rfl, h0, r0⟩ := trodAll_cons hA
  obtain ⟨rfl, rfl, rfl⟩ := trodAll_nil r0
  obtain rfl : args = #[v0] := by cases args; simp_all
  obtain ⟨rfl, rfl⟩ := trodVars_none hV
  have k0 := h0
  have lt0 : ∀ x ∈ p0, x.block < W.heap.size := by obtain ⟨m, hm⟩ := k0; exact DataW.trod_lt m _ _ _ hm
  have hbulk := small hkb
  simp only [List.append_nil, List.nil_append, List.cons_append, Rows.uptoBulkAll] at hbulk
  obtain ⟨s, rfl, rfl, rfl, hs⟩ := ChangeMaps.open_string Tryd.underlying9 (hval 0 9 v0 rfl rfl) h0
  simp only [Rows.uptoBulk] at hbulk
  obtain ⟨l, rfl, hl, hlen⟩ := as_bytes s
  refine (law_calls l hl (by omega) W hM hG).mono fun e W' ⟨he, bel⟩ => ?_
  subst he
  exact ⟨_, rfl, _, _, _, [], _, [], hW', trodAll_mk1 (shut_bool Tryd.underlying4 _), (trodAll_cons_mk (Below.trod laidOut (by kernel_rfl) (of_decide_eq_true (by kernel_rfl)) k0 bel lt0) trodAll_mk0), rfl, bel.frame _, fun h => by cases h⟩
theorem laid_met (os : Os) : laidMet Tryd.prog Rows.wholeRefusesUptoRow.laid ((World.laidAll Tryd.prog os Rows.wholeRefusesUptoRow.laid).forCall (fun _ _ => 0) ⟨#[], #[.string ⟨#[]⟩], []⟩).memory :=
  laidMet_laidAll _ (by kernel_rfl) (by kernel_rfl)
theorem reads (os : Os) {H : Type} (enc : TypeId × Value → H) : ∃ places, DataW.whole enc Tryd.prog ((World.laidAll Tryd.prog os Rows.wholeRefusesUptoRow.laid).forCall (fun _ _ => 0) ⟨#[], #[.string ⟨#[]⟩], []⟩).memory Tryd.f5.params.toList Rows.wholeRefusesSpec.vars false #[Value.string ⟨#[]⟩].toList 8 = some ([.lit (.string [])], [], places) :=
  ⟨[], by kernel_rfl⟩
set_option maxRecDepth 100000 in
theorem lifted (os : Os) (started : os.Started) (H : Type) (enc : TypeId × Value → H) (F : Stop.Interp) :
    ReturnsInHanded {} Tryd.checked os 5 .any ((Rows.OpenSpec.upto Rows.wholeRefusesSpec).preRow enc Tryd.prog Tryd.f5 Rows.wholeRefusesUptoRow.domain false Rows.wholeRefusesUptoRow.laid) (((Rows.OpenSpec.upto Rows.wholeRefusesSpec).at F).post enc Tryd.prog Tryd.f5 false true false false) := by
  obtain ⟨places, hx⟩ := reads os enc
  refine returnsInHanded_of_row (C := Tryd.checked) (s := Rows.OpenSpec.upto Rows.wholeRefusesSpec) own started (by kernel_rfl) Tryd.func5
    (witness_row_at (enc := enc) (C := Tryd.checked) false (World.laidAll Tryd.prog os Rows.wholeRefusesUptoRow.laid) #[.string ⟨#[]⟩] (World.laidAll_os _ _ _) (by kernel_rfl) (by kernel_rfl) (by kernel_rfl)
      (OpenSpec.preRow_of_cond 8 hx (by kernel_rfl) (fun k hk => by cases hk; kernel_rfl) (by kernel_rfl) (laid_met os))) ?_
  intro W base args ds gs before hval hW _ hcond _ hL hS _
  exact contract H enc W base args ds gs before hval hW (hcond _ rfl) (glob3 hL hS) (mx_of hS)
theorem saidUpto : Rows.WholeRefusesUptoSaid :=
  OpenClaim.holds_of_cond 5 Tryd.f5 rfl rfl rfl rfl rfl rfl rfl ⟨rfl, rfl, rfl, rfl, rfl⟩ rfl rfl rfl rfl rfl (by kernel_rfl) Tryd.func5 (by kernel_rfl)
    (of_decide_eq_true (by kernel_rfl)) (by unfold Func.isWrapper; first | (rw [if_pos (by decide +kernel)]; kernel_rfl) | (rw [if_neg (by decide +kernel)]; exact ⟨rfl, rfl⟩))
    (fun os started H enc _ F => by rw [OpenClaim.pre_eq_preRow]; exact lifted os started H enc F)
theorem plain (f : FuncId) (fn : Func) (hf : Tryd.pinned.checked.prog.funcNamed "bobbin/bobbintop.WholeRefuses" = some f) (hfn : Tryd.pinned.checked.prog.funcs[f]? = some fn) :
    false = Tryd.pinned.checked.prog.looks [] ∧ ∀ (j : Nat) t, fn.params[j]? = some t → Tryd.pinned.checked.prog.wantsStandIn t = false := by
  obtain rfl : f = 5 := Option.some.inj ((show Tryd.prog.funcNamed "bobbin/bobbintop.WholeRefuses" = some 5 by kernel_rfl).symm.trans hf) |>.symm
  obtain rfl : fn = Tryd.f5 := (Option.some.inj (Tryd.func5.symm.trans hfn)).symm
  refine ⟨by kernel_rfl, fun j t ht => ?_⟩
  rw [Tryd.params5] at ht
  have hm : t ∈ [9] := by simpa using Array.mem_of_getElem? ht
  have hall : ([9].all fun u => !Tryd.prog.wantsStandIn u) = true := by kernel_rfl
  exact (show Tryd.prog.wantsStandIn t = false by simpa using List.all_eq_true.1 hall t hm)
theorem cardUpto : Rows.WholeRefusesUptoCardSaid :=
  Claim7.holds_tied_plain_at .later [] _ _ _ _ saidUpto (fun _ h => by cases h) (by kernel_rfl) (fun _ h => by cases h) wholeRefusesUpto_row_tie rfl ⟨rfl, rfl⟩ (by kernel_rfl) rfl plain (by kernel_rfl)
#print axioms cardUpto
end Go.Proofs.YtfplocpjdjjoaaaDoor.wholeRefusesUpto
namespace Go.Proofs.YtfplocpjdjjoaaaDoor
theorem wholeRefusesUpto_holds : Rows.WholeRefusesUptoCardSaid := wholeRefusesUpto.cardUpto
end Go.Proofs.YtfplocpjdjjoaaaDoor
