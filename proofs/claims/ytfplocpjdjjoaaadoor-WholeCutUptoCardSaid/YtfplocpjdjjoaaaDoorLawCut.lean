/-
  The law WholeCut: for every input the call returns true, and its arguments read afterwards as they read before. Condition: what is read is of bulk at most 1048576, and the variables deBruijn32tab, deBruijn64tab, uint64pow10, acceptRanges and first of Go's library read as Go's tables lay them.
-/
import Derived.Test.YtfplocpjdjjoaaaDoorRows
import Derived.Test.YtfplocpjdjjoaaaDoorCards
import Derived.Test.YtfplocpjdjjoaaaDoorTie
import Derived.Test.YtfplocpjdjjoaaaDoorOpen
import Derived.Test.YtfplocpjdjjoaaaDoorDi
import Derived.Test.YtfplocpjdjjoaaaDoorSh
import Derived.Lay
import Derived.LaidSub
import Derived.ChangeMaps5
import Derived.WalkKit
import Derived.ProofKit
import Derived.OpenShut
import Derived.ShutString
import Derived.ChangeOld
import Derived.Below
import Derived.SizedLaws
import Derived.Lib.SmallJoins
import Derived.Deep.DeepHandedRow
import Derived.Lib.LaidTab
import Derived.Lib.LaidU8
import Derived.PinnedBridge
namespace Go.Proofs.YtfplocpjdjjoaaaDoor.wholeCutUpto
open Go.ChangeShapes Go.WideShapes Go.ChangeAt Go.RowKit Go.Proofs.YtfplocpjdjjoaaaDoorW.PrintWords Go.Proofs.YtfplocpjdjjoaaaDoor.Open Go.Proofs.YtfplocpjdjjoaaaDoor.Trail Go.Proofs.YtfplocpjdjjoaaaDoor.Ctxs Go.Proofs.YtfplocpjdjjoaaaDoor.Cut
set_option linter.unusedVariables false
set_option linter.unusedSimpArgs false
theorem own : ownKnob Tryd.prog.godebug = none := by kernel_rfl
theorem laidOut : laidOutB Tryd.prog = true := by kernel_rfl
abbrev wfBytes (xs : List Int) : Prop := xs.length ≤ maxLen ∧ ∀ x ∈ xs, (Lit.int .u8 x).wf = true
abbrev bkRow (xs : List Int) : Nat := sumBy (fun _ => 1) xs + 1
abbrev wtBytes (xs : List Int) : Prop := xs.length * 1 ≤ 140737488351232 ∧ ∀ x ∈ xs, True
theorem opByte : Rdg Tryd.prog 5 (Kd.int .u8) (fun x => (Lit.int .u8 x).wf = true) (fun _ => 1) (fun _ => True) := op_int Tryd.underlying5 (by kernel_rfl)
theorem opBytes : Rdg Tryd.prog 22 (Kd.slice 5 (Kd.int .u8)) wfBytes bkRow wtBytes := op_slice (B := 1) opByte Tryd.underlying22 (by kernel_rfl) (by kernel_rfl)
theorem opRows : Rdg Tryd.prog 46 (Kd.slice 22 (Kd.slice 5 (Kd.int .u8))) (fun xs => xs.length ≤ maxLen ∧ ∀ x ∈ xs, wfBytes x) (fun xs => sumBy bkRow xs + 1) (fun xs => xs.length * 24 ≤ 140737488351232 ∧ ∀ x ∈ xs, wtBytes x) := op_slice (B := 24) opBytes Tryd.underlying46 (by kernel_rfl) (by kernel_rfl)
theorem row_len (xs : List Int) : bkRow xs = xs.length + 1 := by
  have : ∀ l : List Int, sumBy (fun _ => 1) l = l.length := by
    intro l
    induction l with
    | nil => rfl
    | cons x r ih => simp only [sumBy, ih, List.length_cons]; omega
  rw [bkRow, this]
theorem rows_len (xs : List (List Int)) : sumBy bkRow xs = xs.flatten.length + xs.length := by
  induction xs with
  | nil => rfl
  | cons x r ih => simp only [sumBy, ih, row_len, List.flatten_cons, List.length_append, List.length_cons]; omega
theorem byte_range {x : Int} (h : (Lit.int .u8 x).wf = true) : 0 ≤ x ∧ x ≤ 255 := by
  simpa [Lit.wf, IntKind.min, IntKind.max, IntKind.signed, IntKind.bits] using h
theorem as_nats (l : List Int) (h : ∀ x ∈ l, (Lit.int .u8 x).wf = true) : l = ints (l.map Int.toNat) ∧ Small (l.map Int.toNat) := by
  refine ⟨?_, ?_⟩
  · unfold ints
    rw [List.map_map]
    have : ∀ x ∈ l, ((fun n : Nat => (n : Int)) ∘ Int.toNat) x = x := fun x hx => by
      have := byte_range (h x hx)
      show ((x.toNat : Nat) : Int) = x
      omega
    exact (List.map_id l).symm.trans (List.map_congr_left (fun x hx => (this x hx).symm))
  · intro n hn
    obtain ⟨x, hx, rfl⟩ := List.mem_map.1 hn
    have := byte_range (h x hx)
    omega
/-- The chunks of an argument that reads so. -/
theorem chunks_of {W : World} {A : Option Addr} {N : Nat} {l : List (List Int)} (hN : l.length = N) (h : Kd.C (Kd.slice 5 (Kd.int .u8)) W A N l) (hw : ∀ x ∈ l, ∀ y ∈ x, (Lit.int .u8 y).wf = true) : Chunks W A N (l.map fun x => x.map Int.toNat) := by
  refine ⟨by rw [List.length_map, hN], fun i p hp => ?_⟩
  rw [List.getElem?_map] at hp
  obtain ⟨x, hx, rfl⟩ := Option.map_eq_some_iff.1 hp
  have hlt := (List.getElem?_eq_some_iff.1 hx).1
  obtain ⟨ad, e, hc⟩ := h.2.2 (by omega)
  obtain ⟨c, hcl, ⟨A', c', rfl, hle, hC⟩, hcell⟩ := hc i x hx
  have h0 : W.cell? (ad.add i) = some (.slice A' x.length c') := by
    have := hcell 0 _ rfl
    rwa [show i * (Kd.slice 5 (Kd.int .u8)).sz + 0 = i from by show i * 1 + 0 = i; omega] at this
  refine ⟨ad, _, e, h0, World.block_lt_of_cell? W _ h0, A', c', by rw [List.length_map], by rw [List.length_map]; exact hle, ?_⟩
  rw [List.length_map, ← (as_nats x (hw x (List.mem_of_getElem? hx))).1]
  exact hC
/-! #### The variables -/
theorem u8extra : U8Extra Tryd.prog Tryd.lays160_ren where
  n3 := by kernel_rfl
  n4 := by kernel_rfl
  y3 := by kernel_rfl
  y4 := by kernel_rfl
  c5 := by kernel_rfl
  c119 := by kernel_rfl
  c138 := by kernel_rfl
abbrev bruijn : List Int := [0, 1, 56, 2, 57, 49, 28, 3, 61, 58, 42, 50, 38, 29, 17, 4, 62, 47, 59, 36, 45, 43, 51, 22, 53, 39, 33, 30, 24, 18, 12, 5, 63, 55, 48, 27, 60, 41, 37, 16, 46, 35, 44, 21, 52, 32, 23, 11, 54, 26, 40, 15, 34, 20, 31, 10, 25, 14, 19, 9, 13, 8, 7, 6]
theorem tz_of {W : World} (h : Lib.VarReads Tryd.prog W "math/bits.deBruijn64tab" Rows.laid_math_bits_deBruijn64tab) : Tz W := by
  obtain ⟨g, t, cs, fuel, p, hg, hty, hvar, hd⟩ := h
  obtain rfl := Option.some.inj ((show Tryd.prog.globalNamed "math/bits.deBruijn64tab" = some 6 by kernel_rfl).symm.trans hg)
  obtain rfl := Option.some.inj ((show (Tryd.prog.globals[6]?).map (·.type) = some 238 by kernel_rfl).symm.trans hty)
  have hcs := Lib.cells_of_tab (zs := bruijn) Tryd.underlying238 Tryd.underlying5 (by kernel_rfl) (by kernel_rfl) hd
  have := World.var?_cell hg hvar 15
  unfold Tz
  rw [this, ← Array.getElem?_toList, hcs]
  rfl
theorem tabs_of {W : World} (hL : laidMetH Tryd.prog Rows.wholeCutUptoRow.laid W) (hS : W.ShapedOpen Tryd.prog) : Tabs W := by
  have h : laidMet Tryd.prog Rows.wholeCutUptoRow.laid W := hL
  have h1 := Lib.laidMet.reads h (n := "math/bits.deBruijn64tab") (d := Rows.laid_math_bits_deBruijn64tab) (by simp [Rows.wholeCutUptoRow])
  have h3 := Lib.laidMet.reads h (n := "unicode/utf8.first") (d := Rows.laid_unicode_utf8_first) (by simp [Rows.wholeCutUptoRow])
  have h4 := Lib.laidMet.reads h (n := "unicode/utf8.acceptRanges") (d := Rows.laid_unicode_utf8_acceptRanges) (by simp [Rows.wholeCutUptoRow])
  rw [show (Rows.laid_unicode_utf8_first : DataW Unit) = Lib.firstData from Pinned.utf8First_eq] at h3
  rw [show (Rows.laid_unicode_utf8_acceptRanges : DataW Unit) = Lib.acceptData by kernel_rfl] at h4
  exact ⟨tz_of h1, utf8Tabs_of_reads { Tryd.lays160 with } u8extra h3 h4, Tryd.laysM143.s1_3 W hS⟩
/-! #### The row -/
theorem flat_nats (l : List (List Int)) : ((l.map fun x => x.map Int.toNat).flatten).length = l.flatten.length := by
  induction l with
  | nil => rfl
  | cons x r ih => simp only [List.map_cons, List.flatten_cons, List.length_append, List.length_map, ih]
set_option maxRecDepth 100000 in
theorem contract (H : Type) (enc : TypeId × Value → H) (W : World) (base : Nat) (args : Array Value) (ds gs : List (DataW H)) (before : List MemPlace)
    (hval : ∀ (j : Nat) t v, Tryd.f4.params[j]? = some t → args[j]? = some v → Value.okWide Tryd.prog W .any base t v)
    (hW : DataW.Whole enc Tryd.prog Tryd.f4.params.toList Rows.wholeCutSpec.vars false W args.toList ds gs before) (hkb : Rows.uptoSmall H (ds ++ gs) = true) (hT : Tabs W) :
    Calls Tryd.prog 4 args W fun e W' => ∃ v, e = .returned v ∧ Rows.wholeCutSpec.post enc Tryd.prog Tryd.f4 false true false false W args v W' := by
  have hW' := hW
  obtain ⟨p, q, hA0, hV, rfl, hfz, hnd⟩ := hW
  have hA : DataW.TrodAll enc Tryd.prog W 0 (fun _ => true) true Tryd.f4.params.toList args.toList ds p := hA0
  rw [Tryd.params4] at hA hval
  obtain ⟨v0, vs0, d0, ds0, p0, q0, hargs, rfl, rfl, h0, r0⟩ := trodAll_cons hA
  obtain ⟨v1, vs1, d1, ds1, p1, q1, rfl, rfl, rfl, h1, r1⟩ := trodAll_cons r0
  obtain ⟨rfl, rfl, rfl⟩ := trodAll_nil r1
  obtain rfl : args = #[v0, v1] := by cases args; simp_all
  obtain ⟨rfl, rfl⟩ := trodVars_none hV
  have k0 := h0
  have lt0 : ∀ x ∈ p0, x.block < W.heap.size := by obtain ⟨m, hm⟩ := k0; exact DataW.trod_lt m _ _ _ hm
  have k1 := h1
  have lt1 : ∀ x ∈ p1, x.block < W.heap.size := by obtain ⟨m, hm⟩ := k1; exact DataW.trod_lt m _ _ _ hm
  have hbulk := small hkb
  simp only [List.append_nil, List.nil_append, List.cons_append, Rows.uptoBulkAll] at hbulk
  obtain ⟨a0, rfl, rfl, rfl, wa0⟩ := open_int Tryd.underlying5 (hval 0 5 v0 rfl rfl) h0
  obtain ⟨A1_, L1_, C1_, rfl⟩ := okWide_slice Tryd.underlying46 (hval 1 46 v1 rfl rfl)
  obtain ⟨fuel1, hf1⟩ := h1
  obtain ⟨l1, ⟨A1, c1, hcs1, hc1, hr1⟩, wf1, bk1, wt1⟩ := (opRows).get hf1
  simp only [Value.cells, List.cons.injEq, Value.slice.injEq, and_true] at hcs1
  obtain ⟨rfl, rfl, rfl⟩ := hcs1
  replace bk1 : _ ≤ Rows.uptoBulk d1 := bk1
  clear hA0 hval
  have hal := byte_range wa0
  rw [rows_len] at bk1
  obtain ⟨n0, rfl⟩ : ∃ n0 : Nat, a0 = n0 := ⟨a0.toNat, by omega⟩
  have hch := chunks_of rfl hr1 (fun x hx => (wf1.2 x hx).2)
  have hsm : ∀ x ∈ (l1.map fun x => x.map Int.toNat), Small x := by
    intro x hx
    obtain ⟨y, hy, rfl⟩ := List.mem_map.1 hx
    exact (as_nats y (wf1.2 y hy).2).2
  refine (cut_calls n0 (by omega) _ hsm (by rw [flat_nats]; omega) (by rw [List.length_map]; omega) W hT _ _ _ hch).mono fun e W' ⟨he, bel⟩ => ?_
  subst he
  exact ⟨_, rfl, _, _, _, [], _, [], hW', trodAll_mk1 (shut_bool Tryd.underlying4 _), (trodAll_cons_mk (Below.trod laidOut (by kernel_rfl) (of_decide_eq_true (by kernel_rfl)) k0 bel lt0) (trodAll_cons_mk (Below.trod laidOut (by kernel_rfl) (of_decide_eq_true (by kernel_rfl)) k1 bel lt1) trodAll_mk0)), rfl, bel.frame _, fun h => by cases h⟩
theorem laid_met (os : Os) : laidMet Tryd.prog Rows.wholeCutUptoRow.laid ((World.laidAll Tryd.prog os Rows.wholeCutUptoRow.laid).forCall (fun _ _ => 0) ⟨#[], #[.int .u8 0, .slice none 0 0], []⟩).memory :=
  laidMet_laidAll _ (by kernel_rfl) (by kernel_rfl)
theorem reads (os : Os) {H : Type} (enc : TypeId × Value → H) : ∃ places, DataW.whole enc Tryd.prog ((World.laidAll Tryd.prog os Rows.wholeCutUptoRow.laid).forCall (fun _ _ => 0) ⟨#[], #[.int .u8 0, .slice none 0 0], []⟩).memory Tryd.f4.params.toList Rows.wholeCutSpec.vars false #[Value.int .u8 0, Value.slice none 0 0].toList 8 = some ([.lit (.int .u8 0), .nil], [], places) :=
  ⟨[], by kernel_rfl⟩
set_option maxRecDepth 100000 in
theorem lifted (os : Os) (started : os.Started) (H : Type) (enc : TypeId × Value → H) (F : Stop.Interp) :
    ReturnsInHanded {} Tryd.checked os 4 .any ((Rows.OpenSpec.upto Rows.wholeCutSpec).preRow enc Tryd.prog Tryd.f4 Rows.wholeCutUptoRow.domain false Rows.wholeCutUptoRow.laid) (((Rows.OpenSpec.upto Rows.wholeCutSpec).at F).post enc Tryd.prog Tryd.f4 false true false false) := by
  obtain ⟨places, hx⟩ := reads os enc
  refine returnsInHanded_of_row (C := Tryd.checked) (s := Rows.OpenSpec.upto Rows.wholeCutSpec) own started (by kernel_rfl) Tryd.func4
    (witness_row_at (enc := enc) (C := Tryd.checked) false (World.laidAll Tryd.prog os Rows.wholeCutUptoRow.laid) #[.int .u8 0, .slice none 0 0] (World.laidAll_os _ _ _) (by kernel_rfl) (by kernel_rfl) (by kernel_rfl)
      (OpenSpec.preRow_of_cond 8 hx (by kernel_rfl) (fun k hk => by cases hk; kernel_rfl) (by kernel_rfl) (laid_met os))) ?_
  intro W base args ds gs before hval hW _ hcond _ hL hS _
  exact contract H enc W base args ds gs before hval hW (hcond _ rfl) (tabs_of hL hS)
theorem saidUpto : Rows.WholeCutUptoSaid :=
  OpenClaim.holds_of_cond 4 Tryd.f4 rfl rfl rfl rfl rfl rfl rfl ⟨rfl, rfl, rfl, rfl, rfl⟩ rfl rfl rfl rfl rfl (by kernel_rfl) Tryd.func4 (by kernel_rfl)
    (of_decide_eq_true (by kernel_rfl)) (by unfold Func.isWrapper; first | (rw [if_pos (by decide +kernel)]; kernel_rfl) | (rw [if_neg (by decide +kernel)]; exact ⟨rfl, rfl⟩))
    (fun os started H enc _ F => by rw [OpenClaim.pre_eq_preRow]; exact lifted os started H enc F)
theorem plain (f : FuncId) (fn : Func) (hf : Tryd.pinned.checked.prog.funcNamed "bobbin/bobbintop.WholeCut" = some f) (hfn : Tryd.pinned.checked.prog.funcs[f]? = some fn) :
    false = Tryd.pinned.checked.prog.looks [] ∧ ∀ (j : Nat) t, fn.params[j]? = some t → Tryd.pinned.checked.prog.wantsStandIn t = false := by
  obtain rfl : f = 4 := Option.some.inj ((show Tryd.prog.funcNamed "bobbin/bobbintop.WholeCut" = some 4 by kernel_rfl).symm.trans hf) |>.symm
  obtain rfl : fn = Tryd.f4 := (Option.some.inj (Tryd.func4.symm.trans hfn)).symm
  refine ⟨by kernel_rfl, fun j t ht => ?_⟩
  rw [Tryd.params4] at ht
  have hm : t ∈ [5, 46] := by simpa using Array.mem_of_getElem? ht
  have hall : ([5, 46].all fun u => !Tryd.prog.wantsStandIn u) = true := by kernel_rfl
  exact (show Tryd.prog.wantsStandIn t = false by simpa using List.all_eq_true.1 hall t hm)
theorem cardUpto : Rows.WholeCutUptoCardSaid :=
  Claim7.holds_tied_plain_at .later [] _ _ _ _ saidUpto (fun _ h => by cases h) (by kernel_rfl) (fun _ h => by cases h) wholeCutUpto_row_tie rfl ⟨rfl, rfl⟩ (by kernel_rfl) rfl plain (by kernel_rfl)
#print axioms cardUpto
end Go.Proofs.YtfplocpjdjjoaaaDoor.wholeCutUpto
namespace Go.Proofs.YtfplocpjdjjoaaaDoor
theorem wholeCutUpto_holds : Rows.WholeCutUptoCardSaid := wholeCutUpto.cardUpto
end Go.Proofs.YtfplocpjdjjoaaaDoor
