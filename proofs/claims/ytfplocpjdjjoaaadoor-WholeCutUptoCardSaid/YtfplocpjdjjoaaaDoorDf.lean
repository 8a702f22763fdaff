/-
  bytes.IndexAny at ":/?#", of up to eight bytes.
  scheme.look: what the first bytes of a value tell.
  The gate settles.
  The gate: scheme.Feed, scheme.Finish.
  Conditions: as each theorem says.
-/
import Derived.Test.YtfplocpjdjjoaaaDoorDe
import Derived.Test.YtfplocpjdjjoaaaDoorDd
import Derived.Lib.IndexEntry
import Derived.LoopTactic
import Derived.Deep.LoopGhost
namespace Go.Proofs.YtfplocpjdjjoaaaDoor.Cut
open Go Go.RowKit Go.Proofs.YtfplocpjdjjoaaaDoor.Trail Go.Proofs.YtfplocpjdjjoaaaDoor.Ctxs Go.Proofs.YtfplocpjdjjoaaaDoorW.PrintWords
set_option linter.unusedVariables false
set_option linter.unusedSimpArgs false
theorem mark_index (b : Nat) (hb : b < 256) : decide (0 ≤ Lib.indexByte marks.data.toList (b : Int).toNat.toUInt8) = stops b := by
  have h : (List.range 256).all (fun b => decide (0 ≤ Lib.indexByte marks.data.toList (b : Int).toNat.toUInt8) == stops b) = true := by kernel_rfl
  exact beq_iff_eq.1 (List.all_eq_true.1 h b (List.mem_range.2 hb))
theorem run_mark (b : Nat) (w : World) : (callFunc 132 #[.string marks, .int .u8 (b : Int)]).run Tryd.prog w = .ok (.value (.int .i64 (Lib.indexByte marks.data.toList (b : Int).toNat.toUInt8))) w := by
  rw [run_callFunc_extern Tryd.func132 (by kernel_rfl) (by kernel_rfl) (by kernel_rfl) (e := Extern.BytealgIndexByte.indexByte) (by kernel_rfl), Lib.run_indexByteString]
  rfl
/-- Bytes that lie from the beginning of a block. -/
def At8 (w : World) (g : Nat) (p : List Nat) : Prop := g < w.heap.size ∧ ∀ (j b : Nat), p[j]? = some b → w.cell? ⟨g, j, none⟩ = some (.int .u8 (b : Int))
theorem At8.below {w W : World} {g : Nat} {p : List Nat} (h : At8 w g p) (hb : Below w.heap.size w W) : At8 W g p :=
  ⟨Nat.lt_of_lt_of_le h.1 hb.size, fun j b hj => (hb.cell (World.block_lt_of_cell? w _ (h.2 j b hj))).trans (h.2 j b hj)⟩
theorem at8_of {w : World} {base : Nat} {v : Value} {p : List Nat} (h : Byr w base v p) (hp : p ≠ []) : ∃ g cap, v = .slice (some ⟨g, 0, none⟩) p.length cap ∧ p.length ≤ cap ∧ At8 w g p := by
  obtain ⟨g, cap, rfl, hb, hg, cells, hc⟩ := Kd.R_form (d := Kd.int .u8) h (by rw [List.length_map]; exact List.length_pos_iff.2 hp)
  have hr := Byr.reads h
  rw [List.length_map] at *
  refine ⟨g, cap, rfl, by omega, hg, fun j b hj => ?_⟩
  obtain ⟨ad, ea, hcell, -⟩ := cell_row hr.2.2 j b (List.getElem?_eq_some_iff.1 hj).1 hj
  injection ea with ea
  subst ea
  rwa [add_plain] at hcell
set_option maxHeartbeats 4000000 in
set_option maxRecDepth 1000000 in
theorem any_one (b g cap : Nat) (hb : b < 128) (w : World) (hA : At8 w g [b]) : Calls Tryd.prog 118 #[.slice (some ⟨g, 0, none⟩) 1 cap, .string marks] w fun e w' => e = .returned (.int .i64 (spot [b])) ∧ Below w.heap.size w w' := by
  obtain ⟨hg, hA⟩ := hA
  have hcell := hA 0 b rfl
  have hemp : (marks.toList.isEmpty) = false := by kernel_rfl
  obtain ⟨ix, hix⟩ : ∃ ix, ix = Lib.indexByte marks.data.toList (b : Int).toNat.toUInt8 := ⟨_, rfl⟩
  have hd := mark_index b (by omega)
  rw [← hix] at hd
  have hm := run_mark b
  rw [← hix] at hm
  have d1 : decide ((128 : Int) ≤ (b : Int)) = false := decide_eq_false (by omega)
  have d2 : decide (128 ≤ b) = false := decide_eq_false (by omega)
  obtain ⟨st, hst⟩ : ∃ st, st = stops b := ⟨_, rfl⟩
  rw [← hst] at hd
  have HST := Aside0.mk hst
  clear hix hst hA
  cases st with
  | false =>
    go_enter Tryd.func118, Tryd.ntmps118
    go_wp2
    go_ret
    have h1 : stopAt ([b].take 1) = none := stop_next (p := [b]) (i := 0) (b := b) rfl rfl HST.out.symm
    exact ⟨by rw [stop_end h1 (by simp)]; rfl, Below.refl _ _⟩
  | true =>
    go_enter Tryd.func118, Tryd.ntmps118
    go_wp2
    go_ret
    exact ⟨by rw [stop_at (p := [b]) (i := 0) (b := b) rfl rfl HST.out.symm]; rfl, Below.refl _ _⟩
theorem chr_cases {c : List Nat} (h : Chr c) : (∃ a, c = [a] ∧ a < 128) ∨ (∃ a r, c = a :: r ∧ 128 ≤ a ∧ a < 256 ∧ 2 ≤ c.length ∧ ∀ x ∈ c, 128 ≤ x) := by
  cases h with
  | one a h => exact .inl ⟨a, rfl, h⟩
  | two a b h1 h2 h3 h4 => exact .inr ⟨a, [b], rfl, by omega, by omega, by simp, by intro x hx; simp at hx; omega⟩
  | three a b d h1 h2 h3 h4 h5 h6 h7 h8 => exact .inr ⟨a, [b, d], rfl, by omega, by omega, by simp, by intro x hx; simp at hx; omega⟩
  | four a b d e h1 h2 h3 h4 h5 h6 h7 h8 h9 h10 => exact .inr ⟨a, [b, d, e], rfl, by omega, by omega, by simp, by intro x hx; simp at hx; omega⟩
theorem val_high {c : List Nat} (h : Chr c) (h2 : 2 ≤ c.length) : 128 ≤ val c := by
  cases h with
  | one a h => simp at h2
  | two a b h1 h2 h3 h4 => show 128 ≤ a % 32 * 64 + b % 64; omega
  | three a b d h1 h2 h3 h4 h5 h6 h7 h8 => show 128 ≤ a % 16 * 4096 + b % 64 * 64 + d % 64; omega
  | four a b d e h1 h2 h3 h4 h5 h6 h7 h8 h9 h10 => show 128 ≤ a % 8 * 262144 + b % 64 * 4096 + d % 64 * 64 + e % 64; omega
theorem rune_str (c : List Nat) (hc : Chr c) (W : World) : (convert 21 9 (.int .i32 (val c : Int))).run Tryd.prog W = .ok (.string (bs c)) W := by
  rw [← encode_chr hc]
  simp [convert, run_underlying Tryd.underlying21, run_underlying Tryd.underlying9, Conv.intToString]
theorem index_absent {x : UInt8} {r : List UInt8} : ∀ (s : List UInt8), x ∉ s → Lib.index s (x :: r) = -1
  | [], _ => rfl
  | b :: l, h => by
    have hx : (x == b) = false := beq_eq_false_iff_ne.2 fun e => h (e ▸ List.mem_cons_self)
    unfold Lib.index
    rw [index_absent l (fun e => h (List.mem_cons_of_mem _ e))]
    simp [List.isPrefixOf, hx]
theorem marks_low {x : UInt8} (h : 128 ≤ x.toNat) : x ∉ marks.data.toList := by
  intro hx
  simp only [List.mem_cons, List.mem_nil_iff, or_false] at hx
  rcases hx with rfl | rfl | rfl | rfl <;> exact absurd h (by decide)
theorem bs_cons (a : Nat) (r : List Nat) : (bs (a :: r)).data.toList = a.toUInt8 :: (bs r).data.toList := by simp [bs]
theorem run_find {a : Nat} {r : List Nat} (ha1 : 128 ≤ a) (ha2 : a < 256) (W : World) (m : Int) (hm : W.cell? ⟨1, 0, none⟩ = some (.int .i64 m)) (h2 : 2 ≤ (a :: r).length) (hb : ((a :: r).length : Int) ≤ m) : (callFunc 138 #[.string marks, .string (bs (a :: r))]).run Tryd.prog W = .ok (.value (.int .i64 (-1))) W := by
  rw [run_callFunc_extern Tryd.func138 (by kernel_rfl) (by kernel_rfl) (by kernel_rfl) (e := Extern.BytealgIndex.index) (by kernel_rfl), Lib.run_indexString marks (bs (a :: r)) W 1 m (by kernel_rfl) hm (by rw [bs_size]; exact h2) (by rw [bs_size]; exact hb) (by decide), bs_cons, index_absent _ (marks_low (by rw [u8_nat ha2]; exact ha1))]
  rfl
theorem marks_ne {a : Nat} {r : List Nat} (ha1 : 128 ≤ a) (ha2 : a < 256) : (marks.toList == (bs (a :: r)).toList) = false := by
  rw [Go.ByteArray.toList_eq, Go.ByteArray.toList_eq, bs_cons]
  refine beq_eq_false_iff_ne.2 fun e => ?_
  have : a.toUInt8 ∈ marks.data.toList := by rw [e]; exact List.mem_cons_self
  exact marks_low (by rw [u8_nat ha2]; exact ha1) this
theorem decode_calls {p : List Nat} (hs : Small p) (i : Nat) {c : List Nat} (hc : Chr c) (hi : ∀ j x, c[j]? = some x → p[i + j]? = some x) (g N cap : Nat) (hN : N = p.length) (hiN : i < N) (w : World) (hU : Lib.Utf8Tabs 3 4 w) (hA : At8 w g p) :
    Calls Tryd.prog 137 #[.slice (some ⟨g, i, none⟩) (N - i) (cap - i)] w fun e w' => e = .returned (.tuple #[.int .i32 (val c : Int), .int .i64 (c.length : Int)]) ∧ Below w.heap.size w w' := by
  have hsd : Small (p.drop i) := fun x hx => hs x (List.mem_of_mem_drop hx)
  have hsz : (bs (p.drop i)).size = N - i := by rw [bs_size, List.length_drop, hN]
  have hget : ∀ j, j < (bs (p.drop i)).size → w.cell? ⟨g, i + j, none⟩ = some (.int .u8 ((bs (p.drop i)).get! j).toNat) := by
    intro j hj
    rw [hsz] at hj
    have hlt : i + j < p.length := by omega
    have hx : p[i + j]? = some p[i + j] := List.getElem?_eq_getElem hlt
    have hd : (p.drop i)[j]? = some p[i + j] := by rw [List.getElem?_drop]; exact hx
    rw [hA.2 _ _ hx, get_at hsd hd]
  have h := Any7.utf8_DecodeRune Tryd.cutD32 (bs (p.drop i)) g i (cap - i) w hU hget
  have hdg : Lib.decodeGo (bs (p.drop i)) = (val c, c.length) := by
    unfold Lib.decodeGo
    rw [if_neg (by rw [hsz]; omega)]
    exact decode_chr hsd 0 hc fun j x hj => by rw [Nat.zero_add, List.getElem?_drop]; exact hi j x hj
  rw [hdg, hsz] at h
  exact h
theorem iter_at {w : World} {k : Nat} {s : ByteArray} {pos : Nat} (h : w.heap[k]? = some (.stringIter s pos)) : w.iterPos k = pos := by
  unfold World.iterPos
  rw [h]
theorem run_find_c {c : List Nat} {SC : ByteArray} {a : Nat} {r : List Nat} (hSC : SC = bs c) (hc : c = a :: r) (ha1 : 128 ≤ a) (ha2 : a < 256) (W : World) (m : Int) (hm : W.cell? ⟨1, 0, none⟩ = some (.int .i64 m)) (h2 : 2 ≤ c.length) (hb : (c.length : Int) ≤ m) : (callFunc 138 #[.string marks, .string SC]).run Tryd.prog W = .ok (.value (.int .i64 (-1))) W := by
  subst hSC hc
  exact run_find ha1 ha2 W m hm h2 hb
theorem stops_high {b : Nat} (h : 128 ≤ b) : stops b = false := by
  unfold stops
  simp only [Bool.or_eq_false_iff, beq_eq_false_iff_ne]
  omega
theorem stop_run {p c : List Nat} {i : Nat} (h : stopAt (p.take i) = none) (hall : ∀ x ∈ c, 128 ≤ x) (hi : ∀ j x, c[j]? = some x → p[i + j]? = some x) : stopAt (p.take (i + c.length)) = none := by
  have key : ∀ n, n ≤ c.length → stopAt (p.take (i + n)) = none := by
    intro n
    induction n with
    | zero => intro _; exact h
    | succ n ih =>
      intro hn
      obtain ⟨x, hx⟩ : ∃ x, c[n]? = some x := ⟨_, List.getElem?_eq_getElem (by omega)⟩
      exact stop_next (ih (by omega)) (hi n x hx) (stops_high (hall x (List.mem_of_getElem? hx)))
  exact key _ (Nat.le_refl _)
theorem marks_forms {S : ByteArray} (h : (marks.toList == S.toList) = false) : (marks.data.toList == S.data.toList) = false ∧ (([58, 47, 63, 35] : List UInt8) == S.toList) = false ∧ (([58, 47, 63, 35] : List UInt8) == S.data.toList) = false := by
  have h2 := h
  rw [Go.ByteArray.toList_eq, Go.ByteArray.toList_eq] at h2
  refine ⟨h2, ?_, h2⟩
  rw [Go.ByteArray.toList_eq S]
  exact h2
theorem cell_at1 {w W : World} (h : Below w.heap.size w W) {a : Addr} {v : Value} (hc : w.cell? a = some v) : W.cell? a = some v := (h.cell (World.block_lt_of_cell? w _ hc)).trans hc
def mk4 (q : Nat) : Nat := [58, 47, 63, 35].getD q 0
theorem decode_mark (q : Nat) (h : q < 4) : Utf8.decode marks q = (mk4 q, 1) := by
  have : q = 0 ∨ q = 1 ∨ q = 2 ∨ q = 3 := by omega
  rcases this with rfl | rfl | rfl | rfl <;> decide +kernel
theorem mk4_lt (q : Nat) : mk4 q < 128 := by
  unfold mk4
  match q with
  | 0 => decide
  | 1 => decide
  | 2 => decide
  | 3 => decide
  | q + 4 => simp
theorem utf8_below {w W : World} (h : Lib.Utf8Tabs 3 4 w) (hb : Below w.heap.size w W) : Lib.Utf8Tabs 3 4 W :=
  ⟨fun c hc => (hb.cell (World.block_lt_of_cell? w _ (h.1 c hc))).trans (h.1 c hc), fun i hi => ⟨(hb.cell (World.block_lt_of_cell? w _ (h.2 i hi).1)).trans (h.2 i hi).1, (hb.cell (World.block_lt_of_cell? w _ (h.2 i hi).2)).trans (h.2 i hi).2⟩⟩
set_option maxHeartbeats 4000000 in
set_option maxRecDepth 1000000 in
theorem any_few (cs : List (List Nat)) (hcs : ∀ c ∈ cs, Chr c) (g cap N : Nat) (hN : N = cs.flatten.length) (h8 : N ≤ 8) (h1 : N ≠ 1) (hcap : N ≤ cap) (w : World) (hU : Lib.Utf8Tabs 3 4 w) (m : Int) (hM : w.cell? ⟨1, 0, none⟩ = some (.int .i64 m)) (hA : At8 w g cs.flatten) : Calls Tryd.prog 118 #[.slice (some ⟨g, 0, none⟩) N cap, .string marks] w fun e w' => e = .returned (.int .i64 (spot cs.flatten)) ∧ Below w.heap.size w w' := by
  have hemp : (marks.toList.isEmpty) = false := by kernel_rfl
  have hn1 : ((N : Int) == 1) = false := beq_eq_false_iff_ne.2 (by omega)
  have h8z : decide (8 < N) = false := decide_eq_false (by omega)
  have HA := Aside0.mk hA
  have HU := Aside0.mk hU
  have HM := Aside0.mk hM
  have HN := Aside0.mk (And.intro hN (And.intro h8 hcap))
  have HCS := Aside0.mk hcs
  clear hA hU hM hN h8 hcs h1 hcap
  go_enter Tryd.func118, Tryd.ntmps118
  go_wp2_with (go_at_call 134; (with_reducible refine (use_calls _ _).mono ?_); rintro e w1 ⟨rfl, rfl⟩; rw [h8z])
  go_loopw [12] (fun iv wr => ∃ k : Nat, k ≤ cs.length ∧ iv = .int .i64 (place cs k : Int) ∧ stopAt (cs.flatten.take (place cs k)) = none ∧ Below w.heap.size w wr) (fun iv _ => N - (intOf iv).toNat)
  case atStart => exact ⟨0, Nat.zero_le _, rfl, by simp [place, stopAt], Below.refl _ _⟩
  case round =>
    obtain ⟨k, hk, rfl, hno, hbw⟩ := hrel
    by_cases hkl : k < cs.length
    · obtain ⟨c, hc⟩ : ∃ c, cs[k]? = some c := ⟨_, List.getElem?_eq_getElem hkl⟩
      obtain ⟨hn1', hn2⟩ := place_next cs k c hc
      have hch := HCS.out c (List.mem_of_getElem? hc)
      have hpa := place_at cs k c hc
      obtain ⟨i, hi⟩ : ∃ i, i = place cs k := ⟨_, rfl⟩
      rw [← hi] at hn1' hn2 hno hpa ⊢
      have hcp := List.length_pos_iff.2 (chr_ne hch)
      have hiN : i < N := by have := HN.out.1; omega
      have d1 : decide ((i : Int) < (N : Int)) = true := decide_eq_true (by omega)
      have b1 : (0 : Int) ≤ (i : Int) ∧ (i : Int) < (N : Int) := by omega
      have hAw := HA.out.below hbw
      have hgl := hAw.1
      have HNO := Aside0.mk hno
      have HBW := Aside0.mk hbw
      have HKL := Aside0.mk hkl
      have HPN := Aside0.mk (And.intro hn1' (And.intro hn2 hiN))
      have HIE := Aside0.mk hi
      rcases chr_cases hch with ⟨a, rfl, ha⟩ | ⟨a, r, hce, ha1, ha2, hc2, hall⟩
      · have hpi := hpa 0 a rfl
        rw [Nat.add_zero] at hpi
        have hcell := hAw.2 i a hpi
        have dA : decide ((a : Int) < 128) = true := decide_eq_true (by omega)
        have dA2 : decide (a < 128) = true := decide_eq_true ha
        have dA3 : (a : Int) < 128 := by omega
        have dA4 : a < 128 := ha
        obtain ⟨ix, hix⟩ : ∃ ix, ix = Lib.indexByte marks.data.toList (a : Int).toNat.toUInt8 := ⟨_, rfl⟩
        have hd := mark_index a (by omega)
        rw [← hix] at hd
        have hm := run_mark a
        rw [← hix] at hm
        obtain ⟨st, hst⟩ : ∃ st, st = stops a := ⟨_, rfl⟩
        rw [← hst] at hd
        have HST := Aside0.mk hst
        have HPI := Aside0.mk hpi
        have D6 := Aside0.mk (show wrap64 ((i : Int) + 1) = ((i + 1 : Nat) : Int) by unfold wrap64; have := HN.out.2.1; omega)
        clear hix hst hpi hpa hn1' hn2 hno hbw hch hc hi hk hkl hiN hAw hcp
        cases st with
        | false =>
          go_wp2
          go_roundw
          case rel =>
            have hpl : place cs (k + 1) = i + 1 := HPN.out.1
            exact ⟨k + 1, HKL.out, congrArg (Value.int .i64) (by rw [D6.out, hpl]), by rw [hpl]; exact stop_next HNO.out HPI.out HST.out.symm, HBW.out⟩
          case measure => exact less2 (Nat.lt_succ_self i) HPN.out.2.2 D6.out
        | true =>
          go_wp2
          go_ret
          exact ⟨by rw [stop_at HNO.out HPI.out HST.out.symm]; rfl, HBW.out⟩
      · have hpi := hpa 0 a (by rw [hce]; rfl)
        rw [Nat.add_zero] at hpi
        have hcell := hAw.2 i a hpi
        have dA : decide ((a : Int) < 128) = false := decide_eq_false (by omega)
        have dA2 : decide (a < 128) = false := decide_eq_false (by omega)
        have dA3 : ¬ (a : Int) < 128 := by omega
        have dA4 : ¬ a < 128 := by omega
        have HPA := Aside0.mk hpa
        have HCE := Aside0.mk (And.intro hce (And.intro hall hc2))
        have HCH := Aside0.mk hch
        have HPI := Aside0.mk hpi
        have HAW := Aside0.mk hAw
        clear hpi hpa hn1' hn2 hno hbw hch hc hi hk hkl hiN hAw hcp hall hce hc2
        obtain ⟨R, hR⟩ : ∃ R, R = val c := ⟨_, rfl⟩
        obtain ⟨L, hL⟩ : ∃ L, L = c.length := ⟨_, rfl⟩
        have hRh : 128 ≤ R := by rw [hR]; exact val_high HCH.out HCE.out.2.2
        have hLp : 0 < L := by rw [hL]; have := HCE.out.2.2; omega
        have HRL := Aside0.mk (And.intro hR (And.intro hL (And.intro hLp hRh)))
        have dcap : ¬ cap = i := by have := HN.out.2.2; have := HPN.out.2.2; omega
        have hnx1 : place cs (k + 1) = i + L := by rw [hL]; exact HPN.out.1
        have hnx2 : stopAt (cs.flatten.take (i + L)) = none := by rw [hL]; exact stop_run HNO.out HCE.out.2.1 HPA.out
        have HNX := Aside0.mk (And.intro hnx1 hnx2)
        have HNX3 := Aside0.mk (show i + L ≤ N by rw [hL]; have := HPN.out.2.1; have := HN.out.1; omega)
        have D6 := Aside0.mk (show wrap64 ((i : Int) + (L : Int)) = ((i + L : Nat) : Int) by unfold wrap64; have := HNX3.out; have := HN.out.2.1; omega)
        have hru : ∀ W : World, (convert 21 9 (.int .i32 (R : Int))).run Tryd.prog W = .ok (.string (bs c)) W := fun W => by rw [hR]; exact rune_str c HCH.out W
        have hmn : (marks.toList == (bs c).toList) = false := by rw [HCE.out.1]; exact marks_ne ha1 ha2
        obtain ⟨SC, hSC⟩ : ∃ SC, SC = bs c := ⟨_, rfl⟩
        rw [← hSC] at hru hmn
        have HSC := Aside0.mk (And.intro hSC (And.intro ha1 ha2))
        have dW : wrap32 (a : Int) = (a : Int) := by unfold wrap32; omega
        clear hR hL hRh hLp hnx1 hnx2 hSC ha1 ha2
        by_cases hR0 : R = 65533
        · have dR : ((R : Int) == 65533) = true := by rw [beq_iff_eq]; omega
          have dR2 : ((R : Int) != 65533) = false := by rw [bne_eq_false_iff_eq]; omega
          clear hR0 hmn hru
          go_wp2_with (go_at_call 137; (with_reducible refine (decode_calls (small_flat HCS.out) i HCH.out HPA.out g N cap HN.out.1 HPN.out.2.2 _ (utf8_below HU.out HBW.out) HAW.out).mono ?_); rintro e w3 ⟨rfl, hb3⟩; rw [← HRL.out.1, ← HRL.out.2.1]; have HB3 := Aside0.mk (below_step HBW.out hb3); have hm3 := cell_at1 HB3.out HM.out; clear hb3)
          obtain ⟨GI, hGI⟩ : ∃ GI, GI = w3.heap.size := ⟨_, rfl⟩
          have HGI := Aside0.mk hGI
          rw [← hGI]
          clear hGI
          go_loopw [] (fun wq => ∃ q : Nat, q ≤ 4 ∧ wq.heap[GI]? = some (.stringIter marks q) ∧ Below GI w3 wq) (fun wq => 4 - wq.iterPos GI)
          case atStart => exact ⟨0, Nat.zero_le _, by rw [HGI.out]; exact World.iter_heap w3 marks 0, by rw [HGI.out]; exact (Below.refl _ _).alloc (Nat.le_refl _) _⟩
          case round =>
            obtain ⟨q, hq, hit, hbq⟩ := hrel
            have hpos := iter_at hit
            have HPOS := Aside0.mk hpos
            by_cases hq4 : q < 4
            · have hnx : ∀ ty, (Instr.next (.pointer (some ⟨GI, 0, none⟩)) true ty).run Tryd.prog wr = _ := fun ty => Lib.run_next_any_at wr GI marks q ty hit (by show q < 4; exact hq4)
              rw [decode_mark q hq4] at hnx
              dsimp only at hnx
              have hit2 := Lib.iterAt_heap wr GI marks q (q + 1) hit
              have hbq2 := Lib.below_iterAt hbq (k := GI) (Nat.le_refl _) marks (q + 1)
              obtain ⟨W1, hW1⟩ : ∃ W1, W1 = wr.iterAt GI marks (q + 1) := ⟨_, rfl⟩
              rw [← hW1] at hnx hit2 hbq2
              obtain ⟨mq, hmq⟩ : ∃ mq, mq = mk4 q := ⟨_, rfl⟩
              rw [← hmq] at hnx
              have hml : mq < 128 := by rw [hmq]; exact mk4_lt q
              have dM : ((R : Int) == (mq : Int)) = false := by rw [beq_eq_false_iff_ne]; have := HRL.out.2.2.2; omega
              have HIT := Aside0.mk (And.intro hit2 (And.intro hbq2 hq4))
              clear hW1 hit hbq hq hq4 hmq hml hpos hit2 hbq2
              go_wp2
              refine ⟨⟨q + 1, HIT.out.2.2, HIT.out.1, HIT.out.2.1⟩, ?_⟩
              rw [iter_at HIT.out.1, HPOS.out]
              have := HIT.out.2.2
              omega
            · have hnx : ∀ ty, (Instr.next (.pointer (some ⟨GI, 0, none⟩)) true ty).run Tryd.prog wr = _ := fun ty => Lib.run_next_end_at wr GI marks q ty hit (by show ¬ q < 4; exact hq4)
              have HBQ := Aside0.mk (show Below w.heap.size w wr from HB3.out.trans (hbq.mono (by rw [HGI.out]; exact HB3.out.size)))
              clear hit hbq hq hq4 hpos
              go_wp2
              go_roundw
              case rel => exact ⟨k + 1, HKL.out, congrArg (Value.int .i64) (by rw [D6.out, HNX.out.1]), by rw [HNX.out.1]; exact HNX.out.2, HBQ.out⟩
              case measure => exact less2 (Nat.lt_add_of_pos_right HRL.out.2.2.1) HPN.out.2.2 D6.out
        · have dR : ((R : Int) == 65533) = false := by rw [beq_eq_false_iff_ne]; omega
          have dR2 : ((R : Int) != 65533) = true := by rw [bne_iff_ne]; omega
          clear hR0
          by_cases hL4 : L = 4
          · have dL : ((4 : Int) == (L : Int)) = true := by rw [beq_iff_eq]; omega
            obtain ⟨hm2, hm3, hm4⟩ := marks_forms hmn
            clear hL4
            go_wp2_with (go_at_call 137; (with_reducible refine (decode_calls (small_flat HCS.out) i HCH.out HPA.out g N cap HN.out.1 HPN.out.2.2 _ (utf8_below HU.out HBW.out) HAW.out).mono ?_); rintro e w3 ⟨rfl, hb3⟩; rw [← HRL.out.1, ← HRL.out.2.1]; have HB3 := Aside0.mk (below_step HBW.out hb3); have hm3 := cell_at1 HB3.out HM.out; clear hb3)
            go_roundw
            case rel => exact ⟨k + 1, HKL.out, congrArg (Value.int .i64) (by rw [D6.out, HNX.out.1]), by rw [HNX.out.1]; exact HNX.out.2, HB3.out⟩
            case measure => exact less2 (Nat.lt_add_of_pos_right HRL.out.2.2.1) HPN.out.2.2 D6.out
          · have dL : ((4 : Int) == (L : Int)) = false := by rw [beq_eq_false_iff_ne]; omega
            clear hL4
            by_cases hmL : (L : Int) ≤ m
            · have dm : decide ((L : Int) ≤ m) = true := decide_eq_true hmL
              have HML := Aside0.mk hmL
              clear hmL
              go_wp2_with (go_at_call 137; (with_reducible refine (decode_calls (small_flat HCS.out) i HCH.out HPA.out g N cap HN.out.1 HPN.out.2.2 _ (utf8_below HU.out HBW.out) HAW.out).mono ?_); rintro e w3 ⟨rfl, hb3⟩; rw [← HRL.out.1, ← HRL.out.2.1]; have HB3 := Aside0.mk (below_step HBW.out hb3); have hm3 := cell_at1 HB3.out HM.out; have hfi := run_find_c HSC.out.1 HCE.out.1 HSC.out.2.1 HSC.out.2.2 _ m hm3 HCE.out.2.2 (by rw [← HRL.out.2.1]; exact HML.out);clear hb3)
              go_roundw
              case rel => exact ⟨k + 1, HKL.out, congrArg (Value.int .i64) (by rw [D6.out, HNX.out.1]), by rw [HNX.out.1]; exact HNX.out.2, HB3.out⟩
              case measure => exact less2 (Nat.lt_add_of_pos_right HRL.out.2.2.1) HPN.out.2.2 D6.out
            · have dm : decide ((L : Int) ≤ m) = false := decide_eq_false hmL
              clear hmL
              go_wp2_with (go_at_call 137; (with_reducible refine (decode_calls (small_flat HCS.out) i HCH.out HPA.out g N cap HN.out.1 HPN.out.2.2 _ (utf8_below HU.out HBW.out) HAW.out).mono ?_); rintro e w3 ⟨rfl, hb3⟩; rw [← HRL.out.1, ← HRL.out.2.1]; have HB3 := Aside0.mk (below_step HBW.out hb3); have hm3 := cell_at1 HB3.out HM.out; clear hb3)
              obtain ⟨GI, hGI⟩ : ∃ GI, GI = w3.heap.size := ⟨_, rfl⟩
              have HGI := Aside0.mk hGI
              rw [← hGI]
              clear hGI
              go_loopw [] (fun wq => ∃ q : Nat, q ≤ 4 ∧ wq.heap[GI]? = some (.stringIter marks q) ∧ Below GI w3 wq) (fun wq => 4 - wq.iterPos GI)
              case atStart => exact ⟨0, Nat.zero_le _, by rw [HGI.out]; exact World.iter_heap w3 marks 0, by rw [HGI.out]; exact (Below.refl _ _).alloc (Nat.le_refl _) _⟩
              case round =>
                obtain ⟨q, hq, hit, hbq⟩ := hrel
                have hpos := iter_at hit
                have HPOS := Aside0.mk hpos
                by_cases hq4 : q < 4
                · have hnx : ∀ ty, (Instr.next (.pointer (some ⟨GI, 0, none⟩)) true ty).run Tryd.prog wr = _ := fun ty => Lib.run_next_any_at wr GI marks q ty hit (by show q < 4; exact hq4)
                  rw [decode_mark q hq4] at hnx
                  dsimp only at hnx
                  have hit2 := Lib.iterAt_heap wr GI marks q (q + 1) hit
                  have hbq2 := Lib.below_iterAt hbq (k := GI) (Nat.le_refl _) marks (q + 1)
                  obtain ⟨W1, hW1⟩ : ∃ W1, W1 = wr.iterAt GI marks (q + 1) := ⟨_, rfl⟩
                  rw [← hW1] at hnx hit2 hbq2
                  obtain ⟨mq, hmq⟩ : ∃ mq, mq = mk4 q := ⟨_, rfl⟩
                  rw [← hmq] at hnx
                  have hml : mq < 128 := by rw [hmq]; exact mk4_lt q
                  have dM : ((R : Int) == (mq : Int)) = false := by rw [beq_eq_false_iff_ne]; have := HRL.out.2.2.2; omega
                  have HIT := Aside0.mk (And.intro hit2 (And.intro hbq2 hq4))
                  clear hW1 hit hbq hq hq4 hmq hml hpos hit2 hbq2
                  go_wp2
                  refine ⟨⟨q + 1, HIT.out.2.2, HIT.out.1, HIT.out.2.1⟩, ?_⟩
                  rw [iter_at HIT.out.1, HPOS.out]
                  have := HIT.out.2.2
                  omega
                · have hnx : ∀ ty, (Instr.next (.pointer (some ⟨GI, 0, none⟩)) true ty).run Tryd.prog wr = _ := fun ty => Lib.run_next_end_at wr GI marks q ty hit (by show ¬ q < 4; exact hq4)
                  have HBQ := Aside0.mk (show Below w.heap.size w wr from HB3.out.trans (hbq.mono (by rw [HGI.out]; exact HB3.out.size)))
                  clear hit hbq hq hq4 hpos
                  go_wp2
                  go_roundw
                  case rel => exact ⟨k + 1, HKL.out, congrArg (Value.int .i64) (by rw [D6.out, HNX.out.1]), by rw [HNX.out.1]; exact HNX.out.2, HBQ.out⟩
                  case measure => exact less2 (Nat.lt_add_of_pos_right HRL.out.2.2.1) HPN.out.2.2 D6.out
    · have hke : k = cs.length := by omega
      subst hke
      rw [place_end (Nat.le_refl _)] at hno ⊢
      have hN' : cs.flatten.length = N := HN.out.1.symm
      rw [hN'] at hno ⊢
      have d1 : decide ((N : Int) < (N : Int)) = false := decide_eq_false (by omega)
      have HNO := Aside0.mk hno
      have HBW := Aside0.mk hbw
      clear hno hbw hk hkl hN'
      go_wp2
      go_ret
      exact ⟨by rw [stop_end HNO.out (by have := HN.out.1; omega)]; rfl, HBW.out⟩
end Go.Proofs.YtfplocpjdjjoaaaDoor.Cut
namespace Go.Proofs.YtfplocpjdjjoaaaDoor.Cut
open Go Go.RowKit Go.Proofs.YtfplocpjdjjoaaaDoor.Trail Go.Proofs.YtfplocpjdjjoaaaDoor.Ctxs Go.Proofs.YtfplocpjdjjoaaaDoorW.PrintWords
set_option linter.unusedVariables false
set_option linter.unusedSimpArgs false
/-- The tables that the gate reads. -/
def Tb (W : World) : Prop := Lib.Utf8Tabs 3 4 W ∧ ∃ m : Int, W.cell? ⟨1, 0, none⟩ = some (.int .i64 m)
theorem Tb.below {w W : World} (h : Tb w) (hb : Below w.heap.size w W) : Tb W := ⟨utf8_below h.1 hb, h.2.elim fun m hm => ⟨m, cell_at1 hb hm⟩⟩
set_option maxHeartbeats 4000000 in
set_option maxRecDepth 1000000 in
theorem any_zero (A : Option Addr) (c : Nat) (w : World) : Calls Tryd.prog 118 #[.slice A 0 c, .string marks] w fun e w' => e = .returned (.int .i64 (-1)) ∧ Below w.heap.size w w' := by
  have hemp : (marks.toList.isEmpty) = false := by kernel_rfl
  go_enter Tryd.func118, Tryd.ntmps118
  go_wp2
  go_loopw [12] (fun iv wr => iv = .int .i64 0 ∧ wr = w) (fun _ _ => 0)
  case atStart => exact ⟨rfl, rfl⟩
  case round =>
    obtain ⟨rfl, rfl⟩ := hrel
    go_wp2
    go_ret
    exact ⟨rfl, Below.refl _ _⟩
theorem index_any {v : Value} {base : Nat} (cs : List (List Nat)) (hcs : ∀ c ∈ cs, Chr c) (hl : cs.flatten.length ≤ 1000000000) (w : World) (hT : Tb w) (hv : Byr w base v cs.flatten) : Calls Tryd.prog 118 #[v, .string marks] w fun e w' => e = .returned (.int .i64 (spot cs.flatten)) ∧ Below w.heap.size w w' := by
  by_cases h0 : cs.flatten = []
  · rw [h0] at hv ⊢
    obtain ⟨A, c, rfl⟩ := hv.slice
    exact any_zero A c w
  · by_cases h8 : 8 < cs.flatten.length
    · exact any_long cs.flatten (small_flat hcs) h8 hl w hv.rdb
    · obtain ⟨g, cap, rfl, hcap, hA⟩ := at8_of hv h0
      by_cases h1 : cs.flatten.length = 1
      · have hn := len_flat hcs
        match cs, hcs, h0, h1, hA with
        | [], _, h0, _, _ => exact absurd rfl h0
        | [c], hcs, _, h1, hA =>
          rw [List.flatten_cons, List.flatten_nil, List.append_nil] at h1 hA ⊢
          rcases chr_cases (hcs c List.mem_cons_self) with ⟨a, rfl, ha⟩ | ⟨a, r, rfl, -, -, h2, -⟩
          · exact any_one a g cap ha w hA
          · omega
        | c :: d :: r, hcs, _, h1, _ =>
          rw [List.flatten_cons, List.flatten_cons, List.length_append, List.length_append] at h1
          have := List.length_pos_iff.2 (chr_ne (hcs c List.mem_cons_self))
          have := List.length_pos_iff.2 (chr_ne (hcs d (List.mem_cons_of_mem _ List.mem_cons_self)))
          omega
      · obtain ⟨m, hm⟩ := hT.2
        exact any_few cs hcs g cap _ rfl (by omega) h1 hcap w hT.1 m hm hA
/-- What the first bytes tell, all of them being there or not. -/
def lookA (p : List Nat) (all : Bool) : Nat :=
  match stopAt p with
  | none => if 16 < p.length then 2 else if all = true then 1 else 0
  | some i => if 16 < i then 2 else if p[i]? = some 58 ∧ allowed (p.take i) = false then 2 else 1
theorem lookA_false (p : List Nat) : lookA p false = look p := by
  unfold lookA look
  cases stopAt p with
  | none => simp
  | some i => rfl
theorem lookA_true (p : List Nat) : lookA p true = if look p = 0 then 1 else look p := by
  unfold lookA look
  cases stopAt p with
  | none =>
    dsimp only
    split <;> simp
  | some i =>
    dsimp only
    repeat' split
    all_goals first | rfl | simp_all
set_option maxHeartbeats 4000000 in
set_option maxRecDepth 1000000 in
theorem look_none {v : Value} {base : Nat} (all : Bool) (cs : List (List Nat)) (hcs : ∀ c ∈ cs, Chr c) (hl : cs.flatten.length ≤ 1000000000) (w : World) (hT : Tb w) (hv : Byr w base v cs.flatten) (hs : stopAt cs.flatten = none) : Calls Tryd.prog 89 #[v, .bool all] w fun e w' => e = .returned (.int .i64 (lookA cs.flatten all : Int)) ∧ Below w.heap.size w w' := by
  have hsp : spot cs.flatten = -1 := by unfold spot; rw [hs]
  have hia := index_any cs hcs hl w hT hv
  rw [hsp] at hia
  have hlk : lookA cs.flatten all = if 16 < cs.flatten.length then 2 else if all = true then 1 else 0 := by unfold lookA; rw [hs]
  obtain ⟨A, N, c, rfl, hN⟩ := byr_open hv
  rw [← hN] at hlk
  have HIA := Aside0.mk hia
  have HLK := Aside0.mk hlk
  clear hia hlk hv hT hcs hl hs hsp hN
  by_cases h16 : 16 < N
  · have d1 : decide ((16 : Int) < (N : Int)) = true := decide_eq_true (by omega)
    have d2 : decide (16 < N) = true := decide_eq_true h16
    go_enter Tryd.func89, Tryd.ntmps89
    go_wp2_with (go_at_call 118; (with_reducible refine HIA.out.mono ?_); rintro e w1 ⟨rfl, hb⟩; have HB := Aside0.mk hb; clear hb)
    go_ret
    exact ⟨by rw [HLK.out, if_pos h16]; rfl, HB.out⟩
  · have d1 : decide ((16 : Int) < (N : Int)) = false := decide_eq_false (by omega)
    have d2 : decide (16 < N) = false := decide_eq_false h16
    cases all with
    | true =>
      go_enter Tryd.func89, Tryd.ntmps89
      go_wp2_with (go_at_call 118; (with_reducible refine HIA.out.mono ?_); rintro e w1 ⟨rfl, hb⟩; have HB := Aside0.mk hb; clear hb)
      go_ret
      exact ⟨by rw [HLK.out, if_neg h16]; rfl, HB.out⟩
    | false =>
      go_enter Tryd.func89, Tryd.ntmps89
      go_wp2_with (go_at_call 118; (with_reducible refine HIA.out.mono ?_); rintro e w1 ⟨rfl, hb⟩; have HB := Aside0.mk hb; clear hb)
      go_ret
      exact ⟨by rw [HLK.out, if_neg h16]; rfl, HB.out⟩
theorem len_take {p : List Nat} {i N : Nat} (h : i < N) (h16 : ¬ 16 < i) : (p.take i).length ≤ 900 := by
  rw [List.length_take]
  omega
theorem stop_byte : ∀ {p : List Nat} {i : Nat}, stopAt p = some i → ∃ b, p[i]? = some b ∧ stops b = true
  | [], i, h => by cases h
  | b :: r, i, h => by
    rw [stopAt] at h
    split at h
    · rename_i hb
      injection h with h
      subst h
      exact ⟨b, rfl, hb⟩
    · cases hr : stopAt r with
      | none => rw [hr] at h; cases h
      | some j =>
        rw [hr] at h
        simp only [Option.map_some, Option.some.injEq] at h
        subst h
        obtain ⟨c, hc, hst⟩ := stop_byte hr
        exact ⟨c, by simpa using hc, hst⟩
set_option maxHeartbeats 4000000 in
set_option maxRecDepth 1000000 in
theorem look_some {v : Value} {base : Nat} (all : Bool) (cs : List (List Nat)) (hcs : ∀ c ∈ cs, Chr c) (hl : cs.flatten.length ≤ 1000000000) (w : World) (hT : Tb w) (hv : Byr w base v cs.flatten) (i : Nat) (hs : stopAt cs.flatten = some i) : Calls Tryd.prog 89 #[v, .bool all] w fun e w' => e = .returned (.int .i64 (lookA cs.flatten all : Int)) ∧ Below w.heap.size w w' := by
  have hsp : spot cs.flatten = (i : Int) := by unfold spot; rw [hs]
  have hia := index_any cs hcs hl w hT hv
  rw [hsp] at hia
  have hlk : lookA cs.flatten all = if 16 < i then 2 else if cs.flatten[i]? = some 58 ∧ allowed (cs.flatten.take i) = false then 2 else 1 := by unfold lookA; rw [hs]
  have hil := stopAt_lt _ _ hs
  obtain ⟨b, hb, hst⟩ := stop_byte hs
  obtain ⟨g, cap, rfl, hcap, hA⟩ := at8_of hv (by intro h; rw [h] at hil; simp at hil)
  have hcell := hA.2 i b hb
  have hg := hA.1
  obtain ⟨N, hN⟩ : ∃ N, N = cs.flatten.length := ⟨_, rfl⟩
  have hrt : Rdb w (.slice (some ⟨g, 0, none⟩) i cap) (cs.flatten.take i) := by
    have hr := hv.reads
    refine ⟨some ⟨g, 0, none⟩, cap, ?_, ?_, ?_⟩
    · rw [List.length_take, Nat.min_eq_left (by omega)]
    · rw [List.length_take, Nat.min_eq_left (by omega)]; omega
    · rw [List.length_take, Nat.min_eq_left (by omega)]
      exact take_C (l := cs.flatten) hr.2.2 (by omega)
  have hsm : Small (cs.flatten.take i) := fun x hx => small_flat hcs x (List.mem_of_mem_take hx)
  rw [← hN] at hia hil hcap ⊢
  have HIA := Aside0.mk hia
  have HLK := Aside0.mk hlk
  have HRT := Aside0.mk hrt
  have HSM := Aside0.mk hsm
  have HB := Aside0.mk hb
  have d0 : decide ((i : Int) < 0) = false := decide_eq_false (by omega)
  have d0' : decide ((0 : Int) ≤ (i : Int)) = true := decide_eq_true (by omega)
  have b1 : (0 : Int) ≤ (i : Int) ∧ (i : Int) < (N : Int) := by omega
  have b2 : (i : Int) ≤ (cap : Int) := by omega
  have HCP := Aside0.mk (And.intro hil hcap)
  clear hia hlk hv hT hcs hl hs hsp hN hA hrt hsm hb hst
  by_cases h16 : 16 < i
  · have d1 : decide ((16 : Int) < (i : Int)) = true := decide_eq_true (by omega)
    have d2 : decide (16 < i) = true := decide_eq_true h16
    clear hil hcap
    go_enter Tryd.func89, Tryd.ntmps89
    go_wp2_with (go_at_call 118; (with_reducible refine HIA.out.mono ?_); rintro e w1 ⟨rfl, hb⟩; have HB1 := Aside0.mk hb; clear hb)
    go_ret
    exact ⟨by rw [HLK.out, if_pos h16]; rfl, HB1.out⟩
  · have d1 : decide ((16 : Int) < (i : Int)) = false := decide_eq_false (by omega)
    have d2 : decide (16 < i) = false := decide_eq_false h16
    have H16 := Aside0.mk h16
    clear h16
    by_cases h58 : b = 58
    · have d3 : ((b : Int) == 58) = true := by rw [beq_iff_eq]; omega
      have H58 := Aside0.mk h58
      obtain ⟨al, hal⟩ : ∃ al, al = allowed (cs.flatten.take i) := ⟨_, rfl⟩
      have HAL := Aside0.mk hal
      clear h58 hal
      cases al with
      | true =>
        go_enter Tryd.func89, Tryd.ntmps89
        go_wp2_with (first
          | (go_at_call 118; (with_reducible refine HIA.out.mono ?_); rintro e w1 ⟨rfl, hb⟩; have hcell1 := cell_at1 hb hcell; have hg1 := Nat.lt_of_lt_of_le hg hb.size; have HB1 := Aside0.mk hb; clear hb)
          | (go_at_call 119; (with_reducible refine (allowed_calls (cs.flatten.take i) HSM.out (len_take HCP.out.1 H16.out) _ (HRT.out.below HB1.out)).mono ?_); rintro e w2 ⟨rfl, hb2⟩; rw [← HAL.out]; have HB2 := Aside0.mk (below_step HB1.out hb2); clear hb2))
        go_ret
        exact ⟨by rw [HLK.out, if_neg H16.out, if_neg (by rw [← HAL.out]; simp)]; rfl, HB2.out⟩
      | false =>
        go_enter Tryd.func89, Tryd.ntmps89
        go_wp2_with (first
          | (go_at_call 118; (with_reducible refine HIA.out.mono ?_); rintro e w1 ⟨rfl, hb⟩; have hcell1 := cell_at1 hb hcell; have hg1 := Nat.lt_of_lt_of_le hg hb.size; have HB1 := Aside0.mk hb; clear hb)
          | (go_at_call 119; (with_reducible refine (allowed_calls (cs.flatten.take i) HSM.out (len_take HCP.out.1 H16.out) _ (HRT.out.below HB1.out)).mono ?_); rintro e w2 ⟨rfl, hb2⟩; rw [← HAL.out]; have HB2 := Aside0.mk (below_step HB1.out hb2); clear hb2))
        go_ret
        exact ⟨by rw [HLK.out, if_neg H16.out, if_pos ⟨by rw [HB.out, H58.out], HAL.out.symm⟩]; rfl, HB2.out⟩
    · have d3 : ((b : Int) == 58) = false := by rw [beq_eq_false_iff_ne]; omega
      have H58 := Aside0.mk h58
      clear h58
      go_enter Tryd.func89, Tryd.ntmps89
      go_wp2_with (go_at_call 118; (with_reducible refine HIA.out.mono ?_); rintro e w1 ⟨rfl, hb⟩; have hcell1 := cell_at1 hb hcell; have hg1 := Nat.lt_of_lt_of_le hg hb.size; have HB1 := Aside0.mk hb; clear hb)
      go_ret
      exact ⟨by rw [HLK.out, if_neg H16.out, if_neg (fun h => H58.out (by rw [HB.out] at h; exact Option.some.inj h.1))]; rfl, HB1.out⟩
theorem look_calls {v : Value} {base : Nat} (all : Bool) (cs : List (List Nat)) (hcs : ∀ c ∈ cs, Chr c) (hl : cs.flatten.length ≤ 1000000000) (w : World) (hT : Tb w) (hv : Byr w base v cs.flatten) : Calls Tryd.prog 89 #[v, .bool all] w fun e w' => e = .returned (.int .i64 (lookA cs.flatten all : Int)) ∧ Below w.heap.size w w' := by
  cases hs : stopAt cs.flatten with
  | none => exact look_none all cs hcs hl w hT hv hs
  | some i => exact look_some all cs hcs hl w hT hv i hs
end Go.Proofs.YtfplocpjdjjoaaaDoor.Cut
namespace Go.Proofs.YtfplocpjdjjoaaaDoor.Cut
open Go Go.RowKit Go.Proofs.YtfplocpjdjjoaaaDoor.Trail Go.Proofs.YtfplocpjdjjoaaaDoor.Ctxs Go.Proofs.YtfplocpjdjjoaaaDoorW.PrintWords
set_option linter.unusedVariables false
set_option linter.unusedSimpArgs false
theorem lookA_cases (p : List Nat) (all : Bool) : lookA p all = 0 ∨ lookA p all = 1 ∨ lookA p all = 2 := by
  unfold lookA
  repeat' split
  all_goals simp
theorem box1_cell {W : World} {G t : Nat} {x y : Value} (h : W.heap[G]? = some (.cells #[x, y] t (0, 0))) : W.cell? ⟨G, 1, none⟩ = some y := by simp [World.cell?, h]
/-- What settle answers. -/
def Stl (w0 W : World) (G : Nat) (hv : Value) (L : Nat) (e : Ending) (W' : World) : Prop :=
  ∃ v hv', e = .returned v ∧ W'.heap[G]? = some (.cells #[hv', .int .i64 (L : Int)] 130 (0, 0)) ∧ Kept W W' (fun q => q = G) ∧ Below w0.heap.size w0 W' ∧ (L = 0 → v = .slice none 0 0 ∧ hv' = hv) ∧ (L ≠ 0 → hv' = .slice none 0 0) ∧ (L = 2 → Rdb W' v blocked.flatten) ∧ (L = 1 → v = hv)
abbrev blockedV : Array Value := #[.int .u8 35, .int .u8 98, .int .u8 108, .int .u8 111, .int .u8 99, .int .u8 107, .int .u8 101, .int .u8 100]
theorem rdb_blocked {W : World} {fz : Nat × Nat} {g : Nat} (h : W.heap[g]? = some (.cells blockedV 5 fz)) : Rdb W (.slice (some ⟨g, 0, none⟩) 8 8) blocked.flatten := by
  refine ⟨_, 8, rfl, Nat.le_refl _, Kd.C_of_reads (enc := Value.int .u8) (d := (0 : Int)) (h1 := fun _ => rfl) ⟨rfl, by decide, fun _ => ⟨_, rfl, fun j hj => ?_⟩⟩⟩
  have hj8 : j = 0 ∨ j = 1 ∨ j = 2 ∨ j = 3 ∨ j = 4 ∨ j = 5 ∨ j = 6 ∨ j = 7 := by have : blocked.flatten.length = 8 := rfl; omega
  rcases hj8 with rfl | rfl | rfl | rfl | rfl | rfl | rfl | rfl <;> (rw [add_plain]; simp [World.cell?, h, ints, blocked, blockedV])
set_option maxHeartbeats 4000000 in
set_option maxRecDepth 1000000 in
theorem settle_calls (w0 W : World) (hT : Tb w0) (G : Nat) (hv : Value) (is0 : Int) (all : Bool) (F : List (List Nat)) (hF : ∀ c ∈ F, Chr c) (hlen : F.flatten.length ≤ 1000000000) (hG : W.heap[G]? = some (.cells #[hv, .int .i64 is0] 130 (0, 0))) (hb : w0.heap.size ≤ G) (hh : Byr W w0.heap.size hv F.flatten) (hB : Below w0.heap.size w0 W) :
    Calls Tryd.prog 62 #[.pointer (some ⟨G, 0, none⟩), .bool all] W (Stl w0 W G hv (lookA F.flatten all)) := by
  have hlk := look_calls all F hF hlen W (hT.below hB) hh
  have hca := lookA_cases F.flatten all
  obtain ⟨L, hL⟩ : ∃ L, L = lookA F.flatten all := ⟨_, rfl⟩
  rw [← hL] at hlk hca ⊢
  obtain ⟨A, N, c, rfl, hN⟩ := byr_open hh
  have y0 : W.cell? ⟨G, 0, none⟩ = some (.slice A N c) := by simp [World.cell?, hG]
  have hlt : G < W.heap.size := (Array.getElem?_eq_some_iff.1 hG).1
  have HLK := Aside0.mk hlk
  have HG := Aside0.mk hG
  have HB := Aside0.mk (And.intro hB hb)
  clear hlk hL hG hT hF hlen hh hN hB hb
  rcases hca with rfl | rfl | rfl
  · go_enter Tryd.func62, Tryd.ntmps62
    go_wp2_with (go_at_call 89; (with_reducible refine HLK.out.mono ?_); rintro e w1 ⟨rfl, hb1⟩; have hg1 := (hb1.block G hlt).trans HG.out; have z0 : w1.cell? ⟨G, 0, none⟩ = some (.slice A N c) := (by simp [World.cell?, hg1]); have z1 := (box1_cell hg1); have zf0 : w1.frozen? ⟨G, 0, none⟩ = false := Joins.unfrozen_of_block hg1 0; have zf1 : w1.frozen? ⟨G, 1, none⟩ = false := Joins.unfrozen_of_block hg1 1; have zl := (Array.getElem?_eq_some_iff.1 hg1).1; have HG1 := Aside0.mk hg1; have HB1 := Aside0.mk hb1; clear hg1 hb1)
    go_ret
    exact ⟨_, _, rfl, Joins.block_setCell (i := 1) HG1.out _, (Kept.of_below HB1.out (fun q => q = G)).setCell (p := ⟨G, 1, none⟩) (.inl rfl) _, (below_step HB.out.1 HB1.out).setCell (p := ⟨G, 1, none⟩) HB.out.2 _, fun _ => ⟨rfl, rfl⟩, fun h => absurd rfl h, fun h => absurd h (by decide), fun h => absurd h (by decide)⟩
  · go_enter Tryd.func62, Tryd.ntmps62
    go_wp2_with (go_at_call 89; (with_reducible refine HLK.out.mono ?_); rintro e w1 ⟨rfl, hb1⟩; have hg1 := (hb1.block G hlt).trans HG.out; have z0 : w1.cell? ⟨G, 0, none⟩ = some (.slice A N c) := (by simp [World.cell?, hg1]); have z1 := (box1_cell hg1); have zf0 : w1.frozen? ⟨G, 0, none⟩ = false := Joins.unfrozen_of_block hg1 0; have zf1 : w1.frozen? ⟨G, 1, none⟩ = false := Joins.unfrozen_of_block hg1 1; have zl := (Array.getElem?_eq_some_iff.1 hg1).1; have HG1 := Aside0.mk hg1; have HB1 := Aside0.mk hb1; clear hg1 hb1)
    go_ret
    exact ⟨_, _, rfl, Joins.block_setCell (i := 0) (Joins.block_setCell (i := 1) HG1.out _) _, ((Kept.of_below HB1.out (fun q => q = G)).setCell (p := ⟨G, 1, none⟩) (.inl rfl) _).setCell (p := ⟨G, 0, none⟩) (.inl rfl) _, ((below_step HB.out.1 HB1.out).setCell (p := ⟨G, 1, none⟩) HB.out.2 _).setCell (p := ⟨G, 0, none⟩) HB.out.2 _, fun h => absurd h (by decide), fun _ => rfl, fun h => absurd h (by decide), fun _ => rfl⟩
  · go_enter Tryd.func62, Tryd.ntmps62
    go_wp2_with (go_at_call 89; (with_reducible refine HLK.out.mono ?_); rintro e w1 ⟨rfl, hb1⟩; have hg1 := (hb1.block G hlt).trans HG.out; have z0 : w1.cell? ⟨G, 0, none⟩ = some (.slice A N c) := (by simp [World.cell?, hg1]); have z1 := (box1_cell hg1); have zf0 : w1.frozen? ⟨G, 0, none⟩ = false := Joins.unfrozen_of_block hg1 0; have zf1 : w1.frozen? ⟨G, 1, none⟩ = false := Joins.unfrozen_of_block hg1 1; have zl := (Array.getElem?_eq_some_iff.1 hg1).1; have kc := Joins.run_convert_bytes_const_at (P := Tryd.prog) (w1.setCell ⟨G, 1, none⟩ (.int .i64 2)) 22 5 blockedV 8 8 w1.heap.size (by rw [setCell_size]) Tryd.underlying22 Tryd.underlying5; have HG1 := Aside0.mk hg1; have HB1 := Aside0.mk hb1; clear hg1 hb1)
    go_ret
    have hn : ((w1.setCell ⟨G, 1, none⟩ (.int .i64 2)).setCell ⟨G, 0, none⟩ (.slice none 0 0)).heap.size = w1.heap.size := by rw [setCell_size, setCell_size]
    have hnew := alloc_at (w := (w1.setCell ⟨G, 1, none⟩ (.int .i64 2)).setCell ⟨G, 0, none⟩ (.slice none 0 0)) (o := .cells blockedV 5 (8, 9)) (g := w1.heap.size) hn.symm
    refine ⟨_, .slice none 0 0, rfl, ?_, (((Kept.of_below HB1.out (fun q => q = G)).setCell (p := ⟨G, 1, none⟩) (.inl rfl) _).setCell (p := ⟨G, 0, none⟩) (.inl rfl) _).alloc _, (((below_step HB.out.1 HB1.out).setCell (p := ⟨G, 1, none⟩) HB.out.2 _).setCell (p := ⟨G, 0, none⟩) HB.out.2 _).alloc (by rw [hn]; exact Nat.le_trans HB.out.1.size HB1.out.size) _, fun h => absurd h (by decide), fun _ => rfl, fun _ => rdb_blocked hnew, fun h => absurd h (by decide)⟩
    rw [alloc_old (by rw [hn]; exact (Array.getElem?_eq_some_iff.1 HG1.out).1)]
    exact Joins.block_setCell (i := 0) (Joins.block_setCell (i := 1) HG1.out _) _
end Go.Proofs.YtfplocpjdjjoaaaDoor.Cut
namespace Go.Proofs.YtfplocpjdjjoaaaDoor.Cut
open Go Go.RowKit Go.Proofs.YtfplocpjdjjoaaaDoor.Trail Go.Proofs.YtfplocpjdjjoaaaDoor.Ctxs Go.Proofs.YtfplocpjdjjoaaaDoorW.PrintWords
set_option linter.unusedVariables false
set_option linter.unusedSimpArgs false
theorem look_cases (p : List Nat) : look p = 0 ∨ look p = 1 ∨ look p = 2 := by
  rw [← lookA_false]
  exact lookA_cases p false
theorem box0_cell {W : World} {G t : Nat} {x y : Value} (h : W.heap[G]? = some (.cells #[x, y] t (0, 0))) : W.cell? ⟨G, 0, none⟩ = some x := by simp [World.cell?, h]
theorem kept_byr {W V : World} {base G : Nat} {v x y : Value} {l : List Nat} (h : Byr W base v l) (hG : W.heap[G]? = some (.cells #[x, y] 130 (0, 0))) (hK : Kept W V (fun q => q = G)) : Byr V base v l :=
  h.same fun q e => hK.2 q (h.lt q e) fun e2 => by
    subst e2
    exact h.ne hG (by decide) e.symm
theorem gate_grown {W V : World} {base G : Nat} {hv y : Value} {l : List Nat} (hG : W.heap[G]? = some (.cells #[hv, y] 130 (0, 0))) (h : Byr W base hv l) (hg : W.grownBy V hv.ownBlock) : V.heap[G]? = some (.cells #[hv, y] 130 (0, 0)) :=
  (hg.block G (Array.getElem?_eq_some_iff.1 hG).1 (h.ne hG (by decide))).trans hG
theorem chr_app {F cs : List (List Nat)} (hF : ∀ c ∈ F, Chr c) (hcs : ∀ c ∈ cs, Chr c) : ∀ c ∈ F ++ cs, Chr c := fun c hc => (List.mem_append.1 hc).elim (hF c) (hcs c)
theorem set_byr {V : World} {base G : Nat} {v x y : Value} {l : List Nat} (h : Byr V base v l) (hG : V.heap[G]? = some (.cells #[x, y] 130 (0, 0))) {u : Value} {i : Nat} : Byr (V.setCell ⟨G, i, none⟩ u) base v l :=
  h.same fun q e => Below.heap_setCell _ _ _ _ fun e2 => by
    subst e2
    exact h.ne hG (by decide) e.symm
set_option maxHeartbeats 4000000 in
set_option maxRecDepth 1000000 in
theorem let_gate {v : Value} (w0 W : World) (hT : Tb w0) (G : Nat) (hb : Option Nat) (F cs : List (List Nat)) (hG : Gt W w0.heap.size (.pointer (some ⟨G, 0, none⟩)) (some G) hb 4 F) (hv : Rdb W v cs.flatten) (hF : ∀ c ∈ F, Chr c) (hcs : ∀ c ∈ cs, Chr c) (hlen : cs.flatten.length ≤ 50000000) (hB : Below w0.heap.size w0 W) :
    Calls Tryd.prog 60 #[.pointer (some ⟨G, 0, none⟩), v] W (Lets w0 W (.pointer (some ⟨G, 0, none⟩)) (some G) hb 4 F cs) := by
  have HGT := Aside0.mk hG
  rcases hG with ⟨h4, -⟩ | ⟨-, G', hv0, h1, h2, h3, h5, h6, h7, h8⟩
  · exact absurd rfl h4
  injection h2 with h2
  subst h2
  have hca := look_cases F.flatten
  obtain ⟨L, hL⟩ : ∃ L, L = look F.flatten := ⟨_, rfl⟩
  rw [← hL] at hca h5 h6 h8
  obtain ⟨A, N, c, rfl, hN⟩ := rdb_open hv
  have y1 := box1_cell h5
  have y0 := box0_cell h5
  have hlt : G < W.heap.size := (Array.getElem?_eq_some_iff.1 h5).1
  have HV := Aside0.mk hv
  have HH := Aside0.mk (And.intro h3 (And.intro h5 (And.intro h7 h8)))
  have H6 := Aside0.mk h6
  have HB := Aside0.mk hB
  have HT := Aside0.mk hT
  have HL := Aside0.mk hL
  have HC := Aside0.mk (And.intro hF (And.intro hcs hlen))
  have HN := Aside0.mk hN
  clear h1 h3 h5 h7 h8 hv hB hT hL hF hcs hlen hN
  rcases hca with rfl | rfl | rfl
  · obtain ⟨Ah, Nh, ch, rfl, hNh⟩ := byr_open h6
    rw [if_pos rfl] at hNh
    have HNH := Aside0.mk hNh
    have yf0 : W.frozen? ⟨G, 0, none⟩ = false := Joins.unfrozen_of_block HH.out.2.1 0
    clear h6 hNh
    go_enter Tryd.func60, Tryd.ntmps60
    go_wp2_with (first
      | ((with_reducible refine gate_builtin (b := .append) (xs := #[.tmp 27, .tmp 28]) rfl ?_); at_builtin; refine Kd.R_append_rows (Kd.int .u8) (w0 := w0) (W := W) w0.heap.size rfl (.tmp 27) (.tmp 28) 22 5 (.int .u8 0) 1 rfl Tryd.underlying22 info5 rfl (by decide) (by decide) (.slice Ah Nh ch) (ints F.flatten) (ints cs.flatten) A N c (fun _ => True) (fun _ => False) rfl rfl ?aN ?aR (fun _ _ h => h) (fun _ h => h.elim) (fun _ _ => trivial) ?aB ?aS ?aL ?_; (case aN => have h := H6.out; rw [if_pos rfl] at h; exact h); (case aR => exact HV.out.at_.2.2); (case aB => exact HB.out); (case aS => exact HB.out.size); (case aL => have := look_held HL.out.symm; have := HC.out.2.2; have := HN.out; rw [List.length_map]; omega); intro v5 w5 hn5 hb5 hg5 hat5; have hn5' : Byr w5 w0.heap.size v5 (F ++ cs).flatten := (by unfold Byr; rw [List.flatten_append, ints, List.map_append]; exact hn5); have hg5' := (gate_grown HH.out.2.1 H6.out hg5); obtain ⟨A5, N5, c5, rfl, hN5⟩ := byr_open hn5'; have HN5 := Aside0.mk hn5'; have HB5 := Aside0.mk hb5; have HG5 := Aside0.mk hg5; have HA5 := Aside0.mk hat5; have HGG := Aside0.mk hg5'; have zf0 : w5.frozen? ⟨G, 0, none⟩ = false := Joins.unfrozen_of_block hg5' 0; have z0 := box0_cell hg5'; have zl := (Array.getElem?_eq_some_iff.1 hg5').1; clear hn5 hb5 hg5 hat5 hn5' hN5 hg5')
      | (go_at_call 62; (with_reducible refine (settle_calls w0 _ HT.out G (.slice A5 N5 c5) 0 false (F ++ cs) (chr_app HC.out.1 HC.out.2.1) ?hl (Joins.block_setCell (i := 0) HGG.out _) HH.out.1 (set_byr HN5.out HGG.out) (HB5.out.setCell (p := ⟨G, 0, none⟩) HH.out.1 _)).mono ?_); (case hl => have := look_held HL.out.symm; have := HC.out.2.2; rw [List.flatten_append, List.length_append]; omega); rintro e w6 hs; rw [lookA_false] at hs; have HS := Aside0.mk hs; obtain ⟨u, hv', rfl, hrest⟩ := hs; clear hrest))
    go_ret
    obtain ⟨u2, hv2, he, q1, q2, q3, q4, q5, q6, q7⟩ := HS.out
    injection he with he
    subst he
    have hK : Kept W w6 (fun q => some q = some G ∨ some q = hb) := ((Kept.of_grown HG5.out (Kept.refl W (fun q => some q = some G ∨ some q = hb)) (fun k hk => .inl (.inr (hk.symm.trans HH.out.2.2.1.symm)))).setCell (p := ⟨G, 0, none⟩) (.inl (.inl rfl)) _).then_ q2 (fun q hq => .inl (.inl (congrArg some hq)))
    have hn6 := kept_byr (set_byr (i := 0) (u := .slice A5 N5 c5) HN5.out HGG.out) (Joins.block_setCell (i := 0) HGG.out _) q2
    have hnew : newK 4 F cs = outG (F ++ cs) := by unfold newK newG; rw [if_pos rfl, if_pos HL.out.symm]
    have hnx : Nxt W hb (Value.slice A5 N5 c5).ownBlock := by
      rcases HA5.out with h | ⟨b, h, h'⟩
      · exact .inl (h.trans HH.out.2.2.1.symm)
      · exact .inr (.inr ⟨b, h, h'⟩)
    rcases look_cases (F ++ cs).flatten with h0 | h1 | h2
    · obtain ⟨rfl, rfl⟩ := q4 h0
      refine ⟨_, _, rfl, ?_, .inr ⟨rfl, G, _, rfl, rfl, HH.out.1, q1, by rw [if_pos h0]; exact hn6, rfl, fun h => absurd h0 h⟩, hK, hnx, q3, fun _ _ => rfl⟩
      rw [hnew]
      unfold outG
      rw [if_pos h0]
      exact Rdb.nil _
    · obtain rfl := q5 (by rw [h1]; decide)
      obtain rfl := q7 h1
      have hne : look (F ++ cs).flatten ≠ 0 := by rw [h1]; decide
      refine ⟨_, none, rfl, ?_, .inr ⟨rfl, G, _, rfl, rfl, HH.out.1, q1, by rw [if_neg hne]; exact Byr.nil _ _, rfl, fun _ => rfl⟩, hK, .inr (.inl rfl), q3, fun _ h => absurd h hne⟩
      rw [hnew]
      unfold outG
      rw [if_neg hne, if_neg (by rw [h1]; decide)]
      exact hn6.rdb
    · obtain rfl := q5 (by rw [h2]; decide)
      have hne : look (F ++ cs).flatten ≠ 0 := by rw [h2]; decide
      refine ⟨_, none, rfl, ?_, .inr ⟨rfl, G, _, rfl, rfl, HH.out.1, q1, by rw [if_neg hne]; exact Byr.nil _ _, rfl, fun _ => rfl⟩, hK, .inr (.inl rfl), q3, fun _ h => absurd h hne⟩
      rw [hnew]
      unfold outG
      rw [if_neg hne, if_pos h2]
      exact q6 h2
  · have hne : look F.flatten ≠ 0 := by rw [← HL.out]; decide
    have hnew : newK 4 F cs = cs := by unfold newK newG; rw [if_pos rfl, if_neg hne, if_neg (by rw [← HL.out]; decide)]
    have hla : look (F ++ cs).flatten = 1 := by rw [List.flatten_append, look_app _ _ hne]; exact HL.out.symm
    have HQ := Aside0.mk (And.intro hnew hla)
    clear hne hnew hla h6
    go_enter Tryd.func60, Tryd.ntmps60
    go_wp2_with ((with_reducible refine gate_builtin (b := .append) (xs := #[.const (.slice none 0 0), .tmp 21]) rfl ?_); at_builtin; refine Kd.R_append_rows (Kd.int .u8) (w0 := W) (W := W) W.heap.size rfl (.const (.slice none 0 0)) (.tmp 21) 22 5 (.int .u8 0) 1 rfl Tryd.underlying22 info5 rfl (by decide) (by decide) (.slice none 0 0) [] (ints cs.flatten) A N c (fun _ => True) (fun _ => False) rfl rfl ?aN ?aR (fun _ _ h => h) (fun _ h => h.elim) (fun _ _ => trivial) ?aB ?aS ?aL ?_; (case aN => exact Byr.nil _ _); (case aR => exact HV.out.at_.2.2); (case aB => exact Below.refl _ _); (case aS => exact Nat.le_refl _); (case aL => have := HC.out.2.2; have := HN.out; simp only [List.length_nil]; omega); intro v5 w5 hn5 hb5 hg5 hat5; have hn5' : Byr w5 W.heap.size v5 cs.flatten := hn5; obtain ⟨A5, N5, c5, rfl, hN5⟩ := byr_open hn5'; have HN5 := Aside0.mk hn5'; have HB5 := Aside0.mk hb5; clear hn5 hb5 hg5 hat5 hn5' hN5)
    go_ret
    refine ⟨_, hb, rfl, by rw [HQ.out.1]; exact HN5.out.rdb, .inr ⟨rfl, G, hv0, rfl, rfl, HH.out.1, by rw [HQ.out.2]; exact (HB5.out.block G hlt).trans HH.out.2.1, by rw [HQ.out.2]; exact (show Byr W w0.heap.size hv0 [] from H6.out).below HB5.out, HH.out.2.2.1, fun _ => HH.out.2.2.2 (by decide)⟩, Kept.of_below HB5.out _, .inl rfl, below_step HB.out HB5.out, fun _ h => by rw [HQ.out.2] at h; exact absurd h (by decide)⟩
  · have hne : look F.flatten ≠ 0 := by rw [← HL.out]; decide
    have hnew : newK 4 F cs = [] := by unfold newK newG; rw [if_pos rfl, if_neg hne, if_pos HL.out.symm]
    have hla : look (F ++ cs).flatten = 2 := by rw [List.flatten_append, look_app _ _ hne]; exact HL.out.symm
    have HQ := Aside0.mk (And.intro hnew hla)
    clear hne hnew hla h6
    go_enter Tryd.func60, Tryd.ntmps60
    go_wp2
    go_ret
    refine ⟨_, hb, rfl, by rw [HQ.out.1]; exact Rdb.nil _, .inr ⟨rfl, G, hv0, rfl, rfl, HH.out.1, by rw [HQ.out.2]; exact HH.out.2.1, by rw [HQ.out.2]; exact (show Byr W w0.heap.size hv0 [] from H6.out), HH.out.2.2.1, fun _ => HH.out.2.2.2 (by decide)⟩, Kept.refl _ _, .inl rfl, HB.out, fun _ h => by rw [HQ.out.2] at h; exact absurd h (by decide)⟩
theorem gate_zero {W : World} {base G : Nat} (h3 : base ≤ G) (h : W.heap[G]? = some (.cells #[.slice none 0 0, .int .i64 0] 130 (0, 0))) : Gt W base (.pointer (some ⟨G, 0, none⟩)) (some G) none 4 [] :=
  .inr ⟨rfl, G, .slice none 0 0, rfl, rfl, h3, h, Byr.nil _ _, rfl, fun _ => rfl⟩
set_option maxHeartbeats 4000000 in
set_option maxRecDepth 1000000 in
theorem fin_gate (w0 W : World) (hT : Tb w0) (G : Nat) (hb : Option Nat) (F : List (List Nat)) (hG : Gt W w0.heap.size (.pointer (some ⟨G, 0, none⟩)) (some G) hb 4 F) (hF : ∀ c ∈ F, Chr c) (hB : Below w0.heap.size w0 W) :
    Calls Tryd.prog 41 #[.pointer (some ⟨G, 0, none⟩)] W fun e W' => ∃ v, e = .returned v ∧ Rdb W' v (lastG F).flatten ∧ Gt W' w0.heap.size (.pointer (some ⟨G, 0, none⟩)) (some G) none 4 [] ∧ Kept W W' (fun q => q = G) ∧ Below w0.heap.size w0 W' ∧ (look F.flatten ≠ 0 → v = .slice none 0 0) := by
  rcases hG with ⟨h4, -⟩ | ⟨-, G', hv0, h1, h2, h3, h5, h6, h7, h8⟩
  · exact absurd rfl h4
  injection h2 with h2
  subst h2
  have hca := look_cases F.flatten
  obtain ⟨L, hL⟩ : ∃ L, L = look F.flatten := ⟨_, rfl⟩
  rw [← hL] at hca h5 h6 h8
  have y1 := box1_cell h5
  have y0 := box0_cell h5
  have yf0 : W.frozen? ⟨G, 0, none⟩ = false := Joins.unfrozen_of_block h5 0
  have yf1 : W.frozen? ⟨G, 1, none⟩ = false := Joins.unfrozen_of_block h5 1
  have hlt : G < W.heap.size := (Array.getElem?_eq_some_iff.1 h5).1
  have HH := Aside0.mk (And.intro h3 h5)
  have H6 := Aside0.mk h6
  have HB := Aside0.mk hB
  have HT := Aside0.mk hT
  have HL := Aside0.mk hL
  have HF := Aside0.mk hF
  obtain ⟨Ah, Nh, ch, rfl, hNh⟩ := byr_open h6
  clear h1 h3 h5 h7 h8 hB hT hL hF h6 hNh
  rcases hca with rfl | rfl | rfl
  · have hl1 : lookA F.flatten true = 1 := by rw [lookA_true, if_pos HL.out.symm]
    have HQ := Aside0.mk hl1
    clear hl1
    go_enter Tryd.func41, Tryd.ntmps41
    go_wp2_with (go_at_call 62; (with_reducible refine (settle_calls w0 _ HT.out G (.slice Ah Nh ch) 0 true F HF.out ?hl HH.out.2 HH.out.1 ?hh HB.out).mono ?_); (case hl => have := look_held HL.out.symm; omega); (case hh => have h := H6.out; rw [if_pos rfl] at h; exact h); rintro e w6 hs; rw [HQ.out] at hs; obtain ⟨u, hv', rfl, q1, q2, q3, -, q5, -, q7⟩ := hs; obtain rfl := q5 (by decide); obtain rfl := q7 rfl; have z0 := box0_cell q1; have z1 := box1_cell q1; have zf0 : w6.frozen? ⟨G, 0, none⟩ = false := Joins.unfrozen_of_block q1 0; have zf1 : w6.frozen? ⟨G, 1, none⟩ = false := Joins.unfrozen_of_block q1 1; have zl := (Array.getElem?_eq_some_iff.1 q1).1; have HS := Aside0.mk (And.intro q1 (And.intro q2 q3)); clear q1 q2 q3 q5 q7)
    go_ret
    have h60 : Byr W w0.heap.size (.slice Ah Nh ch) F.flatten := by have h := H6.out; simpa only [if_true] using h
    have h66 := kept_byr h60 HH.out.2 HS.out.2.1
    have h67 := set_byr (set_byr (i := 0) (u := .slice none 0 0) h66 HS.out.1) (i := 1) (u := .int .i64 0) (Joins.block_setCell (i := 0) HS.out.1 _)
    refine ⟨_, rfl, ?_, gate_zero HH.out.1 (Joins.block_setCell (i := 1) (Joins.block_setCell (i := 0) HS.out.1 _) _), (HS.out.2.1.setCell (p := ⟨G, 0, none⟩) (.inl rfl) _).setCell (p := ⟨G, 1, none⟩) (.inl rfl) _, (HS.out.2.2.setCell (p := ⟨G, 0, none⟩) HH.out.1 _).setCell (p := ⟨G, 1, none⟩) HH.out.1 _, fun h => absurd HL.out.symm h⟩
    unfold lastG
    rw [if_pos HL.out.symm]
    exact h67.rdb
  · go_enter Tryd.func41, Tryd.ntmps41
    go_wp2
    go_ret
    have hne : look F.flatten ≠ 0 := by rw [← HL.out]; decide
    refine ⟨_, rfl, ?_, gate_zero HH.out.1 (Joins.block_setCell (i := 1) (Joins.block_setCell (i := 0) HH.out.2 _) _), ((Kept.refl W (fun q => q = G)).setCell (p := ⟨G, 0, none⟩) (.inl rfl) _).setCell (p := ⟨G, 1, none⟩) (.inl rfl) _, (HB.out.setCell (p := ⟨G, 0, none⟩) HH.out.1 _).setCell (p := ⟨G, 1, none⟩) HH.out.1 _, fun _ => rfl⟩
    unfold lastG
    rw [if_neg hne]
    exact Rdb.nil _
  · go_enter Tryd.func41, Tryd.ntmps41
    go_wp2
    go_ret
    have hne : look F.flatten ≠ 0 := by rw [← HL.out]; decide
    refine ⟨_, rfl, ?_, gate_zero HH.out.1 (Joins.block_setCell (i := 1) (Joins.block_setCell (i := 0) HH.out.2 _) _), ((Kept.refl W (fun q => q = G)).setCell (p := ⟨G, 0, none⟩) (.inl rfl) _).setCell (p := ⟨G, 1, none⟩) (.inl rfl) _, (HB.out.setCell (p := ⟨G, 0, none⟩) HH.out.1 _).setCell (p := ⟨G, 1, none⟩) HH.out.1 _, fun _ => rfl⟩
    unfold lastG
    rw [if_neg hne]
    exact Rdb.nil _
end Go.Proofs.YtfplocpjdjjoaaaDoor.Cut
