/-
  The walk of the law DataGrows: it returns true and leaves what was there as it was. Condition: what the functions that it calls compute is as 'Grows' says.
-/
import Derived.Test.YtclanebbalgpfaaPDataGrowsx3
import Derived.Deep.RegionHeldLaw
import Derived.Lib.SmallJoins
namespace Go.Proofs.Ytclanebbalgpfaa.PDataGrows
open Go.RowKit Go.Proofs.YtclanebbalgpfaaW.PrintWords Go.Proofs.YtclanebbalgpfaaW.PrintLast Go.Proofs.YtclanebbalgpfaaW.PrintMore
attribute [local go_sem] max2_int min2_int max_two min_two max_three min_three max_four min_four
set_option linter.unusedVariables false
set_option linter.unusedSimpArgs false

theorem alloc_size (w : World) (o : Obj) : (w.alloc o).heap.size = w.heap.size + 1 := by show (w.heap.push o).size = _; simp
theorem alloc_last (w : World) (o : Obj) : (w.alloc o).heap[w.heap.size]? = some o := by show (w.heap.push o)[w.heap.size]? = _; simp
theorem at_new {o : Option Nat} {N : Nat} (h : o = none ∨ ∃ b, o = some b ∧ N ≤ b) : ∀ k, o = some k → N ≤ k := by
  intro k hk
  subst hk
  rcases h with h | ⟨b, h, hle⟩
  · cases h
  · injection h with h
    omega
theorem check_at (k : Nat) {A : Option Addr} {c n : Nat} {l : List S49} {r : Int} {w : World} (hn : l.length = n) (hr : Kd.C k49 w A l.length l) (hc : l.length ≤ c) (h : data_Check.f k l = some r) :
    Calls Try.prog 18 #[.slice A n c] w fun e w' => e = .returned (.int .i64 r) ∧ Below w.heap.size w w' := hn ▸ data_Check.calls k A c l r w hr hc h
theorem value_at (k : Nat) {A : Option Addr} {c n : Nat} {l : List S49} {i : Int} {r : List Int} {w : World} (hn : l.length = n) (hr : Kd.C k49 w A l.length l) (hc : l.length ≤ c) (h : data_Value.f k l i = some r) :
    Calls Try.prog 13 #[.slice A n c, .int .i64 i] w fun e w' => ∃ v0_ : Value, e = .returned v0_ ∧ Kd.R (Kd.int .u8) 5 w' w.heap.size (fun _ => True) v0_ r ∧ Below w.heap.size w w' := hn ▸ data_Value.calls k A c l i r w hr hc h
theorem true_at (k : Nat) {A : Option Addr} {c n : Nat} {l : List S49} {i : Int} {r : Bool} {w : World} (hn : l.length = n) (hr : Kd.C k49 w A l.length l) (hc : l.length ≤ c) (h : data_True.f k l i = some r) :
    Calls Try.prog 14 #[.slice A n c, .int .i64 i] w fun e w' => e = .returned (.bool r) ∧ Below w.heap.size w w' := by
  subst hn
  refine (data_True.calls k A c l i r w hr hc h).mono ?_
  rintro e w' ⟨rfl, hd⟩
  exact ⟨rfl, hd.below⟩
theorem find_at (k : Nat) {A : Option Addr} {c n : Nat} {l : List S49} {i : Int} {root : Bool} {A2 : Option Addr} {c2 : Nat} {names : List ByteArray} {r1 : Int} {r2 : Bool} {w : World} (hn : l.length = n) (hr : Kd.C k49 w A l.length l) (hc : l.length ≤ c) (hr2 : Kd.C Kd.string w A2 names.length names) (hc2 : names.length ≤ c2) (h : data_Find.f k l i root names = some (r1, r2)) :
    Calls Try.prog 20 #[.slice A n c, .int .i64 i, .agg #[.bool root, .slice A2 names.length c2]] w fun e w' => e = .returned (.tuple #[.int .i64 r1, .bool r2]) ∧ Below w.heap.size w w' := hn ▸ data_Find.calls k A c l i root A2 c2 names r1 r2 w hr hc hr2 hc2 h
theorem bytes_string (W : World) (A : Option Addr) (p : List Int) (cp : Nat) (hp : Kd.C (Kd.int .u8) W A p.length p) :
    (convert 24 9 (.slice A p.length cp)).run Try.prog W = .ok (.string (strOfNums p)) W :=
  Kd.C_string (P := Try.prog) (c := cp) Try.underlying24 Try.underlying5 Try.underlying9 hp
theorem row_conv {W : World} {base : Nat} {M : Nat → Prop} {v : Value} {l : List Int} (h : Kd.R (Kd.int .u8) 5 W base M v l) : (convert 24 9 v).run Try.prog W = .ok (.string (strOfNums l)) W :=
  own_string (P := Try.prog) Try.underlying24 Try.underlying5 Try.underlying9 (Kd.own_of_R h)
theorem heap49 : Kd.Heap k49 := Kd.heap_iso _ (Kd.heap_pair (Kd.heap_int _) (Kd.heap_pair Kd.heap_string (Kd.heap_pair (Kd.heap_slice _ (Kd.heap_slice _ (Kd.heap_int _))) (Kd.heap_slice _ (Kd.heap_int _)))))
/-- The datum of bytes that nobody owns. -/
def more (p : List Int) : S49 := ⟨1, ⟨#[109, 111, 114, 101]⟩, [p], []⟩
theorem more_foot (w w4 : World) (A3 : Option Addr) (c3 : Nat) (p : List Int) (hp : Kd.C (Kd.int .u8) w A3 p.length p) (hc : p.length ≤ c3) (hb : Below w.heap.size w w4) :
    Kd.FK k49 (w4.alloc (.cells #[.slice A3 p.length c3] 24)) (fun k => k < w.heap.size ∨ k = w4.heap.size) (more p) [.int .u8 1, .string ⟨#[109, 111, 114, 101]⟩, .slice (some ⟨w4.heap.size, 0, none⟩) 1 1, .slice none 0 0] := by
  refine k49_mkF _ _ (more p) (Nat.le_refl 1) (fun W' hW => ?_) (Nat.le_refl 0) (Kd.F_nil _ _ _)
  have hlast : W'.heap[w4.heap.size]? = some (.cells #[.slice A3 p.length c3] 24 (0, 0)) := (hW _ (.inr rfl) (by rw [alloc_size]; omega)).trans (alloc_last _ _)
  have hpw : Kd.C (Kd.int .u8) W' A3 p.length p := (Kd.heap_int .u8).C (fun k hk => by
    have h1 := hb.size
    exact (hW k (.inl hk) (by rw [alloc_size]; omega)).trans ((Below.heap_alloc w4 _ k (by omega)).trans (hb.block k hk))) hp
  refine ⟨rfl, by show (1 : Nat) ≤ 9223372036854775807; omega, fun _ => ⟨_, rfl, fun j x hj => ?_⟩⟩
  obtain ⟨rfl, rfl⟩ : j = 0 ∧ x = p := by
    cases j with
    | zero => exact ⟨rfl, (Option.some.inj hj).symm⟩
    | succ j => cases hj
  refine ⟨[.slice A3 x.length c3], rfl, ⟨A3, c3, rfl, hc, hpw⟩, fun n u hu => ?_⟩
  obtain ⟨rfl, rfl⟩ : n = 0 ∧ u = .slice A3 x.length c3 := by
    cases n with
    | zero => exact ⟨rfl, (Option.some.inj hu).symm⟩
    | succ n => cases hu
  have e4 : (⟨w4.heap.size, 0, none⟩ : Addr).add (0 * (Kd.slice 5 (Kd.int .u8)).sz + 0) = ⟨w4.heap.size, 0, none⟩ := rfl
  rw [e4]
  exact cell_of_row W' w4.heap.size 0 _ _ _ hlast
/-- What the functions that the law calls compute. -/
def Grows (d : List S49) (i : Int) (root : Bool) (names : List ByteArray) (p : List Int) : Prop :=
  (∃ k, bobbinlaw17_awake.f k = some true) ∧ d.length ≤ 1048576 ∧ p.length ≤ 1048576 ∧ ∃ ck : Int, (∃ k, data_Check.f k d = some ck) ∧ (ck = 0 → d.length < 4096 → 
    (∃ k, data_Check.f k (d ++ [more p]) = some 0) ∧ (∃ k, data_Value.f k (d ++ [more p]) d.length = some p) ∧ (∃ k, data_True.f k (d ++ [more p]) d.length = some (decide (0 < p.length))) ∧
    (0 ≤ i → i < d.length → ∃ (fr : Int) (fb tb : Bool) (vv : List Int), (∃ k, data_Find.f k d i root names = some (fr, fb)) ∧ (∃ k, data_Find.f k (d ++ [more p]) i root names = some (fr, fb)) ∧
      (∃ k, data_True.f k d i = some tb) ∧ (∃ k, data_True.f k (d ++ [more p]) i = some tb) ∧ (∃ k, data_Value.f k d i = some vv) ∧ (∃ k, data_Value.f k (d ++ [more p]) i = some vv)))

set_option maxHeartbeats 8000000 in
set_option maxRecDepth 100000 in
theorem grows.calls (A0 : Option Addr) (c0 : Nat) (d : List S49) (i : Int) (root : Bool) (A2 : Option Addr) (c2 : Nat) (names : List ByteArray) (A3 : Option Addr) (c3 : Nat) (p : List Int) (r : Bool) (w : World)
    (hr0 : Kd.C k49 w A0 d.length d) (hc0 : d.length ≤ c0) (hr2 : Kd.C Kd.string w A2 names.length names) (hc2 : names.length ≤ c2) (hr3 : Kd.C (Kd.int .u8) w A3 p.length p) (hc3 : p.length ≤ c3) (h : Grows d i root names p) :
    Calls Try.prog 10 #[.slice A0 d.length c0, .int .i64 i, .agg #[.bool root, .slice A2 names.length c2], .slice A3 p.length c3] w fun e w' => e = .returned (.bool true) ∧ Below w.heap.size w w' := by
  have hu39 := Try.underlying39
  have HR0 := Aside0.mk hr0
  have HC0 := Aside0.mk hc0
  have HR2 := Aside0.mk hr2
  have HC2 := Aside0.mk hc2
  have HR3 := Aside0.mk hr3
  have HC3 := Aside0.mk hc3
  obtain ⟨⟨k0, ha⟩, hdl, hpl, ck, ⟨k1, hck⟩, hrest⟩ := h
  have HA := Aside0.mk ha
  have HCK := Aside0.mk hck
  have HDL := Aside0.mk hdl
  have HPL := Aside0.mk hpl
  clear hr0 hc0 hr2 hc2 hr3 hc3 ha hck hdl hpl
  by_cases hz : ck = 0 ∧ d.length < 4096
  · obtain ⟨rfl, hlt⟩ := hz
    obtain ⟨⟨k2, h2⟩, ⟨k3, h3⟩, ⟨k4, h4⟩, hin⟩ := hrest rfl hlt
    have H2 := Aside0.mk h2
    have H3 := Aside0.mk h3
    have H4 := Aside0.mk h4
    have HIN := Aside0.mk hin
    have c1 : decide (4096 ≤ d.length) = false := decide_eq_false (by omega)
    have c2' : decide ((4096 : Int) ≤ (d.length : Int)) = false := decide_eq_false (by omega)
    clear hrest hlt h2 h3 h4 hin
    go_enter Try.func10, Try.ntmps10
    go_upto_region 6 with (first
      | (go_at_call 11; refine (bobbinlaw17_awake.calls k0 true _ HA.out).mono ?_; rintro e w2 ⟨rfl, hb2⟩; have HB2 := Aside0.mk (below_step (below_alloc (Below.refl w.heap.size w) _) hb2); have HBX := Aside0.mk hb2; clear hb2)
      | (go_at_call 18; refine (data_Check.calls k1 A0 c0 d 0 w2 (Kd.C_below HR0.out HB2.out) HC0.out HCK.out).mono ?_; rintro e w3 ⟨rfl, hb3⟩; have HB3 := Aside0.mk (below_step HB2.out hb3); have HBY := Aside0.mk (below_step HBX.out hb3); clear hb3))
    have HBOX3 := Aside0.mk (show w3.heap[w.heap.size]? = some (.cells #[.bool root, .slice A2 names.length c2] 39 (0, 0)) from (HBY.out.block w.heap.size (by rw [alloc_size]; exact Nat.lt_succ_self _)).trans (alloc_last w _))
    clear HBX HBY HB2
    go_upto_region 8 with (first
      | ((with_reducible refine gate_builtin (b := .append) (xs := #[.tmp 24, .tmp 25]) rfl ?_); at_builtin; refine Kd.N_append_rows k49 (w0 := w) w.heap.size rfl (.tmp 24) (.tmp 25) 22 49 (.agg #[.int .u8 0, .string ⟨#[]⟩, .slice none 0 0, .slice none 0 0]) 72 rfl Try.underlying22 info49 rfl (by decide) (by decide) (.slice none 0 0) [] d A0 d.length c0 (fun _ => True) (fun k => k < w.heap.size) rfl rfl ?aN ?aF ?aK (fun _ _ => trivial) ?aB ?aS ?aL ?_; (case aN => exact Kd.N_nil _ _ _ _ _); (case aF => exact Kd.F_below (Kd.C_F heap49 HR0.out) HB3.out); (case aK => intro k _; exact ⟨trivial, by simp [Value.ownBlock]⟩); (case aB => exact HB3.out); (case aS => exact HB3.out.size); (case aL => have := HDL.out; simp only [List.length_nil]; omega); intro v4 w4 hn hb hg hat; obtain ⟨A4, c4, rfl⟩ := Kd.N_slice hn; rw [List.nil_append] at hn hat ⊢; have HN4 := Aside0.mk hn; have HB4 := Aside0.mk hb; have HBOX4 := Aside0.mk ((hg.block w.heap.size (blk_lt HBOX3.out) (by simp [Value.ownBlock])).trans HBOX3.out); have HAT4 := Aside0.mk (at_new (show (Value.slice A4 d.length c4).ownBlock = none ∨ _ from hat)); clear hn hb hg hat)
      | ((with_reducible refine gate_builtin (b := .append) (xs := #[.tmp 27, .tmp 31]) rfl ?_); at_builtin; refine Kd.N_append k49 (w0 := w) (W := w4.alloc (.cells #[.slice A3 p.length c3] 24)) w.heap.size rfl (.tmp 27) (.tmp 31) 22 49 (.agg #[.int .u8 0, .string ⟨#[]⟩, .slice none 0 0, .slice none 0 0]) 72 rfl Try.underlying22 info49 rfl (by decide) (by decide) (.slice A4 d.length c4) d (more p) [.int .u8 1, .string ⟨#[109, 111, 114, 101]⟩, .slice (some ⟨w4.heap.size, 0, none⟩) 1 1, .slice none 0 0] (fun _ => True) (fun k => k < w.heap.size ∨ k = w4.heap.size) rfl ?aX ?aP ?aK (fun _ _ => trivial) ?aN ?aB ?aS ?aL ?_; (case aX => show Value.slice (some ⟨w4.heap.size + 1, 0, none⟩) 1 1 = _; rw [alloc_size]); (case aP => exact more_foot w w4 A3 c3 p HR3.out HC3.out HB4.out); (case aK => intro k hk; exact ⟨trivial, fun e => by have q1 := HAT4.out k e.symm; have q2 := Kd.N_lt HN4.out k e.symm; have q3 := HB3.out.size; omega⟩); (case aN => exact Kd.N_alloc HN4.out _); (case aB => exact below_alloc HB4.out _); (case aS => exact (below_alloc HB4.out _).size); (case aL => have := HDL.out; omega); intro v5 w5 hn hb hg hat; obtain ⟨A5, c5, rfl⟩ := Kd.N_slice hn; have hrd := Kd.N_reads' hn; have HR5 := Aside0.mk hrd.2.2; have HC5 := Aside0.mk hrd.2.1; have HB5 := Aside0.mk hb; have HBOX5 := Aside0.mk ((hg.block w.heap.size (by rw [alloc_size]; have := blk_lt HBOX4.out; omega) (fun e => by have q1 := HAT4.out _ e.symm; have q2 := blk_lt HBOX3.out; omega)).trans ((Below.heap_alloc w4 _ _ (blk_lt HBOX4.out)).trans HBOX4.out)); clear hn hb hg hat hrd))
    have HLE := Aside0.mk (show (d ++ [more p]).length = d.length + 1 by rw [List.length_append]; rfl)
    have hsame : ((strOfNums p).toList == (strOfNums p).toList) = true := beq_self_eq_true _
    have hcvA := bytes_string w5.drew A3 p c3 (Kd.C_drew (Kd.C_below HR3.out HB5.out))
    obtain ⟨tb0, htb⟩ : ∃ tb0 : Bool, tb0 = decide (0 < p.length) := ⟨_, rfl⟩
    have t1 : decide (0 < p.length) = tb0 := htb.symm
    have t2 : decide ((0 : Int) < (p.length : Int)) = tb0 := by rw [htb]; simp
    have H4' := Aside0.mk (show data_True.f k4 (d ++ [more p]) d.length = some tb0 by rw [htb]; exact H4.out)
    clear htb c1 c2' H4
    go_region_held_law (fun W => (convert 24 9 (.slice A3 p.length c3)).run Try.prog W = .ok (.string (strOfNums p)) W) (first | exact hcvD | exact hcvC | exact hcvB | exact hcvA) (first
      | (go_at_call 18; refine (check_at k2 HLE.out (w := w5.drew) (Kd.C_drew HR5.out) HC5.out H2.out).mono ?_; rintro e w6 ⟨rfl, hb6⟩; have HB6 := Aside0.mk (below_step (below_drew1 HB5.out) hb6); have HR6 := Aside0.mk (Kd.C_below (Kd.C_drew HR5.out) hb6); have HBOX6 := Aside0.mk ((hb6.block w.heap.size (blk_lt (w := w5.drew) HBOX5.out)).trans HBOX5.out); have hcvB := bytes_string w6 A3 p c3 (Kd.C_below HR3.out HB6.out); clear hb6)
      | (go_at_call 13; refine (value_at k3 HLE.out (w := w6) HR6.out HC5.out H3.out).mono ?_; rintro e w7 ⟨v7, rfl, hr7, hb7⟩; have HB7 := Aside0.mk (below_step HB6.out hb7); have HR7 := Aside0.mk (Kd.C_below HR6.out hb7); have HBOX7 := Aside0.mk ((hb7.block w.heap.size (blk_lt HBOX6.out)).trans HBOX6.out); have hcvC := bytes_string w7 A3 p c3 (Kd.C_below HR3.out HB7.out); have hcvP := row_conv hr7; clear hr7 hb7)
      | (go_at_call 14; refine (true_at k4 HLE.out (w := w7) HR7.out HC5.out H4'.out).mono ?_; rintro e w8 ⟨rfl, hb8⟩; have HB8 := Aside0.mk (below_step HB7.out hb8); have HR8 := Aside0.mk (Kd.C_below HR7.out hb8); have HBOX8 := Aside0.mk ((hb8.block w.heap.size (blk_lt HBOX7.out)).trans HBOX7.out); have hcvD := bytes_string w8 A3 p c3 (Kd.C_below HR3.out HB8.out); clear hb8))
    all_goals
      clear hcvA hcvB hcvC hcvD hcvP t1 t2 hsame
      by_cases hin : 0 ≤ i ∧ i < (d.length : Int)
      · have c1 : decide (i < 0) = false := decide_eq_false (by omega)
        have c2' : decide ((d.length : Int) ≤ i) = false := decide_eq_false (by omega)
        obtain ⟨fr, fb, tb, vv, ⟨k5, f5⟩, ⟨k6, f6⟩, ⟨k7, f7⟩, ⟨k8, f8⟩, ⟨k9, f9⟩, ⟨k10, f10⟩⟩ := HIN.out hin.1 hin.2
        have F5 := Aside0.mk f5
        have F6 := Aside0.mk f6
        have F7 := Aside0.mk f7
        have F8 := Aside0.mk f8
        have F9 := Aside0.mk f9
        have F10 := Aside0.mk f10
        have g0 : w8.cell? ⟨w.heap.size, 0, none⟩ = some (.bool root) := cell_of_row w8 w.heap.size 0 _ _ _ HBOX8.out
        have g1 : w8.cell? ⟨w.heap.size, 1, none⟩ = some (.slice A2 names.length c2) := cell_of_row w8 w.heap.size 1 _ _ _ HBOX8.out
        clear f5 f6 f7 f8 f9 f10 hin HIN
        have hsame : ((strOfNums vv).toList == (strOfNums vv).toList) = true := beq_self_eq_true _
        go_upto_region 14 with (first
          | (go_at_call_of 20 (Value.slice A0 d.length c0); refine (find_at k5 rfl (w := w8) (Kd.C_below HR0.out HB8.out) HC0.out (Kd.C_below HR2.out HB8.out) HC2.out F5.out).mono ?_; rintro e w9 ⟨rfl, hb9⟩; have HB9 := Aside0.mk (below_step HB8.out hb9); have HR9 := Aside0.mk (Kd.C_below HR8.out hb9); have hbox := (hb9.block w.heap.size (blk_lt HBOX8.out)).trans HBOX8.out; have g2 : w9.cell? ⟨w.heap.size, 0, none⟩ = some (.bool root) := cell_of_row w9 w.heap.size 0 _ _ _ hbox; have g3 : w9.cell? ⟨w.heap.size, 1, none⟩ = some (.slice A2 names.length c2) := cell_of_row w9 w.heap.size 1 _ _ _ hbox; clear hb9 hbox)
          | (go_at_call 20; refine (find_at k6 HLE.out (w := w9) HR9.out HC5.out (Kd.C_below HR2.out HB9.out) HC2.out F6.out).mono ?_; rintro e w10 ⟨rfl, hb10⟩; have HB10 := Aside0.mk (below_step HB9.out hb10); have HR10 := Aside0.mk (Kd.C_below HR9.out hb10); clear hb10))
        go_region_held_law (fun W => True) (trivial) (first
          | (go_at_call_of 14 (Value.slice A0 d.length c0); refine (true_at k7 rfl (w := w10.drew) (Kd.C_drew (Kd.C_below HR0.out HB10.out)) HC0.out F7.out).mono ?_; rintro e w11 ⟨rfl, hb11⟩; have HB11 := Aside0.mk (below_step (below_drew1 HB10.out) hb11); have HR11 := Aside0.mk (Kd.C_below (Kd.C_drew HR10.out) hb11); clear hb11)
          | (go_at_call 14; refine (true_at k8 HLE.out (w := w11) HR11.out HC5.out F8.out).mono ?_; rintro e w12 ⟨rfl, hb12⟩; have HB12 := Aside0.mk (below_step HB11.out hb12); have HR12 := Aside0.mk (Kd.C_below HR11.out hb12); clear hb12)
          | (go_at_call_of 13 (Value.slice A0 d.length c0); refine (value_at k9 rfl (w := w12) (Kd.C_below HR0.out HB12.out) HC0.out F9.out).mono ?_; rintro e w13 ⟨v13, rfl, hr13, hb13⟩; have HB13 := Aside0.mk (below_step HB12.out hb13); have HR13 := Aside0.mk (Kd.C_below HR12.out hb13); have hcv1 := row_conv hr13; have HV13 := Aside0.mk hr13; clear hr13 hb13)
          | (go_at_call 13; refine (value_at k10 HLE.out (w := w13) HR13.out HC5.out F10.out).mono ?_; rintro e w14 ⟨v14, rfl, hr14, hb14⟩; have HB14 := Aside0.mk (below_step HB13.out hb14); have hcv2 := row_conv hr14; have hcv3 := row_conv (Kd.R_below HV13.out hb14); clear hr14 hb14))
        all_goals
          go_wp2
          go_ret
          exact ⟨rfl, HB14.out⟩
      · by_cases h0 : i < 0
        all_goals
          first
            | (have c1 : decide (i < 0) = true := decide_eq_true h0)
            | (have c1 : decide (i < 0) = false := decide_eq_false h0
               have c2' : decide ((d.length : Int) ≤ i) = true := decide_eq_true (by omega))
          clear hin h0
          go_wp2
          go_ret
          exact ⟨rfl, HB8.out⟩
  · have HNZ := Aside0.mk hz
    by_cases hc : ck = 0
    all_goals
      first
        | (subst hc
           have c1 : decide (4096 ≤ d.length) = true := decide_eq_true (by have := HNZ.out; omega)
           have c2' : decide ((4096 : Int) ≤ (d.length : Int)) = true := decide_eq_true (by have := HNZ.out; omega)
           clear hrest)
        | (have c1 : (ck != 0) = true := by simpa using hc
           have c2' : (ck == 0) = false := by simpa using hc
           clear hrest)
      clear hz
      go_enter Try.func10, Try.ntmps10
      go_wp2_with (first
        | (go_at_call 11; refine (bobbinlaw17_awake.calls k0 true _ HA.out).mono ?_; rintro e w2 ⟨rfl, hb2⟩; have HB2 := Aside0.mk (below_step (below_alloc (Below.refl w.heap.size w) _) hb2); clear hb2)
        | (go_at_call 18; refine (data_Check.calls k1 A0 c0 d _ w2 (Kd.C_below HR0.out HB2.out) HC0.out HCK.out).mono ?_; rintro e w3 ⟨rfl, hb3⟩; have HB3 := Aside0.mk (below_step HB2.out hb3); clear hb3))
      go_ret
      exact ⟨rfl, HB3.out⟩
end Go.Proofs.Ytclanebbalgpfaa.PDataGrows
