/-
  What the gate lets through, in plain words.
  escape.units: clean text, character by character.
  An escaper in memory; escape.New.
  What an escaper's turn may change; what its gate answers.
  Conditions: as each theorem says.
-/
import Derived.Test.YtfplocpjdjjoaaaDoorDa
import Derived.Test.YtfplocpjdjjoaaaDoorDc
import Derived.Lib.OthersKept
namespace Go.Proofs.YtfplocpjdjjoaaaDoor.Cut
open Go Go.RowKit Go.Proofs.YtfplocpjdjjoaaaDoor.Trail Go.Proofs.YtfplocpjdjjoaaaDoor.Ctxs Go.Proofs.YtfplocpjdjjoaaaDoorW.PrintWords
set_option linter.unusedVariables false
set_option linter.unusedSimpArgs false
/-! #### What the gate lets through (plain) -/
/-- "#blocked", character by character. -/
def blocked : List (List Nat) := [[35], [98], [108], [111], [99], [107], [101], [100]]
def stops (b : Nat) : Bool := b == 58 || b == 47 || b == 63 || b == 35
/-- Where the first byte stands that ends a scheme. -/
def stopAt : List Nat → Option Nat
  | [] => none
  | b :: r => if stops b = true then some 0 else (stopAt r).map (· + 1)
def smallB (b : Nat) : Nat := if 65 ≤ b ∧ b ≤ 90 then b + 32 else b
def allowed (p : List Nat) : Bool := p.map smallB == [104, 116, 116, 112] || p.map smallB == [104, 116, 116, 112, 115] || p.map smallB == [109, 97, 105, 108, 116, 111]
/-- What the first bytes tell: 0: nothing yet; 1: it passes; 2: it is stopped. -/
def look (p : List Nat) : Nat :=
  match stopAt p with
  | none => if 16 < p.length then 2 else 0
  | some i => if 16 < i then 2 else if p[i]? = some 58 ∧ allowed (p.take i) = false then 2 else 1
theorem stopAt_app : ∀ (p q : List Nat), stopAt (p ++ q) = (match stopAt p with | some i => some i | none => (stopAt q).map (· + p.length))
  | [], q => by cases h : stopAt q <;> simp [stopAt, h]
  | b :: r, q => by
    by_cases hb : stops b = true
    · simp [stopAt, hb]
    · rw [List.cons_append, stopAt, if_neg hb, stopAt, if_neg hb, stopAt_app r q]
      cases stopAt r with
      | none =>
        cases stopAt q with
        | none => rfl
        | some j => simp only [Option.map_some, List.length_cons]; congr 1
      | some i => rfl
theorem stopAt_lt : ∀ (p : List Nat) (i : Nat), stopAt p = some i → i < p.length
  | [], i, h => by cases h
  | b :: r, i, h => by
    rw [stopAt] at h
    split at h
    · injection h with h; subst h; simp
    · cases hr : stopAt r with
      | none => rw [hr] at h; cases h
      | some j =>
        rw [hr] at h
        simp only [Option.map_some, Option.some.injEq] at h
        have := stopAt_lt r j hr
        simp only [List.length_cons]
        omega
/-- What is settled stays so. -/
theorem look_app (p q : List Nat) (h : look p ≠ 0) : look (p ++ q) = look p := by
  unfold look at h ⊢
  rw [stopAt_app]
  cases hs : stopAt p with
  | none =>
    rw [hs] at h
    dsimp only at h ⊢
    by_cases hl : 16 < p.length
    · rw [if_pos hl]
      cases hq : stopAt q with
      | none =>
        dsimp only [Option.map_none]
        rw [if_pos (by rw [List.length_append]; omega)]
      | some j =>
        dsimp only [Option.map_some]
        rw [if_pos (by omega)]
    · rw [if_neg hl] at h
      exact absurd rfl h
  | some i =>
    have hi := stopAt_lt p i hs
    dsimp only
    rw [List.getElem?_append_left hi, List.take_append_of_le_length (by omega)]
theorem look_nil : look [] = 0 := rfl
/-- What has come out of the gate, and what comes out in all. -/
def outG (F : List (List Nat)) : List (List Nat) := if look F.flatten = 0 then [] else if look F.flatten = 2 then blocked else F
def endG (F : List (List Nat)) : List (List Nat) := if look F.flatten = 2 then blocked else F
/-- What comes out of a gate when characters are fed behind others. -/
def newG (F cs : List (List Nat)) : List (List Nat) := if look F.flatten = 0 then outG (F ++ cs) else if look F.flatten = 2 then [] else cs
theorem outG_app (F cs : List (List Nat)) : outG (F ++ cs) = outG F ++ newG F cs := by
  unfold newG
  by_cases h0 : look F.flatten = 0
  · rw [if_pos h0]
    conv => rhs; unfold outG
    rw [if_pos h0]
    rfl
  · have hl := look_app F.flatten cs.flatten h0
    unfold outG
    rw [List.flatten_append, hl, if_neg h0, if_neg h0, if_neg h0]
    by_cases h2 : look F.flatten = 2
    · rw [if_pos h2, if_pos h2, if_pos h2, List.append_nil]
    · rw [if_neg h2, if_neg h2, if_neg h2]
/-- What comes out at the end. -/
def lastG (F : List (List Nat)) : List (List Nat) := if look F.flatten = 0 then F else []
theorem endG_eq (F : List (List Nat)) : endG F = outG F ++ lastG F := by
  unfold endG outG lastG
  by_cases h0 : look F.flatten = 0
  · rw [if_neg (by omega), if_pos h0, if_pos h0]
    rfl
  · rw [if_neg h0, if_neg h0, List.append_nil]
/-- The same by the kind of the hole. -/
def outK (k : Nat) (F : List (List Nat)) : List (List Nat) := if k = 4 then outG F else F
def newK (k : Nat) (F cs : List (List Nat)) : List (List Nat) := if k = 4 then newG F cs else cs
def lastK (k : Nat) (F : List (List Nat)) : List (List Nat) := if k = 4 then lastG F else []
def endK (k : Nat) (F : List (List Nat)) : List (List Nat) := if k = 4 then endG F else F
theorem outK_app (k : Nat) (F cs : List (List Nat)) : outK k (F ++ cs) = outK k F ++ newK k F cs := by
  unfold outK newK
  split
  · exact outG_app F cs
  · rfl
theorem endK_eq (k : Nat) (F : List (List Nat)) : endK k F = outK k F ++ lastK k F := by
  unfold endK outK lastK
  split
  · exact endG_eq F
  · exact (List.append_nil F).symm
theorem outK_nil (k : Nat) : outK k [] = [] := by unfold outK outG; split <;> rfl
theorem chr_blocked : ∀ c ∈ blocked, Chr c := by
  intro c hc
  simp only [blocked, List.mem_cons, List.mem_nil_iff, or_false] at hc
  rcases hc with rfl | rfl | rfl | rfl | rfl | rfl | rfl | rfl <;> exact .one _ (by decide)
theorem newK_chr {k : Nat} {F cs : List (List Nat)} (hF : ∀ c ∈ F, Chr c) (hcs : ∀ c ∈ cs, Chr c) : ∀ c ∈ newK k F cs, Chr c := by
  unfold newK newG outG
  repeat' split
  all_goals intro c hc
  · cases hc
  · exact chr_blocked c hc
  · exact (List.mem_append.1 hc).elim (hF c) (hcs c)
  · cases hc
  · exact hcs c hc
  · exact hcs c hc
theorem lastK_chr {k : Nat} {F : List (List Nat)} (hF : ∀ c ∈ F, Chr c) : ∀ c ∈ lastK k F, Chr c := by
  unfold lastK lastG
  repeat' split
  all_goals intro c hc
  · exact hF c hc
  · cases hc
  · cases hc
theorem newK_len (k : Nat) (F cs : List (List Nat)) : (newK k F cs).flatten.length ≤ 8 + F.flatten.length + cs.flatten.length := by
  unfold newK newG outG
  have hb : blocked.flatten.length = 8 := rfl
  repeat' split
  all_goals (try simp only [List.flatten_append, List.length_append, List.flatten_nil, List.length_nil, hb])
  all_goals omega
/-- While nothing is settled, little is held. -/
theorem look_held {p : List Nat} (h : look p = 0) : p.length ≤ 16 := by
  unfold look at h
  split at h
  · split at h
    · cases h
    · omega
  · repeat' split at h
    all_goals cases h
/-- The places of the characters of a text. -/
def place (cs : List (List Nat)) (k : Nat) : Nat := (cs.take k).flatten.length
theorem place_end {cs : List (List Nat)} {k : Nat} (h : cs.length ≤ k) : place cs k = cs.flatten.length := by unfold place; rw [List.take_of_length_le h]
theorem flat_at (cs : List (List Nat)) (k : Nat) (c : List Nat) (hk : cs[k]? = some c) : cs.flatten = (cs.take k).flatten ++ (c ++ (cs.drop (k + 1)).flatten) := by
  obtain ⟨hlt, hc⟩ := List.getElem?_eq_some_iff.1 hk
  conv => lhs; rw [← List.take_append_drop k cs, List.drop_eq_getElem_cons hlt, hc]
  rw [List.flatten_append, List.flatten_cons]
theorem place_next (cs : List (List Nat)) (k : Nat) (c : List Nat) (hk : cs[k]? = some c) : place cs (k + 1) = place cs k + c.length ∧ place cs k + c.length ≤ cs.flatten.length := by
  constructor
  · unfold place
    rw [List.take_add_one, hk, List.flatten_append, List.length_append]
    simp
  · have := congrArg List.length (flat_at cs k c hk)
    rw [List.length_append, List.length_append] at this
    unfold place
    omega
theorem place_at (cs : List (List Nat)) (k : Nat) (c : List Nat) (hk : cs[k]? = some c) : ∀ j x, c[j]? = some x → cs.flatten[place cs k + j]? = some x := by
  intro j x hx
  have hj := (List.getElem?_eq_some_iff.1 hx).1
  rw [flat_at cs k c hk]
  unfold place
  rw [List.getElem?_append_right (Nat.le_add_right _ _), Nat.add_sub_cancel_left, List.getElem?_append_left hj]
  exact hx
theorem small_flat {cs : List (List Nat)} (h : ∀ c ∈ cs, Chr c) : Small cs.flatten := by
  intro x hx
  obtain ⟨c, hc, hx⟩ := List.mem_flatten.1 hx
  exact chr_small (h c hc) x hx
theorem len_flat {cs : List (List Nat)} (h : ∀ c ∈ cs, Chr c) : cs.length ≤ cs.flatten.length := by
  induction cs with
  | nil => exact Nat.zero_le _
  | cons c cs ih =>
    rw [List.flatten_cons, List.length_append, List.length_cons]
    have := ih fun c hc => h c (List.mem_cons_of_mem _ hc)
    have := List.length_pos_iff.2 (chr_ne (h c List.mem_cons_self))
    omega
end Go.Proofs.YtfplocpjdjjoaaaDoor.Cut
namespace Go.Proofs.YtfplocpjdjjoaaaDoor.Cut
open Go Go.RowKit Go.Proofs.YtfplocpjdjjoaaaDoor.Trail Go.Proofs.YtfplocpjdjjoaaaDoor.Ctxs Go.Proofs.YtfplocpjdjjoaaaDoorW.PrintWords
set_option linter.unusedVariables false
set_option linter.unusedSimpArgs false
/-- A row of one's own, cell by cell: each element one cell. -/
def Rw (W : World) (base : Nat) (v : Value) (rows : List (List Value)) : Prop := (Kd.raw 1).R 22 W base (fun _ => True) v rows
section
variable {base : Nat} {W V : World} {v : Value} {rows : List (List Value)}
theorem Rw.nil (W : World) (base : Nat) : Rw W base (.slice none 0 0) [] := Kd.R_nil _ _ _ _ _
theorem Rw.slice (h : Rw W base v rows) : ∃ A c, v = .slice A rows.length c := Kd.R_slice h
theorem Rw.form (h : Rw W base v rows) (hp : 0 < rows.length) : ∃ g cap, v = .slice (some ⟨g, 0, none⟩) rows.length cap ∧ base ≤ g ∧ g < W.heap.size ∧ ∃ cells, W.heap[g]? = some (.cells cells 22 (0, 0)) := Kd.R_form h hp
theorem Rw.same (h : Rw W base v rows) (hk : ∀ k, v.ownBlock = some k → V.heap[k]? = W.heap[k]?) : Rw V base v rows := Kd.R_mono (Kd.R_step (Kd.R_tight rfl h) (fun k hk' _ => hk k hk'.symm)) (fun _ _ => trivial)
theorem Rw.lt (h : Rw W base v rows) : ∀ k, v.ownBlock = some k → k < W.heap.size := Kd.R_lt h
theorem Rw.low (h : Rw W base v rows) : ∀ k, v.ownBlock = some k → base ≤ k := Kd.R_base h
theorem Rw.below (h : Rw W base v rows) (hb : Below W.heap.size W V) : Rw V base v rows := Kd.R_below h hb
theorem Rw.lower {b' : Nat} (h : Rw W base v rows) (hb : b' ≤ base) : Rw W b' v rows := Kd.R_lower h hb
theorem Rw.ne (h : Rw W base v rows) {g t : Nat} {cells : Array Value} (hb : W.heap[g]? = some (.cells cells t (0, 0))) (ht : 22 ≠ t) : some g ≠ v.ownBlock := Kd.R_ne h hb ht
theorem Rw.cells {g n cap : Nat} (h : Rw W base (.slice (some ⟨g, 0, none⟩) n cap) rows) (i : Nat) {row : List Value} (hi : rows[i]? = some row) :
    row.length = 1 ∧ (∀ j u, row[j]? = some u → W.cell? ⟨g, i + j, none⟩ = some u) := by
  have hl := (List.getElem?_eq_some_iff.1 hi).1
  have hn := (Kd.R_reads' h).1
  obtain ⟨c, hcl, hM, hcc, hfr⟩ := Kd.R_elem h [] (i : Int) (Int.natCast_nonneg _) (by omega)
  rw [Int.toNat_natCast] at hM hcc hfr
  have hc : c = row := by
    have := hM.1
    rwa [List.getD_eq_getElem?_getD, hi] at this
  subst hc
  exact ⟨hcl, fun j u hj => by have := hcc j u hj; rwa [show (Kd.raw 1).sz = 1 from rfl, Nat.mul_one] at this⟩
end
theorem Rdb.same {W V : World} {v : Value} {l : List Nat} (h : Rdb W v l) (hk : ∀ k, v.ownBlock = some k → V.heap[k]? = W.heap[k]?) : Rdb V v l := by
  obtain ⟨A, c, rfl, h1, h2⟩ := h
  refine ⟨A, c, rfl, h1, ?_⟩
  obtain ⟨r1, r2, r3⟩ := Kd.reads_of_C (enc := Value.int .u8) (d := (0 : Int)) (h1 := fun _ => rfl) h2
  refine Kd.C_of_reads (enc := Value.int .u8) (d := (0 : Int)) (h1 := fun _ => rfl) ⟨r1, r2, fun hn => ?_⟩
  obtain ⟨ad, e, hc⟩ := r3 hn
  refine ⟨ad, e, fun j hj => ?_⟩
  have hb : (ad.add j).block = ad.block := by unfold Addr.add; split <;> rfl
  rw [← hc j hj]
  unfold World.cell?
  rw [hb, hk ad.block (by rw [e]; rfl)]
theorem Rdb.lt {W : World} {v : Value} {l : List Nat} (h : Rdb W v l) (hl : l ≠ []) : ∀ k, v.ownBlock = some k → k < W.heap.size := by
  obtain ⟨A, c, rfl, h1, h2⟩ := h
  obtain ⟨r1, r2, r3⟩ := Kd.reads_of_C (enc := Value.int .u8) (d := (0 : Int)) (h1 := fun _ => rfl) h2
  obtain ⟨ad, e, hc⟩ := r3 (List.length_pos_iff.2 hl)
  intro k hk
  have hb : (ad.add 0).block = ad.block := by unfold Addr.add; split <;> rfl
  have := World.block_lt_of_cell? W _ (hc 0 (List.length_pos_iff.2 hl))
  rw [hb] at this
  rw [e] at hk
  injection hk with hk
  omega
/-- A row of units: each a row of bytes that can be read, and is not the row itself. -/
structure UnsV (W : World) (base : Nat) (v : Value) (vs : List Value) (us : List (List Nat)) : Prop where
  rw : Rw W base v (vs.map fun x => [x])
  len : vs.length = us.length
  reads : ∀ (i : Nat) (x : Value) (u : List Nat), vs[i]? = some x → us[i]? = some u → Rdb W x u
  out : ∀ (i : Nat) (x : Value), vs[i]? = some x → ∀ k, x.ownBlock = some k → base ≤ k ∧ k < W.heap.size ∧ some k ≠ v.ownBlock
def Uns (W : World) (base : Nat) (v : Value) (us : List (List Nat)) : Prop := ∃ vs, UnsV W base v vs us
section
variable {base : Nat} {W V : World} {v : Value} {us : List (List Nat)} {vs : List Value}
theorem UnsV.same (h : UnsV W base v vs us) (hs : W.heap.size ≤ V.heap.size) (hv : ∀ k, v.ownBlock = some k → V.heap[k]? = W.heap[k]?) (hk : ∀ (i : Nat) (x : Value), vs[i]? = some x → ∀ k, x.ownBlock = some k → V.heap[k]? = W.heap[k]?) : UnsV V base v vs us :=
  ⟨h.rw.same hv, h.len, fun i x u hx hu => (h.reads i x u hx hu).same (hk i x hx), fun i x hx k e => ⟨(h.out i x hx k e).1, Nat.lt_of_lt_of_le (h.out i x hx k e).2.1 hs, (h.out i x hx k e).2.2⟩⟩
theorem UnsV.below (h : UnsV W base v vs us) (hb : Below W.heap.size W V) : UnsV V base v vs us :=
  h.same hb.size (fun k e => hb.block k (h.rw.lt k e)) (fun i x hx k e => hb.block k (h.out i x hx k e).2.1)
theorem UnsV.lower {b' : Nat} (h : UnsV W base v vs us) (hb : b' ≤ base) : UnsV W b' v vs us := ⟨h.rw.lower hb, h.len, h.reads, fun i x hx k e => ⟨Nat.le_trans hb (h.out i x hx k e).1, (h.out i x hx k e).2⟩⟩
theorem UnsV.slice (h : UnsV W base v vs us) : ∃ A c, v = .slice A vs.length c := by
  obtain ⟨A, c, e⟩ := h.rw.slice
  rw [List.length_map] at e
  exact ⟨A, c, e⟩
theorem Uns.nil (W : World) (base : Nat) : Uns W base (.slice none 0 0) [] := ⟨[], Rw.nil _ _, rfl, fun i x u h => by simp at h, fun i x h => by simp at h⟩
theorem Uns.slice (h : Uns W base v us) : ∃ A c, v = .slice A us.length c := by
  obtain ⟨vs, h⟩ := h
  obtain ⟨A, c, e⟩ := h.slice
  rw [h.len] at e
  exact ⟨A, c, e⟩
theorem Uns.below (h : Uns W base v us) (hb : Below W.heap.size W V) : Uns V base v us := h.elim fun vs h => ⟨vs, h.below hb⟩
theorem Uns.lower {b' : Nat} (h : Uns W base v us) (hb : b' ≤ base) : Uns W b' v us := h.elim fun vs h => ⟨vs, h.lower hb⟩
theorem Uns.iter (h : Uns W base v us) {g : Nat} (hg : g < base) (s : ByteArray) (q : Nat) : Uns (W.iterAt g s q) base v us := by
  obtain ⟨vs, h⟩ := h
  exact ⟨vs, h.same (Nat.le_of_eq (Lib.iterAt_size _ _ _ _).symm) (fun k e => Lib.iterAt_other _ _ _ _ _ (by have := h.rw.low k e; omega)) (fun i x hx k e => Lib.iterAt_other _ _ _ _ _ (by have := (h.out i x hx k e).1; omega))⟩
/-- One unit more. -/
theorem UnsV.snoc {v1 : Value} {W5 : World} {x : Value} {u : List Nat} (h : UnsV W base v vs us) (hx : Rdb W x u) (hu : u ≠ []) (hn : ∀ k, x.ownBlock = some k → base ≤ k ∧ some k ≠ v.ownBlock) (h1 : Rw W5 base v1 ((vs.map fun x => [x]) ++ [[x]])) (hg : W.grownBy W5 v.ownBlock) (hat : v1.ownBlock = v.ownBlock ∨ ∃ b, v1.ownBlock = some b ∧ W.heap.size ≤ b) : UnsV W5 base v1 (vs ++ [x]) (us ++ [u]) := by
  have hne : ∀ k, k < W.heap.size → some k ≠ v.ownBlock → some k ≠ v1.ownBlock := fun k hk hv e => by
    rcases hat with h | ⟨b, h, hb⟩
    · exact hv (e.trans h)
    · rw [h] at e; injection e with e; omega
  refine ⟨by rw [List.map_append]; exact h1, by rw [List.length_append, List.length_append, h.len]; rfl, fun i y z hy hz => ?_, fun i y hy k e => ?_⟩
  · rcases Nat.lt_or_ge i vs.length with hi | hi
    · rw [List.getElem?_append_left hi] at hy
      rw [List.getElem?_append_left (h.len ▸ hi)] at hz
      exact (h.reads i y z hy hz).same fun k e => hg.block k (h.out i y hy k e).2.1 (h.out i y hy k e).2.2
    · rw [List.getElem?_append_right hi] at hy
      rw [List.getElem?_append_right (h.len ▸ hi)] at hz
      rw [h.len] at hy
      have h0 : i - us.length = 0 := by have := (List.getElem?_eq_some_iff.1 hz).1; simp at this; omega
      rw [h0] at hy hz
      simp only [List.getElem?_cons_zero, Option.some.injEq] at hy hz
      subst hy hz
      exact hx.same fun k e => hg.block k (hx.lt hu k e) (hn k e).2
  · rcases Nat.lt_or_ge i vs.length with hi | hi
    · rw [List.getElem?_append_left hi] at hy
      have := h.out i y hy k e
      exact ⟨this.1, Nat.lt_of_lt_of_le this.2.1 hg.size, hne k this.2.1 this.2.2⟩
    · rw [List.getElem?_append_right hi] at hy
      have h0 : i - vs.length = 0 := by have := (List.getElem?_eq_some_iff.1 hy).1; simp at this; omega
      rw [h0] at hy
      simp only [List.getElem?_cons_zero, Option.some.injEq] at hy
      subst hy
      exact ⟨(hn k e).1, Nat.lt_of_lt_of_le (hx.lt hu k e) hg.size, hne k (hx.lt hu k e) (hn k e).2⟩
end
theorem fresh_own {W : World} {v : Value} (h : Fresh W v) : ∀ k, v.ownBlock = some k → W.heap.size ≤ k := by
  intro k e
  match v, h, e with
  | .slice (some ad) n c, h, e =>
    injection e with e
    rw [← e]
    exact h ad n c rfl
theorem info22 : (Tryd.prog.info? 22).map (fun i => (i.zero, i.size, i.bytes)) = some (some (.slice none 0 0), 1, 24) := by kernel_rfl
theorem conv_row {W : World} {A : Option Addr} {N c : Nat} {l : List Nat} (h : Kd.C (Kd.int .u8) W A N (ints l)) : (convert 22 9 (.slice A N c)).run Tryd.prog W = .ok (.string (bs l)) W := by
  rw [← nums_bs]
  exact Kd.C_string Tryd.underlying22 Tryd.underlying5 Tryd.underlying9 h
theorem iter_pos {w : World} {k : Nat} {s : ByteArray} {pos : Nat} (h : w.heap[k]? = some (.stringIter s pos)) : w.iterPos k = pos := by
  unfold World.iterPos
  rw [h]
theorem unit_at {x : Int} {kind : Nat} (h1 : 1 ≤ kind) (h2 : kind ≤ 10) {c : List Nat} (hc : Chr c) (hx : x = (val c : Int)) (w : World) (hT : Tz w) : Calls Tryd.prog 59 #[.int .u8 (kind : Int), .int .i32 x] w (Unt (unitOf kind c) w) := by
  subst hx
  exact unit_calls h1 h2 hc w hT
theorem one_cell (x : Value) (hx : x.oneCell' = true) : ∀ y ∈ [x], y.oneCell' = true := fun y hy => by rw [List.mem_singleton] at hy; rw [hy]; exact hx
set_option maxHeartbeats 4000000 in
set_option maxRecDepth 100000 in
theorem units_calls {kind : Nat} (h1 : 1 ≤ kind) (h2 : kind ≤ 10) (cs : List (List Nat)) (hcs : ∀ c ∈ cs, Chr c) (hl : cs.flatten.length ≤ 100000000) (w : World) (hT : Tz w) (A : Option Addr) (N c0 : Nat) (hC : Kd.C (Kd.int .u8) w A N (ints cs.flatten)) :
    Calls Tryd.prog 37 #[.int .u8 (kind : Int), .slice A N c0] w fun e W' => ∃ v, e = .returned v ∧ Uns W' w.heap.size v (cs.map (unitOf kind)) ∧ Below w.heap.size w W' := by
  have hcv := conv_row (c := c0) hC
  have hsz : (bs cs.flatten).size = cs.flatten.length := bs_size _
  have HS := Aside0.mk hsz
  have HT := Aside0.mk hT
  have HL := Aside0.mk hl
  have HCS := Aside0.mk hcs
  have HK := Aside0.mk (And.intro h1 h2)
  obtain ⟨T, hTx⟩ : ∃ T, T = bs cs.flatten := ⟨_, rfl⟩
  have HTX := Aside0.mk hTx
  rw [← hTx] at hcv hsz
  clear hT hC hl hcs h1 h2 hTx hsz
  go_enter Tryd.func37, Tryd.ntmps37
  go_wp2
  go_loopw [5] (fun ov wr => ∃ k : Nat, k ≤ cs.length ∧ wr.heap[w.heap.size]? = some (.stringIter T (place cs k)) ∧ Uns wr (w.heap.size + 1) ov ((cs.take k).map (unitOf kind)) ∧ Below w.heap.size w wr) (fun _ wr => T.size - wr.iterPos w.heap.size)
  case atStart => exact ⟨0, Nat.zero_le _, World.iter_heap w T 0, Uns.nil _ _, (Below.refl _ _).alloc (Nat.le_refl _) _⟩
  case round =>
    obtain ⟨k, hk, hit, hov, hbw⟩ := hrel
    have hpos := iter_pos hit
    have HPOS := Aside0.mk hpos
    by_cases hkl : k < cs.length
    · obtain ⟨c, hc⟩ : ∃ c, cs[k]? = some c := ⟨_, List.getElem?_eq_getElem hkl⟩
      obtain ⟨hn1, hn2⟩ := place_next cs k c hc
      have hch := HCS.out c (List.mem_of_getElem? hc)
      have hcp := List.length_pos_iff.2 (chr_ne hch)
      have hp : place cs k < T.size := by rw [HTX.out, HS.out]; omega
      have hdec := decode_chr (small_flat HCS.out) (place cs k) hch (place_at cs k c hc)
      rw [← HTX.out] at hdec
      have hnx : ∀ ty, (Instr.next (.pointer (some ⟨w.heap.size, 0, none⟩)) true ty).run Tryd.prog wr = _ := fun ty => Lib.run_next_any_at wr w.heap.size T (place cs k) ty hit hp
      rw [hdec] at hnx
      dsimp only at hnx
      have hit2 := Lib.iterAt_heap wr w.heap.size T (place cs k) (place cs k + c.length) hit
      have hbw2 := Lib.below_iterAt hbw (k := w.heap.size) (Nat.le_refl _) T (place cs k + c.length)
      have hov2 := hov.iter (Nat.lt_succ_self w.heap.size) T (place cs k + c.length)
      obtain ⟨r, hr⟩ : ∃ r, r = val c := ⟨_, rfl⟩
      rw [← hr] at hnx
      obtain ⟨W1, hW1⟩ : ∃ W1, W1 = wr.iterAt w.heap.size T (place cs k + c.length) := ⟨_, rfl⟩
      rw [← hW1] at hnx hit2 hbw2 hov2
      obtain ⟨vs, hov2⟩ := hov2
      have hrw := hov2.rw
      have hvl := hov2.len
      obtain ⟨Ao, co, hslc⟩ := hrw.slice
      subst hslc
      have HR := Aside0.mk hr
      have HIT := Aside0.mk hit2
      have HBW := Aside0.mk hbw2
      have HRW := Aside0.mk hrw
      have HV := Aside0.mk hov2
      have HC := Aside0.mk (And.intro hc hch)
      have HN := Aside0.mk hn1
      have HKL := Aside0.mk hkl
      have HPC := Aside0.mk (And.intro hp hcp)
      have HLN := Aside0.mk (show ((vs.map fun x => [x]).length + 1) * 24 ≤ 140737488355328 by have := len_flat HCS.out; have := HL.out; rw [List.length_map, hvl, List.length_map, List.length_take]; omega)
      clear hW1 hit hov hbw hr hpos hk hkl hc hn1 hn2 hch hcp hp hdec hit2 hbw2 hrw hvl hov2
      go_wp2_with (first
        | (go_at_call 59; (with_reducible refine (unit_at HK.out.1 HK.out.2 HC.out.2 ?hx _ (HT.out.below HBW.out)).mono ?_); (case hx => exact congrArg _ HR.out); rintro e w4 hu; obtain ⟨A4, c4, rfl, hr4, hb4, hf4⟩ := hu.parts; have HF4 := Aside0.mk hf4; have HB4 := Aside0.mk (HBW.out.trans (hb4.mono HBW.out.size)); have HO4 := Aside0.mk hb4; have HR4 := Aside0.mk hr4; clear hb4 hr4 hu hf4)
        | ((with_reducible refine gate_builtin (b := .append) (xs := #[.tmp 14, .tmp 18]) rfl ?_); at_builtin; refine Kd.R_append (Kd.raw 1) (w0 := w4) (W := w4) (w.heap.size + 1) rfl (.tmp 14) (.tmp 18) 46 22 (.slice none 0 0) 24 rfl Tryd.underlying46 info22 rfl (by decide) (by decide) (.slice Ao (vs.map fun x => [x]).length co) (vs.map fun x => [x]) [.slice A4 (unitOf kind c).length c4] [.slice A4 (unitOf kind c).length c4] (fun _ => True) (fun _ => False) ?aS0 ?aX ?aP (fun _ hk => hk.elim) (fun _ _ => trivial) ?aN ?aB ?aS ?aL ?_; (case aS0 => simp only [List.length_map]; rfl); (case aX => rfl); (case aP => exact ⟨rfl, rfl, one_cell _ rfl⟩); (case aN => exact HRW.out.below HO4.out); (case aB => exact Below.refl _ _); (case aS => have := (Array.getElem?_eq_some_iff.1 HIT.out).1; have := HO4.out.size; omega); (case aL => exact HLN.out); intro v5 w5 hn hb hg hat; have HN5 := Aside0.mk hn; have HB5 := Aside0.mk hb; have HG5 := Aside0.mk hg; have HA5 := Aside0.mk hat; obtain ⟨A5, c5, rfl⟩ := Kd.R_slice hn; clear hn hb hg hat))
      have hsz : w.heap.size < W1.heap.size := (Array.getElem?_eq_some_iff.1 HIT.out).1
      have hit5 : w5.heap[w.heap.size]? = some (.stringIter T (place cs (k + 1))) := by
        rw [HN.out, HB5.out.block _ (Nat.lt_succ_self _), HO4.out.block _ hsz]
        exact HIT.out
      have hn5 := HN5.out
      rw [List.length_append, List.length_map] at hn5
      have ha5 := HA5.out
      rw [List.length_append, List.length_map] at ha5
      have hg5 := HG5.out
      rw [List.length_map] at hg5
      have hu5 := (show UnsV w4 (w.heap.size + 1) (.slice Ao vs.length co) vs _ by have := HV.out.below HO4.out; rw [List.length_map] at this; exact this).snoc HR4.out (unit_ne HC.out.2) (fun q e => ⟨?lo, fun e2 => ?ne⟩) hn5 hg5 ha5
      case lo => exact Nat.le_trans hsz (fresh_own HF4.out q e)
      case ne => exact Nat.lt_irrefl _ (Nat.lt_of_lt_of_le (HV.out.rw.lt q (by rw [List.length_map]; exact e2.symm)) (fresh_own HF4.out q e))
      refine ⟨⟨k + 1, HKL.out, hit5, ⟨_, by rw [List.take_add_one, HC.out.1, List.map_append]; exact hu5⟩, HB4.out.trans (HB5.out.mono (Nat.le_succ _))⟩, ?_⟩
      rw [iter_pos hit5, HPOS.out, HN.out]
      have := HPC.out
      omega
    · have hke : k = cs.length := by omega
      subst hke
      rw [List.take_length] at hov
      rw [place_end (Nat.le_refl _)] at hit
      have hnx : ∀ ty, (Instr.next (.pointer (some ⟨w.heap.size, 0, none⟩)) true ty).run Tryd.prog wr = _ := fun ty => Lib.run_next_end_at wr w.heap.size T _ ty hit (by rw [HTX.out, HS.out]; omega)
      obtain ⟨Ao, co, rfl⟩ := hov.slice
      have HOV := Aside0.mk hov
      have HBW := Aside0.mk hbw
      clear hov hbw
      go_wp2
      refine bodyPost_ret (v := .slice Ao (cs.map (unitOf kind)).length co) ?_ rfl ⟨_, rfl, HOV.out.lower (Nat.le_succ _), HBW.out⟩
      simp [results, Tryd.f37, go_sem]
end Go.Proofs.YtfplocpjdjjoaaaDoor.Cut
namespace Go.Proofs.YtfplocpjdjjoaaaDoor.Cut
open Go Go.RowKit Go.Proofs.YtfplocpjdjjoaaaDoor.Trail Go.Proofs.YtfplocpjdjjoaaaDoor.Ctxs Go.Proofs.YtfplocpjdjjoaaaDoorW.PrintWords
set_option linter.unusedVariables false
set_option linter.unusedSimpArgs false
/-! #### In memory -/
/-- The gate of an escaper: none, or its bytes that wait and what is known. -/
def Gt (W : World) (base : Nat) (gp : Value) (gb hb : Option Nat) (k : Nat) (F : List (List Nat)) : Prop :=
  (k ≠ 4 ∧ gp = .pointer none ∧ gb = none ∧ hb = none) ∨
  (k = 4 ∧ ∃ (G : Nat) (hv : Value), gp = .pointer (some ⟨G, 0, none⟩) ∧ gb = some G ∧ base ≤ G ∧ W.heap[G]? = some (.cells #[hv, .int .i64 (look F.flatten : Int)] 130 (0, 0)) ∧ Byr W base hv (if look F.flatten = 0 then F.flatten else []) ∧ hb = hv.ownBlock ∧ (look F.flatten ≠ 0 → hb = none))
structure Esc (W : World) (base E D : Nat) (gb hb : Option Nat) (k : Nat) (F : List (List Nat)) (cl : List Nat) : Prop where
  es : ∃ gp, W.heap[E]? = some (.cells #[.int .u8 (k : Int), .pointer (some ⟨D, 0, none⟩), gp] 99 (0, 0)) ∧ Gt W base gp gb hb k F
  dc : Dcd W base D cl
  lows : base ≤ E ∧ base ≤ D
  chr : ∀ c ∈ F, Chr c
  small : Small cl
  ap : ∀ cv f, W.heap[D]? = some (.cells #[cv] 127 f) → ∀ q, some q = hb → some q ≠ cv.ownBlock
theorem Gt.same {W V : World} {base k : Nat} {gp : Value} {gb hb : Option Nat} {F : List (List Nat)} (h : Gt W base gp gb hb k F) (hk : ∀ q, some q = gb ∨ some q = hb → V.heap[q]? = W.heap[q]?) : Gt V base gp gb hb k F := by
  rcases h with h | ⟨h4, G, hv, h1, h2, h3, h5, h6, h7, h8⟩
  · exact .inl h
  · exact .inr ⟨h4, G, hv, h1, h2, h3, (hk G (.inl h2.symm)).trans h5, h6.same fun q e => hk q (.inr (h7 ▸ e.symm)), h7, h8⟩
theorem Gt.lt {W : World} {base k : Nat} {gp : Value} {gb hb : Option Nat} {F : List (List Nat)} (h : Gt W base gp gb hb k F) : ∀ q, some q = gb ∨ some q = hb → q < W.heap.size := by
  rcases h with ⟨-, -, h1, h2⟩ | ⟨h4, G, hv, h1, h2, h3, h5, h6, h7, h8⟩
  · intro q h
    rw [h1, h2] at h
    rcases h with h | h <;> cases h
  · intro q h
    rcases h with h | h
    · rw [h2] at h
      injection h with h
      subst h
      exact (Array.getElem?_eq_some_iff.1 h5).1
    · exact h6.lt q (h7 ▸ h).symm
theorem Esc.lt {W : World} {base E D k : Nat} {gb hb : Option Nat} {F : List (List Nat)} {cl : List Nat} (h : Esc W base E D gb hb k F cl) : E < W.heap.size ∧ D < W.heap.size ∧ ∀ q, some q = gb ∨ some q = hb → q < W.heap.size := by
  obtain ⟨gp, h1, h2⟩ := h.es
  exact ⟨(Array.getElem?_eq_some_iff.1 h1).1, h.dc.lt, h2.lt⟩
theorem Esc.below {W V : World} {base E D k : Nat} {gb hb : Option Nat} {F : List (List Nat)} {cl : List Nat} (h : Esc W base E D gb hb k F cl) (hb' : Below W.heap.size W V) : Esc V base E D gb hb k F cl := by
  obtain ⟨gp, h1, h2⟩ := h.es
  exact ⟨⟨gp, (hb'.block E h.lt.1).trans h1, h2.same fun q hq => hb'.block q (h2.lt q hq)⟩, h.dc.below hb', h.lows, h.chr, h.small, fun cv f e q hq => h.ap cv f ((hb'.block D h.lt.2.1).symm.trans e) q hq⟩
theorem gate_new (W : World) : Calls Tryd.prog 36 #[] W fun e W' => e = .returned (.pointer (some ⟨W.heap.size, 0, none⟩)) ∧ W' = W.alloc (.cells #[.slice none 0 0, .int .i64 0] 130) := by
  go_enter Tryd.func36, Tryd.ntmps36
  go_wp2
  go_ret
  exact ⟨rfl, rfl⟩
set_option maxHeartbeats 4000000 in
set_option maxRecDepth 100000 in
theorem new_esc {k : Nat} (h1 : 1 ≤ k) (h2 : k ≤ 10) (w : World) : Calls Tryd.prog 12 #[.int .u8 (k : Int)] w fun e W' => ∃ E D gb, e = .returned (.tuple #[.pointer (some ⟨E, 0, none⟩), .int .i64 0]) ∧ Esc W' w.heap.size E D gb none k [] [] ∧ Below w.heap.size w W' := by
  have d1 : decide ((k : Int) < 1) = false := decide_eq_false (by omega)
  have d2 : decide ((10 : Int) < (k : Int)) = false := decide_eq_false (by omega)
  by_cases h4 : k = 4
  · subst h4
    clear d1 d2
    go_enter Tryd.func12, Tryd.ntmps12
    go_wp2_with (first | (go_at_call 35; (with_reducible refine (new_calls _).mono ?_); rintro e w1 ⟨rfl, rfl⟩) | (go_at_call 36; (with_reducible refine (gate_new _).mono ?_); rintro e w1 ⟨rfl, rfl⟩))
    refine bodyPost_ret (v := .tuple #[.pointer (some ⟨w.heap.size + 1, 0, none⟩), .int .i64 0]) ?_ rfl ⟨w.heap.size + 1, w.heap.size, some (w.heap.size + 1 + 1), rfl, ?_, ?_⟩
    · simp [results, Tryd.f12, go_sem]
    · have e1 : (w.alloc (.cells #[.slice none 0 0] 127)).heap.size = w.heap.size + 1 := alloc_size _ _
      refine ⟨⟨_, (alloc_old (by rw [alloc_size, e1]; omega)).trans (alloc_at e1.symm), .inr ⟨rfl, w.heap.size + 1 + 1, .slice none 0 0, rfl, rfl, by omega, alloc_at (by rw [alloc_size, e1]), Byr.nil _ _, rfl, fun _ => rfl⟩⟩, ⟨_, (alloc_old (by rw [alloc_size, e1]; omega)).trans ((alloc_old (by rw [e1]; omega)).trans (alloc_at rfl)), Byr.nil _ _⟩, ⟨by omega, Nat.le_refl _⟩, fun c hc => (by cases hc), small_nil, fun _ _ _ _ hq => by cases hq⟩
    · exact (((Below.refl _ _).alloc (Nat.le_refl _) _).alloc (by simp) _).alloc (by simp; omega) _
  · have d3 : ((k : Int) == 4) = false := by rw [beq_eq_false_iff_ne]; omega
    have H4 := Aside0.mk h4
    clear h1 h2 h4
    go_enter Tryd.func12, Tryd.ntmps12
    go_wp2_with (go_at_call 35; (with_reducible refine (new_calls _).mono ?_); rintro e w1 ⟨rfl, rfl⟩)
    refine bodyPost_ret (v := .tuple #[.pointer (some ⟨w.heap.size + 1, 0, none⟩), .int .i64 0]) ?_ rfl ⟨w.heap.size + 1, w.heap.size, none, rfl, ?_, ?_⟩
    · simp [results, Tryd.f12, go_sem]
    · have e1 : (w.alloc (.cells #[.slice none 0 0] 127)).heap.size = w.heap.size + 1 := alloc_size _ _
      refine ⟨⟨_, alloc_at e1.symm, .inl ⟨H4.out, rfl, rfl, rfl⟩⟩, ⟨_, (alloc_old (by rw [e1]; omega)).trans (alloc_at rfl), Byr.nil _ _⟩, ⟨by omega, Nat.le_refl _⟩, fun c hc => (by cases hc), small_nil, fun _ _ _ _ hq => by cases hq⟩
    · exact ((Below.refl _ _).alloc (Nat.le_refl _) _).alloc (by simp) _
end Go.Proofs.YtfplocpjdjjoaaaDoor.Cut
namespace Go.Proofs.YtfplocpjdjjoaaaDoor.Cut
open Go Go.RowKit Go.Proofs.YtfplocpjdjjoaaaDoor.Trail Go.Proofs.YtfplocpjdjjoaaaDoor.Ctxs Go.Proofs.YtfplocpjdjjoaaaDoorW.PrintWords
set_option linter.unusedVariables false
set_option linter.unusedSimpArgs false
/-- The blocks that a turn may change: the decoder's, the gate's, the held row's. -/
def Ch (D : Nat) (gb hb : Option Nat) (q : Nat) : Prop := q = D ∨ some q = gb ∨ some q = hb
/-- The held row behind a turn: as it was, none, or new. -/
def Nxt (W : World) (hb hb' : Option Nat) : Prop := hb' = hb ∨ hb' = none ∨ ∃ b, hb' = some b ∧ W.heap.size ≤ b
theorem Nxt.from_ {W V : World} {hb hb' : Option Nat} (h : Nxt V hb hb') (hs : W.heap.size ≤ V.heap.size) : Nxt W hb hb' := by
  rcases h with h | h | ⟨b, h, h2⟩
  · exact .inl h
  · exact .inr (.inl h)
  · exact .inr (.inr ⟨b, h, Nat.le_trans hs h2⟩)
/-- A block that is neither the held row's nor new is not the next held row's. -/
theorem Nxt.ne {W : World} {hb hb' : Option Nat} (h : Nxt W hb hb') {q : Nat} (hq : q < W.heap.size) (hn : some q ≠ hb) : some q ≠ hb' := by
  rcases h with h | h | ⟨b, h, h2⟩
  · rw [h]; exact hn
  · rw [h]; intro e; cases e
  · rw [h]; intro e; injection e with e; omega
theorem Gt.ne {W : World} {base k g t : Nat} {gp : Value} {gb hb : Option Nat} {F : List (List Nat)} {cells : Array Value} (h : Gt W base gp gb hb k F) (hg : W.heap[g]? = some (.cells cells t (0, 0))) (h5 : 5 ≠ t) (h130 : 130 ≠ t) : some g ≠ gb ∧ some g ≠ hb := by
  rcases h with ⟨-, -, h1, h2⟩ | ⟨h4, G, hv, h1, h2, h3, h5', h6, h7, h8⟩
  · rw [h1, h2]
    exact ⟨fun e => (by cases e), fun e => (by cases e)⟩
  · refine ⟨fun e => ?_, fun e => ?_⟩
    · rw [h2] at e
      injection e with e
      subst e
      rw [hg] at h5'
      injection h5' with h5'
      injection h5' with _ h5'
      exact h130 h5'.symm
    · rw [h7] at e
      exact h6.ne hg h5 e
theorem Gt.lower {W : World} {base b' k : Nat} {gp : Value} {gb hb : Option Nat} {F : List (List Nat)} (h : Gt W base gp gb hb k F) (hb' : b' ≤ base) : Gt W b' gp gb hb k F := by
  rcases h with h | ⟨h4, G, hv, h1, h2, h3, h5, h6, h7, h8⟩
  · exact .inl h
  · exact .inr ⟨h4, G, hv, h1, h2, Nat.le_trans hb' h3, h5, h6.lower hb', h7, h8⟩
/-- What escape.let answers. -/
def Lets (w0 W : World) (gp : Value) (gb hb : Option Nat) (k : Nat) (F cs : List (List Nat)) (e : Ending) (W' : World) : Prop :=
  ∃ v hb', e = .returned v ∧ Rdb W' v (newK k F cs).flatten ∧ Gt W' w0.heap.size gp gb hb' k (F ++ cs) ∧ Kept W W' (fun q => some q = gb ∨ some q = hb) ∧ Nxt W hb hb' ∧ Below w0.heap.size w0 W' ∧ (k = 4 → look (F ++ cs).flatten = 0 → v = .slice none 0 0)
theorem Rdb.nil (W : World) : Rdb W (.slice none 0 0) [] := (Byr.nil W 0).rdb
theorem Rdb.form {W : World} {v : Value} {l : List Nat} (h : Rdb W v l) : ∃ A c, v = .slice A l.length c ∧ l.length ≤ c ∧ Kd.C (Kd.int .u8) W A l.length (ints l) := h
theorem byr_open {W : World} {base : Nat} {v : Value} {l : List Nat} (h : Byr W base v l) : ∃ A N c, v = .slice A N c ∧ N = l.length := by
  obtain ⟨A, c, e⟩ := h.slice
  exact ⟨A, l.length, c, e, rfl⟩
theorem rdb_open {W : World} {v : Value} {l : List Nat} (h : Rdb W v l) : ∃ A N c, v = .slice A N c ∧ N = l.length := by
  obtain ⟨A, c, e, -⟩ := h
  exact ⟨A, l.length, c, e, rfl⟩
theorem Rdb.at_ {W : World} {A : Option Addr} {N c : Nat} {l : List Nat} (h : Rdb W (.slice A N c) l) : N = l.length ∧ N ≤ c ∧ Kd.C (Kd.int .u8) W A N (ints l) := by
  obtain ⟨A', c', e, h1, h2⟩ := h
  injection e with e1 e2 e3
  subst e1 e2 e3
  exact ⟨rfl, h1, h2⟩
end Go.Proofs.YtfplocpjdjjoaaaDoor.Cut
