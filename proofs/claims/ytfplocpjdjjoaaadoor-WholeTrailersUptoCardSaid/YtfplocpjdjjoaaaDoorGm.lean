/-
  A reader of tokens as plain functions, as package token computes it, and what its bytes keep of it.
  What holds of a reader of tokens behind so many bytes.
  How a reader of tokens lies in memory.
  A token is handed on: the function that collects them, and the reader's giving.
  A reader's flush, begin, end and settle.
  A reader's settling: what is pending, and more, becomes text.
  A reader's byte of text (data), by the state it leads to.
  A reader's byte of the text of an element of its own (raw), by the state it leads to; and of a comment (note).
  Conditions: as each theorem says.
-/
import Derived.Test.YtfplocpjdjjoaaaDoorGb
import Derived.Test.YtfplocpjdjjoaaaDoorGa
import Derived.Test.YtfplocpjdjjoaaaDoorPWholeTrailersx0
import Derived.Test.YtfplocpjdjjoaaaDoorGe
namespace Go.Proofs.YtfplocpjdjjoaaaDoor.Ctxs
open Go Go.RowKit Go.Proofs.YtfplocpjdjjoaaaDoor.PWholeTrailers Go.Proofs.YtfplocpjdjjoaaaDoor.Trail Go.Proofs.YtfplocpjdjjoaaaDoorW.PrintWords
set_option linter.unusedVariables false
set_option linter.unusedSimpArgs false
def noTk : S43 := ⟨0, bs [], [], bs []⟩
structure Rd where
  c : Cx := {}
  tx : List Int := []
  pe : List Int := []
  op : Bool := false
  tk : S43 := noTk
  out : List S43 := []
def give (r : Rd) (t : S43) : Rd := { r with out := r.out ++ [t] }
def flushed (r : Rd) : List S43 := if r.tx = [] then r.out else r.out ++ [⟨0, bs [], [], strOfNums r.tx⟩]
def flush (r : Rd) : Rd := { r with tx := [], pe := [], out := flushed r }
def start (r : Rd) (k : Int) (n d : ByteArray) : Rd := { flush r with op := true, tk := ⟨k, n, [], d⟩ }
def fin (r : Rd) : Rd := { r with op := false, tk := noTk, out := if r.op = true then r.out ++ [r.tk] else r.out }
def settle (r : Rd) (m : List Int) : Rd := { r with tx := r.tx ++ r.pe ++ m, pe := [] }
def dataM (r : Rd) (s b : Nat) : Rd :=
  if r.c.st = 1 then { (if s = 1 then settle r [] else r) with pe := [(b : Int)] }
  else if r.c.st = 2 then { r with pe := r.pe ++ [(b : Int)] }
  else if r.c.st = 3 then start r (if r.c.en = true then 2 else 1) (bs r.c.nm) (bs [])
  else if r.c.st = 11 then start r 4 (bs []) (bs [])
  else if r.c.st = 16 then start r 4 (bs []) (bs [b])
  else if r.c.st = 0 then (if s = 2 then { r with pe := [] } else settle r [(b : Int)])
  else r
def rawM (r : Rd) (n : List Nat) (b : Nat) : Rd :=
  if r.c.st = 17 then settle r [(b : Int)]
  else if r.c.st = 18 then { settle r [] with pe := [(b : Int)] }
  else if r.c.st = 19 then { r with pe := r.pe ++ [(b : Int)] }
  else if r.c.st = 4 ∨ r.c.st = 10 then start r 2 (bs n) (bs [])
  else if r.c.st = 0 then fin (start r 2 (bs n) (bs []))
  else r
def noteM (r : Rd) (s b : Nat) : Rd :=
  if r.c.st = 13 then { r with tk := ⟨3, bs [], [], bs []⟩ }
  else if r.c.st ≠ 0 then { r with tk := { r.tk with f3 := r.tk.f3 ++ bs [b] } }
  else if s = 15 then fin { r with tk := { r.tk with f3 := r.tk.f3.extract 0 (r.tk.f3.size - 2) } }
  else fin r
/-- The last of the pairs is changed. -/
def lastly (l : List S94) (g : S94 → S94) : List S94 := l.set (l.length - 1) (g (l.getD (l.length - 1) ⟨bs [], bs []⟩))
def tagM (r : Rd) (s b : Nat) : Rd :=
  if r.c.st = 3 then { r with tk := { r.tk with f1 := bs r.c.nm } }
  else if r.c.st = 5 then { r with tk := { r.tk with f2 := lastly (if s = 5 then r.tk.f2 else r.tk.f2 ++ [⟨bs [], bs []⟩]) fun x => { x with f0 := bs r.c.nm } } }
  else if r.c.st = 8 then (if s = 8 ∨ r.c.qu = 0 then { r with tk := { r.tk with f2 := lastly r.tk.f2 fun x => { x with f1 := x.f1 ++ bs [b] } } } else r)
  else if r.c.st = 0 ∨ r.c.st = 17 then fin r
  else r
def take (r : Rd) (b : Nat) : Rd :=
  let q : Rd := { r with c := flat (Trail.step attrOf false r.c b) }
  if r.c.st = 0 ∨ r.c.st = 1 ∨ r.c.st = 2 then dataM q r.c.st b
  else if r.c.st = 17 ∨ r.c.st = 18 ∨ r.c.st = 19 then rawM q r.c.nm b
  else if r.c.st = 11 ∨ r.c.st = 12 ∨ r.c.st = 13 ∨ r.c.st = 14 ∨ r.c.st = 15 ∨ r.c.st = 16 then noteM q r.c.st b
  else tagM q r.c.st b
def takes : Rd → List Nat → Rd
  | r, [] => r
  | r, b :: l => takes (take r b) l
/-- The tokens of a text. -/
def tokens (l : List Nat) : List S43 := flushed (takes {} l)
theorem takes_append : ∀ (r : Rd) (a b : List Nat), takes r (a ++ b) = takes (takes r a) b
  | r, [], b => rfl
  | r, x :: a, b => takes_append (take r x) a b
/-! #### Tokens only come -/
theorem flushed_pre (r : Rd) : r.out <+: flushed r := by
  unfold flushed
  split
  · exact List.prefix_refl _
  · exact List.prefix_append _ _
theorem start_pre (r : Rd) (k : Int) (n d : ByteArray) : r.out <+: (start r k n d).out := flushed_pre r
theorem fin_pre (r : Rd) : r.out <+: (fin r).out := by
  show r.out <+: (if r.op = true then r.out ++ [r.tk] else r.out)
  split
  · exact List.prefix_append _ _
  · exact List.prefix_refl _
theorem dataM_pre (r : Rd) (s b : Nat) : r.out <+: (dataM r s b).out := by
  unfold dataM
  repeat' split
  all_goals first
    | exact List.prefix_refl _
    | exact start_pre _ _ _ _
theorem rawM_pre (r : Rd) (n : List Nat) (b : Nat) : r.out <+: (rawM r n b).out := by
  unfold rawM
  repeat' split
  all_goals first
    | exact List.prefix_refl _
    | exact start_pre _ _ _ _
    | exact (start_pre _ _ _ _).trans (fin_pre _)
theorem noteM_pre (r : Rd) (s b : Nat) : r.out <+: (noteM r s b).out := by
  unfold noteM
  split
  · exact List.prefix_refl _
  · split
    · exact List.prefix_refl _
    · split
      · exact fin_pre { r with tk := { r.tk with f3 := r.tk.f3.extract 0 (r.tk.f3.size - 2) } }
      · exact fin_pre r
theorem tagM_pre (r : Rd) (s b : Nat) : r.out <+: (tagM r s b).out := by
  unfold tagM
  repeat' split
  all_goals first
    | exact List.prefix_refl _
    | exact fin_pre _
theorem take_pre (r : Rd) (b : Nat) : r.out <+: (take r b).out := by
  unfold take
  dsimp only
  repeat' split
  · exact dataM_pre { r with c := flat (Trail.step attrOf false r.c b) } _ _
  · exact rawM_pre { r with c := flat (Trail.step attrOf false r.c b) } _ _
  · exact noteM_pre { r with c := flat (Trail.step attrOf false r.c b) } _ _
  · exact tagM_pre { r with c := flat (Trail.step attrOf false r.c b) } _ _
theorem takes_pre : ∀ (l : List Nat) (r : Rd), r.out <+: (takes r l).out
  | [], r => List.prefix_refl _
  | b :: l, r => (take_pre r b).trans (takes_pre l _)
/-- What a text's tokens are but for a text at their end. -/
def butText (l : List S43) : List S43 := if (∃ t, l.getLast? = some t ∧ t.f0 = 0) then l.dropLast else l
theorem dropLast_pre (l : List S43) : l.dropLast <+: l := List.dropLast_prefix l
theorem butText_pre (r : Rd) : butText (flushed r) <+: r.out := by
  unfold flushed butText
  by_cases h : r.tx = []
  · rw [if_pos h]
    split
    · exact dropLast_pre _
    · exact List.prefix_refl _
  · rw [if_neg h]
    have : ∃ t, (r.out ++ [(⟨0, bs [], [], strOfNums r.tx⟩ : S43)]).getLast? = some t ∧ t.f0 = 0 := ⟨⟨0, bs [], [], strOfNums r.tx⟩, by simp, rfl⟩
    rw [if_pos this, List.dropLast_concat]
    exact List.prefix_refl _
/-- **What had ended as a token ahead of a cut is a token still.** -/
theorem tokens_keep (a b : List Nat) : butText (tokens a) <+: tokens (a ++ b) := by
  unfold tokens
  rw [takes_append]
  exact (butText_pre _).trans ((takes_pre b _).trans (flushed_pre _))
/-! #### The reader's context -/
theorem dataM_c (r : Rd) (s b : Nat) : (dataM r s b).c = r.c := by
  unfold dataM
  repeat' split
  all_goals rfl
theorem rawM_c (r : Rd) (n : List Nat) (b : Nat) : (rawM r n b).c = r.c := by
  unfold rawM
  repeat' split
  all_goals rfl
theorem noteM_c (r : Rd) (s b : Nat) : (noteM r s b).c = r.c := by
  unfold noteM
  repeat' split
  all_goals rfl
theorem tagM_c (r : Rd) (s b : Nat) : (tagM r s b).c = r.c := by
  unfold tagM
  repeat' split
  all_goals rfl
theorem take_c (r : Rd) (b : Nat) : (take r b).c = flat (Trail.step attrOf false r.c b) := by
  unfold take
  dsimp only
  repeat' split
  · exact dataM_c { r with c := flat (Trail.step attrOf false r.c b) } _ _
  · exact rawM_c { r with c := flat (Trail.step attrOf false r.c b) } _ _
  · exact noteM_c { r with c := flat (Trail.step attrOf false r.c b) } _ _
  · exact tagM_c { r with c := flat (Trail.step attrOf false r.c b) } _ _
theorem takes_c : ∀ (l : List Nat) (r : Rd) (c d : Cx), Inv c → r.c = flat c → steps attrOf true c l = some d → (takes r l).c = flat d
  | [], r, c, d, hi, hr, h => by cases h; exact hr
  | b :: l, r, c, d, hi, hr, h => by
    rw [steps] at h
    try dsimp only at h
    split at h
    · cases h
    · rename_i hn
      have hc : (take r b).c = flat (Trail.step attrOf true c b) := by rw [take_c, hr]; exact step_flat attrOf c b hi hn
      rcases inv_step attrOf attrOf_le c b hi with hb | hv
      · exact absurd hb hn
      · exact takes_c l _ _ d hv hc h
end Go.Proofs.YtfplocpjdjjoaaaDoor.Ctxs
namespace Go.Proofs.YtfplocpjdjjoaaaDoor.Ctxs
open Go Go.RowKit Go.Proofs.YtfplocpjdjjoaaaDoor.PWholeTrailers Go.Proofs.YtfplocpjdjjoaaaDoor.Trail Go.Proofs.YtfplocpjdjjoaaaDoorW.PrintWords
set_option linter.unusedVariables false
set_option linter.unusedSimpArgs false
theorem closes_st (e : Nat) : (closes e).st = 0 ∨ (closes e).st = 17 := by
  unfold closes
  split
  · exact .inl rfl
  · exact .inr rfl
theorem grown_st (c : Cx) (b : Nat) : (grown c b).st = 20 ∨ (grown c b).st = c.st := by
  unfold grown
  split
  · exact .inl rfl
  · exact .inr rfl
theorem go02 (f : List Nat → Nat) (c : Cx) (b : Nat) (h : c.st = 0 ∨ c.st = 1 ∨ c.st = 2) : (Trail.step f false c b).st = 0 ∨ (Trail.step f false c b).st = 1 ∨ (Trail.step f false c b).st = 2 ∨ (Trail.step f false c b).st = 3 ∨ (Trail.step f false c b).st = 11 ∨ (Trail.step f false c b).st = 16 := by
  have m0 : ∀ k (c : Cx), c.st = 0 → (Trail.move f false (k + 1) c b).st = 0 ∨ (Trail.move f false (k + 1) c b).st = 1 := fun k c hc => by
    rw [Trail.move, if_pos hc]
    split
    · exact .inr rfl
    · exact .inl hc
  unfold Trail.step
  rcases h with h | h | h
  · rcases m0 7 c h with q | q
    · exact .inl q
    · exact .inr (.inl q)
  · rw [Trail.move, if_neg (by omega), if_pos h]
    unfold opened
    split
    · rename_i to_ ht
      repeat' split at ht
      all_goals cases ht
      all_goals simp
    · rcases m0 6 { c with st := 0 } rfl with q | q
      · exact .inl q
      · exact .inr (.inl q)
  · rw [Trail.move, if_neg (by omega), if_neg (by omega), if_pos h]
    unfold closed
    repeat' split
    all_goals simp
theorem goRaw (f : List Nat → Nat) (c : Cx) (b : Nat) (h : c.st = 17 ∨ c.st = 18 ∨ c.st = 19) : (Trail.step f false c b).st = 17 ∨ (Trail.step f false c b).st = 18 ∨ (Trail.step f false c b).st = 19 ∨ (Trail.step f false c b).st = 4 ∨ (Trail.step f false c b).st = 10 ∨ (Trail.step f false c b).st = 0 ∨ (Trail.step f false c b).st = 20 := by
  have hr : ∀ c : Cx, (rawEnd c b false).st = 17 ∨ (rawEnd c b false).st = 18 := fun c => by
    unfold rawEnd
    rw [fed_plain]
    dsimp only
    split
    · exact .inr rfl
    · exact .inl rfl
  have hr' : ∀ c : Cx, (rawEnd c b false).st = 17 ∨ (rawEnd c b false).st = 18 ∨ (rawEnd c b false).st = 19 ∨ (rawEnd c b false).st = 4 ∨ (rawEnd c b false).st = 10 ∨ (rawEnd c b false).st = 0 ∨ (rawEnd c b false).st = 20 := fun c => by
    rcases hr c with q | q <;> simp [q]
  unfold Trail.step
  rw [Trail.move, if_neg (by omega), if_neg (by omega), if_neg (by omega), if_neg (by omega), if_neg (by omega), if_pos (by omega)]
  unfold raw
  dsimp only
  split
  · simp
  · split
    · simp [bad]
    · split
      · split
        · simp [bad]
        · unfold tag
          dsimp only
          repeat' split
          all_goals first
            | omega
            | (simp [within, bad]; done)
            | (have := closes_st 0; simp; omega)
      · split
        · rename_i q
          simp [q.1]
        · split
          · rw [fed_plain]
            dsimp only
            split
            · rename_i q
              exact absurd q (by decide)
            · exact hr' _
          · exact hr' _
theorem goNote (f : List Nat → Nat) (c : Cx) (b : Nat) (h : c.st = 11 ∨ c.st = 12 ∨ c.st = 13 ∨ c.st = 14 ∨ c.st = 15 ∨ c.st = 16) : Trail.step f false c b = note c b := by
  unfold Trail.step
  rw [Trail.move, if_neg (by omega), if_neg (by omega), if_neg (by omega), if_neg (by omega), if_neg (by omega), if_neg (by omega)]
theorem note_to (c : Cx) (b : Nat) (h : c.st = 11 ∨ c.st = 12 ∨ c.st = 13 ∨ c.st = 14 ∨ c.st = 15 ∨ c.st = 16) : (note c b).st = 0 ∨ (note c b).st = 20 ∨ (note c b).st = 12 ∨ (note c b).st = 13 ∨ (note c b).st = 14 ∨ (note c b).st = 15 ∧ (note c b).da = 0 ∨ (note c b).st = 15 ∧ c.st = 14 ∧ (note c b).da = 2 ∨ (note c b).st = 15 ∧ c.st = 15 ∧ (note c b).da ≤ c.da + 1 ∨ (note c b).st = 16 := by
  unfold note
  repeat' split
  all_goals first
    | (simp [bad]; done)
    | (right; right; right; right; right; right; left; refine ⟨rfl, ?_, rfl⟩; omega)
    | (right; right; right; right; right; right; right; left; refine ⟨rfl, ?_, Nat.min_le_left _ _⟩; omega)
    | (simp_all; done)
    | omega
theorem note_end (c : Cx) (b : Nat) (h : c.st = 15) (h0 : (note c b).st = 0) : c.da = 2 := by
  unfold note at h0
  rw [if_neg (by omega), if_neg (by omega), if_pos h] at h0
  split at h0
  · omega
  · split at h0
    · cases h0
    · split at h0 <;> cases h0
/-- What a byte of a tag leads to. -/
def TagTo (c d : Cx) : Prop := d.st = 20 ∨ d.st = 3 ∧ c.st = 3 ∨ d.st = 4 ∨ d.st = 5 ∨ d.st = 6 ∧ (c.st = 5 ∨ c.st = 6) ∨ d.st = 7 ∧ (c.st = 5 ∨ c.st = 6 ∨ c.st = 7) ∨ d.st = 8 ∧ (c.st = 7 ∨ c.st = 8) ∨ d.st = 9 ∨ d.st = 10 ∨ d.st = 0 ∨ d.st = 17
theorem tagTo_closes (c : Cx) (e : Nat) : TagTo c (closes e) := by
  have := closes_st e
  unfold TagTo
  omega
theorem go9 (f : List Nat → Nat) (k : Nat) (c d : Cx) (b : Nat) (h : d.st = 9) : TagTo c (Trail.move f false (k + 1) d b) := by
  rw [move_tag _ _ _ _ _ ⟨by omega, by omega, by omega⟩]
  have ht : tag f d b = if Trail.blank b then (within d 4, false) else if b = 47 then (within d 10, false) else if b = 62 then (closes d.el, false) else (bad, false) := by
    unfold tag
    rw [if_neg (by omega), if_pos h]
  rw [ht]
  by_cases q1 : Trail.blank b = true
  · rw [if_pos q1]; exact .inr (.inr (.inl rfl))
  · rw [if_neg q1]
    by_cases q2 : b = 47
    · rw [if_pos q2]; unfold TagTo; simp [within]
    · rw [if_neg q2]
      by_cases q3 : b = 62
      · rw [if_pos q3]; exact tagTo_closes _ _
      · rw [if_neg q3]; exact .inl rfl
theorem go5 (f : List Nat → Nat) (k : Nat) (c d : Cx) (b : Nat) (h : d.st = 5) (hn : d.nm = [] → Trail.blank b = false) (hc : d.nm ≠ [] → c.st = 5) : TagTo c (Trail.move f false (k + 2) d b) := by
  rw [move_tag _ _ _ _ _ ⟨by omega, by omega, by omega⟩]
  have ht : tag f d b = named f d b := by
    unfold tag
    rw [if_neg (by omega), if_neg (by omega), if_neg (by omega), if_neg (by omega), if_neg (by omega)]
  rw [ht]
  unfold named
  split
  · rename_i q
    exact .inr (.inr (.inr (.inr (.inr (.inl ⟨rfl, .inl (hc q.2)⟩)))))
  · split
    · exact go9 f k c (within d 9) b rfl
    · split
      · rename_i q
        have hne : d.nm ≠ [] := fun e => by rw [hn e] at q; cases q
        exact .inr (.inr (.inr (.inr (.inl ⟨rfl, .inl (hc hne)⟩))))
      · split
        · omega
        · split
          · exact .inl rfl
          · rcases grown_st d b with q | q
            · exact .inl q
            · exact .inr (.inr (.inr (.inl (q.trans h))))
theorem go4 (f : List Nat → Nat) (k : Nat) (c d : Cx) (b : Nat) (h : d.st = 4) (hn : d.nm = []) : TagTo c (Trail.move f false (k + 3) d b) := by
  rw [move_tag _ _ _ _ _ ⟨by omega, by omega, by omega⟩]
  have ht : tag f d b = if Trail.blank b then (d, false) else if b = 47 ∨ b = 62 then (within d 9, true) else if b = 61 then (bad, false) else ({ d with st := 5 }, true) := by
    unfold tag
    rw [if_neg (by omega), if_neg (by omega), if_neg (by omega), if_pos h]
  rw [ht]
  split
  · exact .inr (.inr (.inl h))
  · rename_i hb
    split
    · exact go9 f (k + 1) c (within d 9) b rfl
    · split
      · exact .inl rfl
      · exact go5 f k c { d with st := 5 } b rfl (fun _ => by simpa using hb) (fun q => absurd hn q)
theorem value_to (c : Cx) (b : Nat) (h : c.st = 8) : TagTo c (value c b) := by
  have hu : ∀ c : Cx, (url c b).st = 20 ∨ (url c b).st = c.st := fun c => by
    unfold url
    dsimp only
    repeat' split
    all_goals first
      | exact .inl rfl
      | exact .inr rfl
  have hc : ∀ s, (code c b s).st = 20 ∨ (code c b s).st = c.st := fun s => by
    rcases code_flat c b s with q | q
    · rw [q]; exact .inl rfl
    · exact .inr q.2.1
  have h8 : ∀ d : Cx, d.st = 20 ∨ d.st = c.st → TagTo c d := fun d q => q.elim .inl (fun q => .inr (.inr (.inr (.inr (.inr (.inr (.inl ⟨q.trans h, .inr h⟩)))))))
  unfold value
  dsimp only
  repeat' split
  all_goals first
    | exact tagTo_closes _ _
    | exact h8 _ (hu c)
    | exact h8 _ (hc _)
    | exact h8 _ (.inr rfl)
    | (unfold TagTo; simp [within, bad]; done)
theorem goTag (f : List Nat → Nat) (c : Cx) (b : Nat) (h : 3 ≤ c.st ∧ c.st ≤ 10) (h4 : c.st = 4 → c.nm = []) (h5 : c.st = 5 → c.nm ≠ []) (h6 : c.st = 6 → c.nm ≠ []) : TagTo c (Trail.step f false c b) := by
  unfold Trail.step
  have hs : c.st = 3 ∨ c.st = 4 ∨ c.st = 5 ∨ c.st = 6 ∨ c.st = 7 ∨ c.st = 8 ∨ c.st = 9 ∨ c.st = 10 := by omega
  rcases hs with s | s | s | s | s | s | s | s
  · rw [move_tag _ _ _ _ _ ⟨by omega, by omega, by omega⟩]
    unfold tag
    rw [if_pos s]
    split
    · rcases grown_st c b with q | q
      · exact .inl q
      · exact .inr (.inl ⟨q.trans s, s⟩)
    · exact go9 f 6 c (within (if c.en = true then c else { c with el := Trail.elemOf c.nm }) 9) b rfl
  · exact go4 f 5 c c b s (h4 s)
  · exact go5 f 6 c c b s (fun q => absurd q (h5 s)) (fun _ => s)
  · rw [move_tag _ _ _ _ _ ⟨by omega, by omega, by omega⟩]
    have ht : tag f c b = named f c b := by
      unfold tag
      rw [if_neg (by omega), if_neg (by omega), if_neg (by omega), if_neg (by omega), if_neg (by omega)]
    rw [ht]
    unfold named
    split
    · exact .inr (.inr (.inr (.inr (.inr (.inl ⟨rfl, .inr (.inl s)⟩)))))
    · split
      · exact go9 f 6 c (within c 9) b rfl
      · split
        · exact .inr (.inr (.inr (.inr (.inl ⟨rfl, .inr s⟩))))
        · split
          · exact go4 f 4 c (within c 4) b rfl rfl
          · (rename_i q; exact absurd rfl q)
  · rw [move_tag _ _ _ _ _ ⟨by omega, by omega, by omega⟩]
    have ht : tag f c b = Trail.begun c b := by
      unfold tag
      rw [if_neg (by omega), if_neg (by omega), if_neg (by omega), if_neg (by omega), if_pos s]
    rw [ht]
    unfold Trail.begun
    split
    · exact .inr (.inr (.inr (.inr (.inr (.inl ⟨s, .inr (.inr s)⟩)))))
    · split
      · exact .inl rfl
      · split
        · exact .inr (.inr (.inr (.inr (.inr (.inr (.inl ⟨rfl, .inl s⟩))))))
        · show TagTo c (Trail.move f false 7 { c with st := 8 } b)
          rw [move_value _ _ _ _ _ rfl]
          have := value_to { c with st := 8 } b rfl
          unfold TagTo at this ⊢
          dsimp only at this
          omega
  · rw [move_value _ _ _ _ _ s]
    exact value_to c b s
  · exact go9 f 7 c c b s
  · rw [move_tag _ _ _ _ _ ⟨by omega, by omega, by omega⟩]
    have ht : tag f c b = if b = 62 then (closes c.el, false) else (within c 4, true) := by
      unfold tag
      rw [if_neg (by omega), if_neg (by omega), if_pos s]
    rw [ht]
    split
    · exact tagTo_closes _ _
    · exact go4 f 4 c (within c 4) b rfl rfl
/-- What holds of a reader behind i bytes. -/
structure Ok (r : Rd) (i : Nat) : Prop where
  tx : r.tx.length + r.pe.length ≤ i
  f3 : r.tk.f3.size ≤ i
  ats : r.tk.f2.length ≤ i
  val : ∀ x ∈ r.tk.f2, x.f1.size ≤ i
  out : r.out.length ≤ 2 * i
  has : r.c.st = 5 ∨ r.c.st = 6 ∨ r.c.st = 7 ∨ r.c.st = 8 → r.tk.f2 ≠ []
  da : r.c.st = 15 → r.c.da ≤ r.tk.f3.size
  d14 : r.c.st = 14 → 1 ≤ r.tk.f3.size
theorem ok_zero : Ok {} 0 := ⟨Nat.le_refl _, Nat.le_refl _, Nat.le_refl _, (fun x hx => by cases hx), Nat.le_refl _, (fun e => by rcases e with e | e | e | e <;> cases e), (fun e => by cases e), (fun e => by cases e)⟩
theorem nil_size : (bs []).size = 0 := rfl
theorem flushed_len (r : Rd) : (flushed r).length ≤ r.out.length + 1 := by
  unfold flushed
  split
  · omega
  · simp
theorem ok_start (r : Rd) (i : Nat) (k : Int) (n d : ByteArray) (ho : r.out.length ≤ 2 * i) (hd : d.size ≤ 1) (hs : r.c.st < 5 ∨ 8 < r.c.st) (h1 : r.c.st ≠ 15) (h2 : r.c.st ≠ 14) : Ok (start r k n d) (i + 1) := by
  have hf := flushed_len r
  exact ⟨by simp [start, flush], by show d.size ≤ _; omega, by simp [start], by simp [start], by show (flushed r).length ≤ _; omega, fun q => by have : (start r k n d).c = r.c := rfl; rw [this] at q; omega, fun q => absurd q h1, fun q => absurd q h2⟩
theorem fin_len (r : Rd) : (fin r).out.length ≤ r.out.length + 1 := by
  show (if r.op = true then r.out ++ [r.tk] else r.out).length ≤ _
  split
  · simp
  · omega
theorem ok_fin (r : Rd) (i : Nat) (ho : r.out.length + 1 ≤ 2 * i) (ht : r.tx.length + r.pe.length ≤ i) (hs : r.c.st < 5 ∨ 8 < r.c.st) (h1 : r.c.st ≠ 15) (h2 : r.c.st ≠ 14) : Ok (fin r) i := by
  have hf := fin_len r
  exact ⟨ht, by simp [fin, noTk, nil_size], by simp [fin, noTk], by simp [fin, noTk], by omega, fun q => by have : (fin r).c = r.c := rfl; rw [this] at q; omega, fun q => absurd q h1, fun q => absurd q h2⟩
theorem ok_plain {r q : Rd} {i j : Nat} (h : Ok r i) (hij : i ≤ j) (ht : q.tx.length + q.pe.length ≤ j) (hk : q.tk = r.tk) (ho : q.out = r.out) (hs : q.c.st < 5 ∨ 8 < q.c.st) (h1 : q.c.st ≠ 15) (h2 : q.c.st ≠ 14) : Ok q j :=
  ⟨ht, by rw [hk]; exact Nat.le_trans h.f3 hij, by rw [hk]; exact Nat.le_trans h.ats hij, fun x hx => by rw [hk] at hx; exact Nat.le_trans (h.val x hx) hij, by rw [ho]; have := h.out; omega, fun e => by omega, fun e => absurd e h1, fun e => absurd e h2⟩
theorem ok_data (r : Rd) (i : Nat) (h : Ok r i) (b : Nat) (c : Cx) (hc : c.st = 0 ∨ c.st = 1 ∨ c.st = 2 ∨ c.st = 3 ∨ c.st = 11 ∨ c.st = 16) (s : Nat) : Ok (dataM { r with c := c } s b) (i + 1) := by
  have ht := h.tx
  have ho := h.out
  unfold dataM
  dsimp only
  repeat' split
  all_goals first
    | exact ok_start _ i _ _ _ ho (by simp [nil_size, bs_size]) (by show c.st < 5 ∨ 8 < c.st; omega) (by show c.st ≠ 15; omega) (by show c.st ≠ 14; omega)
    | (refine ok_plain h (Nat.le_succ i) ?_ rfl rfl ?_ ?_ ?_
       · simp [settle]; omega
       · show c.st < 5 ∨ 8 < c.st; omega
       · show c.st ≠ 15; omega
       · show c.st ≠ 14; omega)
theorem ok_raw (r : Rd) (i : Nat) (h : Ok r i) (b : Nat) (c : Cx) (hc : c.st = 17 ∨ c.st = 18 ∨ c.st = 19 ∨ c.st = 4 ∨ c.st = 10 ∨ c.st = 0 ∨ c.st = 20) (n : List Nat) : Ok (rawM { r with c := c } n b) (i + 1) := by
  have ht := h.tx
  have ho := h.out
  unfold rawM
  dsimp only
  repeat' split
  all_goals first
    | exact ok_start _ i _ _ _ ho (by simp [nil_size, bs_size]) (by show c.st < 5 ∨ 8 < c.st; omega) (by show c.st ≠ 15; omega) (by show c.st ≠ 14; omega)
    | (refine ok_fin _ (i + 1) ?_ ?_ ?_ ?_ ?_
       · have : (flushed { r with c := c }).length ≤ r.out.length + 1 := flushed_len _
         show (flushed { r with c := c }).length + 1 ≤ _
         omega
       · simp [start, flush]
       · show c.st < 5 ∨ 8 < c.st; omega
       · show c.st ≠ 15; omega
       · show c.st ≠ 14; omega)
    | (refine ok_plain h (Nat.le_succ i) ?_ rfl rfl ?_ ?_ ?_
       · simp [settle]; omega
       · show c.st < 5 ∨ 8 < c.st; omega
       · show c.st ≠ 15; omega
       · show c.st ≠ 14; omega)
theorem ok_note (r : Rd) (i : Nat) (h : Ok r i) (b : Nat) (hs : r.c.st = 11 ∨ r.c.st = 12 ∨ r.c.st = 13 ∨ r.c.st = 14 ∨ r.c.st = 15 ∨ r.c.st = 16) (c : Cx) (hc : c.st = (note r.c b).st) (hd : c.da = (note r.c b).da) : Ok (noteM { r with c := c } r.c.st b) (i + 1) := by
  have ht := h.tx
  have ho := h.out
  have h3 := h.f3
  have hda := h.da
  have h14 := h.d14
  have hto := note_to r.c b hs
  rw [← hc, ← hd] at hto
  unfold noteM
  dsimp only
  split
  · rename_i q
    exact ⟨by show r.tx.length + r.pe.length ≤ _; omega, by simp [nil_size], by simp, by simp, by show r.out.length ≤ _; omega, fun e => by dsimp only at e; omega, fun e => by dsimp only at e; omega, fun e => by dsimp only at e; omega⟩
  · split
    · rename_i q q0
      have hsz : (r.tk.f3 ++ bs [b]).size = r.tk.f3.size + 1 := by rw [ByteArray.size_append, bs_size]; rfl
      refine ⟨by show r.tx.length + r.pe.length ≤ _; omega, by show (r.tk.f3 ++ bs [b]).size ≤ _; omega, Nat.le_trans h.ats (Nat.le_succ _), fun x hx => Nat.le_trans (h.val x hx) (Nat.le_succ _), by show r.out.length ≤ _; omega, fun e => ?_, fun e => ?_, fun e => ?_⟩
      · dsimp only at e
        omega
      · show c.da ≤ (r.tk.f3 ++ bs [b]).size
        dsimp only at e
        omega
      · show 1 ≤ (r.tk.f3 ++ bs [b]).size
        omega
    · rename_i q q0
      have q0 : c.st = 0 := by simpa using q0
      split
      · exact ok_fin _ (i + 1) (by show r.out.length + 1 ≤ _; omega) (by show r.tx.length + r.pe.length ≤ _; omega) (by show c.st < 5 ∨ 8 < c.st; omega) (by show c.st ≠ 15; omega) (by show c.st ≠ 14; omega)
      · exact ok_fin _ (i + 1) (by show r.out.length + 1 ≤ _; omega) (by show r.tx.length + r.pe.length ≤ _; omega) (by show c.st < 5 ∨ 8 < c.st; omega) (by show c.st ≠ 15; omega) (by show c.st ≠ 14; omega)
theorem lastly_len (l : List S94) (g : S94 → S94) : (lastly l g).length = l.length := by simp [lastly]
theorem lastly_val (l : List S94) (g : S94 → S94) (i : Nat) (h : ∀ x ∈ l, x.f1.size ≤ i) (hg : ∀ x : S94, x.f1.size ≤ i → (g x).f1.size ≤ i + 1) : ∀ x ∈ lastly l g, x.f1.size ≤ i + 1 := by
  intro x hx
  rcases List.mem_or_eq_of_mem_set hx with hx | rfl
  · exact Nat.le_trans (h x hx) (Nat.le_succ _)
  · refine hg _ ?_
    rw [List.getD_eq_getElem?_getD]
    cases hq : l[l.length - 1]? with
    | none => simp [nil_size]
    | some y => exact h y (List.mem_of_getElem? hq)
theorem ok_pairs {r q : Rd} {i : Nat} (h : Ok r i) (h1 : q.tx = r.tx) (h2 : q.pe = r.pe) (h3 : q.out = r.out) (h4 : q.tk.f3 = r.tk.f3) (l : List S94) (g : S94 → S94) (hl : q.tk.f2 = lastly l g) (hll : l.length ≤ i + 1) (hv : ∀ x ∈ l, x.f1.size ≤ i) (hg : ∀ x : S94, x.f1.size ≤ i → (g x).f1.size ≤ i + 1) (hne : l ≠ []) (h15 : q.c.st ≠ 15) (h14 : q.c.st ≠ 14) : Ok q (i + 1) := by
  have ht := h.tx
  have ho := h.out
  have hf := h.f3
  refine ⟨by rw [h1, h2]; omega, by rw [h4]; omega, by rw [hl, lastly_len]; exact hll, ?_, by rw [h3]; omega, fun _ q2 => ?_, fun e => absurd e h15, fun e => absurd e h14⟩
  · rw [hl]
    exact lastly_val l g i hv hg
  · rw [hl] at q2
    have q3 := congrArg List.length q2
    rw [lastly_len] at q3
    exact hne (List.eq_nil_of_length_eq_zero q3)
theorem ok_same {r q : Rd} {i : Nat} (h : Ok r i) (h1 : q.tx = r.tx) (h2 : q.pe = r.pe) (h3 : q.out = r.out) (h4 : q.tk.f3 = r.tk.f3) (h5 : q.tk.f2 = r.tk.f2) (hh : q.c.st = 5 ∨ q.c.st = 6 ∨ q.c.st = 7 ∨ q.c.st = 8 → r.tk.f2 ≠ []) (h15 : q.c.st ≠ 15) (h14 : q.c.st ≠ 14) : Ok q (i + 1) := by
  have ht := h.tx
  have ho := h.out
  have hf := h.f3
  have ha := h.ats
  exact ⟨by rw [h1, h2]; omega, by rw [h4]; omega, by rw [h5]; omega, fun x hx => by rw [h5] at hx; exact Nat.le_trans (h.val x hx) (Nat.le_succ _), by rw [h3]; omega, fun e => by rw [h5]; exact hh e, fun e => absurd e h15, fun e => absurd e h14⟩
theorem ok_tag (r : Rd) (i : Nat) (h : Ok r i) (b : Nat) (c : Cx) (hc : TagTo r.c c) : Ok (tagM { r with c := c } r.c.st b) (i + 1) := by
  have ht := h.tx
  have ho := h.out
  have hh := h.has
  have ha := h.ats
  unfold TagTo at hc
  have e15 : c.st ≠ 15 := by omega
  have e14 : c.st ≠ 14 := by omega
  unfold tagM
  dsimp only
  split
  · exact ok_same h rfl rfl rfl rfl rfl (fun e => by dsimp only at e; omega) e15 e14
  · split
    · by_cases s5 : r.c.st = 5
      · refine ok_pairs h rfl rfl rfl rfl r.tk.f2 (fun x => { x with f0 := bs c.nm }) ?_ (by omega) h.val (fun x hx => Nat.le_trans hx (Nat.le_succ _)) (hh (.inl s5)) e15 e14
        dsimp only
        rw [if_pos s5]
      · refine ok_pairs h rfl rfl rfl rfl (r.tk.f2 ++ [⟨bs [], bs []⟩]) (fun x => { x with f0 := bs c.nm }) ?_ (by simp; omega) ?_ (fun x hx => Nat.le_trans hx (Nat.le_succ _)) (by simp) e15 e14
        · dsimp only
          rw [if_neg s5]
        · intro x hx
          rcases List.mem_append.1 hx with hx | hx
          · exact h.val x hx
          · rw [List.mem_singleton.1 hx]
            exact Nat.zero_le _
    · split
      · have hne : r.tk.f2 ≠ [] := hh (by omega)
        split
        · refine ok_pairs h rfl rfl rfl rfl r.tk.f2 (fun x => { x with f1 := x.f1 ++ bs [b] }) rfl (by omega) h.val (fun x hx => ?_) hne e15 e14
          show (x.f1 ++ bs [b]).size ≤ _
          rw [ByteArray.size_append, bs_size]
          simp; omega
        · exact ok_same h rfl rfl rfl rfl rfl (fun _ => hne) e15 e14
      · split
        · exact ok_fin _ (i + 1) (by show r.out.length + 1 ≤ _; omega) (by show r.tx.length + r.pe.length ≤ _; omega) (by show c.st < 5 ∨ 8 < c.st; omega) e15 e14
        · exact ok_same h rfl rfl rfl rfl rfl (fun e => hh (by dsimp only at e; omega)) e15 e14
/-- Of the contexts that a reader has. -/
structure OkC (c : Cx) : Prop where
  top : c.st ≤ 19
  n4 : c.st = 4 → c.nm = []
  n5 : c.st = 5 → c.nm ≠ []
  n6 : c.st = 6 → c.nm ≠ []
theorem okC_flat (c : Cx) (hi : Inv c) : OkC (flat c) := by
  have hne : c.st = 5 ∨ c.st = 6 → (flat c).nm ≠ [] := fun h' => by
    show (if c.st = 8 then [] else c.nm) ≠ []
    rw [if_neg (by omega)]
    have := (hi.attrName h').2.1
    intro q
    rw [q] at this
    simp at this
  refine ⟨hi.top, fun h => ?_, fun h => hne (.inl h), fun h => hne (.inr h)⟩
  have h' : c.st = 4 := h
  show (if c.st = 8 then [] else c.nm) = []
  rw [if_neg (by omega), hi.inTag (.inl h')]
theorem ok_take (r : Rd) (i : Nat) (h : Ok r i) (hc : OkC r.c) (b : Nat) : Ok (take r b) (i + 1) := by
  unfold take
  dsimp only
  split
  · rename_i q
    exact ok_data r i h b (flat (Trail.step attrOf false r.c b)) (go02 attrOf r.c b q) _
  · split
    · rename_i q
      exact ok_raw r i h b (flat (Trail.step attrOf false r.c b)) (goRaw attrOf r.c b q) _
    · split
      · rename_i q
        refine ok_note r i h b q (flat (Trail.step attrOf false r.c b)) ?_ ?_
        · show (Trail.step attrOf false r.c b).st = _; rw [goNote attrOf r.c b q]
        · show (Trail.step attrOf false r.c b).da = _; rw [goNote attrOf r.c b q]
      · rename_i q1 q2 q3
        have := hc.top
        have hs : 3 ≤ r.c.st ∧ r.c.st ≤ 10 := by omega
        exact ok_tag r i h b (flat (Trail.step attrOf false r.c b)) (goTag attrOf r.c b hs hc.n4 hc.n5 hc.n6)
end Go.Proofs.YtfplocpjdjjoaaaDoor.Ctxs
namespace Go.Proofs.YtfplocpjdjjoaaaDoor.Ctxs
open Go Go.RowKit Go.Proofs.YtfplocpjdjjoaaaDoor.PWholeTrailers Go.Proofs.YtfplocpjdjjoaaaDoor.Trail Go.Proofs.YtfplocpjdjjoaaaDoorW.PrintWords
set_option linter.unusedVariables false
set_option linter.unusedSimpArgs false
def rcs (r : Rd) (tv pv av : Value) (O : Nat) : Array Value := #[.int .u8 (r.c.st : Int), .int .u8 (r.c.el : Int), .bool r.c.en, .int .u8 (r.c.ak : Int), .int .u8 (r.c.qu : Int), .int .u8 (r.c.pa : Int), .int .u8 (r.c.su : Int), .bool r.c.es, .int .u8 (r.c.da : Int), .string (bs r.c.nm), tv, pv, .bool r.op, .int .u8 r.tk.f0, .string r.tk.f1, av, .string r.tk.f3, .func (.func 33) #[] #[.pointer (some ⟨O, 0, none⟩)], .bool false]
/-- What a reader's block leads to: its text, what is pending, the pairs of its token, and the tokens that were handed on (in the variable whose block is O). -/
structure Rows (B O : Nat) (w0 W : World) (tx pe : List Int) (ats : List S94) (out : List S43) (tv pv av ov : Value) : Prop where
  box : W.heap[O]? = some (.cells #[ov] 37 (0, 0))
  tx : (Kd.int .u8).R 5 W w0.heap.size (fun _ => True) tv tx
  pe : (Kd.int .u8).R 5 W w0.heap.size (fun _ => True) pv pe
  ats : k94.R 94 W w0.heap.size (fun _ => True) av ats
  out : Kd.N k43 43 W w0.heap.size (fun k => w0.heap.size ≤ k ∧ some k ≠ tv.ownBlock ∧ some k ≠ pv.ownBlock ∧ some k ≠ av.ownBlock ∧ k ≠ B ∧ k ≠ O) ov out
  tp : ∀ k, tv.ownBlock = some k → pv.ownBlock ≠ some k
  bw : Below w0.heap.size w0 W
  gl : Glob w0
  bB : w0.heap.size ≤ B
  bO : w0.heap.size ≤ O
  ty : ∃ cs, W.heap[B]? = some (.cells cs 91 (0, 0))
structure RdV (B O : Nat) (w0 W : World) (r : Rd) (tv pv av ov : Value) : Prop where
  blk : W.heap[B]? = some (.cells (rcs r tv pv av O) 91 (0, 0))
  rows : Rows B O w0 W r.tx r.pe r.tk.f2 r.out tv pv av ov
/-- A reader r lies at B. -/
def RdAt (B O : Nat) (w0 W : World) (r : Rd) : Prop := ∃ tv pv av ov, RdV B O w0 W r tv pv av ov
section
variable {B O : Nat} {w0 W W1 : World} {tx pe l : List Int} {ats m : List S94} {out : List S43} {tv pv av ov v1 : Value}
theorem Rows.lt (h : Rows B O w0 W tx pe ats out tv pv av ov) : B < W.heap.size := by
  obtain ⟨cs, hc⟩ := h.ty
  exact blk_lt hc
theorem Rows.glob (h : Rows B O w0 W tx pe ats out tv pv av ov) : Glob W := glob_below h.gl h.bw
theorem Rows.nB (h : Rows B O w0 W tx pe ats out tv pv av ov) : B ≠ O ∧ some B ≠ tv.ownBlock ∧ some B ≠ pv.ownBlock ∧ some B ≠ av.ownBlock ∧ some B ≠ ov.ownBlock := by
  obtain ⟨cs, hc⟩ := h.ty
  refine ⟨fun e => ?_, Kd.R_ne h.tx hc (by decide), Kd.R_ne h.pe hc (by decide), Kd.R_ne h.ats hc (by decide), Kd.N_ne h.out hc (by decide)⟩
  rw [e, h.box] at hc
  injection hc with hc
  injection hc with _ hc
  exact absurd hc (by decide)
theorem Rows.nO (h : Rows B O w0 W tx pe ats out tv pv av ov) : some O ≠ tv.ownBlock ∧ some O ≠ pv.ownBlock ∧ some O ≠ av.ownBlock ∧ some O ≠ ov.ownBlock :=
  ⟨Kd.R_ne h.tx h.box (by decide), Kd.R_ne h.pe h.box (by decide), Kd.R_ne h.ats h.box (by decide), Kd.N_ne h.out h.box (by decide)⟩
theorem type_ne {t t' : Nat} {v v' : Value} (h : ∀ k, v.ownBlock = some k → ∃ cells, W.heap[k]? = some (.cells cells t (0, 0))) (h' : ∀ k, v'.ownBlock = some k → ∃ cells, W.heap[k]? = some (.cells cells t' (0, 0))) (hne : t ≠ t') (k : Nat) (e : v.ownBlock = some k) : some k ≠ v'.ownBlock := by
  intro e'
  obtain ⟨c1, h1⟩ := h k e
  obtain ⟨c2, h2⟩ := h' k e'.symm
  rw [h1] at h2
  injection h2 with h2
  injection h2 with _ h2
  exact hne h2
/-- All but the reader's own block is kept. -/
theorem Rows.kept (h : Rows B O w0 W tx pe ats out tv pv av ov) (hk : Kept W W1 (fun k => k = B)) (hb : Below w0.heap.size w0 W1) (ty : ∃ cs, W1.heap[B]? = some (.cells cs 91 (0, 0))) : Rows B O w0 W1 tx pe ats out tv pv av ov := by
  obtain ⟨n1, n2, n3, n4, n5⟩ := h.nB
  refine ⟨blk_kept h.box hk (fun e => n1 e.symm), ?_, ?_, ?_, ?_, h.tp, hb, h.gl, h.bB, h.bO, ty⟩
  · exact Kd.R_mono (Kd.R_kept (Kd.R_tight rfl h.tx) hk (fun k e q => n2 (q ▸ e))) (fun _ _ => trivial)
  · exact Kd.R_mono (Kd.R_kept (Kd.R_tight rfl h.pe) hk (fun k e q => n3 (q ▸ e))) (fun _ _ => trivial)
  · exact Kd.R_mono (Kd.R_kept (Kd.R_tight rfl h.ats) hk (fun k e q => n4 (q ▸ e))) (fun _ _ => trivial)
  · exact Kd.N_kept h.out hk (fun k hk' q => hk'.2.2.2.2.1 q)
theorem Rows.below (h : Rows B O w0 W tx pe ats out tv pv av ov) (hb : Below W.heap.size W W1) : Rows B O w0 W1 tx pe ats out tv pv av ov := by
  obtain ⟨cs, hc⟩ := h.ty
  exact h.kept (Kept.of_below hb _) (below_step h.bw hb) ⟨cs, (hb.block B (blk_lt hc)).trans hc⟩
theorem Rows.notx (h : Rows B O w0 W tx pe ats out tv pv av ov) : Rows B O w0 W [] pe ats out (.slice none 0 0) pv av ov :=
  ⟨h.box, Kd.R_nil _ _ _ _ _, h.pe, h.ats, Kd.N_mono h.out (fun k q => ⟨q.1, by simp [Value.ownBlock], q.2.2⟩), (fun k e => by simp [Value.ownBlock] at e), h.bw, h.gl, h.bB, h.bO, h.ty⟩
theorem Rows.nope (h : Rows B O w0 W tx pe ats out tv pv av ov) : Rows B O w0 W tx [] ats out tv (.slice none 0 0) av ov :=
  ⟨h.box, h.tx, Kd.R_nil _ _ _ _ _, h.ats, Kd.N_mono h.out (fun k q => ⟨q.1, q.2.1, by simp [Value.ownBlock], q.2.2.2⟩), (fun k e => by simp [Value.ownBlock]), h.bw, h.gl, h.bB, h.bO, h.ty⟩
theorem Rows.noats (h : Rows B O w0 W tx pe ats out tv pv av ov) : Rows B O w0 W tx pe [] out tv pv (.slice none 0 0) ov :=
  ⟨h.box, h.tx, h.pe, Kd.R_nil _ _ _ _ _, Kd.N_mono h.out (fun k q => ⟨q.1, q.2.1, q.2.2.1, by simp [Value.ownBlock], q.2.2.2.2⟩), h.tp, h.bw, h.gl, h.bB, h.bO, h.ty⟩
/-- The text has grown, or was laid anew. -/
theorem Rows.settx (h : Rows B O w0 W tx pe ats out tv pv av ov) (hg : W.grownBy W1 tv.ownBlock) (hat : v1.ownBlock = tv.ownBlock ∨ ∃ b, v1.ownBlock = some b ∧ W.heap.size ≤ b) (hR : (Kd.int .u8).R 5 W1 w0.heap.size (fun _ => True) v1 l) (hb : Below w0.heap.size w0 W1) : Rows B O w0 W1 l pe ats out v1 pv av ov := by
  obtain ⟨n1, n2, n3, n4, n5⟩ := h.nB
  obtain ⟨o1, o2, o3, o4⟩ := h.nO
  obtain ⟨cs, hc⟩ := h.ty
  refine ⟨(hg.block O (blk_lt h.box) o1).trans h.box, hR, ?_, ?_, ?_, ?_, hb, h.gl, h.bB, h.bO, ⟨cs, (hg.block B (blk_lt hc) n2).trans hc⟩⟩
  · exact Kd.R_mono (Kd.R_step (Kd.R_tight rfl h.pe) (fun k e hlt => hg.block k hlt (fun q => h.tp k q.symm e.symm))) (fun _ _ => trivial)
  · exact Kd.R_mono (Kd.R_step (Kd.R_tight rfl h.ats) (fun k e hlt => hg.block k hlt (type_ne (Kd.R_typed h.ats) (Kd.R_typed h.tx) (by decide) k e.symm))) (fun _ _ => trivial)
  · have := Kd.N_after (u := tv) (u1 := v1) (ok := fun k => w0.heap.size ≤ k ∧ some k ≠ pv.ownBlock ∧ some k ≠ av.ownBlock ∧ k ≠ B ∧ k ≠ O) (Kd.N_mono h.out (fun k q => ⟨⟨q.1, q.2.2⟩, q.2.1⟩)) hg hat
    exact Kd.N_mono this (fun k q => ⟨q.1.1, q.2, q.1.2⟩)
  · intro k e
    rcases hat with hat | ⟨b, hb2, hle⟩
    · exact h.tp k (hat ▸ e)
    · intro q
      have := Kd.R_lt h.pe k q
      rw [hb2] at e
      injection e with e
      omega
theorem Rows.setpe (h : Rows B O w0 W tx pe ats out tv pv av ov) (hg : W.grownBy W1 pv.ownBlock) (hat : v1.ownBlock = pv.ownBlock ∨ ∃ b, v1.ownBlock = some b ∧ W.heap.size ≤ b) (hR : (Kd.int .u8).R 5 W1 w0.heap.size (fun _ => True) v1 l) (hb : Below w0.heap.size w0 W1) : Rows B O w0 W1 tx l ats out tv v1 av ov := by
  obtain ⟨n1, n2, n3, n4, n5⟩ := h.nB
  obtain ⟨o1, o2, o3, o4⟩ := h.nO
  obtain ⟨cs, hc⟩ := h.ty
  refine ⟨(hg.block O (blk_lt h.box) o2).trans h.box, ?_, hR, ?_, ?_, ?_, hb, h.gl, h.bB, h.bO, ⟨cs, (hg.block B (blk_lt hc) n3).trans hc⟩⟩
  · exact Kd.R_mono (Kd.R_step (Kd.R_tight rfl h.tx) (fun k e hlt => hg.block k hlt (fun q => h.tp k e.symm q.symm))) (fun _ _ => trivial)
  · exact Kd.R_mono (Kd.R_step (Kd.R_tight rfl h.ats) (fun k e hlt => hg.block k hlt (type_ne (Kd.R_typed h.ats) (Kd.R_typed h.pe) (by decide) k e.symm))) (fun _ _ => trivial)
  · have := Kd.N_after (u := pv) (u1 := v1) (ok := fun k => w0.heap.size ≤ k ∧ some k ≠ tv.ownBlock ∧ some k ≠ av.ownBlock ∧ k ≠ B ∧ k ≠ O) (Kd.N_mono h.out (fun k q => ⟨⟨q.1, q.2.1, q.2.2.2⟩, q.2.2.1⟩)) hg hat
    exact Kd.N_mono this (fun k q => ⟨q.1.1, q.1.2.1, q.2, q.1.2.2⟩)
  · intro k e
    rcases hat with hat | ⟨b, hb2, hle⟩
    · rw [hat]; exact h.tp k e
    · intro q
      have := Kd.R_lt h.tx k e
      rw [hb2] at q
      injection q with q
      omega
theorem Rows.setats (h : Rows B O w0 W tx pe ats out tv pv av ov) (hg : W.grownBy W1 av.ownBlock) (hat : v1.ownBlock = av.ownBlock ∨ ∃ b, v1.ownBlock = some b ∧ W.heap.size ≤ b) (hR : k94.R 94 W1 w0.heap.size (fun _ => True) v1 m) (hb : Below w0.heap.size w0 W1) : Rows B O w0 W1 tx pe m out tv pv v1 ov := by
  obtain ⟨n1, n2, n3, n4, n5⟩ := h.nB
  obtain ⟨o1, o2, o3, o4⟩ := h.nO
  obtain ⟨cs, hc⟩ := h.ty
  refine ⟨(hg.block O (blk_lt h.box) o3).trans h.box, ?_, ?_, hR, ?_, h.tp, hb, h.gl, h.bB, h.bO, ⟨cs, (hg.block B (blk_lt hc) n4).trans hc⟩⟩
  · exact Kd.R_mono (Kd.R_step (Kd.R_tight rfl h.tx) (fun k e hlt => hg.block k hlt (type_ne (Kd.R_typed h.tx) (Kd.R_typed h.ats) (by decide) k e.symm))) (fun _ _ => trivial)
  · exact Kd.R_mono (Kd.R_step (Kd.R_tight rfl h.pe) (fun k e hlt => hg.block k hlt (type_ne (Kd.R_typed h.pe) (Kd.R_typed h.ats) (by decide) k e.symm))) (fun _ _ => trivial)
  · have := Kd.N_after (u := av) (u1 := v1) (ok := fun k => w0.heap.size ≤ k ∧ some k ≠ tv.ownBlock ∧ some k ≠ pv.ownBlock ∧ k ≠ B ∧ k ≠ O) (Kd.N_mono h.out (fun k q => ⟨⟨q.1, q.2.1, q.2.2.1, q.2.2.2.2⟩, q.2.2.2.1⟩)) hg hat
    exact Kd.N_mono this (fun k q => ⟨q.1.1, q.1.2.1, q.1.2.2.1, q.2, q.1.2.2.2⟩)
end
/-- The cells of a reader's block, and that none is frozen. -/
structure RCells (W : World) (B O : Nat) (r : Rd) (tv pv av : Value) : Prop where
  c0 : W.cell? ⟨B, 0, none⟩ = some (.int .u8 (r.c.st : Int))
  c1 : W.cell? ⟨B, 1, none⟩ = some (.int .u8 (r.c.el : Int))
  c2 : W.cell? ⟨B, 2, none⟩ = some (.bool r.c.en)
  c3 : W.cell? ⟨B, 3, none⟩ = some (.int .u8 (r.c.ak : Int))
  c4 : W.cell? ⟨B, 4, none⟩ = some (.int .u8 (r.c.qu : Int))
  c5 : W.cell? ⟨B, 5, none⟩ = some (.int .u8 (r.c.pa : Int))
  c6 : W.cell? ⟨B, 6, none⟩ = some (.int .u8 (r.c.su : Int))
  c7 : W.cell? ⟨B, 7, none⟩ = some (.bool r.c.es)
  c8 : W.cell? ⟨B, 8, none⟩ = some (.int .u8 (r.c.da : Int))
  c9 : W.cell? ⟨B, 9, none⟩ = some (.string (bs r.c.nm))
  c10 : W.cell? ⟨B, 10, none⟩ = some tv
  c11 : W.cell? ⟨B, 11, none⟩ = some pv
  c12 : W.cell? ⟨B, 12, none⟩ = some (.bool r.op)
  c13 : W.cell? ⟨B, 13, none⟩ = some (.int .u8 r.tk.f0)
  c14 : W.cell? ⟨B, 14, none⟩ = some (.string r.tk.f1)
  c15 : W.cell? ⟨B, 15, none⟩ = some av
  c16 : W.cell? ⟨B, 16, none⟩ = some (.string r.tk.f3)
  c17 : W.cell? ⟨B, 17, none⟩ = some (.func (.func 33) #[] #[.pointer (some ⟨O, 0, none⟩)])
  c18 : W.cell? ⟨B, 18, none⟩ = some (.bool false)
  fr : ∀ i, W.frozen? ⟨B, i, none⟩ = false
  lt : B < W.heap.size
theorem rcells {W : World} {B O : Nat} {r : Rd} {tv pv av : Value} (h : W.heap[B]? = some (.cells (rcs r tv pv av O) 91 (0, 0))) : RCells W B O r tv pv av := by
  refine ⟨?_, ?_, ?_, ?_, ?_, ?_, ?_, ?_, ?_, ?_, ?_, ?_, ?_, ?_, ?_, ?_, ?_, ?_, ?_, fun i => Joins.unfrozen_of_block h i, blk_lt h⟩ <;> simp [World.cell?, h, rcs]
theorem set_blk {W : World} {B i : Nat} {cs : Array Value} {t : Nat} (h : W.heap[B]? = some (.cells cs t (0, 0))) (v : Value) : (W.setCell ⟨B, i, none⟩ v).heap[B]? = some (.cells (cs.setIfInBounds i v) t (0, 0)) := Joins.block_setCell (i := i) h v
/-- The reader's block is laid anew. -/
theorem RdV.put {B O : Nat} {w0 W W1 : World} {r r1 : Rd} {tv pv av ov tv1 pv1 av1 : Value} (hr : Rows B O w0 W r1.tx r1.pe r1.tk.f2 r1.out tv1 pv1 av1 ov) (hk : Kept W W1 (fun k => k = B)) (hb : Below w0.heap.size w0 W1) (hc : W1.heap[B]? = some (.cells (rcs r1 tv1 pv1 av1 O) 91 (0, 0))) : RdAt B O w0 W1 r1 :=
  ⟨tv1, pv1, av1, ov, hc, hr.kept hk hb ⟨_, hc⟩⟩
end Go.Proofs.YtfplocpjdjjoaaaDoor.Ctxs
namespace Go.Proofs.YtfplocpjdjjoaaaDoor.Ctxs
open Go Go.RowKit Go.Proofs.YtfplocpjdjjoaaaDoor.PWholeTrailers Go.Proofs.YtfplocpjdjjoaaaDoor.Trail Go.Proofs.YtfplocpjdjjoaaaDoorW.PrintWords
set_option linter.unusedVariables false
set_option linter.unusedSimpArgs false
theorem info43 : (Tryd.prog.info? 43).map (fun i => (i.zero, i.size, i.bytes)) = some (some (.agg #[.int .u8 0, .string ⟨#[]⟩, .slice none 0 0, .string ⟨#[]⟩]), 4, 64) := by kernel_rfl
/-- What stands behind a token's being handed on. -/
def Told (O : Nat) (w0 W W' : World) (ok : Nat → Prop) (ov : Value) (out : List S43) (t : S43) : Prop :=
  ∃ ov', W'.heap[O]? = some (.cells #[ov'] 37 (0, 0)) ∧ Kd.N k43 43 W' w0.heap.size ok ov' (out ++ [t]) ∧ Below w0.heap.size w0 W' ∧ Kept W W' (fun k => k = O ∨ some k = ov.ownBlock) ∧ (ov'.ownBlock = ov.ownBlock ∨ ∃ b, ov'.ownBlock = some b ∧ W.heap.size ≤ b)
set_option maxHeartbeats 4000000 in
set_option maxRecDepth 100000 in
theorem tell_calls (O : Nat) (w0 W : World) (ov av : Value) (out : List S43) (t : S43) (ok okp : Nat → Prop) (hO : W.heap[O]? = some (.cells #[ov] 37 (0, 0))) (hN : Kd.N k43 43 W w0.heap.size ok ov out) (hP : Kd.FK k43 W okp t [.int .u8 t.f0, .string t.f1, av, .string t.f3]) (hK : ∀ k, okp k → ok k ∧ some k ≠ ov.ownBlock) (hF : ∀ k, W.heap.size ≤ k → ok k) (hokO : ∀ k, ok k → k ≠ O) (hB : Below w0.heap.size w0 W) (hb : w0.heap.size ≤ O) (hl : (out.length + 1) * 64 ≤ 140737488355328) :
    Calls Tryd.prog 33 #[.agg #[.int .u8 t.f0, .string t.f1, av, .string t.f3], .pointer (some ⟨O, 0, none⟩)] W fun e W' => e = .returned (.bool true) ∧ Told O w0 W W' ok ov out t := by
  have y0 : W.cell? ⟨O, 0, none⟩ = some ov := by simp [World.cell?, hO]
  have hlt : O < W.heap.size := blk_lt hO
  have HO := Aside0.mk hO
  have HN := Aside0.mk hN
  have HP := Aside0.mk hP
  have HK := Aside0.mk hK
  have HF := Aside0.mk hF
  have HOK := Aside0.mk hokO
  have HB := Aside0.mk hB
  have HBO := Aside0.mk hb
  have HL := Aside0.mk hl
  clear hO hN hP hK hF hokO hB hb hl
  go_enter Tryd.func33, Tryd.ntmps33
  go_wp2_with ((with_reducible refine gate_builtin (b := .append) (xs := #[.tmp 4, .tmp 6]) rfl ?_); at_builtin; refine Kd.N_append k43 (w0 := w0) (W := W.alloc (.cells #[.int .u8 t.f0, .string t.f1, av, .string t.f3] 43)) w0.heap.size rfl (.tmp 4) (.tmp 6) 37 43 (.agg #[.int .u8 0, .string ⟨#[]⟩, .slice none 0 0, .string ⟨#[]⟩]) 64 rfl Tryd.underlying37 info43 rfl (by decide) (by decide) ov out t [.int .u8 t.f0, .string t.f1, av, .string t.f3] ok okp rfl ?aX ?aP HK.out ?aF ?aN ?aB ?aS HL.out ?_; (case aX => show Value.slice (some ⟨W.heap.size + 1, 0, none⟩) 1 1 = _; rw [alloc_size]); (case aP => exact Kd.FK_below HP.out (below_alloc (Below.refl _ _) _)); (case aF => intro k hk; rw [alloc_size] at hk; exact HF.out k (by omega)); (case aN => exact Kd.N_alloc HN.out _); (case aB => exact below_alloc HB.out _); (case aS => have := HB.out.size; rw [alloc_size]; omega); intro v5 w5 hn hb hg hat; obtain ⟨A5, c5, rfl⟩ := Kd.N_slice hn; have HN5 := Aside0.mk hn; have HB5 := Aside0.mk hb; have HG5 := Aside0.mk hg; have HAT5 := Aside0.mk hat; have HBOX5 := Aside0.mk ((hg.block O (by rw [alloc_size]; omega) (Kd.N_ne HN.out HO.out (by decide))).trans ((alloc_old hlt).trans HO.out)); have g0 : w5.cell? ⟨O, 0, none⟩ = some ov := (by simp [World.cell?, HBOX5.out]); have gf : w5.frozen? ⟨O, 0, none⟩ = false := Joins.unfrozen_of_block HBOX5.out 0; clear hn hb hg hat)

  go_ret
  have e5 : (out ++ [t]).length = out.length + 1 := by simp
  have HN5' := HN5.out
  have HAT5' := HAT5.out
  rw [e5] at HN5' HAT5'
  refine ⟨rfl, .slice A5 (out.length + 1) c5, ?_, ?_, ?_, ?_, ?_⟩
  · exact set_blk HBOX5.out _
  · exact Kd.N_far HN5' (fun k hk => HOK.out k hk) _
  · exact HB5.out.setCell (p := ⟨O, 0, none⟩) HBO.out _
  · have h1 : Kept W (W.alloc (.cells #[.int .u8 t.f0, .string t.f1, av, .string t.f3] 43)) (fun k => k = O ∨ some k = ov.ownBlock) := (Kept.refl W _).alloc _
    exact (h1.of_grown HG5.out (fun k hk => .inl (.inr hk.symm))).setCell (p := ⟨O, 0, none⟩) (.inl (.inl rfl)) _
  · rcases HAT5' with q | ⟨b, q, hle⟩
    · exact .inl q
    · exact .inr ⟨b, q, by rw [alloc_size] at hle; omega⟩
theorem tell_at {v : Array Value} {V : World} (O : Nat) (w0 W : World) (ov av : Value) (out : List S43) (t : S43) (ok okp : Nat → Prop) (hv : v = #[.int .u8 t.f0, .string t.f1, av, .string t.f3]) (hV : Below W.heap.size W V) (hO : W.heap[O]? = some (.cells #[ov] 37 (0, 0))) (hN : Kd.N k43 43 W w0.heap.size ok ov out) (hP : Kd.FK k43 W okp t [.int .u8 t.f0, .string t.f1, av, .string t.f3]) (hK : ∀ k, okp k → ok k ∧ some k ≠ ov.ownBlock) (hF : ∀ k, W.heap.size ≤ k → ok k) (hokO : ∀ k, ok k → k ≠ O) (hB : Below w0.heap.size w0 W) (hb : w0.heap.size ≤ O) (hl : (out.length + 1) * 64 ≤ 140737488355328) :
    Calls Tryd.prog 33 #[.agg v, .pointer (some ⟨O, 0, none⟩)] V fun e W' => e = .returned (.bool true) ∧ Told O w0 W W' ok ov out t := by
  subst hv
  have hs := hV.size
  refine (tell_calls O w0 V ov av out t ok okp ((hV.block O (blk_lt hO)).trans hO) (Kd.N_below hN hV) (Kd.FK_below hP hV) hK (fun k hk => hF k (by omega)) hokO (below_step hB hV) hb hl).mono ?_
  rintro e W' ⟨rfl, ov', h1, h2, h3, h4, h5⟩
  refine ⟨rfl, ov', h1, h2, h3, (Kept.of_below hV _).then_ h4 (fun k hk => .inl hk), ?_⟩
  rcases h5 with q | ⟨b, q, hle⟩
  · exact .inl q
  · exact .inr ⟨b, q, by omega⟩
set_option maxHeartbeats 4000000 in
set_option maxRecDepth 100000 in
theorem give_calls (B O : Nat) (w0 W : World) (ov av : Value) (out : List S43) (t : S43) (ok okp : Nat → Prop) (y17 : W.cell? ⟨B, 17, none⟩ = some (.func (.func 33) #[] #[.pointer (some ⟨O, 0, none⟩)])) (y18 : W.cell? ⟨B, 18, none⟩ = some (.bool false)) (hlt : B < W.heap.size) (hO : W.heap[O]? = some (.cells #[ov] 37 (0, 0))) (hN : Kd.N k43 43 W w0.heap.size ok ov out) (hP : Kd.FK k43 W okp t [.int .u8 t.f0, .string t.f1, av, .string t.f3]) (hK : ∀ k, okp k → ok k ∧ some k ≠ ov.ownBlock) (hF : ∀ k, W.heap.size ≤ k → ok k) (hokO : ∀ k, ok k → k ≠ O) (hB : Below w0.heap.size w0 W) (hb : w0.heap.size ≤ O) (hl : (out.length + 1) * 64 ≤ 140737488355328) (hav : av.cells.toList = [av] ∧ av.oneCell' = true) :
    Calls Tryd.prog 81 #[.pointer (some ⟨B, 0, none⟩), .agg #[.int .u8 t.f0, .string t.f1, av, .string t.f3]] W fun e W' => (∃ v, e = .returned v) ∧ Told O w0 W W' ok ov out t := by
  have HO := Aside0.mk hO
  have HN := Aside0.mk hN
  have HP := Aside0.mk hP
  have HK := Aside0.mk hK
  have HF := Aside0.mk hF
  have HOK := Aside0.mk hokO
  have HB := Aside0.mk hB
  have HBO := Aside0.mk hb
  have HL := Aside0.mk hl
  have HOL := Aside0.mk (blk_lt hO)
  clear hO hN hP hK hF hokO hB hb hl
  go_enter Tryd.func81, Tryd.ntmps81
  go_wp2
  go_region_with (go_at_call 33; (with_reducible refine (tell_at O w0 W ov av out t ok okp ?hv (Below.drew ((Below.refl _ _).alloc (Nat.le_refl _) _)) HO.out HN.out HP.out HK.out HF.out HOK.out HB.out HBO.out HL.out).mono ?_); (case hv => rfl); rintro e w1 ⟨rfl, ht⟩; have HT := Aside0.mk ht; clear ht)
  all_goals
    go_wp2
    go_end0
    exact ⟨⟨_, rfl⟩, HT.out⟩
end Go.Proofs.YtfplocpjdjjoaaaDoor.Ctxs
namespace Go.Proofs.YtfplocpjdjjoaaaDoor.Ctxs
open Go Go.RowKit Go.Proofs.YtfplocpjdjjoaaaDoor.PWholeTrailers Go.Proofs.YtfplocpjdjjoaaaDoor.Trail Go.Proofs.YtfplocpjdjjoaaaDoorW.PrintWords
set_option linter.unusedVariables false
set_option linter.unusedSimpArgs false
section
variable {B O : Nat} {w0 W W1 : World} {tx pe l : List Int} {ats m : List S94} {out : List S43} {tv pv av ov v1 : Value} {t : S43}
theorem Rows.fresh (h : Rows B O w0 W tx pe ats out tv pv av ov) (k : Nat) (hk : W.heap.size ≤ k) : w0.heap.size ≤ k ∧ some k ≠ tv.ownBlock ∧ some k ≠ pv.ownBlock ∧ some k ≠ av.ownBlock ∧ k ≠ B ∧ k ≠ O :=
  ⟨by have := h.bw.size; omega, fun e => by have := Kd.R_lt h.tx k e.symm; omega, fun e => by have := Kd.R_lt h.pe k e.symm; omega, fun e => by have := Kd.R_lt h.ats k e.symm; omega, fun e => by have := h.lt; omega, fun e => by have := blk_lt h.box; omega⟩
/-- Behind a token that was handed on and has no pairs. -/
theorem Rows.told (h : Rows B O w0 W tx pe ats out tv pv av ov) (ht : Told O w0 W W1 (fun k => w0.heap.size ≤ k ∧ some k ≠ tv.ownBlock ∧ some k ≠ pv.ownBlock ∧ some k ≠ av.ownBlock ∧ k ≠ B ∧ k ≠ O) ov out t) : W1.heap[B]? = W.heap[B]? ∧ ∃ ov', Rows B O w0 W1 tx pe ats (out ++ [t]) tv pv av ov' := by
  obtain ⟨ov', h1, h2, h3, h4, h5⟩ := ht
  obtain ⟨n1, n2, n3, n4, n5⟩ := h.nB
  obtain ⟨o1, o2, o3, o4⟩ := h.nO
  obtain ⟨cs, hc⟩ := h.ty
  have hB : W1.heap[B]? = W.heap[B]? := h4.2 B h.lt (fun q => q.elim n1 n5)
  refine ⟨hB, ov', h1, ?_, ?_, ?_, h2, h.tp, h3, h.gl, h.bB, h.bO, ⟨cs, hB.trans hc⟩⟩
  · exact Kd.R_mono (Kd.R_kept (Kd.R_tight rfl h.tx) h4 (fun k e q => q.elim (fun q => o1 (q ▸ e)) (type_ne (Kd.R_typed h.tx) (Kd.N_typed h.out) (by decide) k e.symm))) (fun _ _ => trivial)
  · exact Kd.R_mono (Kd.R_kept (Kd.R_tight rfl h.pe) h4 (fun k e q => q.elim (fun q => o2 (q ▸ e)) (type_ne (Kd.R_typed h.pe) (Kd.N_typed h.out) (by decide) k e.symm))) (fun _ _ => trivial)
  · exact Kd.R_mono (Kd.R_kept (Kd.R_tight rfl h.ats) h4 (fun k e q => q.elim (fun q => o3 (q ▸ e)) (type_ne (Kd.R_typed h.ats) (Kd.N_typed h.out) (by decide) k e.symm))) (fun _ _ => trivial)
/-- Behind a token that was handed on with the reader's pairs, which are no more the reader's. -/
theorem Rows.told2 (h : Rows B O w0 W tx pe ats out tv pv av ov) (ht : Told O w0 W W1 (fun k => w0.heap.size ≤ k ∧ some k ≠ tv.ownBlock ∧ some k ≠ pv.ownBlock ∧ k ≠ B ∧ k ≠ O) ov out t) : W1.heap[B]? = W.heap[B]? ∧ ∃ ov', Rows B O w0 W1 tx pe [] (out ++ [t]) tv pv (.slice none 0 0) ov' := by
  obtain ⟨ov', h1, h2, h3, h4, h5⟩ := ht
  obtain ⟨n1, n2, n3, n4, n5⟩ := h.nB
  obtain ⟨o1, o2, o3, o4⟩ := h.nO
  obtain ⟨cs, hc⟩ := h.ty
  have hB : W1.heap[B]? = W.heap[B]? := h4.2 B h.lt (fun q => q.elim n1 n5)
  refine ⟨hB, ov', h1, ?_, ?_, Kd.R_nil _ _ _ _ _, Kd.N_mono h2 (fun k q => ⟨q.1, q.2.1, q.2.2.1, by simp [Value.ownBlock], q.2.2.2⟩), h.tp, h3, h.gl, h.bB, h.bO, ⟨cs, hB.trans hc⟩⟩
  · exact Kd.R_mono (Kd.R_kept (Kd.R_tight rfl h.tx) h4 (fun k e q => q.elim (fun q => o1 (q ▸ e)) (type_ne (Kd.R_typed h.tx) (Kd.N_typed h.out) (by decide) k e.symm))) (fun _ _ => trivial)
  · exact Kd.R_mono (Kd.R_kept (Kd.R_tight rfl h.pe) h4 (fun k e q => q.elim (fun q => o2 (q ▸ e)) (type_ne (Kd.R_typed h.pe) (Kd.N_typed h.out) (by decide) k e.symm))) (fun _ _ => trivial)
theorem Rows.apart (h : Rows B O w0 W tx pe ats out tv pv av ov) (k : Nat) (e : some k = av.ownBlock) : (w0.heap.size ≤ k ∧ some k ≠ tv.ownBlock ∧ some k ≠ pv.ownBlock ∧ k ≠ B ∧ k ≠ O) ∧ some k ≠ ov.ownBlock :=
  ⟨⟨Kd.R_base h.ats k e.symm, type_ne (Kd.R_typed h.ats) (Kd.R_typed h.tx) (by decide) k e.symm, type_ne (Kd.R_typed h.ats) (Kd.R_typed h.pe) (by decide) k e.symm, fun q => h.nB.2.2.2.1 (q ▸ e), fun q => h.nO.2.2.1 (q ▸ e)⟩, type_ne (Kd.R_typed h.ats) (Kd.N_typed h.out) (by decide) k e.symm⟩
theorem foot_bare (n : Int) (nm d : ByteArray) (W : World) : Kd.FK k43 W (fun _ => False) ⟨n, nm, [], d⟩ [.int .u8 n, .string nm, .slice none 0 0, .string d] := fun W' _ => k43_mk W' ⟨n, nm, [], d⟩ (A2 := none) (c2 := 0) (Nat.le_refl _) (Kd.C_nil _ _)
theorem foot_ats (h : Rows B O w0 W tx pe ats out tv pv av ov) (n : Int) (nm d : ByteArray) : Kd.FK k43 W (fun k => some k = av.ownBlock) ⟨n, nm, ats, d⟩ [.int .u8 n, .string nm, av, .string d] := by
  obtain ⟨A, c, e⟩ := Kd.R_slice h.ats
  intro W' hW
  have hR := Kd.R_step (Kd.R_tight rfl h.ats) hW
  rw [e] at hR ⊢
  obtain ⟨h1, h2, h3⟩ := Kd.R_reads' hR
  exact k43_mk W' ⟨n, nm, ats, d⟩ h2 h3
theorem row_conv {W : World} {base : Nat} {M : Nat → Prop} {v : Value} {l : List Int} (h : Kd.R (Kd.int .u8) 5 W base M v l) : (convert 22 9 v).run Tryd.prog W = .ok (.string (strOfNums l)) W :=
  own_string (P := Tryd.prog) Tryd.underlying22 Tryd.underlying5 Tryd.underlying9 (Kd.own_of_R h)
theorem give_at {v : Array Value} (B O : Nat) (w0 W : World) (ov av : Value) (out : List S43) (t : S43) (hv : v = #[.int .u8 t.f0, .string t.f1, av, .string t.f3]) (ok okp : Nat → Prop) (y17 : W.cell? ⟨B, 17, none⟩ = some (.func (.func 33) #[] #[.pointer (some ⟨O, 0, none⟩)])) (y18 : W.cell? ⟨B, 18, none⟩ = some (.bool false)) (hlt : B < W.heap.size) (hO : W.heap[O]? = some (.cells #[ov] 37 (0, 0))) (hN : Kd.N k43 43 W w0.heap.size ok ov out) (hP : Kd.FK k43 W okp t [.int .u8 t.f0, .string t.f1, av, .string t.f3]) (hK : ∀ k, okp k → ok k ∧ some k ≠ ov.ownBlock) (hF : ∀ k, W.heap.size ≤ k → ok k) (hokO : ∀ k, ok k → k ≠ O) (hB : Below w0.heap.size w0 W) (hb : w0.heap.size ≤ O) (hl : (out.length + 1) * 64 ≤ 140737488355328) (hav : av.cells.toList = [av] ∧ av.oneCell' = true) :
    Calls Tryd.prog 81 #[.pointer (some ⟨B, 0, none⟩), .agg v] W fun e W' => (∃ v, e = .returned v) ∧ Told O w0 W W' ok ov out t := hv ▸ give_calls B O w0 W ov av out t ok okp y17 y18 hlt hO hN hP hK hF hokO hB hb hl hav
end
/-- The reader's block is laid anew, cell by cell. -/
theorem puts {B O : Nat} {w0 W : World} {r1 : Rd} {tv1 pv1 av1 ov : Value} {cs : Array Value} (l : List (Nat × Value)) (hr : Rows B O w0 W r1.tx r1.pe r1.tk.f2 r1.out tv1 pv1 av1 ov) (hb : W.heap[B]? = some (.cells cs 91 (0, 0))) (hc : l.foldl (fun cs p => cs.setIfInBounds p.1 p.2) cs = rcs r1 tv1 pv1 av1 O) : RdAt B O w0 (l.foldl (fun W p => W.setCell ⟨B, p.1, none⟩ p.2) W) r1 := by
  have key : ∀ (l : List (Nat × Value)) (W : World) (cs : Array Value), Below w0.heap.size w0 W → W.heap[B]? = some (.cells cs 91 (0, 0)) → Kept W (l.foldl (fun W p => W.setCell ⟨B, p.1, none⟩ p.2) W) (fun k => k = B) ∧ Below w0.heap.size w0 (l.foldl (fun W p => W.setCell ⟨B, p.1, none⟩ p.2) W) ∧ (l.foldl (fun W p => W.setCell ⟨B, p.1, none⟩ p.2) W).heap[B]? = some (.cells (l.foldl (fun cs p => cs.setIfInBounds p.1 p.2) cs) 91 (0, 0)) := by
    intro l
    induction l with
    | nil => intro W cs h1 h2; exact ⟨Kept.refl _ _, h1, h2⟩
    | cons p l ih =>
      intro W cs h1 h2
      obtain ⟨q1, q2, q3⟩ := ih (W.setCell ⟨B, p.1, none⟩ p.2) (cs.setIfInBounds p.1 p.2) (h1.setCell (p := ⟨B, p.1, none⟩) hr.bB _) (set_blk h2 _)
      exact ⟨((Kept.refl W (fun k => k = B)).setCell (p := ⟨B, p.1, none⟩) (.inl rfl) p.2).then_ q1 (fun k hk => .inl hk), q2, q3⟩
  obtain ⟨q1, q2, q3⟩ := key l W cs hr.bw hb
  rw [hc] at q3
  exact ⟨tv1, pv1, av1, ov, q3, hr.kept q1 q2 ⟨_, q3⟩⟩
set_option maxHeartbeats 4000000 in
set_option maxRecDepth 100000 in
theorem flush_calls (B O : Nat) (w0 W : World) (r : Rd) (h : RdAt B O w0 W r) (hl : (r.out.length + 1) * 64 ≤ 140737488355328) : Calls Tryd.prog 58 #[.pointer (some ⟨B, 0, none⟩)] W fun e W' => (∃ v, e = .returned v) ∧ RdAt B O w0 W' (flush r) := by
  obtain ⟨tv, pv, av, ov, hblk, hrows⟩ := h
  obtain ⟨A, c, e⟩ := Kd.R_slice hrows.tx
  subst e
  obtain ⟨y0, y1, y2, y3, y4, y5, y6, y7, y8, y9, y10, y11, y12, y13, y14, y15, y16, y17, y18, yf, ylt⟩ := rcells hblk
  have HBLK := Aside0.mk hblk
  have HR := Aside0.mk hrows
  have HL := Aside0.mk hl
  by_cases h0 : r.tx = []
  · have d1 : decide ((0 : Int) < (r.tx.length : Int)) = false := by rw [h0]; rfl
    have d2 : decide (0 < r.tx.length) = false := by rw [h0]; rfl
    have H0 := Aside0.mk h0
    clear hblk hrows hl h0
    go_enter Tryd.func58, Tryd.ntmps58
    go_wp2
    go_end0
    refine ⟨⟨_, rfl⟩, ?_⟩
    have e : flushed r = r.out := if_pos H0.out
    have hr := HR.out.notx.nope
    rw [← e] at hr
    exact puts [(10, .slice none 0 0), (11, .slice none 0 0)] (r1 := flush r) hr HBLK.out rfl
  · have hpos : 0 < r.tx.length := List.length_pos_iff.2 h0
    have d1 : decide ((0 : Int) < (r.tx.length : Int)) = true := decide_eq_true (by omega)
    have d2 : decide (0 < r.tx.length) = true := decide_eq_true hpos
    have hcv := row_conv hrows.tx
    have H0 := Aside0.mk h0
    clear hblk hrows hl h0 hpos
    go_enter Tryd.func58, Tryd.ntmps58
    go_wp2_with (go_at_call 81; (with_reducible refine (give_at B O w0 W ov (.slice none 0 0) r.out ⟨0, bs [], [], strOfNums r.tx⟩ ?hv _ _ y17 y18 ylt HR.out.box HR.out.out (foot_bare _ _ _ _) (fun _ q => q.elim) HR.out.fresh (fun k q => q.2.2.2.2.2) HR.out.bw HR.out.bO HL.out ⟨rfl, rfl⟩).mono ?_); (case hv => rfl); rintro e w1 ⟨⟨v, rfl⟩, ht⟩; obtain ⟨hb1, ov1, hr1⟩ := HR.out.told ht; have HR1 := Aside0.mk hr1; have HB1 := Aside0.mk (hb1.trans HBLK.out); obtain ⟨z0, z1, z2, z3, z4, z5, z6, z7, z8, z9, z10, z11, z12, z13, z14, z15, z16, z17, z18, zf, zlt⟩ := rcells HB1.out; clear ht hb1 hr1)
    go_end0
    refine ⟨⟨_, rfl⟩, ?_⟩
    have e : flushed r = r.out ++ [⟨0, bs [], [], strOfNums r.tx⟩] := if_neg H0.out
    have hr := HR1.out.notx.nope
    rw [← e] at hr
    exact puts [(10, .slice none 0 0), (11, .slice none 0 0)] (r1 := flush r) hr HB1.out rfl
set_option maxHeartbeats 4000000 in
set_option maxRecDepth 100000 in
theorem begin_calls (B O : Nat) (w0 W : World) (r : Rd) (k : Int) (n d : ByteArray) (h : RdAt B O w0 W r) (hl : (r.out.length + 1) * 64 ≤ 140737488355328) : Calls Tryd.prog 110 #[.pointer (some ⟨B, 0, none⟩), .int .u8 k, .string n, .string d] W fun e W' => (∃ v, e = .returned v) ∧ RdAt B O w0 W' (start r k n d) := by
  have H := Aside0.mk h
  have HL := Aside0.mk hl
  clear h hl
  go_enter Tryd.func110, Tryd.ntmps110
  go_wp2_with (go_at_call 58; (with_reducible refine (flush_calls B O w0 W r H.out HL.out).mono ?_); rintro e w1 ⟨⟨v, rfl⟩, tv, pv, av, ov, hblk, hrows⟩; obtain ⟨z0, z1, z2, z3, z4, z5, z6, z7, z8, z9, z10, z11, z12, z13, z14, z15, z16, z17, z18, zf, zlt⟩ := rcells hblk; have HBLK := Aside0.mk hblk; have HR := Aside0.mk hrows; clear hblk hrows)
  go_end0
  refine ⟨⟨_, rfl⟩, ?_⟩
  exact puts [(12, .bool true), (13, .int .u8 k), (14, .string n), (15, .slice none 0 0), (16, .string d)] (r1 := start r k n d) HR.out.noats HBLK.out rfl
set_option maxHeartbeats 4000000 in
set_option maxRecDepth 100000 in
theorem end_calls (B O : Nat) (w0 W : World) (r : Rd) (h : RdAt B O w0 W r) (hl : (r.out.length + 1) * 64 ≤ 140737488355328) : Calls Tryd.prog 111 #[.pointer (some ⟨B, 0, none⟩)] W fun e W' => (∃ v, e = .returned v) ∧ RdAt B O w0 W' (fin r) := by
  obtain ⟨tv, pv, av, ov, hblk, hrows⟩ := h
  obtain ⟨A, c, e⟩ := Kd.R_slice hrows.ats
  subst e
  obtain ⟨y0, y1, y2, y3, y4, y5, y6, y7, y8, y9, y10, y11, y12, y13, y14, y15, y16, y17, y18, yf, ylt⟩ := rcells hblk
  have HBLK := Aside0.mk hblk
  have HR := Aside0.mk hrows
  have HL := Aside0.mk hl
  cases h0 : r.op with
  | false =>
    rw [h0] at y12
    have H0 := Aside0.mk h0
    clear hblk hrows hl h0
    go_enter Tryd.func111, Tryd.ntmps111
    go_wp2
    go_end0
    refine ⟨⟨_, rfl⟩, ?_⟩
    have e : (fin r).out = r.out := by show (if r.op = true then r.out ++ [r.tk] else r.out) = _; rw [H0.out]; rfl
    have hr := HR.out.noats
    rw [← e] at hr
    exact puts [(12, .bool false), (13, .int .u8 0), (14, .string ⟨#[]⟩), (15, .slice none 0 0), (16, .string ⟨#[]⟩)] (r1 := fin r) hr HBLK.out rfl
  | true =>
    rw [h0] at y12
    have H0 := Aside0.mk h0
    clear hblk hrows hl h0
    go_enter Tryd.func111, Tryd.ntmps111
    go_wp2_with (go_at_call 81; (with_reducible refine (give_at B O w0 W ov (.slice A r.tk.f2.length c) r.out r.tk ?hv (fun k => w0.heap.size ≤ k ∧ some k ≠ tv.ownBlock ∧ some k ≠ pv.ownBlock ∧ k ≠ B ∧ k ≠ O) (fun k => some k = (Value.slice A r.tk.f2.length c).ownBlock) y17 y18 ylt HR.out.box (Kd.N_mono HR.out.out (fun k q => ⟨q.1, q.2.1, q.2.2.1, q.2.2.2.2⟩)) (foot_ats HR.out _ _ _) HR.out.apart (fun k q => ⟨(HR.out.fresh k q).1, (HR.out.fresh k q).2.1, (HR.out.fresh k q).2.2.1, (HR.out.fresh k q).2.2.2.2⟩) (fun k q => q.2.2.2.2) HR.out.bw HR.out.bO HL.out ⟨rfl, rfl⟩).mono ?_); (case hv => rfl); rintro e w1 ⟨⟨v, rfl⟩, ht⟩; obtain ⟨hb1, ov1, hr1⟩ := HR.out.told2 ht; have HR1 := Aside0.mk hr1; have HB1 := Aside0.mk (hb1.trans HBLK.out); obtain ⟨z0, z1, z2, z3, z4, z5, z6, z7, z8, z9, z10, z11, z12, z13, z14, z15, z16, z17, z18, zf, zlt⟩ := rcells HB1.out; clear ht hb1 hr1)
    go_end0
    refine ⟨⟨_, rfl⟩, ?_⟩
    have e : (fin r).out = r.out ++ [r.tk] := by show (if r.op = true then r.out ++ [r.tk] else r.out) = _; rw [H0.out]; rfl
    have hr := HR1.out
    rw [← e] at hr
    exact puts [(12, .bool false), (13, .int .u8 0), (14, .string ⟨#[]⟩), (15, .slice none 0 0), (16, .string ⟨#[]⟩)] (r1 := fin r) hr HB1.out rfl
end Go.Proofs.YtfplocpjdjjoaaaDoor.Ctxs
namespace Go.Proofs.YtfplocpjdjjoaaaDoor.Ctxs
open Go Go.RowKit Go.Proofs.YtfplocpjdjjoaaaDoor.PWholeTrailers Go.Proofs.YtfplocpjdjjoaaaDoor.Trail Go.Proofs.YtfplocpjdjjoaaaDoorW.PrintWords
set_option linter.unusedVariables false
set_option linter.unusedSimpArgs false
set_option maxHeartbeats 4000000 in
set_option maxRecDepth 100000 in
theorem settle_calls (B O : Nat) (w0 W : World) (r : Rd) (tv pv av ov : Value) (h : RdV B O w0 W r tv pv av ov) (A : Option Addr) (c : Nat) (more : List Int) (hF : Kd.F (Kd.int .u8) W (fun k => some k ≠ tv.ownBlock) A more.length more) (hl : r.tx.length + r.pe.length + more.length ≤ 1000000000000) : Calls Tryd.prog 109 #[.pointer (some ⟨B, 0, none⟩), .slice A more.length c] W fun e W' => (∃ v, e = .returned v) ∧ RdAt B O w0 W' (settle r more) := by
  obtain ⟨hblk, hrows⟩ := h
  obtain ⟨A1, c1, e1, hle1, hC1⟩ := Kd.R_reads hrows.tx
  obtain ⟨A2, c2, e2, hle2, hC2⟩ := Kd.R_reads hrows.pe
  subst e1; subst e2
  obtain ⟨y0, y1, y2, y3, y4, y5, y6, y7, y8, y9, y10, y11, y12, y13, y14, y15, y16, y17, y18, yf, ylt⟩ := rcells hblk
  have HBLK := Aside0.mk hblk
  have HR := Aside0.mk hrows
  have HF := Aside0.mk hF
  have HL := Aside0.mk hl
  have HC2 := Aside0.mk hC2
  obtain ⟨tp, htp⟩ : ∃ tp, tp = r.tx ++ r.pe := ⟨_, rfl⟩
  obtain ⟨tm, htm⟩ : ∃ tm, tm = tp ++ more := ⟨_, rfl⟩
  have HTP := Aside0.mk htp
  have HTM := Aside0.mk htm
  clear hblk hrows hl hF hC1 hC2 hle1 hle2 htp htm
  go_enter Tryd.func109, Tryd.ntmps109
  go_wp2
  go_region_law (first
    | (refine Kd.R_append_rows_step (Kd.int .u8) (w0 := w0) w0.heap.size rfl (.tmp 8) (.tmp 12) 22 5 (.int .u8 0) 1 rfl Tryd.underlying22 info5 rfl (by decide) (by omega) (.slice A1 r.tx.length c1) r.tx r.pe A2 r.pe.length c2 (fun _ => True) (fun _ => False) rfl rfl ?aO ?aR (fun _ _ h => h) (fun _ h => h.elim) ?aF ?aB ?aS ?aL ?_; (case aO => exact Kd.R_drew HR.out.tx); (case aR => exact Kd.C_drew HC2.out); (case aF => exact fun _ _ => trivial); (case aB => exact below_drew1 HR.out.bw); (case aS => exact HR.out.bw.size); (case aL => have := HL.out; omega); intro v1 w1 hn hb hg hat; rw [← HTP.out] at hn; have hr1 := (HR.out.below (Below.drew (Below.refl _ _))).settx hg hat hn hb; have HG1 := Aside0.mk hg; have HR1 := Aside0.mk hr1; have HBLK1 := Aside0.mk ((hg.block B ylt HR.out.nB.2.1).trans HBLK.out); obtain ⟨z0, z1, z2, z3, z4, z5, z6, z7, z8, z9, z10, z11, z12, z13, z14, z15, z16, z17, z18, zf, zlt⟩ := rcells HBLK1.out; obtain ⟨A3, c3, rfl⟩ := Kd.R_slice hn; clear hn hb hg hat hr1)
    | (refine Kd.R_append_rows_step (Kd.int .u8) (w0 := w0) w0.heap.size rfl (.tmp 13) (.tmp 14) 22 5 (.int .u8 0) 1 rfl Tryd.underlying22 info5 rfl (by decide) (by omega) (.slice A3 tp.length c3) tp more A more.length c (fun _ => True) (fun _ => False) rfl rfl ?aO ?aR (fun _ _ h => h) (fun _ h => h.elim) ?aF ?aB ?aS ?aL ?_; (case aO => exact HR1.out.tx); (case aR => exact Kd.F_now (Kd.F_grown (Kd.F_drew HF.out) HG1.out (fun k hk => hk))); (case aF => exact fun _ _ => trivial); (case aB => exact HR1.out.bw); (case aS => exact HR1.out.bw.size); (case aL => have := HL.out; rw [HTP.out, List.length_append]; omega); intro v2 w2 hn hb hg hat; rw [← HTM.out] at hn; have hr2 := HR1.out.settx hg hat hn hb; have HR2 := Aside0.mk hr2; have HBLK2 := Aside0.mk ((hg.block B zlt HR1.out.nB.2.1).trans HBLK1.out); obtain ⟨u0, u1, u2, u3, u4, u5, u6, u7, u8, u9, u10, u11, u12, u13, u14, u15, u16, u17, u18, uf, ult⟩ := rcells HBLK2.out; obtain ⟨A4, c4, rfl⟩ := Kd.R_slice hn; clear hn hb hg hat hr2))
  all_goals
    go_wp2
    go_end0
    refine ⟨⟨_, rfl⟩, ?_⟩
    have hr := HR2.out.nope
    have e : tm = r.tx ++ r.pe ++ more := by rw [HTM.out, HTP.out]
    exact puts [(10, .slice A4 tm.length c4), (11, .slice none 0 0)] (r1 := settle r more) (show Rows B O w0 w2 (r.tx ++ r.pe ++ more) [] r.tk.f2 r.out (.slice A4 tm.length c4) (.slice none 0 0) av ov by rw [← e]; exact hr) HBLK2.out rfl
end Go.Proofs.YtfplocpjdjjoaaaDoor.Ctxs
namespace Go.Proofs.YtfplocpjdjjoaaaDoor.Ctxs
open Go Go.RowKit Go.Proofs.YtfplocpjdjjoaaaDoor.PWholeTrailers Go.Proofs.YtfplocpjdjjoaaaDoor.Trail Go.Proofs.YtfplocpjdjjoaaaDoorW.PrintWords
set_option linter.unusedVariables false
set_option linter.unusedSimpArgs false
theorem RdV.below {B O : Nat} {w0 W W1 : World} {r : Rd} {tv pv av ov : Value} (h : RdV B O w0 W r tv pv av ov) (hb : Below W.heap.size W W1) : RdV B O w0 W1 r tv pv av ov := ⟨(hb.block B (blk_lt h.blk)).trans h.blk, h.rows.below hb⟩
theorem RdAt.below {B O : Nat} {w0 W W1 : World} {r : Rd} (h : RdAt B O w0 W r) (hb : Below W.heap.size W W1) : RdAt B O w0 W1 r := by
  obtain ⟨tv, pv, av, ov, h⟩ := h
  exact ⟨tv, pv, av, ov, h.below hb⟩
theorem one_row (W : World) (base : Nat) (hb : base ≤ W.heap.size) (b : Int) : (Kd.int .u8).R 5 (W.alloc (.cells #[.int .u8 b] 5)) base (fun _ => True) (.slice (some ⟨W.heap.size, 0, none⟩) 1 1) [b] :=
  Kd.R_of_own (own_lit W base 5 .u8 [b] hb (by simp)) (fun _ _ => trivial)
/-- What is pending is laid anew: one byte. -/
theorem Rows.onepe {B O g : Nat} {w0 W : World} {tx pe : List Int} {ats : List S94} {out : List S43} {tv pv av ov : Value} (h : Rows B O w0 W tx pe ats out tv pv av ov) (b : Int) (hg : g = W.heap.size) : Rows B O w0 (W.alloc (.cells #[.int .u8 b] 5)) tx [b] ats out tv (.slice (some ⟨g, 0, none⟩) 1 1) av ov := by
  subst hg
  exact h.setpe (World.grownBy_alloc W _ _) (.inr ⟨W.heap.size, rfl, Nat.le_refl _⟩) (one_row W _ h.bw.size b) (below_alloc h.bw _)
theorem past1 {W : World} {X : Obj} {B i : Nat} {v : Value} (h : B < W.heap.size) : (W.setCell ⟨B, i, none⟩ v).alloc X = (W.alloc X).setCell ⟨B, i, none⟩ v := (World.setCell_alloc_past X B i v h).symm
theorem past2 {W : World} {X Y : Obj} {B i : Nat} {v : Value} (h : B < W.heap.size) : ((W.setCell ⟨B, i, none⟩ v).alloc X).alloc Y = ((W.alloc X).alloc Y).setCell ⟨B, i, none⟩ v := by
  rw [past1 h, past1 (by rw [alloc_size]; omega)]
theorem begin_at (B O : Nat) (w0 W : World) (r : Rd) (k : Int) (n d : ByteArray) {n' d' : ByteArray} (hn : n' = n) (hd : d' = d) (h : RdAt B O w0 W r) (hl : (r.out.length + 1) * 64 ≤ 140737488355328) : Calls Tryd.prog 110 #[.pointer (some ⟨B, 0, none⟩), .int .u8 k, .string n', .string d'] W fun e W' => (∃ v, e = .returned v) ∧ RdAt B O w0 W' (start r k n d) := by
  subst hn
  subst hd
  exact begin_calls B O w0 W r k _ _ h hl
theorem foot_one (W : World) (b : Int) (ok : Nat → Prop) (hok : ok W.heap.size) : Kd.F (Kd.int .u8) (W.alloc (.cells #[.int .u8 b] 5)) ok (some ⟨W.heap.size, 0, none⟩) [b].length [b] := by
  have h := Kd.R_F (Kd.R_tight rfl (one_row W 0 (Nat.zero_le _) b))
  exact Kd.F_mono h (fun k e => by
    have : W.heap.size = k := by simpa [Value.ownBlock] using e.symm
    exact this ▸ hok)
theorem settle_nil (B O : Nat) (w0 W : World) (r : Rd) (h : RdAt B O w0 W r) (hl : r.tx.length + r.pe.length ≤ 1000000000000) : Calls Tryd.prog 109 #[.pointer (some ⟨B, 0, none⟩), .slice none 0 0] W fun e W' => (∃ v, e = .returned v) ∧ RdAt B O w0 W' (settle r []) := by
  obtain ⟨tv, pv, av, ov, h⟩ := h
  exact settle_calls B O w0 W r tv pv av ov h none 0 [] (Kd.F_nil _ _ _) hl
theorem settle_one (B O : Nat) (w0 W : World) (r : Rd) (b : Int) (h : RdAt B O w0 W r) (hl : r.tx.length + r.pe.length + 1 ≤ 1000000000000) : Calls Tryd.prog 109 #[.pointer (some ⟨B, 0, none⟩), .slice (some ⟨W.heap.size, 0, none⟩) 1 1] (W.alloc (.cells #[.int .u8 b] 5)) fun e W' => (∃ v, e = .returned v) ∧ RdAt B O w0 W' (settle r [b]) := by
  obtain ⟨tv, pv, av, ov, h⟩ := h
  exact settle_calls B O w0 _ r tv pv av ov (h.below (below_alloc (Below.refl _ _) _)) (some ⟨W.heap.size, 0, none⟩) 1 [b] (foot_one W b _ (h.rows.fresh _ (Nat.le_refl _)).2.1) hl
theorem settle_one' (B O : Nat) (w0 W : World) (r : Rd) (b : Int) {g : Nat} {V : World} (h : RdAt B O w0 W r) (hl : r.tx.length + r.pe.length + 1 ≤ 1000000000000) (hV : V = W.alloc (.cells #[.int .u8 b] 5)) (hg : g = W.heap.size) : Calls Tryd.prog 109 #[.pointer (some ⟨B, 0, none⟩), .slice (some ⟨g, 0, none⟩) 1 1] V fun e W' => (∃ v, e = .returned v) ∧ RdAt B O w0 W' (settle r [b]) := by
  subst hV
  subst hg
  exact settle_one B O w0 W r b h hl
set_option maxHeartbeats 4000000 in
set_option maxRecDepth 100000 in
theorem data1a (B O : Nat) (w0 W : World) (r : Rd) (f : Cx) (b : Nat) (hb : b < 256) (h : RdAt B O w0 W r) (hl : (r.out.length + 1) * 64 ≤ 140737488355328) (hs : r.tx.length + r.pe.length + 1 ≤ 1000000000000) (h1 : r.c.st = 1) (h2 : f.st = 1) : Calls Tryd.prog 77 #[.pointer (some ⟨B, 0, none⟩), .agg (cxs f), .int .u8 (b : Int)] W fun e W' => (∃ v, e = .returned v) ∧ RdAt B O w0 W' (dataM r f.st b) := by
  have e : dataM r f.st b = { settle r [] with pe := [(b : Int)] } := by simp [dataM, h1, h2]
  rw [e]
  clear e
  have hu33 := Tryd.underlying33
  obtain ⟨tv, pv, av, ov, hblk, hrows⟩ := h
  obtain ⟨A2, c2, e2⟩ := Kd.R_slice hrows.pe
  subst e2
  obtain ⟨y0, y1, y2, y3, y4, y5, y6, y7, y8, y9, y10, y11, y12, y13, y14, y15, y16, y17, y18, yf, ylt⟩ := rcells hblk
  have HBLK := Aside0.mk hblk
  have HR := Aside0.mk hrows
  have HL := Aside0.mk hl
  have HS := Aside0.mk hs
  have HAT := Aside0.mk (show RdAt B O w0 W r from ⟨tv, _, av, ov, hblk, hrows⟩)
  have f1 : ((r.c.st : Int) == 1) = true := by rw [beq_iff_eq]; omega
  have k1 : ((f.st : Int) == 1) = true := by rw [beq_iff_eq]; omega
  simp only [cxs]
  clear hblk hrows hl hs
  go_enter Tryd.func77, Tryd.ntmps77
  go_wp2_with (go_at_call 109; (with_reducible refine (settle_nil B O w0 _ r (HAT.out.below (below_alloc (Below.refl _ _) _)) (by have := HS.out; omega)).mono ?_); rintro e w1 ⟨⟨v, rfl⟩, tv1, pv1, av1, ov1, hblk1, hrows1⟩; obtain ⟨A3, c3, e3⟩ := Kd.R_slice hrows1.pe; subst e3; obtain ⟨z0, z1, z2, z3, z4, z5, z6, z7, z8, z9, z10, z11, z12, z13, z14, z15, z16, z17, z18, zf, zlt⟩ := rcells hblk1; have HBLK1 := Aside0.mk hblk1; have HR1 := Aside0.mk hrows1; clear hblk1 hrows1)
  go_end0
  refine ⟨⟨_, rfl⟩, ?_⟩
  rw [past1 zlt]
  exact puts [(11, .slice (some ⟨w1.heap.size, 0, none⟩) 1 1)] (r1 := { settle r [] with pe := [(b : Int)] }) (HR1.out.onepe (b : Int) rfl) ((alloc_old zlt).trans HBLK1.out) rfl
set_option maxHeartbeats 4000000 in
set_option maxRecDepth 100000 in
theorem data1b (B O : Nat) (w0 W : World) (r : Rd) (f : Cx) (b : Nat) (hb : b < 256) (h : RdAt B O w0 W r) (hl : (r.out.length + 1) * 64 ≤ 140737488355328) (hs : r.tx.length + r.pe.length + 1 ≤ 1000000000000) (h1 : r.c.st = 1) (h2 : f.st ≠ 1) : Calls Tryd.prog 77 #[.pointer (some ⟨B, 0, none⟩), .agg (cxs f), .int .u8 (b : Int)] W fun e W' => (∃ v, e = .returned v) ∧ RdAt B O w0 W' (dataM r f.st b) := by
  have e : dataM r f.st b = { r with pe := [(b : Int)] } := by simp [dataM, h1, h2]
  rw [e]
  clear e
  have hu33 := Tryd.underlying33
  obtain ⟨tv, pv, av, ov, hblk, hrows⟩ := h
  obtain ⟨A2, c2, e2⟩ := Kd.R_slice hrows.pe
  subst e2
  obtain ⟨y0, y1, y2, y3, y4, y5, y6, y7, y8, y9, y10, y11, y12, y13, y14, y15, y16, y17, y18, yf, ylt⟩ := rcells hblk
  have HBLK := Aside0.mk hblk
  have HR := Aside0.mk hrows
  have HL := Aside0.mk hl
  have HS := Aside0.mk hs
  have HAT := Aside0.mk (show RdAt B O w0 W r from ⟨tv, _, av, ov, hblk, hrows⟩)
  have f1 : ((r.c.st : Int) == 1) = true := by rw [beq_iff_eq]; omega
  have k1 : ((f.st : Int) == 1) = false := by rw [beq_eq_false_iff_ne]; omega
  simp only [cxs]
  clear hblk hrows hl hs
  go_enter Tryd.func77, Tryd.ntmps77
  go_wp2
  go_end0
  refine ⟨⟨_, rfl⟩, ?_⟩
  rw [past2 ylt]
  exact puts [(11, .slice (some ⟨W.heap.size + 1, 0, none⟩) 1 1)] (r1 := { r with pe := [(b : Int)] }) ((HR.out.below (below_alloc (Below.refl _ _) _)).onepe (b : Int) (by rw [alloc_size])) ((alloc_old (by rw [alloc_size]; omega)).trans ((alloc_old ylt).trans HBLK.out)) rfl
set_option maxHeartbeats 4000000 in
set_option maxRecDepth 100000 in
theorem data2 (B O : Nat) (w0 W : World) (r : Rd) (f : Cx) (b : Nat) (hb : b < 256) (h : RdAt B O w0 W r) (hl : (r.out.length + 1) * 64 ≤ 140737488355328) (hs : r.tx.length + r.pe.length + 1 ≤ 1000000000000) (h1 : r.c.st = 2) : Calls Tryd.prog 77 #[.pointer (some ⟨B, 0, none⟩), .agg (cxs f), .int .u8 (b : Int)] W fun e W' => (∃ v, e = .returned v) ∧ RdAt B O w0 W' (dataM r f.st b) := by
  have e : dataM r f.st b = { r with pe := r.pe ++ [(b : Int)] } := by simp [dataM, h1]
  rw [e]
  clear e
  have hu33 := Tryd.underlying33
  obtain ⟨tv, pv, av, ov, hblk, hrows⟩ := h
  obtain ⟨A2, c2, e2⟩ := Kd.R_slice hrows.pe
  subst e2
  obtain ⟨y0, y1, y2, y3, y4, y5, y6, y7, y8, y9, y10, y11, y12, y13, y14, y15, y16, y17, y18, yf, ylt⟩ := rcells hblk
  have HBLK := Aside0.mk hblk
  have HR := Aside0.mk hrows
  have HL := Aside0.mk hl
  have HS := Aside0.mk hs
  have HAT := Aside0.mk (show RdAt B O w0 W r from ⟨tv, _, av, ov, hblk, hrows⟩)
  obtain ⟨pb, hpb⟩ : ∃ pb, pb = r.pe ++ [(b : Int)] := ⟨_, rfl⟩
  have HPB := Aside0.mk hpb
  clear hpb
  have f1 : ((r.c.st : Int) == 1) = false := by rw [beq_eq_false_iff_ne]; omega
  have f2 : ((r.c.st : Int) == 2) = true := by rw [beq_iff_eq]; omega
  simp only [cxs]
  clear hblk hrows hl hs
  go_enter Tryd.func77, Tryd.ntmps77
  go_wp2_with ((with_reducible refine gate_builtin (b := .append) (xs := #[.tmp 30, .tmp 32]) rfl ?_); at_builtin; refine Kd.R_append (Kd.int .u8) (w0 := w0) (W := W.alloc (.cells #[.int .u8 (f.st : Int), .int .u8 (f.el : Int), .bool f.en, .int .u8 (f.ak : Int), .int .u8 (f.qu : Int), .int .u8 (f.pa : Int), .int .u8 (f.su : Int), .bool f.es, .int .u8 (f.da : Int), .string (bs f.nm)] 33)) w0.heap.size rfl (.tmp 30) (.tmp 32) 22 5 (.int .u8 0) 1 rfl Tryd.underlying22 info5 rfl (by decide) (by omega) (.slice A2 r.pe.length c2) r.pe (b : Int) [.int .u8 (b : Int)] (fun _ => True) (fun _ => False) rfl ?aX rfl (fun _ h => h.elim) (fun _ _ => trivial) ?aO ?aB ?aS ?aL ?_; (case aX => show Value.slice (some ⟨W.heap.size + 1, 0, none⟩) 1 1 = _; rw [alloc_size]); (case aO => exact (HR.out.below (below_alloc (Below.refl _ _) _)).pe); (case aB => exact below_alloc HR.out.bw _); (case aS => exact (below_alloc HR.out.bw _).size); (case aL => have := HS.out; omega); intro v1 w1 hn hb1 hg hat; rw [← HPB.out] at hn; have hr1 := (HR.out.below (below_alloc (Below.refl _ _) _)).setpe hg hat hn hb1; have HR1 := Aside0.mk hr1; have HBLK1 := Aside0.mk ((hg.block B (by rw [alloc_size]; omega) (HR.out.nB.2.2.1)).trans ((alloc_old ylt).trans HBLK.out)); obtain ⟨z0, z1, z2, z3, z4, z5, z6, z7, z8, z9, z10, z11, z12, z13, z14, z15, z16, z17, z18, zf, zlt⟩ := rcells HBLK1.out; obtain ⟨A4, c4, rfl⟩ := Kd.R_slice hn; clear hn hb1 hg hat hr1)
  go_end0
  refine ⟨⟨_, rfl⟩, ?_⟩
  have hr := HR1.out
  exact puts [(11, .slice A4 pb.length c4)] (r1 := { r with pe := r.pe ++ [(b : Int)] }) (show Rows B O w0 w1 r.tx (r.pe ++ [(b : Int)]) r.tk.f2 r.out tv (.slice A4 pb.length c4) av ov by rw [← HPB.out]; exact hr) HBLK1.out rfl
set_option maxHeartbeats 4000000 in
set_option maxRecDepth 100000 in
theorem data3a (B O : Nat) (w0 W : World) (r : Rd) (f : Cx) (b : Nat) (hb : b < 256) (h : RdAt B O w0 W r) (hl : (r.out.length + 1) * 64 ≤ 140737488355328) (hs : r.tx.length + r.pe.length + 1 ≤ 1000000000000) (h1 : r.c.st = 3) (h2 : r.c.en = true) : Calls Tryd.prog 77 #[.pointer (some ⟨B, 0, none⟩), .agg (cxs f), .int .u8 (b : Int)] W fun e W' => (∃ v, e = .returned v) ∧ RdAt B O w0 W' (dataM r f.st b) := by
  have e : dataM r f.st b = start r 2 (bs r.c.nm) (bs []) := by simp [dataM, h1, h2]
  rw [e]
  clear e
  have hu33 := Tryd.underlying33
  obtain ⟨tv, pv, av, ov, hblk, hrows⟩ := h
  obtain ⟨A2, c2, e2⟩ := Kd.R_slice hrows.pe
  subst e2
  obtain ⟨y0, y1, y2, y3, y4, y5, y6, y7, y8, y9, y10, y11, y12, y13, y14, y15, y16, y17, y18, yf, ylt⟩ := rcells hblk
  have HBLK := Aside0.mk hblk
  have HR := Aside0.mk hrows
  have HL := Aside0.mk hl
  have HS := Aside0.mk hs
  have HAT := Aside0.mk (show RdAt B O w0 W r from ⟨tv, _, av, ov, hblk, hrows⟩)
  have f1 : ((r.c.st : Int) == 1) = false := by rw [beq_eq_false_iff_ne]; omega
  have f2 : ((r.c.st : Int) == 2) = false := by rw [beq_eq_false_iff_ne]; omega
  have f3 : ((r.c.st : Int) == 3) = true := by rw [beq_iff_eq]; omega
  rw [h2] at y2
  simp only [cxs]
  clear hblk hrows hl hs
  go_enter Tryd.func77, Tryd.ntmps77
  go_wp2_with (go_at_call 110; (with_reducible refine (begin_at B O w0 _ r 2 (bs r.c.nm) (bs []) ?hn ?hd (HAT.out.below (below_alloc (Below.refl _ _) _)) HL.out).mono ?_); (case hn => rfl); (case hd => rfl); rintro e w1 ⟨⟨v, rfl⟩, h1⟩; have H1 := Aside0.mk h1; clear h1)
  go_end0
  refine ⟨⟨_, rfl⟩, ?_⟩
  exact H1.out
set_option maxHeartbeats 4000000 in
set_option maxRecDepth 100000 in
theorem data3b (B O : Nat) (w0 W : World) (r : Rd) (f : Cx) (b : Nat) (hb : b < 256) (h : RdAt B O w0 W r) (hl : (r.out.length + 1) * 64 ≤ 140737488355328) (hs : r.tx.length + r.pe.length + 1 ≤ 1000000000000) (h1 : r.c.st = 3) (h2 : r.c.en = false) : Calls Tryd.prog 77 #[.pointer (some ⟨B, 0, none⟩), .agg (cxs f), .int .u8 (b : Int)] W fun e W' => (∃ v, e = .returned v) ∧ RdAt B O w0 W' (dataM r f.st b) := by
  have e : dataM r f.st b = start r 1 (bs r.c.nm) (bs []) := by simp [dataM, h1, h2]
  rw [e]
  clear e
  have hu33 := Tryd.underlying33
  obtain ⟨tv, pv, av, ov, hblk, hrows⟩ := h
  obtain ⟨A2, c2, e2⟩ := Kd.R_slice hrows.pe
  subst e2
  obtain ⟨y0, y1, y2, y3, y4, y5, y6, y7, y8, y9, y10, y11, y12, y13, y14, y15, y16, y17, y18, yf, ylt⟩ := rcells hblk
  have HBLK := Aside0.mk hblk
  have HR := Aside0.mk hrows
  have HL := Aside0.mk hl
  have HS := Aside0.mk hs
  have HAT := Aside0.mk (show RdAt B O w0 W r from ⟨tv, _, av, ov, hblk, hrows⟩)
  have f1 : ((r.c.st : Int) == 1) = false := by rw [beq_eq_false_iff_ne]; omega
  have f2 : ((r.c.st : Int) == 2) = false := by rw [beq_eq_false_iff_ne]; omega
  have f3 : ((r.c.st : Int) == 3) = true := by rw [beq_iff_eq]; omega
  rw [h2] at y2
  simp only [cxs]
  clear hblk hrows hl hs
  go_enter Tryd.func77, Tryd.ntmps77
  go_wp2_with (go_at_call 110; (with_reducible refine (begin_at B O w0 _ r 1 (bs r.c.nm) (bs []) ?hn ?hd (HAT.out.below (below_alloc (Below.refl _ _) _)) HL.out).mono ?_); (case hn => rfl); (case hd => rfl); rintro e w1 ⟨⟨v, rfl⟩, h1⟩; have H1 := Aside0.mk h1; clear h1)
  go_end0
  refine ⟨⟨_, rfl⟩, ?_⟩
  exact H1.out
set_option maxHeartbeats 4000000 in
set_option maxRecDepth 100000 in
theorem data11 (B O : Nat) (w0 W : World) (r : Rd) (f : Cx) (b : Nat) (hb : b < 256) (h : RdAt B O w0 W r) (hl : (r.out.length + 1) * 64 ≤ 140737488355328) (hs : r.tx.length + r.pe.length + 1 ≤ 1000000000000) (h1 : r.c.st = 11) : Calls Tryd.prog 77 #[.pointer (some ⟨B, 0, none⟩), .agg (cxs f), .int .u8 (b : Int)] W fun e W' => (∃ v, e = .returned v) ∧ RdAt B O w0 W' (dataM r f.st b) := by
  have e : dataM r f.st b = start r 4 (bs []) (bs []) := by simp [dataM, h1]
  rw [e]
  clear e
  have hu33 := Tryd.underlying33
  obtain ⟨tv, pv, av, ov, hblk, hrows⟩ := h
  obtain ⟨A2, c2, e2⟩ := Kd.R_slice hrows.pe
  subst e2
  obtain ⟨y0, y1, y2, y3, y4, y5, y6, y7, y8, y9, y10, y11, y12, y13, y14, y15, y16, y17, y18, yf, ylt⟩ := rcells hblk
  have HBLK := Aside0.mk hblk
  have HR := Aside0.mk hrows
  have HL := Aside0.mk hl
  have HS := Aside0.mk hs
  have HAT := Aside0.mk (show RdAt B O w0 W r from ⟨tv, _, av, ov, hblk, hrows⟩)
  have f1 : ((r.c.st : Int) == 1) = false := by rw [beq_eq_false_iff_ne]; omega
  have f2 : ((r.c.st : Int) == 2) = false := by rw [beq_eq_false_iff_ne]; omega
  have f3 : ((r.c.st : Int) == 3) = false := by rw [beq_eq_false_iff_ne]; omega
  have f11 : ((r.c.st : Int) == 11) = true := by rw [beq_iff_eq]; omega
  simp only [cxs]
  clear hblk hrows hl hs
  go_enter Tryd.func77, Tryd.ntmps77
  go_wp2_with (go_at_call 110; (with_reducible refine (begin_at B O w0 _ r 4 (bs []) (bs []) ?hn ?hd (HAT.out.below (below_alloc (Below.refl _ _) _)) HL.out).mono ?_); (case hn => rfl); (case hd => rfl); rintro e w1 ⟨⟨v, rfl⟩, h1⟩; have H1 := Aside0.mk h1; clear h1)
  go_end0
  refine ⟨⟨_, rfl⟩, ?_⟩
  exact H1.out
set_option maxHeartbeats 4000000 in
set_option maxRecDepth 100000 in
theorem data16 (B O : Nat) (w0 W : World) (r : Rd) (f : Cx) (b : Nat) (hb : b < 256) (h : RdAt B O w0 W r) (hl : (r.out.length + 1) * 64 ≤ 140737488355328) (hs : r.tx.length + r.pe.length + 1 ≤ 1000000000000) (h1 : r.c.st = 16) : Calls Tryd.prog 77 #[.pointer (some ⟨B, 0, none⟩), .agg (cxs f), .int .u8 (b : Int)] W fun e W' => (∃ v, e = .returned v) ∧ RdAt B O w0 W' (dataM r f.st b) := by
  have e : dataM r f.st b = start r 4 (bs []) (bs [b]) := by simp [dataM, h1]
  rw [e]
  clear e
  have hu33 := Tryd.underlying33
  obtain ⟨tv, pv, av, ov, hblk, hrows⟩ := h
  obtain ⟨A2, c2, e2⟩ := Kd.R_slice hrows.pe
  subst e2
  obtain ⟨y0, y1, y2, y3, y4, y5, y6, y7, y8, y9, y10, y11, y12, y13, y14, y15, y16, y17, y18, yf, ylt⟩ := rcells hblk
  have HBLK := Aside0.mk hblk
  have HR := Aside0.mk hrows
  have HL := Aside0.mk hl
  have HS := Aside0.mk hs
  have HAT := Aside0.mk (show RdAt B O w0 W r from ⟨tv, _, av, ov, hblk, hrows⟩)
  have f1 : ((r.c.st : Int) == 1) = false := by rw [beq_eq_false_iff_ne]; omega
  have f2 : ((r.c.st : Int) == 2) = false := by rw [beq_eq_false_iff_ne]; omega
  have f3 : ((r.c.st : Int) == 3) = false := by rw [beq_eq_false_iff_ne]; omega
  have f11 : ((r.c.st : Int) == 11) = false := by rw [beq_eq_false_iff_ne]; omega
  have f16 : ((r.c.st : Int) == 16) = true := by rw [beq_iff_eq]; omega
  simp only [cxs]
  clear hblk hrows hl hs
  go_enter Tryd.func77, Tryd.ntmps77
  have hcv := one_conv (V := (W.alloc (.cells #[.int .u8 (f.st : Int), .int .u8 (f.el : Int), .bool f.en, .int .u8 (f.ak : Int), .int .u8 (f.qu : Int), .int .u8 (f.pa : Int), .int .u8 (f.su : Int), .bool f.es, .int .u8 (f.da : Int), .string (bs f.nm)] 33)).alloc (.cells #[.int .u8 (b : Int)] 5)) (g := W.heap.size + 1) (x := b) (cell_last _ _ _ _ _ (by rw [alloc_size]))
  go_wp2_with (go_at_call 110; (with_reducible refine (begin_at B O w0 _ r 4 (bs []) (bs [b]) ?hn ?hd (HAT.out.below (below_alloc (below_alloc (Below.refl _ _) _) _)) HL.out).mono ?_); (case hn => rfl); (case hd => rfl); rintro e w1 ⟨⟨v, rfl⟩, h1⟩; have H1 := Aside0.mk h1; clear h1)
  go_end0
  refine ⟨⟨_, rfl⟩, ?_⟩
  exact H1.out
set_option maxHeartbeats 4000000 in
set_option maxRecDepth 100000 in
theorem data0a (B O : Nat) (w0 W : World) (r : Rd) (f : Cx) (b : Nat) (hb : b < 256) (h : RdAt B O w0 W r) (hl : (r.out.length + 1) * 64 ≤ 140737488355328) (hs : r.tx.length + r.pe.length + 1 ≤ 1000000000000) (h1 : r.c.st = 0) (h2 : f.st = 2) : Calls Tryd.prog 77 #[.pointer (some ⟨B, 0, none⟩), .agg (cxs f), .int .u8 (b : Int)] W fun e W' => (∃ v, e = .returned v) ∧ RdAt B O w0 W' (dataM r f.st b) := by
  have e : dataM r f.st b = { r with pe := [] } := by simp [dataM, h1, h2]
  rw [e]
  clear e
  have hu33 := Tryd.underlying33
  obtain ⟨tv, pv, av, ov, hblk, hrows⟩ := h
  obtain ⟨A2, c2, e2⟩ := Kd.R_slice hrows.pe
  subst e2
  obtain ⟨y0, y1, y2, y3, y4, y5, y6, y7, y8, y9, y10, y11, y12, y13, y14, y15, y16, y17, y18, yf, ylt⟩ := rcells hblk
  have HBLK := Aside0.mk hblk
  have HR := Aside0.mk hrows
  have HL := Aside0.mk hl
  have HS := Aside0.mk hs
  have HAT := Aside0.mk (show RdAt B O w0 W r from ⟨tv, _, av, ov, hblk, hrows⟩)
  have f1 : ((r.c.st : Int) == 1) = false := by rw [beq_eq_false_iff_ne]; omega
  have f2 : ((r.c.st : Int) == 2) = false := by rw [beq_eq_false_iff_ne]; omega
  have f3 : ((r.c.st : Int) == 3) = false := by rw [beq_eq_false_iff_ne]; omega
  have f11 : ((r.c.st : Int) == 11) = false := by rw [beq_eq_false_iff_ne]; omega
  have f16 : ((r.c.st : Int) == 16) = false := by rw [beq_eq_false_iff_ne]; omega
  have f0 : ((r.c.st : Int) == 0) = true := by rw [beq_iff_eq]; omega
  have k2 : ((f.st : Int) == 2) = true := by rw [beq_iff_eq]; omega
  simp only [cxs]
  clear hblk hrows hl hs
  go_enter Tryd.func77, Tryd.ntmps77
  go_wp2
  refine bodyPost_ret (results_none rfl _ _ _) rfl ?_
  refine ⟨⟨_, rfl⟩, ?_⟩
  rw [past1 ylt]
  exact puts [(11, .slice none 0 0)] (r1 := { r with pe := [] }) (HR.out.below (below_alloc (Below.refl _ _) _)).nope ((alloc_old ylt).trans HBLK.out) rfl
set_option maxHeartbeats 4000000 in
set_option maxRecDepth 100000 in
theorem data0b (B O : Nat) (w0 W : World) (r : Rd) (f : Cx) (b : Nat) (hb : b < 256) (h : RdAt B O w0 W r) (hl : (r.out.length + 1) * 64 ≤ 140737488355328) (hs : r.tx.length + r.pe.length + 1 ≤ 1000000000000) (h1 : r.c.st = 0) (h2 : f.st ≠ 2) : Calls Tryd.prog 77 #[.pointer (some ⟨B, 0, none⟩), .agg (cxs f), .int .u8 (b : Int)] W fun e W' => (∃ v, e = .returned v) ∧ RdAt B O w0 W' (dataM r f.st b) := by
  have e : dataM r f.st b = settle r [(b : Int)] := by simp [dataM, h1, h2]
  rw [e]
  clear e
  have hu33 := Tryd.underlying33
  obtain ⟨tv, pv, av, ov, hblk, hrows⟩ := h
  obtain ⟨A2, c2, e2⟩ := Kd.R_slice hrows.pe
  subst e2
  obtain ⟨y0, y1, y2, y3, y4, y5, y6, y7, y8, y9, y10, y11, y12, y13, y14, y15, y16, y17, y18, yf, ylt⟩ := rcells hblk
  have HBLK := Aside0.mk hblk
  have HR := Aside0.mk hrows
  have HL := Aside0.mk hl
  have HS := Aside0.mk hs
  have HAT := Aside0.mk (show RdAt B O w0 W r from ⟨tv, _, av, ov, hblk, hrows⟩)
  have f1 : ((r.c.st : Int) == 1) = false := by rw [beq_eq_false_iff_ne]; omega
  have f2 : ((r.c.st : Int) == 2) = false := by rw [beq_eq_false_iff_ne]; omega
  have f3 : ((r.c.st : Int) == 3) = false := by rw [beq_eq_false_iff_ne]; omega
  have f11 : ((r.c.st : Int) == 11) = false := by rw [beq_eq_false_iff_ne]; omega
  have f16 : ((r.c.st : Int) == 16) = false := by rw [beq_eq_false_iff_ne]; omega
  have f0 : ((r.c.st : Int) == 0) = true := by rw [beq_iff_eq]; omega
  have k2 : ((f.st : Int) == 2) = false := by rw [beq_eq_false_iff_ne]; omega
  simp only [cxs]
  clear hblk hrows hl hs
  go_enter Tryd.func77, Tryd.ntmps77
  go_wp2_with (go_at_call 109; (with_reducible refine (settle_one' B O w0 (W.alloc (.cells #[.int .u8 (f.st : Int), .int .u8 (f.el : Int), .bool f.en, .int .u8 (f.ak : Int), .int .u8 (f.qu : Int), .int .u8 (f.pa : Int), .int .u8 (f.su : Int), .bool f.es, .int .u8 (f.da : Int), .string (bs f.nm)] 33)) r (b : Int) (HAT.out.below (below_alloc (Below.refl _ _) _)) HS.out ?hV ?hg).mono ?_); (case hV => rfl); (case hg => rw [alloc_size]); rintro e w1 ⟨⟨v, rfl⟩, h1⟩; have H1 := Aside0.mk h1; clear h1)
  go_end0
  refine ⟨⟨_, rfl⟩, ?_⟩
  exact H1.out
end Go.Proofs.YtfplocpjdjjoaaaDoor.Ctxs
namespace Go.Proofs.YtfplocpjdjjoaaaDoor.Ctxs
open Go Go.RowKit Go.Proofs.YtfplocpjdjjoaaaDoor.PWholeTrailers Go.Proofs.YtfplocpjdjjoaaaDoor.Trail Go.Proofs.YtfplocpjdjjoaaaDoorW.PrintWords
set_option linter.unusedVariables false
set_option linter.unusedSimpArgs false
set_option maxHeartbeats 4000000 in
set_option maxRecDepth 100000 in
theorem raw17 (B O : Nat) (w0 W : World) (r : Rd) (f : Cx) (b : Nat) (hb : b < 256) (h : RdAt B O w0 W r) (hl : (r.out.length + 2) * 64 ≤ 140737488355328) (hs : r.tx.length + r.pe.length + 1 ≤ 1000000000000) (h1 : r.c.st = 17) : Calls Tryd.prog 78 #[.pointer (some ⟨B, 0, none⟩), .agg (cxs f), .int .u8 (b : Int)] W fun e W' => (∃ v, e = .returned v) ∧ RdAt B O w0 W' (rawM r f.nm b) := by
  have e : rawM r f.nm b = settle r [(b : Int)] := by simp [rawM, h1]
  rw [e]
  clear e
  have hu33 := Tryd.underlying33
  obtain ⟨tv, pv, av, ov, hblk, hrows⟩ := h
  obtain ⟨A2, c2, e2⟩ := Kd.R_slice hrows.pe
  subst e2
  obtain ⟨y0, y1, y2, y3, y4, y5, y6, y7, y8, y9, y10, y11, y12, y13, y14, y15, y16, y17, y18, yf, ylt⟩ := rcells hblk
  have HBLK := Aside0.mk hblk
  have HR := Aside0.mk hrows
  have HL := Aside0.mk hl
  have HS := Aside0.mk hs
  have HAT := Aside0.mk (show RdAt B O w0 W r from ⟨tv, _, av, ov, hblk, hrows⟩)
  have f17 : ((r.c.st : Int) == 17) = true := by rw [beq_iff_eq]; omega
  simp only [cxs]
  clear hblk hrows hl hs
  go_enter Tryd.func78, Tryd.ntmps78
  go_wp2_with (go_at_call 109; (with_reducible refine (settle_one' B O w0 (W.alloc (.cells #[.int .u8 (f.st : Int), .int .u8 (f.el : Int), .bool f.en, .int .u8 (f.ak : Int), .int .u8 (f.qu : Int), .int .u8 (f.pa : Int), .int .u8 (f.su : Int), .bool f.es, .int .u8 (f.da : Int), .string (bs f.nm)] 33)) r (b : Int) (HAT.out.below (below_alloc (Below.refl _ _) _)) HS.out ?hV ?hg).mono ?_); (case hV => rfl); (case hg => rw [alloc_size]); rintro e w1 ⟨⟨v, rfl⟩, h1⟩; have H1 := Aside0.mk h1; clear h1)
  go_end0
  refine ⟨⟨_, rfl⟩, ?_⟩
  exact H1.out
set_option maxHeartbeats 4000000 in
set_option maxRecDepth 100000 in
theorem raw18 (B O : Nat) (w0 W : World) (r : Rd) (f : Cx) (b : Nat) (hb : b < 256) (h : RdAt B O w0 W r) (hl : (r.out.length + 2) * 64 ≤ 140737488355328) (hs : r.tx.length + r.pe.length + 1 ≤ 1000000000000) (h1 : r.c.st = 18) : Calls Tryd.prog 78 #[.pointer (some ⟨B, 0, none⟩), .agg (cxs f), .int .u8 (b : Int)] W fun e W' => (∃ v, e = .returned v) ∧ RdAt B O w0 W' (rawM r f.nm b) := by
  have e : rawM r f.nm b = { settle r [] with pe := [(b : Int)] } := by simp [rawM, h1]
  rw [e]
  clear e
  have hu33 := Tryd.underlying33
  obtain ⟨tv, pv, av, ov, hblk, hrows⟩ := h
  obtain ⟨A2, c2, e2⟩ := Kd.R_slice hrows.pe
  subst e2
  obtain ⟨y0, y1, y2, y3, y4, y5, y6, y7, y8, y9, y10, y11, y12, y13, y14, y15, y16, y17, y18, yf, ylt⟩ := rcells hblk
  have HBLK := Aside0.mk hblk
  have HR := Aside0.mk hrows
  have HL := Aside0.mk hl
  have HS := Aside0.mk hs
  have HAT := Aside0.mk (show RdAt B O w0 W r from ⟨tv, _, av, ov, hblk, hrows⟩)
  have f17 : ((r.c.st : Int) == 17) = false := by rw [beq_eq_false_iff_ne]; omega
  have f18 : ((r.c.st : Int) == 18) = true := by rw [beq_iff_eq]; omega
  simp only [cxs]
  clear hblk hrows hl hs
  go_enter Tryd.func78, Tryd.ntmps78
  go_wp2_with (go_at_call 109; (with_reducible refine (settle_nil B O w0 _ r (HAT.out.below (below_alloc (Below.refl _ _) _)) (by have := HS.out; omega)).mono ?_); rintro e w1 ⟨⟨v, rfl⟩, tv1, pv1, av1, ov1, hblk1, hrows1⟩; obtain ⟨A3, c3, e3⟩ := Kd.R_slice hrows1.pe; subst e3; obtain ⟨z0, z1, z2, z3, z4, z5, z6, z7, z8, z9, z10, z11, z12, z13, z14, z15, z16, z17, z18, zf, zlt⟩ := rcells hblk1; have HBLK1 := Aside0.mk hblk1; have HR1 := Aside0.mk hrows1; clear hblk1 hrows1)
  go_end0
  refine ⟨⟨_, rfl⟩, ?_⟩
  rw [past1 zlt]
  exact puts [(11, .slice (some ⟨w1.heap.size, 0, none⟩) 1 1)] (r1 := { settle r [] with pe := [(b : Int)] }) (HR1.out.onepe (b : Int) rfl) ((alloc_old zlt).trans HBLK1.out) rfl
set_option maxHeartbeats 4000000 in
set_option maxRecDepth 100000 in
theorem raw19 (B O : Nat) (w0 W : World) (r : Rd) (f : Cx) (b : Nat) (hb : b < 256) (h : RdAt B O w0 W r) (hl : (r.out.length + 2) * 64 ≤ 140737488355328) (hs : r.tx.length + r.pe.length + 1 ≤ 1000000000000) (h1 : r.c.st = 19) : Calls Tryd.prog 78 #[.pointer (some ⟨B, 0, none⟩), .agg (cxs f), .int .u8 (b : Int)] W fun e W' => (∃ v, e = .returned v) ∧ RdAt B O w0 W' (rawM r f.nm b) := by
  have e : rawM r f.nm b = { r with pe := r.pe ++ [(b : Int)] } := by simp [rawM, h1]
  rw [e]
  clear e
  have hu33 := Tryd.underlying33
  obtain ⟨tv, pv, av, ov, hblk, hrows⟩ := h
  obtain ⟨A2, c2, e2⟩ := Kd.R_slice hrows.pe
  subst e2
  obtain ⟨y0, y1, y2, y3, y4, y5, y6, y7, y8, y9, y10, y11, y12, y13, y14, y15, y16, y17, y18, yf, ylt⟩ := rcells hblk
  have HBLK := Aside0.mk hblk
  have HR := Aside0.mk hrows
  have HL := Aside0.mk hl
  have HS := Aside0.mk hs
  have HAT := Aside0.mk (show RdAt B O w0 W r from ⟨tv, _, av, ov, hblk, hrows⟩)
  obtain ⟨pb, hpb⟩ : ∃ pb, pb = r.pe ++ [(b : Int)] := ⟨_, rfl⟩
  have HPB := Aside0.mk hpb
  clear hpb
  have f17 : ((r.c.st : Int) == 17) = false := by rw [beq_eq_false_iff_ne]; omega
  have f18 : ((r.c.st : Int) == 18) = false := by rw [beq_eq_false_iff_ne]; omega
  have f19 : ((r.c.st : Int) == 19) = true := by rw [beq_iff_eq]; omega
  simp only [cxs]
  clear hblk hrows hl hs
  go_enter Tryd.func78, Tryd.ntmps78
  go_wp2_with ((with_reducible refine gate_builtin (b := .append) (xs := #[.tmp 32, .tmp 34]) rfl ?_); at_builtin; refine Kd.R_append (Kd.int .u8) (w0 := w0) (W := W.alloc (.cells #[.int .u8 (f.st : Int), .int .u8 (f.el : Int), .bool f.en, .int .u8 (f.ak : Int), .int .u8 (f.qu : Int), .int .u8 (f.pa : Int), .int .u8 (f.su : Int), .bool f.es, .int .u8 (f.da : Int), .string (bs f.nm)] 33)) w0.heap.size rfl (.tmp 32) (.tmp 34) 22 5 (.int .u8 0) 1 rfl Tryd.underlying22 info5 rfl (by decide) (by omega) (.slice A2 r.pe.length c2) r.pe (b : Int) [.int .u8 (b : Int)] (fun _ => True) (fun _ => False) rfl ?aX rfl (fun _ h => h.elim) (fun _ _ => trivial) ?aO ?aB ?aS ?aL ?_; (case aX => show Value.slice (some ⟨W.heap.size + 1, 0, none⟩) 1 1 = _; rw [alloc_size]); (case aO => exact (HR.out.below (below_alloc (Below.refl _ _) _)).pe); (case aB => exact below_alloc HR.out.bw _); (case aS => exact (below_alloc HR.out.bw _).size); (case aL => have := HS.out; omega); intro v1 w1 hn hb1 hg hat; rw [← HPB.out] at hn; have hr1 := (HR.out.below (below_alloc (Below.refl _ _) _)).setpe hg hat hn hb1; have HR1 := Aside0.mk hr1; have HBLK1 := Aside0.mk ((hg.block B (by rw [alloc_size]; omega) (HR.out.nB.2.2.1)).trans ((alloc_old ylt).trans HBLK.out)); obtain ⟨z0, z1, z2, z3, z4, z5, z6, z7, z8, z9, z10, z11, z12, z13, z14, z15, z16, z17, z18, zf, zlt⟩ := rcells HBLK1.out; obtain ⟨A4, c4, rfl⟩ := Kd.R_slice hn; clear hn hb1 hg hat hr1)
  go_end0
  refine ⟨⟨_, rfl⟩, ?_⟩
  have hr := HR1.out
  exact puts [(11, .slice A4 pb.length c4)] (r1 := { r with pe := r.pe ++ [(b : Int)] }) (show Rows B O w0 w1 r.tx (r.pe ++ [(b : Int)]) r.tk.f2 r.out tv (.slice A4 pb.length c4) av ov by rw [← HPB.out]; exact hr) HBLK1.out rfl
set_option maxHeartbeats 4000000 in
set_option maxRecDepth 100000 in
theorem raw4 (B O : Nat) (w0 W : World) (r : Rd) (f : Cx) (b : Nat) (hb : b < 256) (h : RdAt B O w0 W r) (hl : (r.out.length + 2) * 64 ≤ 140737488355328) (hs : r.tx.length + r.pe.length + 1 ≤ 1000000000000) (h1 : r.c.st = 4) : Calls Tryd.prog 78 #[.pointer (some ⟨B, 0, none⟩), .agg (cxs f), .int .u8 (b : Int)] W fun e W' => (∃ v, e = .returned v) ∧ RdAt B O w0 W' (rawM r f.nm b) := by
  have e : rawM r f.nm b = start r 2 (bs f.nm) (bs []) := by simp [rawM, h1]
  rw [e]
  clear e
  have hu33 := Tryd.underlying33
  obtain ⟨tv, pv, av, ov, hblk, hrows⟩ := h
  obtain ⟨A2, c2, e2⟩ := Kd.R_slice hrows.pe
  subst e2
  obtain ⟨y0, y1, y2, y3, y4, y5, y6, y7, y8, y9, y10, y11, y12, y13, y14, y15, y16, y17, y18, yf, ylt⟩ := rcells hblk
  have HBLK := Aside0.mk hblk
  have HR := Aside0.mk hrows
  have HL := Aside0.mk hl
  have HS := Aside0.mk hs
  have HAT := Aside0.mk (show RdAt B O w0 W r from ⟨tv, _, av, ov, hblk, hrows⟩)
  have f17 : ((r.c.st : Int) == 17) = false := by rw [beq_eq_false_iff_ne]; omega
  have f18 : ((r.c.st : Int) == 18) = false := by rw [beq_eq_false_iff_ne]; omega
  have f19 : ((r.c.st : Int) == 19) = false := by rw [beq_eq_false_iff_ne]; omega
  have f4 : ((r.c.st : Int) == 4) = true := by rw [beq_iff_eq]; omega
  have f0 : ((r.c.st : Int) == 0) = false := by rw [beq_eq_false_iff_ne]; omega
  have f0s : (((start r 2 (bs f.nm) (bs [])).c.st : Int) == 0) = false := f0
  simp only [cxs]
  clear hblk hrows hl hs
  go_enter Tryd.func78, Tryd.ntmps78
  go_wp2_with (go_at_call 110; (with_reducible refine (begin_at B O w0 _ r 2 (bs f.nm) (bs []) ?hn ?hd (HAT.out.below (below_alloc (Below.refl _ _) _)) (by have := HL.out; omega)).mono ?_); (case hn => rfl); (case hd => rfl); rintro e w1 ⟨⟨v, rfl⟩, tv1, pv1, av1, ov1, hblk1, hrows1⟩; obtain ⟨z0, z1, z2, z3, z4, z5, z6, z7, z8, z9, z10, z11, z12, z13, z14, z15, z16, z17, z18, zf, zlt⟩ := rcells hblk1; have HAT1 := Aside0.mk (show RdAt B O w0 w1 (start r 2 (bs f.nm) (bs [])) from ⟨tv1, pv1, av1, ov1, hblk1, hrows1⟩); clear hblk1 hrows1)
  go_end0
  refine ⟨⟨_, rfl⟩, ?_⟩
  exact HAT1.out
set_option maxHeartbeats 4000000 in
set_option maxRecDepth 100000 in
theorem raw10 (B O : Nat) (w0 W : World) (r : Rd) (f : Cx) (b : Nat) (hb : b < 256) (h : RdAt B O w0 W r) (hl : (r.out.length + 2) * 64 ≤ 140737488355328) (hs : r.tx.length + r.pe.length + 1 ≤ 1000000000000) (h1 : r.c.st = 10) : Calls Tryd.prog 78 #[.pointer (some ⟨B, 0, none⟩), .agg (cxs f), .int .u8 (b : Int)] W fun e W' => (∃ v, e = .returned v) ∧ RdAt B O w0 W' (rawM r f.nm b) := by
  have e : rawM r f.nm b = start r 2 (bs f.nm) (bs []) := by simp [rawM, h1]
  rw [e]
  clear e
  have hu33 := Tryd.underlying33
  obtain ⟨tv, pv, av, ov, hblk, hrows⟩ := h
  obtain ⟨A2, c2, e2⟩ := Kd.R_slice hrows.pe
  subst e2
  obtain ⟨y0, y1, y2, y3, y4, y5, y6, y7, y8, y9, y10, y11, y12, y13, y14, y15, y16, y17, y18, yf, ylt⟩ := rcells hblk
  have HBLK := Aside0.mk hblk
  have HR := Aside0.mk hrows
  have HL := Aside0.mk hl
  have HS := Aside0.mk hs
  have HAT := Aside0.mk (show RdAt B O w0 W r from ⟨tv, _, av, ov, hblk, hrows⟩)
  have f17 : ((r.c.st : Int) == 17) = false := by rw [beq_eq_false_iff_ne]; omega
  have f18 : ((r.c.st : Int) == 18) = false := by rw [beq_eq_false_iff_ne]; omega
  have f19 : ((r.c.st : Int) == 19) = false := by rw [beq_eq_false_iff_ne]; omega
  have f4 : ((r.c.st : Int) == 4) = false := by rw [beq_eq_false_iff_ne]; omega
  have f10 : ((r.c.st : Int) == 10) = true := by rw [beq_iff_eq]; omega
  have f0 : ((r.c.st : Int) == 0) = false := by rw [beq_eq_false_iff_ne]; omega
  have f0s : (((start r 2 (bs f.nm) (bs [])).c.st : Int) == 0) = false := f0
  simp only [cxs]
  clear hblk hrows hl hs
  go_enter Tryd.func78, Tryd.ntmps78
  go_wp2_with (go_at_call 110; (with_reducible refine (begin_at B O w0 _ r 2 (bs f.nm) (bs []) ?hn ?hd (HAT.out.below (below_alloc (Below.refl _ _) _)) (by have := HL.out; omega)).mono ?_); (case hn => rfl); (case hd => rfl); rintro e w1 ⟨⟨v, rfl⟩, tv1, pv1, av1, ov1, hblk1, hrows1⟩; obtain ⟨z0, z1, z2, z3, z4, z5, z6, z7, z8, z9, z10, z11, z12, z13, z14, z15, z16, z17, z18, zf, zlt⟩ := rcells hblk1; have HAT1 := Aside0.mk (show RdAt B O w0 w1 (start r 2 (bs f.nm) (bs [])) from ⟨tv1, pv1, av1, ov1, hblk1, hrows1⟩); clear hblk1 hrows1)
  go_end0
  refine ⟨⟨_, rfl⟩, ?_⟩
  exact HAT1.out
set_option maxHeartbeats 4000000 in
set_option maxRecDepth 100000 in
theorem raw0 (B O : Nat) (w0 W : World) (r : Rd) (f : Cx) (b : Nat) (hb : b < 256) (h : RdAt B O w0 W r) (hl : (r.out.length + 2) * 64 ≤ 140737488355328) (hs : r.tx.length + r.pe.length + 1 ≤ 1000000000000) (h1 : r.c.st = 0) : Calls Tryd.prog 78 #[.pointer (some ⟨B, 0, none⟩), .agg (cxs f), .int .u8 (b : Int)] W fun e W' => (∃ v, e = .returned v) ∧ RdAt B O w0 W' (rawM r f.nm b) := by
  have e : rawM r f.nm b = fin (start r 2 (bs f.nm) (bs [])) := by simp [rawM, h1]
  rw [e]
  clear e
  have hu33 := Tryd.underlying33
  obtain ⟨tv, pv, av, ov, hblk, hrows⟩ := h
  obtain ⟨A2, c2, e2⟩ := Kd.R_slice hrows.pe
  subst e2
  obtain ⟨y0, y1, y2, y3, y4, y5, y6, y7, y8, y9, y10, y11, y12, y13, y14, y15, y16, y17, y18, yf, ylt⟩ := rcells hblk
  have HBLK := Aside0.mk hblk
  have HR := Aside0.mk hrows
  have HL := Aside0.mk hl
  have HS := Aside0.mk hs
  have HAT := Aside0.mk (show RdAt B O w0 W r from ⟨tv, _, av, ov, hblk, hrows⟩)
  have HL2 := Aside0.mk (show ((start r 2 (bs f.nm) (bs [])).out.length + 1) * 64 ≤ 140737488355328 by have := flushed_len r; have : (start r 2 (bs f.nm) (bs [])).out.length ≤ r.out.length + 1 := this; omega)
  have f17 : ((r.c.st : Int) == 17) = false := by rw [beq_eq_false_iff_ne]; omega
  have f18 : ((r.c.st : Int) == 18) = false := by rw [beq_eq_false_iff_ne]; omega
  have f19 : ((r.c.st : Int) == 19) = false := by rw [beq_eq_false_iff_ne]; omega
  have f4 : ((r.c.st : Int) == 4) = false := by rw [beq_eq_false_iff_ne]; omega
  have f10 : ((r.c.st : Int) == 10) = false := by rw [beq_eq_false_iff_ne]; omega
  have f0 : ((r.c.st : Int) == 0) = true := by rw [beq_iff_eq]; omega
  have f0s : (((start r 2 (bs f.nm) (bs [])).c.st : Int) == 0) = true := f0
  simp only [cxs]
  clear hblk hrows hl hs
  go_enter Tryd.func78, Tryd.ntmps78
  go_wp2_with (first | (go_at_call 110; (with_reducible refine (begin_at B O w0 _ r 2 (bs f.nm) (bs []) ?hn ?hd (HAT.out.below (below_alloc (Below.refl _ _) _)) (by have := HL.out; omega)).mono ?_); (case hn => rfl); (case hd => rfl); rintro e w1 ⟨⟨v, rfl⟩, tv1, pv1, av1, ov1, hblk1, hrows1⟩; obtain ⟨z0, z1, z2, z3, z4, z5, z6, z7, z8, z9, z10, z11, z12, z13, z14, z15, z16, z17, z18, zf, zlt⟩ := rcells hblk1; have HAT1 := Aside0.mk (show RdAt B O w0 w1 (start r 2 (bs f.nm) (bs [])) from ⟨tv1, pv1, av1, ov1, hblk1, hrows1⟩); clear hblk1 hrows1) | (go_at_call 111; (with_reducible refine (end_calls B O w0 _ (start r 2 (bs f.nm) (bs [])) HAT1.out HL2.out).mono ?_); rintro e w2 ⟨⟨v, rfl⟩, h1⟩; have H1 := Aside0.mk h1; clear h1))
  go_end0
  refine ⟨⟨_, rfl⟩, ?_⟩
  exact H1.out
end Go.Proofs.YtfplocpjdjjoaaaDoor.Ctxs
