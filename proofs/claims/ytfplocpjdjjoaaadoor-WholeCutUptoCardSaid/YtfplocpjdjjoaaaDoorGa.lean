/-
  The contexts of markup as plain functions (numbers for the bytes, lists for the names), as packages ctx, step and trailer compute them; and that a context's trailer ends all that is open.
  What holds of a context holds of the one behind a byte more (Inv is kept by step).
  What holds of a context holds of the one behind a byte more: step keeps Inv; so a text that is taken, with the trailer of its context, is whole.
  What HTML alone knows of a context (flat): it goes on by itself, byte by byte, as long as the whole context is taken.
  How often a byte is looked at: each look lowers the rank of the context, so the fuel of 'move' does not matter.
  What stands in a name behind a byte more: what stood there, and that byte as a small one.
  Conditions: as each theorem says.
-/
import Derived.KernelRfl
namespace Go.Proofs.YtfplocpjdjjoaaaDoor.Trail
set_option linter.unusedVariables false
set_option linter.unusedSimpArgs false

structure Cx where
  st : Nat := 0
  el : Nat := 0
  en : Bool := false
  ak : Nat := 0
  qu : Nat := 0
  pa : Nat := 0
  su : Nat := 0
  es : Bool := false
  da : Nat := 0
  nm : List Nat := []
deriving DecidableEq

def bad : Cx := { st := 20 }
def letter (b : Nat) : Bool := (97 ≤ b && b ≤ 122) || (65 ≤ b && b ≤ 90)
def small (b : Nat) : Nat := if 65 ≤ b ∧ b ≤ 90 then b + 32 else b
def blank (b : Nat) : Bool := b == 32 || b == 9 || b == 10 || b == 12 || b == 13
def nameOf : Nat → List Nat
  | 1 => [116, 101, 120, 116, 97, 114, 101, 97]
  | 2 => [116, 105, 116, 108, 101]
  | 3 => [115, 99, 114, 105, 112, 116]
  | 4 => [115, 116, 121, 108, 101]
  | _ => []
def elemOf (n : List Nat) : Nat := if n = nameOf 1 then 1 else if n = nameOf 2 then 2 else if n = nameOf 3 then 3 else if n = nameOf 4 then 4 else 0
def closes (el : Nat) : Cx := if el = 0 then {} else { st := 17, el := el }
def within (c : Cx) (s : Nat) : Cx := { st := s, el := c.el, en := c.en }
def grown (c : Cx) (b : Nat) : Cx := if 32 ≤ c.nm.length then bad else { c with nm := c.nm ++ [small b] }
def ends (c : Cx) : Bool := c.su == 0 || c.su == 4
/-- What an attribute's value is, by its name: of the names nothing is used here but that the answer is at most 4. -/
def opened (b : Nat) : Option Cx :=
  if letter b then some { st := 3, nm := [small b] } else if b = 47 then some { st := 2 } else if b = 33 then some { st := 11 } else if b = 63 then some { st := 16 } else none
def closed (b : Nat) : Cx := if letter b then { st := 3, en := true, nm := [small b] } else if b = 62 then {} else { st := 16 }
def note (c : Cx) (b : Nat) : Cx :=
  if c.st = 11 ∨ c.st = 12 then (if b = 62 then {} else if b = 45 ∧ c.st = 11 then { st := 12 } else if b = 45 then { st := 13 } else { st := 16 })
  else if c.st = 13 ∨ c.st = 14 then (if b = 62 then bad else if b = 45 ∧ c.st = 13 then { st := 14 } else if b = 45 then { st := 15, da := 2 } else { st := 15 })
  else if c.st = 15 then (if b = 62 ∧ c.da = 2 then {} else if b = 33 ∧ c.da = 2 then bad else if b = 45 then { st := 15, da := min (c.da + 1) 2 } else { st := 15 })
  else if c.st = 16 then (if b = 62 then {} else c)
  else c
def named (attrOf : List Nat → Nat) (c : Cx) (b : Nat) : Cx × Bool :=
  if b = 61 ∧ c.nm ≠ [] then ({ within c 7 with ak := attrOf c.nm }, false)
  else if b = 47 ∨ b = 62 then (within c 9, true)
  else if blank b then ({ c with st := 6 }, false)
  else if c.st = 6 then (within c 4, true)
  else if b = 34 ∨ b = 39 ∨ b = 60 then (bad, false)
  else (grown c b, false)
def begun (c : Cx) (b : Nat) : Cx × Bool :=
  if blank b then (c, false) else if b = 62 then (bad, false) else if b = 34 ∨ b = 39 then ({ c with st := 8, qu := b }, false) else ({ c with st := 8 }, true)
def tag (attrOf : List Nat → Nat) (c : Cx) (b : Nat) : Cx × Bool :=
  if c.st = 3 then (if !blank b && b != 47 && b != 62 then (grown c b, false) else (within (if c.en then c else { c with el := elemOf c.nm }) 9, true))
  else if c.st = 9 then (if blank b then (within c 4, false) else if b = 47 then (within c 10, false) else if b = 62 then (closes c.el, false) else (bad, false))
  else if c.st = 10 then (if b = 62 then (closes c.el, false) else (within c 4, true))
  else if c.st = 4 then (if blank b then (c, false) else if b = 47 ∨ b = 62 then (within c 9, true) else if b = 61 then (bad, false) else ({ c with st := 5 }, true))
  else if c.st = 7 then begun c b
  else named attrOf c b
def text (c : Cx) (b : Nat) : Cx :=
  if c.es then { c with es := false } else if b = 92 then { c with es := true } else if b = 10 ∨ b = 13 then bad
  else if (b = 34 ∧ c.su = 1) ∨ (b = 39 ∧ c.su = 2) then { c with su := 0 } else c
def codeTop (c : Cx) (b : Nat) (script : Bool) : Cx :=
  if b = 34 then { c with su := 1 } else if b = 39 then { c with su := 2 } else if b = 47 then { c with su := 3 }
  else if (script ∧ b = 96) ∨ (!script ∧ (b = 40 ∨ b = 92)) then bad else c
def code (c : Cx) (b : Nat) (script : Bool) : Cx :=
  if c.su = 0 then codeTop c b script
  else if c.su = 3 then (if b = 42 then { c with su := 5 } else if script ∧ b = 47 then { c with su := 4 } else if script then bad else codeTop { c with su := 0 } b script)
  else if c.su = 1 ∨ c.su = 2 then text c b
  else if c.su = 4 then (if b = 10 ∨ b = 13 then { c with su := 0 } else c)
  else if c.su = 5 then (if b = 42 then { c with su := 6 } else c)
  else if c.su = 6 then (if b = 47 then { c with su := 0 } else if b = 42 then c else { c with su := 5 })
  else c
def url (c : Cx) (b : Nat) : Cx :=
  let name := c.nm
  let c := { c with nm := [] }
  if c.pa = 4 ∨ c.pa = 5 then c
  else if b = 38 then bad
  else if b = 63 ∨ b = 35 then { c with pa := 4 }
  else if c.pa = 3 then c
  else if b = 47 then { c with pa := 3 }
  else if b = 58 ∧ c.pa = 2 then bad
  else if b = 58 then { c with pa := if name = [104, 116, 116, 112] ∨ name = [104, 116, 116, 112, 115] ∨ name = [109, 97, 105, 108, 116, 111] then 3 else 5 }
  else if c.pa = 2 then c
  else if 16 ≤ name.length then { c with pa := 1, nm := name }
  else { c with pa := 1, nm := name ++ [small b] }
def value (c : Cx) (b : Nat) : Cx :=
  let bare := c.qu == 0
  if (!bare && b == c.qu) || (bare && (blank b || b == 62)) then
    (if !ends c then bad else if !bare then within c 9 else if b = 62 then closes c.el else within c 4)
  else if bare && (b == 34 || b == 39 || b == 60 || b == 61 || b == 96) then bad
  else if c.ak = 1 then url c b
  else if c.ak = 2 ∨ c.ak = 3 then (if b = 38 then bad else code c b (c.ak == 2))
  else c
def coded (c : Cx) : Bool := if c.st = 8 then c.ak == 2 || c.ak == 3 else if c.st = 17 ∨ c.st = 18 ∨ c.st = 19 then c.el == 3 || c.el == 4 else false
def run (c : Cx) (script : Bool) : List Nat → Cx
  | [] => c
  | b :: r => let d := code c b script; if d.st = 20 then bad else run d script r
def fed (c : Cx) (s : List Nat) (feed : Bool) : Cx :=
  let c := { c with st := 17, nm := [] }
  if !feed || !coded c then c else run c (c.el == 3) s
def rawEnd (c : Cx) (b : Nat) (feed : Bool) : Cx :=
  let c := fed c [b] feed
  if c.st = 17 ∧ b = 60 then { c with st := 18 } else c
def raw (c : Cx) (b : Nat) (feed : Bool) : Cx :=
  let name := nameOf c.el
  if c.st = 18 ∧ b = 47 then { c with st := 19 }
  else if c.st = 18 ∧ b = 33 ∧ c.el = 3 then bad
  else if c.st = 19 ∧ c.nm = name ∧ (blank b ∨ b = 47 ∨ b = 62) then (if !ends c then bad else (tag (fun _ => 0) { st := 9, en := true } b).1)
  else if c.st = 19 ∧ (c.nm ++ [small b]).isPrefixOf name then { c with nm := c.nm ++ [small b] }
  else if c.st = 19 then (let d := fed c (47 :: c.nm) feed; if d.st = 20 then bad else rawEnd d b feed)
  else rawEnd c b feed
def move (attrOf : List Nat → Nat) (feed : Bool) : Nat → Cx → Nat → Cx
  | 0, c, _ => c
  | k + 1, c, b =>
    if c.st = 0 then (if b = 60 then { c with st := 1 } else c)
    else if c.st = 1 then (match opened b with | some to => to | none => move attrOf feed k { c with st := 0 } b)
    else if c.st = 2 then closed b
    else if 3 ≤ c.st ∧ c.st ≤ 10 ∧ c.st ≠ 8 then (let t := tag attrOf c b; if t.2 then move attrOf feed k t.1 b else t.1)
    else if c.st = 8 then value c b
    else if 17 ≤ c.st ∧ c.st ≤ 19 then raw c b feed
    else note c b
def step (attrOf : List Nat → Nat) (feed : Bool) (c : Cx) (b : Nat) : Cx := move attrOf feed 8 c b
/-- The context behind all bytes; none: it is bad behind one of them. -/
def steps (attrOf : List Nat → Nat) (feed : Bool) : Cx → List Nat → Option Cx
  | c, [] => some c
  | c, b :: r => let d := step attrOf feed c b; if d.st = 20 then none else steps attrOf feed d r

/-! #### The trailer -/
def tcode (c : Cx) : List Nat :=
  let esc := if c.es then [110] else []
  let script := if c.st = 8 then c.ak == 2 else c.el == 3
  if c.su = 1 then esc ++ [34] else if c.su = 2 then esc ++ [39] else if c.su = 3 then (if script then [47] else [120]) else if c.su = 5 then [42, 47] else if c.su = 6 then [47] else []
def element (e : Nat) : List Nat := if e = 0 then [] else [60, 47] ++ nameOf e ++ [62]
theorem steps_append (f : List Nat → Nat) (feed : Bool) : ∀ (c : Cx) (a b : List Nat), steps f feed c (a ++ b) = (steps f feed c a).bind fun d => steps f feed d b
  | c, [], b => rfl
  | c, x :: r, b => by
    simp only [List.cons_append, steps]
    split
    · rfl
    · exact steps_append f feed _ r b
/-- An element's text, nothing of it open, is ended by its end tag. -/
theorem close_raw (f : List Nat → Nat) (feed : Bool) (e : Nat) (h : 1 ≤ e ∧ e ≤ 4) : steps f feed { st := 17, el := e } (element e) = some {} := by
  have : e = 1 ∨ e = 2 ∨ e = 3 ∨ e = 4 := by omega
  cases feed <;> rcases this with rfl | rfl | rfl | rfl <;> simp [element, nameOf, steps, step, move, raw, rawEnd, fed, coded, run, code, codeTop, ends, tag, closes, small, blank, within, List.isPrefixOf]
theorem close_elem (f : List Nat → Nat) (feed : Bool) (e : Nat) (h : e ≤ 4) : steps f feed (closes e) (element e) = some {} := by
  unfold closes
  by_cases h0 : e = 0
  · subst h0; rfl
  · rw [if_neg h0]; exact close_raw f feed e (by omega)
theorem elemOf_le (n : List Nat) : elemOf n ≤ 4 := by
  unfold elemOf
  repeat' split
  all_goals omega
theorem close_tag (f : List Nat → Nat) (feed : Bool) (c : Cx) (hs : c.st = 4 ∨ c.st = 9 ∨ c.st = 10 ∨ c.st = 5 ∨ c.st = 6) (h : c.el ≤ 4) : steps f feed c (62 :: element c.el) = some {} := by
  have e1 : step f feed c 62 = closes c.el := by
    rcases hs with hs | hs | hs | hs | hs <;> simp [step, move, tag, named, within, blank, hs]
  have e2 : (closes c.el).st ≠ 20 := by unfold closes; split <;> simp
  simp only [steps, e1, if_neg e2]
  exact close_elem f feed _ h
def traw (f : List Nat → Nat) (c : Cx) : List Nat :=
  if c.st ≠ 19 then tcode c ++ element c.el
  else if c.su = 0 ∨ c.su = 4 then (nameOf c.el).drop c.nm.length ++ [62]
  else tcode ((steps f true { st := 17, el := c.el, su := c.su, es := c.es } (47 :: c.nm)).getD bad) ++ element c.el
/-- The text that ends all that is open in a context. -/
def trailer (f : List Nat → Nat) (c : Cx) : List Nat :=
  if c.st = 1 then [32]
  else if c.st = 3 then (if c.en then [62] else 62 :: element (elemOf c.nm))
  else if c.st = 2 ∨ c.st = 11 ∨ c.st = 12 ∨ c.st = 16 then [62]
  else if c.st = 13 ∨ c.st = 14 ∨ c.st = 15 then [45, 45, 62]
  else if c.st = 4 ∨ c.st = 5 ∨ c.st = 6 ∨ c.st = 9 ∨ c.st = 10 then 62 :: element c.el
  else if c.st = 7 then [34, 34, 62] ++ element c.el
  else if c.st = 8 then tcode c ++ (if c.qu ≠ 0 then [c.qu] else []) ++ 62 :: element c.el
  else if c.st = 17 ∨ c.st = 18 ∨ c.st = 19 then traw f c
  else []
/-- What holds of every context that markup leads to. -/
structure Inv (c : Cx) : Prop where
  top : c.st ≤ 19
  el4 : c.el ≤ 4
  en0 : c.en = true → c.el = 0
  flat : c.st = 0 ∨ c.st = 1 ∨ c.st = 2 ∨ c.st = 11 ∨ c.st = 12 ∨ c.st = 13 ∨ c.st = 14 ∨ c.st = 16 → c = { st := c.st }
  tagName : c.st = 3 → c = { st := 3, en := c.en, nm := c.nm } ∧ 1 ≤ c.nm.length ∧ c.nm.length ≤ 32
  inTag : c.st = 4 ∨ c.st = 9 ∨ c.st = 10 → c = { st := c.st, el := c.el, en := c.en }
  attrName : c.st = 5 ∨ c.st = 6 → c = { st := c.st, el := c.el, en := c.en, nm := c.nm } ∧ 1 ≤ c.nm.length ∧ c.nm.length ≤ 32
  behindEq : c.st = 7 → c = { st := 7, el := c.el, en := c.en, ak := c.ak } ∧ c.ak ≤ 4
  val : c.st = 8 → c.da = 0 ∧ c.ak ≤ 4 ∧ (c.qu = 0 ∨ c.qu = 34 ∨ c.qu = 39) ∧ c.su ≤ 6 ∧ (c.ak ≠ 2 → c.ak ≠ 3 → c.su = 0 ∧ c.es = false) ∧ (c.es = true → c.su = 1 ∨ c.su = 2) ∧ (c.ak = 3 → c.su ≠ 4) ∧ (c.su = 1 → c.qu = 39) ∧ (c.su = 2 → c.qu = 34) ∧
    (c.ak ≠ 1 → c.pa = 0 ∧ c.nm = []) ∧ c.pa ≤ 5 ∧ (c.pa ≠ 1 → c.nm = []) ∧ (c.pa = 1 → 1 ≤ c.nm.length ∧ c.nm.length ≤ 16)
  comment : c.st = 15 → c = { st := 15, da := c.da } ∧ c.da ≤ 2
  inRaw : c.st = 17 ∨ c.st = 18 ∨ c.st = 19 → c = { st := c.st, el := c.el, su := c.su, es := c.es, nm := c.nm } ∧ 1 ≤ c.el ∧ c.su ≤ 6 ∧ (c.es = true → c.su = 1 ∨ c.su = 2) ∧ (c.el ≤ 2 → c.su = 0) ∧ (c.el = 4 → c.su ≠ 4) ∧ (c.st ≠ 19 → c.nm = []) ∧ (c.st ≠ 17 → c.su ≠ 3 ∧ c.su ≠ 6 ∧ c.es = false) ∧ ∃ k, k ≤ (nameOf c.el).length ∧ c.nm = (nameOf c.el).take k

theorem close_value (f : List Nat → Nat) (feed : Bool) (c : Cx) (h : Inv c) (hs : c.st = 8) : steps f true c (trailer f c) = some {} := by
  obtain ⟨h1, h2, h3, h4, h5, h6, h7, h8, h9, h10, h11, -⟩ := h.val hs
  have he := h.el4
  obtain ⟨st, el, en, ak, qu, pa, su, es, da, nm⟩ := c
  dsimp only at hs h1 h2 h3 h4 h5 h6 h7 h8 h9 he
  subst hs
  subst h1
  have hel := close_elem f true el he
  have hcl : (closes el).st ≠ 20 := by unfold closes; split <;> simp
  have hsu : su = 0 ∨ su = 1 ∨ su = 2 ∨ su = 3 ∨ su = 4 ∨ su = 5 ∨ su = 6 := by omega
  have hak : su ≠ 0 → ak = 2 ∨ ak = 3 := fun hn => by
    by_cases a2 : ak = 2
    · exact .inl a2
    · by_cases a3 : ak = 3
      · exact .inr a3
      · exact absurd (h5 a2 a3).1 hn
  have hes : es = true → su = 1 ∨ su = 2 := h6
  clear h h2 h4 h5 h6 h10 h11
  rcases hsu with rfl | rfl | rfl | rfl | rfl | rfl | rfl
  · have : es = false := by cases es with | false => rfl | true => exact absurd (hes rfl) (by omega)
    subst this
    rcases h3 with rfl | rfl | rfl <;> simp [trailer, tcode, steps, step, move, value, ends, within, tag, blank, hcl, hel]
  · obtain rfl := h8 rfl
    rcases hak (by decide) with rfl | rfl <;> cases es <;> simp [trailer, tcode, steps, step, move, value, code, text, url, ends, within, tag, blank, hcl, hel]
  · obtain rfl := h9 rfl
    rcases hak (by decide) with rfl | rfl <;> cases es <;> simp [trailer, tcode, steps, step, move, value, code, text, url, ends, within, tag, blank, hcl, hel]
  · have : es = false := by cases es with | false => rfl | true => exact absurd (hes rfl) (by omega)
    subst this
    rcases hak (by decide) with rfl | rfl <;> rcases h3 with rfl | rfl | rfl <;> simp [trailer, tcode, steps, step, move, value, code, codeTop, text, url, ends, within, tag, blank, hcl, hel]
  · have : es = false := by cases es with | false => rfl | true => exact absurd (hes rfl) (by omega)
    subst this
    rcases hak (by decide) with rfl | rfl <;> rcases h3 with rfl | rfl | rfl <;> simp [trailer, tcode, steps, step, move, value, code, codeTop, text, url, ends, within, tag, blank, hcl, hel]
  · have : es = false := by cases es with | false => rfl | true => exact absurd (hes rfl) (by omega)
    subst this
    rcases hak (by decide) with rfl | rfl <;> rcases h3 with rfl | rfl | rfl <;> simp [trailer, tcode, steps, step, move, value, code, codeTop, text, url, ends, within, tag, blank, hcl, hel]
  · have : es = false := by cases es with | false => rfl | true => exact absurd (hes rfl) (by omega)
    subst this
    rcases hak (by decide) with rfl | rfl <;> rcases h3 with rfl | rfl | rfl <;> simp [trailer, tcode, steps, step, move, value, code, codeTop, text, url, ends, within, tag, blank, hcl, hel]

theorem close_raw4 (f : List Nat → Nat) (feed : Bool) (e : Nat) (h : 1 ≤ e ∧ e ≤ 4) (s : Nat) (hs : s = 0 ∨ s = 4) : steps f feed { st := 17, el := e, su := s } (element e) = some {} := by
  have : e = 1 ∨ e = 2 ∨ e = 3 ∨ e = 4 := by omega
  cases feed <;> rcases this with rfl | rfl | rfl | rfl <;> rcases hs with rfl | rfl <;> simp [element, nameOf, steps, step, move, raw, rawEnd, fed, coded, run, code, codeTop, ends, tag, closes, small, blank, within, List.isPrefixOf]
theorem close_less (f : List Nat → Nat) (e : Nat) (h : 1 ≤ e ∧ e ≤ 4) (s : Nat) (hs : s = 0 ∨ s = 4) : steps f true { st := 18, el := e, su := s } (element e) = some {} := by
  have : e = 1 ∨ e = 2 ∨ e = 3 ∨ e = 4 := by omega
  rcases this with rfl | rfl | rfl | rfl <;> rcases hs with rfl | rfl <;> simp [element, nameOf, steps, step, move, raw, rawEnd, fed, coded, run, code, codeTop, ends, tag, closes, small, blank, within, List.isPrefixOf]

theorem close_raw17 (f : List Nat → Nat) (c : Cx) (h : Inv c) (hs : c.st = 17) : steps f true c (trailer f c) = some {} := by
  obtain ⟨h1, h2, h3, h4, h5, h6, h7, h8, -⟩ := h.inRaw (.inl hs)
  have he := h.el4
  obtain ⟨st, el, en, ak, qu, pa, su, es, da, nm⟩ := c
  dsimp only at hs h2 h3 h4 h5 h6 h7 h8 he
  subst hs
  obtain rfl := h7 (by decide)
  injection h1 with _ _ a1 a2 a3 a4 _ _ a5 _
  subst a1; subst a2; subst a3; subst a4; subst a5
  have r0 := close_raw4 f true el ⟨h2, he⟩ 0 (.inl rfl)
  have r4 := close_raw4 f true el ⟨h2, he⟩ 4 (.inr rfl)
  have hsu : su = 0 ∨ su = 1 ∨ su = 2 ∨ su = 3 ∨ su = 4 ∨ su = 5 ∨ su = 6 := by omega
  have hel : su ≠ 0 → el = 3 ∨ el = 4 := fun hn => by
    rcases Nat.lt_or_ge 2 el with q | q
    · omega
    · exact absurd (h5 q) hn
  clear h
  rcases hsu with rfl | rfl | rfl | rfl | rfl | rfl | rfl
  · have : es = false := by cases es with | false => rfl | true => exact absurd (h4 rfl) (by omega)
    subst this
    simpa [trailer, traw, tcode] using r0
  · rcases hel (by decide) with rfl | rfl <;> cases es <;> simp [trailer, traw, tcode, steps, step, move, raw, rawEnd, fed, coded, run, code, codeTop, text, r0]
  · rcases hel (by decide) with rfl | rfl <;> cases es <;> simp [trailer, traw, tcode, steps, step, move, raw, rawEnd, fed, coded, run, code, codeTop, text, r0]
  · have : es = false := by cases es with | false => rfl | true => exact absurd (h4 rfl) (by omega)
    subst this
    rcases hel (by decide) with rfl | rfl <;> simp [trailer, traw, tcode, steps, step, move, raw, rawEnd, fed, coded, run, code, codeTop, text, r0, r4]
  · have : es = false := by cases es with | false => rfl | true => exact absurd (h4 rfl) (by omega)
    subst this
    simpa [trailer, traw, tcode] using r4
  · have : es = false := by cases es with | false => rfl | true => exact absurd (h4 rfl) (by omega)
    subst this
    rcases hel (by decide) with rfl | rfl <;> simp [trailer, traw, tcode, steps, step, move, raw, rawEnd, fed, coded, run, code, codeTop, text, r0]
  · have : es = false := by cases es with | false => rfl | true => exact absurd (h4 rfl) (by omega)
    subst this
    rcases hel (by decide) with rfl | rfl <;> simp [trailer, traw, tcode, steps, step, move, raw, rawEnd, fed, coded, run, code, codeTop, text, r0]
theorem close_raw18 (f : List Nat → Nat) (c : Cx) (h : Inv c) (hs : c.st = 18) : steps f true c (trailer f c) = some {} := by
  obtain ⟨h1, h2, h3, h4, h5, h6, h7, h8, -⟩ := h.inRaw (.inr (.inl hs))
  have he := h.el4
  obtain ⟨st, el, en, ak, qu, pa, su, es, da, nm⟩ := c
  dsimp only at hs h2 h3 h4 h5 h6 h7 h8 he
  subst hs
  obtain rfl := h7 (by decide)
  obtain ⟨n3, n6, rfl⟩ := h8 (by decide)
  injection h1 with _ _ a1 a2 a3 a4 _ _ a5 _
  subst a1; subst a2; subst a3; subst a4; subst a5
  have r0 := close_raw4 f true el ⟨h2, he⟩ 0 (.inl rfl)
  have l0 := close_less f el ⟨h2, he⟩ 0 (.inl rfl)
  have l4 := close_less f el ⟨h2, he⟩ 4 (.inr rfl)
  have hsu : su = 0 ∨ su = 1 ∨ su = 2 ∨ su = 4 ∨ su = 5 := by omega
  have hel : su ≠ 0 → el = 3 ∨ el = 4 := fun hn => by
    rcases Nat.lt_or_ge 2 el with q | q
    · omega
    · exact absurd (h5 q) hn
  clear h
  rcases hsu with rfl | rfl | rfl | rfl | rfl
  · simpa [trailer, traw, tcode] using l0
  · rcases hel (by decide) with rfl | rfl <;> simp [trailer, traw, tcode, steps, step, move, raw, rawEnd, fed, coded, run, code, codeTop, text, r0]
  · rcases hel (by decide) with rfl | rfl <;> simp [trailer, traw, tcode, steps, step, move, raw, rawEnd, fed, coded, run, code, codeTop, text, r0]
  · simpa [trailer, traw, tcode] using l4
  · rcases hel (by decide) with rfl | rfl <;> simp [trailer, traw, tcode, steps, step, move, raw, rawEnd, fed, coded, run, code, codeTop, text, r0]

theorem close_raw19 (f : List Nat → Nat) (c : Cx) (h : Inv c) (hs : c.st = 19) : steps f true c (trailer f c) = some {} := by
  obtain ⟨h1, h2, h3, h4, h5, h6, h7, h8, k, hk, hnm⟩ := h.inRaw (.inr (.inr hs))
  have he := h.el4
  obtain ⟨st, el, en, ak, qu, pa, su, es, da, nm⟩ := c
  dsimp only at hs h2 h3 h4 h5 h6 h7 h8 he hk hnm
  subst hs
  obtain ⟨n3, n6, rfl⟩ := h8 (by decide)
  injection h1 with _ _ a1 a2 a3 a4 _ _ a5 _
  subst a1; subst a2; subst a3; subst a4; subst a5; subst hnm
  have r0 := close_raw4 f true el ⟨h2, he⟩ 0 (.inl rfl)
  have hsu : su = 0 ∨ su = 1 ∨ su = 2 ∨ su = 4 ∨ su = 5 := by omega
  have hel : el = 1 ∨ el = 2 ∨ el = 3 ∨ el = 4 := by omega
  clear h h4 h7 h8
  rcases hel with rfl | rfl | rfl | rfl
  · obtain rfl := h5 (by decide)
    have : k = 0 ∨ k = 1 ∨ k = 2 ∨ k = 3 ∨ k = 4 ∨ k = 5 ∨ k = 6 ∨ k = 7 ∨ k = 8 := by simp [nameOf] at hk; omega
    rcases this with rfl | rfl | rfl | rfl | rfl | rfl | rfl | rfl | rfl <;> simp [trailer, traw, tcode, nameOf, steps, step, move, raw, rawEnd, fed, coded, run, code, codeTop, text, ends, tag, closes, small, blank, within, List.isPrefixOf, r0]
  · obtain rfl := h5 (by decide)
    have : k = 0 ∨ k = 1 ∨ k = 2 ∨ k = 3 ∨ k = 4 ∨ k = 5 := by simp [nameOf] at hk; omega
    rcases this with rfl | rfl | rfl | rfl | rfl | rfl <;> simp [trailer, traw, tcode, nameOf, steps, step, move, raw, rawEnd, fed, coded, run, code, codeTop, text, ends, tag, closes, small, blank, within, List.isPrefixOf, r0]
  · have : k = 0 ∨ k = 1 ∨ k = 2 ∨ k = 3 ∨ k = 4 ∨ k = 5 ∨ k = 6 := by simp [nameOf] at hk; omega
    rcases hsu with rfl | rfl | rfl | rfl | rfl <;> rcases this with rfl | rfl | rfl | rfl | rfl | rfl | rfl <;> simp [trailer, traw, tcode, nameOf, steps, step, move, raw, rawEnd, fed, coded, run, code, codeTop, text, ends, tag, closes, small, blank, within, List.isPrefixOf, r0]
  · have : k = 0 ∨ k = 1 ∨ k = 2 ∨ k = 3 ∨ k = 4 ∨ k = 5 := by simp [nameOf] at hk; omega
    rcases hsu with rfl | rfl | rfl | rfl | rfl <;> rcases this with rfl | rfl | rfl | rfl | rfl | rfl <;> (first | (exact absurd rfl (h6 rfl)) | simp [trailer, traw, tcode, nameOf, steps, step, move, raw, rawEnd, fed, coded, run, code, codeTop, text, ends, tag, closes, small, blank, within, List.isPrefixOf, r0])
/-- **A context's trailer ends all that is open.** -/
theorem close_all (f : List Nat → Nat) (c : Cx) (h : Inv c) : steps f true c (trailer f c) = some {} := by
  have ht := h.top
  have h0 := h.flat
  have hel := close_elem f true c.el h.el4
  have hcl : (closes c.el).st ≠ 20 := by unfold closes; split <;> simp
  have : c.st = 0 ∨ c.st = 1 ∨ c.st = 2 ∨ c.st = 3 ∨ c.st = 4 ∨ c.st = 5 ∨ c.st = 6 ∨ c.st = 7 ∨ c.st = 8 ∨ c.st = 9 ∨ c.st = 10 ∨ c.st = 11 ∨ c.st = 12 ∨ c.st = 13 ∨ c.st = 14 ∨ c.st = 15 ∨ c.st = 16 ∨ c.st = 17 ∨ c.st = 18 ∨ c.st = 19 := by omega
  rcases this with e | e | e | e | e | e | e | e | e | e | e | e | e | e | e | e | e | e | e | e
  · have q := h0 (by simp [e]); rw [e] at q; rw [q]; rfl
  · have q := h0 (by simp [e]); rw [e] at q; rw [q]; rfl
  · have q := h0 (by simp [e]); rw [e] at q; rw [q]; rfl
  · obtain ⟨q, _, _⟩ := h.tagName e
    have hz : c.el = 0 := by rw [q]
    have h3 := close_elem f true (elemOf c.nm) (elemOf_le _)
    have h4 : (closes (elemOf c.nm)).st ≠ 20 := by unfold closes; split <;> simp
    cases en : c.en with
    | true => simp [trailer, e, en, steps, step, move, tag, within, blank, closes, hz]
    | false => simp [trailer, e, en, steps, step, move, tag, within, blank, h4, h3]
  · simpa [trailer, e] using close_tag f true c (by simp [e]) h.el4
  · simpa [trailer, e] using close_tag f true c (by simp [e]) h.el4
  · simpa [trailer, e] using close_tag f true c (by simp [e]) h.el4
  · obtain ⟨q, _⟩ := h.behindEq e
    rw [q] at hel hcl ⊢
    simp [trailer, steps, step, move, tag, begun, value, ends, within, blank, hcl, hel]
  · exact close_value f true c h e
  · simpa [trailer, e] using close_tag f true c (by simp [e]) h.el4
  · simpa [trailer, e] using close_tag f true c (by simp [e]) h.el4
  · have q := h0 (by simp [e]); rw [e] at q; rw [q]; rfl
  · have q := h0 (by simp [e]); rw [e] at q; rw [q]; rfl
  · have q := h0 (by simp [e]); rw [e] at q; rw [q]; rfl
  · have q := h0 (by simp [e]); rw [e] at q; rw [q]; rfl
  · obtain ⟨q, hd⟩ := h.comment e
    rw [q]
    have : c.da = 0 ∨ c.da = 1 ∨ c.da = 2 := by omega
    rcases this with d | d | d <;> rw [d] <;> rfl
  · have q := h0 (by simp [e]); rw [e] at q; rw [q]; rfl
  · exact close_raw17 f c h e
  · exact close_raw18 f c h e
  · exact close_raw19 f c h e
end Go.Proofs.YtfplocpjdjjoaaaDoor.Trail
namespace Go.Proofs.YtfplocpjdjjoaaaDoor.Trail
set_option linter.unusedVariables false
set_option linter.unusedSimpArgs false

theorem inv_flat (s : Nat) (h : s = 0 ∨ s = 1 ∨ s = 2 ∨ s = 11 ∨ s = 12 ∨ s = 13 ∨ s = 14 ∨ s = 16) : Inv { st := s } := by
  rcases h with rfl | rfl | rfl | rfl | rfl | rfl | rfl | rfl <;> constructor <;> simp
theorem inv_closes (el : Nat) (h : el ≤ 4) : Inv (closes el) := by
  unfold closes
  split
  · exact inv_flat 0 (by simp)
  · constructor <;> simp <;> first | omega | exact ⟨by omega, 0, Nat.zero_le _, .inl rfl⟩ | skip
theorem inv_within (c : Cx) (s : Nat) (hs : s = 4 ∨ s = 9 ∨ s = 10) (h4 : c.el ≤ 4) (he : c.en = true → c.el = 0) : Inv (within c s) := by
  unfold within
  rcases hs with rfl | rfl | rfl <;> constructor <;> simp_all
theorem inv_note (c : Cx) (b : Nat) (h : Inv c) (hs : 11 ≤ c.st ∧ c.st ≤ 16) : (note c b).st = 20 ∨ Inv (note c b) := by
  have hc : ∀ d, d ≤ 2 → Inv { st := 15, da := d } := fun d hd => by constructor <;> simp <;> omega
  have : c.st = 11 ∨ c.st = 12 ∨ c.st = 13 ∨ c.st = 14 ∨ c.st = 15 ∨ c.st = 16 := by omega
  unfold note
  rcases this with e | e | e | e | e | e <;> simp only [e]
  all_goals repeat' split
  all_goals first
    | (exfalso; omega)
    | (left; rfl)
    | (right; exact hc 0 (Nat.zero_le _))
    | (right; exact hc 2 (Nat.le_refl _))
    | (right; exact hc _ (Nat.min_le_right _ _))
    | (right; exact h)
    | (right; exact inv_flat _ (by simp))

theorem attr_le {f : List Nat → Nat} (hf : ∀ n, f n ≤ 4) (n : List Nat) : f n ≤ 4 := hf n
theorem inv_named (f : List Nat → Nat) (hf : ∀ n, f n ≤ 4) (c : Cx) (b : Nat) (hs : c.st = 5 ∨ c.st = 6) (h4 : c.el ≤ 4) (he : c.en = true → c.el = 0) (hq : c = { st := c.st, el := c.el, en := c.en, nm := c.nm }) (hn : c.nm.length ≤ 32) (hb : c.nm = [] → c.st = 5 ∧ b ≠ 47 ∧ b ≠ 62 ∧ blank b = false) :
    (named f c b).2 = true ∧ ((named f c b).1 = within c 9 ∨ (named f c b).1 = within c 4) ∨ (named f c b).2 = false ∧ ((named f c b).1.st = 20 ∨ Inv (named f c b).1) := by
  obtain ⟨st, el, en, ak, qu, pa, su, es, da, nm⟩ := c
  injection hq with _ _ _ a1 a2 a3 a4 a5 a6 _
  dsimp only at *
  subst a1; subst a2; subst a3; subst a4; subst a5; subst a6
  have hpos : nm ≠ [] → 1 ≤ nm.length := fun h => List.length_pos_iff.2 h
  unfold named
  dsimp only
  split
  · right; refine ⟨rfl, .inr ?_⟩
    have := hf nm
    unfold within
    constructor <;> simp <;> first | omega | exact he | skip
  · split
    · left; exact ⟨rfl, .inl rfl⟩
    · split
      · rename_i h1 h2 h3
        right; refine ⟨rfl, .inr ?_⟩
        have hne : nm ≠ [] := fun e => by have := hb e; simp [this.2.2.2] at h3
        have := hpos hne
        constructor <;> simp <;> first | omega | exact he | (exact ⟨this, hn⟩) | skip
      · split
        · left; exact ⟨rfl, .inr rfl⟩
        · split
          · right; exact ⟨rfl, .inl rfl⟩
          · rename_i h1 h2 h3 h5 h6
            right; refine ⟨rfl, ?_⟩
            obtain rfl : st = 5 := by omega
            unfold grown
            dsimp only
            split
            · exact .inl rfl
            · right
              constructor <;> simp <;> first | omega | exact he | skip

/-- What one byte of JavaScript or CSS may do. -/
def CodeOk (c : Cx) (b : Nat) (script : Bool) (d : Cx) : Prop :=
  d = bad ∨ (d = { c with su := d.su, es := d.es } ∧ d.su ≤ 6 ∧ (d.es = true → d.su = 1 ∨ d.su = 2) ∧ (script = false → c.su ≠ 4 → d.su ≠ 4) ∧ (d.su = 1 → c.su = 1 ∨ b = 34) ∧ (d.su = 2 → c.su = 2 ∨ b = 39) ∧ (b = 60 → d.su ≠ 3 ∧ d.su ≠ 6 ∧ d.es = false))
theorem code_ok (c : Cx) (b : Nat) (script : Bool) (h6 : c.su ≤ 6) (hes : c.es = true → c.su = 1 ∨ c.su = 2) : CodeOk c b script (code c b script) := by
  obtain ⟨st, el, en, ak, qu, pa, su, es, da, nm⟩ := c
  dsimp only at h6 hes
  have : su = 0 ∨ su = 1 ∨ su = 2 ∨ su = 3 ∨ su = 4 ∨ su = 5 ∨ su = 6 := by omega
  have hef : (su = 1 ∨ su = 2) ∨ es = false := by
    cases es with
    | false => exact .inr rfl
    | true => exact .inl (hes rfl)
  rcases this with rfl | rfl | rfl | rfl | rfl | rfl | rfl <;> rcases hef with hef | hef <;> (try (exfalso; omega)) <;> (try subst hef) <;> cases script <;> (try cases es) <;> simp [code, codeTop, text]
  all_goals repeat' split
  all_goals first
    | (left; rfl)
    | (right; refine ⟨rfl, ?_⟩; simp; done)
    | (right; refine ⟨rfl, ?_⟩; simp <;> omega)

theorem inv_val (el ak qu pa su : Nat) (en es : Bool) (nm : List Nat) (h4 : el ≤ 4) (he : en = true → el = 0) (h2 : ak ≤ 4) (h3 : qu = 0 ∨ qu = 34 ∨ qu = 39) (h5 : su ≤ 6) (h6 : ak ≠ 2 → ak ≠ 3 → su = 0 ∧ es = false) (h7 : es = true → su = 1 ∨ su = 2) (h8 : ak = 3 → su ≠ 4) (h9 : su = 1 → qu = 39) (h10 : su = 2 → qu = 34) (h11 : ak ≠ 1 → pa = 0 ∧ nm = []) (h12 : pa ≤ 5) (h13 : pa ≠ 1 → nm = []) (h14 : pa = 1 → 1 ≤ nm.length ∧ nm.length ≤ 16) :
    Inv { st := 8, el := el, en := en, ak := ak, qu := qu, pa := pa, su := su, es := es, nm := nm } := by
  constructor
  · show 8 ≤ 19; omega
  · exact h4
  · exact he
  · intro h; exfalso; simp at h
  · intro h; exfalso; simp at h
  · intro h; exfalso; simp at h
  · intro h; exfalso; simp at h
  · intro h; exfalso; simp at h
  · intro _; exact ⟨rfl, h2, h3, h5, h6, h7, h8, h9, h10, h11, h12, h13, h14⟩
  · intro h; exfalso; simp at h
  · intro h; exfalso; simp at h
theorem inv_value (c : Cx) (b : Nat) (h : Inv c) (hs : c.st = 8) : (value c b).st = 20 ∨ Inv (value c b) := by
  obtain ⟨h1, h2, h3, h5, h6, h7, h8, h9, h10, h11, h12, h13, h14⟩ := h.val hs
  have h4 := h.el4
  have he := h.en0
  by_cases hq : (c.qu ≠ 0 ∧ b = c.qu) ∨ (c.qu = 0 ∧ (blank b = true ∨ b = 62))
  · have e : (!(c.qu == 0) && b == c.qu || (c.qu == 0) && (blank b || b == 62)) = true := by simp; exact hq
    unfold value
    simp only [e, if_true]
    repeat' split
    · left; rfl
    · right; exact inv_within c 9 (by simp) h4 he
    · right; exact inv_closes _ h4
    · right; exact inv_within c 4 (by simp) h4 he
  · have e : (!(c.qu == 0) && b == c.qu || (c.qu == 0) && (blank b || b == 62)) = false := by
      rw [Bool.eq_false_iff]; intro q; simp at q; exact hq q
    by_cases hb : c.qu = 0 ∧ (b = 34 ∨ b = 39 ∨ b = 60 ∨ b = 61 ∨ b = 96)
    · have e2 : ((c.qu == 0) && (b == 34 || b == 39 || b == 60 || b == 61 || b == 96)) = true := by simp [hb.1]; simpa [or_assoc] using hb.2
      unfold value
      simp only [e, e2, if_true, if_false, Bool.false_eq_true]
      left; rfl
    · have e2 : ((c.qu == 0) && (b == 34 || b == 39 || b == 60 || b == 61 || b == 96)) = false := by
        rw [Bool.eq_false_iff]; intro q; simp at q; exact hb ⟨q.1, by simpa [or_assoc] using q.2⟩
      unfold value
      simp only [e, e2, if_false, Bool.false_eq_true]
      split
      · rename_i ha
        obtain ⟨s0, s1⟩ := h6 (by omega) (by omega)
        obtain ⟨st, el, en, ak, qu, pa, su, es, da, nm⟩ := c
        dsimp only at *
        subst hs; subst h1; subst s0; subst s1; subst ha
        have hlen : nm.length ≤ 16 := by
          by_cases q : pa = 1
          · exact (h14 q).2
          · rw [h13 q]; exact Nat.zero_le _
        unfold url
        dsimp only
        repeat' split
        all_goals first
          | (left; rfl)
          | (right; refine inv_val _ _ _ _ _ _ _ _ h4 he h2 h3 (by omega) (fun _ _ => ⟨rfl, rfl⟩) (fun h => by cases h) (by omega) (by omega) (by omega) (fun h => absurd rfl h) (by first | omega | (split <;> omega)) (by intro q; first | rfl | (exfalso; omega)) (by intro q; first | (exfalso; omega) | (exfalso; split at q <;> omega) | (exact ⟨by omega, by omega⟩) | (rw [List.length_append]; simp only [List.length_cons, List.length_nil]; omega)))
      · split
        · rename_i ha1 ha
          split
          · left; rfl
          · have hk := code_ok c b (c.ak == 2) h5 h7
            rcases hk with hk | ⟨k1, k2, k3, k4, k5, k6, -⟩
            · left; rw [hk]; rfl
            · right
              rw [k1]
              have := h11 ha1
              have g1 : (code c b (c.ak == 2)).su = 1 → c.qu = 39 := fun q => by
                rcases k5 q with q | q
                · exact h9 q
                · omega
              have g2 : (code c b (c.ak == 2)).su = 2 → c.qu = 34 := fun q => by
                rcases k6 q with q | q
                · exact h10 q
                · omega
              have g3 : c.ak = 3 → (code c b (c.ak == 2)).su ≠ 4 := fun q => k4 (by simp [q]) (h8 q)
              generalize (code c b (c.ak == 2)).su = s at k1 k2 k3 k4 k5 k6 g1 g2 g3
              generalize (code c b (c.ak == 2)).es = e' at k1 k3
              obtain ⟨st, el, en, ak, qu, pa, su, es, da, nm⟩ := c
              dsimp only at *
              subst hs; subst h1
              exact inv_val _ _ _ _ _ _ _ _ h4 he h2 h3 k2 (fun a1 a2 => by omega) k3 g3 g1 g2 h11 h12 h13 h14
        · right; exact h

theorem inv_rw (st el su : Nat) (es : Bool) (nm : List Nat) (hs : st = 17 ∨ st = 18 ∨ st = 19) (h1 : 1 ≤ el) (h4 : el ≤ 4) (h2 : su ≤ 6) (h3 : es = true → su = 1 ∨ su = 2) (h5 : el ≤ 2 → su = 0) (h6 : el = 4 → su ≠ 4) (h7 : st ≠ 19 → nm = []) (h8 : st ≠ 17 → su ≠ 3 ∧ su ≠ 6 ∧ es = false) (hk : ∃ k, k ≤ (nameOf el).length ∧ nm = (nameOf el).take k) :
    Inv { st := st, el := el, su := su, es := es, nm := nm } := by
  constructor
  · show st ≤ 19; omega
  · exact h4
  · intro h; cases h
  · intro h; exfalso; dsimp only at h; omega
  · intro h; exfalso; dsimp only at h; omega
  · intro h; exfalso; dsimp only at h; omega
  · intro h; exfalso; dsimp only at h; omega
  · intro h; exfalso; dsimp only at h; omega
  · intro h; exfalso; dsimp only at h; omega
  · intro h; exfalso; dsimp only at h; omega
  · intro _; exact ⟨rfl, h1, h2, h3, h5, h6, h7, h8, hk⟩
/-- What bytes of JavaScript or CSS may do to an element's text. -/
def Txt (el : Nat) (d : Cx) : Prop := d = bad ∨ (d = { st := 17, el := el, su := d.su, es := d.es } ∧ d.su ≤ 6 ∧ (d.es = true → d.su = 1 ∨ d.su = 2) ∧ (el ≤ 2 → d.su = 0) ∧ (el = 4 → d.su ≠ 4))
theorem run_ok (el : Nat) (he : el = 3 ∨ el = 4) : ∀ (s : List Nat) (c : Cx), c = { st := 17, el := el, su := c.su, es := c.es } → c.su ≤ 6 → (c.es = true → c.su = 1 ∨ c.su = 2) → (el = 4 → c.su ≠ 4) → Txt el (run c (el == 3) s)
  | [], c, h1, h2, h3, h4 => .inr ⟨h1, h2, h3, fun h => by omega, h4⟩
  | b :: r, c, h1, h2, h3, h4 => by
    rw [run]
    try dsimp only
    split
    · exact .inl rfl
    · rename_i hn
      rcases code_ok c b (el == 3) h2 h3 with hk | ⟨k1, k2, k3, k4, -, -, -⟩
      · exfalso; rw [hk] at hn; exact hn rfl
      · refine run_ok el he r _ ?_ k2 k3 (fun h => k4 (by simp [h]) (h4 h))
        generalize (code c b (el == 3)) = d at k1 k2 k3 k4 hn ⊢
        rw [h1] at k1
        exact k1
theorem fed_ok (c : Cx) (s : List Nat) (h1 : c = { st := c.st, el := c.el, su := c.su, es := c.es, nm := c.nm }) (he : 1 ≤ c.el ∧ c.el ≤ 4) (h2 : c.su ≤ 6) (h3 : c.es = true → c.su = 1 ∨ c.su = 2) (h5 : c.el ≤ 2 → c.su = 0) (h6 : c.el = 4 → c.su ≠ 4) : Txt c.el (fed c s true) := by
  obtain ⟨st, el, en, ak, qu, pa, su, es, da, nm⟩ := c
  injection h1 with _ _ a1 a2 a3 a4 _ _ a5 _
  dsimp only at *
  subst a1; subst a2; subst a3; subst a4; subst a5
  unfold fed
  dsimp only
  by_cases hel : el = 3 ∨ el = 4
  · have e : (!true || !coded { st := 17, el := el, su := su, es := es }) = false := by rcases hel with rfl | rfl <;> rfl
    simp only [e, Bool.false_eq_true, if_false]
    exact run_ok el hel s _ rfl h2 h3 h6
  · have e : (!true || !coded { st := 17, el := el, su := su, es := es }) = true := by
      have : el = 1 ∨ el = 2 := by omega
      rcases this with rfl | rfl <;> rfl
    simp only [e, if_true]
    exact .inr ⟨rfl, h2, h3, h5, h6⟩
theorem fed_one (c : Cx) (h1 : c = { st := c.st, el := c.el, su := c.su, es := c.es, nm := c.nm }) (he : 1 ≤ c.el ∧ c.el ≤ 4) (h2 : c.su ≤ 6) (h3 : c.es = true → c.su = 1 ∨ c.su = 2) (h5 : c.el ≤ 2 → c.su = 0) : (fed c [60] true).st = 17 → (fed c [60] true).su ≠ 3 ∧ (fed c [60] true).su ≠ 6 ∧ (fed c [60] true).es = false := by
  obtain ⟨st, el, en, ak, qu, pa, su, es, da, nm⟩ := c
  injection h1 with _ _ a1 a2 a3 a4 _ _ a5 _
  dsimp only at *
  subst a1; subst a2; subst a3; subst a4; subst a5
  unfold fed
  dsimp only
  by_cases hel : el = 3 ∨ el = 4
  · have e : (!true || !coded { st := 17, el := el, su := su, es := es }) = false := by rcases hel with rfl | rfl <;> rfl
    simp only [e, Bool.false_eq_true, if_false]
    rw [run]
    try dsimp only
    split
    · intro h; cases h
    · rename_i hn
      intro _
      rw [run]
      rcases code_ok { st := 17, el := el, su := su, es := es } 60 (el == 3) h2 h3 with hk | ⟨-, -, -, -, -, -, k⟩
      · exfalso; rw [hk] at hn; exact hn rfl
      · exact k rfl
  · have e : (!true || !coded { st := 17, el := el, su := su, es := es }) = true := by
      have : el = 1 ∨ el = 2 := by omega
      rcases this with rfl | rfl <;> rfl
    simp only [e, if_true]
    intro _
    have := h5 (by omega)
    refine ⟨by omega, by omega, ?_⟩
    cases es with
    | false => rfl
    | true => rcases h3 rfl with q | q <;> omega
theorem inv_rawEnd (c : Cx) (b : Nat) (h1 : c = { st := c.st, el := c.el, su := c.su, es := c.es, nm := c.nm }) (he : 1 ≤ c.el ∧ c.el ≤ 4) (h2 : c.su ≤ 6) (h3 : c.es = true → c.su = 1 ∨ c.su = 2) (h5 : c.el ≤ 2 → c.su = 0) (h6 : c.el = 4 → c.su ≠ 4) : (rawEnd c b true).st = 20 ∨ Inv (rawEnd c b true) := by
  have hf := fed_ok c [b] h1 he h2 h3 h5 h6
  have hg := fed_one c h1 he h2 h3 h5
  unfold rawEnd
  dsimp only
  rcases hf with hf | ⟨k1, k2, k3, k4, k5⟩
  · left; rw [hf]; rfl
  · right
    split
    · rename_i hb
      obtain ⟨hb1, rfl⟩ := hb
      have := hg hb1
      generalize fed c [60] true = d at *
      rw [k1]
      exact inv_rw 18 _ _ _ _ (by simp) he.1 he.2 k2 k3 k4 k5 (fun _ => rfl) (fun _ => this) ⟨0, Nat.zero_le _, rfl⟩
    · generalize fed c [b] true = d at *
      rw [k1]
      exact inv_rw 17 _ _ _ _ (by simp) he.1 he.2 k2 k3 k4 k5 (fun _ => rfl) (fun h => absurd rfl h) ⟨0, Nat.zero_le _, rfl⟩
theorem inv_raw (c : Cx) (b : Nat) (h : Inv c) (hs : c.st = 17 ∨ c.st = 18 ∨ c.st = 19) : (raw c b true).st = 20 ∨ Inv (raw c b true) := by
  obtain ⟨h1, h2, h3, h4, h5, h6, h7, h8, hk⟩ := h.inRaw hs
  have he := h.el4
  unfold raw
  dsimp only
  split
  · rename_i q
    right
    obtain ⟨n3, n6, ne⟩ := h8 (by omega)
    have hn := h7 (by omega)
    rw [h1, ne, hn]
    exact inv_rw 19 _ _ _ _ (by simp) h2 he h3 (fun h => by cases h) h5 h6 (fun h => absurd rfl h) (fun _ => ⟨n3, n6, rfl⟩) ⟨0, Nat.zero_le _, rfl⟩
  · split
    · left; rfl
    · split
      · split
        · left; rfl
        · rename_i q _
          unfold tag
          simp only [show ¬ ((9 : Nat) = 3) by omega, if_false, if_true]
          split
          · right; exact inv_within _ 4 (by simp) (Nat.zero_le _) (fun _ => rfl)
          · split
            · right; exact inv_within _ 10 (by simp) (Nat.zero_le _) (fun _ => rfl)
            · split
              · right; exact inv_closes _ (Nat.zero_le _)
              · left; rfl
      · split
        · rename_i q
          right
          have hp := List.isPrefixOf_iff_prefix.1 q.2
          have hq := List.prefix_iff_eq_take.1 hp
          obtain ⟨n3, n6, ne⟩ := h8 (by omega)
          rw [h1]
          dsimp only
          rw [ne, q.1]
          exact inv_rw 19 _ _ _ _ (by simp) h2 he h3 (fun h => by cases h) h5 h6 (fun h => absurd rfl h) (fun _ => ⟨n3, n6, rfl⟩) ⟨_, hp.length_le, hq⟩
        · split
          · split
            · left; rfl
            · rename_i q
              rcases fed_ok c (47 :: c.nm) h1 ⟨h2, he⟩ h3 h4 h5 h6 with hf | ⟨k1, k2, k3, k4, k5⟩
              · exfalso; rw [hf] at q; exact q rfl
              · generalize fed c (47 :: c.nm) true = d at *
                have hel : d.el = c.el := by rw [k1]
                have hd : d = { st := d.st, el := d.el, su := d.su, es := d.es, nm := d.nm } := by rw [k1]
                exact inv_rawEnd d b hd (by rw [hel]; exact ⟨h2, he⟩) k2 k3 (by rw [hel]; exact k4) (by rw [hel]; exact k5)
          · exact inv_rawEnd c b h1 ⟨h2, he⟩ h3 h4 h5 h6
end Go.Proofs.YtfplocpjdjjoaaaDoor.Trail
namespace Go.Proofs.YtfplocpjdjjoaaaDoor.Trail
set_option linter.unusedVariables false
set_option linter.unusedSimpArgs false

theorem move_tag (f : List Nat → Nat) (feed : Bool) (k : Nat) (c : Cx) (b : Nat) (hs : 3 ≤ c.st ∧ c.st ≤ 10 ∧ c.st ≠ 8) : move f feed (k + 1) c b = if (tag f c b).2 = true then move f feed k (tag f c b).1 b else (tag f c b).1 := by
  rw [move, if_neg (by omega), if_neg (by omega), if_neg (by omega), if_pos hs]
theorem move_value (f : List Nat → Nat) (feed : Bool) (k : Nat) (c : Cx) (b : Nat) (hs : c.st = 8) : move f feed (k + 1) c b = value c b := by
  rw [move, if_neg (by omega), if_neg (by omega), if_neg (by omega), if_neg (by omega), if_pos hs]
theorem tag10 (f : List Nat → Nat) (c : Cx) (b : Nat) (hs : c.st = 10) : tag f c b = if b = 62 then (closes c.el, false) else (within c 4, true) := by
  rw [tag, if_neg (by omega), if_neg (by omega), if_pos hs]
theorem tag7 (f : List Nat → Nat) (c : Cx) (b : Nat) (hs : c.st = 7) : tag f c b = begun c b := by
  rw [tag, if_neg (by omega), if_neg (by omega), if_neg (by omega), if_neg (by omega), if_pos hs]
theorem mv9 (f : List Nat → Nat) (k : Nat) (c : Cx) (b : Nat) (hs : c.st = 9) (h4 : c.el ≤ 4) (he : c.en = true → c.el = 0) : (move f true (k + 1) c b).st = 20 ∨ Inv (move f true (k + 1) c b) := by
  by_cases h1 : blank b = true
  · have e : move f true (k + 1) c b = within c 4 := by simp [move, tag, hs, h1]
    rw [e]; right; exact inv_within c 4 (by simp) h4 he
  · by_cases h2 : b = 47
    · have e : move f true (k + 1) c b = within c 10 := by simp [move, tag, hs, h1, h2, blank]
      rw [e]; right; exact inv_within c 10 (by simp) h4 he
    · by_cases h3 : b = 62
      · have e : move f true (k + 1) c b = closes c.el := by simp [move, tag, hs, h3, blank]
        rw [e]; right; exact inv_closes _ h4
      · have e : move f true (k + 1) c b = bad := by simp [move, tag, hs, h1, h2, h3]
        rw [e]; left; rfl
theorem named5 (f : List Nat → Nat) (c : Cx) (b : Nat) (hs : c.st = 5) (h : (named f c b).2 = true) : (named f c b).1 = within c 9 := by
  unfold named at h ⊢
  rw [hs] at h ⊢
  repeat' split
  all_goals first
    | rfl
    | (exfalso; omega)
    | (exfalso; simp_all)
theorem mv5 (f : List Nat → Nat) (hf : ∀ n, f n ≤ 4) (k : Nat) (c : Cx) (b : Nat) (hs : c.st = 5) (h4 : c.el ≤ 4) (he : c.en = true → c.el = 0) (hq : c = { st := c.st, el := c.el, en := c.en, nm := c.nm }) (hn : c.nm.length ≤ 32) (hb : c.nm = [] → c.st = 5 ∧ b ≠ 47 ∧ b ≠ 62 ∧ blank b = false) : (move f true (k + 2) c b).st = 20 ∨ Inv (move f true (k + 2) c b) := by
  have e : move f true (k + 2) c b = if (named f c b).2 then move f true (k + 1) (named f c b).1 b else (named f c b).1 := by simp [move, tag, hs]
  rw [e]
  rcases inv_named f hf c b (.inl hs) h4 he hq hn hb with ⟨h1, _⟩ | ⟨h1, h2⟩
  · rw [if_pos h1, named5 f c b hs h1]
    exact mv9 f k _ b rfl h4 he
  · rw [if_neg (by rw [h1]; decide)]
    exact h2
theorem mv4 (f : List Nat → Nat) (hf : ∀ n, f n ≤ 4) (k : Nat) (c : Cx) (b : Nat) (hs : c.st = 4) (h4 : c.el ≤ 4) (he : c.en = true → c.el = 0) (hq : c = within c 4) : (move f true (k + 3) c b).st = 20 ∨ Inv (move f true (k + 3) c b) := by
  by_cases h1 : blank b = true
  · have e : move f true (k + 3) c b = c := by simp [move, tag, hs, h1]
    rw [e, hq]; right; exact inv_within c 4 (by simp) h4 he
  · by_cases h2 : b = 47 ∨ b = 62
    · have e : move f true (k + 3) c b = move f true (k + 2) (within c 9) b := by simp [move, tag, hs, h1, h2]
      rw [e]; exact mv9 f _ _ b rfl h4 he
    · by_cases h3 : b = 61
      · have e : move f true (k + 3) c b = bad := by simp [move, tag, hs, h3, blank]
        rw [e]; left; rfl
      · have e : move f true (k + 3) c b = move f true (k + 2) { c with st := 5 } b := by
          rw [show k + 3 = (k + 2) + 1 from rfl]
          rw [move]
          simp [tag, hs, h1, h2, h3]
        rw [e]
        have hn : c.nm = [] := by rw [hq]; rfl
        refine mv5 f hf k _ b rfl h4 he (by rw [hq]; rfl) (by dsimp only; rw [hn]; exact Nat.zero_le _) (fun _ => ⟨rfl, by omega, by omega, by simpa using h1⟩)
theorem mv6 (f : List Nat → Nat) (hf : ∀ n, f n ≤ 4) (k : Nat) (c : Cx) (b : Nat) (hs : c.st = 6) (h4 : c.el ≤ 4) (he : c.en = true → c.el = 0) (hq : c = { st := c.st, el := c.el, en := c.en, nm := c.nm }) (hn : 1 ≤ c.nm.length ∧ c.nm.length ≤ 32) : (move f true (k + 4) c b).st = 20 ∨ Inv (move f true (k + 4) c b) := by
  have e : move f true (k + 4) c b = if (named f c b).2 then move f true (k + 3) (named f c b).1 b else (named f c b).1 := by
    rw [show k + 4 = (k + 3) + 1 from rfl, move]
    simp [tag, hs]
  rw [e]
  rcases inv_named f hf c b (.inr hs) h4 he hq hn.2 (fun h => by rw [h] at hn; simp at hn) with ⟨h1, h2⟩ | ⟨h1, h2⟩
  · rw [if_pos h1]
    rcases h2 with h2 | h2
    · rw [h2]; exact mv9 f _ _ b rfl h4 he
    · rw [h2]; exact mv4 f hf k _ b rfl h4 he rfl
  · rw [if_neg (by rw [h1]; decide)]
    exact h2
theorem inv_step (f : List Nat → Nat) (hf : ∀ n, f n ≤ 4) (c : Cx) (b : Nat) (h : Inv c) : (step f true c b).st = 20 ∨ Inv (step f true c b) := by
  have ht := h.top
  have h4 := h.el4
  have he := h.en0
  have h0 := h.flat
  unfold step
  have : c.st = 0 ∨ c.st = 1 ∨ c.st = 2 ∨ c.st = 3 ∨ c.st = 4 ∨ c.st = 5 ∨ c.st = 6 ∨ c.st = 7 ∨ c.st = 8 ∨ c.st = 9 ∨ c.st = 10 ∨ (11 ≤ c.st ∧ c.st ≤ 16) ∨ (c.st = 17 ∨ c.st = 18 ∨ c.st = 19) := by omega
  rcases this with e | e | e | e | e | e | e | e | e | e | e | e | e
  · have q := h0 (by simp [e]); rw [e] at q
    by_cases hb : b = 60
    · have g : move f true 8 c b = { st := 1 } := by rw [q]; simp [move, hb]
      rw [g]; right; exact inv_flat 1 (by simp)
    · have g : move f true 8 c b = { st := 0 } := by rw [q]; simp [move, hb]
      rw [g]; right; exact inv_flat 0 (by simp)
  · have q := h0 (by simp [e]); rw [e] at q
    by_cases h1 : letter b = true
    · have g : move f true 8 c b = { st := 3, nm := [small b] } := by simp [move, e, opened, h1]
      rw [g]; right; constructor <;> simp
    · by_cases h2 : b = 47
      · have g : move f true 8 c b = { st := 2 } := by simp [move, e, opened, h1, h2, letter]
        rw [g]; right; exact inv_flat 2 (by simp)
      · by_cases h3 : b = 33
        · have g : move f true 8 c b = { st := 11 } := by simp [move, e, opened, h1, h3, letter]
          rw [g]; right; exact inv_flat 11 (by simp)
        · by_cases h4' : b = 63
          · have g : move f true 8 c b = { st := 16 } := by simp [move, e, opened, h1, h4', letter]
            rw [g]; right; exact inv_flat 16 (by simp)
          · have g : move f true 8 c b = if b = 60 then { st := 1 } else { st := 0 } := by
              rw [q]
              simp [move, opened, h1, h2, h3, h4']
            rw [g]
            split
            · right; exact inv_flat 1 (by simp)
            · right; exact inv_flat 0 (by simp)
  · have g : move f true 8 c b = closed b := by simp [move, e]
    rw [g]
    unfold closed
    split
    · right; constructor <;> simp
    · split
      · right; exact inv_flat 0 (by simp)
      · right; constructor <;> simp
  · obtain ⟨q, n1, n2⟩ := h.tagName e
    have hz : c.el = 0 := by rw [q]
    by_cases hn : (!blank b && b != 47 && b != 62) = true
    · have g : move f true 8 c b = grown c b := by
        rw [move]
        simp only [e, tag]
        rw [if_pos hn]
        rfl
      rw [g]
      unfold grown
      split
      · left; rfl
      · rename_i hl
        right
        rw [q] at hl ⊢
        dsimp only at hl ⊢
        constructor <;> simp <;> omega
    · have g : move f true 8 c b = move f true 7 (within (if c.en then c else { c with el := elemOf c.nm }) 9) b := by
        rw [move]
        simp only [e, tag]
        rw [if_neg hn]
        rfl
      rw [g]
      refine mv9 f 6 _ b rfl ?_ ?_
      · show (if c.en then c else { c with el := elemOf c.nm }).el ≤ 4
        split
        · exact h4
        · exact elemOf_le _
      · show (if c.en then c else { c with el := elemOf c.nm }).en = true → (if c.en then c else { c with el := elemOf c.nm }).el = 0
        intro hh
        by_cases hen : c.en = true
        · rw [if_pos hen]; exact hz
        · rw [if_neg hen] at hh; exact absurd hh hen
  · exact mv4 f hf 5 c b e h4 he (by have := h.inTag (by simp [e]); rw [e] at this; exact this)
  · obtain ⟨q1, q2, q3⟩ := h.attrName (.inl e)
    exact mv5 f hf 6 c b e h4 he q1 q3 (fun hn => by rw [hn] at q2; simp at q2)
  · obtain ⟨q1, q2, q3⟩ := h.attrName (.inr e)
    exact mv6 f hf 4 c b e h4 he q1 ⟨q2, q3⟩
  · obtain ⟨q, qa⟩ := h.behindEq e
    by_cases h1 : blank b = true
    · have g : move f true 8 c b = c := by rw [move_tag _ _ _ _ _ (by omega), tag7 _ _ _ e, begun, if_pos h1]; rfl
      rw [g]; right; exact h
    · by_cases h2 : b = 62
      · have g : move f true 8 c b = bad := by rw [move_tag _ _ _ _ _ (by omega), tag7 _ _ _ e, begun, if_neg h1, if_pos h2]; rfl
        rw [g]; left; rfl
      · by_cases h3 : b = 34 ∨ b = 39
        · have g : move f true 8 c b = { c with st := 8, qu := b } := by rw [move_tag _ _ _ _ _ (by omega), tag7 _ _ _ e, begun, if_neg h1, if_neg h2, if_pos h3]; rfl
          rw [g, q]; right
          exact inv_val c.el c.ak b 0 0 c.en false [] h4 he qa (.inr h3) (Nat.zero_le _) (fun _ _ => ⟨rfl, rfl⟩) (fun h => by cases h) (fun _ => by omega) (fun h => by cases h) (fun h => by cases h) (fun _ => ⟨rfl, rfl⟩) (Nat.zero_le _) (fun _ => rfl) (fun h => by cases h)
        · have g : move f true 8 c b = value { c with st := 8 } b := by
            rw [move_tag _ _ _ _ _ (by omega), tag7 _ _ _ e, begun, if_neg h1, if_neg h2, if_neg h3]
            rw [if_pos rfl, move_value _ _ _ _ _ rfl]
          rw [g]
          refine inv_value _ b ?_ rfl
          rw [q]
          exact inv_val c.el c.ak 0 0 0 c.en false [] h4 he qa (.inl rfl) (Nat.zero_le _) (fun _ _ => ⟨rfl, rfl⟩) (fun h => by cases h) (fun _ => by omega) (fun h => by cases h) (fun h => by cases h) (fun _ => ⟨rfl, rfl⟩) (Nat.zero_le _) (fun _ => rfl) (fun h => by cases h)
  · have g : move f true 8 c b = value c b := by simp [move, e]
    rw [g]; exact inv_value c b h e
  · exact mv9 f 7 c b e h4 he
  · by_cases h1 : b = 62
    · have g : move f true 8 c b = closes c.el := by simp [move, tag, e, h1]
      rw [g]; right; exact inv_closes _ h4
    · have g : move f true 8 c b = move f true 7 (within c 4) b := by
        rw [move_tag _ _ _ _ _ (by omega), tag10 _ _ _ e, if_neg h1]
        rfl
      rw [g]; exact mv4 f hf 4 _ b rfl h4 he rfl
  · have g : move f true 8 c b = note c b := by
      rw [move]
      rw [if_neg (by omega), if_neg (by omega), if_neg (by omega), if_neg (by omega), if_neg (by omega), if_neg (by omega)]
    rw [g]; exact inv_note c b h e
  · have g : move f true 8 c b = raw c b true := by
      rw [move]
      rw [if_neg (by omega), if_neg (by omega), if_neg (by omega), if_neg (by omega), if_neg (by omega), if_pos (by omega)]
    rw [g]; exact inv_raw c b h e
theorem inv_steps (f : List Nat → Nat) (hf : ∀ n, f n ≤ 4) : ∀ (l : List Nat) (c d : Cx), Inv c → steps f true c l = some d → Inv d
  | [], c, d, h, e => by cases e; exact h
  | b :: r, c, d, h, e => by
    rw [steps] at e
    try dsimp only at e
    split at e
    · cases e
    · rename_i hn
      exact inv_steps f hf r _ d ((inv_step f hf c b h).resolve_left hn) e
/-- **Markup that is cut anywhere, with the trailer of the place, is whole again.** -/
theorem whole (f : List Nat → Nat) (hf : ∀ n, f n ≤ 4) (p : List Nat) (c : Cx) (h : steps f true {} p = some c) : steps f true {} (p ++ trailer f c) = some {} := by
  rw [steps_append, h]
  exact close_all f c (inv_steps f hf p _ c (inv_flat 0 (by simp)) h)
end Go.Proofs.YtfplocpjdjjoaaaDoor.Trail
namespace Go.Proofs.YtfplocpjdjjoaaaDoor.Trail
set_option linter.unusedVariables false
set_option linter.unusedSimpArgs false

theorem ff {p : Prop} (h : false = true) : p := by cases h
theorem tt {p : Prop} (h : true = false) : p := by cases h
def flat (c : Cx) : Cx := { c with nm := if c.st = 8 then [] else c.nm, ak := 0, pa := 0, su := 0, es := false }
theorem flat_flat (c : Cx) : flat (flat c) = flat c := by
  unfold flat; dsimp only; by_cases h : c.st = 8 <;> simp [h]
theorem flat_st (c : Cx) : (flat c).st = c.st := rfl
theorem code_flat (c : Cx) (b : Nat) (script : Bool) : code c b script = bad ∨ flat (code c b script) = flat c ∧ (code c b script).st = c.st ∧ (code c b script).nm = c.nm := by
  unfold code codeTop text
  repeat' split
  all_goals first
    | (left; rfl)
    | (right; exact ⟨rfl, rfl, rfl⟩)
theorem run_flat (script : Bool) : ∀ (s : List Nat) (c : Cx), run c script s = bad ∨ flat (run c script s) = flat c ∧ (run c script s).st = c.st ∧ (run c script s).nm = c.nm
  | [], c => .inr ⟨rfl, rfl, rfl⟩
  | b :: r, c => by
    rw [run]
    try dsimp only
    split
    · exact .inl rfl
    · rename_i hn
      rcases code_flat c b script with h | ⟨h1, h2, h3⟩
      · rw [h] at hn; exact absurd rfl hn
      · rcases run_flat script r (code c b script) with h | ⟨g1, g2, g3⟩
        · exact .inl h
        · exact .inr ⟨g1.trans h1, g2.trans h2, g3.trans h3⟩
theorem fed_flat (c : Cx) (s : List Nat) (feed : Bool) : fed c s feed = bad ∨ flat (fed c s feed) = { flat c with st := 17, nm := [] } ∧ (fed c s feed).st = 17 ∧ (fed c s feed).nm = [] := by
  unfold fed
  dsimp only
  split
  · right; exact ⟨rfl, rfl, rfl⟩
  · rcases run_flat (c.el == 3) s { c with st := 17, nm := [] } with h | ⟨h1, h2, h3⟩
    · exact .inl h
    · right; exact ⟨h1, h2, h3⟩
theorem fed_plain (c : Cx) (s : List Nat) : fed c s false = { c with st := 17, nm := [] } := by
  unfold fed; simp
theorem rawEnd_flat (c : Cx) (b : Nat) (h : (rawEnd c b true).st ≠ 20) : flat (rawEnd (flat c) b false) = flat (rawEnd c b true) := by
  have e : rawEnd (flat c) b false = if b = 60 then { flat c with st := 18, nm := [] } else { flat c with st := 17, nm := [] } := by
    unfold rawEnd
    rw [fed_plain]
    simp
  rw [e]
  unfold rawEnd at h ⊢
  dsimp only at h ⊢
  rcases fed_flat c [b] true with k | ⟨k1, k2, k3⟩
  · rw [k] at h; exact absurd (by rfl) h
  · have k4 : flat (fed c [b] true) = { flat c with st := 17, nm := [] } := k1
    generalize fed c [b] true = d at *
    by_cases hb : b = 60
    · rw [if_pos hb, if_pos ⟨k2, hb⟩]
      obtain ⟨st, el, en, ak, qu, pa, su, es, da, nm⟩ := d
      obtain ⟨st', el', en', ak', qu', pa', su', es', da', nm'⟩ := c
      simp only [flat] at k2 k3 k4 ⊢
      subst k2; subst k3
      simp only [Cx.mk.injEq] at k4 ⊢
      simp_all
    · rw [if_neg hb, if_neg (fun q => hb q.2), k4]
      simp [flat]
theorem value_flat (c : Cx) (b : Nat) (hs : c.st = 8) (h : (value c b).st ≠ 20) : flat (value (flat c) b) = flat (value c b) := by
  obtain ⟨st, el, en, ak, qu, pa, su, es, da, nm⟩ := c
  dsimp only at hs
  subst hs
  have e : flat { st := 8, el := el, en := en, ak := ak, qu := qu, pa := pa, su := su, es := es, da := da, nm := nm } = { st := 8, el := el, en := en, qu := qu, da := da } := by simp [flat]
  rw [e]
  unfold value at h ⊢
  dsimp only at h ⊢
  by_cases h1 : (!(qu == 0) && b == qu || (qu == 0) && (blank b || b == 62)) = true
  · rw [if_pos h1] at h ⊢
    rw [if_pos h1]
    split at h
    · exact absurd rfl h
    · rename_i hends
      rw [if_neg hends, if_neg (show ¬ (!ends { st := 8, el := el, en := en, qu := qu, da := da }) = true from fun q => ff q)]
      repeat' split
      all_goals rfl
  · simp only [h1, Bool.false_eq_true, if_false] at h ⊢
    by_cases h2 : ((qu == 0) && (b == 34 || b == 39 || b == 60 || b == 61 || b == 96)) = true
    · simp only [h2, if_true] at h
      exact absurd rfl h
    · simp only [h2, Bool.false_eq_true, if_false] at h ⊢
      have q1 : ¬ ((0 : Nat) = 1) := by omega
      have q2 : ¬ ((0 : Nat) = 2 ∨ (0 : Nat) = 3) := by omega
      rw [if_neg q1, if_neg q2]
      by_cases h3 : ak = 1
      · rw [if_pos h3] at h ⊢
        unfold url at h ⊢
        dsimp only at h ⊢
        repeat' split
        all_goals first
          | (simp [flat]; done)
          | (exfalso; simp_all [bad])
      · rw [if_neg h3] at h ⊢
        by_cases h4 : ak = 2 ∨ ak = 3
        · rw [if_pos h4] at h ⊢
          by_cases h5 : b = 38
          · rw [if_pos h5] at h; exact absurd rfl h
          · rw [if_neg h5] at h ⊢
            rcases code_flat { st := 8, el := el, en := en, ak := ak, qu := qu, pa := pa, su := su, es := es, da := da, nm := nm } b (ak == 2) with k | ⟨k1, -, -⟩
            · rw [k] at h; exact absurd rfl h
            · rw [k1]; simp [flat]
        · rw [if_neg h4]
          simp [flat]
theorem raw_flat (c : Cx) (b : Nat) (hs : c.st = 17 ∨ c.st = 18 ∨ c.st = 19) (h : (raw c b true).st ≠ 20) : flat (raw (flat c) b false) = flat (raw c b true) := by
  have f1 : (flat c).st = c.st := rfl
  have f2 : (flat c).el = c.el := rfl
  have f3 : (flat c).nm = c.nm := by show (if c.st = 8 then [] else c.nm) = c.nm; rw [if_neg (by omega)]
  unfold raw at h ⊢
  dsimp only at h ⊢
  rw [f1, f2, f3]
  by_cases h1 : c.st = 18 ∧ b = 47
  · rw [if_pos h1, if_pos h1]
    simp [flat]
  · rw [if_neg h1] at h ⊢
    rw [if_neg h1]
    by_cases h2 : c.st = 18 ∧ b = 33 ∧ c.el = 3
    · rw [if_pos h2] at h; exact absurd rfl h
    · rw [if_neg h2] at h ⊢
      rw [if_neg h2]
      by_cases h3 : c.st = 19 ∧ c.nm = nameOf c.el ∧ (blank b ∨ b = 47 ∨ b = 62)
      · rw [if_pos h3] at h ⊢
        rw [if_pos h3]
        split at h
        · exact absurd rfl h
        · rename_i he
          rw [if_neg he]
          rfl
      · rw [if_neg h3] at h ⊢
        rw [if_neg h3]
        by_cases h4 : c.st = 19 ∧ (c.nm ++ [small b]).isPrefixOf (nameOf c.el)
        · rw [if_pos h4] at h ⊢
          rw [if_pos h4]
          have : ¬ c.st = 8 := by omega
          simp [flat, this]
        · rw [if_neg h4] at h ⊢
          rw [if_neg h4]
          by_cases h5 : c.st = 19
          · rw [if_pos h5] at h ⊢
            rw [if_pos h5]
            rw [fed_plain]
            rcases fed_flat c (47 :: c.nm) true with k | ⟨k1, k2, k3⟩
            · rw [k] at h; exact absurd rfl h
            · rw [if_neg (by rw [k2]; omega)] at h
              rw [if_neg (by show ¬ (17 = 20); omega), if_neg (by rw [k2]; omega)]
              rw [← rawEnd_flat _ b h, k1]
          · rw [if_neg h5] at h ⊢
            rw [if_neg h5]
            exact rawEnd_flat c b h
theorem tag_flat (f : List Nat → Nat) (c : Cx) (b : Nat) (hs : 3 ≤ c.st ∧ c.st ≤ 10 ∧ c.st ≠ 8) (h7 : c.st = 7 → c.nm = []) : (tag f (flat c) b).2 = (tag f c b).2 ∧ ((tag f c b).2 = false → flat (tag f (flat c) b).1 = flat (tag f c b).1) ∧ ((tag f c b).2 = true → (tag f (flat c) b).1 = flat (tag f c b).1 ∧ (tag f c b).1.st ≠ 7) := by
  obtain ⟨st, el, en, ak, qu, pa, su, es, da, nm⟩ := c
  dsimp only at hs h7
  have e : flat { st := st, el := el, en := en, ak := ak, qu := qu, pa := pa, su := su, es := es, da := da, nm := nm } = { st := st, el := el, en := en, qu := qu, da := da, nm := nm } := by simp [flat, hs.2.2]
  rw [e]
  have hst : st = 3 ∨ st = 4 ∨ st = 5 ∨ st = 6 ∨ st = 7 ∨ st = 9 ∨ st = 10 := by omega
  clear hs
  rcases hst with rfl | rfl | rfl | rfl | rfl | rfl | rfl
  · unfold tag
    simp only [if_true]
    split
    · unfold grown
      dsimp only
      split <;> exact ⟨rfl, fun _ => rfl, fun h => ff h⟩
    · refine ⟨rfl, (fun h => tt h), fun _ => ⟨?_, by show (9 : Nat) ≠ 7; omega⟩⟩
      cases en <;> rfl
  · unfold tag
    simp only [show ¬ (4 : Nat) = 3 by omega, show ¬ (4 : Nat) = 9 by omega, show ¬ (4 : Nat) = 10 by omega, if_false, if_true]
    repeat' split
    all_goals first
      | exact ⟨rfl, fun _ => rfl, fun h => ff h⟩
      | exact ⟨rfl, (fun h => tt h), fun _ => ⟨rfl, by show (9 : Nat) ≠ 7; omega⟩⟩
      | exact ⟨rfl, (fun h => tt h), fun _ => ⟨rfl, by show (5 : Nat) ≠ 7; omega⟩⟩
  · unfold tag named
    simp only [show ¬ (5 : Nat) = 3 by omega, show ¬ (5 : Nat) = 9 by omega, show ¬ (5 : Nat) = 10 by omega, show ¬ (5 : Nat) = 4 by omega, show ¬ (5 : Nat) = 7 by omega, show ¬ (5 : Nat) = 6 by omega, if_false, if_true]
    repeat' split
    all_goals first
      | exact ⟨rfl, fun _ => rfl, fun h => ff h⟩
      | exact ⟨rfl, (fun h => tt h), fun _ => ⟨rfl, by show (9 : Nat) ≠ 7; omega⟩⟩
      | (unfold grown; dsimp only; split <;> exact ⟨rfl, fun _ => rfl, fun h => ff h⟩)
  · unfold tag named
    simp only [show ¬ (6 : Nat) = 3 by omega, show ¬ (6 : Nat) = 9 by omega, show ¬ (6 : Nat) = 10 by omega, show ¬ (6 : Nat) = 4 by omega, show ¬ (6 : Nat) = 7 by omega, if_false, if_true]
    repeat' split
    all_goals first
      | exact ⟨rfl, fun _ => rfl, fun h => ff h⟩
      | exact ⟨rfl, (fun h => tt h), fun _ => ⟨rfl, by show (9 : Nat) ≠ 7; omega⟩⟩
      | exact ⟨rfl, (fun h => tt h), fun _ => ⟨rfl, by show (4 : Nat) ≠ 7; omega⟩⟩
  · obtain rfl := h7 rfl
    unfold tag begun
    simp only [show ¬ (7 : Nat) = 3 by omega, show ¬ (7 : Nat) = 9 by omega, show ¬ (7 : Nat) = 10 by omega, show ¬ (7 : Nat) = 4 by omega, if_false, if_true]
    repeat' split
    all_goals first
      | exact ⟨rfl, fun _ => rfl, fun h => ff h⟩
      | exact ⟨rfl, (fun h => tt h), fun _ => ⟨rfl, by show (8 : Nat) ≠ 7; omega⟩⟩
  · unfold tag
    simp only [show ¬ (9 : Nat) = 3 by omega, if_false, if_true]
    repeat' split
    all_goals exact ⟨rfl, fun _ => rfl, fun h => ff h⟩
  · unfold tag
    simp only [show ¬ (10 : Nat) = 3 by omega, show ¬ (10 : Nat) = 9 by omega, if_false, if_true]
    repeat' split
    all_goals first
      | exact ⟨rfl, fun _ => rfl, fun h => ff h⟩
      | exact ⟨rfl, (fun h => tt h), fun _ => ⟨rfl, by show (4 : Nat) ≠ 7; omega⟩⟩
theorem move_flat (f : List Nat → Nat) : ∀ (k : Nat) (c : Cx) (b : Nat), (c.st = 7 → c.nm = []) → (move f true k c b).st ≠ 20 → flat (move f false k (flat c) b) = flat (move f true k c b)
  | 0, c, b, _, _ => by rw [move, move]; exact flat_flat c
  | k + 1, c, b, h7, h => by
    have f1 : (flat c).st = c.st := rfl
    by_cases t : 3 ≤ c.st ∧ c.st ≤ 10 ∧ c.st ≠ 8
    · obtain ⟨g1, g2, g3⟩ := tag_flat f c b t h7
      rw [move_tag _ _ _ _ _ t] at h ⊢
      rw [move_tag _ _ _ _ _ (by rw [f1]; exact t), g1]
      by_cases q : (tag f c b).2 = true
      · rw [if_pos q] at h ⊢
        rw [if_pos q]
        obtain ⟨g4, g5⟩ := g3 q
        rw [g4]
        exact move_flat f k _ b (fun e => absurd e g5) h
      · rw [if_neg q] at h ⊢
        rw [if_neg q]
        exact g2 (by simpa using q)
    · rw [move] at h ⊢
      rw [move, f1]
      by_cases s0 : c.st = 0
      · rw [if_pos s0, if_pos s0]
        have : ¬ c.st = 8 := by omega
        split <;> simp [flat, this]
      · rw [if_neg s0] at h ⊢
        rw [if_neg s0]
        by_cases s1 : c.st = 1
        · rw [if_pos s1] at h ⊢
          rw [if_pos s1]
          cases ho : opened b with
          | some to => rfl
          | none =>
            rw [ho] at h
            dsimp only at h ⊢
            have e : { flat c with st := 0 } = flat { c with st := 0 } := by
              have : ¬ c.st = 8 := by omega
              simp [flat, this]
            rw [e]
            exact move_flat f k _ b (fun q => by cases q) h
        · rw [if_neg s1] at h ⊢
          rw [if_neg s1]
          by_cases s2 : c.st = 2
          · rw [if_pos s2, if_pos s2]
          · rw [if_neg s2, if_neg t] at h ⊢
            rw [if_neg s2, if_neg t]
            by_cases s8 : c.st = 8
            · rw [if_pos s8] at h ⊢
              rw [if_pos s8]
              exact value_flat c b s8 h
            · rw [if_neg s8] at h ⊢
              rw [if_neg s8]
              by_cases sr : 17 ≤ c.st ∧ c.st ≤ 19
              · rw [if_pos sr] at h ⊢
                rw [if_pos sr]
                exact raw_flat c b (by omega) h
              · rw [if_neg sr, if_neg sr]
                unfold note
                rw [f1]
                have e : (flat c).da = c.da := rfl
                rw [e]
                repeat' split
                all_goals first
                  | rfl
                  | exact flat_flat c
/-- **What HTML alone knows goes on by itself.** -/
theorem step_flat (f : List Nat → Nat) (c : Cx) (b : Nat) (hi : Inv c) (h : (step f true c b).st ≠ 20) : flat (step f false (flat c) b) = flat (step f true c b) :=
  move_flat f 8 c b (fun e => by rw [(hi.behindEq e).1]) h
end Go.Proofs.YtfplocpjdjjoaaaDoor.Trail
namespace Go.Proofs.YtfplocpjdjjoaaaDoor.Trail
set_option linter.unusedVariables false
set_option linter.unusedSimpArgs false

def rank (s : Nat) : Nat := if s = 6 ∨ s = 10 then 4 else if s = 4 then 3 else if s = 5 ∨ s = 3 then 2 else if s = 7 ∨ s = 1 then 1 else 0
theorem rank_le (s : Nat) : rank s ≤ 4 := by
  unfold rank
  repeat' split
  all_goals omega
/-- What a further look needs of the context. -/
structure Ok (c : Cx) : Prop where
  nm : c.nm.length ≤ 900
  da : c.da ≤ 2
  st : c.st ≠ 20
theorem fst_ff {α : Type} {x : α} {p : Prop} (h : (x, false).2 = true) : p := by cases h
theorem tag_rank (f : List Nat → Nat) (c : Cx) (b : Nat) (hs : 3 ≤ c.st ∧ c.st ≤ 10 ∧ c.st ≠ 8) (h : (tag f c b).2 = true) : rank (tag f c b).1.st < rank c.st ∧ ((tag f c b).1.nm = [] ∨ (tag f c b).1.nm = c.nm) ∧ ((tag f c b).1.da = 0 ∨ (tag f c b).1.da = c.da) ∧ (tag f c b).1.st ≤ 10 := by
  obtain ⟨st, el, en, ak, qu, pa, su, es, da, nm⟩ := c
  dsimp only at hs
  have hst : st = 3 ∨ st = 4 ∨ st = 5 ∨ st = 6 ∨ st = 7 ∨ st = 9 ∨ st = 10 := by omega
  clear hs
  rcases hst with rfl | rfl | rfl | rfl | rfl | rfl | rfl
  · unfold tag at h ⊢
    simp only [if_true] at h ⊢
    by_cases q : (!blank b && b != 47 && b != 62) = true
    · rw [if_pos q] at h; exact fst_ff h
    · rw [if_neg q]
      exact ⟨by show rank 9 < rank 3; decide, .inl rfl, .inl rfl, by show 9 ≤ 10; omega⟩
  · unfold tag at h ⊢
    simp only [show ¬ (4 : Nat) = 3 by omega, show ¬ (4 : Nat) = 9 by omega, show ¬ (4 : Nat) = 10 by omega, if_false, if_true] at h ⊢
    by_cases q1 : blank b = true
    · rw [if_pos q1] at h; exact fst_ff h
    rw [if_neg q1] at h ⊢
    by_cases q2 : b = 47 ∨ b = 62
    · rw [if_pos q2]
      exact ⟨by show rank 9 < rank 4; decide, .inl rfl, .inl rfl, by show 9 ≤ 10; omega⟩
    rw [if_neg q2] at h ⊢
    by_cases q3 : b = 61
    · rw [if_pos q3] at h; exact fst_ff h
    rw [if_neg q3]
    exact ⟨by show rank 5 < rank 4; decide, .inr rfl, .inr rfl, by show 5 ≤ 10; omega⟩
  · unfold tag named at h ⊢
    simp only [show ¬ (5 : Nat) = 3 by omega, show ¬ (5 : Nat) = 9 by omega, show ¬ (5 : Nat) = 10 by omega, show ¬ (5 : Nat) = 4 by omega, show ¬ (5 : Nat) = 7 by omega, show ¬ (5 : Nat) = 6 by omega, if_false, if_true] at h ⊢
    by_cases q1 : b = 61 ∧ nm ≠ []
    · rw [if_pos q1] at h; exact fst_ff h
    rw [if_neg q1] at h ⊢
    by_cases q2 : b = 47 ∨ b = 62
    · rw [if_pos q2]
      exact ⟨by show rank 9 < rank 5; decide, .inl rfl, .inl rfl, by show 9 ≤ 10; omega⟩
    rw [if_neg q2] at h ⊢
    by_cases q3 : blank b = true
    · rw [if_pos q3] at h; exact fst_ff h
    rw [if_neg q3] at h ⊢
    by_cases q4 : b = 34 ∨ b = 39 ∨ b = 60
    · rw [if_pos q4] at h; exact fst_ff h
    rw [if_neg q4] at h
    exact fst_ff h
  · unfold tag named at h ⊢
    simp only [show ¬ (6 : Nat) = 3 by omega, show ¬ (6 : Nat) = 9 by omega, show ¬ (6 : Nat) = 10 by omega, show ¬ (6 : Nat) = 4 by omega, show ¬ (6 : Nat) = 7 by omega, if_false, if_true] at h ⊢
    by_cases q1 : b = 61 ∧ nm ≠ []
    · rw [if_pos q1] at h; exact fst_ff h
    rw [if_neg q1] at h ⊢
    by_cases q2 : b = 47 ∨ b = 62
    · rw [if_pos q2]
      exact ⟨by show rank 9 < rank 6; decide, .inl rfl, .inl rfl, by show 9 ≤ 10; omega⟩
    rw [if_neg q2] at h ⊢
    by_cases q3 : blank b = true
    · rw [if_pos q3] at h; exact fst_ff h
    rw [if_neg q3]
    exact ⟨by show rank 4 < rank 6; decide, .inl rfl, .inl rfl, by show 4 ≤ 10; omega⟩
  · unfold tag begun at h ⊢
    simp only [show ¬ (7 : Nat) = 3 by omega, show ¬ (7 : Nat) = 9 by omega, show ¬ (7 : Nat) = 10 by omega, show ¬ (7 : Nat) = 4 by omega, if_false, if_true] at h ⊢
    by_cases q1 : blank b = true
    · rw [if_pos q1] at h; exact fst_ff h
    rw [if_neg q1] at h ⊢
    by_cases q2 : b = 62
    · rw [if_pos q2] at h; exact fst_ff h
    rw [if_neg q2] at h ⊢
    by_cases q3 : b = 34 ∨ b = 39
    · rw [if_pos q3] at h; exact fst_ff h
    rw [if_neg q3]
    exact ⟨by show rank 8 < rank 7; decide, .inr rfl, .inr rfl, by show 8 ≤ 10; omega⟩
  · unfold tag at h ⊢
    simp only [show ¬ (9 : Nat) = 3 by omega, if_false, if_true] at h ⊢
    by_cases q1 : blank b = true
    · rw [if_pos q1] at h; exact fst_ff h
    rw [if_neg q1] at h
    by_cases q2 : b = 47
    · rw [if_pos q2] at h; exact fst_ff h
    rw [if_neg q2] at h
    by_cases q3 : b = 62
    · rw [if_pos q3] at h; exact fst_ff h
    rw [if_neg q3] at h
    exact fst_ff h
  · unfold tag at h ⊢
    simp only [show ¬ (10 : Nat) = 3 by omega, show ¬ (10 : Nat) = 9 by omega, if_false, if_true] at h ⊢
    by_cases q1 : b = 62
    · rw [if_pos q1] at h; exact fst_ff h
    rw [if_neg q1]
    exact ⟨by show rank 4 < rank 10; decide, .inl rfl, .inl rfl, by show 4 ≤ 10; omega⟩
/-- The fuel does not matter. -/
theorem move_fuel (f : List Nat → Nat) (feed : Bool) : ∀ (r : Nat) (c : Cx) (b k j : Nat), rank c.st ≤ r → r < k → r < j → move f feed k c b = move f feed j c b
  | r, c, b, 0, j, h, hk, hj => by omega
  | r, c, b, k + 1, 0, h, hk, hj => by omega
  | r, c, b, k + 1, j + 1, h, hk, hj => by
    by_cases t : 3 ≤ c.st ∧ c.st ≤ 10 ∧ c.st ≠ 8
    · rw [move_tag _ _ _ _ _ t, move_tag _ _ _ _ _ t]
      by_cases q : (tag f c b).2 = true
      · rw [if_pos q, if_pos q]
        obtain ⟨h1, -, -, -⟩ := tag_rank f c b t q
        exact move_fuel f feed (r - 1) _ b k j (by omega) (by omega) (by omega)
      · rw [if_neg q, if_neg q]
    · rw [move, move]
      by_cases s0 : c.st = 0
      · rw [if_pos s0, if_pos s0]
      rw [if_neg s0, if_neg s0]
      by_cases s1 : c.st = 1
      · rw [if_pos s1, if_pos s1]
        cases opened b with
        | some to => rfl
        | none =>
          dsimp only
          have h1 : rank c.st = 1 := by rw [s1]; rfl
          exact move_fuel f feed (r - 1) _ b k j (by show rank 0 ≤ _; exact Nat.zero_le _) (by omega) (by omega)
      rw [if_neg s1, if_neg s1]
      by_cases s2 : c.st = 2
      · rw [if_pos s2, if_pos s2]
      rw [if_neg s2, if_neg s2, if_neg t, if_neg t]
end Go.Proofs.YtfplocpjdjjoaaaDoor.Trail
namespace Go.Proofs.YtfplocpjdjjoaaaDoor.Trail
set_option linter.unusedVariables false
set_option linter.unusedSimpArgs false

def Sub (m n : List Nat) (b : Nat) : Prop := ∀ x ∈ m, x ∈ n ∨ x = small b
theorem sub_nil (n : List Nat) (b : Nat) : Sub [] n b := fun x h => by cases h
theorem sub_refl (n : List Nat) (b : Nat) : Sub n n b := fun x h => .inl h
theorem sub_one (n : List Nat) (b : Nat) : Sub [small b] n b := fun x h => .inr (List.mem_singleton.1 h)
theorem sub_app (n : List Nat) (b : Nat) : Sub (n ++ [small b]) n b := fun x h => (List.mem_append.1 h).imp id List.mem_singleton.1
theorem sub_trans {l m n : List Nat} {b : Nat} (h : Sub l m b) (k : Sub m n b) : Sub l n b := fun x hx => (h x hx).elim (k x) .inr
theorem sub_grown (c : Cx) (b : Nat) : Sub (grown c b).nm c.nm b := by
  unfold grown
  split
  · exact sub_nil _ _
  · exact sub_app _ _
theorem sub_begun (c : Cx) (b : Nat) : Sub (begun c b).1.nm c.nm b := by
  unfold begun
  repeat' split
  all_goals first
    | exact sub_nil _ _
    | exact sub_refl _ _
theorem sub_named (f : List Nat → Nat) (c : Cx) (b : Nat) : Sub (named f c b).1.nm c.nm b := by
  unfold named
  repeat' split
  all_goals first
    | exact sub_nil _ _
    | exact sub_refl _ _
    | exact sub_grown _ _
theorem sub_closes (el : Nat) (n : List Nat) (b : Nat) : Sub (closes el).nm n b := by
  unfold closes
  split <;> exact sub_nil _ _
theorem sub_tag (f : List Nat → Nat) (c : Cx) (b : Nat) : Sub (tag f c b).1.nm c.nm b := by
  unfold tag
  by_cases h3 : c.st = 3
  · rw [if_pos h3]
    by_cases q : (!blank b && b != 47 && b != 62) = true
    · rw [if_pos q]; exact sub_grown _ _
    · rw [if_neg q]; exact sub_nil _ _
  rw [if_neg h3]
  by_cases h9 : c.st = 9
  · rw [if_pos h9]
    by_cases q1 : blank b = true
    · rw [if_pos q1]; exact sub_nil _ _
    rw [if_neg q1]
    by_cases q2 : b = 47
    · rw [if_pos q2]; exact sub_nil _ _
    rw [if_neg q2]
    by_cases q3 : b = 62
    · rw [if_pos q3]; exact sub_closes _ _ _
    rw [if_neg q3]; exact sub_nil _ _
  rw [if_neg h9]
  by_cases h10 : c.st = 10
  · rw [if_pos h10]
    by_cases q3 : b = 62
    · rw [if_pos q3]; exact sub_closes _ _ _
    rw [if_neg q3]; exact sub_nil _ _
  rw [if_neg h10]
  by_cases h4 : c.st = 4
  · rw [if_pos h4]
    by_cases q1 : blank b = true
    · rw [if_pos q1]; exact sub_refl _ _
    rw [if_neg q1]
    by_cases q2 : b = 47 ∨ b = 62
    · rw [if_pos q2]; exact sub_nil _ _
    rw [if_neg q2]
    by_cases q3 : b = 61
    · rw [if_pos q3]; exact sub_nil _ _
    rw [if_neg q3]; exact sub_refl _ _
  rw [if_neg h4]
  by_cases h7 : c.st = 7
  · rw [if_pos h7]; exact sub_begun _ _
  rw [if_neg h7]; exact sub_named _ _ _
theorem sub_code (c : Cx) (b x : Nat) (s : Bool) : Sub (code c x s).nm c.nm b := by
  rcases code_flat c x s with h | ⟨-, -, h⟩
  · rw [h]; exact sub_nil _ _
  · rw [h]; exact sub_refl _ _
theorem sub_url (c : Cx) (b : Nat) : Sub (url c b).nm c.nm b := by
  unfold url
  dsimp only
  repeat' split
  all_goals first
    | exact sub_nil _ _
    | exact sub_refl _ _
    | exact sub_app _ _
theorem sub_value (c : Cx) (b : Nat) : Sub (value c b).nm c.nm b := by
  unfold value
  dsimp only
  repeat' split
  all_goals first
    | exact sub_nil _ _
    | exact sub_refl _ _
    | exact sub_closes _ _ _
    | exact sub_url _ _
    | exact sub_code _ _ _ _
theorem sub_fed (c : Cx) (s : List Nat) (feed : Bool) (n : List Nat) (b : Nat) : Sub (fed c s feed).nm n b := by
  rcases fed_flat c s feed with h | ⟨-, -, h⟩
  · rw [h]; exact sub_nil _ _
  · rw [h]; exact sub_nil _ _
theorem sub_rawEnd (c : Cx) (b : Nat) (feed : Bool) (n : List Nat) : Sub (rawEnd c b feed).nm n b := by
  unfold rawEnd
  dsimp only
  split <;> exact sub_fed _ _ _ _ _
theorem sub_raw (c : Cx) (b : Nat) (feed : Bool) : Sub (raw c b feed).nm c.nm b := by
  unfold raw
  dsimp only
  repeat' split
  all_goals first
    | exact sub_nil _ _
    | exact sub_refl _ _
    | exact sub_app _ _
    | exact sub_rawEnd _ _ _ _
    | exact sub_trans (sub_tag _ _ _) (sub_nil _ _)
theorem sub_move (f : List Nat → Nat) (feed : Bool) : ∀ (k : Nat) (c : Cx) (b : Nat), Sub (move f feed k c b).nm c.nm b
  | 0, c, b => sub_refl _ _
  | k + 1, c, b => by
    by_cases t : 3 ≤ c.st ∧ c.st ≤ 10 ∧ c.st ≠ 8
    · rw [move_tag _ _ _ _ _ t]
      by_cases q : (tag f c b).2 = true
      · rw [if_pos q]; exact sub_trans (sub_move f feed k _ b) (sub_tag f c b)
      · rw [if_neg q]; exact sub_tag f c b
    rw [move]
    by_cases s0 : c.st = 0
    · rw [if_pos s0]; split <;> exact sub_refl _ _
    rw [if_neg s0]
    by_cases s1 : c.st = 1
    · rw [if_pos s1]
      cases ho : opened b with
      | none => exact sub_move f feed k _ b
      | some x =>
        dsimp only
        unfold opened at ho
        repeat' split at ho
        all_goals first
          | (cases ho; done)
          | (cases ho; exact sub_one _ _)
          | (cases ho; exact sub_nil _ _)
    rw [if_neg s1]
    by_cases s2 : c.st = 2
    · rw [if_pos s2]
      unfold closed
      repeat' split
      all_goals first
        | exact sub_one _ _
        | exact sub_nil _ _
    rw [if_neg s2, if_neg t]
    by_cases s8 : c.st = 8
    · rw [if_pos s8]; exact sub_value c b
    rw [if_neg s8]
    by_cases s17 : 17 ≤ c.st ∧ c.st ≤ 19
    · rw [if_pos s17]; exact sub_raw c b feed
    rw [if_neg s17]
    unfold note
    repeat' split
    all_goals first
      | exact sub_nil _ _
      | exact sub_refl _ _
theorem sub_step (f : List Nat → Nat) (feed : Bool) (c : Cx) (b : Nat) : Sub (step f feed c b).nm c.nm b := sub_move f feed 8 c b
end Go.Proofs.YtfplocpjdjjoaaaDoor.Trail
