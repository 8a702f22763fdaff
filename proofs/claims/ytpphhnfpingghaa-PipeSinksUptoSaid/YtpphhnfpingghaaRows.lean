/-
  No cell of these rows narrows 'for every input' (looked for: loops, veiled, ifaces, maps, wideKeys, modest, calm, conditions, laid).
  DERIVED. THE GIVEN ROWS OF THIS SEAT. 9 by the template 'for every input the law returns true; each argument reads behind the call as it read before'; 0 by the template 'total and deterministic' (their statements: YtpphhnfpingghaaTotals.lean).
  GIVEN WITH THE SEED: the statements are not yours to turn. If you find one false, say at which input.
  Laid BY PROGRAM, IN A SANDBOX (cutbox-rows.mjs): the forced cells as the released guide's own fill.sh prints them over the translation 57c0ecbcf8d1dbb5… (all of the seat's roots in one cut). By AI agents, Wed Nov 11 2026. No macro, syntax, notation, axiom, sorry.
-/
import Derived.Test.YtpphhnfpingghaaChecked
import GoSem.Claim
import GoSem.ClaimJoined
import GoSem.ClaimMapViews
import Derived.JoinedTies
import Derived.KernelRfl
namespace Go.Proofs.Ytpphhnfpingghaa
/- THE CELL 'sum', in the pinned program and in every row, IS THE sha256 OF THE DUMP (.gsa) THAT YtpphhnfpingghaaProg.lean LOADS. Nothing in Lean hashes anything: it is a label: what it is worth is what the hold of that sum in a sandbox is worth. -/
noncomputable def Try.pinned : Pinned := { name := "ytpphhnfpingghaa", sum := "57c0ecbcf8d1dbb5c801b6997c61d8fe39dbe666f0c96c6611c132d461e70fd4", checked := Try.checked }
namespace Rows
def none {H : Type} : Left H := { results := [], args := [] }

/-- 'bobbinlaw03.HtmlUnits': WHATEVER THE INPUT: true; the input reads as it did. -/
def htmlUnitsSpec : ChangeSpec := { name := "htmlUnits", fn := fun _ => fun
  | [] => { results := [.lit (.bool true)], args := [] }
  | _ => none }
def htmlUnitsRow : OpenClaim := { program := "ytpphhnfpingghaa", sum := "57c0ecbcf8d1dbb5c801b6997c61d8fe39dbe666f0c96c6611c132d461e70fd4", func := "bobbin/bobbinlaw03.HtmlUnits", spec := "htmlUnits", apart := false }
def HtmlUnitsSaid : Prop := htmlUnitsRow.holds Try.pinned (OpenSpec.ofChange htmlUnitsSpec)

/-- ITS FALSE NEIGHBOUR: 'it returns false'. Refute it at one input. -/
def htmlUnitsWrong : ChangeSpec := { name := "htmlUnits", fn := fun _ => fun
  | [] => { results := [.lit (.bool false)], args := [] }
  | _ => none }
def HtmlUnitsWrongFalsely : Prop := htmlUnitsRow.holds Try.pinned (OpenSpec.ofChange htmlUnitsWrong)

/-- 'bobbinlaw20.PipeSinks': WHATEVER THE INPUT: true; the input reads as it did. -/
def pipeSinksSpec : ChangeSpec := { name := "pipeSinks", fn := fun _ => fun
  | [d] => { results := [.lit (.bool true)], args := [d] }
  | _ => none }
def pipeSinksRow : OpenClaim := { program := "ytpphhnfpingghaa", sum := "57c0ecbcf8d1dbb5c801b6997c61d8fe39dbe666f0c96c6611c132d461e70fd4", func := "bobbin/bobbinlaw20.PipeSinks", spec := "pipeSinks", apart := false }
def PipeSinksSaid : Prop := pipeSinksRow.holds Try.pinned (OpenSpec.ofChange pipeSinksSpec)

/-- ITS FALSE NEIGHBOUR: 'it returns false'. Refute it at one input. -/
def pipeSinksWrong : ChangeSpec := { name := "pipeSinks", fn := fun _ => fun
  | [d] => { results := [.lit (.bool false)], args := [d] }
  | _ => none }
def PipeSinksWrongFalsely : Prop := pipeSinksRow.holds Try.pinned (OpenSpec.ofChange pipeSinksWrong)

/-- 'bobbinlaw03.HtmlTexts': WHATEVER THE INPUT: true; the input reads as it did. -/
def htmlTextsSpec : ChangeSpec := { name := "htmlTexts", fn := fun _ => fun
  | [d] => { results := [.lit (.bool true)], args := [d] }
  | _ => none }
def htmlTextsRow : OpenClaim := { program := "ytpphhnfpingghaa", sum := "57c0ecbcf8d1dbb5c801b6997c61d8fe39dbe666f0c96c6611c132d461e70fd4", func := "bobbin/bobbinlaw03.HtmlTexts", spec := "htmlTexts", apart := false }
def HtmlTextsSaid : Prop := htmlTextsRow.holds Try.pinned (OpenSpec.ofChange htmlTextsSpec)

/-- ITS FALSE NEIGHBOUR: 'it returns false'. Refute it at one input. -/
def htmlTextsWrong : ChangeSpec := { name := "htmlTexts", fn := fun _ => fun
  | [d] => { results := [.lit (.bool false)], args := [d] }
  | _ => none }
def HtmlTextsWrongFalsely : Prop := htmlTextsRow.holds Try.pinned (OpenSpec.ofChange htmlTextsWrong)

/-- 'bobbinlaw03.HtmlBack': WHATEVER THE INPUT: true; the input reads as it did. -/
def htmlBackSpec : ChangeSpec := { name := "htmlBack", fn := fun _ => fun
  | [d] => { results := [.lit (.bool true)], args := [d] }
  | _ => none }
def htmlBackRow : OpenClaim := { program := "ytpphhnfpingghaa", sum := "57c0ecbcf8d1dbb5c801b6997c61d8fe39dbe666f0c96c6611c132d461e70fd4", func := "bobbin/bobbinlaw03.HtmlBack", spec := "htmlBack", apart := false }
def HtmlBackSaid : Prop := htmlBackRow.holds Try.pinned (OpenSpec.ofChange htmlBackSpec)

/-- ITS FALSE NEIGHBOUR: 'it returns false'. Refute it at one input. -/
def htmlBackWrong : ChangeSpec := { name := "htmlBack", fn := fun _ => fun
  | [d] => { results := [.lit (.bool false)], args := [d] }
  | _ => none }
def HtmlBackWrongFalsely : Prop := htmlBackRow.holds Try.pinned (OpenSpec.ofChange htmlBackWrong)

/-- 'bobbinlaw03.HtmlSplits': WHATEVER THE INPUT: true; the input reads as it did. -/
def htmlSplitsSpec : ChangeSpec := { name := "htmlSplits", fn := fun _ => fun
  | [d1, d2] => { results := [.lit (.bool true)], args := [d1, d2] }
  | _ => none }
def htmlSplitsRow : OpenClaim := { program := "ytpphhnfpingghaa", sum := "57c0ecbcf8d1dbb5c801b6997c61d8fe39dbe666f0c96c6611c132d461e70fd4", func := "bobbin/bobbinlaw03.HtmlSplits", spec := "htmlSplits", apart := false }
def HtmlSplitsSaid : Prop := htmlSplitsRow.holds Try.pinned (OpenSpec.ofChange htmlSplitsSpec)

/-- ITS FALSE NEIGHBOUR: 'it returns false'. Refute it at one input. -/
def htmlSplitsWrong : ChangeSpec := { name := "htmlSplits", fn := fun _ => fun
  | [d1, d2] => { results := [.lit (.bool false)], args := [d1, d2] }
  | _ => none }
def HtmlSplitsWrongFalsely : Prop := htmlSplitsRow.holds Try.pinned (OpenSpec.ofChange htmlSplitsWrong)

/-- 'bobbinlaw20.PipeEnds': WHATEVER THE INPUT: true; the input reads as it did. -/
def pipeEndsSpec : ChangeSpec := { name := "pipeEnds", fn := fun _ => fun
  | [d1, d2] => { results := [.lit (.bool true)], args := [d1, d2] }
  | _ => none }
def pipeEndsRow : OpenClaim := { program := "ytpphhnfpingghaa", sum := "57c0ecbcf8d1dbb5c801b6997c61d8fe39dbe666f0c96c6611c132d461e70fd4", func := "bobbin/bobbinlaw20.PipeEnds", spec := "pipeEnds", apart := false }
def PipeEndsSaid : Prop := pipeEndsRow.holds Try.pinned (OpenSpec.ofChange pipeEndsSpec)

/-- ITS FALSE NEIGHBOUR: 'it returns false'. Refute it at one input. -/
def pipeEndsWrong : ChangeSpec := { name := "pipeEnds", fn := fun _ => fun
  | [d1, d2] => { results := [.lit (.bool false)], args := [d1, d2] }
  | _ => none }
def PipeEndsWrongFalsely : Prop := pipeEndsRow.holds Try.pinned (OpenSpec.ofChange pipeEndsWrong)

/-- 'bobbinlaw20.PipeClocks': WHATEVER THE INPUT: true; the input reads as it did. -/
def pipeClocksSpec : ChangeSpec := { name := "pipeClocks", fn := fun _ => fun
  | [d1, d2] => { results := [.lit (.bool true)], args := [d1, d2] }
  | _ => none }
def pipeClocksRow : OpenClaim := { program := "ytpphhnfpingghaa", sum := "57c0ecbcf8d1dbb5c801b6997c61d8fe39dbe666f0c96c6611c132d461e70fd4", func := "bobbin/bobbinlaw20.PipeClocks", spec := "pipeClocks", apart := false }
def PipeClocksSaid : Prop := pipeClocksRow.holds Try.pinned (OpenSpec.ofChange pipeClocksSpec)

/-- ITS FALSE NEIGHBOUR: 'it returns false'. Refute it at one input. -/
def pipeClocksWrong : ChangeSpec := { name := "pipeClocks", fn := fun _ => fun
  | [d1, d2] => { results := [.lit (.bool false)], args := [d1, d2] }
  | _ => none }
def PipeClocksWrongFalsely : Prop := pipeClocksRow.holds Try.pinned (OpenSpec.ofChange pipeClocksWrong)

/-- 'bobbinlaw20.PipeFairs': WHATEVER THE INPUT: true; the input reads as it did. -/
def pipeFairsSpec : ChangeSpec := { name := "pipeFairs", fn := fun _ => fun
  | [d1, d2] => { results := [.lit (.bool true)], args := [d1, d2] }
  | _ => none }
def pipeFairsRow : OpenClaim := { program := "ytpphhnfpingghaa", sum := "57c0ecbcf8d1dbb5c801b6997c61d8fe39dbe666f0c96c6611c132d461e70fd4", func := "bobbin/bobbinlaw20.PipeFairs", spec := "pipeFairs", apart := false }
def PipeFairsSaid : Prop := pipeFairsRow.holds Try.pinned (OpenSpec.ofChange pipeFairsSpec)

/-- ITS FALSE NEIGHBOUR: 'it returns false'. Refute it at one input. -/
def pipeFairsWrong : ChangeSpec := { name := "pipeFairs", fn := fun _ => fun
  | [d1, d2] => { results := [.lit (.bool false)], args := [d1, d2] }
  | _ => none }
def PipeFairsWrongFalsely : Prop := pipeFairsRow.holds Try.pinned (OpenSpec.ofChange pipeFairsWrong)

/-- 'bobbinlaw20.PipeFairer': WHATEVER THE INPUT: true; the input reads as it did. -/
def pipeFairerSpec : ChangeSpec := { name := "pipeFairer", fn := fun _ => fun
  | [d1, d2, d3] => { results := [.lit (.bool true)], args := [d1, d2, d3] }
  | _ => none }
def pipeFairerRow : OpenClaim := { program := "ytpphhnfpingghaa", sum := "57c0ecbcf8d1dbb5c801b6997c61d8fe39dbe666f0c96c6611c132d461e70fd4", func := "bobbin/bobbinlaw20.PipeFairer", spec := "pipeFairer", apart := false }
def PipeFairerSaid : Prop := pipeFairerRow.holds Try.pinned (OpenSpec.ofChange pipeFairerSpec)

/-- ITS FALSE NEIGHBOUR: 'it returns false'. Refute it at one input. -/
def pipeFairerWrong : ChangeSpec := { name := "pipeFairer", fn := fun _ => fun
  | [d1, d2, d3] => { results := [.lit (.bool false)], args := [d1, d2, d3] }
  | _ => none }
def PipeFairerWrongFalsely : Prop := pipeFairerRow.holds Try.pinned (OpenSpec.ofChange pipeFairerWrong)

/- THE SECOND FORM. 'bulk': how many values and letters a reading holds, each counted each time it is reached (what is shared counts as often as it is met; a slice's spare places count too). A statement '..UptoSaid' is the law's where the arguments, and the package variables that the reading takes, are together of bulk at most 1048576: NARROWER than '..Said'. Prove '..Said' where nothing that the law and all that it calls make is longer than what came in: it says more and counts as full. Else prove '..UptoSaid'. A law counts once. -/
mutual
def uptoBulk {H : Type} : DataW H → Nat
  | .lit (.string bytes) => bytes.length + 1
  | .lit _ => 1
  | .nil => 1
  | .ptr d => uptoBulk d + 1
  | .slice elems spare => uptoBulkAll elems + uptoBulkAll spare + 1
  | .agg parts => uptoBulkAll parts + 1
  | .iface _ d => uptoBulk d + 1
  | .map entries => uptoBulkEntries entries + 1
  | .held _ => 1
def uptoBulkAll {H : Type} : List (DataW H) → Nat
  | [] => 0
  | d :: r => uptoBulk d + uptoBulkAll r
def uptoBulkEntries {H : Type} : List (Lit × DataW H) → Nat
  | [] => 0
  | x :: r => uptoBulkEntry x + uptoBulkEntries r
def uptoBulkEntry {H : Type} : Lit × DataW H → Nat
  | (.string bytes, d) => bytes.length + uptoBulk d + 1
  | (_, d) => uptoBulk d + 1
 end
def uptoSmall : (H : Type) → List (DataW H) → Bool := fun _ ds => decide (uptoBulkAll ds ≤ 1048576)
def OpenSpec.upto (s : _root_.Go.ChangeSpec) : _root_.Go.OpenSpec := { _root_.Go.OpenSpec.ofChange s with cond := some uptoSmall }

/-- 'bobbinlaw03.HtmlUnits', WHERE WHAT IT READS IS OF BULK AT MOST 1048576: true; the input reads as it did. -/
def htmlUnitsUptoRow : OpenClaim := { program := "ytpphhnfpingghaa", sum := "57c0ecbcf8d1dbb5c801b6997c61d8fe39dbe666f0c96c6611c132d461e70fd4", func := "bobbin/bobbinlaw03.HtmlUnits", spec := "htmlUnits", apart := false, narrowed := true }
def HtmlUnitsUptoSaid : Prop := htmlUnitsUptoRow.holds Try.pinned (OpenSpec.upto htmlUnitsSpec)

/-- 'bobbinlaw20.PipeSinks', WHERE WHAT IT READS IS OF BULK AT MOST 1048576: true; the input reads as it did. -/
def pipeSinksUptoRow : OpenClaim := { program := "ytpphhnfpingghaa", sum := "57c0ecbcf8d1dbb5c801b6997c61d8fe39dbe666f0c96c6611c132d461e70fd4", func := "bobbin/bobbinlaw20.PipeSinks", spec := "pipeSinks", apart := false, narrowed := true }
def PipeSinksUptoSaid : Prop := pipeSinksUptoRow.holds Try.pinned (OpenSpec.upto pipeSinksSpec)

/-- 'bobbinlaw03.HtmlTexts', WHERE WHAT IT READS IS OF BULK AT MOST 1048576: true; the input reads as it did. -/
def htmlTextsUptoRow : OpenClaim := { program := "ytpphhnfpingghaa", sum := "57c0ecbcf8d1dbb5c801b6997c61d8fe39dbe666f0c96c6611c132d461e70fd4", func := "bobbin/bobbinlaw03.HtmlTexts", spec := "htmlTexts", apart := false, narrowed := true }
def HtmlTextsUptoSaid : Prop := htmlTextsUptoRow.holds Try.pinned (OpenSpec.upto htmlTextsSpec)

/-- 'bobbinlaw03.HtmlBack', WHERE WHAT IT READS IS OF BULK AT MOST 1048576: true; the input reads as it did. -/
def htmlBackUptoRow : OpenClaim := { program := "ytpphhnfpingghaa", sum := "57c0ecbcf8d1dbb5c801b6997c61d8fe39dbe666f0c96c6611c132d461e70fd4", func := "bobbin/bobbinlaw03.HtmlBack", spec := "htmlBack", apart := false, narrowed := true }
def HtmlBackUptoSaid : Prop := htmlBackUptoRow.holds Try.pinned (OpenSpec.upto htmlBackSpec)

/-- 'bobbinlaw03.HtmlSplits', WHERE WHAT IT READS IS OF BULK AT MOST 1048576: true; the input reads as it did. -/
def htmlSplitsUptoRow : OpenClaim := { program := "ytpphhnfpingghaa", sum := "57c0ecbcf8d1dbb5c801b6997c61d8fe39dbe666f0c96c6611c132d461e70fd4", func := "bobbin/bobbinlaw03.HtmlSplits", spec := "htmlSplits", apart := false, narrowed := true }
def HtmlSplitsUptoSaid : Prop := htmlSplitsUptoRow.holds Try.pinned (OpenSpec.upto htmlSplitsSpec)

/-- 'bobbinlaw20.PipeEnds', WHERE WHAT IT READS IS OF BULK AT MOST 1048576: true; the input reads as it did. -/
def pipeEndsUptoRow : OpenClaim := { program := "ytpphhnfpingghaa", sum := "57c0ecbcf8d1dbb5c801b6997c61d8fe39dbe666f0c96c6611c132d461e70fd4", func := "bobbin/bobbinlaw20.PipeEnds", spec := "pipeEnds", apart := false, narrowed := true }
def PipeEndsUptoSaid : Prop := pipeEndsUptoRow.holds Try.pinned (OpenSpec.upto pipeEndsSpec)

/-- 'bobbinlaw20.PipeClocks', WHERE WHAT IT READS IS OF BULK AT MOST 1048576: true; the input reads as it did. -/
def pipeClocksUptoRow : OpenClaim := { program := "ytpphhnfpingghaa", sum := "57c0ecbcf8d1dbb5c801b6997c61d8fe39dbe666f0c96c6611c132d461e70fd4", func := "bobbin/bobbinlaw20.PipeClocks", spec := "pipeClocks", apart := false, narrowed := true }
def PipeClocksUptoSaid : Prop := pipeClocksUptoRow.holds Try.pinned (OpenSpec.upto pipeClocksSpec)

/-- 'bobbinlaw20.PipeFairs', WHERE WHAT IT READS IS OF BULK AT MOST 1048576: true; the input reads as it did. -/
def pipeFairsUptoRow : OpenClaim := { program := "ytpphhnfpingghaa", sum := "57c0ecbcf8d1dbb5c801b6997c61d8fe39dbe666f0c96c6611c132d461e70fd4", func := "bobbin/bobbinlaw20.PipeFairs", spec := "pipeFairs", apart := false, narrowed := true }
def PipeFairsUptoSaid : Prop := pipeFairsUptoRow.holds Try.pinned (OpenSpec.upto pipeFairsSpec)

/-- 'bobbinlaw20.PipeFairer', WHERE WHAT IT READS IS OF BULK AT MOST 1048576: true; the input reads as it did. -/
def pipeFairerUptoRow : OpenClaim := { program := "ytpphhnfpingghaa", sum := "57c0ecbcf8d1dbb5c801b6997c61d8fe39dbe666f0c96c6611c132d461e70fd4", func := "bobbin/bobbinlaw20.PipeFairer", spec := "pipeFairer", apart := false, narrowed := true }
def PipeFairerUptoSaid : Prop := pipeFairerUptoRow.holds Try.pinned (OpenSpec.upto pipeFairerSpec)

end Rows
end Go.Proofs.Ytpphhnfpingghaa
