/-
  No cell of these rows narrows 'for every input' (looked for: loops, veiled, ifaces, maps, wideKeys, modest, calm, conditions, laid).
  DERIVED. THE GIVEN ROWS OF THIS SEAT. 8 by the template 'for every input the law returns true; each argument reads behind the call as it read before'; 0 by the template 'total and deterministic' (their statements: YtclanebbalgpfaaTotals.lean).
  GIVEN WITH THE SEED: the statements are not yours to turn. If you find one false, say at which input.
  Laid BY PROGRAM, IN A SANDBOX (cutbox-rows.mjs): the forced cells as the released guide's own fill.sh prints them over the translation a4101aa86e59bf9d… (all of the seat's roots in one cut). By AI agents, Wed Nov 11 2026. No macro, syntax, notation, axiom, sorry.
-/
import Derived.Test.YtclanebbalgpfaaChecked
import GoSem.Claim
import GoSem.ClaimJoined
import GoSem.ClaimMapViews
import Derived.JoinedTies
import Derived.KernelRfl
namespace Go.Proofs.Ytclanebbalgpfaa
/- THE CELL 'sum', in the pinned program and in every row, IS THE sha256 OF THE DUMP (.gsa) THAT YtclanebbalgpfaaProg.lean LOADS. Nothing in Lean hashes anything: it is a label: what it is worth is what the hold of that sum in a sandbox is worth. -/
noncomputable def Try.pinned : Pinned := { name := "ytclanebbalgpfaa", sum := "a4101aa86e59bf9d28af5a08d3922793402a3706ba654ff515730ffe22346a73", checked := Try.checked }
namespace Rows
def none {H : Type} : Left H := { results := [], args := [] }

/-- 'bobbinlaw17.DataKeeps': WHATEVER THE INPUT: true; the input reads as it did. -/
def dataKeepsSpec : ChangeSpec := { name := "dataKeeps", fn := fun _ => fun
  | [d1, d2] => { results := [.lit (.bool true)], args := [d1, d2] }
  | _ => none }
def dataKeepsRow : OpenClaim := { program := "ytclanebbalgpfaa", sum := "a4101aa86e59bf9d28af5a08d3922793402a3706ba654ff515730ffe22346a73", func := "bobbin/bobbinlaw17.DataKeeps", spec := "dataKeeps", apart := false }
def DataKeepsSaid : Prop := dataKeepsRow.holds Try.pinned (OpenSpec.ofChange dataKeepsSpec)

/-- ITS FALSE NEIGHBOUR: 'it returns false'. Refute it at one input. -/
def dataKeepsWrong : ChangeSpec := { name := "dataKeeps", fn := fun _ => fun
  | [d1, d2] => { results := [.lit (.bool false)], args := [d1, d2] }
  | _ => none }
def DataKeepsWrongFalsely : Prop := dataKeepsRow.holds Try.pinned (OpenSpec.ofChange dataKeepsWrong)

/-- 'bobbinlaw17.DataAsks': WHATEVER THE INPUT: true; the input reads as it did. -/
def dataAsksSpec : ChangeSpec := { name := "dataAsks", fn := fun _ => fun
  | [d1, d2] => { results := [.lit (.bool true)], args := [d1, d2] }
  | _ => none }
def dataAsksRow : OpenClaim := { program := "ytclanebbalgpfaa", sum := "a4101aa86e59bf9d28af5a08d3922793402a3706ba654ff515730ffe22346a73", func := "bobbin/bobbinlaw17.DataAsks", spec := "dataAsks", apart := false }
def DataAsksSaid : Prop := dataAsksRow.holds Try.pinned (OpenSpec.ofChange dataAsksSpec)

/-- ITS FALSE NEIGHBOUR: 'it returns false'. Refute it at one input. -/
def dataAsksWrong : ChangeSpec := { name := "dataAsks", fn := fun _ => fun
  | [d1, d2] => { results := [.lit (.bool false)], args := [d1, d2] }
  | _ => none }
def DataAsksWrongFalsely : Prop := dataAsksRow.holds Try.pinned (OpenSpec.ofChange dataAsksWrong)

/-- 'bobbinlaw17.DataItems': WHATEVER THE INPUT: true; the input reads as it did. -/
def dataItemsSpec : ChangeSpec := { name := "dataItems", fn := fun _ => fun
  | [d1, d2, d3] => { results := [.lit (.bool true)], args := [d1, d2, d3] }
  | _ => none }
def dataItemsRow : OpenClaim := { program := "ytclanebbalgpfaa", sum := "a4101aa86e59bf9d28af5a08d3922793402a3706ba654ff515730ffe22346a73", func := "bobbin/bobbinlaw17.DataItems", spec := "dataItems", unfollowed := true, recurses := true, apart := false }
def DataItemsSaid : Prop := dataItemsRow.holds Try.pinned (OpenSpec.ofChange dataItemsSpec)

/-- ITS FALSE NEIGHBOUR: 'it returns false'. Refute it at one input. -/
def dataItemsWrong : ChangeSpec := { name := "dataItems", fn := fun _ => fun
  | [d1, d2, d3] => { results := [.lit (.bool false)], args := [d1, d2, d3] }
  | _ => none }
def DataItemsWrongFalsely : Prop := dataItemsRow.holds Try.pinned (OpenSpec.ofChange dataItemsWrong)

/-- 'bobbinlaw17.DataChecks': WHATEVER THE INPUT: true; the input reads as it did. -/
def dataChecksSpec : ChangeSpec := { name := "dataChecks", fn := fun _ => fun
  | [d] => { results := [.lit (.bool true)], args := [d] }
  | _ => none }
def dataChecksRow : OpenClaim := { program := "ytclanebbalgpfaa", sum := "a4101aa86e59bf9d28af5a08d3922793402a3706ba654ff515730ffe22346a73", func := "bobbin/bobbinlaw17.DataChecks", spec := "dataChecks", apart := false }
def DataChecksSaid : Prop := dataChecksRow.holds Try.pinned (OpenSpec.ofChange dataChecksSpec)

/-- ITS FALSE NEIGHBOUR: 'it returns false'. Refute it at one input. -/
def dataChecksWrong : ChangeSpec := { name := "dataChecks", fn := fun _ => fun
  | [d] => { results := [.lit (.bool false)], args := [d] }
  | _ => none }
def DataChecksWrongFalsely : Prop := dataChecksRow.holds Try.pinned (OpenSpec.ofChange dataChecksWrong)

/-- 'bobbinlaw17.DataFinds': WHATEVER THE INPUT: true; the input reads as it did. -/
def dataFindsSpec : ChangeSpec := { name := "dataFinds", fn := fun _ => fun
  | [d1, d2, d3] => { results := [.lit (.bool true)], args := [d1, d2, d3] }
  | _ => none }
def dataFindsRow : OpenClaim := { program := "ytclanebbalgpfaa", sum := "a4101aa86e59bf9d28af5a08d3922793402a3706ba654ff515730ffe22346a73", func := "bobbin/bobbinlaw17.DataFinds", spec := "dataFinds", apart := false }
def DataFindsSaid : Prop := dataFindsRow.holds Try.pinned (OpenSpec.ofChange dataFindsSpec)

/-- ITS FALSE NEIGHBOUR: 'it returns false'. Refute it at one input. -/
def dataFindsWrong : ChangeSpec := { name := "dataFinds", fn := fun _ => fun
  | [d1, d2, d3] => { results := [.lit (.bool false)], args := [d1, d2, d3] }
  | _ => none }
def DataFindsWrongFalsely : Prop := dataFindsRow.holds Try.pinned (OpenSpec.ofChange dataFindsWrong)

/-- 'bobbinlaw17.DataShapes': WHATEVER THE INPUT: true; the input reads as it did. -/
def dataShapesSpec : ChangeSpec := { name := "dataShapes", fn := fun _ => fun
  | [d1, d2] => { results := [.lit (.bool true)], args := [d1, d2] }
  | _ => none }
def dataShapesRow : OpenClaim := { program := "ytclanebbalgpfaa", sum := "a4101aa86e59bf9d28af5a08d3922793402a3706ba654ff515730ffe22346a73", func := "bobbin/bobbinlaw17.DataShapes", spec := "dataShapes", apart := false }
def DataShapesSaid : Prop := dataShapesRow.holds Try.pinned (OpenSpec.ofChange dataShapesSpec)

/-- ITS FALSE NEIGHBOUR: 'it returns false'. Refute it at one input. -/
def dataShapesWrong : ChangeSpec := { name := "dataShapes", fn := fun _ => fun
  | [d1, d2] => { results := [.lit (.bool false)], args := [d1, d2] }
  | _ => none }
def DataShapesWrongFalsely : Prop := dataShapesRow.holds Try.pinned (OpenSpec.ofChange dataShapesWrong)

/-- 'bobbinlaw17.DataWays': WHATEVER THE INPUT: true; the input reads as it did. -/
def dataWaysSpec : ChangeSpec := { name := "dataWays", fn := fun _ => fun
  | [d1, d2, d3, d4, d5] => { results := [.lit (.bool true)], args := [d1, d2, d3, d4, d5] }
  | _ => none }
def dataWaysRow : OpenClaim := { program := "ytclanebbalgpfaa", sum := "a4101aa86e59bf9d28af5a08d3922793402a3706ba654ff515730ffe22346a73", func := "bobbin/bobbinlaw17.DataWays", spec := "dataWays", apart := false }
def DataWaysSaid : Prop := dataWaysRow.holds Try.pinned (OpenSpec.ofChange dataWaysSpec)

/-- ITS FALSE NEIGHBOUR: 'it returns false'. Refute it at one input. -/
def dataWaysWrong : ChangeSpec := { name := "dataWays", fn := fun _ => fun
  | [d1, d2, d3, d4, d5] => { results := [.lit (.bool false)], args := [d1, d2, d3, d4, d5] }
  | _ => none }
def DataWaysWrongFalsely : Prop := dataWaysRow.holds Try.pinned (OpenSpec.ofChange dataWaysWrong)

/-- 'bobbinlaw17.DataGrows': WHATEVER THE INPUT: true; the input reads as it did. -/
def dataGrowsSpec : ChangeSpec := { name := "dataGrows", fn := fun _ => fun
  | [d1, d2, d3, d4] => { results := [.lit (.bool true)], args := [d1, d2, d3, d4] }
  | _ => none }
def dataGrowsRow : OpenClaim := { program := "ytclanebbalgpfaa", sum := "a4101aa86e59bf9d28af5a08d3922793402a3706ba654ff515730ffe22346a73", func := "bobbin/bobbinlaw17.DataGrows", spec := "dataGrows", apart := false }
def DataGrowsSaid : Prop := dataGrowsRow.holds Try.pinned (OpenSpec.ofChange dataGrowsSpec)

/-- ITS FALSE NEIGHBOUR: 'it returns false'. Refute it at one input. -/
def dataGrowsWrong : ChangeSpec := { name := "dataGrows", fn := fun _ => fun
  | [d1, d2, d3, d4] => { results := [.lit (.bool false)], args := [d1, d2, d3, d4] }
  | _ => none }
def DataGrowsWrongFalsely : Prop := dataGrowsRow.holds Try.pinned (OpenSpec.ofChange dataGrowsWrong)

/- THE SECOND FORM. 'bulk': how many values and letters a reading holds, each counted each time it is reached (what is shared counts as often as it is met; a slice's spare places count too). A statement '..UptoSaid' is the law's where the arguments, and the package variables that the reading takes, are together of bulk at most 1048576: NARROWER than '..Said'. Prove '..Said' where nothing that the law and all that it calls make is longer than what came in: it says more and counts as full. Else prove '..UptoSaid'. A law counts once. -/
mutual
def uptoBulk {H : Type} : DataW H → Nat
  | .lit (.string bytes) => bytes.length + 1
  | .lit _ => 1
  | .nil => 1
  | .ptr d => uptoBulk d + 1
  | .slice elems spare => uptoBulkAll elems + uptoBulkAll spare + 1
  | .agg parts => uptoBulkAll parts + 1
  | .iface _ d => uptoBulk d + 1
  | .map entries => uptoBulkEntries entries + 1
  | .held _ => 1
def uptoBulkAll {H : Type} : List (DataW H) → Nat
  | [] => 0
  | d :: r => uptoBulk d + uptoBulkAll r
def uptoBulkEntries {H : Type} : List (Lit × DataW H) → Nat
  | [] => 0
  | x :: r => uptoBulkEntry x + uptoBulkEntries r
def uptoBulkEntry {H : Type} : Lit × DataW H → Nat
  | (.string bytes, d) => bytes.length + uptoBulk d + 1
  | (_, d) => uptoBulk d + 1
 end
def uptoSmall : (H : Type) → List (DataW H) → Bool := fun _ ds => decide (uptoBulkAll ds ≤ 1048576)
def OpenSpec.upto (s : _root_.Go.ChangeSpec) : _root_.Go.OpenSpec := { _root_.Go.OpenSpec.ofChange s with cond := some uptoSmall }

/-- 'bobbinlaw17.DataKeeps', WHERE WHAT IT READS IS OF BULK AT MOST 1048576: true; the input reads as it did. -/
def dataKeepsUptoRow : OpenClaim := { program := "ytclanebbalgpfaa", sum := "a4101aa86e59bf9d28af5a08d3922793402a3706ba654ff515730ffe22346a73", func := "bobbin/bobbinlaw17.DataKeeps", spec := "dataKeeps", apart := false, narrowed := true }
def DataKeepsUptoSaid : Prop := dataKeepsUptoRow.holds Try.pinned (OpenSpec.upto dataKeepsSpec)

/-- 'bobbinlaw17.DataAsks', WHERE WHAT IT READS IS OF BULK AT MOST 1048576: true; the input reads as it did. -/
def dataAsksUptoRow : OpenClaim := { program := "ytclanebbalgpfaa", sum := "a4101aa86e59bf9d28af5a08d3922793402a3706ba654ff515730ffe22346a73", func := "bobbin/bobbinlaw17.DataAsks", spec := "dataAsks", apart := false, narrowed := true }
def DataAsksUptoSaid : Prop := dataAsksUptoRow.holds Try.pinned (OpenSpec.upto dataAsksSpec)

/-- 'bobbinlaw17.DataItems', WHERE WHAT IT READS IS OF BULK AT MOST 1048576: true; the input reads as it did. -/
def dataItemsUptoRow : OpenClaim := { program := "ytclanebbalgpfaa", sum := "a4101aa86e59bf9d28af5a08d3922793402a3706ba654ff515730ffe22346a73", func := "bobbin/bobbinlaw17.DataItems", spec := "dataItems", unfollowed := true, recurses := true, apart := false, narrowed := true }
def DataItemsUptoSaid : Prop := dataItemsUptoRow.holds Try.pinned (OpenSpec.upto dataItemsSpec)

/-- 'bobbinlaw17.DataChecks', WHERE WHAT IT READS IS OF BULK AT MOST 1048576: true; the input reads as it did. -/
def dataChecksUptoRow : OpenClaim := { program := "ytclanebbalgpfaa", sum := "a4101aa86e59bf9d28af5a08d3922793402a3706ba654ff515730ffe22346a73", func := "bobbin/bobbinlaw17.DataChecks", spec := "dataChecks", apart := false, narrowed := true }
def DataChecksUptoSaid : Prop := dataChecksUptoRow.holds Try.pinned (OpenSpec.upto dataChecksSpec)

/-- 'bobbinlaw17.DataFinds', WHERE WHAT IT READS IS OF BULK AT MOST 1048576: true; the input reads as it did. -/
def dataFindsUptoRow : OpenClaim := { program := "ytclanebbalgpfaa", sum := "a4101aa86e59bf9d28af5a08d3922793402a3706ba654ff515730ffe22346a73", func := "bobbin/bobbinlaw17.DataFinds", spec := "dataFinds", apart := false, narrowed := true }
def DataFindsUptoSaid : Prop := dataFindsUptoRow.holds Try.pinned (OpenSpec.upto dataFindsSpec)

/-- 'bobbinlaw17.DataShapes', WHERE WHAT IT READS IS OF BULK AT MOST 1048576: true; the input reads as it did. -/
def dataShapesUptoRow : OpenClaim := { program := "ytclanebbalgpfaa", sum := "a4101aa86e59bf9d28af5a08d3922793402a3706ba654ff515730ffe22346a73", func := "bobbin/bobbinlaw17.DataShapes", spec := "dataShapes", apart := false, narrowed := true }
def DataShapesUptoSaid : Prop := dataShapesUptoRow.holds Try.pinned (OpenSpec.upto dataShapesSpec)

/-- 'bobbinlaw17.DataWays', WHERE WHAT IT READS IS OF BULK AT MOST 1048576: true; the input reads as it did. -/
def dataWaysUptoRow : OpenClaim := { program := "ytclanebbalgpfaa", sum := "a4101aa86e59bf9d28af5a08d3922793402a3706ba654ff515730ffe22346a73", func := "bobbin/bobbinlaw17.DataWays", spec := "dataWays", apart := false, narrowed := true }
def DataWaysUptoSaid : Prop := dataWaysUptoRow.holds Try.pinned (OpenSpec.upto dataWaysSpec)

/-- 'bobbinlaw17.DataGrows', WHERE WHAT IT READS IS OF BULK AT MOST 1048576: true; the input reads as it did. -/
def dataGrowsUptoRow : OpenClaim := { program := "ytclanebbalgpfaa", sum := "a4101aa86e59bf9d28af5a08d3922793402a3706ba654ff515730ffe22346a73", func := "bobbin/bobbinlaw17.DataGrows", spec := "dataGrows", apart := false, narrowed := true }
def DataGrowsUptoSaid : Prop := dataGrowsUptoRow.holds Try.pinned (OpenSpec.upto dataGrowsSpec)

end Rows
end Go.Proofs.Ytclanebbalgpfaa
