/-
  No cell of these rows narrows 'for every input' (looked for: loops, veiled, ifaces, maps, wideKeys, modest, calm, conditions, laid).
  DERIVED. THE GIVEN ROWS OF THIS SEAT. 6 by the template 'for every input the law returns true; each argument reads behind the call as it read before'; 0 by the template 'total and deterministic' (their statements: YtlhpldhejhfkaaaTotals.lean).
  GIVEN WITH THE SEED: the statements are not yours to turn. If you find one false, say at which input.
  Laid BY PROGRAM, IN A SANDBOX (cutbox-rows.mjs): the forced cells as the released guide's own fill.sh prints them over the translation dbc92d1deea4711a… (all of the seat's roots in one cut). By AI agents, Wed Nov 11 2026. No macro, syntax, notation, axiom, sorry.
-/
import Derived.Test.YtlhpldhejhfkaaaChecked
import GoSem.Claim
import GoSem.ClaimJoined
import GoSem.ClaimMapViews
import Derived.JoinedTies
import Derived.KernelRfl
namespace Go.Proofs.Ytlhpldhejhfkaaa
/- THE CELL 'sum', in the pinned program and in every row, IS THE sha256 OF THE DUMP (.gsa) THAT YtlhpldhejhfkaaaProg.lean LOADS. Nothing in Lean hashes anything: it is a label: what it is worth is what the hold of that sum in a sandbox is worth. -/
noncomputable def Try.pinned : Pinned := { name := "ytlhpldhejhfkaaa", sum := "dbc92d1deea4711a9074145b2d15e35aeaa1e2ab3243b85cc79b3f4b92e80163", checked := Try.checked }
namespace Rows
def none {H : Type} : Left H := { results := [], args := [] }

/-- 'weathercocklaw13.HistReckons': WHATEVER THE INPUT: true; the input reads as it did. -/
def histReckonsSpec : ChangeSpec := { name := "histReckons", fn := fun _ => fun
  | [d1, d2, d3] => { results := [.lit (.bool true)], args := [d1, d2, d3] }
  | _ => none }
def histReckonsRow : OpenClaim := { program := "ytlhpldhejhfkaaa", sum := "dbc92d1deea4711a9074145b2d15e35aeaa1e2ab3243b85cc79b3f4b92e80163", func := "weathercock/weathercocklaw13.HistReckons", spec := "histReckons", unfollowed := true, recurses := true, apart := false }
def HistReckonsSaid : Prop := histReckonsRow.holds Try.pinned (OpenSpec.ofChange histReckonsSpec)

/-- ITS FALSE NEIGHBOUR: 'it returns false'. Refute it at one input. -/
def histReckonsWrong : ChangeSpec := { name := "histReckons", fn := fun _ => fun
  | [d1, d2, d3] => { results := [.lit (.bool false)], args := [d1, d2, d3] }
  | _ => none }
def HistReckonsWrongFalsely : Prop := histReckonsRow.holds Try.pinned (OpenSpec.ofChange histReckonsWrong)

/-- 'weathercocklaw13.HistParts': WHATEVER THE INPUT: true; the input reads as it did. -/
def histPartsSpec : ChangeSpec := { name := "histParts", fn := fun _ => fun
  | [d1, d2, d3, d4] => { results := [.lit (.bool true)], args := [d1, d2, d3, d4] }
  | _ => none }
def histPartsRow : OpenClaim := { program := "ytlhpldhejhfkaaa", sum := "dbc92d1deea4711a9074145b2d15e35aeaa1e2ab3243b85cc79b3f4b92e80163", func := "weathercock/weathercocklaw13.HistParts", spec := "histParts", unfollowed := true, recurses := true, apart := false }
def HistPartsSaid : Prop := histPartsRow.holds Try.pinned (OpenSpec.ofChange histPartsSpec)

/-- ITS FALSE NEIGHBOUR: 'it returns false'. Refute it at one input. -/
def histPartsWrong : ChangeSpec := { name := "histParts", fn := fun _ => fun
  | [d1, d2, d3, d4] => { results := [.lit (.bool false)], args := [d1, d2, d3, d4] }
  | _ => none }
def HistPartsWrongFalsely : Prop := histPartsRow.holds Try.pinned (OpenSpec.ofChange histPartsWrong)

/-- 'weathercocklaw13.HistHeld': WHATEVER THE INPUT: true; the input reads as it did. -/
def histHeldSpec : ChangeSpec := { name := "histHeld", fn := fun _ => fun
  | [d1, d2, d3] => { results := [.lit (.bool true)], args := [d1, d2, d3] }
  | _ => none }
def histHeldRow : OpenClaim := { program := "ytlhpldhejhfkaaa", sum := "dbc92d1deea4711a9074145b2d15e35aeaa1e2ab3243b85cc79b3f4b92e80163", func := "weathercock/weathercocklaw13.HistHeld", spec := "histHeld", unfollowed := true, recurses := true, apart := false }
def HistHeldSaid : Prop := histHeldRow.holds Try.pinned (OpenSpec.ofChange histHeldSpec)

/-- ITS FALSE NEIGHBOUR: 'it returns false'. Refute it at one input. -/
def histHeldWrong : ChangeSpec := { name := "histHeld", fn := fun _ => fun
  | [d1, d2, d3] => { results := [.lit (.bool false)], args := [d1, d2, d3] }
  | _ => none }
def HistHeldWrongFalsely : Prop := histHeldRow.holds Try.pinned (OpenSpec.ofChange histHeldWrong)

/-- 'weathercocklaw13.HistWhole': WHATEVER THE INPUT: true; the input reads as it did. -/
def histWholeSpec : ChangeSpec := { name := "histWhole", fn := fun _ => fun
  | [d1, d2, d3] => { results := [.lit (.bool true)], args := [d1, d2, d3] }
  | _ => none }
def histWholeRow : OpenClaim := { program := "ytlhpldhejhfkaaa", sum := "dbc92d1deea4711a9074145b2d15e35aeaa1e2ab3243b85cc79b3f4b92e80163", func := "weathercock/weathercocklaw13.HistWhole", spec := "histWhole", unfollowed := true, recurses := true, apart := false }
def HistWholeSaid : Prop := histWholeRow.holds Try.pinned (OpenSpec.ofChange histWholeSpec)

/-- ITS FALSE NEIGHBOUR: 'it returns false'. Refute it at one input. -/
def histWholeWrong : ChangeSpec := { name := "histWhole", fn := fun _ => fun
  | [d1, d2, d3] => { results := [.lit (.bool false)], args := [d1, d2, d3] }
  | _ => none }
def HistWholeWrongFalsely : Prop := histWholeRow.holds Try.pinned (OpenSpec.ofChange histWholeWrong)

/-- 'weathercocklaw13.HistOrder': WHATEVER THE INPUT: true; the input reads as it did. -/
def histOrderSpec : ChangeSpec := { name := "histOrder", fn := fun _ => fun
  | [d1, d2, d3] => { results := [.lit (.bool true)], args := [d1, d2, d3] }
  | _ => none }
def histOrderRow : OpenClaim := { program := "ytlhpldhejhfkaaa", sum := "dbc92d1deea4711a9074145b2d15e35aeaa1e2ab3243b85cc79b3f4b92e80163", func := "weathercock/weathercocklaw13.HistOrder", spec := "histOrder", unfollowed := true, recurses := true, apart := false }
def HistOrderSaid : Prop := histOrderRow.holds Try.pinned (OpenSpec.ofChange histOrderSpec)

/-- ITS FALSE NEIGHBOUR: 'it returns false'. Refute it at one input. -/
def histOrderWrong : ChangeSpec := { name := "histOrder", fn := fun _ => fun
  | [d1, d2, d3] => { results := [.lit (.bool false)], args := [d1, d2, d3] }
  | _ => none }
def HistOrderWrongFalsely : Prop := histOrderRow.holds Try.pinned (OpenSpec.ofChange histOrderWrong)

/-- 'weathercocklaw13.HistSums': WHATEVER THE INPUT: true; the input reads as it did. -/
def histSumsSpec : ChangeSpec := { name := "histSums", fn := fun _ => fun
  | [d1, d2] => { results := [.lit (.bool true)], args := [d1, d2] }
  | _ => none }
def histSumsRow : OpenClaim := { program := "ytlhpldhejhfkaaa", sum := "dbc92d1deea4711a9074145b2d15e35aeaa1e2ab3243b85cc79b3f4b92e80163", func := "weathercock/weathercocklaw13.HistSums", spec := "histSums", unfollowed := true, recurses := true, apart := false }
def HistSumsSaid : Prop := histSumsRow.holds Try.pinned (OpenSpec.ofChange histSumsSpec)

/-- ITS FALSE NEIGHBOUR: 'it returns false'. Refute it at one input. -/
def histSumsWrong : ChangeSpec := { name := "histSums", fn := fun _ => fun
  | [d1, d2] => { results := [.lit (.bool false)], args := [d1, d2] }
  | _ => none }
def HistSumsWrongFalsely : Prop := histSumsRow.holds Try.pinned (OpenSpec.ofChange histSumsWrong)

/- THE SECOND FORM. 'bulk': how many values and letters a reading holds, each counted each time it is reached (what is shared counts as often as it is met; a slice's spare places count too). A statement '..UptoSaid' is the law's where the arguments, and the package variables that the reading takes, are together of bulk at most 1048576: NARROWER than '..Said'. Prove '..Said' where nothing that the law and all that it calls make is longer than what came in: it says more and counts as full. Else prove '..UptoSaid'. A law counts once. -/
mutual
def uptoBulk {H : Type} : DataW H → Nat
  | .lit (.string bytes) => bytes.length + 1
  | .lit _ => 1
  | .nil => 1
  | .ptr d => uptoBulk d + 1
  | .slice elems spare => uptoBulkAll elems + uptoBulkAll spare + 1
  | .agg parts => uptoBulkAll parts + 1
  | .iface _ d => uptoBulk d + 1
  | .map entries => uptoBulkEntries entries + 1
  | .held _ => 1
def uptoBulkAll {H : Type} : List (DataW H) → Nat
  | [] => 0
  | d :: r => uptoBulk d + uptoBulkAll r
def uptoBulkEntries {H : Type} : List (Lit × DataW H) → Nat
  | [] => 0
  | x :: r => uptoBulkEntry x + uptoBulkEntries r
def uptoBulkEntry {H : Type} : Lit × DataW H → Nat
  | (.string bytes, d) => bytes.length + uptoBulk d + 1
  | (_, d) => uptoBulk d + 1
 end
def uptoSmall : (H : Type) → List (DataW H) → Bool := fun _ ds => decide (uptoBulkAll ds ≤ 1048576)
def OpenSpec.upto (s : _root_.Go.ChangeSpec) : _root_.Go.OpenSpec := { _root_.Go.OpenSpec.ofChange s with cond := some uptoSmall }

/-- 'weathercocklaw13.HistReckons', WHERE WHAT IT READS IS OF BULK AT MOST 1048576: true; the input reads as it did. -/
def histReckonsUptoRow : OpenClaim := { program := "ytlhpldhejhfkaaa", sum := "dbc92d1deea4711a9074145b2d15e35aeaa1e2ab3243b85cc79b3f4b92e80163", func := "weathercock/weathercocklaw13.HistReckons", spec := "histReckons", unfollowed := true, recurses := true, apart := false, narrowed := true }
def HistReckonsUptoSaid : Prop := histReckonsUptoRow.holds Try.pinned (OpenSpec.upto histReckonsSpec)

/-- 'weathercocklaw13.HistParts', WHERE WHAT IT READS IS OF BULK AT MOST 1048576: true; the input reads as it did. -/
def histPartsUptoRow : OpenClaim := { program := "ytlhpldhejhfkaaa", sum := "dbc92d1deea4711a9074145b2d15e35aeaa1e2ab3243b85cc79b3f4b92e80163", func := "weathercock/weathercocklaw13.HistParts", spec := "histParts", unfollowed := true, recurses := true, apart := false, narrowed := true }
def HistPartsUptoSaid : Prop := histPartsUptoRow.holds Try.pinned (OpenSpec.upto histPartsSpec)

/-- 'weathercocklaw13.HistHeld', WHERE WHAT IT READS IS OF BULK AT MOST 1048576: true; the input reads as it did. -/
def histHeldUptoRow : OpenClaim := { program := "ytlhpldhejhfkaaa", sum := "dbc92d1deea4711a9074145b2d15e35aeaa1e2ab3243b85cc79b3f4b92e80163", func := "weathercock/weathercocklaw13.HistHeld", spec := "histHeld", unfollowed := true, recurses := true, apart := false, narrowed := true }
def HistHeldUptoSaid : Prop := histHeldUptoRow.holds Try.pinned (OpenSpec.upto histHeldSpec)

/-- 'weathercocklaw13.HistWhole', WHERE WHAT IT READS IS OF BULK AT MOST 1048576: true; the input reads as it did. -/
def histWholeUptoRow : OpenClaim := { program := "ytlhpldhejhfkaaa", sum := "dbc92d1deea4711a9074145b2d15e35aeaa1e2ab3243b85cc79b3f4b92e80163", func := "weathercock/weathercocklaw13.HistWhole", spec := "histWhole", unfollowed := true, recurses := true, apart := false, narrowed := true }
def HistWholeUptoSaid : Prop := histWholeUptoRow.holds Try.pinned (OpenSpec.upto histWholeSpec)

/-- 'weathercocklaw13.HistOrder', WHERE WHAT IT READS IS OF BULK AT MOST 1048576: true; the input reads as it did. -/
def histOrderUptoRow : OpenClaim := { program := "ytlhpldhejhfkaaa", sum := "dbc92d1deea4711a9074145b2d15e35aeaa1e2ab3243b85cc79b3f4b92e80163", func := "weathercock/weathercocklaw13.HistOrder", spec := "histOrder", unfollowed := true, recurses := true, apart := false, narrowed := true }
def HistOrderUptoSaid : Prop := histOrderUptoRow.holds Try.pinned (OpenSpec.upto histOrderSpec)

/-- 'weathercocklaw13.HistSums', WHERE WHAT IT READS IS OF BULK AT MOST 1048576: true; the input reads as it did. -/
def histSumsUptoRow : OpenClaim := { program := "ytlhpldhejhfkaaa", sum := "dbc92d1deea4711a9074145b2d15e35aeaa1e2ab3243b85cc79b3f4b92e80163", func := "weathercock/weathercocklaw13.HistSums", spec := "histSums", unfollowed := true, recurses := true, apart := false, narrowed := true }
def HistSumsUptoSaid : Prop := histSumsUptoRow.holds Try.pinned (OpenSpec.upto histSumsSpec)

end Rows
end Go.Proofs.Ytlhpldhejhfkaaa
