/-
  No cell of these rows narrows 'for every input' (looked for: loops, veiled, ifaces, maps, wideKeys, modest, calm, conditions, laid).
  DERIVED. THE GIVEN ROWS OF THIS SEAT. 7 by the template 'for every input the law returns true; each argument reads behind the call as it read before'; 0 by the template 'total and deterministic' (their statements: YtplmfnjijhppaaaTotals.lean).
  GIVEN WITH THE SEED: the statements are not yours to turn. If you find one false, say at which input.
  Laid BY PROGRAM, IN A SANDBOX (cutbox-rows.mjs): the forced cells as the released guide's own fill.sh prints them over the translation 7ffd0983e90559c2… (all of the seat's roots in one cut). By AI agents, Wed Nov 11 2026. No macro, syntax, notation, axiom, sorry.
-/
import Derived.Test.YtplmfnjijhppaaaChecked
import GoSem.Claim
import GoSem.ClaimJoined
import GoSem.ClaimMapViews
import Derived.JoinedTies
import Derived.KernelRfl
namespace Go.Proofs.Ytplmfnjijhppaaa
/- THE CELL 'sum', in the pinned program and in every row, IS THE sha256 OF THE DUMP (.gsa) THAT YtplmfnjijhppaaaProg.lean LOADS. Nothing in Lean hashes anything: it is a label: what it is worth is what the hold of that sum in a sandbox is worth. -/
noncomputable def Try.pinned : Pinned := { name := "ytplmfnjijhppaaa", sum := "7ffd0983e90559c2eb340bb6752772aa7a937e2fa025ef7808f51c69ae88cf5b", checked := Try.checked }
namespace Rows
def none {H : Type} : Left H := { results := [], args := [] }

/-- 'weathercocklaw02.RowBytes': WHATEVER THE INPUT: true; the input reads as it did. -/
def rowBytesSpec : ChangeSpec := { name := "rowBytes", fn := fun _ => fun
  | [d1, d2] => { results := [.lit (.bool true)], args := [d1, d2] }
  | _ => none }
def rowBytesRow : OpenClaim := { program := "ytplmfnjijhppaaa", sum := "7ffd0983e90559c2eb340bb6752772aa7a937e2fa025ef7808f51c69ae88cf5b", func := "weathercock/weathercocklaw02.RowBytes", spec := "rowBytes", unfollowed := true, recurses := true, apart := false }
def RowBytesSaid : Prop := rowBytesRow.holds Try.pinned (OpenSpec.ofChange rowBytesSpec)

/-- ITS FALSE NEIGHBOUR: 'it returns false'. Refute it at one input. -/
def rowBytesWrong : ChangeSpec := { name := "rowBytes", fn := fun _ => fun
  | [d1, d2] => { results := [.lit (.bool false)], args := [d1, d2] }
  | _ => none }
def RowBytesWrongFalsely : Prop := rowBytesRow.holds Try.pinned (OpenSpec.ofChange rowBytesWrong)

/-- 'weathercocklaw02.RowBack': WHATEVER THE INPUT: true; the input reads as it did. -/
def rowBackSpec : ChangeSpec := { name := "rowBack", fn := fun _ => fun
  | [d1, d2] => { results := [.lit (.bool true)], args := [d1, d2] }
  | _ => none }
def rowBackRow : OpenClaim := { program := "ytplmfnjijhppaaa", sum := "7ffd0983e90559c2eb340bb6752772aa7a937e2fa025ef7808f51c69ae88cf5b", func := "weathercock/weathercocklaw02.RowBack", spec := "rowBack", unfollowed := true, recurses := true, apart := false }
def RowBackSaid : Prop := rowBackRow.holds Try.pinned (OpenSpec.ofChange rowBackSpec)

/-- ITS FALSE NEIGHBOUR: 'it returns false'. Refute it at one input. -/
def rowBackWrong : ChangeSpec := { name := "rowBack", fn := fun _ => fun
  | [d1, d2] => { results := [.lit (.bool false)], args := [d1, d2] }
  | _ => none }
def RowBackWrongFalsely : Prop := rowBackRow.holds Try.pinned (OpenSpec.ofChange rowBackWrong)

/-- 'weathercocklaw02.RowOne': WHATEVER THE INPUT: true; the input reads as it did. -/
def rowOneSpec : ChangeSpec := { name := "rowOne", fn := fun _ => fun
  | [d1, d2] => { results := [.lit (.bool true)], args := [d1, d2] }
  | _ => none }
def rowOneRow : OpenClaim := { program := "ytplmfnjijhppaaa", sum := "7ffd0983e90559c2eb340bb6752772aa7a937e2fa025ef7808f51c69ae88cf5b", func := "weathercock/weathercocklaw02.RowOne", spec := "rowOne", unfollowed := true, recurses := true, apart := false }
def RowOneSaid : Prop := rowOneRow.holds Try.pinned (OpenSpec.ofChange rowOneSpec)

/-- ITS FALSE NEIGHBOUR: 'it returns false'. Refute it at one input. -/
def rowOneWrong : ChangeSpec := { name := "rowOne", fn := fun _ => fun
  | [d1, d2] => { results := [.lit (.bool false)], args := [d1, d2] }
  | _ => none }
def RowOneWrongFalsely : Prop := rowOneRow.holds Try.pinned (OpenSpec.ofChange rowOneWrong)

/-- 'weathercocklaw02.RowTwo': WHATEVER THE INPUT: true; the input reads as it did. -/
def rowTwoSpec : ChangeSpec := { name := "rowTwo", fn := fun _ => fun
  | [d1, d2] => { results := [.lit (.bool true)], args := [d1, d2] }
  | _ => none }
def rowTwoRow : OpenClaim := { program := "ytplmfnjijhppaaa", sum := "7ffd0983e90559c2eb340bb6752772aa7a937e2fa025ef7808f51c69ae88cf5b", func := "weathercock/weathercocklaw02.RowTwo", spec := "rowTwo", unfollowed := true, recurses := true, apart := false }
def RowTwoSaid : Prop := rowTwoRow.holds Try.pinned (OpenSpec.ofChange rowTwoSpec)

/-- ITS FALSE NEIGHBOUR: 'it returns false'. Refute it at one input. -/
def rowTwoWrong : ChangeSpec := { name := "rowTwo", fn := fun _ => fun
  | [d1, d2] => { results := [.lit (.bool false)], args := [d1, d2] }
  | _ => none }
def RowTwoWrongFalsely : Prop := rowTwoRow.holds Try.pinned (OpenSpec.ofChange rowTwoWrong)

/-- 'weathercocklaw02.RowSizes': WHATEVER THE INPUT: true; the input reads as it did. -/
def rowSizesSpec : ChangeSpec := { name := "rowSizes", fn := fun _ => fun
  | [d] => { results := [.lit (.bool true)], args := [d] }
  | _ => none }
def rowSizesRow : OpenClaim := { program := "ytplmfnjijhppaaa", sum := "7ffd0983e90559c2eb340bb6752772aa7a937e2fa025ef7808f51c69ae88cf5b", func := "weathercock/weathercocklaw02.RowSizes", spec := "rowSizes", unfollowed := true, recurses := true, apart := false }
def RowSizesSaid : Prop := rowSizesRow.holds Try.pinned (OpenSpec.ofChange rowSizesSpec)

/-- ITS FALSE NEIGHBOUR: 'it returns false'. Refute it at one input. -/
def rowSizesWrong : ChangeSpec := { name := "rowSizes", fn := fun _ => fun
  | [d] => { results := [.lit (.bool false)], args := [d] }
  | _ => none }
def RowSizesWrongFalsely : Prop := rowSizesRow.holds Try.pinned (OpenSpec.ofChange rowSizesWrong)

/-- 'weathercocklaw02.RowSorts': WHATEVER THE INPUT: true; the input reads as it did. -/
def rowSortsSpec : ChangeSpec := { name := "rowSorts", fn := fun _ => fun
  | [d1, d2, d3] => { results := [.lit (.bool true)], args := [d1, d2, d3] }
  | _ => none }
def rowSortsRow : OpenClaim := { program := "ytplmfnjijhppaaa", sum := "7ffd0983e90559c2eb340bb6752772aa7a937e2fa025ef7808f51c69ae88cf5b", func := "weathercock/weathercocklaw02.RowSorts", spec := "rowSorts", unfollowed := true, recurses := true, apart := false }
def RowSortsSaid : Prop := rowSortsRow.holds Try.pinned (OpenSpec.ofChange rowSortsSpec)

/-- ITS FALSE NEIGHBOUR: 'it returns false'. Refute it at one input. -/
def rowSortsWrong : ChangeSpec := { name := "rowSorts", fn := fun _ => fun
  | [d1, d2, d3] => { results := [.lit (.bool false)], args := [d1, d2, d3] }
  | _ => none }
def RowSortsWrongFalsely : Prop := rowSortsRow.holds Try.pinned (OpenSpec.ofChange rowSortsWrong)

/-- 'weathercocklaw02.RowAny': WHATEVER THE INPUT: true; the input reads as it did. -/
def rowAnySpec : ChangeSpec := { name := "rowAny", fn := fun _ => fun
  | [d] => { results := [.lit (.bool true)], args := [d] }
  | _ => none }
def rowAnyRow : OpenClaim := { program := "ytplmfnjijhppaaa", sum := "7ffd0983e90559c2eb340bb6752772aa7a937e2fa025ef7808f51c69ae88cf5b", func := "weathercock/weathercocklaw02.RowAny", spec := "rowAny", unfollowed := true, recurses := true, apart := false }
def RowAnySaid : Prop := rowAnyRow.holds Try.pinned (OpenSpec.ofChange rowAnySpec)

/-- ITS FALSE NEIGHBOUR: 'it returns false'. Refute it at one input. -/
def rowAnyWrong : ChangeSpec := { name := "rowAny", fn := fun _ => fun
  | [d] => { results := [.lit (.bool false)], args := [d] }
  | _ => none }
def RowAnyWrongFalsely : Prop := rowAnyRow.holds Try.pinned (OpenSpec.ofChange rowAnyWrong)

/- THE SECOND FORM. 'bulk': how many values and letters a reading holds, each counted each time it is reached (what is shared counts as often as it is met; a slice's spare places count too). A statement '..UptoSaid' is the law's where the arguments, and the package variables that the reading takes, are together of bulk at most 1048576: NARROWER than '..Said'. Prove '..Said' where nothing that the law and all that it calls make is longer than what came in: it says more and counts as full. Else prove '..UptoSaid'. A law counts once. -/
mutual
def uptoBulk {H : Type} : DataW H → Nat
  | .lit (.string bytes) => bytes.length + 1
  | .lit _ => 1
  | .nil => 1
  | .ptr d => uptoBulk d + 1
  | .slice elems spare => uptoBulkAll elems + uptoBulkAll spare + 1
  | .agg parts => uptoBulkAll parts + 1
  | .iface _ d => uptoBulk d + 1
  | .map entries => uptoBulkEntries entries + 1
  | .held _ => 1
def uptoBulkAll {H : Type} : List (DataW H) → Nat
  | [] => 0
  | d :: r => uptoBulk d + uptoBulkAll r
def uptoBulkEntries {H : Type} : List (Lit × DataW H) → Nat
  | [] => 0
  | x :: r => uptoBulkEntry x + uptoBulkEntries r
def uptoBulkEntry {H : Type} : Lit × DataW H → Nat
  | (.string bytes, d) => bytes.length + uptoBulk d + 1
  | (_, d) => uptoBulk d + 1
 end
def uptoSmall : (H : Type) → List (DataW H) → Bool := fun _ ds => decide (uptoBulkAll ds ≤ 1048576)
def OpenSpec.upto (s : _root_.Go.ChangeSpec) : _root_.Go.OpenSpec := { _root_.Go.OpenSpec.ofChange s with cond := some uptoSmall }

/-- 'weathercocklaw02.RowBytes', WHERE WHAT IT READS IS OF BULK AT MOST 1048576: true; the input reads as it did. -/
def rowBytesUptoRow : OpenClaim := { program := "ytplmfnjijhppaaa", sum := "7ffd0983e90559c2eb340bb6752772aa7a937e2fa025ef7808f51c69ae88cf5b", func := "weathercock/weathercocklaw02.RowBytes", spec := "rowBytes", unfollowed := true, recurses := true, apart := false, narrowed := true }
def RowBytesUptoSaid : Prop := rowBytesUptoRow.holds Try.pinned (OpenSpec.upto rowBytesSpec)

/-- 'weathercocklaw02.RowBack', WHERE WHAT IT READS IS OF BULK AT MOST 1048576: true; the input reads as it did. -/
def rowBackUptoRow : OpenClaim := { program := "ytplmfnjijhppaaa", sum := "7ffd0983e90559c2eb340bb6752772aa7a937e2fa025ef7808f51c69ae88cf5b", func := "weathercock/weathercocklaw02.RowBack", spec := "rowBack", unfollowed := true, recurses := true, apart := false, narrowed := true }
def RowBackUptoSaid : Prop := rowBackUptoRow.holds Try.pinned (OpenSpec.upto rowBackSpec)

/-- 'weathercocklaw02.RowOne', WHERE WHAT IT READS IS OF BULK AT MOST 1048576: true; the input reads as it did. -/
def rowOneUptoRow : OpenClaim := { program := "ytplmfnjijhppaaa", sum := "7ffd0983e90559c2eb340bb6752772aa7a937e2fa025ef7808f51c69ae88cf5b", func := "weathercock/weathercocklaw02.RowOne", spec := "rowOne", unfollowed := true, recurses := true, apart := false, narrowed := true }
def RowOneUptoSaid : Prop := rowOneUptoRow.holds Try.pinned (OpenSpec.upto rowOneSpec)

/-- 'weathercocklaw02.RowTwo', WHERE WHAT IT READS IS OF BULK AT MOST 1048576: true; the input reads as it did. -/
def rowTwoUptoRow : OpenClaim := { program := "ytplmfnjijhppaaa", sum := "7ffd0983e90559c2eb340bb6752772aa7a937e2fa025ef7808f51c69ae88cf5b", func := "weathercock/weathercocklaw02.RowTwo", spec := "rowTwo", unfollowed := true, recurses := true, apart := false, narrowed := true }
def RowTwoUptoSaid : Prop := rowTwoUptoRow.holds Try.pinned (OpenSpec.upto rowTwoSpec)

/-- 'weathercocklaw02.RowSizes', WHERE WHAT IT READS IS OF BULK AT MOST 1048576: true; the input reads as it did. -/
def rowSizesUptoRow : OpenClaim := { program := "ytplmfnjijhppaaa", sum := "7ffd0983e90559c2eb340bb6752772aa7a937e2fa025ef7808f51c69ae88cf5b", func := "weathercock/weathercocklaw02.RowSizes", spec := "rowSizes", unfollowed := true, recurses := true, apart := false, narrowed := true }
def RowSizesUptoSaid : Prop := rowSizesUptoRow.holds Try.pinned (OpenSpec.upto rowSizesSpec)

/-- 'weathercocklaw02.RowSorts', WHERE WHAT IT READS IS OF BULK AT MOST 1048576: true; the input reads as it did. -/
def rowSortsUptoRow : OpenClaim := { program := "ytplmfnjijhppaaa", sum := "7ffd0983e90559c2eb340bb6752772aa7a937e2fa025ef7808f51c69ae88cf5b", func := "weathercock/weathercocklaw02.RowSorts", spec := "rowSorts", unfollowed := true, recurses := true, apart := false, narrowed := true }
def RowSortsUptoSaid : Prop := rowSortsUptoRow.holds Try.pinned (OpenSpec.upto rowSortsSpec)

/-- 'weathercocklaw02.RowAny', WHERE WHAT IT READS IS OF BULK AT MOST 1048576: true; the input reads as it did. -/
def rowAnyUptoRow : OpenClaim := { program := "ytplmfnjijhppaaa", sum := "7ffd0983e90559c2eb340bb6752772aa7a937e2fa025ef7808f51c69ae88cf5b", func := "weathercock/weathercocklaw02.RowAny", spec := "rowAny", unfollowed := true, recurses := true, apart := false, narrowed := true }
def RowAnyUptoSaid : Prop := rowAnyUptoRow.holds Try.pinned (OpenSpec.upto rowAnySpec)

end Rows
end Go.Proofs.Ytplmfnjijhppaaa
