/-
  No cell of these rows narrows 'for every input' (looked for: loops, veiled, ifaces, maps, wideKeys, modest, calm, conditions, laid).
  DERIVED. THE GIVEN ROWS OF THIS SEAT. 4 by the template 'for every input the law returns true; each argument reads behind the call as it read before'; 0 by the template 'total and deterministic' (their statements: YtfppafpkppjmlaaTotals.lean).
  GIVEN WITH THE SEED: the statements are not yours to turn. If you find one false, say at which input.
  Laid BY PROGRAM, IN A SANDBOX (cutbox-rows.mjs): the forced cells as the released guide's own fill.sh prints them over the translation e75aeede4bb3d130… (all of the seat's roots in one cut). By AI agents, Wed Nov 11 2026. No macro, syntax, notation, axiom, sorry.
-/
import Derived.Test.YtfppafpkppjmlaaChecked
import GoSem.Claim
import GoSem.ClaimJoined
import GoSem.ClaimMapViews
import Derived.JoinedTies
import Derived.KernelRfl
namespace Go.Proofs.Ytfppafpkppjmlaa
/- THE CELL 'sum', in the pinned program and in every row, IS THE sha256 OF THE DUMP (.gsa) THAT YtfppafpkppjmlaaProg.lean LOADS. Nothing in Lean hashes anything: it is a label: what it is worth is what the hold of that sum in a sandbox is worth. -/
noncomputable def Try.pinned : Pinned := { name := "ytfppafpkppjmlaa", sum := "e75aeede4bb3d130d8865beb5858b7eefb922af278a5474f46734bcfeb05b719", checked := Try.checked }
namespace Rows
def none {H : Type} : Left H := { results := [], args := [] }

/-- 'weathercocklaw15.FeedRoom': WHATEVER THE INPUT: true; the input reads as it did. -/
def feedRoomSpec : ChangeSpec := { name := "feedRoom", fn := fun _ => fun
  | [d1, d2, d3] => { results := [.lit (.bool true)], args := [d1, d2, d3] }
  | _ => none }
def feedRoomRow : OpenClaim := { program := "ytfppafpkppjmlaa", sum := "e75aeede4bb3d130d8865beb5858b7eefb922af278a5474f46734bcfeb05b719", func := "weathercock/weathercocklaw15.FeedRoom", spec := "feedRoom", unfollowed := true, recurses := true, apart := false }
def FeedRoomSaid : Prop := feedRoomRow.holds Try.pinned (OpenSpec.ofChange feedRoomSpec)

/-- ITS FALSE NEIGHBOUR: 'it returns false'. Refute it at one input. -/
def feedRoomWrong : ChangeSpec := { name := "feedRoom", fn := fun _ => fun
  | [d1, d2, d3] => { results := [.lit (.bool false)], args := [d1, d2, d3] }
  | _ => none }
def FeedRoomWrongFalsely : Prop := feedRoomRow.holds Try.pinned (OpenSpec.ofChange feedRoomWrong)

/-- 'weathercocklaw15.FeedPlays': WHATEVER THE INPUT: true; the input reads as it did. -/
def feedPlaysSpec : ChangeSpec := { name := "feedPlays", fn := fun _ => fun
  | [d1, d2, d3, d4] => { results := [.lit (.bool true)], args := [d1, d2, d3, d4] }
  | _ => none }
def feedPlaysRow : OpenClaim := { program := "ytfppafpkppjmlaa", sum := "e75aeede4bb3d130d8865beb5858b7eefb922af278a5474f46734bcfeb05b719", func := "weathercock/weathercocklaw15.FeedPlays", spec := "feedPlays", unfollowed := true, recurses := true, apart := false }
def FeedPlaysSaid : Prop := feedPlaysRow.holds Try.pinned (OpenSpec.ofChange feedPlaysSpec)

/-- ITS FALSE NEIGHBOUR: 'it returns false'. Refute it at one input. -/
def feedPlaysWrong : ChangeSpec := { name := "feedPlays", fn := fun _ => fun
  | [d1, d2, d3, d4] => { results := [.lit (.bool false)], args := [d1, d2, d3, d4] }
  | _ => none }
def FeedPlaysWrongFalsely : Prop := feedPlaysRow.holds Try.pinned (OpenSpec.ofChange feedPlaysWrong)

/-- 'weathercocklaw15.FeedNewest': WHATEVER THE INPUT: true; the input reads as it did. -/
def feedNewestSpec : ChangeSpec := { name := "feedNewest", fn := fun _ => fun
  | [d1, d2] => { results := [.lit (.bool true)], args := [d1, d2] }
  | _ => none }
def feedNewestRow : OpenClaim := { program := "ytfppafpkppjmlaa", sum := "e75aeede4bb3d130d8865beb5858b7eefb922af278a5474f46734bcfeb05b719", func := "weathercock/weathercocklaw15.FeedNewest", spec := "feedNewest", unfollowed := true, recurses := true, apart := false }
def FeedNewestSaid : Prop := feedNewestRow.holds Try.pinned (OpenSpec.ofChange feedNewestSpec)

/-- ITS FALSE NEIGHBOUR: 'it returns false'. Refute it at one input. -/
def feedNewestWrong : ChangeSpec := { name := "feedNewest", fn := fun _ => fun
  | [d1, d2] => { results := [.lit (.bool false)], args := [d1, d2] }
  | _ => none }
def FeedNewestWrongFalsely : Prop := feedNewestRow.holds Try.pinned (OpenSpec.ofChange feedNewestWrong)

/-- 'weathercocklaw15.FeedGets': WHATEVER THE INPUT: true; the input reads as it did. -/
def feedGetsSpec : ChangeSpec := { name := "feedGets", fn := fun _ => fun
  | [d1, d2, d3] => { results := [.lit (.bool true)], args := [d1, d2, d3] }
  | _ => none }
def feedGetsRow : OpenClaim := { program := "ytfppafpkppjmlaa", sum := "e75aeede4bb3d130d8865beb5858b7eefb922af278a5474f46734bcfeb05b719", func := "weathercock/weathercocklaw15.FeedGets", spec := "feedGets", unfollowed := true, recurses := true, apart := false }
def FeedGetsSaid : Prop := feedGetsRow.holds Try.pinned (OpenSpec.ofChange feedGetsSpec)

/-- ITS FALSE NEIGHBOUR: 'it returns false'. Refute it at one input. -/
def feedGetsWrong : ChangeSpec := { name := "feedGets", fn := fun _ => fun
  | [d1, d2, d3] => { results := [.lit (.bool false)], args := [d1, d2, d3] }
  | _ => none }
def FeedGetsWrongFalsely : Prop := feedGetsRow.holds Try.pinned (OpenSpec.ofChange feedGetsWrong)

/- THE SECOND FORM. 'bulk': how many values and letters a reading holds, each counted each time it is reached (what is shared counts as often as it is met; a slice's spare places count too). A statement '..UptoSaid' is the law's where the arguments, and the package variables that the reading takes, are together of bulk at most 1048576: NARROWER than '..Said'. Prove '..Said' where nothing that the law and all that it calls make is longer than what came in: it says more and counts as full. Else prove '..UptoSaid'. A law counts once. -/
mutual
def uptoBulk {H : Type} : DataW H → Nat
  | .lit (.string bytes) => bytes.length + 1
  | .lit _ => 1
  | .nil => 1
  | .ptr d => uptoBulk d + 1
  | .slice elems spare => uptoBulkAll elems + uptoBulkAll spare + 1
  | .agg parts => uptoBulkAll parts + 1
  | .iface _ d => uptoBulk d + 1
  | .map entries => uptoBulkEntries entries + 1
  | .held _ => 1
def uptoBulkAll {H : Type} : List (DataW H) → Nat
  | [] => 0
  | d :: r => uptoBulk d + uptoBulkAll r
def uptoBulkEntries {H : Type} : List (Lit × DataW H) → Nat
  | [] => 0
  | x :: r => uptoBulkEntry x + uptoBulkEntries r
def uptoBulkEntry {H : Type} : Lit × DataW H → Nat
  | (.string bytes, d) => bytes.length + uptoBulk d + 1
  | (_, d) => uptoBulk d + 1
 end
def uptoSmall : (H : Type) → List (DataW H) → Bool := fun _ ds => decide (uptoBulkAll ds ≤ 1048576)
def OpenSpec.upto (s : _root_.Go.ChangeSpec) : _root_.Go.OpenSpec := { _root_.Go.OpenSpec.ofChange s with cond := some uptoSmall }

/-- 'weathercocklaw15.FeedRoom', WHERE WHAT IT READS IS OF BULK AT MOST 1048576: true; the input reads as it did. -/
def feedRoomUptoRow : OpenClaim := { program := "ytfppafpkppjmlaa", sum := "e75aeede4bb3d130d8865beb5858b7eefb922af278a5474f46734bcfeb05b719", func := "weathercock/weathercocklaw15.FeedRoom", spec := "feedRoom", unfollowed := true, recurses := true, apart := false, narrowed := true }
def FeedRoomUptoSaid : Prop := feedRoomUptoRow.holds Try.pinned (OpenSpec.upto feedRoomSpec)

/-- 'weathercocklaw15.FeedPlays', WHERE WHAT IT READS IS OF BULK AT MOST 1048576: true; the input reads as it did. -/
def feedPlaysUptoRow : OpenClaim := { program := "ytfppafpkppjmlaa", sum := "e75aeede4bb3d130d8865beb5858b7eefb922af278a5474f46734bcfeb05b719", func := "weathercock/weathercocklaw15.FeedPlays", spec := "feedPlays", unfollowed := true, recurses := true, apart := false, narrowed := true }
def FeedPlaysUptoSaid : Prop := feedPlaysUptoRow.holds Try.pinned (OpenSpec.upto feedPlaysSpec)

/-- 'weathercocklaw15.FeedNewest', WHERE WHAT IT READS IS OF BULK AT MOST 1048576: true; the input reads as it did. -/
def feedNewestUptoRow : OpenClaim := { program := "ytfppafpkppjmlaa", sum := "e75aeede4bb3d130d8865beb5858b7eefb922af278a5474f46734bcfeb05b719", func := "weathercock/weathercocklaw15.FeedNewest", spec := "feedNewest", unfollowed := true, recurses := true, apart := false, narrowed := true }
def FeedNewestUptoSaid : Prop := feedNewestUptoRow.holds Try.pinned (OpenSpec.upto feedNewestSpec)

/-- 'weathercocklaw15.FeedGets', WHERE WHAT IT READS IS OF BULK AT MOST 1048576: true; the input reads as it did. -/
def feedGetsUptoRow : OpenClaim := { program := "ytfppafpkppjmlaa", sum := "e75aeede4bb3d130d8865beb5858b7eefb922af278a5474f46734bcfeb05b719", func := "weathercock/weathercocklaw15.FeedGets", spec := "feedGets", unfollowed := true, recurses := true, apart := false, narrowed := true }
def FeedGetsUptoSaid : Prop := feedGetsUptoRow.holds Try.pinned (OpenSpec.upto feedGetsSpec)

end Rows
end Go.Proofs.Ytfppafpkppjmlaa
