/-
  No cell of these rows narrows 'for every input' (looked for: loops, veiled, ifaces, maps, wideKeys, modest, calm, conditions, laid).
  DERIVED. THE GIVEN ROWS OF THIS SEAT. 6 by the template 'for every input the law returns true; each argument reads behind the call as it read before'; 0 by the template 'total and deterministic' (their statements: YtacfemgmnfkjoaaTotals.lean).
  GIVEN WITH THE SEED: the statements are not yours to turn. If you find one false, say at which input.
  Laid BY PROGRAM, IN A SANDBOX (cutbox-rows.mjs): the forced cells as the released guide's own fill.sh prints them over the translation 059a581b91978c83… (all of the seat's roots in one cut). By AI agents, Wed Nov 11 2026. No macro, syntax, notation, axiom, sorry.
-/
import Derived.Test.YtacfemgmnfkjoaaChecked
import GoSem.Claim
import GoSem.ClaimJoined
import GoSem.ClaimMapViews
import Derived.JoinedTies
import Derived.KernelRfl
namespace Go.Proofs.Ytacfemgmnfkjoaa
/- THE CELL 'sum', in the pinned program and in every row, IS THE sha256 OF THE DUMP (.gsa) THAT YtacfemgmnfkjoaaProg.lean LOADS. Nothing in Lean hashes anything: it is a label: what it is worth is what the hold of that sum in a sandbox is worth. -/
noncomputable def Try.pinned : Pinned := { name := "ytacfemgmnfkjoaa", sum := "059a581b91978c83a0c25cb028fc6a53dc61c44985de697b28fe239d636fd0eb", checked := Try.checked }
namespace Rows
def none {H : Type} : Left H := { results := [], args := [] }

/-- 'weathercocklaw03.BagKinds': WHATEVER THE INPUT: true; the input reads as it did. -/
def bagKindsSpec : ChangeSpec := { name := "bagKinds", fn := fun _ => fun
  | [d] => { results := [.lit (.bool true)], args := [d] }
  | _ => none }
def bagKindsRow : OpenClaim := { program := "ytacfemgmnfkjoaa", sum := "059a581b91978c83a0c25cb028fc6a53dc61c44985de697b28fe239d636fd0eb", func := "weathercock/weathercocklaw03.BagKinds", spec := "bagKinds", unfollowed := true, recurses := true, apart := false }
def BagKindsSaid : Prop := bagKindsRow.holds Try.pinned (OpenSpec.ofChange bagKindsSpec)

/-- ITS FALSE NEIGHBOUR: 'it returns false'. Refute it at one input. -/
def bagKindsWrong : ChangeSpec := { name := "bagKinds", fn := fun _ => fun
  | [d] => { results := [.lit (.bool false)], args := [d] }
  | _ => none }
def BagKindsWrongFalsely : Prop := bagKindsRow.holds Try.pinned (OpenSpec.ofChange bagKindsWrong)

/-- 'weathercocklaw03.BagPlays': WHATEVER THE INPUT: true; the input reads as it did. -/
def bagPlaysSpec : ChangeSpec := { name := "bagPlays", fn := fun _ => fun
  | [d1, d2, d3] => { results := [.lit (.bool true)], args := [d1, d2, d3] }
  | _ => none }
def bagPlaysRow : OpenClaim := { program := "ytacfemgmnfkjoaa", sum := "059a581b91978c83a0c25cb028fc6a53dc61c44985de697b28fe239d636fd0eb", func := "weathercock/weathercocklaw03.BagPlays", spec := "bagPlays", unfollowed := true, recurses := true, apart := false }
def BagPlaysSaid : Prop := bagPlaysRow.holds Try.pinned (OpenSpec.ofChange bagPlaysSpec)

/-- ITS FALSE NEIGHBOUR: 'it returns false'. Refute it at one input. -/
def bagPlaysWrong : ChangeSpec := { name := "bagPlays", fn := fun _ => fun
  | [d1, d2, d3] => { results := [.lit (.bool false)], args := [d1, d2, d3] }
  | _ => none }
def BagPlaysWrongFalsely : Prop := bagPlaysRow.holds Try.pinned (OpenSpec.ofChange bagPlaysWrong)

/-- 'weathercocklaw03.BagOut': WHATEVER THE INPUT: true; the input reads as it did. -/
def bagOutSpec : ChangeSpec := { name := "bagOut", fn := fun _ => fun
  | [d1, d2] => { results := [.lit (.bool true)], args := [d1, d2] }
  | _ => none }
def bagOutRow : OpenClaim := { program := "ytacfemgmnfkjoaa", sum := "059a581b91978c83a0c25cb028fc6a53dc61c44985de697b28fe239d636fd0eb", func := "weathercock/weathercocklaw03.BagOut", spec := "bagOut", unfollowed := true, recurses := true, apart := false }
def BagOutSaid : Prop := bagOutRow.holds Try.pinned (OpenSpec.ofChange bagOutSpec)

/-- ITS FALSE NEIGHBOUR: 'it returns false'. Refute it at one input. -/
def bagOutWrong : ChangeSpec := { name := "bagOut", fn := fun _ => fun
  | [d1, d2] => { results := [.lit (.bool false)], args := [d1, d2] }
  | _ => none }
def BagOutWrongFalsely : Prop := bagOutRow.holds Try.pinned (OpenSpec.ofChange bagOutWrong)

/-- 'weathercocklaw03.BagTwo': WHATEVER THE INPUT: true; the input reads as it did. -/
def bagTwoSpec : ChangeSpec := { name := "bagTwo", fn := fun _ => fun
  | [d1, d2] => { results := [.lit (.bool true)], args := [d1, d2] }
  | _ => none }
def bagTwoRow : OpenClaim := { program := "ytacfemgmnfkjoaa", sum := "059a581b91978c83a0c25cb028fc6a53dc61c44985de697b28fe239d636fd0eb", func := "weathercock/weathercocklaw03.BagTwo", spec := "bagTwo", unfollowed := true, recurses := true, apart := false }
def BagTwoSaid : Prop := bagTwoRow.holds Try.pinned (OpenSpec.ofChange bagTwoSpec)

/-- ITS FALSE NEIGHBOUR: 'it returns false'. Refute it at one input. -/
def bagTwoWrong : ChangeSpec := { name := "bagTwo", fn := fun _ => fun
  | [d1, d2] => { results := [.lit (.bool false)], args := [d1, d2] }
  | _ => none }
def BagTwoWrongFalsely : Prop := bagTwoRow.holds Try.pinned (OpenSpec.ofChange bagTwoWrong)

/-- 'weathercocklaw03.BagBack': WHATEVER THE INPUT: true; the input reads as it did. -/
def bagBackSpec : ChangeSpec := { name := "bagBack", fn := fun _ => fun
  | [d1, d2] => { results := [.lit (.bool true)], args := [d1, d2] }
  | _ => none }
def bagBackRow : OpenClaim := { program := "ytacfemgmnfkjoaa", sum := "059a581b91978c83a0c25cb028fc6a53dc61c44985de697b28fe239d636fd0eb", func := "weathercock/weathercocklaw03.BagBack", spec := "bagBack", unfollowed := true, recurses := true, apart := false }
def BagBackSaid : Prop := bagBackRow.holds Try.pinned (OpenSpec.ofChange bagBackSpec)

/-- ITS FALSE NEIGHBOUR: 'it returns false'. Refute it at one input. -/
def bagBackWrong : ChangeSpec := { name := "bagBack", fn := fun _ => fun
  | [d1, d2] => { results := [.lit (.bool false)], args := [d1, d2] }
  | _ => none }
def BagBackWrongFalsely : Prop := bagBackRow.holds Try.pinned (OpenSpec.ofChange bagBackWrong)

/-- 'weathercocklaw03.BagLess': WHATEVER THE INPUT: true; the input reads as it did. -/
def bagLessSpec : ChangeSpec := { name := "bagLess", fn := fun _ => fun
  | [d1, d2] => { results := [.lit (.bool true)], args := [d1, d2] }
  | _ => none }
def bagLessRow : OpenClaim := { program := "ytacfemgmnfkjoaa", sum := "059a581b91978c83a0c25cb028fc6a53dc61c44985de697b28fe239d636fd0eb", func := "weathercock/weathercocklaw03.BagLess", spec := "bagLess", unfollowed := true, recurses := true, apart := false }
def BagLessSaid : Prop := bagLessRow.holds Try.pinned (OpenSpec.ofChange bagLessSpec)

/-- ITS FALSE NEIGHBOUR: 'it returns false'. Refute it at one input. -/
def bagLessWrong : ChangeSpec := { name := "bagLess", fn := fun _ => fun
  | [d1, d2] => { results := [.lit (.bool false)], args := [d1, d2] }
  | _ => none }
def BagLessWrongFalsely : Prop := bagLessRow.holds Try.pinned (OpenSpec.ofChange bagLessWrong)

/- THE SECOND FORM. 'bulk': how many values and letters a reading holds, each counted each time it is reached (what is shared counts as often as it is met; a slice's spare places count too). A statement '..UptoSaid' is the law's where the arguments, and the package variables that the reading takes, are together of bulk at most 1048576: NARROWER than '..Said'. Prove '..Said' where nothing that the law and all that it calls make is longer than what came in: it says more and counts as full. Else prove '..UptoSaid'. A law counts once. -/
mutual
def uptoBulk {H : Type} : DataW H → Nat
  | .lit (.string bytes) => bytes.length + 1
  | .lit _ => 1
  | .nil => 1
  | .ptr d => uptoBulk d + 1
  | .slice elems spare => uptoBulkAll elems + uptoBulkAll spare + 1
  | .agg parts => uptoBulkAll parts + 1
  | .iface _ d => uptoBulk d + 1
  | .map entries => uptoBulkEntries entries + 1
  | .held _ => 1
def uptoBulkAll {H : Type} : List (DataW H) → Nat
  | [] => 0
  | d :: r => uptoBulk d + uptoBulkAll r
def uptoBulkEntries {H : Type} : List (Lit × DataW H) → Nat
  | [] => 0
  | x :: r => uptoBulkEntry x + uptoBulkEntries r
def uptoBulkEntry {H : Type} : Lit × DataW H → Nat
  | (.string bytes, d) => bytes.length + uptoBulk d + 1
  | (_, d) => uptoBulk d + 1
 end
def uptoSmall : (H : Type) → List (DataW H) → Bool := fun _ ds => decide (uptoBulkAll ds ≤ 1048576)
def OpenSpec.upto (s : _root_.Go.ChangeSpec) : _root_.Go.OpenSpec := { _root_.Go.OpenSpec.ofChange s with cond := some uptoSmall }

/-- 'weathercocklaw03.BagKinds', WHERE WHAT IT READS IS OF BULK AT MOST 1048576: true; the input reads as it did. -/
def bagKindsUptoRow : OpenClaim := { program := "ytacfemgmnfkjoaa", sum := "059a581b91978c83a0c25cb028fc6a53dc61c44985de697b28fe239d636fd0eb", func := "weathercock/weathercocklaw03.BagKinds", spec := "bagKinds", unfollowed := true, recurses := true, apart := false, narrowed := true }
def BagKindsUptoSaid : Prop := bagKindsUptoRow.holds Try.pinned (OpenSpec.upto bagKindsSpec)

/-- 'weathercocklaw03.BagPlays', WHERE WHAT IT READS IS OF BULK AT MOST 1048576: true; the input reads as it did. -/
def bagPlaysUptoRow : OpenClaim := { program := "ytacfemgmnfkjoaa", sum := "059a581b91978c83a0c25cb028fc6a53dc61c44985de697b28fe239d636fd0eb", func := "weathercock/weathercocklaw03.BagPlays", spec := "bagPlays", unfollowed := true, recurses := true, apart := false, narrowed := true }
def BagPlaysUptoSaid : Prop := bagPlaysUptoRow.holds Try.pinned (OpenSpec.upto bagPlaysSpec)

/-- 'weathercocklaw03.BagOut', WHERE WHAT IT READS IS OF BULK AT MOST 1048576: true; the input reads as it did. -/
def bagOutUptoRow : OpenClaim := { program := "ytacfemgmnfkjoaa", sum := "059a581b91978c83a0c25cb028fc6a53dc61c44985de697b28fe239d636fd0eb", func := "weathercock/weathercocklaw03.BagOut", spec := "bagOut", unfollowed := true, recurses := true, apart := false, narrowed := true }
def BagOutUptoSaid : Prop := bagOutUptoRow.holds Try.pinned (OpenSpec.upto bagOutSpec)

/-- 'weathercocklaw03.BagTwo', WHERE WHAT IT READS IS OF BULK AT MOST 1048576: true; the input reads as it did. -/
def bagTwoUptoRow : OpenClaim := { program := "ytacfemgmnfkjoaa", sum := "059a581b91978c83a0c25cb028fc6a53dc61c44985de697b28fe239d636fd0eb", func := "weathercock/weathercocklaw03.BagTwo", spec := "bagTwo", unfollowed := true, recurses := true, apart := false, narrowed := true }
def BagTwoUptoSaid : Prop := bagTwoUptoRow.holds Try.pinned (OpenSpec.upto bagTwoSpec)

/-- 'weathercocklaw03.BagBack', WHERE WHAT IT READS IS OF BULK AT MOST 1048576: true; the input reads as it did. -/
def bagBackUptoRow : OpenClaim := { program := "ytacfemgmnfkjoaa", sum := "059a581b91978c83a0c25cb028fc6a53dc61c44985de697b28fe239d636fd0eb", func := "weathercock/weathercocklaw03.BagBack", spec := "bagBack", unfollowed := true, recurses := true, apart := false, narrowed := true }
def BagBackUptoSaid : Prop := bagBackUptoRow.holds Try.pinned (OpenSpec.upto bagBackSpec)

/-- 'weathercocklaw03.BagLess', WHERE WHAT IT READS IS OF BULK AT MOST 1048576: true; the input reads as it did. -/
def bagLessUptoRow : OpenClaim := { program := "ytacfemgmnfkjoaa", sum := "059a581b91978c83a0c25cb028fc6a53dc61c44985de697b28fe239d636fd0eb", func := "weathercock/weathercocklaw03.BagLess", spec := "bagLess", unfollowed := true, recurses := true, apart := false, narrowed := true }
def BagLessUptoSaid : Prop := bagLessUptoRow.holds Try.pinned (OpenSpec.upto bagLessSpec)

end Rows
end Go.Proofs.Ytacfemgmnfkjoaa
