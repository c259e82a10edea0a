/-
  No cell of these rows narrows 'for every input' (looked for: loops, veiled, ifaces, maps, wideKeys, modest, calm, conditions, laid).
  DERIVED. THE GIVEN ROWS OF THIS SEAT. 7 by the template 'for every input the law returns true; each argument reads behind the call as it read before'; 0 by the template 'total and deterministic' (their statements: YtihfljdcmncicaaTotals.lean).
  GIVEN WITH THE SEED: the statements are not yours to turn. If you find one false, say at which input.
  Laid BY PROGRAM, IN A SANDBOX (cutbox-rows.mjs): the forced cells as the released guide's own fill.sh prints them over the translation f74426c0b09277f9… (all of the seat's roots in one cut). By AI agents, Wed Nov 11 2026. No macro, syntax, notation, axiom, sorry.
-/
import Derived.Test.YtihfljdcmncicaaChecked
import GoSem.Claim
import GoSem.ClaimJoined
import GoSem.ClaimMapViews
import Derived.JoinedTies
import Derived.KernelRfl
namespace Go.Proofs.Ytihfljdcmncicaa
/- THE CELL 'sum', in the pinned program and in every row, IS THE sha256 OF THE DUMP (.gsa) THAT YtihfljdcmncicaaProg.lean LOADS. Nothing in Lean hashes anything: it is a label: what it is worth is what the hold of that sum in a sandbox is worth. -/
noncomputable def Try.pinned : Pinned := { name := "ytihfljdcmncicaa", sum := "f74426c0b09277f9dcea4de6456b5e41656841565c88e2d94c6020a728fdedb0", checked := Try.checked }
namespace Rows
def none {H : Type} : Left H := { results := [], args := [] }

/-- 'weathercocklaw01.ValueOrder': WHATEVER THE INPUT: true; the input reads as it did. -/
def valueOrderSpec : ChangeSpec := { name := "valueOrder", fn := fun _ => fun
  | [d1, d2, d3] => { results := [.lit (.bool true)], args := [d1, d2, d3] }
  | _ => none }
def valueOrderRow : OpenClaim := { program := "ytihfljdcmncicaa", sum := "f74426c0b09277f9dcea4de6456b5e41656841565c88e2d94c6020a728fdedb0", func := "weathercock/weathercocklaw01.ValueOrder", spec := "valueOrder", apart := false }
def ValueOrderSaid : Prop := valueOrderRow.holds Try.pinned (OpenSpec.ofChange valueOrderSpec)

/-- ITS FALSE NEIGHBOUR: 'it returns false'. Refute it at one input. -/
def valueOrderWrong : ChangeSpec := { name := "valueOrder", fn := fun _ => fun
  | [d1, d2, d3] => { results := [.lit (.bool false)], args := [d1, d2, d3] }
  | _ => none }
def ValueOrderWrongFalsely : Prop := valueOrderRow.holds Try.pinned (OpenSpec.ofChange valueOrderWrong)

/-- 'weathercocklaw01.ValueLogic': WHATEVER THE INPUT: true; the input reads as it did. -/
def valueLogicSpec : ChangeSpec := { name := "valueLogic", fn := fun _ => fun
  | [d1, d2, d3] => { results := [.lit (.bool true)], args := [d1, d2, d3] }
  | _ => none }
def valueLogicRow : OpenClaim := { program := "ytihfljdcmncicaa", sum := "f74426c0b09277f9dcea4de6456b5e41656841565c88e2d94c6020a728fdedb0", func := "weathercock/weathercocklaw01.ValueLogic", spec := "valueLogic", apart := false }
def ValueLogicSaid : Prop := valueLogicRow.holds Try.pinned (OpenSpec.ofChange valueLogicSpec)

/-- ITS FALSE NEIGHBOUR: 'it returns false'. Refute it at one input. -/
def valueLogicWrong : ChangeSpec := { name := "valueLogic", fn := fun _ => fun
  | [d1, d2, d3] => { results := [.lit (.bool false)], args := [d1, d2, d3] }
  | _ => none }
def ValueLogicWrongFalsely : Prop := valueLogicRow.holds Try.pinned (OpenSpec.ofChange valueLogicWrong)

/-- 'weathercocklaw01.ValueTests': WHATEVER THE INPUT: true; the input reads as it did. -/
def valueTestsSpec : ChangeSpec := { name := "valueTests", fn := fun _ => fun
  | [d1, d2] => { results := [.lit (.bool true)], args := [d1, d2] }
  | _ => none }
def valueTestsRow : OpenClaim := { program := "ytihfljdcmncicaa", sum := "f74426c0b09277f9dcea4de6456b5e41656841565c88e2d94c6020a728fdedb0", func := "weathercock/weathercocklaw01.ValueTests", spec := "valueTests", apart := false }
def ValueTestsSaid : Prop := valueTestsRow.holds Try.pinned (OpenSpec.ofChange valueTestsSpec)

/-- ITS FALSE NEIGHBOUR: 'it returns false'. Refute it at one input. -/
def valueTestsWrong : ChangeSpec := { name := "valueTests", fn := fun _ => fun
  | [d1, d2] => { results := [.lit (.bool false)], args := [d1, d2] }
  | _ => none }
def ValueTestsWrongFalsely : Prop := valueTestsRow.holds Try.pinned (OpenSpec.ofChange valueTestsWrong)

/-- 'weathercocklaw01.ValueTells': WHATEVER THE INPUT: true; the input reads as it did. -/
def valueTellsSpec : ChangeSpec := { name := "valueTells", fn := fun _ => fun
  | [d1, d2, d3] => { results := [.lit (.bool true)], args := [d1, d2, d3] }
  | _ => none }
def valueTellsRow : OpenClaim := { program := "ytihfljdcmncicaa", sum := "f74426c0b09277f9dcea4de6456b5e41656841565c88e2d94c6020a728fdedb0", func := "weathercock/weathercocklaw01.ValueTells", spec := "valueTells", apart := false }
def ValueTellsSaid : Prop := valueTellsRow.holds Try.pinned (OpenSpec.ofChange valueTellsSpec)

/-- ITS FALSE NEIGHBOUR: 'it returns false'. Refute it at one input. -/
def valueTellsWrong : ChangeSpec := { name := "valueTells", fn := fun _ => fun
  | [d1, d2, d3] => { results := [.lit (.bool false)], args := [d1, d2, d3] }
  | _ => none }
def ValueTellsWrongFalsely : Prop := valueTellsRow.holds Try.pinned (OpenSpec.ofChange valueTellsWrong)

/-- 'weathercocklaw01.ValueRest': WHATEVER THE INPUT: true; the input reads as it did. -/
def valueRestSpec : ChangeSpec := { name := "valueRest", fn := fun _ => fun
  | [d1, d2] => { results := [.lit (.bool true)], args := [d1, d2] }
  | _ => none }
def valueRestRow : OpenClaim := { program := "ytihfljdcmncicaa", sum := "f74426c0b09277f9dcea4de6456b5e41656841565c88e2d94c6020a728fdedb0", func := "weathercock/weathercocklaw01.ValueRest", spec := "valueRest", apart := false }
def ValueRestSaid : Prop := valueRestRow.holds Try.pinned (OpenSpec.ofChange valueRestSpec)

/-- ITS FALSE NEIGHBOUR: 'it returns false'. Refute it at one input. -/
def valueRestWrong : ChangeSpec := { name := "valueRest", fn := fun _ => fun
  | [d1, d2] => { results := [.lit (.bool false)], args := [d1, d2] }
  | _ => none }
def ValueRestWrongFalsely : Prop := valueRestRow.holds Try.pinned (OpenSpec.ofChange valueRestWrong)

/-- 'weathercocklaw01.ValueReckons': WHATEVER THE INPUT: true; the input reads as it did. -/
def valueReckonsSpec : ChangeSpec := { name := "valueReckons", fn := fun _ => fun
  | [d1, d2] => { results := [.lit (.bool true)], args := [d1, d2] }
  | _ => none }
def valueReckonsRow : OpenClaim := { program := "ytihfljdcmncicaa", sum := "f74426c0b09277f9dcea4de6456b5e41656841565c88e2d94c6020a728fdedb0", func := "weathercock/weathercocklaw01.ValueReckons", spec := "valueReckons", apart := false }
def ValueReckonsSaid : Prop := valueReckonsRow.holds Try.pinned (OpenSpec.ofChange valueReckonsSpec)

/-- ITS FALSE NEIGHBOUR: 'it returns false'. Refute it at one input. -/
def valueReckonsWrong : ChangeSpec := { name := "valueReckons", fn := fun _ => fun
  | [d1, d2] => { results := [.lit (.bool false)], args := [d1, d2] }
  | _ => none }
def ValueReckonsWrongFalsely : Prop := valueReckonsRow.holds Try.pinned (OpenSpec.ofChange valueReckonsWrong)

/-- 'weathercocklaw01.ValueBack': WHATEVER THE INPUT: true; the input reads as it did. -/
def valueBackSpec : ChangeSpec := { name := "valueBack", fn := fun _ => fun
  | [d1, d2] => { results := [.lit (.bool true)], args := [d1, d2] }
  | _ => none }
def valueBackRow : OpenClaim := { program := "ytihfljdcmncicaa", sum := "f74426c0b09277f9dcea4de6456b5e41656841565c88e2d94c6020a728fdedb0", func := "weathercock/weathercocklaw01.ValueBack", spec := "valueBack", apart := false }
def ValueBackSaid : Prop := valueBackRow.holds Try.pinned (OpenSpec.ofChange valueBackSpec)

/-- ITS FALSE NEIGHBOUR: 'it returns false'. Refute it at one input. -/
def valueBackWrong : ChangeSpec := { name := "valueBack", fn := fun _ => fun
  | [d1, d2] => { results := [.lit (.bool false)], args := [d1, d2] }
  | _ => none }
def ValueBackWrongFalsely : Prop := valueBackRow.holds Try.pinned (OpenSpec.ofChange valueBackWrong)

/- THE SECOND FORM. 'bulk': how many values and letters a reading holds, each counted each time it is reached (what is shared counts as often as it is met; a slice's spare places count too). A statement '..UptoSaid' is the law's where the arguments, and the package variables that the reading takes, are together of bulk at most 1048576: NARROWER than '..Said'. Prove '..Said' where nothing that the law and all that it calls make is longer than what came in: it says more and counts as full. Else prove '..UptoSaid'. A law counts once. -/
mutual
def uptoBulk {H : Type} : DataW H → Nat
  | .lit (.string bytes) => bytes.length + 1
  | .lit _ => 1
  | .nil => 1
  | .ptr d => uptoBulk d + 1
  | .slice elems spare => uptoBulkAll elems + uptoBulkAll spare + 1
  | .agg parts => uptoBulkAll parts + 1
  | .iface _ d => uptoBulk d + 1
  | .map entries => uptoBulkEntries entries + 1
  | .held _ => 1
def uptoBulkAll {H : Type} : List (DataW H) → Nat
  | [] => 0
  | d :: r => uptoBulk d + uptoBulkAll r
def uptoBulkEntries {H : Type} : List (Lit × DataW H) → Nat
  | [] => 0
  | x :: r => uptoBulkEntry x + uptoBulkEntries r
def uptoBulkEntry {H : Type} : Lit × DataW H → Nat
  | (.string bytes, d) => bytes.length + uptoBulk d + 1
  | (_, d) => uptoBulk d + 1
 end
def uptoSmall : (H : Type) → List (DataW H) → Bool := fun _ ds => decide (uptoBulkAll ds ≤ 1048576)
def OpenSpec.upto (s : _root_.Go.ChangeSpec) : _root_.Go.OpenSpec := { _root_.Go.OpenSpec.ofChange s with cond := some uptoSmall }

/-- 'weathercocklaw01.ValueOrder', WHERE WHAT IT READS IS OF BULK AT MOST 1048576: true; the input reads as it did. -/
def valueOrderUptoRow : OpenClaim := { program := "ytihfljdcmncicaa", sum := "f74426c0b09277f9dcea4de6456b5e41656841565c88e2d94c6020a728fdedb0", func := "weathercock/weathercocklaw01.ValueOrder", spec := "valueOrder", apart := false, narrowed := true }
def ValueOrderUptoSaid : Prop := valueOrderUptoRow.holds Try.pinned (OpenSpec.upto valueOrderSpec)

/-- 'weathercocklaw01.ValueLogic', WHERE WHAT IT READS IS OF BULK AT MOST 1048576: true; the input reads as it did. -/
def valueLogicUptoRow : OpenClaim := { program := "ytihfljdcmncicaa", sum := "f74426c0b09277f9dcea4de6456b5e41656841565c88e2d94c6020a728fdedb0", func := "weathercock/weathercocklaw01.ValueLogic", spec := "valueLogic", apart := false, narrowed := true }
def ValueLogicUptoSaid : Prop := valueLogicUptoRow.holds Try.pinned (OpenSpec.upto valueLogicSpec)

/-- 'weathercocklaw01.ValueTests', WHERE WHAT IT READS IS OF BULK AT MOST 1048576: true; the input reads as it did. -/
def valueTestsUptoRow : OpenClaim := { program := "ytihfljdcmncicaa", sum := "f74426c0b09277f9dcea4de6456b5e41656841565c88e2d94c6020a728fdedb0", func := "weathercock/weathercocklaw01.ValueTests", spec := "valueTests", apart := false, narrowed := true }
def ValueTestsUptoSaid : Prop := valueTestsUptoRow.holds Try.pinned (OpenSpec.upto valueTestsSpec)

/-- 'weathercocklaw01.ValueTells', WHERE WHAT IT READS IS OF BULK AT MOST 1048576: true; the input reads as it did. -/
def valueTellsUptoRow : OpenClaim := { program := "ytihfljdcmncicaa", sum := "f74426c0b09277f9dcea4de6456b5e41656841565c88e2d94c6020a728fdedb0", func := "weathercock/weathercocklaw01.ValueTells", spec := "valueTells", apart := false, narrowed := true }
def ValueTellsUptoSaid : Prop := valueTellsUptoRow.holds Try.pinned (OpenSpec.upto valueTellsSpec)

/-- 'weathercocklaw01.ValueRest', WHERE WHAT IT READS IS OF BULK AT MOST 1048576: true; the input reads as it did. -/
def valueRestUptoRow : OpenClaim := { program := "ytihfljdcmncicaa", sum := "f74426c0b09277f9dcea4de6456b5e41656841565c88e2d94c6020a728fdedb0", func := "weathercock/weathercocklaw01.ValueRest", spec := "valueRest", apart := false, narrowed := true }
def ValueRestUptoSaid : Prop := valueRestUptoRow.holds Try.pinned (OpenSpec.upto valueRestSpec)

/-- 'weathercocklaw01.ValueReckons', WHERE WHAT IT READS IS OF BULK AT MOST 1048576: true; the input reads as it did. -/
def valueReckonsUptoRow : OpenClaim := { program := "ytihfljdcmncicaa", sum := "f74426c0b09277f9dcea4de6456b5e41656841565c88e2d94c6020a728fdedb0", func := "weathercock/weathercocklaw01.ValueReckons", spec := "valueReckons", apart := false, narrowed := true }
def ValueReckonsUptoSaid : Prop := valueReckonsUptoRow.holds Try.pinned (OpenSpec.upto valueReckonsSpec)

/-- 'weathercocklaw01.ValueBack', WHERE WHAT IT READS IS OF BULK AT MOST 1048576: true; the input reads as it did. -/
def valueBackUptoRow : OpenClaim := { program := "ytihfljdcmncicaa", sum := "f74426c0b09277f9dcea4de6456b5e41656841565c88e2d94c6020a728fdedb0", func := "weathercock/weathercocklaw01.ValueBack", spec := "valueBack", apart := false, narrowed := true }
def ValueBackUptoSaid : Prop := valueBackUptoRow.holds Try.pinned (OpenSpec.upto valueBackSpec)

end Rows
end Go.Proofs.Ytihfljdcmncicaa
