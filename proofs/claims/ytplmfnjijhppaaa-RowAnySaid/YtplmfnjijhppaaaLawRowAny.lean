import Derived.Test.YtplmfnjijhppaaaRows
import Derived.Test.YtplmfnjijhppaaaRD
import Derived.Test.YtplmfnjijhppaaaMRead
import Derived.WalkKit
import Derived.ProofKit
import Derived.OpenShut
import Derived.ShutString
import Derived.ChangeOld
import Derived.Below
import Derived.SizedLaws
import Derived.JoinedCond
import Derived.Deep.CondSized
/- The row of the law RowAny: the walk by hand (any_row), and the reading of what came in. No condition. -/
namespace Go.Proofs.Ytplmfnjijhppaaa.rowAny
open Go.ChangeShapes Go.WideShapes Go.ChangeAt Go.RowKit Go.Proofs.Ytplmfnjijhppaaa.QRowSorts Go.Proofs.YtplmfnjijhppaaaW.PrintWords Go.Proofs.Ytplmfnjijhppaaa.MRead
open Go.ChangeMaps (open_string shut_string)
set_option linter.unusedVariables false
theorem own : ownKnob Try.prog.godebug = none := by kernel_rfl
theorem laidOut : laidOutB Try.prog = true := by kernel_rfl
instance instT36 : Inhabited S36 := ⟨z36⟩
theorem rdT36 {H : Type} {enc : TypeId × Value → H} {W : World} {base : Nat} {held : Bool} : RdK enc Try.prog W base held 36 k36 (fun y => ((Lit.int .i64 y.f0).wf = true) ∧ (((Lit.int .i64 y.f1).wf = true) ∧ (y.f2.size ≤ 140737488351232))) :=
  rd_struct (g := fun x : S36 => (x.f0, x.f1, x.f2)) (fun a => ⟨a.1, a.2.1, a.2.2⟩) (fun _ => rfl) Try.underlying36 (total := 3) (by kernel_rfl) (rdf_cons (m := 1) rfl (by kernel_rfl) (rd_int Try.underlying3) (rdf_cons (m := 1) rfl (by kernel_rfl) (rd_int Try.underlying3) (rdf_one (f := _) rfl (by kernel_rfl) (rd_string Try.underlying9))))
set_option maxRecDepth 100000 in
theorem lifted (os : Os) (started : os.Started) (H : Type) (enc : TypeId × Value → H) :
    ReturnsInHanded {} Try.checked os 9 .any (Rows.rowAnySpec.pre6 enc Try.prog Try.f9 Rows.rowAnyRow.domain false) (Rows.rowAnySpec.post enc Try.prog Try.f9 false true false false) := by
  refine returnsInHanded_of_change_sized (C := Try.checked) own started (by kernel_rfl) Try.func9
    (ChangeSpec.witness6 (enc := enc) (C := Try.checked) false ⟨#[], #[.slice none 0 0], []⟩ 8 (by kernel_rfl) (by kernel_rfl) (by kernel_rfl) (by kernel_rfl)) ?_
  intro W base args ds gs before hval0 hW hcnd hsz0 _
  have hsz1 : (DataW.weightsEach Try.prog (Try.f9.params.toList ++ Rows.rowAnySpec.plain.varTypes Try.prog) (ds ++ gs)).all (· ≤ reachBytes) = true := hsz0
  have hsz := light_of_all hsz1
  have hval : ∀ (j : Nat) t v, Try.f9.params[j]? = some t → args[j]? = some v → Value.okWide Try.prog W .any base t v := hval0
  have hW' := hW
  obtain ⟨p, q, hA0, hV, rfl, hfz, hnd⟩ := hW
  have hA : DataW.TrodAll enc Try.prog W 0 (fun _ => true) true Try.f9.params.toList args.toList ds p := hA0
  rw [Try.params9] at hA hval hsz
  obtain ⟨v0, vs0, d0, ds0, p0, q0, hargs, rfl, rfl, h0, r0⟩ := trodAll_cons hA
  obtain ⟨rfl, rfl, rfl⟩ := trodAll_nil r0
  obtain rfl : args = #[v0] := by cases args; simp_all
  obtain ⟨rfl, rfl⟩ := trodVars_none hV
  have k0 := h0
  have lt0 : ∀ x ∈ p0, x.block < W.heap.size := by obtain ⟨m, hm⟩ := k0; exact DataW.trod_lt m _ _ _ hm
  have g0 := weights_arg hsz (j := 0) (t := 34) (d := d0) rfl rfl
  obtain ⟨b0, m0, n0, rfl⟩ := okWide_slice Try.underlying34 (hval 0 34 v0 rfl rfl)
  obtain ⟨l0, hK0, w0⟩ := arg_kind (rd_slice (B := 24) Try.underlying34 (by kernel_rfl) (by kernel_rfl) (rd_slice (B := 32) Try.underlying22 (by kernel_rfl) (by kernel_rfl) rdT36)) k0 g0
  obtain ⟨A0, c0, he0, hc0, hr0⟩ := hK0
  simp [Value.cells] at he0
  obtain ⟨rfl, rfl, rfl⟩ := he0
  clear hA0 hval0 hsz0 hsz hsz1
  refine (any_row W _ _ l0 hr0 hc0 w0).mono fun e W' ⟨he, bel⟩ => ?_
  subst he
  exact ⟨_, rfl, _, _, _, [], _, [], hW', trodAll_mk1 (shut_bool Try.underlying4 _), (trodAll_cons_mk (Below.trod laidOut (by kernel_rfl) (of_decide_eq_true (by kernel_rfl)) k0 bel lt0) trodAll_mk0), rfl, bel.frame _, fun h => by cases h⟩
theorem over : Rows.rowAnyRow.holds Try.pinned (OpenSpec.ofChange Rows.rowAnySpec) :=
  OpenClaim.holds_of_wide 9 Try.f9 rfl rfl rfl rfl rfl rfl rfl ⟨rfl, rfl, rfl, rfl, rfl⟩ rfl rfl rfl rfl rfl (by kernel_rfl) Try.func9 (by kernel_rfl)
    (of_decide_eq_true (by kernel_rfl)) (by unfold Func.isWrapper; first | (rw [if_pos (by decide +kernel)]; kernel_rfl) | (rw [if_neg (by decide +kernel)]; exact ⟨rfl, rfl⟩))
    (fun os started H enc _ => lifted os started H enc)
theorem proved : Rows.RowAnySaid := over
#print axioms proved
end Go.Proofs.Ytplmfnjijhppaaa.rowAny
namespace Go.Proofs.Ytplmfnjijhppaaa
/-- The row, under a short name, for the claim. -/
theorem rowAny_holds : Rows.RowAnySaid := rowAny.proved
end Go.Proofs.Ytplmfnjijhppaaa
