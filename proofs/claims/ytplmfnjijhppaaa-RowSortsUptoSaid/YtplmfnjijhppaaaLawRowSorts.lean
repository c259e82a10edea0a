import Derived.Test.YtplmfnjijhppaaaRows
import Derived.Test.YtplmfnjijhppaaaRG
import Derived.Test.YtplmfnjijhppaaaMRead
import Derived.Test.YtplmfnjijhppaaaMReadU
import Derived.WalkKit
import Derived.ProofKit
import Derived.OpenShut
import Derived.ShutString
import Derived.ChangeOld
import Derived.Below
import Derived.SizedLaws
import Derived.JoinedCond
import Derived.Deep.CondSized
/- The row of the law RowSorts: the walk by hand (sorts_row), and the reading of what came in. For arguments of bulk at most 1048576 (the given second form of the statement). -/
namespace Go.Proofs.Ytplmfnjijhppaaa.rowSorts
open Go.ChangeShapes Go.WideShapes Go.ChangeAt Go.RowKit Go.Proofs.Ytplmfnjijhppaaa.QRowSorts Go.Proofs.YtplmfnjijhppaaaW.PrintWords Go.Proofs.Ytplmfnjijhppaaa.MRead
open Go.Proofs.Ytplmfnjijhppaaa.MReadU
open Go.ChangeMaps (open_string shut_string)
set_option linter.unusedVariables false
theorem own : ownKnob Try.prog.godebug = none := by kernel_rfl
theorem laidOut : laidOutB Try.prog = true := by kernel_rfl
instance instT36 : Inhabited S36 := ⟨z36⟩
theorem rdT36 {H : Type} {enc : TypeId × Value → H} {W : World} {base : Nat} {held : Bool} : RdU enc Try.prog W base held 36 k36 (fun y => ((Lit.int .i64 y.f0).wf = true) ∧ (((Lit.int .i64 y.f1).wf = true) ∧ (y.f2.size ≤ 1048576))) :=
  rdu_struct (g := fun x : S36 => (x.f0, x.f1, x.f2)) (fun a => ⟨a.1, a.2.1, a.2.2⟩) (fun _ => rfl) Try.underlying36 (total := 3) (by kernel_rfl) (rdfu_cons (m := 1) rfl (by kernel_rfl) (rdu_of (rd_int Try.underlying3)) (rdfu_cons (m := 1) rfl (by kernel_rfl) (rdu_of (rd_int Try.underlying3)) (rdfu_one (f := _) rfl (by kernel_rfl) (rdu_string Try.underlying9))))
set_option maxRecDepth 100000 in
theorem lifted (os : Os) (started : os.Started) (H : Type) (enc : TypeId × Value → H) (F : Stop.Interp) :
    ReturnsInHanded {} Try.checked os 8 .any ((Rows.OpenSpec.upto Rows.rowSortsSpec).pre6 enc Try.prog Try.f8 Rows.rowSortsUptoRow.domain false) (((Rows.OpenSpec.upto Rows.rowSortsSpec).at F).post enc Try.prog Try.f8 false true false false) := by
  refine returnsInHanded_of_cond_sized (C := Try.checked) (s := Rows.OpenSpec.upto Rows.rowSortsSpec) (k := Rows.uptoSmall) rfl own started (by kernel_rfl) Try.func8
    (OpenSpec.witness (enc := enc) (C := Try.checked) (s := Rows.OpenSpec.upto Rows.rowSortsSpec) (k := Rows.uptoSmall) rfl false ⟨#[], #[.slice none 0 0, .slice none 0 0, .slice none 0 0], []⟩ 8 (by kernel_rfl) (by kernel_rfl) (by kernel_rfl)
      (x := ([.nil, .nil, .nil], [], [])) (by kernel_rfl) rfl (by kernel_rfl)) ?_
  intro W base args ds gs before hval0 hW hcnd hbulk hsz0 _
  have hsz1 : (DataW.weightsEach Try.prog (Try.f8.params.toList ++ Rows.rowSortsSpec.plain.varTypes Try.prog) (ds ++ gs)).all (· ≤ reachBytes) = true := hsz0
  have hsz := light_of_all hsz1
  have hval : ∀ (j : Nat) t v, Try.f8.params[j]? = some t → args[j]? = some v → Value.okWide Try.prog W .any base t v := hval0
  have hW' := hW
  obtain ⟨p, q, hA0, hV, rfl, hfz, hnd⟩ := hW
  have hA : DataW.TrodAll enc Try.prog W 0 (fun _ => true) true Try.f8.params.toList args.toList ds p := hA0
  rw [Try.params8] at hA hval hsz
  obtain ⟨v0, vs0, d0, ds0, p0, q0, hargs, rfl, rfl, h0, r0⟩ := trodAll_cons hA
  obtain ⟨v1, vs1, d1, ds1, p1, q1, rfl, rfl, rfl, h1, r1⟩ := trodAll_cons r0
  obtain ⟨v2, vs2, d2, ds2, p2, q2, rfl, rfl, rfl, h2, r2⟩ := trodAll_cons r1
  obtain ⟨rfl, rfl, rfl⟩ := trodAll_nil r2
  obtain rfl : args = #[v0, v1, v2] := by cases args; simp_all
  obtain ⟨rfl, rfl⟩ := trodVars_none hV
  have hb : Rows.uptoBulkAll ([d0, d1, d2] ++ []) ≤ 1048576 := of_decide_eq_true hbulk
  simp only [List.append_nil, Rows.uptoBulkAll] at hb
  have k0 := h0
  have lt0 : ∀ x ∈ p0, x.block < W.heap.size := by obtain ⟨m, hm⟩ := k0; exact DataW.trod_lt m _ _ _ hm
  have g0 := weights_arg hsz (j := 0) (t := 34) (d := d0) rfl rfl
  obtain ⟨b0, m0, n0, rfl⟩ := okWide_slice Try.underlying34 (hval 0 34 v0 rfl rfl)
  obtain ⟨l0, hK0, w0⟩ := arg_kindU (rdu_slice (B := 24) Try.underlying34 (by kernel_rfl) (by kernel_rfl) (rdu_slice (B := 32) Try.underlying22 (by kernel_rfl) (by kernel_rfl) rdT36)) k0 g0 (by omega)
  obtain ⟨A0, c0, he0, hc0, hr0⟩ := hK0
  simp [Value.cells] at he0
  obtain ⟨rfl, rfl, rfl⟩ := he0
  have k1 := h1
  have lt1 : ∀ x ∈ p1, x.block < W.heap.size := by obtain ⟨m, hm⟩ := k1; exact DataW.trod_lt m _ _ _ hm
  have g1 := weights_arg hsz (j := 1) (t := 22) (d := d1) rfl rfl
  obtain ⟨b1, m1, n1, rfl⟩ := okWide_slice Try.underlying22 (hval 1 22 v1 rfl rfl)
  obtain ⟨l1, hK1, w1⟩ := arg_kindU (rdu_slice (B := 32) Try.underlying22 (by kernel_rfl) (by kernel_rfl) rdT36) k1 g1 (by omega)
  obtain ⟨A1, c1, he1, hc1, hr1⟩ := hK1
  simp [Value.cells] at he1
  obtain ⟨rfl, rfl, rfl⟩ := he1
  have k2 := h2
  have lt2 : ∀ x ∈ p2, x.block < W.heap.size := by obtain ⟨m, hm⟩ := k2; exact DataW.trod_lt m _ _ _ hm
  have g2 := weights_arg hsz (j := 2) (t := 22) (d := d2) rfl rfl
  obtain ⟨b2, m2, n2, rfl⟩ := okWide_slice Try.underlying22 (hval 2 22 v2 rfl rfl)
  obtain ⟨l2, hK2, w2⟩ := arg_kindU (rdu_slice (B := 32) Try.underlying22 (by kernel_rfl) (by kernel_rfl) rdT36) k2 g2 (by omega)
  obtain ⟨A2, c2, he2, hc2, hr2⟩ := hK2
  simp [Value.cells] at he2
  obtain ⟨rfl, rfl, rfl⟩ := he2
  clear hA0 hval0 hsz0 hsz hsz1
  refine (sorts_row W _ _ l0 _ _ l1 _ _ l2 hr0 hc0 w0 hr1 hc1 w1 hr2 hc2 w2).mono fun e W' ⟨he, bel⟩ => ?_
  subst he
  exact ⟨_, rfl, _, _, _, [], _, [], hW', trodAll_mk1 (shut_bool Try.underlying4 _), (trodAll_cons_mk (Below.trod laidOut (by kernel_rfl) (of_decide_eq_true (by kernel_rfl)) k0 bel lt0) (trodAll_cons_mk (Below.trod laidOut (by kernel_rfl) (of_decide_eq_true (by kernel_rfl)) k1 bel lt1) (trodAll_cons_mk (Below.trod laidOut (by kernel_rfl) (of_decide_eq_true (by kernel_rfl)) k2 bel lt2) trodAll_mk0))), rfl, bel.frame _, fun h => by cases h⟩
theorem over : Rows.rowSortsUptoRow.holds Try.pinned (Rows.OpenSpec.upto Rows.rowSortsSpec) :=
  OpenClaim.holds_of_cond 8 Try.f8 rfl rfl rfl rfl rfl rfl rfl ⟨rfl, rfl, rfl, rfl, rfl⟩ rfl rfl rfl rfl rfl (by kernel_rfl) Try.func8 (by kernel_rfl)
    (of_decide_eq_true (by kernel_rfl)) (by unfold Func.isWrapper; first | (rw [if_pos (by decide +kernel)]; kernel_rfl) | (rw [if_neg (by decide +kernel)]; exact ⟨rfl, rfl⟩))
    (fun os started H enc _ F => lifted os started H enc F)
theorem proved : Rows.RowSortsUptoSaid := over
#print axioms proved
end Go.Proofs.Ytplmfnjijhppaaa.rowSorts
namespace Go.Proofs.Ytplmfnjijhppaaa
/-- The row, under a short name, for the claim. -/
theorem rowSorts_holds : Rows.RowSortsUptoSaid := rowSorts.proved
end Go.Proofs.Ytplmfnjijhppaaa
