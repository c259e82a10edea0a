import Derived.Test.YtpkhdljlhdomlaaRows
import Derived.Test.YtpkhdljlhdomlaaIxU
import Derived.Test.YtpkhdljlhdomlaaMRead
import Derived.WalkKit
import Derived.ProofKit
import Derived.OpenShut
import Derived.ShutString
import Derived.ChangeOld
import Derived.Below
import Derived.SizedLaws
import Derived.JoinedCond
import Derived.Deep.CondSized
/- The row of the law IndexRanges: the walk by hand (ranges_row), and the reading of what came in. No condition. -/
namespace Go.Proofs.Ytpkhdljlhdomlaa.indexRanges
open Go.ChangeShapes Go.WideShapes Go.ChangeAt Go.RowKit Go.Proofs.Ytpkhdljlhdomlaa.QIndexFinds Go.Proofs.YtpkhdljlhdomlaaW.PrintWords Go.Proofs.Ytpkhdljlhdomlaa.MRead
open Go.ChangeMaps (open_string shut_string)
set_option linter.unusedVariables false
theorem own : ownKnob Try.prog.godebug = none := by kernel_rfl
theorem laidOut : laidOutB Try.prog = true := by kernel_rfl
instance instT24 : Inhabited S24 := ⟨z24⟩
theorem rdT24 {H : Type} {enc : TypeId × Value → H} {W : World} {base : Nat} {held : Bool} : RdK enc Try.prog W base held 24 k24 (fun y => ((Lit.int .i64 y.f0).wf = true) ∧ (((Lit.int .i64 y.f1).wf = true) ∧ (y.f2.size ≤ 140737488351232))) :=
  rd_struct (g := fun x : S24 => (x.f0, x.f1, x.f2)) (fun a => ⟨a.1, a.2.1, a.2.2⟩) (fun _ => rfl) Try.underlying24 (total := 3) (by kernel_rfl) (rdf_cons (m := 1) rfl (by kernel_rfl) (rd_int Try.underlying3) (rdf_cons (m := 1) rfl (by kernel_rfl) (rd_int Try.underlying3) (rdf_one (f := _) rfl (by kernel_rfl) (rd_string Try.underlying9))))
set_option maxRecDepth 100000 in
theorem lifted (os : Os) (started : os.Started) (H : Type) (enc : TypeId × Value → H) :
    ReturnsInHanded {} Try.checked os 4 .any (Rows.indexRangesSpec.pre6 enc Try.prog Try.f4 Rows.indexRangesRow.domain false) (Rows.indexRangesSpec.post enc Try.prog Try.f4 false true false false) := by
  refine returnsInHanded_of_change_sized (C := Try.checked) own started (by kernel_rfl) Try.func4
    (ChangeSpec.witness6 (enc := enc) (C := Try.checked) false ⟨#[], #[.slice none 0 0, .agg #[.int .i64 0, .int .i64 0, .string ByteArray.empty], .agg #[.int .i64 0, .int .i64 0, .string ByteArray.empty]], []⟩ 8 (by kernel_rfl) (by kernel_rfl) (by kernel_rfl) (by kernel_rfl)) ?_
  intro W base args ds gs before hval0 hW hcnd hsz0 _
  have hsz1 : (DataW.weightsEach Try.prog (Try.f4.params.toList ++ Rows.indexRangesSpec.plain.varTypes Try.prog) (ds ++ gs)).all (· ≤ reachBytes) = true := hsz0
  have hsz := light_of_all hsz1
  have hval : ∀ (j : Nat) t v, Try.f4.params[j]? = some t → args[j]? = some v → Value.okWide Try.prog W .any base t v := hval0
  have hW' := hW
  obtain ⟨p, q, hA0, hV, rfl, hfz, hnd⟩ := hW
  have hA : DataW.TrodAll enc Try.prog W 0 (fun _ => true) true Try.f4.params.toList args.toList ds p := hA0
  rw [Try.params4] at hA hval hsz
  obtain ⟨v0, vs0, d0, ds0, p0, q0, hargs, rfl, rfl, h0, r0⟩ := trodAll_cons hA
  obtain ⟨v1, vs1, d1, ds1, p1, q1, rfl, rfl, rfl, h1, r1⟩ := trodAll_cons r0
  obtain ⟨v2, vs2, d2, ds2, p2, q2, rfl, rfl, rfl, h2, r2⟩ := trodAll_cons r1
  obtain ⟨rfl, rfl, rfl⟩ := trodAll_nil r2
  obtain rfl : args = #[v0, v1, v2] := by cases args; simp_all
  obtain ⟨rfl, rfl⟩ := trodVars_none hV
  have k0 := h0
  have lt0 : ∀ x ∈ p0, x.block < W.heap.size := by obtain ⟨m, hm⟩ := k0; exact DataW.trod_lt m _ _ _ hm
  have g0 := weights_arg hsz (j := 0) (t := 22) (d := d0) rfl rfl
  obtain ⟨b0, m0, n0, rfl⟩ := okWide_slice Try.underlying22 (hval 0 22 v0 rfl rfl)
  obtain ⟨l0, hK0, w0⟩ := arg_kind (rd_slice (B := 32) Try.underlying22 (by kernel_rfl) (by kernel_rfl) rdT24) k0 g0
  obtain ⟨A0, c0, he0, hc0, hr0⟩ := hK0
  simp [Value.cells] at he0
  obtain ⟨rfl, rfl, rfl⟩ := he0
  have k1 := h1
  have lt1 : ∀ x ∈ p1, x.block < W.heap.size := by obtain ⟨m, hm⟩ := k1; exact DataW.trod_lt m _ _ _ hm
  have g1 := weights_arg hsz (j := 1) (t := 24) (d := d1) rfl rfl
  obtain ⟨cs1, rfl, hcs1⟩ := agg_cells Try.underlying24 (hval 1 24 v1 rfl rfl)
  obtain ⟨y1, hK1, w1⟩ := arg_kind rdT24 k1 g1
  rw [hcs1] at hK1
  obtain he1 := k24_open hK1
  obtain rfl : cs1 = #[.int .i64 y1.f0, .int .i64 y1.f1, .string y1.f2] := Array.ext' he1
  have k2 := h2
  have lt2 : ∀ x ∈ p2, x.block < W.heap.size := by obtain ⟨m, hm⟩ := k2; exact DataW.trod_lt m _ _ _ hm
  have g2 := weights_arg hsz (j := 2) (t := 24) (d := d2) rfl rfl
  obtain ⟨cs2, rfl, hcs2⟩ := agg_cells Try.underlying24 (hval 2 24 v2 rfl rfl)
  obtain ⟨y2, hK2, w2⟩ := arg_kind rdT24 k2 g2
  rw [hcs2] at hK2
  obtain he2 := k24_open hK2
  obtain rfl : cs2 = #[.int .i64 y2.f0, .int .i64 y2.f1, .string y2.f2] := Array.ext' he2
  clear hA0 hval0 hsz0 hsz hsz1
  refine (ranges_row W _ _ l0 y1 y2 hr0 hc0 w0 w1 w2).mono fun e W' ⟨he, bel⟩ => ?_
  subst he
  exact ⟨_, rfl, _, _, _, [], _, [], hW', trodAll_mk1 (shut_bool Try.underlying4 _), (trodAll_cons_mk (Below.trod laidOut (by kernel_rfl) (of_decide_eq_true (by kernel_rfl)) k0 bel lt0) (trodAll_cons_mk (Below.trod laidOut (by kernel_rfl) (of_decide_eq_true (by kernel_rfl)) k1 bel lt1) (trodAll_cons_mk (Below.trod laidOut (by kernel_rfl) (of_decide_eq_true (by kernel_rfl)) k2 bel lt2) trodAll_mk0))), rfl, bel.frame _, fun h => by cases h⟩
theorem over : Rows.indexRangesRow.holds Try.pinned (OpenSpec.ofChange Rows.indexRangesSpec) :=
  OpenClaim.holds_of_wide 4 Try.f4 rfl rfl rfl rfl rfl rfl rfl ⟨rfl, rfl, rfl, rfl, rfl⟩ rfl rfl rfl rfl rfl (by kernel_rfl) Try.func4 (by kernel_rfl)
    (of_decide_eq_true (by kernel_rfl)) (by unfold Func.isWrapper; first | (rw [if_pos (by decide +kernel)]; kernel_rfl) | (rw [if_neg (by decide +kernel)]; exact ⟨rfl, rfl⟩))
    (fun os started H enc _ => lifted os started H enc)
theorem proved : Rows.IndexRangesSaid := over
#print axioms proved
end Go.Proofs.Ytpkhdljlhdomlaa.indexRanges
namespace Go.Proofs.Ytpkhdljlhdomlaa
/-- The row, under a short name, for the claim. -/
theorem indexRanges_holds : Rows.IndexRangesSaid := indexRanges.proved
end Go.Proofs.Ytpkhdljlhdomlaa
