import Derived.Test.YtfppafpkppjmlaaRows
import Derived.Test.YtfppafpkppjmlaaFeedN
import Derived.Test.YtfppafpkppjmlaaMRead
import Derived.WalkKit
import Derived.ProofKit
import Derived.OpenShut
import Derived.ShutString
import Derived.ChangeOld
import Derived.Below
import Derived.SizedLaws
import Derived.JoinedCond
import Derived.Deep.CondSized
/- The row of the law FeedNewest: the walk by hand (feed_Newest), and the reading of what came in. No condition. -/
namespace Go.Proofs.Ytfppafpkppjmlaa.feedNewest
open Go.ChangeShapes Go.WideShapes Go.ChangeAt Go.RowKit Go.Proofs.Ytfppafpkppjmlaa.QFeedPlays Go.Proofs.YtfppafpkppjmlaaW.PrintWords Go.Proofs.Ytfppafpkppjmlaa.MRead
open Go.ChangeMaps (open_string shut_string)
set_option linter.unusedVariables false
theorem own : ownKnob Try.prog.godebug = none := by kernel_rfl
theorem laidOut : laidOutB Try.prog = true := by kernel_rfl
instance instT35 : Inhabited S35 := ⟨z35⟩
theorem rdT35 {H : Type} {enc : TypeId × Value → H} {W : World} {base : Nat} {held : Bool} : RdK enc Try.prog W base held 35 k35 (fun y => (y.f0.size ≤ 140737488351232) ∧ ((Lit.int .i64 y.f1).wf = true)) :=
  rd_struct (g := fun x : S35 => (x.f0, x.f1)) (fun a => ⟨a.1, a.2⟩) (fun _ => rfl) Try.underlying35 (total := 2) (by kernel_rfl) (rdf_cons (m := 1) rfl (by kernel_rfl) (rd_string Try.underlying9) (rdf_one (f := _) rfl (by kernel_rfl) (rd_int Try.underlying3)))
set_option maxRecDepth 100000 in
theorem lifted (os : Os) (started : os.Started) (H : Type) (enc : TypeId × Value → H) :
    ReturnsInHanded {} Try.checked os 5 .any (Rows.feedNewestSpec.pre6 enc Try.prog Try.f5 Rows.feedNewestRow.domain false) (Rows.feedNewestSpec.post enc Try.prog Try.f5 false true false false) := by
  refine returnsInHanded_of_change_sized (C := Try.checked) own started (by kernel_rfl) Try.func5
    (ChangeSpec.witness6 (enc := enc) (C := Try.checked) false ⟨#[], #[.int .i64 0, .slice none 0 0], []⟩ 8 (by kernel_rfl) (by kernel_rfl) (by kernel_rfl) (by kernel_rfl)) ?_
  intro W base args ds gs before hval0 hW hcnd hsz0 _
  have hsz1 : (DataW.weightsEach Try.prog (Try.f5.params.toList ++ Rows.feedNewestSpec.plain.varTypes Try.prog) (ds ++ gs)).all (· ≤ reachBytes) = true := hsz0
  have hsz := light_of_all hsz1
  have hval : ∀ (j : Nat) t v, Try.f5.params[j]? = some t → args[j]? = some v → Value.okWide Try.prog W .any base t v := hval0
  have hW' := hW
  obtain ⟨p, q, hA0, hV, rfl, hfz, hnd⟩ := hW
  have hA : DataW.TrodAll enc Try.prog W 0 (fun _ => true) true Try.f5.params.toList args.toList ds p := hA0
  rw [Try.params5] at hA hval hsz
  obtain ⟨v0, vs0, d0, ds0, p0, q0, hargs, rfl, rfl, h0, r0⟩ := trodAll_cons hA
  obtain ⟨v1, vs1, d1, ds1, p1, q1, rfl, rfl, rfl, h1, r1⟩ := trodAll_cons r0
  obtain ⟨rfl, rfl, rfl⟩ := trodAll_nil r1
  obtain rfl : args = #[v0, v1] := by cases args; simp_all
  obtain ⟨rfl, rfl⟩ := trodVars_none hV
  have k0 := h0
  obtain ⟨a0, rfl, rfl, rfl, w0⟩ := open_int Try.underlying3 (hval 0 3 v0 rfl rfl) h0
  have k1 := h1
  have lt1 : ∀ x ∈ p1, x.block < W.heap.size := by obtain ⟨m, hm⟩ := k1; exact DataW.trod_lt m _ _ _ hm
  have g1 := weights_arg hsz (j := 1) (t := 22) (d := d1) rfl rfl
  obtain ⟨b1, m1, n1, rfl⟩ := okWide_slice Try.underlying22 (hval 1 22 v1 rfl rfl)
  obtain ⟨l1, hK1, w1⟩ := arg_kind (rd_slice (B := 24) Try.underlying22 (by kernel_rfl) (by kernel_rfl) rdT35) k1 g1
  obtain ⟨A1, c1, he1, hc1, hr1⟩ := hK1
  simp [Value.cells] at he1
  obtain ⟨rfl, rfl, rfl⟩ := he1
  clear hA0 hval0 hsz0 hsz hsz1
  refine (feed_Newest W a0 _ _ l1 hr1 hc1 (fun p hp => Nat.le_trans (w1.1 p hp).1 (by decide))).mono fun e W' ⟨he, bel⟩ => ?_
  subst he
  exact ⟨_, rfl, _, _, _, [], _, [], hW', trodAll_mk1 (shut_bool Try.underlying4 _), (trodAll_cons_mk (shut_int Try.underlying3 w0) (trodAll_cons_mk (Below.trod laidOut (by kernel_rfl) (of_decide_eq_true (by kernel_rfl)) k1 bel lt1) trodAll_mk0)), rfl, bel.frame _, fun h => by cases h⟩
theorem over : Rows.feedNewestRow.holds Try.pinned (OpenSpec.ofChange Rows.feedNewestSpec) :=
  OpenClaim.holds_of_wide 5 Try.f5 rfl rfl rfl rfl rfl rfl rfl ⟨rfl, rfl, rfl, rfl, rfl⟩ rfl rfl rfl rfl rfl (by kernel_rfl) Try.func5 (by kernel_rfl)
    (of_decide_eq_true (by kernel_rfl)) (by unfold Func.isWrapper; first | (rw [if_pos (by decide +kernel)]; kernel_rfl) | (rw [if_neg (by decide +kernel)]; exact ⟨rfl, rfl⟩))
    (fun os started H enc _ => lifted os started H enc)
theorem proved : Rows.FeedNewestSaid := over
#print axioms proved
end Go.Proofs.Ytfppafpkppjmlaa.feedNewest
namespace Go.Proofs.Ytfppafpkppjmlaa
/-- The row, under a short name, for the claim. -/
theorem feedNewest_holds : Rows.FeedNewestSaid := feedNewest.proved
end Go.Proofs.Ytfppafpkppjmlaa
