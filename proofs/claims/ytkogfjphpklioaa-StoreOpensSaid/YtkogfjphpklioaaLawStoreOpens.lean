import Derived.Test.YtkogfjphpklioaaRows
import Derived.Test.YtkogfjphpklioaaStV
import Derived.Test.YtkogfjphpklioaaMRead
import Derived.WalkKit
import Derived.ProofKit
import Derived.OpenShut
import Derived.ShutString
import Derived.ChangeOld
import Derived.Below
import Derived.SizedLaws
import Derived.JoinedCond
import Derived.Deep.CondSized
import Derived.HandedShaped
import Derived.Shelf.Vars
/- The row of the law StoreOpens: the walk by hand (opens_row), and the reading of what came in. No condition. -/
namespace Go.Proofs.Ytkogfjphpklioaa.storeOpens
open Go.ChangeShapes Go.WideShapes Go.ChangeAt Go.RowKit Go.Proofs.Ytkogfjphpklioaa.QStoreNames Go.Proofs.YtkogfjphpklioaaW.PrintWords Go.Proofs.Ytkogfjphpklioaa.MRead
open Go.ChangeMaps (open_string shut_string)
set_option linter.unusedVariables false
theorem own : ownKnob Try.prog.godebug = none := by kernel_rfl
theorem laidOut : laidOutB Try.prog = true := by kernel_rfl
instance instT36 : Inhabited S36 := ⟨z36⟩
instance instT38 : Inhabited S38 := ⟨z38⟩
instance instT33 : Inhabited S33 := ⟨z33⟩
theorem rdT36 {H : Type} {enc : TypeId × Value → H} {W : World} {base : Nat} {held : Bool} : RdK enc Try.prog W base held 36 k36 sz36 :=
  rd_struct (g := fun x : S36 => (x.f0, x.f1, x.f2)) (fun a => ⟨a.1, a.2.1, a.2.2⟩) (fun _ => rfl) Try.underlying36 (total := 3) (by kernel_rfl) (rdf_cons (m := 1) rfl (by kernel_rfl) (rd_int Try.underlying3) (rdf_cons (m := 1) rfl (by kernel_rfl) (rd_int Try.underlying3) (rdf_one (f := _) rfl (by kernel_rfl) (rd_string Try.underlying9))))
theorem rdT38 {H : Type} {enc : TypeId × Value → H} {W : World} {base : Nat} {held : Bool} : RdK enc Try.prog W base held 38 k38 sz38 :=
  rd_struct (g := fun x : S38 => (x.f0, x.f1)) (fun a => ⟨a.1, a.2⟩) (fun _ => rfl) Try.underlying38 (total := 2) (by kernel_rfl) (rdf_cons (m := 1) rfl (by kernel_rfl) (rd_string Try.underlying9) (rdf_one (f := _) rfl (by kernel_rfl) (rd_int Try.underlying3)))
theorem rdT33 {H : Type} {enc : TypeId × Value → H} {W : World} {base : Nat} {held : Bool} : RdK enc Try.prog W base held 33 k33 sz33 :=
  rd_struct (g := fun x : S33 => (x.f0, x.f1, x.f2)) (fun a => ⟨a.1, a.2.1, a.2.2⟩) (fun _ => rfl) Try.underlying33 (total := 3) (by kernel_rfl) (rdf_cons (m := 1) rfl (by kernel_rfl) (rd_string Try.underlying9) (rdf_cons (m := 1) rfl (by kernel_rfl) (rd_slice (B := 24) Try.underlying30 (by kernel_rfl) (by kernel_rfl) rdT38) (rdf_one (f := _) rfl (by kernel_rfl) (rd_slice (B := 24) Try.underlying31 (by kernel_rfl) (by kernel_rfl) (rd_slice (B := 32) Try.underlying34 (by kernel_rfl) (by kernel_rfl) rdT36)))))
set_option maxRecDepth 100000 in
theorem lifted (os : Os) (started : os.Started) (H : Type) (enc : TypeId × Value → H) :
    ReturnsInHanded {} Try.checked os 6 .any (Rows.storeOpensSpec.pre6 enc Try.prog Try.f6 Rows.storeOpensRow.domain false) (Rows.storeOpensSpec.post enc Try.prog Try.f6 false true false false) := by
  refine returnsInHanded_of_change_shaped (C := Try.checked) own started (by kernel_rfl) Try.func6
    (ChangeSpec.witness6 (enc := enc) (C := Try.checked) false ⟨#[], #[.slice none 0 0, .string (⟨#[]⟩ : ByteArray), .int .i64 0, .int .i64 0], []⟩ 8 (by kernel_rfl) (by kernel_rfl) (by kernel_rfl) (by kernel_rfl)) ?_
  intro W base args ds gs before hval0 hW hcnd hsz0 hsh _
  have hsz1 : (DataW.weightsEach Try.prog (Try.f6.params.toList ++ Rows.storeOpensSpec.plain.varTypes Try.prog) (ds ++ gs)).all (· ≤ reachBytes) = true := hsz0
  have hsz := light_of_all hsz1
  have hval : ∀ (j : Nat) t v, Try.f6.params[j]? = some t → args[j]? = some v → Value.okWide Try.prog W .any base t v := hval0
  have hW' := hW
  obtain ⟨p, q, hA0, hV, rfl, hfz, hnd⟩ := hW
  have hA : DataW.TrodAll enc Try.prog W 0 (fun _ => true) true Try.f6.params.toList args.toList ds p := hA0
  rw [Try.params6] at hA hval hsz
  have shx := (⟨cell_of_shapedOpen_int (P := Try.prog) (g := 0) (t := 3) (zero := #[.int .i64 0]) hsh (of_decide_eq_true (by kernel_rfl)) (by kernel_rfl) rfl (by kernel_rfl) (by kernel_rfl) Try.underlying3⟩ : ShB W)
  obtain ⟨v0, vs0, d0, ds0, p0, q0, hargs, rfl, rfl, h0, r0⟩ := trodAll_cons hA
  obtain ⟨v1, vs1, d1, ds1, p1, q1, rfl, rfl, rfl, h1, r1⟩ := trodAll_cons r0
  obtain ⟨v2, vs2, d2, ds2, p2, q2, rfl, rfl, rfl, h2, r2⟩ := trodAll_cons r1
  obtain ⟨v3, vs3, d3, ds3, p3, q3, rfl, rfl, rfl, h3, r3⟩ := trodAll_cons r2
  obtain ⟨rfl, rfl, rfl⟩ := trodAll_nil r3
  obtain rfl : args = #[v0, v1, v2, v3] := by cases args; simp_all
  obtain ⟨rfl, rfl⟩ := trodVars_none hV
  have k0 := h0
  have lt0 : ∀ x ∈ p0, x.block < W.heap.size := by obtain ⟨m, hm⟩ := k0; exact DataW.trod_lt m _ _ _ hm
  have g0 := weights_arg hsz (j := 0) (t := 22) (d := d0) rfl rfl
  obtain ⟨b0, m0, n0, rfl⟩ := okWide_slice Try.underlying22 (hval 0 22 v0 rfl rfl)
  obtain ⟨l0, hK0, w0⟩ := arg_kind (rd_slice (B := 64) Try.underlying22 (by kernel_rfl) (by kernel_rfl) rdT33) k0 g0
  obtain ⟨A0, c0, he0, hc0, hr0⟩ := hK0
  simp [Value.cells] at he0
  obtain ⟨rfl, rfl, rfl⟩ := he0
  have k1 := h1
  have lt1 : ∀ x ∈ p1, x.block < W.heap.size := by obtain ⟨m, hm⟩ := k1; exact DataW.trod_lt m _ _ _ hm
  have g1 := weights_arg hsz (j := 1) (t := 9) (d := d1) rfl rfl
  obtain ⟨a1, rfl, hd1, _, y1⟩ := open_string Try.underlying9 (hval 1 9 v1 rfl rfl) h1
  obtain ⟨b1, hb1, w1⟩ := arg_kind (rd_string Try.underlying9) k1 g1
  obtain rfl : a1 = b1 := by simpa [Value.cells, Kd.string, Kd.scalar] using hb1
  have k2 := h2
  obtain ⟨a2, rfl, rfl, rfl, w2⟩ := open_int Try.underlying3 (hval 2 3 v2 rfl rfl) h2
  have k3 := h3
  obtain ⟨a3, rfl, rfl, rfl, w3⟩ := open_int Try.underlying3 (hval 3 3 v3 rfl rfl) h3
  clear hA0 hval0 hsz0 hsz hsz1
  refine (opens_row W shx _ _ l0 a1 a2 a3 hr0 hc0 w0 w1 w2 w3).mono fun e W' ⟨he, bel⟩ => ?_
  subst he
  exact ⟨_, rfl, _, _, _, [], _, [], hW', trodAll_mk1 (shut_bool Try.underlying4 _), (trodAll_cons_mk (Below.trod laidOut (by kernel_rfl) (of_decide_eq_true (by kernel_rfl)) k0 bel lt0) (trodAll_cons_mk (Below.trod laidOut (by kernel_rfl) (of_decide_eq_true (by kernel_rfl)) k1 bel lt1) (trodAll_cons_mk (shut_int Try.underlying3 w2) (trodAll_cons_mk (shut_int Try.underlying3 w3) trodAll_mk0)))), rfl, bel.frame _, fun h => by cases h⟩
theorem over : Rows.storeOpensRow.holds Try.pinned (OpenSpec.ofChange Rows.storeOpensSpec) :=
  OpenClaim.holds_of_wide 6 Try.f6 rfl rfl rfl rfl rfl rfl rfl ⟨rfl, rfl, rfl, rfl, rfl⟩ rfl rfl rfl rfl rfl (by kernel_rfl) Try.func6 (by kernel_rfl)
    (of_decide_eq_true (by kernel_rfl)) (by unfold Func.isWrapper; first | (rw [if_pos (by decide +kernel)]; kernel_rfl) | (rw [if_neg (by decide +kernel)]; exact ⟨rfl, rfl⟩))
    (fun os started H enc _ => lifted os started H enc)
theorem proved : Rows.StoreOpensSaid := over
#print axioms proved
end Go.Proofs.Ytkogfjphpklioaa.storeOpens
namespace Go.Proofs.Ytkogfjphpklioaa
/-- The row, under a short name, for the claim. -/
theorem storeOpens_holds : Rows.StoreOpensSaid := storeOpens.proved
end Go.Proofs.Ytkogfjphpklioaa
