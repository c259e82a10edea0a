-- Written by wip/tools/myprint.py of this project (the kit's printer with lines replaced in memory, and texts of ours)
import Derived.Test.YtplmfnjijhppaaaRows
import Derived.Test.YtplmfnjijhppaaaQRowTwox6
import Derived.Test.YtplmfnjijhppaaaPureRowTwo
import Derived.Test.YtplmfnjijhppaaaMRead
import Derived.WalkKit
import Derived.ProofKit
import Derived.OpenShut
import Derived.ShutString
import Derived.ChangeOld
import Derived.Below
import Derived.SizedLaws
import Derived.JoinedCond
import Derived.Deep.CondSized
/- The row of the law RowTwo: its pure statement (proved in YtplmfnjijhppaaaPureRowTwo), the printed contract, and the reading of what came in. For arguments of bulk at most 1048576 (the given second form of the statement). -/
namespace Go.Proofs.Ytplmfnjijhppaaa.rowTwo
open Go.ChangeShapes Go.WideShapes Go.ChangeAt Go.RowKit Go.Proofs.Ytplmfnjijhppaaa.QRowTwo Go.Proofs.YtplmfnjijhppaaaW.PrintWords Go.Proofs.Ytplmfnjijhppaaa.MRead
open Go.ChangeMaps (open_string shut_string)
set_option linter.unusedVariables false
theorem own : ownKnob Try.prog.godebug = none := by kernel_rfl
theorem laidOut : laidOutB Try.prog = true := by kernel_rfl
instance instT36 : Inhabited S36 := ⟨z36⟩
theorem rdT36 {H : Type} {enc : TypeId × Value → H} {W : World} {base : Nat} {held : Bool} : RdK enc Try.prog W base held 36 k36 (fun y => ((Lit.int .i64 y.f0).wf = true) ∧ (((Lit.int .i64 y.f1).wf = true) ∧ (y.f2.size ≤ 140737488351232))) :=
  rd_struct (g := fun x : S36 => (x.f0, x.f1, x.f2)) (fun a => ⟨a.1, a.2.1, a.2.2⟩) (fun _ => rfl) Try.underlying36 (total := 3) (by kernel_rfl) (rdf_cons (m := 1) rfl (by kernel_rfl) (rd_int Try.underlying3) (rdf_cons (m := 1) rfl (by kernel_rfl) (rd_int Try.underlying3) (rdf_one (f := _) rfl (by kernel_rfl) (rd_string Try.underlying9))))
theorem bulk_one {H : Type} (d : DataW H) : 1 ≤ Rows.uptoBulk d := by
  cases d with
  | lit l => cases l <;> simp [Rows.uptoBulk]
  | nil => simp [Rows.uptoBulk]
  | ptr d => simp [Rows.uptoBulk]
  | slice elems spare => simp [Rows.uptoBulk]
  | agg parts => simp [Rows.uptoBulk]
  | iface t d => simp [Rows.uptoBulk]
  | map entries => simp [Rows.uptoBulk]
  | held h => simp [Rows.uptoBulk]
theorem bulk_len {H : Type} (l : List (DataW H)) : l.length ≤ Rows.uptoBulkAll l := by
  induction l with
  | nil => simp [Rows.uptoBulkAll]
  | cons x r ih =>
    have := bulk_one x
    simp only [Rows.uptoBulkAll, List.length_cons]
    omega
theorem slice_bulk {H : Type} {enc : TypeId × Value → H} {W : World} {base : Nat} {sp : Nat → Bool} {held : Bool} {t e : TypeId} {A : Option Addr} {n c : Nat} {d : DataW H} {ps : List MemPlace} (ht : Try.prog.underlying t = some (.slice e)) (h : DataW.Trod enc Try.prog W base sp held t (.slice A n c) d ps) : n ≤ Rows.uptoBulk d := by
  obtain ⟨fuel, hf⟩ := h
  rcases DataW.trod_slice ht hf with ⟨h1, h2⟩ | ⟨a, len, cap, elems, rest, m, _, h1, h2, _, _, _, hl, _⟩
  · simp [Value.cells] at h1
    omega
  · simp [Value.cells] at h1
    obtain ⟨rfl, rfl⟩ := Prod.mk.inj h2
    have := bulk_len (elems.map (·.1))
    rw [List.length_map] at this
    simp only [Rows.uptoBulk]
    omega
set_option maxRecDepth 100000 in
theorem lifted (os : Os) (started : os.Started) (H : Type) (enc : TypeId × Value → H) (F : Stop.Interp) :
    ReturnsInHanded {} Try.checked os 6 .any ((Rows.OpenSpec.upto Rows.rowTwoSpec).pre6 enc Try.prog Try.f6 Rows.rowTwoUptoRow.domain false) (((Rows.OpenSpec.upto Rows.rowTwoSpec).at F).post enc Try.prog Try.f6 false true false false) := by
  refine returnsInHanded_of_cond_sized (C := Try.checked) (s := Rows.OpenSpec.upto Rows.rowTwoSpec) (k := Rows.uptoSmall) rfl own started (by kernel_rfl) Try.func6
    (OpenSpec.witness (enc := enc) (C := Try.checked) (s := Rows.OpenSpec.upto Rows.rowTwoSpec) (k := Rows.uptoSmall) rfl false ⟨#[], #[.slice none 0 0, .slice none 0 0], []⟩ 8 (by kernel_rfl) (by kernel_rfl) (by kernel_rfl)
      (x := ([.nil, .nil], [], [])) (by kernel_rfl) rfl (by kernel_rfl)) ?_
  intro W base args ds gs before hval0 hW hcnd hbulk hsz0 _
  have hsz1 : (DataW.weightsEach Try.prog (Try.f6.params.toList ++ Rows.rowTwoSpec.plain.varTypes Try.prog) (ds ++ gs)).all (· ≤ reachBytes) = true := hsz0
  have hsz := light_of_all hsz1
  have hval : ∀ (j : Nat) t v, Try.f6.params[j]? = some t → args[j]? = some v → Value.okWide Try.prog W .any base t v := hval0
  have hW' := hW
  obtain ⟨p, q, hA0, hV, rfl, hfz, hnd⟩ := hW
  have hA : DataW.TrodAll enc Try.prog W 0 (fun _ => true) true Try.f6.params.toList args.toList ds p := hA0
  rw [Try.params6] at hA hval hsz
  obtain ⟨v0, vs0, d0, ds0, p0, q0, hargs, rfl, rfl, h0, r0⟩ := trodAll_cons hA
  obtain ⟨v1, vs1, d1, ds1, p1, q1, rfl, rfl, rfl, h1, r1⟩ := trodAll_cons r0
  obtain ⟨rfl, rfl, rfl⟩ := trodAll_nil r1
  obtain rfl : args = #[v0, v1] := by cases args; simp_all
  obtain ⟨rfl, rfl⟩ := trodVars_none hV
  have k0 := h0
  have lt0 : ∀ x ∈ p0, x.block < W.heap.size := by obtain ⟨m, hm⟩ := k0; exact DataW.trod_lt m _ _ _ hm
  have g0 := weights_arg hsz (j := 0) (t := 22) (d := d0) rfl rfl
  obtain ⟨b0, m0, n0, rfl⟩ := okWide_slice Try.underlying22 (hval 0 22 v0 rfl rfl)
  obtain ⟨l0, hK0, w0⟩ := arg_kind (rd_slice (B := 32) Try.underlying22 (by kernel_rfl) (by kernel_rfl) rdT36) k0 g0
  obtain ⟨A0, c0, he0, hc0, hr0⟩ := hK0
  simp [Value.cells] at he0
  obtain ⟨rfl, rfl, rfl⟩ := he0
  have k1 := h1
  have lt1 : ∀ x ∈ p1, x.block < W.heap.size := by obtain ⟨m, hm⟩ := k1; exact DataW.trod_lt m _ _ _ hm
  have g1 := weights_arg hsz (j := 1) (t := 22) (d := d1) rfl rfl
  obtain ⟨b1, m1, n1, rfl⟩ := okWide_slice Try.underlying22 (hval 1 22 v1 rfl rfl)
  obtain ⟨l1, hK1, w1⟩ := arg_kind (rd_slice (B := 32) Try.underlying22 (by kernel_rfl) (by kernel_rfl) rdT36) k1 g1
  obtain ⟨A1, c1, he1, hc1, hr1⟩ := hK1
  simp [Value.cells] at he1
  obtain ⟨rfl, rfl, rfl⟩ := he1
  clear hA0 hval0 hsz0 hsz hsz1
  have hb : Rows.uptoBulkAll ([d0, d1] ++ []) ≤ 1048576 := of_decide_eq_true hbulk
  simp only [List.append_nil, Rows.uptoBulkAll] at hb
  have hs0 : l0.length ≤ 1048576 := by have := slice_bulk Try.underlying22 k0; omega
  have hs1 : l1.length ≤ 1048576 := by have := slice_bulk Try.underlying22 k1; omega
  obtain ⟨k, hk⟩ := Pure.RowTwo l0 l1 hs0 hs1
  refine (weathercocklaw02_RowTwo.calls k _ _ l0 _ _ l1 true W hr0 hc0 hr1 hc1 hk rfl).mono fun e W' ⟨he, bel⟩ => ?_
  subst he
  exact ⟨_, rfl, _, _, _, [], _, [], hW', trodAll_mk1 (shut_bool Try.underlying4 _), (trodAll_cons_mk (Below.trod laidOut (by kernel_rfl) (of_decide_eq_true (by kernel_rfl)) k0 bel lt0) (trodAll_cons_mk (Below.trod laidOut (by kernel_rfl) (of_decide_eq_true (by kernel_rfl)) k1 bel lt1) trodAll_mk0)), rfl, bel.frame _, fun h => by cases h⟩
theorem over : Rows.rowTwoUptoRow.holds Try.pinned (Rows.OpenSpec.upto Rows.rowTwoSpec) :=
  OpenClaim.holds_of_cond 6 Try.f6 rfl rfl rfl rfl rfl rfl rfl ⟨rfl, rfl, rfl, rfl, rfl⟩ rfl rfl rfl rfl rfl (by kernel_rfl) Try.func6 (by kernel_rfl)
    (of_decide_eq_true (by kernel_rfl)) (by unfold Func.isWrapper; first | (rw [if_pos (by decide +kernel)]; kernel_rfl) | (rw [if_neg (by decide +kernel)]; exact ⟨rfl, rfl⟩))
    (fun os started H enc _ F => lifted os started H enc F)
theorem proved : Rows.RowTwoUptoSaid := over
#print axioms proved
end Go.Proofs.Ytplmfnjijhppaaa.rowTwo
namespace Go.Proofs.Ytplmfnjijhppaaa
/-- The row, under a short name, for the claim. -/
theorem rowTwo_holds : Rows.RowTwoUptoSaid := rowTwo.proved
end Go.Proofs.Ytplmfnjijhppaaa
