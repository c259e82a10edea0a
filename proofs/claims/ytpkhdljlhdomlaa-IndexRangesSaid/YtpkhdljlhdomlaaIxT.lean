import Derived.Test.YtpkhdljlhdomlaaIxS
/- Index: walks by hand; the conditions stand in each theorem. -/
namespace Go.Proofs.Ytpkhdljlhdomlaa.QIndexFinds
open Go.RowKit Go.Proofs.YtpkhdljlhdomlaaW.PrintWords Go.Proofs.YtpkhdljlhdomlaaW.PrintLast Go.Proofs.YtpkhdljlhdomlaaW.PrintMore
attribute [local go_sem] max2_int min2_int max_two min_two max_three min_three max_four min_four
set_option linter.unusedVariables false
set_option linter.unusedSimpArgs false
theorem finds_row (W : World) (A : Option Addr) (c : Nat) (l : List S24) (v : S24) (hr : k24.C W A l.length l) (hc : l.length ≤ c) {p : Prop} (hw : (∀ x ∈ l, (Lit.int .i64 x.f0).wf = true ∧ ((Lit.int .i64 x.f1).wf = true ∧ x.f2.size ≤ 140737488351232)) ∧ p) (hv : (Lit.int .i64 v.f0).wf = true ∧ ((Lit.int .i64 v.f1).wf = true ∧ v.f2.size ≤ 140737488351232)) :
    Calls Try.prog 3 #[.slice A l.length c, .agg #[.int .i64 v.f0, .int .i64 v.f1, .string v.f2]] W fun e w' => e = .returned (.bool true) ∧ Below W.heap.size W w' :=
  finds3 W A c l v hr (fun x hx => ⟨(hw.1 x hx).1, (hw.1 x hx).2.1, Nat.le_trans (hw.1 x hx).2.2 (by decide)⟩) ⟨hv.1, hv.2.1, Nat.le_trans hv.2.2 (by decide)⟩

end Go.Proofs.Ytpkhdljlhdomlaa.QIndexFinds
