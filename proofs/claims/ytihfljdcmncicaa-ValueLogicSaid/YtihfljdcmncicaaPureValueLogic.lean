import Derived.Test.YtihfljdcmncicaaQValueLogicx5
import Derived.Lib.Mul64
import Derived.Laws.MathBits
/- ValueLogic: the pure statement of the law ValueLogic, proved: over the functions that the printer wrote for the Go code. No condition beside the statement's own. -/
namespace Go.Proofs.Ytihfljdcmncicaa.Pure
open Go.RowKit Go.Proofs.Ytihfljdcmncicaa.QValueLogic Go.Proofs.YtihfljdcmncicaaW.PrintWords Go.Proofs.YtihfljdcmncicaaW.PrintLast Go.Proofs.YtihfljdcmncicaaW.PrintMore
set_option linter.unusedVariables false

/- BLOCK base -/
theorem ev_pos {α : Type} {c : Prop} [Decidable c] {A B : Nat → Option α} {r : α} (h : c) (k : Ev A r) : Ev (fun n => if c then A n else B n) r := Ev.congr (fun _ => if_pos h) k
theorem ev_neg {α : Type} {c : Prop} [Decidable c] {A B : Nat → Option α} {r : α} (h : ¬ c) (k : Ev B r) : Ev (fun n => if c then A n else B n) r := Ev.congr (fun _ => if_neg h) k
theorem ev_some {α : Type} (r : α) : Ev (fun _ => some r) r := Ev.now r
theorem ev_eq {α : Type} {A : Nat → Option α} {r : α} (h : ∀ k, A k = some r) : Ev A r := ⟨0, fun k _ => h k⟩
theorem w64 {n : Int} (h0 : -9223372036854775808 ≤ n) (h1 : n ≤ 9223372036854775807) : wrap64 n = n := by unfold wrap64; omega
theorem u64w {n : Int} (h0 : 0 ≤ n) (h1 : n < 18446744073709551616) : IntKind.u64.wrap n = n := by
  have : IntKind.u64.wrap n = n % 18446744073709551616 := by simp [IntKind.wrap, IntKind.bits, IntKind.signed]
  rw [this]; omega
theorem u64m (n : Int) : IntKind.u64.wrap n = n % 18446744073709551616 := by simp [IntKind.wrap, IntKind.bits, IntKind.signed]
theorem i64_bd {n : Int} (h : (Lit.int .i64 n).wf = true) : -9223372036854775808 ≤ n ∧ n ≤ 9223372036854775807 := by
  simp [Lit.wf, IntKind.min, IntKind.max, IntKind.bits, IntKind.signed] at h; omega
theorem mn_def (a b : Int) : mn a b = if b < a then b else a := rfl
theorem mx_def (a b : Int) : mx a b = if a < b then b else a := rfl
theorem rd_get (l : List Int) (i : Int) (h : i.toNat < l.length) : rd l i = l[i.toNat] := by
  unfold rd; rw [List.getD_eq_getElem?_getD, List.getElem?_eq_getElem h]; rfl

/- BLOCK the law ValueLogic -/
theorem pick_in (a : Int) (h0 : -9223372036854775808 ≤ a) (h1 : a ≤ 9223372036854775807) : ∃ p, weathercocklaw01_pick.f a = some p ∧ (p = 0 ∨ p = 1 ∨ p = 2) := by
  unfold weathercocklaw01_pick.f
  by_cases c : a < 0
  · rw [if_pos c, w64 (n := a + 1) (by omega) (by omega), w64 (by omega) (by omega), Int.tmod_eq_emod_of_nonneg (by omega)]
    exact ⟨_, rfl, by omega⟩
  · rw [if_neg c, Int.tmod_eq_emod_of_nonneg (by omega)]
    exact ⟨_, rfl, by omega⟩
theorem examples_k : weathercocklaw01_examples.f 40 = some true := by decide +kernel
set_option maxRecDepth 20000 in
theorem ValueLogic : weathercocklaw01_ValueLogic.Pure := by
  intro a b c wa wb wc
  obtain ⟨p, hp, p'⟩ := pick_in a (i64_bd wa).1 (i64_bd wa).2
  obtain ⟨q, hq, q'⟩ := pick_in b (i64_bd wb).1 (i64_bd wb).2
  obtain ⟨r, hr, r'⟩ := pick_in c (i64_bd wc).1 (i64_bd wc).2
  refine ⟨40, ?_⟩
  unfold weathercocklaw01_ValueLogic.f
  rw [examples_k, hp, hq, hr]
  clear hp hq hr wa wb wc
  rcases p' with rfl | rfl | rfl <;> rcases q' with rfl | rfl | rfl <;> rcases r' with rfl | rfl | rfl <;> decide +kernel

end Go.Proofs.Ytihfljdcmncicaa.Pure
