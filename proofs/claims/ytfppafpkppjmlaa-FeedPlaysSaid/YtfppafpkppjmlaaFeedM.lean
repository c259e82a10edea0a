import Derived.Test.YtfppafpkppjmlaaFeedL
/- Feed: walks of the feed's functions, by hand; the conditions stand in each theorem. -/
namespace Go.Proofs.Ytfppafpkppjmlaa.QFeedPlays
open Go.RowKit Go.Proofs.YtfppafpkppjmlaaW.PrintWords Go.Proofs.YtfppafpkppjmlaaW.PrintLast Go.Proofs.YtfppafpkppjmlaaW.PrintMore
attribute [local go_sem] max2_int min2_int max_two min_two max_three min_three max_four min_four
set_option linter.unusedVariables false
set_option linter.unusedSimpArgs false
def ddL : List S35 → List S35
  | [] => []
  | p :: r => p :: (ddL r).filter (fun q => !keyIs p.f0 q.f0)
def clipP (p : S35) : S35 := ⟨p.f0, clipV p.f1⟩
def hasK (W : List S35) (p : S35) : Bool := W.any (fun q => keyIs p.f0 q.f0)
def newL (most : Nat) : List S35 → List S35 → List S35
  | W, [] => W
  | W, p :: r => if W.length < most then (if hasK W p = true then newL most W r else newL most (W ++ [p]) r) else W
theorem keyIs_comm (a b : ByteArray) : keyIs a b = keyIs b a := by
  by_cases c : a = b
  · rw [c]
  · rw [keyIs_ne (fun e => c e.symm), keyIs_ne c]
theorem newL_eq (most : Nat) (r : List S35) : ∀ W : List S35, newL most W r = W ++ (((ddL r).filter (fun p => !hasK W p)).take (most - W.length)) := by
  induction r with
  | nil => intro W; simp [newL, ddL]
  | cons p r ih =>
    intro W
    rw [newL, ddL]
    by_cases c : W.length < most
    · rw [if_pos c]
      by_cases h : hasK W p = true
      · rw [if_pos h, ih W, List.filter_cons, h]
        congr 2
        simp only [Bool.not_true, Bool.false_eq_true, if_false]
        rw [List.filter_filter]
        refine List.filter_congr (fun q _ => ?_)
        by_cases e : keyIs p.f0 q.f0 = true
        · have e2 := (keyIs_iff _ _).1 e
          have : hasK W q = true := by unfold hasK at h ⊢; rw [e2]; exact h
          rw [this]
          rfl
        · have e2 : keyIs p.f0 q.f0 = false := by simpa using e
          rw [e2]
          simp
      · have h2 : hasK W p = false := by simpa using h
        rw [if_neg h, ih (W ++ [p]), List.filter_cons, h2]
        simp only [Bool.not_false, if_true]
        have hfe : (ddL r).filter (fun q => !hasK (W ++ [p]) q) = ((ddL r).filter (fun q => !keyIs p.f0 q.f0)).filter (fun q => !hasK W q) := by
          rw [List.filter_filter]
          refine List.filter_congr (fun q _ => ?_)
          unfold hasK
          rw [List.any_append, Bool.not_or]
          simp [keyIs_comm q.f0 p.f0]
        rw [show most - W.length = (most - (W ++ [p]).length) + 1 by simp; omega, List.take_succ_cons, List.append_assoc, hfe]
        rfl
    · rw [if_neg c, show most - W.length = 0 by omega]
      simp
theorem newL_nil (most : Nat) (r : List S35) : newL most [] r = (ddL r).take most := by
  have h : (ddL r).filter (fun p => !hasK [] p) = ddL r := List.filter_eq_self.2 (fun _ _ => rfl)
  rw [newL_eq, h]
  rfl
theorem all_dd (l : List S35) : (allL l).reverse = (ddL l.reverse).map clipP := by
  have H : ∀ r : List S35, (allL r.reverse).reverse = (ddL r).map clipP := by
    intro r
    induction r with
    | nil => rfl
    | cons p r ih =>
      have e : allL (p :: r).reverse = restL (allL r.reverse) p.f0 (clipV p.f1) := by
        unfold allL
        rw [List.reverse_cons, List.foldl_append]
        rfl
      rw [e, ddL]
      unfold restL
      rw [List.reverse_append, ← List.filter_reverse, ih, List.filter_map]
      rfl
  have := H l.reverse
  rwa [List.reverse_reverse] at this
theorem puts_new (m : Nat) (l : List S35) : (putsL (m : Int) [] l).reverse = (newL m [] l.reverse).map clipP := by
  rw [puts_suffix, newL_nil, List.map_take, ← all_dd, List.reverse_drop]
  by_cases c : m ≤ (allL l).length
  · congr 1
    omega
  · rw [List.take_of_length_le (by simp; omega), List.take_of_length_le (by simp; omega)]
theorem newL_len (m : Nat) (l : List S35) : (newL m [] l).length ≤ m := by
  rw [newL_nil, List.length_take]
  omega
theorem newL_full (m : Nat) (W r : List S35) (h : m ≤ W.length) : newL m W r = W := by
  cases r with
  | nil => rfl
  | cons p r => rw [newL, if_neg (by omega)]
theorem take_rev (l : List S35) (m : Nat) (hm : m < l.length) : (l.take (m + 1)).reverse = l[m] :: (l.take m).reverse := by
  rw [List.take_succ_eq_append_getElem hm, List.reverse_append]
  rfl
theorem hasK_take (W : List S35) (p : S35) (k : Nat) (hk : k < W.length) : hasK (W.take (k + 1)) p = (hasK (W.take k) p || keyIs p.f0 W[k].f0) := by
  unfold hasK
  rw [List.take_succ_eq_append_getElem hk, List.any_append]
  simp

end Go.Proofs.Ytfppafpkppjmlaa.QFeedPlays
