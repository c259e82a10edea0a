-- Written by wip/tools/myprint.py of this project (the kit's printer with lines replaced in memory, and texts of ours)
import Derived.Test.YtdghbkffcmikhaaQCostSumsx0
import Derived.Test.YtdghbkffcmikhaaQCostSumsx1
namespace Go.Proofs.Ytdghbkffcmikhaa.QCostSums
open Go.RowKit Go.Proofs.YtdghbkffcmikhaaW.PrintWords Go.Proofs.YtdghbkffcmikhaaW.PrintLast Go.Proofs.YtdghbkffcmikhaaW.PrintMore
attribute [local go_sem] max2_int min2_int max_two min_two max_three min_three max_four min_four   -- for this text's walks alone
set_option linter.unusedVariables false
set_option linter.unusedSimpArgs false

/-! ### weathercocklaw16_examples0: function 6 -/
def weathercocklaw16_examples0.f (k : Nat)  : Option (Bool) := (cost_Bits.f k 5).bind fun t132 => (if t132 = 3 then ((cost_Sort.f k 8).bind fun t133 => (if t133 = 32 then ((cost_Loop.f k 3 4 2).bind fun t134 => (if t134 = 17 then ((cost_Hash.f k 3 4 2).bind fun t135 => (if t135 = 17 then ((cost_Merge.f k 3 4 2).bind fun t136 => (some (t136 == 29))) else (some false))) else (some false))) else (some false))) else (some false))
theorem weathercocklaw16_examples0.mono : ∀ k, LeO (weathercocklaw16_examples0.f k ) (weathercocklaw16_examples0.f (k + 1) ) := by
  intro  k
  unfold weathercocklaw16_examples0.f
  repeat' first
      | (with_reducible exact cost_Bits.mono _ _)
      | (with_reducible exact cost_Hash.mono _ _ _ _)
      | (with_reducible exact cost_Loop.mono _ _ _ _)
      | (with_reducible exact cost_Merge.mono _ _ _ _)
      | (with_reducible exact cost_Sort.mono _ _)
      | (with_reducible exact LeO.refl _)
      | (with_reducible exact LeO.none _)
      | (with_reducible refine LeO.ite ?_ ?_)
      | (with_reducible refine LeO.bind ?_ (fun _ => ?_))
      | exact cost_Bits.mono _ _
      | exact cost_Hash.mono _ _ _ _
      | exact cost_Loop.mono _ _ _ _
      | exact cost_Merge.mono _ _ _ _
      | exact cost_Sort.mono _ _
      | exact LeO.none _
      | refine LeO.ite ?_ ?_
      | refine LeO.bind ?_ (fun _ => ?_)
set_option maxHeartbeats 8000000 in
set_option maxRecDepth 100000 in
theorem weathercocklaw16_examples0.calls (k : Nat)  (r : Bool) (w : World) (h : weathercocklaw16_examples0.f k  = some r) (hrt : r = true) :
    Calls Try.prog 6 #[] w fun e w' => e = .returned (.bool r) ∧ Below w.heap.size w w' := by
  have HRT := Aside0.mk hrt
  clear hrt
  have HB := Aside0.mk (Below.refl w.heap.size w)
  have H : ((cost_Bits.f k 5).bind fun t132 => (if t132 = 3 then ((cost_Sort.f k 8).bind fun t133 => (if t133 = 32 then ((cost_Loop.f k 3 4 2).bind fun t134 => (if t134 = 17 then ((cost_Hash.f k 3 4 2).bind fun t135 => (if t135 = 17 then ((cost_Merge.f k 3 4 2).bind fun t136 => (some (t136 == 29))) else (some false))) else (some false))) else (some false))) else (some false))) = some r := h
  clear h
  replace H := Option.bind_eq_some_iff.mp H
  obtain ⟨t132, A10, H⟩ := H
  replace H : (if t132 = 3 then ((cost_Sort.f k 8).bind fun t133 => (if t133 = 32 then ((cost_Loop.f k 3 4 2).bind fun t134 => (if t134 = 17 then ((cost_Hash.f k 3 4 2).bind fun t135 => (if t135 = 17 then ((cost_Merge.f k 3 4 2).bind fun t136 => (some (t136 == 29))) else (some false))) else (some false))) else (some false))) else (some false)) = some r := H
  have A1 := Aside0.mk A10
  clear A10
  by_cases c2 : t132 = 3
  · rw [if_pos c2] at H
    have c2b0 : (t132 == 3) = true := beq_iff_eq.mpr c2
    have c2b1 : (t132 != 3) = false := bne_eq_false_iff_eq.mpr c2
    clear c2
    replace H := Option.bind_eq_some_iff.mp H
    obtain ⟨t133, A30, H⟩ := H
    replace H : (if t133 = 32 then ((cost_Loop.f k 3 4 2).bind fun t134 => (if t134 = 17 then ((cost_Hash.f k 3 4 2).bind fun t135 => (if t135 = 17 then ((cost_Merge.f k 3 4 2).bind fun t136 => (some (t136 == 29))) else (some false))) else (some false))) else (some false)) = some r := H
    have A3 := Aside0.mk A30
    clear A30
    by_cases c4 : t133 = 32
    · rw [if_pos c4] at H
      have c4b0 : (t133 == 32) = true := beq_iff_eq.mpr c4
      have c4b1 : (t133 != 32) = false := bne_eq_false_iff_eq.mpr c4
      clear c4
      replace H := Option.bind_eq_some_iff.mp H
      obtain ⟨t134, A50, H⟩ := H
      replace H : (if t134 = 17 then ((cost_Hash.f k 3 4 2).bind fun t135 => (if t135 = 17 then ((cost_Merge.f k 3 4 2).bind fun t136 => (some (t136 == 29))) else (some false))) else (some false)) = some r := H
      have A5 := Aside0.mk A50
      clear A50
      by_cases c6 : t134 = 17
      · rw [if_pos c6] at H
        have c6b0 : (t134 == 17) = true := beq_iff_eq.mpr c6
        have c6b1 : (t134 != 17) = false := bne_eq_false_iff_eq.mpr c6
        clear c6
        replace H := Option.bind_eq_some_iff.mp H
        obtain ⟨t135, A70, H⟩ := H
        replace H : (if t135 = 17 then ((cost_Merge.f k 3 4 2).bind fun t136 => (some (t136 == 29))) else (some false)) = some r := H
        have A7 := Aside0.mk A70
        clear A70
        by_cases c8 : t135 = 17
        · rw [if_pos c8] at H
          have c8b0 : (t135 == 17) = true := beq_iff_eq.mpr c8
          have c8b1 : (t135 != 17) = false := bne_eq_false_iff_eq.mpr c8
          clear c8
          replace H := Option.bind_eq_some_iff.mp H
          obtain ⟨t136, A90, H⟩ := H
          replace H : (some (t136 == 29)) = some r := H
          have A9 := Aside0.mk A90
          clear A90
          obtain rfl := Option.some.inj H
          go_enter Try.func6, Try.ntmps6
          go_wp2_with (first | ((with_reducible refine gate_callee (f := 8) rfl ?_); refine goesL_ (some 1) rfl rfl Try.func8 (by kernel_rfl) rfl #[.int .i64 5] rfl (by (try simp only [List.map_toArray, List.map_cons, List.map_nil]); first | done | rfl | (simp only [List.length_drop, List.length_take]; rfl)) ?_; (with_reducible refine (cost_Bits.calls k 5 t132 _ A1.out).mono ?_); rintro e w10 ⟨rfl, hb⟩; refine ⟨_, rfl, ?_⟩; have n0_ := Aside0.mk (below_step (by repeat (first | (with_reducible first | exact HB.out | apply below_alloc | apply pw_below_drewN | apply below_drew1) | exact HB.out)) hb); clear HB; have HB := n0_; clear n0_; (try clear hb); (try clear hb2); (try clear hk); (try clear hi)) | (go_at_call 9; (with_reducible refine (cost_Sort.calls k 8 t133 _ A3.out).mono ?_); rintro e w11 ⟨rfl, hb⟩; have n0_ := Aside0.mk (below_step (by repeat (first | (with_reducible first | exact HB.out | apply below_alloc | apply pw_below_drewN | apply below_drew1) | exact HB.out)) hb); clear HB; have HB := n0_; clear n0_; (try clear hb); (try clear hb2); (try clear hk); (try clear hi)) | (go_at_call 13; (with_reducible refine (cost_Loop.calls k 3 4 2 t134 _ A5.out).mono ?_); rintro e w12 ⟨rfl, hb⟩; have n0_ := Aside0.mk (below_step (by repeat (first | (with_reducible first | exact HB.out | apply below_alloc | apply pw_below_drewN | apply below_drew1) | exact HB.out)) hb); clear HB; have HB := n0_; clear n0_; (try clear hb); (try clear hb2); (try clear hk); (try clear hi)) | (go_at_call 14; (with_reducible refine (cost_Hash.calls k 3 4 2 t135 _ A7.out).mono ?_); rintro e w13 ⟨rfl, hb⟩; have n0_ := Aside0.mk (below_step (by repeat (first | (with_reducible first | exact HB.out | apply below_alloc | apply pw_below_drewN | apply below_drew1) | exact HB.out)) hb); clear HB; have HB := n0_; clear n0_; (try clear hb); (try clear hb2); (try clear hk); (try clear hi)) | (go_at_call 15; (with_reducible refine (cost_Merge.calls k 3 4 2 t136 _ A9.out).mono ?_); rintro e w14 ⟨rfl, hb⟩; have n0_ := Aside0.mk (below_step (by repeat (first | (with_reducible first | exact HB.out | apply below_alloc | apply pw_below_drewN | apply below_drew1) | exact HB.out)) hb); clear HB; have HB := n0_; clear n0_; (try clear hb); (try clear hb2); (try clear hk); (try clear hi)))
          go_ret
          exact ⟨by first | rfl | (simp [errW_none, errW_some] <;> rfl) | (simp [*, errW_none, errW_some] <;> rfl), by repeat (first | (with_reducible first | exact HB.out | apply below_alloc | apply pw_below_drewN | apply below_drew1) | exact HB.out)⟩
        · rw [if_neg c8] at H
          have c8b0 : (t135 == 17) = false := beq_eq_false_iff_ne.mpr c8
          have c8b1 : (t135 != 17) = true := bne_iff_ne.mpr c8
          exact absurd (Option.some.inj H) (fun h_ => absurd (h_.trans HRT.out) (by decide))
      · rw [if_neg c6] at H
        have c6b0 : (t134 == 17) = false := beq_eq_false_iff_ne.mpr c6
        have c6b1 : (t134 != 17) = true := bne_iff_ne.mpr c6
        exact absurd (Option.some.inj H) (fun h_ => absurd (h_.trans HRT.out) (by decide))
    · rw [if_neg c4] at H
      have c4b0 : (t133 == 32) = false := beq_eq_false_iff_ne.mpr c4
      have c4b1 : (t133 != 32) = true := bne_iff_ne.mpr c4
      exact absurd (Option.some.inj H) (fun h_ => absurd (h_.trans HRT.out) (by decide))
  · rw [if_neg c2] at H
    have c2b0 : (t132 == 3) = false := beq_eq_false_iff_ne.mpr c2
    have c2b1 : (t132 != 3) = true := bne_iff_ne.mpr c2
    exact absurd (Option.some.inj H) (fun h_ => absurd (h_.trans HRT.out) (by decide))
def weathercocklaw16_examples.f (k : Nat) : Option (Bool) := if weathercocklaw16_examples0.f k = some true then some true else none
theorem weathercocklaw16_examples.mono : ∀ k, LeO (weathercocklaw16_examples.f k) (weathercocklaw16_examples.f (k + 1)) := by
  intro k r h
  unfold weathercocklaw16_examples.f at h ⊢
  by_cases c : weathercocklaw16_examples0.f k = some true
  · rw [if_pos c] at h; rw [if_pos (weathercocklaw16_examples0.mono k true c)]; exact h
  · rw [if_neg c] at h; cases h
theorem weathercocklaw16_examples.calls (k : Nat) (r : Bool) (w : World) (h : weathercocklaw16_examples.f k = some r) :
    Calls Try.prog 6 #[] w fun e w' => e = .returned (.bool r) ∧ Below w.heap.size w w' := by
  unfold weathercocklaw16_examples.f at h
  by_cases c : weathercocklaw16_examples0.f k = some true
  · rw [if_pos c] at h
    obtain rfl := Option.some.inj h
    exact weathercocklaw16_examples0.calls k true w c rfl
  · rw [if_neg c] at h; cases h

/-! ### cost_Sum: function 7 -/
def cost_Sum.f (k : Nat) (l0 : List Int) : Option (Int) := (cost_sum.f k l0).bind fun t137 => (some t137)
theorem cost_Sum.mono : ∀ a0 k, LeO (cost_Sum.f k a0) (cost_Sum.f (k + 1) a0) := by
  intro a0 k
  unfold cost_Sum.f
  repeat' first
      | (with_reducible exact cost_sum.mono _ _)
      | (with_reducible exact LeO.refl _)
      | (with_reducible exact LeO.none _)
      | (with_reducible refine LeO.ite ?_ ?_)
      | (with_reducible refine LeO.bind ?_ (fun _ => ?_))
      | exact cost_sum.mono _ _
      | exact LeO.none _
      | refine LeO.ite ?_ ?_
      | refine LeO.bind ?_ (fun _ => ?_)
set_option maxHeartbeats 8000000 in
set_option maxRecDepth 100000 in
theorem cost_Sum.calls (k : Nat) (A0 : Option Addr) (c0 : Nat) (l0 : List Int) (r : Int) (w : World) (hr0 : Kd.C (Kd.int .i64) w A0 l0.length l0) (hc0 : l0.length ≤ c0) (h : cost_Sum.f k l0 = some r) :
    Calls Try.prog 7 #[.slice A0 l0.length c0] w fun e w' => e = .returned (.int .i64 r) ∧ Below w.heap.size w w' := by
  have HR0 := Aside0.mk hr0
  have HC0 := Aside0.mk hc0
  clear hr0 hc0
  have HB := Aside0.mk (Below.refl w.heap.size w)
  have H : ((cost_sum.f k l0).bind fun t137 => (some t137)) = some r := h
  clear h
  replace H := Option.bind_eq_some_iff.mp H
  obtain ⟨t137, A20, H⟩ := H
  replace H : (some t137) = some r := H
  have A2 := Aside0.mk A20
  clear A20
  obtain rfl := Option.some.inj H
  go_enter Try.func7, Try.ntmps7
  go_wp2_with (first | ((with_reducible refine gate_callee (f := 25) rfl ?_); refine goesL_ (some 4) rfl rfl Try.func25 (by kernel_rfl) rfl #[.slice A0 l0.length c0] rfl (by (try simp only [List.map_toArray, List.map_cons, List.map_nil]); first | done | rfl | (simp only [List.length_drop, List.length_take]; rfl)) ?_; (with_reducible refine (cost_sum.calls k _ _ l0 t137 _ ?side1 ?side2 A2.out).mono ?_); (case side1 => repeat (first | exact HR0.out | (with_reducible refine Kd.C_alloc ?_ _) | (with_reducible refine Kd.C_drewN ?_ _) | (with_reducible refine Kd.C_drew ?_))); (case side2 => exact HC0.out); rintro e w3 ⟨rfl, hb⟩; refine ⟨_, rfl, ?_⟩; have n0_ := Aside0.mk (below_step (by repeat (first | (with_reducible first | exact HB.out | apply below_alloc | apply pw_below_drewN | apply below_drew1) | exact HB.out)) hb); clear HB; have HB := n0_; clear n0_; (try clear hb); (try clear hb2); (try clear hk); (try clear hi)))
  go_ret
  exact ⟨by first | rfl | (simp [errW_none, errW_some] <;> rfl) | (simp [*, errW_none, errW_some] <;> rfl), by repeat (first | (with_reducible first | exact HB.out | apply below_alloc | apply pw_below_drewN | apply below_drew1) | exact HB.out)⟩

end Go.Proofs.Ytdghbkffcmikhaa.QCostSums
