-- Written by wip/tools/myprint.py of this project (the kit's printer with lines replaced in memory, and texts of ours)
import Derived.Test.YtdghbkffcmikhaaQCostRisesx0
import Derived.Test.YtdghbkffcmikhaaQCostRisesx1
namespace Go.Proofs.Ytdghbkffcmikhaa.QCostRises
open Go.RowKit Go.Proofs.YtdghbkffcmikhaaW.PrintWords Go.Proofs.YtdghbkffcmikhaaW.PrintLast Go.Proofs.YtdghbkffcmikhaaW.PrintMore
attribute [local go_sem] max2_int min2_int max_two min_two max_three min_three max_four min_four   -- for this text's walks alone
set_option linter.unusedVariables false
set_option linter.unusedSimpArgs false

/-! ### weathercocklaw16_examples0: function 6 -/
def weathercocklaw16_examples0.f (k : Nat)  : Option (Bool) := (cost_Bits.f k 5).bind fun t132 => (if t132 = 3 then ((cost_Sort.f k 8).bind fun t133 => (if t133 = 32 then ((cost_Loop.f k 3 4 2).bind fun t134 => (if t134 = 17 then ((cost_Hash.f k 3 4 2).bind fun t135 => (if t135 = 17 then ((cost_Merge.f k 3 4 2).bind fun t136 => (some (t136 == 29))) else (some false))) else (some false))) else (some false))) else (some false))
theorem weathercocklaw16_examples0.mono : ∀ k, LeO (weathercocklaw16_examples0.f k ) (weathercocklaw16_examples0.f (k + 1) ) := by
  intro  k
  unfold weathercocklaw16_examples0.f
  repeat' first
      | (with_reducible exact cost_Bits.mono _ _)
      | (with_reducible exact cost_Hash.mono _ _ _ _)
      | (with_reducible exact cost_Loop.mono _ _ _ _)
      | (with_reducible exact cost_Merge.mono _ _ _ _)
      | (with_reducible exact cost_Sort.mono _ _)
      | (with_reducible exact LeO.refl _)
      | (with_reducible exact LeO.none _)
      | (with_reducible refine LeO.ite ?_ ?_)
      | (with_reducible refine LeO.bind ?_ (fun _ => ?_))
      | exact cost_Bits.mono _ _
      | exact cost_Hash.mono _ _ _ _
      | exact cost_Loop.mono _ _ _ _
      | exact cost_Merge.mono _ _ _ _
      | exact cost_Sort.mono _ _
      | exact LeO.none _
      | refine LeO.ite ?_ ?_
      | refine LeO.bind ?_ (fun _ => ?_)
set_option maxHeartbeats 8000000 in
set_option maxRecDepth 100000 in
theorem weathercocklaw16_examples0.calls (k : Nat)  (r : Bool) (w : World) (h : weathercocklaw16_examples0.f k  = some r) (hrt : r = true) :
    Calls Try.prog 6 #[] w fun e w' => e = .returned (.bool r) ∧ Below w.heap.size w w' := by
  have HRT := Aside0.mk hrt
  clear hrt
  have HB := Aside0.mk (Below.refl w.heap.size w)
  have H : ((cost_Bits.f k 5).bind fun t132 => (if t132 = 3 then ((cost_Sort.f k 8).bind fun t133 => (if t133 = 32 then ((cost_Loop.f k 3 4 2).bind fun t134 => (if t134 = 17 then ((cost_Hash.f k 3 4 2).bind fun t135 => (if t135 = 17 then ((cost_Merge.f k 3 4 2).bind fun t136 => (some (t136 == 29))) else (some false))) else (some false))) else (some false))) else (some false))) = some r := h
  clear h
  replace H := Option.bind_eq_some_iff.mp H
  obtain ⟨t132, A10, H⟩ := H
  replace H : (if t132 = 3 then ((cost_Sort.f k 8).bind fun t133 => (if t133 = 32 then ((cost_Loop.f k 3 4 2).bind fun t134 => (if t134 = 17 then ((cost_Hash.f k 3 4 2).bind fun t135 => (if t135 = 17 then ((cost_Merge.f k 3 4 2).bind fun t136 => (some (t136 == 29))) else (some false))) else (some false))) else (some false))) else (some false)) = some r := H
  have A1 := Aside0.mk A10
  clear A10
  by_cases c2 : t132 = 3
  · rw [if_pos c2] at H
    have c2b0 : (t132 == 3) = true := beq_iff_eq.mpr c2
    have c2b1 : (t132 != 3) = false := bne_eq_false_iff_eq.mpr c2
    clear c2
    replace H := Option.bind_eq_some_iff.mp H
    obtain ⟨t133, A30, H⟩ := H
    replace H : (if t133 = 32 then ((cost_Loop.f k 3 4 2).bind fun t134 => (if t134 = 17 then ((cost_Hash.f k 3 4 2).bind fun t135 => (if t135 = 17 then ((cost_Merge.f k 3 4 2).bind fun t136 => (some (t136 == 29))) else (some false))) else (some false))) else (some false)) = some r := H
    have A3 := Aside0.mk A30
    clear A30
    by_cases c4 : t133 = 32
    · rw [if_pos c4] at H
      have c4b0 : (t133 == 32) = true := beq_iff_eq.mpr c4
      have c4b1 : (t133 != 32) = false := bne_eq_false_iff_eq.mpr c4
      clear c4
      replace H := Option.bind_eq_some_iff.mp H
      obtain ⟨t134, A50, H⟩ := H
      replace H : (if t134 = 17 then ((cost_Hash.f k 3 4 2).bind fun t135 => (if t135 = 17 then ((cost_Merge.f k 3 4 2).bind fun t136 => (some (t136 == 29))) else (some false))) else (some false)) = some r := H
      have A5 := Aside0.mk A50
      clear A50
      by_cases c6 : t134 = 17
      · rw [if_pos c6] at H
        have c6b0 : (t134 == 17) = true := beq_iff_eq.mpr c6
        have c6b1 : (t134 != 17) = false := bne_eq_false_iff_eq.mpr c6
        clear c6
        replace H := Option.bind_eq_some_iff.mp H
        obtain ⟨t135, A70, H⟩ := H
        replace H : (if t135 = 17 then ((cost_Merge.f k 3 4 2).bind fun t136 => (some (t136 == 29))) else (some false)) = some r := H
        have A7 := Aside0.mk A70
        clear A70
        by_cases c8 : t135 = 17
        · rw [if_pos c8] at H
          have c8b0 : (t135 == 17) = true := beq_iff_eq.mpr c8
          have c8b1 : (t135 != 17) = false := bne_eq_false_iff_eq.mpr c8
          clear c8
          replace H := Option.bind_eq_some_iff.mp H
          obtain ⟨t136, A90, H⟩ := H
          replace H : (some (t136 == 29)) = some r := H
          have A9 := Aside0.mk A90
          clear A90
          obtain rfl := Option.some.inj H
          go_enter Try.func6, Try.ntmps6
          go_wp2_with (first | ((with_reducible refine gate_callee (f := 8) rfl ?_); refine goesL_ (some 1) rfl rfl Try.func8 (by kernel_rfl) rfl #[.int .i64 5] rfl (by (try simp only [List.map_toArray, List.map_cons, List.map_nil]); first | done | rfl | (simp only [List.length_drop, List.length_take]; rfl)) ?_; (with_reducible refine (cost_Bits.calls k 5 t132 _ A1.out).mono ?_); rintro e w10 ⟨rfl, hb⟩; refine ⟨_, rfl, ?_⟩; have n0_ := Aside0.mk (below_step (by repeat (first | (with_reducible first | exact HB.out | apply below_alloc | apply pw_below_drewN | apply below_drew1) | exact HB.out)) hb); clear HB; have HB := n0_; clear n0_; (try clear hb); (try clear hb2); (try clear hk); (try clear hi)) | (go_at_call 9; (with_reducible refine (cost_Sort.calls k 8 t133 _ A3.out).mono ?_); rintro e w11 ⟨rfl, hb⟩; have n0_ := Aside0.mk (below_step (by repeat (first | (with_reducible first | exact HB.out | apply below_alloc | apply pw_below_drewN | apply below_drew1) | exact HB.out)) hb); clear HB; have HB := n0_; clear n0_; (try clear hb); (try clear hb2); (try clear hk); (try clear hi)) | (go_at_call 13; (with_reducible refine (cost_Loop.calls k 3 4 2 t134 _ A5.out).mono ?_); rintro e w12 ⟨rfl, hb⟩; have n0_ := Aside0.mk (below_step (by repeat (first | (with_reducible first | exact HB.out | apply below_alloc | apply pw_below_drewN | apply below_drew1) | exact HB.out)) hb); clear HB; have HB := n0_; clear n0_; (try clear hb); (try clear hb2); (try clear hk); (try clear hi)) | (go_at_call 14; (with_reducible refine (cost_Hash.calls k 3 4 2 t135 _ A7.out).mono ?_); rintro e w13 ⟨rfl, hb⟩; have n0_ := Aside0.mk (below_step (by repeat (first | (with_reducible first | exact HB.out | apply below_alloc | apply pw_below_drewN | apply below_drew1) | exact HB.out)) hb); clear HB; have HB := n0_; clear n0_; (try clear hb); (try clear hb2); (try clear hk); (try clear hi)) | (go_at_call 15; (with_reducible refine (cost_Merge.calls k 3 4 2 t136 _ A9.out).mono ?_); rintro e w14 ⟨rfl, hb⟩; have n0_ := Aside0.mk (below_step (by repeat (first | (with_reducible first | exact HB.out | apply below_alloc | apply pw_below_drewN | apply below_drew1) | exact HB.out)) hb); clear HB; have HB := n0_; clear n0_; (try clear hb); (try clear hb2); (try clear hk); (try clear hi)))
          go_ret
          exact ⟨by first | rfl | (simp [errW_none, errW_some] <;> rfl) | (simp [*, errW_none, errW_some] <;> rfl), by repeat (first | (with_reducible first | exact HB.out | apply below_alloc | apply pw_below_drewN | apply below_drew1) | exact HB.out)⟩
        · rw [if_neg c8] at H
          have c8b0 : (t135 == 17) = false := beq_eq_false_iff_ne.mpr c8
          have c8b1 : (t135 != 17) = true := bne_iff_ne.mpr c8
          exact absurd (Option.some.inj H) (fun h_ => absurd (h_.trans HRT.out) (by decide))
      · rw [if_neg c6] at H
        have c6b0 : (t134 == 17) = false := beq_eq_false_iff_ne.mpr c6
        have c6b1 : (t134 != 17) = true := bne_iff_ne.mpr c6
        exact absurd (Option.some.inj H) (fun h_ => absurd (h_.trans HRT.out) (by decide))
    · rw [if_neg c4] at H
      have c4b0 : (t133 == 32) = false := beq_eq_false_iff_ne.mpr c4
      have c4b1 : (t133 != 32) = true := bne_iff_ne.mpr c4
      exact absurd (Option.some.inj H) (fun h_ => absurd (h_.trans HRT.out) (by decide))
  · rw [if_neg c2] at H
    have c2b0 : (t132 == 3) = false := beq_eq_false_iff_ne.mpr c2
    have c2b1 : (t132 != 3) = true := bne_iff_ne.mpr c2
    exact absurd (Option.some.inj H) (fun h_ => absurd (h_.trans HRT.out) (by decide))
def weathercocklaw16_examples.f (k : Nat) : Option (Bool) := if weathercocklaw16_examples0.f k = some true then some true else none
theorem weathercocklaw16_examples.mono : ∀ k, LeO (weathercocklaw16_examples.f k) (weathercocklaw16_examples.f (k + 1)) := by
  intro k r h
  unfold weathercocklaw16_examples.f at h ⊢
  by_cases c : weathercocklaw16_examples0.f k = some true
  · rw [if_pos c] at h; rw [if_pos (weathercocklaw16_examples0.mono k true c)]; exact h
  · rw [if_neg c] at h; cases h
theorem weathercocklaw16_examples.calls (k : Nat) (r : Bool) (w : World) (h : weathercocklaw16_examples.f k = some r) :
    Calls Try.prog 6 #[] w fun e w' => e = .returned (.bool r) ∧ Below w.heap.size w w' := by
  unfold weathercocklaw16_examples.f at h
  by_cases c : weathercocklaw16_examples0.f k = some true
  · rw [if_pos c] at h
    obtain rfl := Option.some.inj h
    exact weathercocklaw16_examples0.calls k true w c rfl
  · rw [if_neg c] at h; cases h

/-! ### cost_Scan: function 10 -/
def cost_Scan.f (k : Nat) (a0 : Int) : Option (Int) := (cost_sum.f k (([a0, 1] : List Int))).bind fun t140 => (some t140)
theorem cost_Scan.mono : ∀ a0 k, LeO (cost_Scan.f k a0) (cost_Scan.f (k + 1) a0) := by
  intro a0 k
  unfold cost_Scan.f
  repeat' first
      | (with_reducible exact cost_sum.mono _ _)
      | (with_reducible exact LeO.refl _)
      | (with_reducible exact LeO.none _)
      | (with_reducible refine LeO.ite ?_ ?_)
      | (with_reducible refine LeO.bind ?_ (fun _ => ?_))
      | exact cost_sum.mono _ _
      | exact LeO.none _
      | refine LeO.ite ?_ ?_
      | refine LeO.bind ?_ (fun _ => ?_)
set_option maxHeartbeats 8000000 in
set_option maxRecDepth 100000 in
theorem cost_Scan.calls (k : Nat) (a0 : Int) (r : Int) (w : World) (h : cost_Scan.f k a0 = some r) :
    Calls Try.prog 10 #[.int .i64 a0] w fun e w' => e = .returned (.int .i64 r) ∧ Below w.heap.size w w' := by
  have HB := Aside0.mk (Below.refl w.heap.size w)
  have H : ((cost_sum.f k (([a0, 1] : List Int))).bind fun t140 => (some t140)) = some r := h
  clear h
  obtain ⟨y137, hy137⟩ : ∃ y_ : List Int, y_ = (([a0, 1] : List Int)) := ⟨_, rfl⟩
  replace H : ((cost_sum.f k y137).bind fun t140 => (some t140)) = some r := by first | (rw [hy137]; with_reducible exact H) | (have H2_ := (Option.bind_some _ _).symm.trans H; rw [hy137]; with_reducible exact H2_) | (have H2_ := (Option.bind_some _ _).symm.trans H; with_reducible exact H2_) | with_reducible exact H | (rw [hy137]; exact H) | exact H
  have Ny137 := Aside0.mk hy137
  clear hy137
  replace H := Option.bind_eq_some_iff.mp H
  obtain ⟨t140, A20, H⟩ := H
  replace H : (some t140) = some r := H
  have A2 := Aside0.mk A20
  clear A20
  obtain rfl := Option.some.inj H
  go_enter Try.func10, Try.ntmps10
  go_wp2_with (first | ((with_reducible refine gate_dst (N := 4) rfl ?_); refine Kd.R_lit (Kd.int .i64) _ 3 ?hg (N := 4) ?hd (xs := ([a0, 1] : List Int)) (inner := [.int .i64 a0, .int .i64 1]) (ok := fun _ => True) (okp := fun _ => True) ?hr ?hp (fun _ hk => hk) trivial (Below.refl _ _) (Nat.le_refl _) (by simp) ?_; (case hd => rfl); (case hg => rfl); (case hr => first | (go_simp; done) | (go_simp; rfl)); (case hp => exact (Reps.one (show Kd.M (Kd.int .i64) _ _ _ a0 [.int .i64 a0] from rfl) (Reps.one (show Kd.M (Kd.int .i64) _ _ _ 1 [.int .i64 1] from rfl) (Reps.none _ _)))); intro v138 w3 ho4 hb hg_ hnew_; clear hg_ hnew_; (first | rw [← Ny137.out] at ho4 | (simp only [Int.reduceToNat] at ho4; rw [← Ny137.out] at ho4)); have n0_ := Aside0.mk (Kd.R_lower ho4 (below_size (by repeat (first | (with_reducible first | exact HB.out | apply below_alloc | apply pw_below_drewN | apply below_drew1) | exact HB.out)))); have n1_ := Aside0.mk (below_step (by repeat (first | (with_reducible first | exact HB.out | apply below_alloc | apply pw_below_drewN | apply below_drew1) | exact HB.out)) hb); clear HB; have HO139 := n0_; have HB := n1_; clear n0_ n1_; clear hb ho4; obtain ⟨Ao5, co5, eo5⟩ := Kd.R_slice HO139.out; subst eo5) | ((with_reducible refine gate_callee (f := 25) rfl ?_); refine goesL_ (some 5) rfl rfl Try.func25 (by kernel_rfl) rfl #[.slice Ao5 y137.length co5] rfl (by (try simp only [List.map_toArray, List.map_cons, List.map_nil]); first | done | rfl | (simp only [List.length_drop, List.length_take]; rfl)) ?_; (with_reducible refine (cost_sum.calls k _ _ y137 t140 _ ?side1 ?side2 A2.out).mono ?_); (case side1 => repeat (first | exact (Kd.R_reads' HO139.out).2.2 | (with_reducible refine Kd.C_alloc ?_ _) | (with_reducible refine Kd.C_drewN ?_ _) | (with_reducible refine Kd.C_drew ?_))); (case side2 => exact (Kd.R_reads' HO139.out).2.1); rintro e w6 ⟨rfl, hb⟩; refine ⟨_, rfl, ?_⟩; have n0_ := Aside0.mk (Kd.R_below (by (with_reducible repeat (first | apply Kd.R_alloc | apply Kd.R_drewN | apply Kd.R_drew)); exact HO139.out) hb); have n1_ := Aside0.mk (below_step (by repeat (first | (with_reducible first | exact HB.out | apply below_alloc | apply pw_below_drewN | apply below_drew1) | exact HB.out)) hb); clear HO139; clear HB; have HO139 := n0_; have HB := n1_; clear n0_ n1_; (try clear hb); (try clear hb2); (try clear hk); (try clear hi)))
  go_ret
  exact ⟨by first | rfl | (simp [errW_none, errW_some] <;> rfl) | (simp [*, errW_none, errW_some] <;> rfl), by repeat (first | (with_reducible first | exact HB.out | apply below_alloc | apply pw_below_drewN | apply below_drew1) | exact HB.out)⟩

/-! ### cost_Index: function 11 -/
def cost_Index.f (k : Nat) (a0 : Int) : Option (Int) := (cost_sum.f k (([a0, 2] : List Int))).bind fun t144 => (some t144)
theorem cost_Index.mono : ∀ a0 k, LeO (cost_Index.f k a0) (cost_Index.f (k + 1) a0) := by
  intro a0 k
  unfold cost_Index.f
  repeat' first
      | (with_reducible exact cost_sum.mono _ _)
      | (with_reducible exact LeO.refl _)
      | (with_reducible exact LeO.none _)
      | (with_reducible refine LeO.ite ?_ ?_)
      | (with_reducible refine LeO.bind ?_ (fun _ => ?_))
      | exact cost_sum.mono _ _
      | exact LeO.none _
      | refine LeO.ite ?_ ?_
      | refine LeO.bind ?_ (fun _ => ?_)
set_option maxHeartbeats 8000000 in
set_option maxRecDepth 100000 in
theorem cost_Index.calls (k : Nat) (a0 : Int) (r : Int) (w : World) (h : cost_Index.f k a0 = some r) :
    Calls Try.prog 11 #[.int .i64 a0] w fun e w' => e = .returned (.int .i64 r) ∧ Below w.heap.size w w' := by
  have HB := Aside0.mk (Below.refl w.heap.size w)
  have H : ((cost_sum.f k (([a0, 2] : List Int))).bind fun t144 => (some t144)) = some r := h
  clear h
  obtain ⟨y141, hy141⟩ : ∃ y_ : List Int, y_ = (([a0, 2] : List Int)) := ⟨_, rfl⟩
  replace H : ((cost_sum.f k y141).bind fun t144 => (some t144)) = some r := by first | (rw [hy141]; with_reducible exact H) | (have H2_ := (Option.bind_some _ _).symm.trans H; rw [hy141]; with_reducible exact H2_) | (have H2_ := (Option.bind_some _ _).symm.trans H; with_reducible exact H2_) | with_reducible exact H | (rw [hy141]; exact H) | exact H
  have Ny141 := Aside0.mk hy141
  clear hy141
  replace H := Option.bind_eq_some_iff.mp H
  obtain ⟨t144, A20, H⟩ := H
  replace H : (some t144) = some r := H
  have A2 := Aside0.mk A20
  clear A20
  obtain rfl := Option.some.inj H
  go_enter Try.func11, Try.ntmps11
  go_wp2_with (first | ((with_reducible refine gate_dst (N := 4) rfl ?_); refine Kd.R_lit (Kd.int .i64) _ 3 ?hg (N := 4) ?hd (xs := ([a0, 2] : List Int)) (inner := [.int .i64 a0, .int .i64 2]) (ok := fun _ => True) (okp := fun _ => True) ?hr ?hp (fun _ hk => hk) trivial (Below.refl _ _) (Nat.le_refl _) (by simp) ?_; (case hd => rfl); (case hg => rfl); (case hr => first | (go_simp; done) | (go_simp; rfl)); (case hp => exact (Reps.one (show Kd.M (Kd.int .i64) _ _ _ a0 [.int .i64 a0] from rfl) (Reps.one (show Kd.M (Kd.int .i64) _ _ _ 2 [.int .i64 2] from rfl) (Reps.none _ _)))); intro v142 w3 ho4 hb hg_ hnew_; clear hg_ hnew_; (first | rw [← Ny141.out] at ho4 | (simp only [Int.reduceToNat] at ho4; rw [← Ny141.out] at ho4)); have n0_ := Aside0.mk (Kd.R_lower ho4 (below_size (by repeat (first | (with_reducible first | exact HB.out | apply below_alloc | apply pw_below_drewN | apply below_drew1) | exact HB.out)))); have n1_ := Aside0.mk (below_step (by repeat (first | (with_reducible first | exact HB.out | apply below_alloc | apply pw_below_drewN | apply below_drew1) | exact HB.out)) hb); clear HB; have HO143 := n0_; have HB := n1_; clear n0_ n1_; clear hb ho4; obtain ⟨Ao5, co5, eo5⟩ := Kd.R_slice HO143.out; subst eo5) | ((with_reducible refine gate_callee (f := 25) rfl ?_); refine goesL_ (some 5) rfl rfl Try.func25 (by kernel_rfl) rfl #[.slice Ao5 y141.length co5] rfl (by (try simp only [List.map_toArray, List.map_cons, List.map_nil]); first | done | rfl | (simp only [List.length_drop, List.length_take]; rfl)) ?_; (with_reducible refine (cost_sum.calls k _ _ y141 t144 _ ?side1 ?side2 A2.out).mono ?_); (case side1 => repeat (first | exact (Kd.R_reads' HO143.out).2.2 | (with_reducible refine Kd.C_alloc ?_ _) | (with_reducible refine Kd.C_drewN ?_ _) | (with_reducible refine Kd.C_drew ?_))); (case side2 => exact (Kd.R_reads' HO143.out).2.1); rintro e w6 ⟨rfl, hb⟩; refine ⟨_, rfl, ?_⟩; have n0_ := Aside0.mk (Kd.R_below (by (with_reducible repeat (first | apply Kd.R_alloc | apply Kd.R_drewN | apply Kd.R_drew)); exact HO143.out) hb); have n1_ := Aside0.mk (below_step (by repeat (first | (with_reducible first | exact HB.out | apply below_alloc | apply pw_below_drewN | apply below_drew1) | exact HB.out)) hb); clear HO143; clear HB; have HO143 := n0_; have HB := n1_; clear n0_ n1_; (try clear hb); (try clear hb2); (try clear hk); (try clear hi)))
  go_ret
  exact ⟨by first | rfl | (simp [errW_none, errW_some] <;> rfl) | (simp [*, errW_none, errW_some] <;> rfl), by repeat (first | (with_reducible first | exact HB.out | apply below_alloc | apply pw_below_drewN | apply below_drew1) | exact HB.out)⟩

/-! ### cost_Temp: function 12 -/
def cost_Temp.f (a0 : Int) : Option (Int) := (hist_Clip.f a0).bind fun t145 => (some t145)
set_option maxHeartbeats 8000000 in
set_option maxRecDepth 100000 in
theorem cost_Temp.calls (a0 : Int) (r : Int) (w : World) (h : cost_Temp.f a0 = some r) :
    Calls Try.prog 12 #[.int .i64 a0] w fun e w' => e = .returned (.int .i64 r) ∧ Below w.heap.size w w' := by
  have HB := Aside0.mk (Below.refl w.heap.size w)
  have H : ((hist_Clip.f a0).bind fun t145 => (some t145)) = some r := h
  clear h
  replace H := Option.bind_eq_some_iff.mp H
  obtain ⟨t145, A20, H⟩ := H
  replace H : (some t145) = some r := H
  have A2 := Aside0.mk A20
  clear A20
  obtain rfl := Option.some.inj H
  go_enter Try.func12, Try.ntmps12
  go_wp2_with (first | ((with_reducible refine gate_callee (f := 27) rfl ?_); refine goesL_ (some 4) rfl rfl Try.func27 (by kernel_rfl) rfl #[.int .i64 a0] rfl (by (try simp only [List.map_toArray, List.map_cons, List.map_nil]); first | done | rfl | (simp only [List.length_drop, List.length_take]; rfl)) ?_; (with_reducible refine (hist_Clip.calls a0 t145 _ A2.out).mono ?_); rintro e w3 ⟨rfl, hb⟩; refine ⟨_, rfl, ?_⟩; have n0_ := Aside0.mk (below_step (by repeat (first | (with_reducible first | exact HB.out | apply below_alloc | apply pw_below_drewN | apply below_drew1) | exact HB.out)) hb); clear HB; have HB := n0_; clear n0_; (try clear hb); (try clear hb2); (try clear hk); (try clear hi)))
  go_ret
  exact ⟨by first | rfl | (simp [errW_none, errW_some] <;> rfl) | (simp [*, errW_none, errW_some] <;> rfl), by repeat (first | (with_reducible first | exact HB.out | apply below_alloc | apply pw_below_drewN | apply below_drew1) | exact HB.out)⟩

/-! ### weathercocklaw16_CostRises: function 4 -/
mutual
def weathercocklaw16_CostRises.j0 : Nat → Int → Int → Int → Int → Bool → Option (Bool)
  | 0, _, _, _, _, _ => none
  | k + 1, x0, x1, x2, x3, x9 => if x0 < 4611686018427387904 then (weathercocklaw16_CostRises.j1 k x0 x1 x2 x9 (wrap64 (x0 + (Int.tmod x3 1000000)))) else (weathercocklaw16_CostRises.j1 k x0 x1 x2 x9 x0)
def weathercocklaw16_CostRises.j1 : Nat → Int → Int → Int → Bool → Int → Option (Bool)
  | 0, _, _, _, _, _ => none
  | k + 1, x0, x1, x2, x9, x10 => (cost_Bits.f k x0).bind fun t147 => ((cost_Sort.f k x0).bind fun t148 => ((cost_Scan.f k x0).bind fun t149 => ((cost_Index.f k x0).bind fun t150 => ((cost_Temp.f x0).bind fun t151 => ((cost_Loop.f k x0 x1 x2).bind fun t152 => ((cost_Loop.f k x1 x0 x2).bind fun t153 => ((cost_Loop.f k x1 x2 x0).bind fun t154 => ((cost_Hash.f k x0 x1 x2).bind fun t155 => ((cost_Hash.f k x1 x0 x2).bind fun t156 => ((cost_Hash.f k x1 x2 x0).bind fun t157 => ((cost_Merge.f k x0 x1 x2).bind fun t158 => ((cost_Merge.f k x1 x0 x2).bind fun t159 => ((cost_Merge.f k x1 x2 x0).bind fun t160 => ((cost_Bits.f k x10).bind fun t164 => ((cost_Sort.f k x10).bind fun t165 => ((cost_Scan.f k x10).bind fun t166 => ((cost_Index.f k x10).bind fun t167 => ((cost_Temp.f x10).bind fun t168 => ((cost_Loop.f k x10 x1 x2).bind fun t169 => ((cost_Loop.f k x1 x10 x2).bind fun t170 => ((cost_Loop.f k x1 x2 x10).bind fun t171 => ((cost_Hash.f k x10 x1 x2).bind fun t172 => ((cost_Hash.f k x1 x10 x2).bind fun t173 => ((cost_Hash.f k x1 x2 x10).bind fun t174 => ((cost_Merge.f k x10 x1 x2).bind fun t175 => ((cost_Merge.f k x1 x10 x2).bind fun t176 => ((cost_Merge.f k x1 x2 x10).bind fun t177 => (weathercocklaw16_CostRises.l0 k x9 (([t147, t148, t149, t150, t151, t152, t153, t154, t155, t156, t157, t158, t159, t160] : List Int)) (([t164, t165, t166, t167, t168, t169, t170, t171, t172, t173, t174, t175, t176, t177] : List Int)) 0))))))))))))))))))))))))))))
def weathercocklaw16_CostRises.l0 : Nat → Bool → List Int → List Int → Int → Option (Bool)
  | 0, _, _, _, _ => none
  | k + 1, x9, x11, x12, x13 => if x13 < (x11.length : Int) then (if 0 ≤ x13 then (if (rd x11 x13) < 0 then (some false) else (if (rd x11 x13) > 1000000000000 then (some false) else (if x13 < (x12.length : Int) then (if (rd x11 x13) > (rd x12 x13) then (some false) else (weathercocklaw16_CostRises.l0 k x9 x11 x12 (wrap64 (x13 + 1)))) else (none)))) else (none)) else (some x9)
end
def weathercocklaw16_CostRises.f (k : Nat) (a0 : Int) (a1 : Int) (a2 : Int) (a3 : Int) : Option (Bool) := (weathercocklaw16_examples.f k).bind fun t146 => (if a3 < 0 then (weathercocklaw16_CostRises.j0 k a0 a1 a2 (wrap64 (-(wrap64 (a3 + 1)))) t146) else (weathercocklaw16_CostRises.j0 k a0 a1 a2 a3 t146))
theorem weathercocklaw16_CostRises.mono_l : ∀ k, (∀ y0 y1 y2 y3 y4, LeO (weathercocklaw16_CostRises.j0 k y0 y1 y2 y3 y4) (weathercocklaw16_CostRises.j0 (k + 1) y0 y1 y2 y3 y4)) ∧ (∀ y0 y1 y2 y3 y4, LeO (weathercocklaw16_CostRises.j1 k y0 y1 y2 y3 y4) (weathercocklaw16_CostRises.j1 (k + 1) y0 y1 y2 y3 y4)) ∧ (∀ y0 y1 y2 y3, LeO (weathercocklaw16_CostRises.l0 k y0 y1 y2 y3) (weathercocklaw16_CostRises.l0 (k + 1) y0 y1 y2 y3))
  | 0 => ⟨fun _ _ _ _ _ r h => by simp [weathercocklaw16_CostRises.j0] at h, fun _ _ _ _ _ r h => by simp [weathercocklaw16_CostRises.j1] at h, fun _ _ _ _ r h => by simp [weathercocklaw16_CostRises.l0] at h⟩
  | k + 1 => by
    obtain ⟨ih0, ih1, ih2⟩ := weathercocklaw16_CostRises.mono_l k
    refine ⟨?_, ?_, ?_⟩
    · intro y0 y1 y2 y3 y4
      unfold weathercocklaw16_CostRises.j0
      repeat' first
      | (with_reducible exact ih0 _ _ _ _ _)
      | (with_reducible exact ih1 _ _ _ _ _)
      | (with_reducible exact ih2 _ _ _ _)
      | (with_reducible exact cost_Bits.mono _ _)
      | (with_reducible exact cost_Hash.mono _ _ _ _)
      | (with_reducible exact cost_Index.mono _ _)
      | (with_reducible exact cost_Loop.mono _ _ _ _)
      | (with_reducible exact cost_Merge.mono _ _ _ _)
      | (with_reducible exact cost_Scan.mono _ _)
      | (with_reducible exact cost_Sort.mono _ _)
      | (with_reducible exact weathercocklaw16_examples.mono _)
      | (with_reducible exact LeO.refl _)
      | (with_reducible exact LeO.none _)
      | (with_reducible refine LeO.ite ?_ ?_)
      | (with_reducible refine LeO.bind ?_ (fun _ => ?_))
      | exact ih0 _ _ _ _ _
      | exact ih1 _ _ _ _ _
      | exact ih2 _ _ _ _
      | exact cost_Bits.mono _ _
      | exact cost_Hash.mono _ _ _ _
      | exact cost_Index.mono _ _
      | exact cost_Loop.mono _ _ _ _
      | exact cost_Merge.mono _ _ _ _
      | exact cost_Scan.mono _ _
      | exact cost_Sort.mono _ _
      | exact weathercocklaw16_examples.mono _
      | exact LeO.none _
      | refine LeO.ite ?_ ?_
      | refine LeO.bind ?_ (fun _ => ?_)
    · intro y0 y1 y2 y3 y4
      unfold weathercocklaw16_CostRises.j1
      repeat' first
      | (with_reducible exact ih0 _ _ _ _ _)
      | (with_reducible exact ih1 _ _ _ _ _)
      | (with_reducible exact ih2 _ _ _ _)
      | (with_reducible exact cost_Bits.mono _ _)
      | (with_reducible exact cost_Hash.mono _ _ _ _)
      | (with_reducible exact cost_Index.mono _ _)
      | (with_reducible exact cost_Loop.mono _ _ _ _)
      | (with_reducible exact cost_Merge.mono _ _ _ _)
      | (with_reducible exact cost_Scan.mono _ _)
      | (with_reducible exact cost_Sort.mono _ _)
      | (with_reducible exact weathercocklaw16_examples.mono _)
      | (with_reducible exact LeO.refl _)
      | (with_reducible exact LeO.none _)
      | (with_reducible refine LeO.ite ?_ ?_)
      | (with_reducible refine LeO.bind ?_ (fun _ => ?_))
      | exact ih0 _ _ _ _ _
      | exact ih1 _ _ _ _ _
      | exact ih2 _ _ _ _
      | exact cost_Bits.mono _ _
      | exact cost_Hash.mono _ _ _ _
      | exact cost_Index.mono _ _
      | exact cost_Loop.mono _ _ _ _
      | exact cost_Merge.mono _ _ _ _
      | exact cost_Scan.mono _ _
      | exact cost_Sort.mono _ _
      | exact weathercocklaw16_examples.mono _
      | exact LeO.none _
      | refine LeO.ite ?_ ?_
      | refine LeO.bind ?_ (fun _ => ?_)
    · intro y0 y1 y2 y3
      unfold weathercocklaw16_CostRises.l0
      repeat' first
      | (with_reducible exact ih0 _ _ _ _ _)
      | (with_reducible exact ih1 _ _ _ _ _)
      | (with_reducible exact ih2 _ _ _ _)
      | (with_reducible exact cost_Bits.mono _ _)
      | (with_reducible exact cost_Hash.mono _ _ _ _)
      | (with_reducible exact cost_Index.mono _ _)
      | (with_reducible exact cost_Loop.mono _ _ _ _)
      | (with_reducible exact cost_Merge.mono _ _ _ _)
      | (with_reducible exact cost_Scan.mono _ _)
      | (with_reducible exact cost_Sort.mono _ _)
      | (with_reducible exact weathercocklaw16_examples.mono _)
      | (with_reducible exact LeO.refl _)
      | (with_reducible exact LeO.none _)
      | (with_reducible refine LeO.ite ?_ ?_)
      | (with_reducible refine LeO.bind ?_ (fun _ => ?_))
      | exact ih0 _ _ _ _ _
      | exact ih1 _ _ _ _ _
      | exact ih2 _ _ _ _
      | exact cost_Bits.mono _ _
      | exact cost_Hash.mono _ _ _ _
      | exact cost_Index.mono _ _
      | exact cost_Loop.mono _ _ _ _
      | exact cost_Merge.mono _ _ _ _
      | exact cost_Scan.mono _ _
      | exact cost_Sort.mono _ _
      | exact weathercocklaw16_examples.mono _
      | exact LeO.none _
      | refine LeO.ite ?_ ?_
      | refine LeO.bind ?_ (fun _ => ?_)
theorem weathercocklaw16_CostRises.mono : ∀ a0 a1 a2 a3 k, LeO (weathercocklaw16_CostRises.f k a0 a1 a2 a3) (weathercocklaw16_CostRises.f (k + 1) a0 a1 a2 a3) := by
  intro a0 a1 a2 a3 k
  obtain ⟨ih0, ih1, ih2⟩ := weathercocklaw16_CostRises.mono_l k
  unfold weathercocklaw16_CostRises.f
  repeat' first
      | (with_reducible exact ih0 _ _ _ _ _)
      | (with_reducible exact ih1 _ _ _ _ _)
      | (with_reducible exact ih2 _ _ _ _)
      | (with_reducible exact cost_Bits.mono _ _)
      | (with_reducible exact cost_Hash.mono _ _ _ _)
      | (with_reducible exact cost_Index.mono _ _)
      | (with_reducible exact cost_Loop.mono _ _ _ _)
      | (with_reducible exact cost_Merge.mono _ _ _ _)
      | (with_reducible exact cost_Scan.mono _ _)
      | (with_reducible exact cost_Sort.mono _ _)
      | (with_reducible exact weathercocklaw16_examples.mono _)
      | (with_reducible exact LeO.refl _)
      | (with_reducible exact LeO.none _)
      | (with_reducible refine LeO.ite ?_ ?_)
      | (with_reducible refine LeO.bind ?_ (fun _ => ?_))
      | exact ih0 _ _ _ _ _
      | exact ih1 _ _ _ _ _
      | exact ih2 _ _ _ _
      | exact cost_Bits.mono _ _
      | exact cost_Hash.mono _ _ _ _
      | exact cost_Index.mono _ _
      | exact cost_Loop.mono _ _ _ _
      | exact cost_Merge.mono _ _ _ _
      | exact cost_Scan.mono _ _
      | exact cost_Sort.mono _ _
      | exact weathercocklaw16_examples.mono _
      | exact LeO.none _
      | refine LeO.ite ?_ ?_
      | refine LeO.bind ?_ (fun _ => ?_)
set_option maxHeartbeats 8000000 in
set_option maxRecDepth 100000 in
theorem weathercocklaw16_CostRises.calls (k : Nat) (a0 : Int) (a1 : Int) (a2 : Int) (a3 : Int) (r : Bool) (w : World) (h : weathercocklaw16_CostRises.f k a0 a1 a2 a3 = some r) (hrt : r = true) :
    Calls Try.prog 4 #[.int .i64 a0, .int .i64 a1, .int .i64 a2, .int .i64 a3] w fun e w' => e = .returned (.bool r) ∧ Below w.heap.size w w' := by
  have HRT := Aside0.mk hrt
  clear hrt
  have HB := Aside0.mk (Below.refl w.heap.size w)
  have H : ((weathercocklaw16_examples.f k).bind fun t146 => (if a3 < 0 then (weathercocklaw16_CostRises.j0 k a0 a1 a2 (wrap64 (-(wrap64 (a3 + 1)))) t146) else (weathercocklaw16_CostRises.j0 k a0 a1 a2 a3 t146))) = some r := h
  clear h
  replace H := Option.bind_eq_some_iff.mp H
  obtain ⟨t146, A50, H⟩ := H
  replace H : (if a3 < 0 then (weathercocklaw16_CostRises.j0 k a0 a1 a2 (wrap64 (-(wrap64 (a3 + 1)))) t146) else (weathercocklaw16_CostRises.j0 k a0 a1 a2 a3 t146)) = some r := H
  have A5 := Aside0.mk A50
  clear A50
  have HC6 := Aside0.mk H
  clear H
  go_enter Try.func4, Try.ntmps4
  go_upto_if 16 with (first | (go_at_call 6; (with_reducible refine (weathercocklaw16_examples.calls k  t146 _ A5.out).mono ?_); rintro e w7 ⟨rfl, hb⟩; have n0_ := Aside0.mk (below_step (by repeat (first | (with_reducible first | exact HB.out | apply below_alloc | apply pw_below_drewN | apply below_drew1) | exact HB.out)) hb); clear HB; have HB := n0_; clear n0_; (try clear hb); (try clear hb2); (try clear hk); (try clear hi)))
  repeat (go_quiet (first | (go_at_call 6; (with_reducible refine (weathercocklaw16_examples.calls k  t146 _ A5.out).mono ?_); rintro e w7 ⟨rfl, hb⟩; have n0_ := Aside0.mk (below_step (by repeat (first | (with_reducible first | exact HB.out | apply below_alloc | apply pw_below_drewN | apply below_drew1) | exact HB.out)) hb); clear HB; have HB := n0_; clear n0_; (try clear hb); (try clear hb2); (try clear hk); (try clear hi))); go_upto_if 16 with (first | (go_at_call 6; (with_reducible refine (weathercocklaw16_examples.calls k  t146 _ A5.out).mono ?_); rintro e w7 ⟨rfl, hb⟩; have n0_ := Aside0.mk (below_step (by repeat (first | (with_reducible first | exact HB.out | apply below_alloc | apply pw_below_drewN | apply below_drew1) | exact HB.out)) hb); clear HB; have HB := n0_; clear n0_; (try clear hb); (try clear hb2); (try clear hk); (try clear hi))))
  (try simp only [Act.put, List.setIfInBounds_toArray, List.set_cons_zero, List.set_cons_succ])
  go_cut [3] (fun v3 wc => ∃ (kq : Nat) (x3_5 : Int), v3 = .int .i64 x3_5 ∧ Aside0 (weathercocklaw16_CostRises.j0 kq a0 a1 a2 x3_5 t146 = some r) ∧ Aside0 (kq ≤ k) ∧ Aside0 (Below w.heap.size w wc))
  case first =>
    have H := HC6.out
    clear HC6
    by_cases c8 : a3 < 0
    · rw [if_pos c8] at H
      have c8b0 : decide (a3 < 0) = true := decide_eq_true c8
      clear c8
      (first | rw [c8b0] | (simp only [i64_w, i32_w]; rw [c8b0]) | skip)
      have H' := Aside0.mk H
      clear H
      go_wp2
      repeat (go_quiet (fail); try go_wp2)
      go_meet
      case rel => exact ⟨_, (wrap64 (-(wrap64 (a3 + 1)))), (by first | rfl | (simp; done) | (simp [*]; done)), H', ⟨by first | omega | exact Nat.le_refl _⟩, ⟨by repeat (first | (with_reducible first | exact HB.out | apply below_alloc | apply pw_below_drewN | apply below_drew1) | exact HB.out)⟩⟩
    · rw [if_neg c8] at H
      have c8b0 : decide (a3 < 0) = false := decide_eq_false c8
      clear c8
      (first | rw [c8b0] | (simp only [i64_w, i32_w]; rw [c8b0]) | skip)
      have H' := Aside0.mk H
      clear H
      go_wp2
      repeat (go_quiet (fail); try go_wp2)
      go_meet
      case rel => exact ⟨_, (a3), (by first | rfl | (simp; done) | (simp [*]; done)), H', ⟨by first | omega | exact Nat.le_refl _⟩, ⟨by repeat (first | (with_reducible first | exact HB.out | apply below_alloc | apply pw_below_drewN | apply below_drew1) | exact HB.out)⟩⟩
  case rest =>
    clear HC6
    try clear p2
    try clear c4
    try clear p6
    try clear c8
    try clear c8b0
    obtain ⟨kq, x3_5, rfl, HA, HJ5, HB⟩ := hcut
    cases kq with
    | zero => exact absurd HA.out (by simp [weathercocklaw16_CostRises.j0])
    | succ kj5 =>
      have H := HA.out
      clear HA
      simp only [weathercocklaw16_CostRises.j0] at H
      have HC9 := Aside0.mk H
      clear H
      go_upto_if 22 with (fail)
      repeat (go_quiet (fail); go_upto_if 22 with (fail))
      go_cut [10] (fun v10 wc => ∃ (kq : Nat) (x10_8 : Int), v10 = .int .i64 x10_8 ∧ Aside0 (weathercocklaw16_CostRises.j1 kq a0 a1 a2 t146 x10_8 = some r) ∧ Aside0 (kq ≤ kj5) ∧ Aside0 (Below w.heap.size w wc))
      case first =>
        have H := HC9.out
        clear HC9
        by_cases c10 : a0 < 4611686018427387904
        · rw [if_pos c10] at H
          have c10b0 : decide (a0 < 4611686018427387904) = true := decide_eq_true c10
          clear c10
          (first | rw [c10b0] | (simp only [i64_w, i32_w]; rw [c10b0]) | skip)
          have H' := Aside0.mk H
          clear H
          go_wp2
          repeat (go_quiet (fail); try go_wp2)
          go_meet
          case rel => exact ⟨_, (wrap64 (a0 + (Int.tmod x3_5 1000000))), (by first | rfl | (simp; done) | (simp [*]; done)), H', ⟨by have := HJ5.out; first | omega | exact Nat.le_refl _⟩, ⟨by repeat (first | (with_reducible first | exact HB.out | apply below_alloc | apply pw_below_drewN | apply below_drew1) | exact HB.out)⟩⟩
        · rw [if_neg c10] at H
          have c10b0 : decide (a0 < 4611686018427387904) = false := decide_eq_false c10
          clear c10
          (first | rw [c10b0] | (simp only [i64_w, i32_w]; rw [c10b0]) | skip)
          have H' := Aside0.mk H
          clear H
          go_wp2
          repeat (go_quiet (fail); try go_wp2)
          go_meet
          case rel => exact ⟨_, (a0), (by first | rfl | (simp; done) | (simp [*]; done)), H', ⟨by have := HJ5.out; first | omega | exact Nat.le_refl _⟩, ⟨by repeat (first | (with_reducible first | exact HB.out | apply below_alloc | apply pw_below_drewN | apply below_drew1) | exact HB.out)⟩⟩
      case rest =>
        clear HC9
        try clear c1
        try clear p2
        try clear c4
        try clear p6
        try clear c8
        try clear c8b0
        try clear c10
        try clear c10b0
        try clear p2
        try clear p6
        obtain ⟨kq, x10_8, rfl, HA, HJ8, HB⟩ := hcut
        cases kq with
        | zero => exact absurd HA.out (by simp [weathercocklaw16_CostRises.j1])
        | succ kj8 =>
          have H := HA.out
          clear HA
          simp only [weathercocklaw16_CostRises.j1] at H
          replace H := Option.bind_eq_some_iff.mp H
          obtain ⟨t147, A110, H⟩ := H
          replace H : ((cost_Sort.f kj8 a0).bind fun t148 => ((cost_Scan.f kj8 a0).bind fun t149 => ((cost_Index.f kj8 a0).bind fun t150 => ((cost_Temp.f a0).bind fun t151 => ((cost_Loop.f kj8 a0 a1 a2).bind fun t152 => ((cost_Loop.f kj8 a1 a0 a2).bind fun t153 => ((cost_Loop.f kj8 a1 a2 a0).bind fun t154 => ((cost_Hash.f kj8 a0 a1 a2).bind fun t155 => ((cost_Hash.f kj8 a1 a0 a2).bind fun t156 => ((cost_Hash.f kj8 a1 a2 a0).bind fun t157 => ((cost_Merge.f kj8 a0 a1 a2).bind fun t158 => ((cost_Merge.f kj8 a1 a0 a2).bind fun t159 => ((cost_Merge.f kj8 a1 a2 a0).bind fun t160 => ((cost_Bits.f kj8 x10_8).bind fun t164 => ((cost_Sort.f kj8 x10_8).bind fun t165 => ((cost_Scan.f kj8 x10_8).bind fun t166 => ((cost_Index.f kj8 x10_8).bind fun t167 => ((cost_Temp.f x10_8).bind fun t168 => ((cost_Loop.f kj8 x10_8 a1 a2).bind fun t169 => ((cost_Loop.f kj8 a1 x10_8 a2).bind fun t170 => ((cost_Loop.f kj8 a1 a2 x10_8).bind fun t171 => ((cost_Hash.f kj8 x10_8 a1 a2).bind fun t172 => ((cost_Hash.f kj8 a1 x10_8 a2).bind fun t173 => ((cost_Hash.f kj8 a1 a2 x10_8).bind fun t174 => ((cost_Merge.f kj8 x10_8 a1 a2).bind fun t175 => ((cost_Merge.f kj8 a1 x10_8 a2).bind fun t176 => ((cost_Merge.f kj8 a1 a2 x10_8).bind fun t177 => (weathercocklaw16_CostRises.l0 kj8 t146 (([t147, t148, t149, t150, t151, t152, t153, t154, t155, t156, t157, t158, t159, t160] : List Int)) (([t164, t165, t166, t167, t168, t169, t170, t171, t172, t173, t174, t175, t176, t177] : List Int)) 0)))))))))))))))))))))))))))) = some r := H
          have A11 := Aside0.mk A110
          clear A110
          replace H := Option.bind_eq_some_iff.mp H
          obtain ⟨t148, A120, H⟩ := H
          replace H : ((cost_Scan.f kj8 a0).bind fun t149 => ((cost_Index.f kj8 a0).bind fun t150 => ((cost_Temp.f a0).bind fun t151 => ((cost_Loop.f kj8 a0 a1 a2).bind fun t152 => ((cost_Loop.f kj8 a1 a0 a2).bind fun t153 => ((cost_Loop.f kj8 a1 a2 a0).bind fun t154 => ((cost_Hash.f kj8 a0 a1 a2).bind fun t155 => ((cost_Hash.f kj8 a1 a0 a2).bind fun t156 => ((cost_Hash.f kj8 a1 a2 a0).bind fun t157 => ((cost_Merge.f kj8 a0 a1 a2).bind fun t158 => ((cost_Merge.f kj8 a1 a0 a2).bind fun t159 => ((cost_Merge.f kj8 a1 a2 a0).bind fun t160 => ((cost_Bits.f kj8 x10_8).bind fun t164 => ((cost_Sort.f kj8 x10_8).bind fun t165 => ((cost_Scan.f kj8 x10_8).bind fun t166 => ((cost_Index.f kj8 x10_8).bind fun t167 => ((cost_Temp.f x10_8).bind fun t168 => ((cost_Loop.f kj8 x10_8 a1 a2).bind fun t169 => ((cost_Loop.f kj8 a1 x10_8 a2).bind fun t170 => ((cost_Loop.f kj8 a1 a2 x10_8).bind fun t171 => ((cost_Hash.f kj8 x10_8 a1 a2).bind fun t172 => ((cost_Hash.f kj8 a1 x10_8 a2).bind fun t173 => ((cost_Hash.f kj8 a1 a2 x10_8).bind fun t174 => ((cost_Merge.f kj8 x10_8 a1 a2).bind fun t175 => ((cost_Merge.f kj8 a1 x10_8 a2).bind fun t176 => ((cost_Merge.f kj8 a1 a2 x10_8).bind fun t177 => (weathercocklaw16_CostRises.l0 kj8 t146 (([t147, t148, t149, t150, t151, t152, t153, t154, t155, t156, t157, t158, t159, t160] : List Int)) (([t164, t165, t166, t167, t168, t169, t170, t171, t172, t173, t174, t175, t176, t177] : List Int)) 0))))))))))))))))))))))))))) = some r := H
          have A12 := Aside0.mk A120
          clear A120
          replace H := Option.bind_eq_some_iff.mp H
          obtain ⟨t149, A130, H⟩ := H
          replace H : ((cost_Index.f kj8 a0).bind fun t150 => ((cost_Temp.f a0).bind fun t151 => ((cost_Loop.f kj8 a0 a1 a2).bind fun t152 => ((cost_Loop.f kj8 a1 a0 a2).bind fun t153 => ((cost_Loop.f kj8 a1 a2 a0).bind fun t154 => ((cost_Hash.f kj8 a0 a1 a2).bind fun t155 => ((cost_Hash.f kj8 a1 a0 a2).bind fun t156 => ((cost_Hash.f kj8 a1 a2 a0).bind fun t157 => ((cost_Merge.f kj8 a0 a1 a2).bind fun t158 => ((cost_Merge.f kj8 a1 a0 a2).bind fun t159 => ((cost_Merge.f kj8 a1 a2 a0).bind fun t160 => ((cost_Bits.f kj8 x10_8).bind fun t164 => ((cost_Sort.f kj8 x10_8).bind fun t165 => ((cost_Scan.f kj8 x10_8).bind fun t166 => ((cost_Index.f kj8 x10_8).bind fun t167 => ((cost_Temp.f x10_8).bind fun t168 => ((cost_Loop.f kj8 x10_8 a1 a2).bind fun t169 => ((cost_Loop.f kj8 a1 x10_8 a2).bind fun t170 => ((cost_Loop.f kj8 a1 a2 x10_8).bind fun t171 => ((cost_Hash.f kj8 x10_8 a1 a2).bind fun t172 => ((cost_Hash.f kj8 a1 x10_8 a2).bind fun t173 => ((cost_Hash.f kj8 a1 a2 x10_8).bind fun t174 => ((cost_Merge.f kj8 x10_8 a1 a2).bind fun t175 => ((cost_Merge.f kj8 a1 x10_8 a2).bind fun t176 => ((cost_Merge.f kj8 a1 a2 x10_8).bind fun t177 => (weathercocklaw16_CostRises.l0 kj8 t146 (([t147, t148, t149, t150, t151, t152, t153, t154, t155, t156, t157, t158, t159, t160] : List Int)) (([t164, t165, t166, t167, t168, t169, t170, t171, t172, t173, t174, t175, t176, t177] : List Int)) 0)))))))))))))))))))))))))) = some r := H
          have A13 := Aside0.mk A130
          clear A130
          replace H := Option.bind_eq_some_iff.mp H
          obtain ⟨t150, A140, H⟩ := H
          replace H : ((cost_Temp.f a0).bind fun t151 => ((cost_Loop.f kj8 a0 a1 a2).bind fun t152 => ((cost_Loop.f kj8 a1 a0 a2).bind fun t153 => ((cost_Loop.f kj8 a1 a2 a0).bind fun t154 => ((cost_Hash.f kj8 a0 a1 a2).bind fun t155 => ((cost_Hash.f kj8 a1 a0 a2).bind fun t156 => ((cost_Hash.f kj8 a1 a2 a0).bind fun t157 => ((cost_Merge.f kj8 a0 a1 a2).bind fun t158 => ((cost_Merge.f kj8 a1 a0 a2).bind fun t159 => ((cost_Merge.f kj8 a1 a2 a0).bind fun t160 => ((cost_Bits.f kj8 x10_8).bind fun t164 => ((cost_Sort.f kj8 x10_8).bind fun t165 => ((cost_Scan.f kj8 x10_8).bind fun t166 => ((cost_Index.f kj8 x10_8).bind fun t167 => ((cost_Temp.f x10_8).bind fun t168 => ((cost_Loop.f kj8 x10_8 a1 a2).bind fun t169 => ((cost_Loop.f kj8 a1 x10_8 a2).bind fun t170 => ((cost_Loop.f kj8 a1 a2 x10_8).bind fun t171 => ((cost_Hash.f kj8 x10_8 a1 a2).bind fun t172 => ((cost_Hash.f kj8 a1 x10_8 a2).bind fun t173 => ((cost_Hash.f kj8 a1 a2 x10_8).bind fun t174 => ((cost_Merge.f kj8 x10_8 a1 a2).bind fun t175 => ((cost_Merge.f kj8 a1 x10_8 a2).bind fun t176 => ((cost_Merge.f kj8 a1 a2 x10_8).bind fun t177 => (weathercocklaw16_CostRises.l0 kj8 t146 (([t147, t148, t149, t150, t151, t152, t153, t154, t155, t156, t157, t158, t159, t160] : List Int)) (([t164, t165, t166, t167, t168, t169, t170, t171, t172, t173, t174, t175, t176, t177] : List Int)) 0))))))))))))))))))))))))) = some r := H
          have A14 := Aside0.mk A140
          clear A140
          replace H := Option.bind_eq_some_iff.mp H
          obtain ⟨t151, A150, H⟩ := H
          replace H : ((cost_Loop.f kj8 a0 a1 a2).bind fun t152 => ((cost_Loop.f kj8 a1 a0 a2).bind fun t153 => ((cost_Loop.f kj8 a1 a2 a0).bind fun t154 => ((cost_Hash.f kj8 a0 a1 a2).bind fun t155 => ((cost_Hash.f kj8 a1 a0 a2).bind fun t156 => ((cost_Hash.f kj8 a1 a2 a0).bind fun t157 => ((cost_Merge.f kj8 a0 a1 a2).bind fun t158 => ((cost_Merge.f kj8 a1 a0 a2).bind fun t159 => ((cost_Merge.f kj8 a1 a2 a0).bind fun t160 => ((cost_Bits.f kj8 x10_8).bind fun t164 => ((cost_Sort.f kj8 x10_8).bind fun t165 => ((cost_Scan.f kj8 x10_8).bind fun t166 => ((cost_Index.f kj8 x10_8).bind fun t167 => ((cost_Temp.f x10_8).bind fun t168 => ((cost_Loop.f kj8 x10_8 a1 a2).bind fun t169 => ((cost_Loop.f kj8 a1 x10_8 a2).bind fun t170 => ((cost_Loop.f kj8 a1 a2 x10_8).bind fun t171 => ((cost_Hash.f kj8 x10_8 a1 a2).bind fun t172 => ((cost_Hash.f kj8 a1 x10_8 a2).bind fun t173 => ((cost_Hash.f kj8 a1 a2 x10_8).bind fun t174 => ((cost_Merge.f kj8 x10_8 a1 a2).bind fun t175 => ((cost_Merge.f kj8 a1 x10_8 a2).bind fun t176 => ((cost_Merge.f kj8 a1 a2 x10_8).bind fun t177 => (weathercocklaw16_CostRises.l0 kj8 t146 (([t147, t148, t149, t150, t151, t152, t153, t154, t155, t156, t157, t158, t159, t160] : List Int)) (([t164, t165, t166, t167, t168, t169, t170, t171, t172, t173, t174, t175, t176, t177] : List Int)) 0)))))))))))))))))))))))) = some r := H
          have A15 := Aside0.mk A150
          clear A150
          replace H := Option.bind_eq_some_iff.mp H
          obtain ⟨t152, A160, H⟩ := H
          replace H : ((cost_Loop.f kj8 a1 a0 a2).bind fun t153 => ((cost_Loop.f kj8 a1 a2 a0).bind fun t154 => ((cost_Hash.f kj8 a0 a1 a2).bind fun t155 => ((cost_Hash.f kj8 a1 a0 a2).bind fun t156 => ((cost_Hash.f kj8 a1 a2 a0).bind fun t157 => ((cost_Merge.f kj8 a0 a1 a2).bind fun t158 => ((cost_Merge.f kj8 a1 a0 a2).bind fun t159 => ((cost_Merge.f kj8 a1 a2 a0).bind fun t160 => ((cost_Bits.f kj8 x10_8).bind fun t164 => ((cost_Sort.f kj8 x10_8).bind fun t165 => ((cost_Scan.f kj8 x10_8).bind fun t166 => ((cost_Index.f kj8 x10_8).bind fun t167 => ((cost_Temp.f x10_8).bind fun t168 => ((cost_Loop.f kj8 x10_8 a1 a2).bind fun t169 => ((cost_Loop.f kj8 a1 x10_8 a2).bind fun t170 => ((cost_Loop.f kj8 a1 a2 x10_8).bind fun t171 => ((cost_Hash.f kj8 x10_8 a1 a2).bind fun t172 => ((cost_Hash.f kj8 a1 x10_8 a2).bind fun t173 => ((cost_Hash.f kj8 a1 a2 x10_8).bind fun t174 => ((cost_Merge.f kj8 x10_8 a1 a2).bind fun t175 => ((cost_Merge.f kj8 a1 x10_8 a2).bind fun t176 => ((cost_Merge.f kj8 a1 a2 x10_8).bind fun t177 => (weathercocklaw16_CostRises.l0 kj8 t146 (([t147, t148, t149, t150, t151, t152, t153, t154, t155, t156, t157, t158, t159, t160] : List Int)) (([t164, t165, t166, t167, t168, t169, t170, t171, t172, t173, t174, t175, t176, t177] : List Int)) 0))))))))))))))))))))))) = some r := H
          have A16 := Aside0.mk A160
          clear A160
          replace H := Option.bind_eq_some_iff.mp H
          obtain ⟨t153, A170, H⟩ := H
          replace H : ((cost_Loop.f kj8 a1 a2 a0).bind fun t154 => ((cost_Hash.f kj8 a0 a1 a2).bind fun t155 => ((cost_Hash.f kj8 a1 a0 a2).bind fun t156 => ((cost_Hash.f kj8 a1 a2 a0).bind fun t157 => ((cost_Merge.f kj8 a0 a1 a2).bind fun t158 => ((cost_Merge.f kj8 a1 a0 a2).bind fun t159 => ((cost_Merge.f kj8 a1 a2 a0).bind fun t160 => ((cost_Bits.f kj8 x10_8).bind fun t164 => ((cost_Sort.f kj8 x10_8).bind fun t165 => ((cost_Scan.f kj8 x10_8).bind fun t166 => ((cost_Index.f kj8 x10_8).bind fun t167 => ((cost_Temp.f x10_8).bind fun t168 => ((cost_Loop.f kj8 x10_8 a1 a2).bind fun t169 => ((cost_Loop.f kj8 a1 x10_8 a2).bind fun t170 => ((cost_Loop.f kj8 a1 a2 x10_8).bind fun t171 => ((cost_Hash.f kj8 x10_8 a1 a2).bind fun t172 => ((cost_Hash.f kj8 a1 x10_8 a2).bind fun t173 => ((cost_Hash.f kj8 a1 a2 x10_8).bind fun t174 => ((cost_Merge.f kj8 x10_8 a1 a2).bind fun t175 => ((cost_Merge.f kj8 a1 x10_8 a2).bind fun t176 => ((cost_Merge.f kj8 a1 a2 x10_8).bind fun t177 => (weathercocklaw16_CostRises.l0 kj8 t146 (([t147, t148, t149, t150, t151, t152, t153, t154, t155, t156, t157, t158, t159, t160] : List Int)) (([t164, t165, t166, t167, t168, t169, t170, t171, t172, t173, t174, t175, t176, t177] : List Int)) 0)))))))))))))))))))))) = some r := H
          have A17 := Aside0.mk A170
          clear A170
          replace H := Option.bind_eq_some_iff.mp H
          obtain ⟨t154, A180, H⟩ := H
          replace H : ((cost_Hash.f kj8 a0 a1 a2).bind fun t155 => ((cost_Hash.f kj8 a1 a0 a2).bind fun t156 => ((cost_Hash.f kj8 a1 a2 a0).bind fun t157 => ((cost_Merge.f kj8 a0 a1 a2).bind fun t158 => ((cost_Merge.f kj8 a1 a0 a2).bind fun t159 => ((cost_Merge.f kj8 a1 a2 a0).bind fun t160 => ((cost_Bits.f kj8 x10_8).bind fun t164 => ((cost_Sort.f kj8 x10_8).bind fun t165 => ((cost_Scan.f kj8 x10_8).bind fun t166 => ((cost_Index.f kj8 x10_8).bind fun t167 => ((cost_Temp.f x10_8).bind fun t168 => ((cost_Loop.f kj8 x10_8 a1 a2).bind fun t169 => ((cost_Loop.f kj8 a1 x10_8 a2).bind fun t170 => ((cost_Loop.f kj8 a1 a2 x10_8).bind fun t171 => ((cost_Hash.f kj8 x10_8 a1 a2).bind fun t172 => ((cost_Hash.f kj8 a1 x10_8 a2).bind fun t173 => ((cost_Hash.f kj8 a1 a2 x10_8).bind fun t174 => ((cost_Merge.f kj8 x10_8 a1 a2).bind fun t175 => ((cost_Merge.f kj8 a1 x10_8 a2).bind fun t176 => ((cost_Merge.f kj8 a1 a2 x10_8).bind fun t177 => (weathercocklaw16_CostRises.l0 kj8 t146 (([t147, t148, t149, t150, t151, t152, t153, t154, t155, t156, t157, t158, t159, t160] : List Int)) (([t164, t165, t166, t167, t168, t169, t170, t171, t172, t173, t174, t175, t176, t177] : List Int)) 0))))))))))))))))))))) = some r := H
          have A18 := Aside0.mk A180
          clear A180
          replace H := Option.bind_eq_some_iff.mp H
          obtain ⟨t155, A190, H⟩ := H
          replace H : ((cost_Hash.f kj8 a1 a0 a2).bind fun t156 => ((cost_Hash.f kj8 a1 a2 a0).bind fun t157 => ((cost_Merge.f kj8 a0 a1 a2).bind fun t158 => ((cost_Merge.f kj8 a1 a0 a2).bind fun t159 => ((cost_Merge.f kj8 a1 a2 a0).bind fun t160 => ((cost_Bits.f kj8 x10_8).bind fun t164 => ((cost_Sort.f kj8 x10_8).bind fun t165 => ((cost_Scan.f kj8 x10_8).bind fun t166 => ((cost_Index.f kj8 x10_8).bind fun t167 => ((cost_Temp.f x10_8).bind fun t168 => ((cost_Loop.f kj8 x10_8 a1 a2).bind fun t169 => ((cost_Loop.f kj8 a1 x10_8 a2).bind fun t170 => ((cost_Loop.f kj8 a1 a2 x10_8).bind fun t171 => ((cost_Hash.f kj8 x10_8 a1 a2).bind fun t172 => ((cost_Hash.f kj8 a1 x10_8 a2).bind fun t173 => ((cost_Hash.f kj8 a1 a2 x10_8).bind fun t174 => ((cost_Merge.f kj8 x10_8 a1 a2).bind fun t175 => ((cost_Merge.f kj8 a1 x10_8 a2).bind fun t176 => ((cost_Merge.f kj8 a1 a2 x10_8).bind fun t177 => (weathercocklaw16_CostRises.l0 kj8 t146 (([t147, t148, t149, t150, t151, t152, t153, t154, t155, t156, t157, t158, t159, t160] : List Int)) (([t164, t165, t166, t167, t168, t169, t170, t171, t172, t173, t174, t175, t176, t177] : List Int)) 0)))))))))))))))))))) = some r := H
          have A19 := Aside0.mk A190
          clear A190
          replace H := Option.bind_eq_some_iff.mp H
          obtain ⟨t156, A200, H⟩ := H
          replace H : ((cost_Hash.f kj8 a1 a2 a0).bind fun t157 => ((cost_Merge.f kj8 a0 a1 a2).bind fun t158 => ((cost_Merge.f kj8 a1 a0 a2).bind fun t159 => ((cost_Merge.f kj8 a1 a2 a0).bind fun t160 => ((cost_Bits.f kj8 x10_8).bind fun t164 => ((cost_Sort.f kj8 x10_8).bind fun t165 => ((cost_Scan.f kj8 x10_8).bind fun t166 => ((cost_Index.f kj8 x10_8).bind fun t167 => ((cost_Temp.f x10_8).bind fun t168 => ((cost_Loop.f kj8 x10_8 a1 a2).bind fun t169 => ((cost_Loop.f kj8 a1 x10_8 a2).bind fun t170 => ((cost_Loop.f kj8 a1 a2 x10_8).bind fun t171 => ((cost_Hash.f kj8 x10_8 a1 a2).bind fun t172 => ((cost_Hash.f kj8 a1 x10_8 a2).bind fun t173 => ((cost_Hash.f kj8 a1 a2 x10_8).bind fun t174 => ((cost_Merge.f kj8 x10_8 a1 a2).bind fun t175 => ((cost_Merge.f kj8 a1 x10_8 a2).bind fun t176 => ((cost_Merge.f kj8 a1 a2 x10_8).bind fun t177 => (weathercocklaw16_CostRises.l0 kj8 t146 (([t147, t148, t149, t150, t151, t152, t153, t154, t155, t156, t157, t158, t159, t160] : List Int)) (([t164, t165, t166, t167, t168, t169, t170, t171, t172, t173, t174, t175, t176, t177] : List Int)) 0))))))))))))))))))) = some r := H
          have A20 := Aside0.mk A200
          clear A200
          replace H := Option.bind_eq_some_iff.mp H
          obtain ⟨t157, A210, H⟩ := H
          replace H : ((cost_Merge.f kj8 a0 a1 a2).bind fun t158 => ((cost_Merge.f kj8 a1 a0 a2).bind fun t159 => ((cost_Merge.f kj8 a1 a2 a0).bind fun t160 => ((cost_Bits.f kj8 x10_8).bind fun t164 => ((cost_Sort.f kj8 x10_8).bind fun t165 => ((cost_Scan.f kj8 x10_8).bind fun t166 => ((cost_Index.f kj8 x10_8).bind fun t167 => ((cost_Temp.f x10_8).bind fun t168 => ((cost_Loop.f kj8 x10_8 a1 a2).bind fun t169 => ((cost_Loop.f kj8 a1 x10_8 a2).bind fun t170 => ((cost_Loop.f kj8 a1 a2 x10_8).bind fun t171 => ((cost_Hash.f kj8 x10_8 a1 a2).bind fun t172 => ((cost_Hash.f kj8 a1 x10_8 a2).bind fun t173 => ((cost_Hash.f kj8 a1 a2 x10_8).bind fun t174 => ((cost_Merge.f kj8 x10_8 a1 a2).bind fun t175 => ((cost_Merge.f kj8 a1 x10_8 a2).bind fun t176 => ((cost_Merge.f kj8 a1 a2 x10_8).bind fun t177 => (weathercocklaw16_CostRises.l0 kj8 t146 (([t147, t148, t149, t150, t151, t152, t153, t154, t155, t156, t157, t158, t159, t160] : List Int)) (([t164, t165, t166, t167, t168, t169, t170, t171, t172, t173, t174, t175, t176, t177] : List Int)) 0)))))))))))))))))) = some r := H
          have A21 := Aside0.mk A210
          clear A210
          replace H := Option.bind_eq_some_iff.mp H
          obtain ⟨t158, A220, H⟩ := H
          replace H : ((cost_Merge.f kj8 a1 a0 a2).bind fun t159 => ((cost_Merge.f kj8 a1 a2 a0).bind fun t160 => ((cost_Bits.f kj8 x10_8).bind fun t164 => ((cost_Sort.f kj8 x10_8).bind fun t165 => ((cost_Scan.f kj8 x10_8).bind fun t166 => ((cost_Index.f kj8 x10_8).bind fun t167 => ((cost_Temp.f x10_8).bind fun t168 => ((cost_Loop.f kj8 x10_8 a1 a2).bind fun t169 => ((cost_Loop.f kj8 a1 x10_8 a2).bind fun t170 => ((cost_Loop.f kj8 a1 a2 x10_8).bind fun t171 => ((cost_Hash.f kj8 x10_8 a1 a2).bind fun t172 => ((cost_Hash.f kj8 a1 x10_8 a2).bind fun t173 => ((cost_Hash.f kj8 a1 a2 x10_8).bind fun t174 => ((cost_Merge.f kj8 x10_8 a1 a2).bind fun t175 => ((cost_Merge.f kj8 a1 x10_8 a2).bind fun t176 => ((cost_Merge.f kj8 a1 a2 x10_8).bind fun t177 => (weathercocklaw16_CostRises.l0 kj8 t146 (([t147, t148, t149, t150, t151, t152, t153, t154, t155, t156, t157, t158, t159, t160] : List Int)) (([t164, t165, t166, t167, t168, t169, t170, t171, t172, t173, t174, t175, t176, t177] : List Int)) 0))))))))))))))))) = some r := H
          have A22 := Aside0.mk A220
          clear A220
          replace H := Option.bind_eq_some_iff.mp H
          obtain ⟨t159, A230, H⟩ := H
          replace H : ((cost_Merge.f kj8 a1 a2 a0).bind fun t160 => ((cost_Bits.f kj8 x10_8).bind fun t164 => ((cost_Sort.f kj8 x10_8).bind fun t165 => ((cost_Scan.f kj8 x10_8).bind fun t166 => ((cost_Index.f kj8 x10_8).bind fun t167 => ((cost_Temp.f x10_8).bind fun t168 => ((cost_Loop.f kj8 x10_8 a1 a2).bind fun t169 => ((cost_Loop.f kj8 a1 x10_8 a2).bind fun t170 => ((cost_Loop.f kj8 a1 a2 x10_8).bind fun t171 => ((cost_Hash.f kj8 x10_8 a1 a2).bind fun t172 => ((cost_Hash.f kj8 a1 x10_8 a2).bind fun t173 => ((cost_Hash.f kj8 a1 a2 x10_8).bind fun t174 => ((cost_Merge.f kj8 x10_8 a1 a2).bind fun t175 => ((cost_Merge.f kj8 a1 x10_8 a2).bind fun t176 => ((cost_Merge.f kj8 a1 a2 x10_8).bind fun t177 => (weathercocklaw16_CostRises.l0 kj8 t146 (([t147, t148, t149, t150, t151, t152, t153, t154, t155, t156, t157, t158, t159, t160] : List Int)) (([t164, t165, t166, t167, t168, t169, t170, t171, t172, t173, t174, t175, t176, t177] : List Int)) 0)))))))))))))))) = some r := H
          have A23 := Aside0.mk A230
          clear A230
          replace H := Option.bind_eq_some_iff.mp H
          obtain ⟨t160, A240, H⟩ := H
          replace H : ((cost_Bits.f kj8 x10_8).bind fun t164 => ((cost_Sort.f kj8 x10_8).bind fun t165 => ((cost_Scan.f kj8 x10_8).bind fun t166 => ((cost_Index.f kj8 x10_8).bind fun t167 => ((cost_Temp.f x10_8).bind fun t168 => ((cost_Loop.f kj8 x10_8 a1 a2).bind fun t169 => ((cost_Loop.f kj8 a1 x10_8 a2).bind fun t170 => ((cost_Loop.f kj8 a1 a2 x10_8).bind fun t171 => ((cost_Hash.f kj8 x10_8 a1 a2).bind fun t172 => ((cost_Hash.f kj8 a1 x10_8 a2).bind fun t173 => ((cost_Hash.f kj8 a1 a2 x10_8).bind fun t174 => ((cost_Merge.f kj8 x10_8 a1 a2).bind fun t175 => ((cost_Merge.f kj8 a1 x10_8 a2).bind fun t176 => ((cost_Merge.f kj8 a1 a2 x10_8).bind fun t177 => (weathercocklaw16_CostRises.l0 kj8 t146 (([t147, t148, t149, t150, t151, t152, t153, t154, t155, t156, t157, t158, t159, t160] : List Int)) (([t164, t165, t166, t167, t168, t169, t170, t171, t172, t173, t174, t175, t176, t177] : List Int)) 0))))))))))))))) = some r := H
          have A24 := Aside0.mk A240
          clear A240
          obtain ⟨y161, hy161⟩ : ∃ y_ : List Int, y_ = (([t147, t148, t149, t150, t151, t152, t153, t154, t155, t156, t157, t158, t159, t160] : List Int)) := ⟨_, rfl⟩
          replace H : ((cost_Bits.f kj8 x10_8).bind fun t164 => ((cost_Sort.f kj8 x10_8).bind fun t165 => ((cost_Scan.f kj8 x10_8).bind fun t166 => ((cost_Index.f kj8 x10_8).bind fun t167 => ((cost_Temp.f x10_8).bind fun t168 => ((cost_Loop.f kj8 x10_8 a1 a2).bind fun t169 => ((cost_Loop.f kj8 a1 x10_8 a2).bind fun t170 => ((cost_Loop.f kj8 a1 a2 x10_8).bind fun t171 => ((cost_Hash.f kj8 x10_8 a1 a2).bind fun t172 => ((cost_Hash.f kj8 a1 x10_8 a2).bind fun t173 => ((cost_Hash.f kj8 a1 a2 x10_8).bind fun t174 => ((cost_Merge.f kj8 x10_8 a1 a2).bind fun t175 => ((cost_Merge.f kj8 a1 x10_8 a2).bind fun t176 => ((cost_Merge.f kj8 a1 a2 x10_8).bind fun t177 => (weathercocklaw16_CostRises.l0 kj8 t146 y161 (([t164, t165, t166, t167, t168, t169, t170, t171, t172, t173, t174, t175, t176, t177] : List Int)) 0))))))))))))))) = some r := by first | (rw [hy161]; with_reducible exact H) | (have H2_ := (Option.bind_some _ _).symm.trans H; rw [hy161]; with_reducible exact H2_) | (have H2_ := (Option.bind_some _ _).symm.trans H; with_reducible exact H2_) | with_reducible exact H | (rw [hy161]; exact H) | exact H
          have Ny161 := Aside0.mk hy161
          clear hy161
          replace H := Option.bind_eq_some_iff.mp H
          obtain ⟨t164, A250, H⟩ := H
          replace H : ((cost_Sort.f kj8 x10_8).bind fun t165 => ((cost_Scan.f kj8 x10_8).bind fun t166 => ((cost_Index.f kj8 x10_8).bind fun t167 => ((cost_Temp.f x10_8).bind fun t168 => ((cost_Loop.f kj8 x10_8 a1 a2).bind fun t169 => ((cost_Loop.f kj8 a1 x10_8 a2).bind fun t170 => ((cost_Loop.f kj8 a1 a2 x10_8).bind fun t171 => ((cost_Hash.f kj8 x10_8 a1 a2).bind fun t172 => ((cost_Hash.f kj8 a1 x10_8 a2).bind fun t173 => ((cost_Hash.f kj8 a1 a2 x10_8).bind fun t174 => ((cost_Merge.f kj8 x10_8 a1 a2).bind fun t175 => ((cost_Merge.f kj8 a1 x10_8 a2).bind fun t176 => ((cost_Merge.f kj8 a1 a2 x10_8).bind fun t177 => (weathercocklaw16_CostRises.l0 kj8 t146 y161 (([t164, t165, t166, t167, t168, t169, t170, t171, t172, t173, t174, t175, t176, t177] : List Int)) 0)))))))))))))) = some r := H
          have A25 := Aside0.mk A250
          clear A250
          replace H := Option.bind_eq_some_iff.mp H
          obtain ⟨t165, A260, H⟩ := H
          replace H : ((cost_Scan.f kj8 x10_8).bind fun t166 => ((cost_Index.f kj8 x10_8).bind fun t167 => ((cost_Temp.f x10_8).bind fun t168 => ((cost_Loop.f kj8 x10_8 a1 a2).bind fun t169 => ((cost_Loop.f kj8 a1 x10_8 a2).bind fun t170 => ((cost_Loop.f kj8 a1 a2 x10_8).bind fun t171 => ((cost_Hash.f kj8 x10_8 a1 a2).bind fun t172 => ((cost_Hash.f kj8 a1 x10_8 a2).bind fun t173 => ((cost_Hash.f kj8 a1 a2 x10_8).bind fun t174 => ((cost_Merge.f kj8 x10_8 a1 a2).bind fun t175 => ((cost_Merge.f kj8 a1 x10_8 a2).bind fun t176 => ((cost_Merge.f kj8 a1 a2 x10_8).bind fun t177 => (weathercocklaw16_CostRises.l0 kj8 t146 y161 (([t164, t165, t166, t167, t168, t169, t170, t171, t172, t173, t174, t175, t176, t177] : List Int)) 0))))))))))))) = some r := H
          have A26 := Aside0.mk A260
          clear A260
          replace H := Option.bind_eq_some_iff.mp H
          obtain ⟨t166, A270, H⟩ := H
          replace H : ((cost_Index.f kj8 x10_8).bind fun t167 => ((cost_Temp.f x10_8).bind fun t168 => ((cost_Loop.f kj8 x10_8 a1 a2).bind fun t169 => ((cost_Loop.f kj8 a1 x10_8 a2).bind fun t170 => ((cost_Loop.f kj8 a1 a2 x10_8).bind fun t171 => ((cost_Hash.f kj8 x10_8 a1 a2).bind fun t172 => ((cost_Hash.f kj8 a1 x10_8 a2).bind fun t173 => ((cost_Hash.f kj8 a1 a2 x10_8).bind fun t174 => ((cost_Merge.f kj8 x10_8 a1 a2).bind fun t175 => ((cost_Merge.f kj8 a1 x10_8 a2).bind fun t176 => ((cost_Merge.f kj8 a1 a2 x10_8).bind fun t177 => (weathercocklaw16_CostRises.l0 kj8 t146 y161 (([t164, t165, t166, t167, t168, t169, t170, t171, t172, t173, t174, t175, t176, t177] : List Int)) 0)))))))))))) = some r := H
          have A27 := Aside0.mk A270
          clear A270
          replace H := Option.bind_eq_some_iff.mp H
          obtain ⟨t167, A280, H⟩ := H
          replace H : ((cost_Temp.f x10_8).bind fun t168 => ((cost_Loop.f kj8 x10_8 a1 a2).bind fun t169 => ((cost_Loop.f kj8 a1 x10_8 a2).bind fun t170 => ((cost_Loop.f kj8 a1 a2 x10_8).bind fun t171 => ((cost_Hash.f kj8 x10_8 a1 a2).bind fun t172 => ((cost_Hash.f kj8 a1 x10_8 a2).bind fun t173 => ((cost_Hash.f kj8 a1 a2 x10_8).bind fun t174 => ((cost_Merge.f kj8 x10_8 a1 a2).bind fun t175 => ((cost_Merge.f kj8 a1 x10_8 a2).bind fun t176 => ((cost_Merge.f kj8 a1 a2 x10_8).bind fun t177 => (weathercocklaw16_CostRises.l0 kj8 t146 y161 (([t164, t165, t166, t167, t168, t169, t170, t171, t172, t173, t174, t175, t176, t177] : List Int)) 0))))))))))) = some r := H
          have A28 := Aside0.mk A280
          clear A280
          replace H := Option.bind_eq_some_iff.mp H
          obtain ⟨t168, A290, H⟩ := H
          replace H : ((cost_Loop.f kj8 x10_8 a1 a2).bind fun t169 => ((cost_Loop.f kj8 a1 x10_8 a2).bind fun t170 => ((cost_Loop.f kj8 a1 a2 x10_8).bind fun t171 => ((cost_Hash.f kj8 x10_8 a1 a2).bind fun t172 => ((cost_Hash.f kj8 a1 x10_8 a2).bind fun t173 => ((cost_Hash.f kj8 a1 a2 x10_8).bind fun t174 => ((cost_Merge.f kj8 x10_8 a1 a2).bind fun t175 => ((cost_Merge.f kj8 a1 x10_8 a2).bind fun t176 => ((cost_Merge.f kj8 a1 a2 x10_8).bind fun t177 => (weathercocklaw16_CostRises.l0 kj8 t146 y161 (([t164, t165, t166, t167, t168, t169, t170, t171, t172, t173, t174, t175, t176, t177] : List Int)) 0)))))))))) = some r := H
          have A29 := Aside0.mk A290
          clear A290
          replace H := Option.bind_eq_some_iff.mp H
          obtain ⟨t169, A300, H⟩ := H
          replace H : ((cost_Loop.f kj8 a1 x10_8 a2).bind fun t170 => ((cost_Loop.f kj8 a1 a2 x10_8).bind fun t171 => ((cost_Hash.f kj8 x10_8 a1 a2).bind fun t172 => ((cost_Hash.f kj8 a1 x10_8 a2).bind fun t173 => ((cost_Hash.f kj8 a1 a2 x10_8).bind fun t174 => ((cost_Merge.f kj8 x10_8 a1 a2).bind fun t175 => ((cost_Merge.f kj8 a1 x10_8 a2).bind fun t176 => ((cost_Merge.f kj8 a1 a2 x10_8).bind fun t177 => (weathercocklaw16_CostRises.l0 kj8 t146 y161 (([t164, t165, t166, t167, t168, t169, t170, t171, t172, t173, t174, t175, t176, t177] : List Int)) 0))))))))) = some r := H
          have A30 := Aside0.mk A300
          clear A300
          replace H := Option.bind_eq_some_iff.mp H
          obtain ⟨t170, A310, H⟩ := H
          replace H : ((cost_Loop.f kj8 a1 a2 x10_8).bind fun t171 => ((cost_Hash.f kj8 x10_8 a1 a2).bind fun t172 => ((cost_Hash.f kj8 a1 x10_8 a2).bind fun t173 => ((cost_Hash.f kj8 a1 a2 x10_8).bind fun t174 => ((cost_Merge.f kj8 x10_8 a1 a2).bind fun t175 => ((cost_Merge.f kj8 a1 x10_8 a2).bind fun t176 => ((cost_Merge.f kj8 a1 a2 x10_8).bind fun t177 => (weathercocklaw16_CostRises.l0 kj8 t146 y161 (([t164, t165, t166, t167, t168, t169, t170, t171, t172, t173, t174, t175, t176, t177] : List Int)) 0)))))))) = some r := H
          have A31 := Aside0.mk A310
          clear A310
          replace H := Option.bind_eq_some_iff.mp H
          obtain ⟨t171, A320, H⟩ := H
          replace H : ((cost_Hash.f kj8 x10_8 a1 a2).bind fun t172 => ((cost_Hash.f kj8 a1 x10_8 a2).bind fun t173 => ((cost_Hash.f kj8 a1 a2 x10_8).bind fun t174 => ((cost_Merge.f kj8 x10_8 a1 a2).bind fun t175 => ((cost_Merge.f kj8 a1 x10_8 a2).bind fun t176 => ((cost_Merge.f kj8 a1 a2 x10_8).bind fun t177 => (weathercocklaw16_CostRises.l0 kj8 t146 y161 (([t164, t165, t166, t167, t168, t169, t170, t171, t172, t173, t174, t175, t176, t177] : List Int)) 0))))))) = some r := H
          have A32 := Aside0.mk A320
          clear A320
          replace H := Option.bind_eq_some_iff.mp H
          obtain ⟨t172, A330, H⟩ := H
          replace H : ((cost_Hash.f kj8 a1 x10_8 a2).bind fun t173 => ((cost_Hash.f kj8 a1 a2 x10_8).bind fun t174 => ((cost_Merge.f kj8 x10_8 a1 a2).bind fun t175 => ((cost_Merge.f kj8 a1 x10_8 a2).bind fun t176 => ((cost_Merge.f kj8 a1 a2 x10_8).bind fun t177 => (weathercocklaw16_CostRises.l0 kj8 t146 y161 (([t164, t165, t166, t167, t168, t169, t170, t171, t172, t173, t174, t175, t176, t177] : List Int)) 0)))))) = some r := H
          have A33 := Aside0.mk A330
          clear A330
          replace H := Option.bind_eq_some_iff.mp H
          obtain ⟨t173, A340, H⟩ := H
          replace H : ((cost_Hash.f kj8 a1 a2 x10_8).bind fun t174 => ((cost_Merge.f kj8 x10_8 a1 a2).bind fun t175 => ((cost_Merge.f kj8 a1 x10_8 a2).bind fun t176 => ((cost_Merge.f kj8 a1 a2 x10_8).bind fun t177 => (weathercocklaw16_CostRises.l0 kj8 t146 y161 (([t164, t165, t166, t167, t168, t169, t170, t171, t172, t173, t174, t175, t176, t177] : List Int)) 0))))) = some r := H
          have A34 := Aside0.mk A340
          clear A340
          replace H := Option.bind_eq_some_iff.mp H
          obtain ⟨t174, A350, H⟩ := H
          replace H : ((cost_Merge.f kj8 x10_8 a1 a2).bind fun t175 => ((cost_Merge.f kj8 a1 x10_8 a2).bind fun t176 => ((cost_Merge.f kj8 a1 a2 x10_8).bind fun t177 => (weathercocklaw16_CostRises.l0 kj8 t146 y161 (([t164, t165, t166, t167, t168, t169, t170, t171, t172, t173, t174, t175, t176, t177] : List Int)) 0)))) = some r := H
          have A35 := Aside0.mk A350
          clear A350
          replace H := Option.bind_eq_some_iff.mp H
          obtain ⟨t175, A360, H⟩ := H
          replace H : ((cost_Merge.f kj8 a1 x10_8 a2).bind fun t176 => ((cost_Merge.f kj8 a1 a2 x10_8).bind fun t177 => (weathercocklaw16_CostRises.l0 kj8 t146 y161 (([t164, t165, t166, t167, t168, t169, t170, t171, t172, t173, t174, t175, t176, t177] : List Int)) 0))) = some r := H
          have A36 := Aside0.mk A360
          clear A360
          replace H := Option.bind_eq_some_iff.mp H
          obtain ⟨t176, A370, H⟩ := H
          replace H : ((cost_Merge.f kj8 a1 a2 x10_8).bind fun t177 => (weathercocklaw16_CostRises.l0 kj8 t146 y161 (([t164, t165, t166, t167, t168, t169, t170, t171, t172, t173, t174, t175, t176, t177] : List Int)) 0)) = some r := H
          have A37 := Aside0.mk A370
          clear A370
          replace H := Option.bind_eq_some_iff.mp H
          obtain ⟨t177, A380, H⟩ := H
          replace H : (weathercocklaw16_CostRises.l0 kj8 t146 y161 (([t164, t165, t166, t167, t168, t169, t170, t171, t172, t173, t174, t175, t176, t177] : List Int)) 0) = some r := H
          have A38 := Aside0.mk A380
          clear A380
          obtain ⟨y178, hy178⟩ : ∃ y_ : List Int, y_ = (([t164, t165, t166, t167, t168, t169, t170, t171, t172, t173, t174, t175, t176, t177] : List Int)) := ⟨_, rfl⟩
          replace H : (weathercocklaw16_CostRises.l0 kj8 t146 y161 y178 0) = some r := by first | (rw [hy178]; with_reducible exact H) | (have H2_ := (Option.bind_some _ _).symm.trans H; rw [hy178]; with_reducible exact H2_) | (have H2_ := (Option.bind_some _ _).symm.trans H; with_reducible exact H2_) | with_reducible exact H | (rw [hy178]; exact H) | exact H
          have Ny178 := Aside0.mk hy178
          clear hy178
          have H' := Aside0.mk H
          clear H
          go_wp2_with (first | (go_at_call 8; (with_reducible refine (cost_Bits.calls kj8 a0 t147 _ A11.out).mono ?_); rintro e w39 ⟨rfl, hb⟩; have n0_ := Aside0.mk (below_step (by repeat (first | (with_reducible first | exact HB.out | apply below_alloc | apply pw_below_drewN | apply below_drew1) | exact HB.out)) hb); clear HB; have HB := n0_; clear n0_; (try clear hb); (try clear hb2); (try clear hk); (try clear hi)) | (go_at_call 9; (with_reducible refine (cost_Sort.calls kj8 a0 t148 _ A12.out).mono ?_); rintro e w40 ⟨rfl, hb⟩; have n0_ := Aside0.mk (below_step (by repeat (first | (with_reducible first | exact HB.out | apply below_alloc | apply pw_below_drewN | apply below_drew1) | exact HB.out)) hb); clear HB; have HB := n0_; clear n0_; (try clear hb); (try clear hb2); (try clear hk); (try clear hi)) | (go_at_call 10; (with_reducible refine (cost_Scan.calls kj8 a0 t149 _ A13.out).mono ?_); rintro e w41 ⟨rfl, hb⟩; have n0_ := Aside0.mk (below_step (by repeat (first | (with_reducible first | exact HB.out | apply below_alloc | apply pw_below_drewN | apply below_drew1) | exact HB.out)) hb); clear HB; have HB := n0_; clear n0_; (try clear hb); (try clear hb2); (try clear hk); (try clear hi)) | (go_at_call 11; (with_reducible refine (cost_Index.calls kj8 a0 t150 _ A14.out).mono ?_); rintro e w42 ⟨rfl, hb⟩; have n0_ := Aside0.mk (below_step (by repeat (first | (with_reducible first | exact HB.out | apply below_alloc | apply pw_below_drewN | apply below_drew1) | exact HB.out)) hb); clear HB; have HB := n0_; clear n0_; (try clear hb); (try clear hb2); (try clear hk); (try clear hi)) | (go_at_call 12; (with_reducible refine (cost_Temp.calls a0 t151 _ A15.out).mono ?_); rintro e w43 ⟨rfl, hb⟩; have n0_ := Aside0.mk (below_step (by repeat (first | (with_reducible first | exact HB.out | apply below_alloc | apply pw_below_drewN | apply below_drew1) | exact HB.out)) hb); clear HB; have HB := n0_; clear n0_; (try clear hb); (try clear hb2); (try clear hk); (try clear hi)) | (go_at_call 13; (with_reducible refine (cost_Loop.calls kj8 a0 a1 a2 t152 _ A16.out).mono ?_); rintro e w44 ⟨rfl, hb⟩; have n0_ := Aside0.mk (below_step (by repeat (first | (with_reducible first | exact HB.out | apply below_alloc | apply pw_below_drewN | apply below_drew1) | exact HB.out)) hb); clear HB; have HB := n0_; clear n0_; (try clear hb); (try clear hb2); (try clear hk); (try clear hi)) | (go_at_call 13; (with_reducible refine (cost_Loop.calls kj8 a1 a0 a2 t153 _ A17.out).mono ?_); rintro e w45 ⟨rfl, hb⟩; have n0_ := Aside0.mk (below_step (by repeat (first | (with_reducible first | exact HB.out | apply below_alloc | apply pw_below_drewN | apply below_drew1) | exact HB.out)) hb); clear HB; have HB := n0_; clear n0_; (try clear hb); (try clear hb2); (try clear hk); (try clear hi)) | (go_at_call 13; (with_reducible refine (cost_Loop.calls kj8 a1 a2 a0 t154 _ A18.out).mono ?_); rintro e w46 ⟨rfl, hb⟩; have n0_ := Aside0.mk (below_step (by repeat (first | (with_reducible first | exact HB.out | apply below_alloc | apply pw_below_drewN | apply below_drew1) | exact HB.out)) hb); clear HB; have HB := n0_; clear n0_; (try clear hb); (try clear hb2); (try clear hk); (try clear hi)) | (go_at_call 14; (with_reducible refine (cost_Hash.calls kj8 a0 a1 a2 t155 _ A19.out).mono ?_); rintro e w47 ⟨rfl, hb⟩; have n0_ := Aside0.mk (below_step (by repeat (first | (with_reducible first | exact HB.out | apply below_alloc | apply pw_below_drewN | apply below_drew1) | exact HB.out)) hb); clear HB; have HB := n0_; clear n0_; (try clear hb); (try clear hb2); (try clear hk); (try clear hi)) | (go_at_call 14; (with_reducible refine (cost_Hash.calls kj8 a1 a0 a2 t156 _ A20.out).mono ?_); rintro e w48 ⟨rfl, hb⟩; have n0_ := Aside0.mk (below_step (by repeat (first | (with_reducible first | exact HB.out | apply below_alloc | apply pw_below_drewN | apply below_drew1) | exact HB.out)) hb); clear HB; have HB := n0_; clear n0_; (try clear hb); (try clear hb2); (try clear hk); (try clear hi)) | (go_at_call 14; (with_reducible refine (cost_Hash.calls kj8 a1 a2 a0 t157 _ A21.out).mono ?_); rintro e w49 ⟨rfl, hb⟩; have n0_ := Aside0.mk (below_step (by repeat (first | (with_reducible first | exact HB.out | apply below_alloc | apply pw_below_drewN | apply below_drew1) | exact HB.out)) hb); clear HB; have HB := n0_; clear n0_; (try clear hb); (try clear hb2); (try clear hk); (try clear hi)) | (go_at_call 15; (with_reducible refine (cost_Merge.calls kj8 a0 a1 a2 t158 _ A22.out).mono ?_); rintro e w50 ⟨rfl, hb⟩; have n0_ := Aside0.mk (below_step (by repeat (first | (with_reducible first | exact HB.out | apply below_alloc | apply pw_below_drewN | apply below_drew1) | exact HB.out)) hb); clear HB; have HB := n0_; clear n0_; (try clear hb); (try clear hb2); (try clear hk); (try clear hi)) | (go_at_call 15; (with_reducible refine (cost_Merge.calls kj8 a1 a0 a2 t159 _ A23.out).mono ?_); rintro e w51 ⟨rfl, hb⟩; have n0_ := Aside0.mk (below_step (by repeat (first | (with_reducible first | exact HB.out | apply below_alloc | apply pw_below_drewN | apply below_drew1) | exact HB.out)) hb); clear HB; have HB := n0_; clear n0_; (try clear hb); (try clear hb2); (try clear hk); (try clear hi)) | (go_at_call 15; (with_reducible refine (cost_Merge.calls kj8 a1 a2 a0 t160 _ A24.out).mono ?_); rintro e w52 ⟨rfl, hb⟩; have n0_ := Aside0.mk (below_step (by repeat (first | (with_reducible first | exact HB.out | apply below_alloc | apply pw_below_drewN | apply below_drew1) | exact HB.out)) hb); clear HB; have HB := n0_; clear n0_; (try clear hb); (try clear hb2); (try clear hk); (try clear hi)) | ((with_reducible refine gate_dst (N := 73) rfl ?_); refine Kd.R_lit (Kd.int .i64) _ 3 ?hg (N := 73) ?hd (xs := ([t147, t148, t149, t150, t151, t152, t153, t154, t155, t156, t157, t158, t159, t160] : List Int)) (inner := [.int .i64 t147, .int .i64 t148, .int .i64 t149, .int .i64 t150, .int .i64 t151, .int .i64 t152, .int .i64 t153, .int .i64 t154, .int .i64 t155, .int .i64 t156, .int .i64 t157, .int .i64 t158, .int .i64 t159, .int .i64 t160]) (ok := fun _ => True) (okp := fun _ => True) ?hr ?hp (fun _ hk => hk) trivial (Below.refl _ _) (Nat.le_refl _) (by simp) ?_; (case hd => rfl); (case hg => rfl); (case hr => first | (go_simp; done) | (go_simp; rfl)); (case hp => exact (Reps.one (show Kd.M (Kd.int .i64) _ _ _ t147 [.int .i64 t147] from rfl) (Reps.one (show Kd.M (Kd.int .i64) _ _ _ t148 [.int .i64 t148] from rfl) (Reps.one (show Kd.M (Kd.int .i64) _ _ _ t149 [.int .i64 t149] from rfl) (Reps.one (show Kd.M (Kd.int .i64) _ _ _ t150 [.int .i64 t150] from rfl) (Reps.one (show Kd.M (Kd.int .i64) _ _ _ t151 [.int .i64 t151] from rfl) (Reps.one (show Kd.M (Kd.int .i64) _ _ _ t152 [.int .i64 t152] from rfl) (Reps.one (show Kd.M (Kd.int .i64) _ _ _ t153 [.int .i64 t153] from rfl) (Reps.one (show Kd.M (Kd.int .i64) _ _ _ t154 [.int .i64 t154] from rfl) (Reps.one (show Kd.M (Kd.int .i64) _ _ _ t155 [.int .i64 t155] from rfl) (Reps.one (show Kd.M (Kd.int .i64) _ _ _ t156 [.int .i64 t156] from rfl) (Reps.one (show Kd.M (Kd.int .i64) _ _ _ t157 [.int .i64 t157] from rfl) (Reps.one (show Kd.M (Kd.int .i64) _ _ _ t158 [.int .i64 t158] from rfl) (Reps.one (show Kd.M (Kd.int .i64) _ _ _ t159 [.int .i64 t159] from rfl) (Reps.one (show Kd.M (Kd.int .i64) _ _ _ t160 [.int .i64 t160] from rfl) (Reps.none _ _)))))))))))))))); intro v162 w53 ho54 hb hg_ hnew_; clear hg_ hnew_; (first | rw [← Ny161.out] at ho54 | (simp only [Int.reduceToNat] at ho54; rw [← Ny161.out] at ho54)); have n0_ := Aside0.mk (Kd.R_lower ho54 (below_size (by repeat (first | (with_reducible first | exact HB.out | apply below_alloc | apply pw_below_drewN | apply below_drew1) | exact HB.out)))); have n1_ := Aside0.mk (below_step (by repeat (first | (with_reducible first | exact HB.out | apply below_alloc | apply pw_below_drewN | apply below_drew1) | exact HB.out)) hb); clear HB; have HO163 := n0_; have HB := n1_; clear n0_ n1_; clear hb ho54) | (go_at_call 8; (with_reducible refine (cost_Bits.calls kj8 x10_8 t164 _ A25.out).mono ?_); rintro e w55 ⟨rfl, hb⟩; have n0_ := Aside0.mk (Kd.R_below (by (with_reducible repeat (first | apply Kd.R_alloc | apply Kd.R_drewN | apply Kd.R_drew)); exact HO163.out) hb); have n1_ := Aside0.mk (below_step (by repeat (first | (with_reducible first | exact HB.out | apply below_alloc | apply pw_below_drewN | apply below_drew1) | exact HB.out)) hb); clear HO163; clear HB; have HO163 := n0_; have HB := n1_; clear n0_ n1_; (try clear hb); (try clear hb2); (try clear hk); (try clear hi)) | (go_at_call 9; (with_reducible refine (cost_Sort.calls kj8 x10_8 t165 _ A26.out).mono ?_); rintro e w56 ⟨rfl, hb⟩; have n0_ := Aside0.mk (Kd.R_below (by (with_reducible repeat (first | apply Kd.R_alloc | apply Kd.R_drewN | apply Kd.R_drew)); exact HO163.out) hb); have n1_ := Aside0.mk (below_step (by repeat (first | (with_reducible first | exact HB.out | apply below_alloc | apply pw_below_drewN | apply below_drew1) | exact HB.out)) hb); clear HO163; clear HB; have HO163 := n0_; have HB := n1_; clear n0_ n1_; (try clear hb); (try clear hb2); (try clear hk); (try clear hi)) | (go_at_call 10; (with_reducible refine (cost_Scan.calls kj8 x10_8 t166 _ A27.out).mono ?_); rintro e w57 ⟨rfl, hb⟩; have n0_ := Aside0.mk (Kd.R_below (by (with_reducible repeat (first | apply Kd.R_alloc | apply Kd.R_drewN | apply Kd.R_drew)); exact HO163.out) hb); have n1_ := Aside0.mk (below_step (by repeat (first | (with_reducible first | exact HB.out | apply below_alloc | apply pw_below_drewN | apply below_drew1) | exact HB.out)) hb); clear HO163; clear HB; have HO163 := n0_; have HB := n1_; clear n0_ n1_; (try clear hb); (try clear hb2); (try clear hk); (try clear hi)) | (go_at_call 11; (with_reducible refine (cost_Index.calls kj8 x10_8 t167 _ A28.out).mono ?_); rintro e w58 ⟨rfl, hb⟩; have n0_ := Aside0.mk (Kd.R_below (by (with_reducible repeat (first | apply Kd.R_alloc | apply Kd.R_drewN | apply Kd.R_drew)); exact HO163.out) hb); have n1_ := Aside0.mk (below_step (by repeat (first | (with_reducible first | exact HB.out | apply below_alloc | apply pw_below_drewN | apply below_drew1) | exact HB.out)) hb); clear HO163; clear HB; have HO163 := n0_; have HB := n1_; clear n0_ n1_; (try clear hb); (try clear hb2); (try clear hk); (try clear hi)) | (go_at_call 12; (with_reducible refine (cost_Temp.calls x10_8 t168 _ A29.out).mono ?_); rintro e w59 ⟨rfl, hb⟩; have n0_ := Aside0.mk (Kd.R_below (by (with_reducible repeat (first | apply Kd.R_alloc | apply Kd.R_drewN | apply Kd.R_drew)); exact HO163.out) hb); have n1_ := Aside0.mk (below_step (by repeat (first | (with_reducible first | exact HB.out | apply below_alloc | apply pw_below_drewN | apply below_drew1) | exact HB.out)) hb); clear HO163; clear HB; have HO163 := n0_; have HB := n1_; clear n0_ n1_; (try clear hb); (try clear hb2); (try clear hk); (try clear hi)) | (go_at_call 13; (with_reducible refine (cost_Loop.calls kj8 x10_8 a1 a2 t169 _ A30.out).mono ?_); rintro e w60 ⟨rfl, hb⟩; have n0_ := Aside0.mk (Kd.R_below (by (with_reducible repeat (first | apply Kd.R_alloc | apply Kd.R_drewN | apply Kd.R_drew)); exact HO163.out) hb); have n1_ := Aside0.mk (below_step (by repeat (first | (with_reducible first | exact HB.out | apply below_alloc | apply pw_below_drewN | apply below_drew1) | exact HB.out)) hb); clear HO163; clear HB; have HO163 := n0_; have HB := n1_; clear n0_ n1_; (try clear hb); (try clear hb2); (try clear hk); (try clear hi)) | (go_at_call 13; (with_reducible refine (cost_Loop.calls kj8 a1 x10_8 a2 t170 _ A31.out).mono ?_); rintro e w61 ⟨rfl, hb⟩; have n0_ := Aside0.mk (Kd.R_below (by (with_reducible repeat (first | apply Kd.R_alloc | apply Kd.R_drewN | apply Kd.R_drew)); exact HO163.out) hb); have n1_ := Aside0.mk (below_step (by repeat (first | (with_reducible first | exact HB.out | apply below_alloc | apply pw_below_drewN | apply below_drew1) | exact HB.out)) hb); clear HO163; clear HB; have HO163 := n0_; have HB := n1_; clear n0_ n1_; (try clear hb); (try clear hb2); (try clear hk); (try clear hi)) | (go_at_call 13; (with_reducible refine (cost_Loop.calls kj8 a1 a2 x10_8 t171 _ A32.out).mono ?_); rintro e w62 ⟨rfl, hb⟩; have n0_ := Aside0.mk (Kd.R_below (by (with_reducible repeat (first | apply Kd.R_alloc | apply Kd.R_drewN | apply Kd.R_drew)); exact HO163.out) hb); have n1_ := Aside0.mk (below_step (by repeat (first | (with_reducible first | exact HB.out | apply below_alloc | apply pw_below_drewN | apply below_drew1) | exact HB.out)) hb); clear HO163; clear HB; have HO163 := n0_; have HB := n1_; clear n0_ n1_; (try clear hb); (try clear hb2); (try clear hk); (try clear hi)) | (go_at_call 14; (with_reducible refine (cost_Hash.calls kj8 x10_8 a1 a2 t172 _ A33.out).mono ?_); rintro e w63 ⟨rfl, hb⟩; have n0_ := Aside0.mk (Kd.R_below (by (with_reducible repeat (first | apply Kd.R_alloc | apply Kd.R_drewN | apply Kd.R_drew)); exact HO163.out) hb); have n1_ := Aside0.mk (below_step (by repeat (first | (with_reducible first | exact HB.out | apply below_alloc | apply pw_below_drewN | apply below_drew1) | exact HB.out)) hb); clear HO163; clear HB; have HO163 := n0_; have HB := n1_; clear n0_ n1_; (try clear hb); (try clear hb2); (try clear hk); (try clear hi)) | (go_at_call 14; (with_reducible refine (cost_Hash.calls kj8 a1 x10_8 a2 t173 _ A34.out).mono ?_); rintro e w64 ⟨rfl, hb⟩; have n0_ := Aside0.mk (Kd.R_below (by (with_reducible repeat (first | apply Kd.R_alloc | apply Kd.R_drewN | apply Kd.R_drew)); exact HO163.out) hb); have n1_ := Aside0.mk (below_step (by repeat (first | (with_reducible first | exact HB.out | apply below_alloc | apply pw_below_drewN | apply below_drew1) | exact HB.out)) hb); clear HO163; clear HB; have HO163 := n0_; have HB := n1_; clear n0_ n1_; (try clear hb); (try clear hb2); (try clear hk); (try clear hi)) | (go_at_call 14; (with_reducible refine (cost_Hash.calls kj8 a1 a2 x10_8 t174 _ A35.out).mono ?_); rintro e w65 ⟨rfl, hb⟩; have n0_ := Aside0.mk (Kd.R_below (by (with_reducible repeat (first | apply Kd.R_alloc | apply Kd.R_drewN | apply Kd.R_drew)); exact HO163.out) hb); have n1_ := Aside0.mk (below_step (by repeat (first | (with_reducible first | exact HB.out | apply below_alloc | apply pw_below_drewN | apply below_drew1) | exact HB.out)) hb); clear HO163; clear HB; have HO163 := n0_; have HB := n1_; clear n0_ n1_; (try clear hb); (try clear hb2); (try clear hk); (try clear hi)) | (go_at_call 15; (with_reducible refine (cost_Merge.calls kj8 x10_8 a1 a2 t175 _ A36.out).mono ?_); rintro e w66 ⟨rfl, hb⟩; have n0_ := Aside0.mk (Kd.R_below (by (with_reducible repeat (first | apply Kd.R_alloc | apply Kd.R_drewN | apply Kd.R_drew)); exact HO163.out) hb); have n1_ := Aside0.mk (below_step (by repeat (first | (with_reducible first | exact HB.out | apply below_alloc | apply pw_below_drewN | apply below_drew1) | exact HB.out)) hb); clear HO163; clear HB; have HO163 := n0_; have HB := n1_; clear n0_ n1_; (try clear hb); (try clear hb2); (try clear hk); (try clear hi)) | (go_at_call 15; (with_reducible refine (cost_Merge.calls kj8 a1 x10_8 a2 t176 _ A37.out).mono ?_); rintro e w67 ⟨rfl, hb⟩; have n0_ := Aside0.mk (Kd.R_below (by (with_reducible repeat (first | apply Kd.R_alloc | apply Kd.R_drewN | apply Kd.R_drew)); exact HO163.out) hb); have n1_ := Aside0.mk (below_step (by repeat (first | (with_reducible first | exact HB.out | apply below_alloc | apply pw_below_drewN | apply below_drew1) | exact HB.out)) hb); clear HO163; clear HB; have HO163 := n0_; have HB := n1_; clear n0_ n1_; (try clear hb); (try clear hb2); (try clear hk); (try clear hi)) | (go_at_call 15; (with_reducible refine (cost_Merge.calls kj8 a1 a2 x10_8 t177 _ A38.out).mono ?_); rintro e w68 ⟨rfl, hb⟩; have n0_ := Aside0.mk (Kd.R_below (by (with_reducible repeat (first | apply Kd.R_alloc | apply Kd.R_drewN | apply Kd.R_drew)); exact HO163.out) hb); have n1_ := Aside0.mk (below_step (by repeat (first | (with_reducible first | exact HB.out | apply below_alloc | apply pw_below_drewN | apply below_drew1) | exact HB.out)) hb); clear HO163; clear HB; have HO163 := n0_; have HB := n1_; clear n0_ n1_; (try clear hb); (try clear hb2); (try clear hk); (try clear hi)) | ((with_reducible refine gate_dst (N := 120) rfl ?_); refine Kd.R_lit (Kd.int .i64) _ 3 ?hg (N := 120) ?hd (xs := ([t164, t165, t166, t167, t168, t169, t170, t171, t172, t173, t174, t175, t176, t177] : List Int)) (inner := [.int .i64 t164, .int .i64 t165, .int .i64 t166, .int .i64 t167, .int .i64 t168, .int .i64 t169, .int .i64 t170, .int .i64 t171, .int .i64 t172, .int .i64 t173, .int .i64 t174, .int .i64 t175, .int .i64 t176, .int .i64 t177]) (ok := fun _ => True) (okp := fun _ => True) ?hr ?hp (fun _ hk => hk) trivial (Below.refl _ _) (Nat.le_refl _) (by simp) ?_; (case hd => rfl); (case hg => rfl); (case hr => first | (go_simp; done) | (go_simp; rfl)); (case hp => exact (Reps.one (show Kd.M (Kd.int .i64) _ _ _ t164 [.int .i64 t164] from rfl) (Reps.one (show Kd.M (Kd.int .i64) _ _ _ t165 [.int .i64 t165] from rfl) (Reps.one (show Kd.M (Kd.int .i64) _ _ _ t166 [.int .i64 t166] from rfl) (Reps.one (show Kd.M (Kd.int .i64) _ _ _ t167 [.int .i64 t167] from rfl) (Reps.one (show Kd.M (Kd.int .i64) _ _ _ t168 [.int .i64 t168] from rfl) (Reps.one (show Kd.M (Kd.int .i64) _ _ _ t169 [.int .i64 t169] from rfl) (Reps.one (show Kd.M (Kd.int .i64) _ _ _ t170 [.int .i64 t170] from rfl) (Reps.one (show Kd.M (Kd.int .i64) _ _ _ t171 [.int .i64 t171] from rfl) (Reps.one (show Kd.M (Kd.int .i64) _ _ _ t172 [.int .i64 t172] from rfl) (Reps.one (show Kd.M (Kd.int .i64) _ _ _ t173 [.int .i64 t173] from rfl) (Reps.one (show Kd.M (Kd.int .i64) _ _ _ t174 [.int .i64 t174] from rfl) (Reps.one (show Kd.M (Kd.int .i64) _ _ _ t175 [.int .i64 t175] from rfl) (Reps.one (show Kd.M (Kd.int .i64) _ _ _ t176 [.int .i64 t176] from rfl) (Reps.one (show Kd.M (Kd.int .i64) _ _ _ t177 [.int .i64 t177] from rfl) (Reps.none _ _)))))))))))))))); intro v179 w69 ho70 hb hg_ hnew_; clear hg_ hnew_; (first | rw [← Ny178.out] at ho70 | (simp only [Int.reduceToNat] at ho70; rw [← Ny178.out] at ho70)); have n0_ := Aside0.mk (Kd.R_elder' (by (with_reducible repeat (first | apply Kd.R_alloc | apply Kd.R_drewN | apply Kd.R_drew)); exact HO163.out) (Kd.R_base ho70) hb); have n1_ := Aside0.mk (Kd.R_lower (Kd.R_new' ho70 (Kd.R_lt (by (with_reducible repeat (first | apply Kd.R_alloc | apply Kd.R_drewN | apply Kd.R_drew)); exact HO163.out))) (below_size (by repeat (first | (with_reducible first | exact HB.out | apply below_alloc | apply pw_below_drewN | apply below_drew1) | exact HB.out)))); have n2_ := Aside0.mk (below_step (by repeat (first | (with_reducible first | exact HB.out | apply below_alloc | apply pw_below_drewN | apply below_drew1) | exact HB.out)) hb); clear HO163; clear HB; have HO163 := n0_; have HO180 := n1_; have HB := n2_; clear n0_ n1_ n2_; clear hb ho70))
          repeat (go_quiet (first | (go_at_call 8; (with_reducible refine (cost_Bits.calls kj8 a0 t147 _ A11.out).mono ?_); rintro e w39 ⟨rfl, hb⟩; have n0_ := Aside0.mk (below_step (by repeat (first | (with_reducible first | exact HB.out | apply below_alloc | apply pw_below_drewN | apply below_drew1) | exact HB.out)) hb); clear HB; have HB := n0_; clear n0_; (try clear hb); (try clear hb2); (try clear hk); (try clear hi)) | (go_at_call 9; (with_reducible refine (cost_Sort.calls kj8 a0 t148 _ A12.out).mono ?_); rintro e w40 ⟨rfl, hb⟩; have n0_ := Aside0.mk (below_step (by repeat (first | (with_reducible first | exact HB.out | apply below_alloc | apply pw_below_drewN | apply below_drew1) | exact HB.out)) hb); clear HB; have HB := n0_; clear n0_; (try clear hb); (try clear hb2); (try clear hk); (try clear hi)) | (go_at_call 10; (with_reducible refine (cost_Scan.calls kj8 a0 t149 _ A13.out).mono ?_); rintro e w41 ⟨rfl, hb⟩; have n0_ := Aside0.mk (below_step (by repeat (first | (with_reducible first | exact HB.out | apply below_alloc | apply pw_below_drewN | apply below_drew1) | exact HB.out)) hb); clear HB; have HB := n0_; clear n0_; (try clear hb); (try clear hb2); (try clear hk); (try clear hi)) | (go_at_call 11; (with_reducible refine (cost_Index.calls kj8 a0 t150 _ A14.out).mono ?_); rintro e w42 ⟨rfl, hb⟩; have n0_ := Aside0.mk (below_step (by repeat (first | (with_reducible first | exact HB.out | apply below_alloc | apply pw_below_drewN | apply below_drew1) | exact HB.out)) hb); clear HB; have HB := n0_; clear n0_; (try clear hb); (try clear hb2); (try clear hk); (try clear hi)) | (go_at_call 12; (with_reducible refine (cost_Temp.calls a0 t151 _ A15.out).mono ?_); rintro e w43 ⟨rfl, hb⟩; have n0_ := Aside0.mk (below_step (by repeat (first | (with_reducible first | exact HB.out | apply below_alloc | apply pw_below_drewN | apply below_drew1) | exact HB.out)) hb); clear HB; have HB := n0_; clear n0_; (try clear hb); (try clear hb2); (try clear hk); (try clear hi)) | (go_at_call 13; (with_reducible refine (cost_Loop.calls kj8 a0 a1 a2 t152 _ A16.out).mono ?_); rintro e w44 ⟨rfl, hb⟩; have n0_ := Aside0.mk (below_step (by repeat (first | (with_reducible first | exact HB.out | apply below_alloc | apply pw_below_drewN | apply below_drew1) | exact HB.out)) hb); clear HB; have HB := n0_; clear n0_; (try clear hb); (try clear hb2); (try clear hk); (try clear hi)) | (go_at_call 13; (with_reducible refine (cost_Loop.calls kj8 a1 a0 a2 t153 _ A17.out).mono ?_); rintro e w45 ⟨rfl, hb⟩; have n0_ := Aside0.mk (below_step (by repeat (first | (with_reducible first | exact HB.out | apply below_alloc | apply pw_below_drewN | apply below_drew1) | exact HB.out)) hb); clear HB; have HB := n0_; clear n0_; (try clear hb); (try clear hb2); (try clear hk); (try clear hi)) | (go_at_call 13; (with_reducible refine (cost_Loop.calls kj8 a1 a2 a0 t154 _ A18.out).mono ?_); rintro e w46 ⟨rfl, hb⟩; have n0_ := Aside0.mk (below_step (by repeat (first | (with_reducible first | exact HB.out | apply below_alloc | apply pw_below_drewN | apply below_drew1) | exact HB.out)) hb); clear HB; have HB := n0_; clear n0_; (try clear hb); (try clear hb2); (try clear hk); (try clear hi)) | (go_at_call 14; (with_reducible refine (cost_Hash.calls kj8 a0 a1 a2 t155 _ A19.out).mono ?_); rintro e w47 ⟨rfl, hb⟩; have n0_ := Aside0.mk (below_step (by repeat (first | (with_reducible first | exact HB.out | apply below_alloc | apply pw_below_drewN | apply below_drew1) | exact HB.out)) hb); clear HB; have HB := n0_; clear n0_; (try clear hb); (try clear hb2); (try clear hk); (try clear hi)) | (go_at_call 14; (with_reducible refine (cost_Hash.calls kj8 a1 a0 a2 t156 _ A20.out).mono ?_); rintro e w48 ⟨rfl, hb⟩; have n0_ := Aside0.mk (below_step (by repeat (first | (with_reducible first | exact HB.out | apply below_alloc | apply pw_below_drewN | apply below_drew1) | exact HB.out)) hb); clear HB; have HB := n0_; clear n0_; (try clear hb); (try clear hb2); (try clear hk); (try clear hi)) | (go_at_call 14; (with_reducible refine (cost_Hash.calls kj8 a1 a2 a0 t157 _ A21.out).mono ?_); rintro e w49 ⟨rfl, hb⟩; have n0_ := Aside0.mk (below_step (by repeat (first | (with_reducible first | exact HB.out | apply below_alloc | apply pw_below_drewN | apply below_drew1) | exact HB.out)) hb); clear HB; have HB := n0_; clear n0_; (try clear hb); (try clear hb2); (try clear hk); (try clear hi)) | (go_at_call 15; (with_reducible refine (cost_Merge.calls kj8 a0 a1 a2 t158 _ A22.out).mono ?_); rintro e w50 ⟨rfl, hb⟩; have n0_ := Aside0.mk (below_step (by repeat (first | (with_reducible first | exact HB.out | apply below_alloc | apply pw_below_drewN | apply below_drew1) | exact HB.out)) hb); clear HB; have HB := n0_; clear n0_; (try clear hb); (try clear hb2); (try clear hk); (try clear hi)) | (go_at_call 15; (with_reducible refine (cost_Merge.calls kj8 a1 a0 a2 t159 _ A23.out).mono ?_); rintro e w51 ⟨rfl, hb⟩; have n0_ := Aside0.mk (below_step (by repeat (first | (with_reducible first | exact HB.out | apply below_alloc | apply pw_below_drewN | apply below_drew1) | exact HB.out)) hb); clear HB; have HB := n0_; clear n0_; (try clear hb); (try clear hb2); (try clear hk); (try clear hi)) | (go_at_call 15; (with_reducible refine (cost_Merge.calls kj8 a1 a2 a0 t160 _ A24.out).mono ?_); rintro e w52 ⟨rfl, hb⟩; have n0_ := Aside0.mk (below_step (by repeat (first | (with_reducible first | exact HB.out | apply below_alloc | apply pw_below_drewN | apply below_drew1) | exact HB.out)) hb); clear HB; have HB := n0_; clear n0_; (try clear hb); (try clear hb2); (try clear hk); (try clear hi)) | ((with_reducible refine gate_dst (N := 73) rfl ?_); refine Kd.R_lit (Kd.int .i64) _ 3 ?hg (N := 73) ?hd (xs := ([t147, t148, t149, t150, t151, t152, t153, t154, t155, t156, t157, t158, t159, t160] : List Int)) (inner := [.int .i64 t147, .int .i64 t148, .int .i64 t149, .int .i64 t150, .int .i64 t151, .int .i64 t152, .int .i64 t153, .int .i64 t154, .int .i64 t155, .int .i64 t156, .int .i64 t157, .int .i64 t158, .int .i64 t159, .int .i64 t160]) (ok := fun _ => True) (okp := fun _ => True) ?hr ?hp (fun _ hk => hk) trivial (Below.refl _ _) (Nat.le_refl _) (by simp) ?_; (case hd => rfl); (case hg => rfl); (case hr => first | (go_simp; done) | (go_simp; rfl)); (case hp => exact (Reps.one (show Kd.M (Kd.int .i64) _ _ _ t147 [.int .i64 t147] from rfl) (Reps.one (show Kd.M (Kd.int .i64) _ _ _ t148 [.int .i64 t148] from rfl) (Reps.one (show Kd.M (Kd.int .i64) _ _ _ t149 [.int .i64 t149] from rfl) (Reps.one (show Kd.M (Kd.int .i64) _ _ _ t150 [.int .i64 t150] from rfl) (Reps.one (show Kd.M (Kd.int .i64) _ _ _ t151 [.int .i64 t151] from rfl) (Reps.one (show Kd.M (Kd.int .i64) _ _ _ t152 [.int .i64 t152] from rfl) (Reps.one (show Kd.M (Kd.int .i64) _ _ _ t153 [.int .i64 t153] from rfl) (Reps.one (show Kd.M (Kd.int .i64) _ _ _ t154 [.int .i64 t154] from rfl) (Reps.one (show Kd.M (Kd.int .i64) _ _ _ t155 [.int .i64 t155] from rfl) (Reps.one (show Kd.M (Kd.int .i64) _ _ _ t156 [.int .i64 t156] from rfl) (Reps.one (show Kd.M (Kd.int .i64) _ _ _ t157 [.int .i64 t157] from rfl) (Reps.one (show Kd.M (Kd.int .i64) _ _ _ t158 [.int .i64 t158] from rfl) (Reps.one (show Kd.M (Kd.int .i64) _ _ _ t159 [.int .i64 t159] from rfl) (Reps.one (show Kd.M (Kd.int .i64) _ _ _ t160 [.int .i64 t160] from rfl) (Reps.none _ _)))))))))))))))); intro v162 w53 ho54 hb hg_ hnew_; clear hg_ hnew_; (first | rw [← Ny161.out] at ho54 | (simp only [Int.reduceToNat] at ho54; rw [← Ny161.out] at ho54)); have n0_ := Aside0.mk (Kd.R_lower ho54 (below_size (by repeat (first | (with_reducible first | exact HB.out | apply below_alloc | apply pw_below_drewN | apply below_drew1) | exact HB.out)))); have n1_ := Aside0.mk (below_step (by repeat (first | (with_reducible first | exact HB.out | apply below_alloc | apply pw_below_drewN | apply below_drew1) | exact HB.out)) hb); clear HB; have HO163 := n0_; have HB := n1_; clear n0_ n1_; clear hb ho54) | (go_at_call 8; (with_reducible refine (cost_Bits.calls kj8 x10_8 t164 _ A25.out).mono ?_); rintro e w55 ⟨rfl, hb⟩; have n0_ := Aside0.mk (Kd.R_below (by (with_reducible repeat (first | apply Kd.R_alloc | apply Kd.R_drewN | apply Kd.R_drew)); exact HO163.out) hb); have n1_ := Aside0.mk (below_step (by repeat (first | (with_reducible first | exact HB.out | apply below_alloc | apply pw_below_drewN | apply below_drew1) | exact HB.out)) hb); clear HO163; clear HB; have HO163 := n0_; have HB := n1_; clear n0_ n1_; (try clear hb); (try clear hb2); (try clear hk); (try clear hi)) | (go_at_call 9; (with_reducible refine (cost_Sort.calls kj8 x10_8 t165 _ A26.out).mono ?_); rintro e w56 ⟨rfl, hb⟩; have n0_ := Aside0.mk (Kd.R_below (by (with_reducible repeat (first | apply Kd.R_alloc | apply Kd.R_drewN | apply Kd.R_drew)); exact HO163.out) hb); have n1_ := Aside0.mk (below_step (by repeat (first | (with_reducible first | exact HB.out | apply below_alloc | apply pw_below_drewN | apply below_drew1) | exact HB.out)) hb); clear HO163; clear HB; have HO163 := n0_; have HB := n1_; clear n0_ n1_; (try clear hb); (try clear hb2); (try clear hk); (try clear hi)) | (go_at_call 10; (with_reducible refine (cost_Scan.calls kj8 x10_8 t166 _ A27.out).mono ?_); rintro e w57 ⟨rfl, hb⟩; have n0_ := Aside0.mk (Kd.R_below (by (with_reducible repeat (first | apply Kd.R_alloc | apply Kd.R_drewN | apply Kd.R_drew)); exact HO163.out) hb); have n1_ := Aside0.mk (below_step (by repeat (first | (with_reducible first | exact HB.out | apply below_alloc | apply pw_below_drewN | apply below_drew1) | exact HB.out)) hb); clear HO163; clear HB; have HO163 := n0_; have HB := n1_; clear n0_ n1_; (try clear hb); (try clear hb2); (try clear hk); (try clear hi)) | (go_at_call 11; (with_reducible refine (cost_Index.calls kj8 x10_8 t167 _ A28.out).mono ?_); rintro e w58 ⟨rfl, hb⟩; have n0_ := Aside0.mk (Kd.R_below (by (with_reducible repeat (first | apply Kd.R_alloc | apply Kd.R_drewN | apply Kd.R_drew)); exact HO163.out) hb); have n1_ := Aside0.mk (below_step (by repeat (first | (with_reducible first | exact HB.out | apply below_alloc | apply pw_below_drewN | apply below_drew1) | exact HB.out)) hb); clear HO163; clear HB; have HO163 := n0_; have HB := n1_; clear n0_ n1_; (try clear hb); (try clear hb2); (try clear hk); (try clear hi)) | (go_at_call 12; (with_reducible refine (cost_Temp.calls x10_8 t168 _ A29.out).mono ?_); rintro e w59 ⟨rfl, hb⟩; have n0_ := Aside0.mk (Kd.R_below (by (with_reducible repeat (first | apply Kd.R_alloc | apply Kd.R_drewN | apply Kd.R_drew)); exact HO163.out) hb); have n1_ := Aside0.mk (below_step (by repeat (first | (with_reducible first | exact HB.out | apply below_alloc | apply pw_below_drewN | apply below_drew1) | exact HB.out)) hb); clear HO163; clear HB; have HO163 := n0_; have HB := n1_; clear n0_ n1_; (try clear hb); (try clear hb2); (try clear hk); (try clear hi)) | (go_at_call 13; (with_reducible refine (cost_Loop.calls kj8 x10_8 a1 a2 t169 _ A30.out).mono ?_); rintro e w60 ⟨rfl, hb⟩; have n0_ := Aside0.mk (Kd.R_below (by (with_reducible repeat (first | apply Kd.R_alloc | apply Kd.R_drewN | apply Kd.R_drew)); exact HO163.out) hb); have n1_ := Aside0.mk (below_step (by repeat (first | (with_reducible first | exact HB.out | apply below_alloc | apply pw_below_drewN | apply below_drew1) | exact HB.out)) hb); clear HO163; clear HB; have HO163 := n0_; have HB := n1_; clear n0_ n1_; (try clear hb); (try clear hb2); (try clear hk); (try clear hi)) | (go_at_call 13; (with_reducible refine (cost_Loop.calls kj8 a1 x10_8 a2 t170 _ A31.out).mono ?_); rintro e w61 ⟨rfl, hb⟩; have n0_ := Aside0.mk (Kd.R_below (by (with_reducible repeat (first | apply Kd.R_alloc | apply Kd.R_drewN | apply Kd.R_drew)); exact HO163.out) hb); have n1_ := Aside0.mk (below_step (by repeat (first | (with_reducible first | exact HB.out | apply below_alloc | apply pw_below_drewN | apply below_drew1) | exact HB.out)) hb); clear HO163; clear HB; have HO163 := n0_; have HB := n1_; clear n0_ n1_; (try clear hb); (try clear hb2); (try clear hk); (try clear hi)) | (go_at_call 13; (with_reducible refine (cost_Loop.calls kj8 a1 a2 x10_8 t171 _ A32.out).mono ?_); rintro e w62 ⟨rfl, hb⟩; have n0_ := Aside0.mk (Kd.R_below (by (with_reducible repeat (first | apply Kd.R_alloc | apply Kd.R_drewN | apply Kd.R_drew)); exact HO163.out) hb); have n1_ := Aside0.mk (below_step (by repeat (first | (with_reducible first | exact HB.out | apply below_alloc | apply pw_below_drewN | apply below_drew1) | exact HB.out)) hb); clear HO163; clear HB; have HO163 := n0_; have HB := n1_; clear n0_ n1_; (try clear hb); (try clear hb2); (try clear hk); (try clear hi)) | (go_at_call 14; (with_reducible refine (cost_Hash.calls kj8 x10_8 a1 a2 t172 _ A33.out).mono ?_); rintro e w63 ⟨rfl, hb⟩; have n0_ := Aside0.mk (Kd.R_below (by (with_reducible repeat (first | apply Kd.R_alloc | apply Kd.R_drewN | apply Kd.R_drew)); exact HO163.out) hb); have n1_ := Aside0.mk (below_step (by repeat (first | (with_reducible first | exact HB.out | apply below_alloc | apply pw_below_drewN | apply below_drew1) | exact HB.out)) hb); clear HO163; clear HB; have HO163 := n0_; have HB := n1_; clear n0_ n1_; (try clear hb); (try clear hb2); (try clear hk); (try clear hi)) | (go_at_call 14; (with_reducible refine (cost_Hash.calls kj8 a1 x10_8 a2 t173 _ A34.out).mono ?_); rintro e w64 ⟨rfl, hb⟩; have n0_ := Aside0.mk (Kd.R_below (by (with_reducible repeat (first | apply Kd.R_alloc | apply Kd.R_drewN | apply Kd.R_drew)); exact HO163.out) hb); have n1_ := Aside0.mk (below_step (by repeat (first | (with_reducible first | exact HB.out | apply below_alloc | apply pw_below_drewN | apply below_drew1) | exact HB.out)) hb); clear HO163; clear HB; have HO163 := n0_; have HB := n1_; clear n0_ n1_; (try clear hb); (try clear hb2); (try clear hk); (try clear hi)) | (go_at_call 14; (with_reducible refine (cost_Hash.calls kj8 a1 a2 x10_8 t174 _ A35.out).mono ?_); rintro e w65 ⟨rfl, hb⟩; have n0_ := Aside0.mk (Kd.R_below (by (with_reducible repeat (first | apply Kd.R_alloc | apply Kd.R_drewN | apply Kd.R_drew)); exact HO163.out) hb); have n1_ := Aside0.mk (below_step (by repeat (first | (with_reducible first | exact HB.out | apply below_alloc | apply pw_below_drewN | apply below_drew1) | exact HB.out)) hb); clear HO163; clear HB; have HO163 := n0_; have HB := n1_; clear n0_ n1_; (try clear hb); (try clear hb2); (try clear hk); (try clear hi)) | (go_at_call 15; (with_reducible refine (cost_Merge.calls kj8 x10_8 a1 a2 t175 _ A36.out).mono ?_); rintro e w66 ⟨rfl, hb⟩; have n0_ := Aside0.mk (Kd.R_below (by (with_reducible repeat (first | apply Kd.R_alloc | apply Kd.R_drewN | apply Kd.R_drew)); exact HO163.out) hb); have n1_ := Aside0.mk (below_step (by repeat (first | (with_reducible first | exact HB.out | apply below_alloc | apply pw_below_drewN | apply below_drew1) | exact HB.out)) hb); clear HO163; clear HB; have HO163 := n0_; have HB := n1_; clear n0_ n1_; (try clear hb); (try clear hb2); (try clear hk); (try clear hi)) | (go_at_call 15; (with_reducible refine (cost_Merge.calls kj8 a1 x10_8 a2 t176 _ A37.out).mono ?_); rintro e w67 ⟨rfl, hb⟩; have n0_ := Aside0.mk (Kd.R_below (by (with_reducible repeat (first | apply Kd.R_alloc | apply Kd.R_drewN | apply Kd.R_drew)); exact HO163.out) hb); have n1_ := Aside0.mk (below_step (by repeat (first | (with_reducible first | exact HB.out | apply below_alloc | apply pw_below_drewN | apply below_drew1) | exact HB.out)) hb); clear HO163; clear HB; have HO163 := n0_; have HB := n1_; clear n0_ n1_; (try clear hb); (try clear hb2); (try clear hk); (try clear hi)) | (go_at_call 15; (with_reducible refine (cost_Merge.calls kj8 a1 a2 x10_8 t177 _ A38.out).mono ?_); rintro e w68 ⟨rfl, hb⟩; have n0_ := Aside0.mk (Kd.R_below (by (with_reducible repeat (first | apply Kd.R_alloc | apply Kd.R_drewN | apply Kd.R_drew)); exact HO163.out) hb); have n1_ := Aside0.mk (below_step (by repeat (first | (with_reducible first | exact HB.out | apply below_alloc | apply pw_below_drewN | apply below_drew1) | exact HB.out)) hb); clear HO163; clear HB; have HO163 := n0_; have HB := n1_; clear n0_ n1_; (try clear hb); (try clear hb2); (try clear hk); (try clear hi)) | ((with_reducible refine gate_dst (N := 120) rfl ?_); refine Kd.R_lit (Kd.int .i64) _ 3 ?hg (N := 120) ?hd (xs := ([t164, t165, t166, t167, t168, t169, t170, t171, t172, t173, t174, t175, t176, t177] : List Int)) (inner := [.int .i64 t164, .int .i64 t165, .int .i64 t166, .int .i64 t167, .int .i64 t168, .int .i64 t169, .int .i64 t170, .int .i64 t171, .int .i64 t172, .int .i64 t173, .int .i64 t174, .int .i64 t175, .int .i64 t176, .int .i64 t177]) (ok := fun _ => True) (okp := fun _ => True) ?hr ?hp (fun _ hk => hk) trivial (Below.refl _ _) (Nat.le_refl _) (by simp) ?_; (case hd => rfl); (case hg => rfl); (case hr => first | (go_simp; done) | (go_simp; rfl)); (case hp => exact (Reps.one (show Kd.M (Kd.int .i64) _ _ _ t164 [.int .i64 t164] from rfl) (Reps.one (show Kd.M (Kd.int .i64) _ _ _ t165 [.int .i64 t165] from rfl) (Reps.one (show Kd.M (Kd.int .i64) _ _ _ t166 [.int .i64 t166] from rfl) (Reps.one (show Kd.M (Kd.int .i64) _ _ _ t167 [.int .i64 t167] from rfl) (Reps.one (show Kd.M (Kd.int .i64) _ _ _ t168 [.int .i64 t168] from rfl) (Reps.one (show Kd.M (Kd.int .i64) _ _ _ t169 [.int .i64 t169] from rfl) (Reps.one (show Kd.M (Kd.int .i64) _ _ _ t170 [.int .i64 t170] from rfl) (Reps.one (show Kd.M (Kd.int .i64) _ _ _ t171 [.int .i64 t171] from rfl) (Reps.one (show Kd.M (Kd.int .i64) _ _ _ t172 [.int .i64 t172] from rfl) (Reps.one (show Kd.M (Kd.int .i64) _ _ _ t173 [.int .i64 t173] from rfl) (Reps.one (show Kd.M (Kd.int .i64) _ _ _ t174 [.int .i64 t174] from rfl) (Reps.one (show Kd.M (Kd.int .i64) _ _ _ t175 [.int .i64 t175] from rfl) (Reps.one (show Kd.M (Kd.int .i64) _ _ _ t176 [.int .i64 t176] from rfl) (Reps.one (show Kd.M (Kd.int .i64) _ _ _ t177 [.int .i64 t177] from rfl) (Reps.none _ _)))))))))))))))); intro v179 w69 ho70 hb hg_ hnew_; clear hg_ hnew_; (first | rw [← Ny178.out] at ho70 | (simp only [Int.reduceToNat] at ho70; rw [← Ny178.out] at ho70)); have n0_ := Aside0.mk (Kd.R_elder' (by (with_reducible repeat (first | apply Kd.R_alloc | apply Kd.R_drewN | apply Kd.R_drew)); exact HO163.out) (Kd.R_base ho70) hb); have n1_ := Aside0.mk (Kd.R_lower (Kd.R_new' ho70 (Kd.R_lt (by (with_reducible repeat (first | apply Kd.R_alloc | apply Kd.R_drewN | apply Kd.R_drew)); exact HO163.out))) (below_size (by repeat (first | (with_reducible first | exact HB.out | apply below_alloc | apply pw_below_drewN | apply below_drew1) | exact HB.out)))); have n2_ := Aside0.mk (below_step (by repeat (first | (with_reducible first | exact HB.out | apply below_alloc | apply pw_below_drewN | apply below_drew1) | exact HB.out)) hb); clear HO163; clear HB; have HO163 := n0_; have HO180 := n1_; have HB := n2_; clear n0_ n1_ n2_; clear hb ho70)); try go_wp2_with (first | (go_at_call 8; (with_reducible refine (cost_Bits.calls kj8 a0 t147 _ A11.out).mono ?_); rintro e w39 ⟨rfl, hb⟩; have n0_ := Aside0.mk (below_step (by repeat (first | (with_reducible first | exact HB.out | apply below_alloc | apply pw_below_drewN | apply below_drew1) | exact HB.out)) hb); clear HB; have HB := n0_; clear n0_; (try clear hb); (try clear hb2); (try clear hk); (try clear hi)) | (go_at_call 9; (with_reducible refine (cost_Sort.calls kj8 a0 t148 _ A12.out).mono ?_); rintro e w40 ⟨rfl, hb⟩; have n0_ := Aside0.mk (below_step (by repeat (first | (with_reducible first | exact HB.out | apply below_alloc | apply pw_below_drewN | apply below_drew1) | exact HB.out)) hb); clear HB; have HB := n0_; clear n0_; (try clear hb); (try clear hb2); (try clear hk); (try clear hi)) | (go_at_call 10; (with_reducible refine (cost_Scan.calls kj8 a0 t149 _ A13.out).mono ?_); rintro e w41 ⟨rfl, hb⟩; have n0_ := Aside0.mk (below_step (by repeat (first | (with_reducible first | exact HB.out | apply below_alloc | apply pw_below_drewN | apply below_drew1) | exact HB.out)) hb); clear HB; have HB := n0_; clear n0_; (try clear hb); (try clear hb2); (try clear hk); (try clear hi)) | (go_at_call 11; (with_reducible refine (cost_Index.calls kj8 a0 t150 _ A14.out).mono ?_); rintro e w42 ⟨rfl, hb⟩; have n0_ := Aside0.mk (below_step (by repeat (first | (with_reducible first | exact HB.out | apply below_alloc | apply pw_below_drewN | apply below_drew1) | exact HB.out)) hb); clear HB; have HB := n0_; clear n0_; (try clear hb); (try clear hb2); (try clear hk); (try clear hi)) | (go_at_call 12; (with_reducible refine (cost_Temp.calls a0 t151 _ A15.out).mono ?_); rintro e w43 ⟨rfl, hb⟩; have n0_ := Aside0.mk (below_step (by repeat (first | (with_reducible first | exact HB.out | apply below_alloc | apply pw_below_drewN | apply below_drew1) | exact HB.out)) hb); clear HB; have HB := n0_; clear n0_; (try clear hb); (try clear hb2); (try clear hk); (try clear hi)) | (go_at_call 13; (with_reducible refine (cost_Loop.calls kj8 a0 a1 a2 t152 _ A16.out).mono ?_); rintro e w44 ⟨rfl, hb⟩; have n0_ := Aside0.mk (below_step (by repeat (first | (with_reducible first | exact HB.out | apply below_alloc | apply pw_below_drewN | apply below_drew1) | exact HB.out)) hb); clear HB; have HB := n0_; clear n0_; (try clear hb); (try clear hb2); (try clear hk); (try clear hi)) | (go_at_call 13; (with_reducible refine (cost_Loop.calls kj8 a1 a0 a2 t153 _ A17.out).mono ?_); rintro e w45 ⟨rfl, hb⟩; have n0_ := Aside0.mk (below_step (by repeat (first | (with_reducible first | exact HB.out | apply below_alloc | apply pw_below_drewN | apply below_drew1) | exact HB.out)) hb); clear HB; have HB := n0_; clear n0_; (try clear hb); (try clear hb2); (try clear hk); (try clear hi)) | (go_at_call 13; (with_reducible refine (cost_Loop.calls kj8 a1 a2 a0 t154 _ A18.out).mono ?_); rintro e w46 ⟨rfl, hb⟩; have n0_ := Aside0.mk (below_step (by repeat (first | (with_reducible first | exact HB.out | apply below_alloc | apply pw_below_drewN | apply below_drew1) | exact HB.out)) hb); clear HB; have HB := n0_; clear n0_; (try clear hb); (try clear hb2); (try clear hk); (try clear hi)) | (go_at_call 14; (with_reducible refine (cost_Hash.calls kj8 a0 a1 a2 t155 _ A19.out).mono ?_); rintro e w47 ⟨rfl, hb⟩; have n0_ := Aside0.mk (below_step (by repeat (first | (with_reducible first | exact HB.out | apply below_alloc | apply pw_below_drewN | apply below_drew1) | exact HB.out)) hb); clear HB; have HB := n0_; clear n0_; (try clear hb); (try clear hb2); (try clear hk); (try clear hi)) | (go_at_call 14; (with_reducible refine (cost_Hash.calls kj8 a1 a0 a2 t156 _ A20.out).mono ?_); rintro e w48 ⟨rfl, hb⟩; have n0_ := Aside0.mk (below_step (by repeat (first | (with_reducible first | exact HB.out | apply below_alloc | apply pw_below_drewN | apply below_drew1) | exact HB.out)) hb); clear HB; have HB := n0_; clear n0_; (try clear hb); (try clear hb2); (try clear hk); (try clear hi)) | (go_at_call 14; (with_reducible refine (cost_Hash.calls kj8 a1 a2 a0 t157 _ A21.out).mono ?_); rintro e w49 ⟨rfl, hb⟩; have n0_ := Aside0.mk (below_step (by repeat (first | (with_reducible first | exact HB.out | apply below_alloc | apply pw_below_drewN | apply below_drew1) | exact HB.out)) hb); clear HB; have HB := n0_; clear n0_; (try clear hb); (try clear hb2); (try clear hk); (try clear hi)) | (go_at_call 15; (with_reducible refine (cost_Merge.calls kj8 a0 a1 a2 t158 _ A22.out).mono ?_); rintro e w50 ⟨rfl, hb⟩; have n0_ := Aside0.mk (below_step (by repeat (first | (with_reducible first | exact HB.out | apply below_alloc | apply pw_below_drewN | apply below_drew1) | exact HB.out)) hb); clear HB; have HB := n0_; clear n0_; (try clear hb); (try clear hb2); (try clear hk); (try clear hi)) | (go_at_call 15; (with_reducible refine (cost_Merge.calls kj8 a1 a0 a2 t159 _ A23.out).mono ?_); rintro e w51 ⟨rfl, hb⟩; have n0_ := Aside0.mk (below_step (by repeat (first | (with_reducible first | exact HB.out | apply below_alloc | apply pw_below_drewN | apply below_drew1) | exact HB.out)) hb); clear HB; have HB := n0_; clear n0_; (try clear hb); (try clear hb2); (try clear hk); (try clear hi)) | (go_at_call 15; (with_reducible refine (cost_Merge.calls kj8 a1 a2 a0 t160 _ A24.out).mono ?_); rintro e w52 ⟨rfl, hb⟩; have n0_ := Aside0.mk (below_step (by repeat (first | (with_reducible first | exact HB.out | apply below_alloc | apply pw_below_drewN | apply below_drew1) | exact HB.out)) hb); clear HB; have HB := n0_; clear n0_; (try clear hb); (try clear hb2); (try clear hk); (try clear hi)) | ((with_reducible refine gate_dst (N := 73) rfl ?_); refine Kd.R_lit (Kd.int .i64) _ 3 ?hg (N := 73) ?hd (xs := ([t147, t148, t149, t150, t151, t152, t153, t154, t155, t156, t157, t158, t159, t160] : List Int)) (inner := [.int .i64 t147, .int .i64 t148, .int .i64 t149, .int .i64 t150, .int .i64 t151, .int .i64 t152, .int .i64 t153, .int .i64 t154, .int .i64 t155, .int .i64 t156, .int .i64 t157, .int .i64 t158, .int .i64 t159, .int .i64 t160]) (ok := fun _ => True) (okp := fun _ => True) ?hr ?hp (fun _ hk => hk) trivial (Below.refl _ _) (Nat.le_refl _) (by simp) ?_; (case hd => rfl); (case hg => rfl); (case hr => first | (go_simp; done) | (go_simp; rfl)); (case hp => exact (Reps.one (show Kd.M (Kd.int .i64) _ _ _ t147 [.int .i64 t147] from rfl) (Reps.one (show Kd.M (Kd.int .i64) _ _ _ t148 [.int .i64 t148] from rfl) (Reps.one (show Kd.M (Kd.int .i64) _ _ _ t149 [.int .i64 t149] from rfl) (Reps.one (show Kd.M (Kd.int .i64) _ _ _ t150 [.int .i64 t150] from rfl) (Reps.one (show Kd.M (Kd.int .i64) _ _ _ t151 [.int .i64 t151] from rfl) (Reps.one (show Kd.M (Kd.int .i64) _ _ _ t152 [.int .i64 t152] from rfl) (Reps.one (show Kd.M (Kd.int .i64) _ _ _ t153 [.int .i64 t153] from rfl) (Reps.one (show Kd.M (Kd.int .i64) _ _ _ t154 [.int .i64 t154] from rfl) (Reps.one (show Kd.M (Kd.int .i64) _ _ _ t155 [.int .i64 t155] from rfl) (Reps.one (show Kd.M (Kd.int .i64) _ _ _ t156 [.int .i64 t156] from rfl) (Reps.one (show Kd.M (Kd.int .i64) _ _ _ t157 [.int .i64 t157] from rfl) (Reps.one (show Kd.M (Kd.int .i64) _ _ _ t158 [.int .i64 t158] from rfl) (Reps.one (show Kd.M (Kd.int .i64) _ _ _ t159 [.int .i64 t159] from rfl) (Reps.one (show Kd.M (Kd.int .i64) _ _ _ t160 [.int .i64 t160] from rfl) (Reps.none _ _)))))))))))))))); intro v162 w53 ho54 hb hg_ hnew_; clear hg_ hnew_; (first | rw [← Ny161.out] at ho54 | (simp only [Int.reduceToNat] at ho54; rw [← Ny161.out] at ho54)); have n0_ := Aside0.mk (Kd.R_lower ho54 (below_size (by repeat (first | (with_reducible first | exact HB.out | apply below_alloc | apply pw_below_drewN | apply below_drew1) | exact HB.out)))); have n1_ := Aside0.mk (below_step (by repeat (first | (with_reducible first | exact HB.out | apply below_alloc | apply pw_below_drewN | apply below_drew1) | exact HB.out)) hb); clear HB; have HO163 := n0_; have HB := n1_; clear n0_ n1_; clear hb ho54) | (go_at_call 8; (with_reducible refine (cost_Bits.calls kj8 x10_8 t164 _ A25.out).mono ?_); rintro e w55 ⟨rfl, hb⟩; have n0_ := Aside0.mk (Kd.R_below (by (with_reducible repeat (first | apply Kd.R_alloc | apply Kd.R_drewN | apply Kd.R_drew)); exact HO163.out) hb); have n1_ := Aside0.mk (below_step (by repeat (first | (with_reducible first | exact HB.out | apply below_alloc | apply pw_below_drewN | apply below_drew1) | exact HB.out)) hb); clear HO163; clear HB; have HO163 := n0_; have HB := n1_; clear n0_ n1_; (try clear hb); (try clear hb2); (try clear hk); (try clear hi)) | (go_at_call 9; (with_reducible refine (cost_Sort.calls kj8 x10_8 t165 _ A26.out).mono ?_); rintro e w56 ⟨rfl, hb⟩; have n0_ := Aside0.mk (Kd.R_below (by (with_reducible repeat (first | apply Kd.R_alloc | apply Kd.R_drewN | apply Kd.R_drew)); exact HO163.out) hb); have n1_ := Aside0.mk (below_step (by repeat (first | (with_reducible first | exact HB.out | apply below_alloc | apply pw_below_drewN | apply below_drew1) | exact HB.out)) hb); clear HO163; clear HB; have HO163 := n0_; have HB := n1_; clear n0_ n1_; (try clear hb); (try clear hb2); (try clear hk); (try clear hi)) | (go_at_call 10; (with_reducible refine (cost_Scan.calls kj8 x10_8 t166 _ A27.out).mono ?_); rintro e w57 ⟨rfl, hb⟩; have n0_ := Aside0.mk (Kd.R_below (by (with_reducible repeat (first | apply Kd.R_alloc | apply Kd.R_drewN | apply Kd.R_drew)); exact HO163.out) hb); have n1_ := Aside0.mk (below_step (by repeat (first | (with_reducible first | exact HB.out | apply below_alloc | apply pw_below_drewN | apply below_drew1) | exact HB.out)) hb); clear HO163; clear HB; have HO163 := n0_; have HB := n1_; clear n0_ n1_; (try clear hb); (try clear hb2); (try clear hk); (try clear hi)) | (go_at_call 11; (with_reducible refine (cost_Index.calls kj8 x10_8 t167 _ A28.out).mono ?_); rintro e w58 ⟨rfl, hb⟩; have n0_ := Aside0.mk (Kd.R_below (by (with_reducible repeat (first | apply Kd.R_alloc | apply Kd.R_drewN | apply Kd.R_drew)); exact HO163.out) hb); have n1_ := Aside0.mk (below_step (by repeat (first | (with_reducible first | exact HB.out | apply below_alloc | apply pw_below_drewN | apply below_drew1) | exact HB.out)) hb); clear HO163; clear HB; have HO163 := n0_; have HB := n1_; clear n0_ n1_; (try clear hb); (try clear hb2); (try clear hk); (try clear hi)) | (go_at_call 12; (with_reducible refine (cost_Temp.calls x10_8 t168 _ A29.out).mono ?_); rintro e w59 ⟨rfl, hb⟩; have n0_ := Aside0.mk (Kd.R_below (by (with_reducible repeat (first | apply Kd.R_alloc | apply Kd.R_drewN | apply Kd.R_drew)); exact HO163.out) hb); have n1_ := Aside0.mk (below_step (by repeat (first | (with_reducible first | exact HB.out | apply below_alloc | apply pw_below_drewN | apply below_drew1) | exact HB.out)) hb); clear HO163; clear HB; have HO163 := n0_; have HB := n1_; clear n0_ n1_; (try clear hb); (try clear hb2); (try clear hk); (try clear hi)) | (go_at_call 13; (with_reducible refine (cost_Loop.calls kj8 x10_8 a1 a2 t169 _ A30.out).mono ?_); rintro e w60 ⟨rfl, hb⟩; have n0_ := Aside0.mk (Kd.R_below (by (with_reducible repeat (first | apply Kd.R_alloc | apply Kd.R_drewN | apply Kd.R_drew)); exact HO163.out) hb); have n1_ := Aside0.mk (below_step (by repeat (first | (with_reducible first | exact HB.out | apply below_alloc | apply pw_below_drewN | apply below_drew1) | exact HB.out)) hb); clear HO163; clear HB; have HO163 := n0_; have HB := n1_; clear n0_ n1_; (try clear hb); (try clear hb2); (try clear hk); (try clear hi)) | (go_at_call 13; (with_reducible refine (cost_Loop.calls kj8 a1 x10_8 a2 t170 _ A31.out).mono ?_); rintro e w61 ⟨rfl, hb⟩; have n0_ := Aside0.mk (Kd.R_below (by (with_reducible repeat (first | apply Kd.R_alloc | apply Kd.R_drewN | apply Kd.R_drew)); exact HO163.out) hb); have n1_ := Aside0.mk (below_step (by repeat (first | (with_reducible first | exact HB.out | apply below_alloc | apply pw_below_drewN | apply below_drew1) | exact HB.out)) hb); clear HO163; clear HB; have HO163 := n0_; have HB := n1_; clear n0_ n1_; (try clear hb); (try clear hb2); (try clear hk); (try clear hi)) | (go_at_call 13; (with_reducible refine (cost_Loop.calls kj8 a1 a2 x10_8 t171 _ A32.out).mono ?_); rintro e w62 ⟨rfl, hb⟩; have n0_ := Aside0.mk (Kd.R_below (by (with_reducible repeat (first | apply Kd.R_alloc | apply Kd.R_drewN | apply Kd.R_drew)); exact HO163.out) hb); have n1_ := Aside0.mk (below_step (by repeat (first | (with_reducible first | exact HB.out | apply below_alloc | apply pw_below_drewN | apply below_drew1) | exact HB.out)) hb); clear HO163; clear HB; have HO163 := n0_; have HB := n1_; clear n0_ n1_; (try clear hb); (try clear hb2); (try clear hk); (try clear hi)) | (go_at_call 14; (with_reducible refine (cost_Hash.calls kj8 x10_8 a1 a2 t172 _ A33.out).mono ?_); rintro e w63 ⟨rfl, hb⟩; have n0_ := Aside0.mk (Kd.R_below (by (with_reducible repeat (first | apply Kd.R_alloc | apply Kd.R_drewN | apply Kd.R_drew)); exact HO163.out) hb); have n1_ := Aside0.mk (below_step (by repeat (first | (with_reducible first | exact HB.out | apply below_alloc | apply pw_below_drewN | apply below_drew1) | exact HB.out)) hb); clear HO163; clear HB; have HO163 := n0_; have HB := n1_; clear n0_ n1_; (try clear hb); (try clear hb2); (try clear hk); (try clear hi)) | (go_at_call 14; (with_reducible refine (cost_Hash.calls kj8 a1 x10_8 a2 t173 _ A34.out).mono ?_); rintro e w64 ⟨rfl, hb⟩; have n0_ := Aside0.mk (Kd.R_below (by (with_reducible repeat (first | apply Kd.R_alloc | apply Kd.R_drewN | apply Kd.R_drew)); exact HO163.out) hb); have n1_ := Aside0.mk (below_step (by repeat (first | (with_reducible first | exact HB.out | apply below_alloc | apply pw_below_drewN | apply below_drew1) | exact HB.out)) hb); clear HO163; clear HB; have HO163 := n0_; have HB := n1_; clear n0_ n1_; (try clear hb); (try clear hb2); (try clear hk); (try clear hi)) | (go_at_call 14; (with_reducible refine (cost_Hash.calls kj8 a1 a2 x10_8 t174 _ A35.out).mono ?_); rintro e w65 ⟨rfl, hb⟩; have n0_ := Aside0.mk (Kd.R_below (by (with_reducible repeat (first | apply Kd.R_alloc | apply Kd.R_drewN | apply Kd.R_drew)); exact HO163.out) hb); have n1_ := Aside0.mk (below_step (by repeat (first | (with_reducible first | exact HB.out | apply below_alloc | apply pw_below_drewN | apply below_drew1) | exact HB.out)) hb); clear HO163; clear HB; have HO163 := n0_; have HB := n1_; clear n0_ n1_; (try clear hb); (try clear hb2); (try clear hk); (try clear hi)) | (go_at_call 15; (with_reducible refine (cost_Merge.calls kj8 x10_8 a1 a2 t175 _ A36.out).mono ?_); rintro e w66 ⟨rfl, hb⟩; have n0_ := Aside0.mk (Kd.R_below (by (with_reducible repeat (first | apply Kd.R_alloc | apply Kd.R_drewN | apply Kd.R_drew)); exact HO163.out) hb); have n1_ := Aside0.mk (below_step (by repeat (first | (with_reducible first | exact HB.out | apply below_alloc | apply pw_below_drewN | apply below_drew1) | exact HB.out)) hb); clear HO163; clear HB; have HO163 := n0_; have HB := n1_; clear n0_ n1_; (try clear hb); (try clear hb2); (try clear hk); (try clear hi)) | (go_at_call 15; (with_reducible refine (cost_Merge.calls kj8 a1 x10_8 a2 t176 _ A37.out).mono ?_); rintro e w67 ⟨rfl, hb⟩; have n0_ := Aside0.mk (Kd.R_below (by (with_reducible repeat (first | apply Kd.R_alloc | apply Kd.R_drewN | apply Kd.R_drew)); exact HO163.out) hb); have n1_ := Aside0.mk (below_step (by repeat (first | (with_reducible first | exact HB.out | apply below_alloc | apply pw_below_drewN | apply below_drew1) | exact HB.out)) hb); clear HO163; clear HB; have HO163 := n0_; have HB := n1_; clear n0_ n1_; (try clear hb); (try clear hb2); (try clear hk); (try clear hi)) | (go_at_call 15; (with_reducible refine (cost_Merge.calls kj8 a1 a2 x10_8 t177 _ A38.out).mono ?_); rintro e w68 ⟨rfl, hb⟩; have n0_ := Aside0.mk (Kd.R_below (by (with_reducible repeat (first | apply Kd.R_alloc | apply Kd.R_drewN | apply Kd.R_drew)); exact HO163.out) hb); have n1_ := Aside0.mk (below_step (by repeat (first | (with_reducible first | exact HB.out | apply below_alloc | apply pw_below_drewN | apply below_drew1) | exact HB.out)) hb); clear HO163; clear HB; have HO163 := n0_; have HB := n1_; clear n0_ n1_; (try clear hb); (try clear hb2); (try clear hk); (try clear hi)) | ((with_reducible refine gate_dst (N := 120) rfl ?_); refine Kd.R_lit (Kd.int .i64) _ 3 ?hg (N := 120) ?hd (xs := ([t164, t165, t166, t167, t168, t169, t170, t171, t172, t173, t174, t175, t176, t177] : List Int)) (inner := [.int .i64 t164, .int .i64 t165, .int .i64 t166, .int .i64 t167, .int .i64 t168, .int .i64 t169, .int .i64 t170, .int .i64 t171, .int .i64 t172, .int .i64 t173, .int .i64 t174, .int .i64 t175, .int .i64 t176, .int .i64 t177]) (ok := fun _ => True) (okp := fun _ => True) ?hr ?hp (fun _ hk => hk) trivial (Below.refl _ _) (Nat.le_refl _) (by simp) ?_; (case hd => rfl); (case hg => rfl); (case hr => first | (go_simp; done) | (go_simp; rfl)); (case hp => exact (Reps.one (show Kd.M (Kd.int .i64) _ _ _ t164 [.int .i64 t164] from rfl) (Reps.one (show Kd.M (Kd.int .i64) _ _ _ t165 [.int .i64 t165] from rfl) (Reps.one (show Kd.M (Kd.int .i64) _ _ _ t166 [.int .i64 t166] from rfl) (Reps.one (show Kd.M (Kd.int .i64) _ _ _ t167 [.int .i64 t167] from rfl) (Reps.one (show Kd.M (Kd.int .i64) _ _ _ t168 [.int .i64 t168] from rfl) (Reps.one (show Kd.M (Kd.int .i64) _ _ _ t169 [.int .i64 t169] from rfl) (Reps.one (show Kd.M (Kd.int .i64) _ _ _ t170 [.int .i64 t170] from rfl) (Reps.one (show Kd.M (Kd.int .i64) _ _ _ t171 [.int .i64 t171] from rfl) (Reps.one (show Kd.M (Kd.int .i64) _ _ _ t172 [.int .i64 t172] from rfl) (Reps.one (show Kd.M (Kd.int .i64) _ _ _ t173 [.int .i64 t173] from rfl) (Reps.one (show Kd.M (Kd.int .i64) _ _ _ t174 [.int .i64 t174] from rfl) (Reps.one (show Kd.M (Kd.int .i64) _ _ _ t175 [.int .i64 t175] from rfl) (Reps.one (show Kd.M (Kd.int .i64) _ _ _ t176 [.int .i64 t176] from rfl) (Reps.one (show Kd.M (Kd.int .i64) _ _ _ t177 [.int .i64 t177] from rfl) (Reps.none _ _)))))))))))))))); intro v179 w69 ho70 hb hg_ hnew_; clear hg_ hnew_; (first | rw [← Ny178.out] at ho70 | (simp only [Int.reduceToNat] at ho70; rw [← Ny178.out] at ho70)); have n0_ := Aside0.mk (Kd.R_elder' (by (with_reducible repeat (first | apply Kd.R_alloc | apply Kd.R_drewN | apply Kd.R_drew)); exact HO163.out) (Kd.R_base ho70) hb); have n1_ := Aside0.mk (Kd.R_lower (Kd.R_new' ho70 (Kd.R_lt (by (with_reducible repeat (first | apply Kd.R_alloc | apply Kd.R_drewN | apply Kd.R_drew)); exact HO163.out))) (below_size (by repeat (first | (with_reducible first | exact HB.out | apply below_alloc | apply pw_below_drewN | apply below_drew1) | exact HB.out)))); have n2_ := Aside0.mk (below_step (by repeat (first | (with_reducible first | exact HB.out | apply below_alloc | apply pw_below_drewN | apply below_drew1) | exact HB.out)) hb); clear HO163; clear HB; have HO163 := n0_; have HO180 := n1_; have HB := n2_; clear n0_ n1_ n2_; clear hb ho70)))
          go_loopg [13] kj8 (fun kq v13 w' => ∃ (x13_3 : Int), v13 = .int .i64 x13_3 ∧ Aside0 (weathercocklaw16_CostRises.l0 kq t146 y161 y178 x13_3 = some r) ∧ Aside0 (kq ≤ kj8) ∧ Aside0 (Kd.R (Kd.int .i64) 3 w' w.heap.size (fun k_ => some k_ ≠ (v179 : Value).ownBlock) v162 y161) ∧ Aside0 (Kd.R (Kd.int .i64) 3 w' w.heap.size (fun k_ => some k_ ≠ (v162 : Value).ownBlock) v179 y178) ∧ Aside0 (Below w.heap.size w w'))
          case atStart => exact ⟨(0), (by first | rfl | (simp; done) | (simp [*]; done)), H', ⟨Nat.le_refl _⟩, ⟨by (with_reducible repeat (first | apply Kd.R_alloc | apply Kd.R_drewN | apply Kd.R_drew)); exact Kd.R_mono HO163.out (fun _ hk => hk.2)⟩, ⟨by (with_reducible repeat (first | apply Kd.R_alloc | apply Kd.R_drewN | apply Kd.R_drew)); exact Kd.R_mono HO180.out (fun _ hk => hk.2)⟩, ⟨by repeat (first | (with_reducible first | exact HB.out | apply below_alloc | apply pw_below_drewN | apply below_drew1) | exact HB.out)⟩⟩
          case round =>
            clear H'
            try clear c1
            try clear p2
            try clear c4
            try clear p6
            try clear c8
            try clear c8b0
            try clear c10
            try clear c10b0
            try clear p64
            try clear p2
            try clear p6
            obtain ⟨x13_3, rfl, HA, HK3, HO_11, HO_12, HB⟩ := hrel
            cases gk with
            | zero => exact absurd HA.out (by simp [weathercocklaw16_CostRises.l0])
            | succ k3 =>
              have H := HA.out
              clear HA
              simp only [weathercocklaw16_CostRises.l0] at H
              by_cases c71 : x13_3 < (y161.length : Int)
              · rw [if_pos c71] at H
                have c71b0 : decide (x13_3 < (y161.length : Int)) = true := decide_eq_true c71
                clear c71
                by_cases c72 : 0 ≤ x13_3
                · rw [if_pos c72] at H
                  have c72b0 : decide (0 ≤ x13_3) = true := decide_eq_true c72
                  clear c72
                  by_cases c73 : (rd y161 x13_3) < 0
                  · rw [if_pos c73] at H
                    have c73b0 : decide ((rd y161 x13_3) < 0) = true := decide_eq_true c73
                    clear c73
                    exact absurd (Option.some.inj H) (fun h_ => absurd (h_.trans HRT.out) (by decide))
                  · rw [if_neg c73] at H
                    have c73b0 : decide ((rd y161 x13_3) < 0) = false := decide_eq_false c73
                    clear c73
                    by_cases c74 : (rd y161 x13_3) > 1000000000000
                    · rw [if_pos c74] at H
                      have c74b0 : decide (1000000000000 < (rd y161 x13_3)) = true := decide_eq_true c74
                      clear c74
                      exact absurd (Option.some.inj H) (fun h_ => absurd (h_.trans HRT.out) (by decide))
                    · rw [if_neg c74] at H
                      have c74b0 : decide (1000000000000 < (rd y161 x13_3)) = false := decide_eq_false c74
                      clear c74
                      by_cases c75 : x13_3 < (y178.length : Int)
                      · rw [if_pos c75] at H
                        have c75b0 : decide (x13_3 < (y178.length : Int)) = true := decide_eq_true c75
                        clear c75
                        by_cases c76 : (rd y161 x13_3) > (rd y178 x13_3)
                        · rw [if_pos c76] at H
                          have c76b0 : decide ((rd y178 x13_3) < (rd y161 x13_3)) = true := decide_eq_true c76
                          clear c76
                          exact absurd (Option.some.inj H) (fun h_ => absurd (h_.trans HRT.out) (by decide))
                        · rw [if_neg c76] at H
                          have c76b0 : decide ((rd y178 x13_3) < (rd y161 x13_3)) = false := decide_eq_false c76
                          clear c76
                          have H' := Aside0.mk H
                          clear H
                          obtain ⟨Ao77, co77, eo77⟩ := Kd.R_slice HO_11.out
                          subst eo77
                          have p181 : 0 ≤ (x13_3 : Int) := of_decide_eq_true (by first | (with_reducible assumption) | assumption)
                          have q181 : x13_3 < (y161.length : Int) := of_decide_eq_true (by first | (with_reducible assumption) | assumption)
                          obtain ⟨ad181, e181, hx181_0⟩ := Kd.at_int (Kd.R_reads' HO_11.out).2.2 x13_3 p181 q181
                          cases e181
                          replace p181 := eq_true p181
                          replace q181 := eq_true q181
                          have p182 : 0 ≤ (x13_3 : Int) := of_decide_eq_true (by first | (with_reducible assumption) | assumption)
                          have q182 : x13_3 < (y161.length : Int) := of_decide_eq_true (by first | (with_reducible assumption) | assumption)
                          obtain ⟨ad182, e182, hx182_0⟩ := Kd.at_int (Kd.R_reads' HO_11.out).2.2 x13_3 p182 q182
                          obtain rfl : ad181 = ad182 := (by injection e182)
                          replace p182 := eq_true p182
                          replace q182 := eq_true q182
                          have p183 : 0 ≤ (x13_3 : Int) := of_decide_eq_true (by first | (with_reducible assumption) | assumption)
                          have q183 : x13_3 < (y161.length : Int) := of_decide_eq_true (by first | (with_reducible assumption) | assumption)
                          obtain ⟨ad183, e183, hx183_0⟩ := Kd.at_int (Kd.R_reads' HO_11.out).2.2 x13_3 p183 q183
                          obtain rfl : ad181 = ad183 := (by injection e183)
                          replace p183 := eq_true p183
                          replace q183 := eq_true q183
                          obtain ⟨Ao78, co78, eo78⟩ := Kd.R_slice HO_12.out
                          subst eo78
                          have p184 : 0 ≤ (x13_3 : Int) := of_decide_eq_true (by first | (with_reducible assumption) | assumption)
                          have q184 : x13_3 < (y178.length : Int) := of_decide_eq_true (by first | (with_reducible assumption) | assumption)
                          obtain ⟨ad184, e184, hx184_0⟩ := Kd.at_int (Kd.R_reads' HO_12.out).2.2 x13_3 p184 q184
                          cases e184
                          replace p184 := eq_true p184
                          replace q184 := eq_true q184
                          go_wp2
                          repeat (go_quiet (fail); try go_wp2)
                          go_roundg k3
                          case measure => have := HJ5.out; have := HJ8.out; have := HK3.out; omega
                          case rel => exact ⟨(wrap64 (x13_3 + 1)), (by first | rfl | (simp; done) | (simp [*]; done)), H', ⟨by have := HJ5.out; have := HJ8.out; have := HK3.out; omega⟩, ⟨by (with_reducible repeat (first | apply Kd.R_alloc | apply Kd.R_drewN | apply Kd.R_drew)); exact HO_11.out⟩, ⟨by (with_reducible repeat (first | apply Kd.R_alloc | apply Kd.R_drewN | apply Kd.R_drew)); exact HO_12.out⟩, ⟨by repeat (first | (with_reducible first | exact HB.out | apply below_alloc | apply pw_below_drewN | apply below_drew1) | exact HB.out)⟩⟩
                      · rw [if_neg c75] at H
                        exact absurd H (by simp)
                · rw [if_neg c72] at H
                  exact absurd H (by simp)
              · rw [if_neg c71] at H
                have c71b0 : decide (x13_3 < (y161.length : Int)) = false := decide_eq_false c71
                clear c71
                obtain rfl := Option.some.inj H
                obtain ⟨Ao79, co79, eo79⟩ := Kd.R_slice HO_11.out
                subst eo79
                go_wp2
                repeat (go_quiet (fail); try go_wp2)
                go_ret
                exact ⟨by first | rfl | (simp [errW_none, errW_some] <;> rfl) | (simp [*, errW_none, errW_some] <;> rfl), by repeat (first | (with_reducible first | exact HB.out | apply below_alloc | apply pw_below_drewN | apply below_drew1) | exact HB.out)⟩

/-- THE ONE PURE STATEMENT of weathercocklaw16_CostRises: yours. -/
def weathercocklaw16_CostRises.Pure : Prop := ∀ (a0 : Int) (a1 : Int) (a2 : Int) (a3 : Int), (Lit.int .i64 a0).wf = true → (Lit.int .i64 a1).wf = true → (Lit.int .i64 a2).wf = true → (Lit.int .i64 a3).wf = true → ∃ k, weathercocklaw16_CostRises.f k a0 a1 a2 a3 = some true
theorem weathercocklaw16_CostRises.walk (P : weathercocklaw16_CostRises.Pure) (a0 : Int) (a1 : Int) (a2 : Int) (a3 : Int) (w : World) (w0 : (Lit.int .i64 a0).wf = true) (w1 : (Lit.int .i64 a1).wf = true) (w2 : (Lit.int .i64 a2).wf = true) (w3 : (Lit.int .i64 a3).wf = true) :
    Calls Try.prog 4 #[.int .i64 a0, .int .i64 a1, .int .i64 a2, .int .i64 a3] w fun e w' => e = .returned (.bool true) ∧ Below w.heap.size w w' := by
  obtain ⟨k, h⟩ := P a0 a1 a2 a3 w0 w1 w2 w3
  refine (weathercocklaw16_CostRises.calls k a0 a1 a2 a3 true w h rfl).mono ?_
  rintro e w' ⟨rfl, hd⟩
  exact ⟨rfl, hd⟩

end Go.Proofs.Ytdghbkffcmikhaa.QCostRises
