-- Written by wip/tools/myprint.py of this project (the kit's printer with lines replaced in memory, and texts of ours)
import Derived.Test.YtplmfnjijhppaaaQRowTwox0
import Derived.Test.YtplmfnjijhppaaaQRowTwox2
import Derived.Test.YtplmfnjijhppaaaQRowTwox5
namespace Go.Proofs.Ytplmfnjijhppaaa.QRowTwo
open Go.RowKit Go.Proofs.YtplmfnjijhppaaaW.PrintWords Go.Proofs.YtplmfnjijhppaaaW.PrintLast Go.Proofs.YtplmfnjijhppaaaW.PrintMore
attribute [local go_sem] max2_int min2_int max_two min_two max_three min_three max_four min_four   -- for this text's walks alone
set_option linter.unusedVariables false
set_option linter.unusedSimpArgs false

/-! ### weathercocklaw02_RowTwo: function 6 -/
def weathercocklaw02_RowTwo.j0 : Nat → List (S36) → List (S36) → Bool → ByteArray → ByteArray → List (S36) → ByteArray → Int → Bool → Option (Bool)
  | 0, _, _, _, _, _, _, _, _, _ => none
  | k + 1, x0, x1, x5, x6, x8, x10, x11, x12, x38 => if x38 = true then (if x5 = true then (some (x12 != 0)) else (some false)) else (if (x10.length : Int) > 100 then (if x5 = true then (some (x12 == 5)) else (some false)) else (if x5 = true then (if x6.size + x8.size ≤ 9223372036854775807 then (if x11.toList = (x6 ++ x8).toList then (if x12 = 0 then ((row_Compare.f x0 x10).bind fun t158 => (some ((decide (t158 < 0)) == (decide ((x1.length : Int) > 0))))) else (some false)) else (some false)) else (none)) else (some false)))
def weathercocklaw02_RowTwo.f (k : Nat) (l0 : List (S36)) (l1 : List (S36)) : Option (Bool) := (weathercocklaw02_examples.f k).bind fun t145 => ((row_Encode.f l0).bind fun bt146 => ((row_Encode.f l1).bind fun bt148 => (if ([] : List (S36)).length + l0.length < 4398046511104 then ((some (([] : List (S36)) ++ l0 : List (S36))).bind fun y150 => (if y150.length + l1.length < 4398046511104 then ((some (y150 ++ l1 : List (S36))).bind fun y153 => ((row_Encode.f y153).bind fun bt156 => (if bt146.2 = 0 then (weathercocklaw02_RowTwo.j0 k l0 l1 t145 bt146.1 bt148.1 y153 bt156.1 bt156.2 (bt148.2 != 0)) else (weathercocklaw02_RowTwo.j0 k l0 l1 t145 bt146.1 bt148.1 y153 bt156.1 bt156.2 true)))) else (none))) else (none))))
theorem weathercocklaw02_RowTwo.mono_l : ∀ k, (∀ y0 y1 y2 y3 y4 y5 y6 y7 y8, LeO (weathercocklaw02_RowTwo.j0 k y0 y1 y2 y3 y4 y5 y6 y7 y8) (weathercocklaw02_RowTwo.j0 (k + 1) y0 y1 y2 y3 y4 y5 y6 y7 y8))
  | 0 => fun _ _ _ _ _ _ _ _ _ r h => by simp [weathercocklaw02_RowTwo.j0] at h
  | k + 1 => by
    have ih0 := weathercocklaw02_RowTwo.mono_l k
    · intro y0 y1 y2 y3 y4 y5 y6 y7 y8
      unfold weathercocklaw02_RowTwo.j0
      repeat' first
      | (with_reducible exact ih0 _ _ _ _ _ _ _ _ _)
      | (with_reducible exact weathercocklaw02_examples.mono _)
      | (with_reducible exact LeO.refl _)
      | (with_reducible exact LeO.none _)
      | (with_reducible refine LeO.ite ?_ ?_)
      | (with_reducible refine LeO.bind ?_ (fun _ => ?_))
      | exact ih0 _ _ _ _ _ _ _ _ _
      | exact weathercocklaw02_examples.mono _
      | exact LeO.none _
      | refine LeO.ite ?_ ?_
      | refine LeO.bind ?_ (fun _ => ?_)
theorem weathercocklaw02_RowTwo.mono : ∀ a0 a1 k, LeO (weathercocklaw02_RowTwo.f k a0 a1) (weathercocklaw02_RowTwo.f (k + 1) a0 a1) := by
  intro a0 a1 k
  have ih0 := weathercocklaw02_RowTwo.mono_l k
  unfold weathercocklaw02_RowTwo.f
  repeat' first
      | (with_reducible exact ih0 _ _ _ _ _ _ _ _ _)
      | (with_reducible exact weathercocklaw02_examples.mono _)
      | (with_reducible exact LeO.refl _)
      | (with_reducible exact LeO.none _)
      | (with_reducible refine LeO.ite ?_ ?_)
      | (with_reducible refine LeO.bind ?_ (fun _ => ?_))
      | exact ih0 _ _ _ _ _ _ _ _ _
      | exact weathercocklaw02_examples.mono _
      | exact LeO.none _
      | refine LeO.ite ?_ ?_
      | refine LeO.bind ?_ (fun _ => ?_)
set_option maxHeartbeats 8000000 in
set_option maxRecDepth 100000 in
theorem weathercocklaw02_RowTwo.calls (k : Nat) (A0 : Option Addr) (c0 : Nat) (l0 : List (S36)) (A1 : Option Addr) (c1 : Nat) (l1 : List (S36)) (r : Bool) (w : World) (hr0 : Kd.C k36 w A0 l0.length l0) (hc0 : l0.length ≤ c0) (hr1 : Kd.C k36 w A1 l1.length l1) (hc1 : l1.length ≤ c1) (h : weathercocklaw02_RowTwo.f k l0 l1 = some r) (hrt : r = true) :
    Calls Try.prog 6 #[.slice A0 l0.length c0, .slice A1 l1.length c1] w fun e w' => e = .returned (.bool r) ∧ Below w.heap.size w w' := by
  have HRT := Aside0.mk hrt
  clear hrt
  have HR0 := Aside0.mk hr0
  have HC0 := Aside0.mk hc0
  clear hr0 hc0
  have HR1 := Aside0.mk hr1
  have HC1 := Aside0.mk hc1
  clear hr1 hc1
  have HB := Aside0.mk (Below.refl w.heap.size w)
  have H : ((weathercocklaw02_examples.f k).bind fun t145 => ((row_Encode.f l0).bind fun bt146 => ((row_Encode.f l1).bind fun bt148 => (if ([] : List (S36)).length + l0.length < 4398046511104 then ((some (([] : List (S36)) ++ l0 : List (S36))).bind fun y150 => (if y150.length + l1.length < 4398046511104 then ((some (y150 ++ l1 : List (S36))).bind fun y153 => ((row_Encode.f y153).bind fun bt156 => (if bt146.2 = 0 then (weathercocklaw02_RowTwo.j0 k l0 l1 t145 bt146.1 bt148.1 y153 bt156.1 bt156.2 (bt148.2 != 0)) else (weathercocklaw02_RowTwo.j0 k l0 l1 t145 bt146.1 bt148.1 y153 bt156.1 bt156.2 true)))) else (none))) else (none))))) = some r := h
  clear h
  replace H := Option.bind_eq_some_iff.mp H
  obtain ⟨t145, A30, H⟩ := H
  replace H : ((row_Encode.f l0).bind fun bt146 => ((row_Encode.f l1).bind fun bt148 => (if ([] : List (S36)).length + l0.length < 4398046511104 then ((some (([] : List (S36)) ++ l0 : List (S36))).bind fun y150 => (if y150.length + l1.length < 4398046511104 then ((some (y150 ++ l1 : List (S36))).bind fun y153 => ((row_Encode.f y153).bind fun bt156 => (if bt146.2 = 0 then (weathercocklaw02_RowTwo.j0 k l0 l1 t145 bt146.1 bt148.1 y153 bt156.1 bt156.2 (bt148.2 != 0)) else (weathercocklaw02_RowTwo.j0 k l0 l1 t145 bt146.1 bt148.1 y153 bt156.1 bt156.2 true)))) else (none))) else (none)))) = some r := H
  have A3 := Aside0.mk A30
  clear A30
  replace H := Option.bind_eq_some_iff.mp H
  obtain ⟨⟨t146, t147⟩, A40, H⟩ := H
  replace H : ((row_Encode.f l1).bind fun bt148 => (if ([] : List (S36)).length + l0.length < 4398046511104 then ((some (([] : List (S36)) ++ l0 : List (S36))).bind fun y150 => (if y150.length + l1.length < 4398046511104 then ((some (y150 ++ l1 : List (S36))).bind fun y153 => ((row_Encode.f y153).bind fun bt156 => (if t147 = 0 then (weathercocklaw02_RowTwo.j0 k l0 l1 t145 t146 bt148.1 y153 bt156.1 bt156.2 (bt148.2 != 0)) else (weathercocklaw02_RowTwo.j0 k l0 l1 t145 t146 bt148.1 y153 bt156.1 bt156.2 true)))) else (none))) else (none))) = some r := H
  have A4 := Aside0.mk A40
  clear A40
  replace H := Option.bind_eq_some_iff.mp H
  obtain ⟨⟨t148, t149⟩, A50, H⟩ := H
  replace H : (if ([] : List (S36)).length + l0.length < 4398046511104 then ((some (([] : List (S36)) ++ l0 : List (S36))).bind fun y150 => (if y150.length + l1.length < 4398046511104 then ((some (y150 ++ l1 : List (S36))).bind fun y153 => ((row_Encode.f y153).bind fun bt156 => (if t147 = 0 then (weathercocklaw02_RowTwo.j0 k l0 l1 t145 t146 t148 y153 bt156.1 bt156.2 (t149 != 0)) else (weathercocklaw02_RowTwo.j0 k l0 l1 t145 t146 t148 y153 bt156.1 bt156.2 true)))) else (none))) else (none)) = some r := H
  have A5 := Aside0.mk A50
  clear A50
  by_cases c6 : ([] : List (S36)).length + l0.length < 4398046511104
  · rw [if_pos c6] at H
    have LMc6 := Aside0.mk c6
    clear c6
    obtain ⟨y150, hy150⟩ : ∃ y_ : List (S36), y_ = (([] : List (S36)) ++ l0) := ⟨_, rfl⟩
    replace H : (if y150.length + l1.length < 4398046511104 then ((some (y150 ++ l1 : List (S36))).bind fun y153 => ((row_Encode.f y153).bind fun bt156 => (if t147 = 0 then (weathercocklaw02_RowTwo.j0 k l0 l1 t145 t146 t148 y153 bt156.1 bt156.2 (t149 != 0)) else (weathercocklaw02_RowTwo.j0 k l0 l1 t145 t146 t148 y153 bt156.1 bt156.2 true)))) else (none)) = some r := by first | (rw [hy150]; with_reducible exact H) | (have H2_ := (Option.bind_some _ _).symm.trans H; rw [hy150]; with_reducible exact H2_) | (have H2_ := (Option.bind_some _ _).symm.trans H; with_reducible exact H2_) | with_reducible exact H | (rw [hy150]; exact H) | exact H
    have Ny150 := Aside0.mk hy150
    clear hy150
    by_cases c7 : y150.length + l1.length < 4398046511104
    · rw [if_pos c7] at H
      have LMc7 := Aside0.mk c7
      clear c7
      obtain ⟨y153, hy153⟩ : ∃ y_ : List (S36), y_ = (y150 ++ l1) := ⟨_, rfl⟩
      replace H : ((row_Encode.f y153).bind fun bt156 => (if t147 = 0 then (weathercocklaw02_RowTwo.j0 k l0 l1 t145 t146 t148 y153 bt156.1 bt156.2 (t149 != 0)) else (weathercocklaw02_RowTwo.j0 k l0 l1 t145 t146 t148 y153 bt156.1 bt156.2 true))) = some r := by first | (rw [hy153]; with_reducible exact H) | (have H2_ := (Option.bind_some _ _).symm.trans H; rw [hy153]; with_reducible exact H2_) | (have H2_ := (Option.bind_some _ _).symm.trans H; with_reducible exact H2_) | with_reducible exact H | (rw [hy153]; exact H) | exact H
      have Ny153 := Aside0.mk hy153
      clear hy153
      replace H := Option.bind_eq_some_iff.mp H
      obtain ⟨⟨t156, t157⟩, A80, H⟩ := H
      replace H : (if t147 = 0 then (weathercocklaw02_RowTwo.j0 k l0 l1 t145 t146 t148 y153 t156 t157 (t149 != 0)) else (weathercocklaw02_RowTwo.j0 k l0 l1 t145 t146 t148 y153 t156 t157 true)) = some r := H
      have A8 := Aside0.mk A80
      clear A80
      have HC9 := Aside0.mk H
      clear H
      go_enter Try.func6, Try.ntmps6
      go_upto_region 6 with (first | ((with_reducible refine gate_callee (f := 10) rfl ?_); refine goesL_ (some 13) rfl rfl Try.func10 (by kernel_rfl) rfl #[] rfl (by (try simp only [List.map_toArray, List.map_cons, List.map_nil]); first | done | rfl | (simp only [List.length_drop, List.length_take]; rfl)) ?_; (with_reducible refine (weathercocklaw02_examples.calls k  t145 _ A3.out).mono ?_); rintro e w10 ⟨rfl, hb⟩; refine ⟨_, rfl, ?_⟩; have n0_ := Aside0.mk (below_step (by repeat (first | (with_reducible first | exact HB.out | apply below_alloc | apply pw_below_drewN | apply below_drew1) | exact HB.out)) hb); clear HB; have HB := n0_; clear n0_; (try clear hb); (try clear hb2); (try clear hk); (try clear hi)) | ((with_reducible refine gate_callee (f := 11) rfl ?_); refine goesL_ (some 16) rfl rfl Try.func11 (by kernel_rfl) rfl #[.slice A0 l0.length c0] rfl (by (try simp only [List.map_toArray, List.map_cons, List.map_nil]); first | done | rfl | (simp only [List.length_drop, List.length_take]; rfl)) ?_; (with_reducible refine (row_Encode.calls _ _ l0 t146 t147 _ ?side1 ?side2 A4.out).mono ?_); (case side1 => repeat (first | exact (Kd.C_below HR0.out HB.out) | (with_reducible refine Kd.C_alloc ?_ _) | (with_reducible refine Kd.C_drewN ?_ _) | (with_reducible refine Kd.C_drew ?_))); (case side2 => exact HC0.out); rintro e w11 ⟨rfl, hb⟩; refine ⟨_, rfl, ?_⟩; have n0_ := Aside0.mk (below_step (by repeat (first | (with_reducible first | exact HB.out | apply below_alloc | apply pw_below_drewN | apply below_drew1) | exact HB.out)) hb); clear HB; have HB := n0_; clear n0_; (try clear hb); (try clear hb2); (try clear hk); (try clear hi)) | ((with_reducible refine gate_callee (f := 11) rfl ?_); refine goesL_ (some 21) rfl rfl Try.func11 (by kernel_rfl) rfl #[.slice A1 l1.length c1] rfl (by (try simp only [List.map_toArray, List.map_cons, List.map_nil]); first | done | rfl | (simp only [List.length_drop, List.length_take]; rfl)) ?_; (with_reducible refine (row_Encode.calls _ _ l1 t148 t149 _ ?side1 ?side2 A5.out).mono ?_); (case side1 => repeat (first | exact (Kd.C_below HR1.out HB.out) | (with_reducible refine Kd.C_alloc ?_ _) | (with_reducible refine Kd.C_drewN ?_ _) | (with_reducible refine Kd.C_drew ?_))); (case side2 => exact HC1.out); rintro e w12 ⟨rfl, hb⟩; refine ⟨_, rfl, ?_⟩; have n0_ := Aside0.mk (below_step (by repeat (first | (with_reducible first | exact HB.out | apply below_alloc | apply pw_below_drewN | apply below_drew1) | exact HB.out)) hb); clear HB; have HB := n0_; clear n0_; (try clear hb); (try clear hb2); (try clear hk); (try clear hi)) | ((with_reducible refine gate_builtin (b := .append) (xs := #[.const (.slice none 0 0), .tmp 24]) rfl ?_); (try (refine gate_guard (by rfl) ?_; dsimp only)); at_builtin; refine Kd.R_append_rows k36 (w0 := w) w.heap.size rfl (.const (.slice none 0 0)) (.tmp 24) 22 36 (.agg #[(.int .i64 0), (.int .i64 0), (.string ⟨#[]⟩)]) 32 rfl Try.underlying22 info36 rfl (by decide) (by omega) (.slice none 0 0) ([] : List (S36)) l0 _ _ _ (fun _ => True) (fun _ => False) rfl rfl ?aO ?aR (fun _ _ h => h) (fun _ h => h.elim) ?aF ?aB ?aS ?aL ?_; (case aR => repeat (first | exact (Kd.C_below HR0.out HB.out) | (with_reducible refine Kd.C_alloc ?_ _) | (with_reducible refine Kd.C_drewN ?_ _) | (with_reducible refine Kd.C_drew ?_))); (case aB => exact (by repeat (first | (with_reducible first | exact HB.out | apply below_alloc | apply pw_below_drewN | apply below_drew1) | exact HB.out))); (case aF => exact (fun _ _ => trivial)); (case aO => exact ((Kd.R_nil _ _ _ _ (fun _ => True)))); (case aS => exact (below_size (by repeat (first | (with_reducible first | exact HB.out | apply below_alloc | apply pw_below_drewN | apply below_drew1) | exact HB.out)))); (case aL => have := LMc6.out; omega); intro v151 w13 ho hb hg hat; rw [← Ny150.out] at ho; have n0_ := Aside0.mk (hb); have n1_ := Aside0.mk (ho); clear HB; have HB := n0_; have HO152 := n1_; clear n0_ n1_; clear ho hb hg hat) | ((with_reducible refine gate_builtin (b := .append) (xs := #[.tmp 25, .tmp 26]) rfl ?_); (try (refine gate_guard (by rfl) ?_; dsimp only)); at_builtin; refine Kd.R_append_rows k36 (w0 := w) w.heap.size rfl (.tmp 25) (.tmp 26) 22 36 (.agg #[(.int .i64 0), (.int .i64 0), (.string ⟨#[]⟩)]) 32 rfl Try.underlying22 info36 rfl (by decide) (by omega) v151 y150 l1 _ _ _ (fun _ => True) (fun _ => False) rfl rfl ?aO ?aR (fun _ _ h => h) (fun _ h => h.elim) ?aF ?aB ?aS ?aL ?_; (case aR => repeat (first | exact (Kd.C_below HR1.out HB.out) | (with_reducible refine Kd.C_alloc ?_ _) | (with_reducible refine Kd.C_drewN ?_ _) | (with_reducible refine Kd.C_drew ?_))); (case aB => exact (by repeat (first | (with_reducible first | exact HB.out | apply below_alloc | apply pw_below_drewN | apply below_drew1) | exact HB.out))); (case aF => exact (fun _ _ => trivial)); (case aO => exact (by (with_reducible repeat (first | apply Kd.R_alloc | apply Kd.R_drewN | apply Kd.R_drew)); exact HO152.out)); (case aS => exact (below_size (by repeat (first | (with_reducible first | exact HB.out | apply below_alloc | apply pw_below_drewN | apply below_drew1) | exact HB.out)))); (case aL => have := LMc7.out; omega); intro v154 w14 ho hb hg hat; rw [← Ny153.out] at ho; have n0_ := Aside0.mk (hb); have n1_ := Aside0.mk (ho); clear HB; clear HO152; have HB := n0_; have HO155 := n1_; clear n0_ n1_; clear ho hb hg hat; obtain ⟨Ao15, co15, eo15⟩ := Kd.R_slice HO155.out; subst eo15) | ((with_reducible refine gate_callee (f := 11) rfl ?_); refine goesL_ (some 30) rfl rfl Try.func11 (by kernel_rfl) rfl #[.slice Ao15 y153.length co15] rfl (by (try simp only [List.map_toArray, List.map_cons, List.map_nil]); first | done | rfl | (simp only [List.length_drop, List.length_take]; rfl)) ?_; (with_reducible refine (row_Encode.calls _ _ y153 t156 t157 _ ?side1 ?side2 A8.out).mono ?_); (case side1 => repeat (first | exact (Kd.R_reads' HO155.out).2.2 | (with_reducible refine Kd.C_alloc ?_ _) | (with_reducible refine Kd.C_drewN ?_ _) | (with_reducible refine Kd.C_drew ?_))); (case side2 => exact (Kd.R_reads' HO155.out).2.1); rintro e w16 ⟨rfl, hb⟩; refine ⟨_, rfl, ?_⟩; have n0_ := Aside0.mk (Kd.R_below (by (with_reducible repeat (first | apply Kd.R_alloc | apply Kd.R_drewN | apply Kd.R_drew)); exact HO155.out) hb); have n1_ := Aside0.mk (below_step (by repeat (first | (with_reducible first | exact HB.out | apply below_alloc | apply pw_below_drewN | apply below_drew1) | exact HB.out)) hb); clear HO155; clear HB; have HO155 := n0_; have HB := n1_; clear n0_ n1_; (try clear hb); (try clear hb2); (try clear hk); (try clear hi)))
      (try simp only [Act.put, List.setIfInBounds_toArray, List.set_cons_zero, List.set_cons_succ])
      go_cut [38] (fun v38 wc => ∃ (kq : Nat) (x38_8 : Bool), v38 = .bool x38_8 ∧ Aside0 (weathercocklaw02_RowTwo.j0 kq l0 l1 t145 t146 t148 y153 t156 t157 x38_8 = some r) ∧ Aside0 (kq ≤ k) ∧ Aside0 (Kd.R k36 36 wc w.heap.size (fun _ => True) (.slice Ao15 y153.length co15) y153) ∧ Aside0 (Below w.heap.size w wc))
      case first =>
        have H := HC9.out
        clear HC9
        by_cases c17 : t147 = 0
        · rw [if_pos c17] at H
          have c17b0 : (t147 == 0) = true := beq_iff_eq.mpr c17
          have c17b1 : (t147 != 0) = false := bne_eq_false_iff_eq.mpr c17
          clear c17
          (first | rw [c17b0] | rw [c17b1] | (simp only [i64_w, i32_w]; rw [c17b0]) | skip)
          have H' := Aside0.mk H
          clear H
          go_wp2
          go_meet
          case rel => exact ⟨_, ((t149 != 0)), (by first | rfl | (simp; done) | (simp [*]; done)), H', ⟨by first | omega | exact Nat.le_refl _⟩, ⟨by (with_reducible repeat (first | apply Kd.R_alloc | apply Kd.R_drewN | apply Kd.R_drew)); exact HO155.out⟩, ⟨by repeat (first | (with_reducible first | exact HB.out | apply below_alloc | apply pw_below_drewN | apply below_drew1) | exact HB.out)⟩⟩
        · rw [if_neg c17] at H
          have c17b0 : (t147 == 0) = false := beq_eq_false_iff_ne.mpr c17
          have c17b1 : (t147 != 0) = true := bne_iff_ne.mpr c17
          (first | rw [c17b0] | rw [c17b1] | (simp only [i64_w, i32_w]; rw [c17b0]) | skip)
          have H' := Aside0.mk H
          clear H
          go_wp2
          go_meet
          case rel => exact ⟨_, (true), (by first | rfl | (simp; done) | (simp [*]; done)), H', ⟨by first | omega | exact Nat.le_refl _⟩, ⟨by (with_reducible repeat (first | apply Kd.R_alloc | apply Kd.R_drewN | apply Kd.R_drew)); exact HO155.out⟩, ⟨by repeat (first | (with_reducible first | exact HB.out | apply below_alloc | apply pw_below_drewN | apply below_drew1) | exact HB.out)⟩⟩
      case rest =>
        clear HC9
        try clear c1
        try clear p2
        try clear c6
        try clear c7
        try clear c10
        try clear c11
        try clear c17
        try clear c17b0
        try clear c17b1
        obtain ⟨kq, x38_8, rfl, HA, HJ8, HO_10, HB⟩ := hcut
        cases kq with
        | zero => exact absurd HA.out (by simp [weathercocklaw02_RowTwo.j0])
        | succ kj8 =>
          have H := HA.out
          clear HA
          simp only [weathercocklaw02_RowTwo.j0] at H
          by_cases c18 : x38_8 = true
          · subst c18
            have H1 : (if t145 = true then (some (t157 != 0)) else (some false)) = some r := by rw [if_pos rfl] at H; exact H
            clear H
            have H := H1
            clear H1
            by_cases c19 : t145 = true
            · subst c19
              have H1 : (some (t157 != 0)) = some r := by rw [if_pos rfl] at H; exact H
              clear H
              have H := H1
              clear H1
              obtain rfl := Option.some.inj H
              go_wp2
              go_ret
              exact ⟨by first | rfl | (simp [errW_none, errW_some] <;> rfl) | (simp [*, errW_none, errW_some] <;> rfl), by repeat (first | (with_reducible first | exact HB.out | apply below_alloc | apply pw_below_drewN | apply below_drew1) | exact HB.out)⟩
            · replace c19 := Bool.eq_false_iff.mpr c19
              subst c19
              have H1 : (some false) = some r := by rw [if_neg (show ¬ (false = true) by decide)] at H; exact H
              clear H
              have H := H1
              clear H1
              exact absurd (Option.some.inj H) (fun h_ => absurd (h_.trans HRT.out) (by decide))
          · replace c18 := Bool.eq_false_iff.mpr c18
            subst c18
            have H1 : (if (y153.length : Int) > 100 then (if t145 = true then (some (t157 == 5)) else (some false)) else (if t145 = true then (if t146.size + t148.size ≤ 9223372036854775807 then (if t156.toList = (t146 ++ t148).toList then (if t157 = 0 then ((row_Compare.f l0 y153).bind fun t158 => (some ((decide (t158 < 0)) == (decide ((l1.length : Int) > 0))))) else (some false)) else (some false)) else (none)) else (some false))) = some r := by rw [if_neg (show ¬ (false = true) by decide)] at H; exact H
            clear H
            have H := H1
            clear H1
            by_cases c20 : (y153.length : Int) > 100
            · rw [if_pos c20] at H
              have c20b0 : decide (100 < (y153.length : Int)) = true := decide_eq_true c20
              have c20b1 : decide (100 < y153.length) = true := decide_eq_true (by omega)
              clear c20
              by_cases c21 : t145 = true
              · subst c21
                have H1 : (some (t157 == 5)) = some r := by rw [if_pos rfl] at H; exact H
                clear H
                have H := H1
                clear H1
                obtain rfl := Option.some.inj H
                go_wp2
                go_ret
                exact ⟨by first | rfl | (simp [errW_none, errW_some] <;> rfl) | (simp [*, errW_none, errW_some] <;> rfl), by repeat (first | (with_reducible first | exact HB.out | apply below_alloc | apply pw_below_drewN | apply below_drew1) | exact HB.out)⟩
              · replace c21 := Bool.eq_false_iff.mpr c21
                subst c21
                have H1 : (some false) = some r := by rw [if_neg (show ¬ (false = true) by decide)] at H; exact H
                clear H
                have H := H1
                clear H1
                exact absurd (Option.some.inj H) (fun h_ => absurd (h_.trans HRT.out) (by decide))
            · rw [if_neg c20] at H
              have c20b0 : decide (100 < (y153.length : Int)) = false := decide_eq_false c20
              have c20b1 : decide (100 < y153.length) = false := decide_eq_false (by omega)
              clear c20
              by_cases c22 : t145 = true
              · subst c22
                have H1 : (if t146.size + t148.size ≤ 9223372036854775807 then (if t156.toList = (t146 ++ t148).toList then (if t157 = 0 then ((row_Compare.f l0 y153).bind fun t158 => (some ((decide (t158 < 0)) == (decide ((l1.length : Int) > 0))))) else (some false)) else (some false)) else (none)) = some r := by rw [if_pos rfl] at H; exact H
                clear H
                have H := H1
                clear H1
                by_cases c23 : t146.size + t148.size ≤ 9223372036854775807
                · rw [if_pos c23] at H
                  have c23b0 := eq_true c23
                  have c23b1 : decide (t146.size + t148.size ≤ 9223372036854775807) = true := decide_eq_true c23
                  try have c23b2 : (9223372036854775807 < t146.size + t148.size) = False := eq_false (Nat.not_lt.2 c23)
                  by_cases c24 : t156.toList = (t146 ++ t148).toList
                  · rw [if_pos c24] at H
                    have c24b0 : (t156.toList == (t146 ++ t148).toList) = true := beq_iff_eq.mpr c24
                    have c24b1 : (t156.toList != (t146 ++ t148).toList) = false := bne_eq_false_iff_eq.mpr c24
                    clear c24
                    by_cases c25 : t157 = 0
                    · rw [if_pos c25] at H
                      have c25b0 : (t157 == 0) = true := beq_iff_eq.mpr c25
                      have c25b1 : (t157 != 0) = false := bne_eq_false_iff_eq.mpr c25
                      clear c25
                      replace H := Option.bind_eq_some_iff.mp H
                      obtain ⟨t158, A260, H⟩ := H
                      replace H : (some ((decide (t158 < 0)) == (decide ((l1.length : Int) > 0)))) = some r := H
                      have A26 := Aside0.mk A260
                      clear A260
                      obtain rfl := Option.some.inj H
                      go_wp2_with (first | (go_at_call 18; (with_reducible refine (row_Compare.calls _ _ l0 _ _ y153 t158 _ ?side1 ?side2 ?side3 ?side4 A26.out).mono ?_); (case side1 => repeat (first | exact (Kd.C_below HR0.out HB.out) | (with_reducible refine Kd.C_alloc ?_ _) | (with_reducible refine Kd.C_drewN ?_ _) | (with_reducible refine Kd.C_drew ?_))); (case side2 => exact HC0.out); (case side3 => repeat (first | exact (Kd.R_reads' HO_10.out).2.2 | (with_reducible refine Kd.C_alloc ?_ _) | (with_reducible refine Kd.C_drewN ?_ _) | (with_reducible refine Kd.C_drew ?_))); (case side4 => exact (Kd.R_reads' HO_10.out).2.1); rintro e w27 ⟨rfl, hb⟩; have n0_ := Aside0.mk (Kd.R_below (by (with_reducible repeat (first | apply Kd.R_alloc | apply Kd.R_drewN | apply Kd.R_drew)); exact HO_10.out) hb); have n1_ := Aside0.mk (below_step (by repeat (first | (with_reducible first | exact HB.out | apply below_alloc | apply pw_below_drewN | apply below_drew1) | exact HB.out)) hb); clear HO_10; clear HB; have HO_10 := n0_; have HB := n1_; clear n0_ n1_; (try clear hb); (try clear hb2); (try clear hk); (try clear hi)))
                      go_ret
                      exact ⟨by first | rfl | (simp [errW_none, errW_some] <;> rfl) | (simp [*, errW_none, errW_some] <;> rfl), by repeat (first | (with_reducible first | exact HB.out | apply below_alloc | apply pw_below_drewN | apply below_drew1) | exact HB.out)⟩
                    · rw [if_neg c25] at H
                      have c25b0 : (t157 == 0) = false := beq_eq_false_iff_ne.mpr c25
                      have c25b1 : (t157 != 0) = true := bne_iff_ne.mpr c25
                      exact absurd (Option.some.inj H) (fun h_ => absurd (h_.trans HRT.out) (by decide))
                  · rw [if_neg c24] at H
                    have c24b0 : (t156.toList == (t146 ++ t148).toList) = false := beq_eq_false_iff_ne.mpr c24
                    have c24b1 : (t156.toList != (t146 ++ t148).toList) = true := bne_iff_ne.mpr c24
                    exact absurd (Option.some.inj H) (fun h_ => absurd (h_.trans HRT.out) (by decide))
                · rw [if_neg c23] at H
                  exact absurd H (by simp)
              · replace c22 := Bool.eq_false_iff.mpr c22
                subst c22
                have H1 : (some false) = some r := by rw [if_neg (show ¬ (false = true) by decide)] at H; exact H
                clear H
                have H := H1
                clear H1
                exact absurd (Option.some.inj H) (fun h_ => absurd (h_.trans HRT.out) (by decide))
    · rw [if_neg c7] at H
      exact absurd H (by simp)
  · rw [if_neg c6] at H
    exact absurd H (by simp)

/-- THE ONE PURE STATEMENT of weathercocklaw02_RowTwo: ours. -/
def weathercocklaw02_RowTwo.Pure : Prop := ∀ (l0 : List (S36)) (l1 : List (S36)), ((∀ y0_ ∈ l0, ((Lit.int .i64 y0_.f0).wf = true) ∧ (((Lit.int .i64 y0_.f1).wf = true) ∧ (y0_.f2.size ≤ 140737488351232))) ∧ l0.length * 32 ≤ 140737488351232 ∧ l0.length ≤ maxLen) → ((∀ y0_ ∈ l1, ((Lit.int .i64 y0_.f0).wf = true) ∧ (((Lit.int .i64 y0_.f1).wf = true) ∧ (y0_.f2.size ≤ 140737488351232))) ∧ l1.length * 32 ≤ 140737488351232 ∧ l1.length ≤ maxLen) → ∃ k, weathercocklaw02_RowTwo.f k l0 l1 = some true

end Go.Proofs.Ytplmfnjijhppaaa.QRowTwo
