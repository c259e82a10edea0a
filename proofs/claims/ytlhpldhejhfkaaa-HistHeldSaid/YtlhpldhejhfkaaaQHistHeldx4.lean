-- Written by wip/tools/myprint.py of this project (the kit's printer with lines replaced in memory, and texts of ours)
import Derived.Test.YtlhpldhejhfkaaaQHistHeldx0
import Derived.Test.YtlhpldhejhfkaaaQHistHeldx1
import Derived.Test.YtlhpldhejhfkaaaQHistHeldx3
namespace Go.Proofs.Ytlhpldhejhfkaaa.QHistHeld
open Go.RowKit Go.Proofs.YtlhpldhejhfkaaaW.PrintWords Go.Proofs.YtlhpldhejhfkaaaW.PrintLast Go.Proofs.YtlhpldhejhfkaaaW.PrintMore
attribute [local go_sem] max2_int min2_int max_two min_two max_three min_three max_four min_four   -- for this text's walks alone
set_option linter.unusedVariables false
set_option linter.unusedSimpArgs false

/-! ### weathercocklaw13_examples0: function 9 -/
def weathercocklaw13_examples0.f (k : Nat)  : Option (Bool) := (weathercocklaw13_n.f 5).bind fun bt131 => ((weathercocklaw13_n.f 9).bind fun bt134 => ((weathercocklaw13_n.f 6).bind fun bt141 => ((hist_Part.f k 12 0 0 (([(⟨(⟨bt131.1, bt131.2.1, bt131.2.2⟩ : S31), 10⟩ : S39), (⟨(⟨bt134.1, bt134.2.1, bt134.2.2⟩ : S31), 30⟩ : S39)] : List (S39))) bt141.1 bt141.2.1 bt141.2.2).bind fun bt144 => ((hist_Mul.f 1000000000 1000000000).bind fun t146 => (if t146 = 1000000000000 then ((hist_Times.f 10 1 3).bind fun t147 => (if t147 = 3 then ((hist_Clip.f (-5)).bind fun t148 => (if t148 = 0 then (if bt144.1 = 10 then (some (bt144.2 == 40)) else (some false)) else (some false))) else (some false))) else (some false))))))
theorem weathercocklaw13_examples0.mono : ∀ k, LeO (weathercocklaw13_examples0.f k ) (weathercocklaw13_examples0.f (k + 1) ) := by
  intro  k
  unfold weathercocklaw13_examples0.f
  repeat' first
      | (with_reducible exact hist_Part.mono _ _ _ _ _ _ _ _)
      | (with_reducible exact LeO.refl _)
      | (with_reducible exact LeO.none _)
      | (with_reducible refine LeO.ite ?_ ?_)
      | (with_reducible refine LeO.bind ?_ (fun _ => ?_))
      | exact hist_Part.mono _ _ _ _ _ _ _ _
      | exact LeO.none _
      | refine LeO.ite ?_ ?_
      | refine LeO.bind ?_ (fun _ => ?_)
def weathercocklaw13_examples0.T2 : Bool × List (List Nat × List Nat) := (true, [([], []), ([], []), ([0, 1, 1], [0, 1]), ([2], [2]), ([3], [3]), ([3], [3]), ([4, 2, 0, 1, 2, 3, 4], [4]), ([5, 6, 0, 1, 2, 3, 4, 5, 6], [5])])
def weathercocklaw13_examples0.B2 : List Nat := [0, 0, 3, 7, 15, 15, 31, 127]
theorem weathercocklaw13_examples0.tab2 : rtab .any (opsOf Try.f9 2) = weathercocklaw13_examples0.T2 := by kernel_rfl
theorem weathercocklaw13_examples0.bits2 : waitsOk weathercocklaw13_examples0.T2.2 weathercocklaw13_examples0.B2 = true := by kernel_rfl
set_option maxHeartbeats 8000000 in
set_option maxRecDepth 100000 in
theorem weathercocklaw13_examples0.calls (k : Nat)  (r : Bool) (w : World) (h : weathercocklaw13_examples0.f k  = some r) (hrt : r = true) :
    Calls Try.prog 9 #[] w fun e w' => e = .returned (.bool r) ∧ Below w.heap.size w w' := by
  have HRT := Aside0.mk hrt
  clear hrt
  have hu39 := Try.underlying39
  have hu29 := Try.underlying29
  have HB := Aside0.mk (Below.refl w.heap.size w)
  have H : ((weathercocklaw13_n.f 5).bind fun bt131 => ((weathercocklaw13_n.f 9).bind fun bt134 => ((weathercocklaw13_n.f 6).bind fun bt141 => ((hist_Part.f k 12 0 0 (([(⟨(⟨bt131.1, bt131.2.1, bt131.2.2⟩ : S31), 10⟩ : S39), (⟨(⟨bt134.1, bt134.2.1, bt134.2.2⟩ : S31), 30⟩ : S39)] : List (S39))) bt141.1 bt141.2.1 bt141.2.2).bind fun bt144 => ((hist_Mul.f 1000000000 1000000000).bind fun t146 => (if t146 = 1000000000000 then ((hist_Times.f 10 1 3).bind fun t147 => (if t147 = 3 then ((hist_Clip.f (-5)).bind fun t148 => (if t148 = 0 then (if bt144.1 = 10 then (some (bt144.2 == 40)) else (some false)) else (some false))) else (some false))) else (some false))))))) = some r := h
  clear h
  replace H := Option.bind_eq_some_iff.mp H
  obtain ⟨⟨t131, t132, t133⟩, A10, H⟩ := H
  replace H : ((weathercocklaw13_n.f 9).bind fun bt134 => ((weathercocklaw13_n.f 6).bind fun bt141 => ((hist_Part.f k 12 0 0 (([(⟨(⟨t131, t132, t133⟩ : S31), 10⟩ : S39), (⟨(⟨bt134.1, bt134.2.1, bt134.2.2⟩ : S31), 30⟩ : S39)] : List (S39))) bt141.1 bt141.2.1 bt141.2.2).bind fun bt144 => ((hist_Mul.f 1000000000 1000000000).bind fun t146 => (if t146 = 1000000000000 then ((hist_Times.f 10 1 3).bind fun t147 => (if t147 = 3 then ((hist_Clip.f (-5)).bind fun t148 => (if t148 = 0 then (if bt144.1 = 10 then (some (bt144.2 == 40)) else (some false)) else (some false))) else (some false))) else (some false)))))) = some r := H
  have A1 := Aside0.mk A10
  clear A10
  replace H := Option.bind_eq_some_iff.mp H
  obtain ⟨⟨t134, t135, t136⟩, A20, H⟩ := H
  replace H : ((weathercocklaw13_n.f 6).bind fun bt141 => ((hist_Part.f k 12 0 0 (([(⟨(⟨t131, t132, t133⟩ : S31), 10⟩ : S39), (⟨(⟨t134, t135, t136⟩ : S31), 30⟩ : S39)] : List (S39))) bt141.1 bt141.2.1 bt141.2.2).bind fun bt144 => ((hist_Mul.f 1000000000 1000000000).bind fun t146 => (if t146 = 1000000000000 then ((hist_Times.f 10 1 3).bind fun t147 => (if t147 = 3 then ((hist_Clip.f (-5)).bind fun t148 => (if t148 = 0 then (if bt144.1 = 10 then (some (bt144.2 == 40)) else (some false)) else (some false))) else (some false))) else (some false))))) = some r := H
  have A2 := Aside0.mk A20
  clear A20
  obtain ⟨y137, hy137⟩ : ∃ y_ : List (S39), y_ = (([(⟨(⟨t131, t132, t133⟩ : S31), 10⟩ : S39), (⟨(⟨t134, t135, t136⟩ : S31), 30⟩ : S39)] : List (S39))) := ⟨_, rfl⟩
  replace H : ((weathercocklaw13_n.f 6).bind fun bt141 => ((hist_Part.f k 12 0 0 y137 bt141.1 bt141.2.1 bt141.2.2).bind fun bt144 => ((hist_Mul.f 1000000000 1000000000).bind fun t146 => (if t146 = 1000000000000 then ((hist_Times.f 10 1 3).bind fun t147 => (if t147 = 3 then ((hist_Clip.f (-5)).bind fun t148 => (if t148 = 0 then (if bt144.1 = 10 then (some (bt144.2 == 40)) else (some false)) else (some false))) else (some false))) else (some false))))) = some r := by first | (rw [hy137]; with_reducible exact H) | (have H2_ := (Option.bind_some _ _).symm.trans H; rw [hy137]; with_reducible exact H2_) | (have H2_ := (Option.bind_some _ _).symm.trans H; with_reducible exact H2_) | with_reducible exact H | (rw [hy137]; exact H) | exact H
  have Ny137 := Aside0.mk hy137
  clear hy137
  replace H := Option.bind_eq_some_iff.mp H
  obtain ⟨⟨t141, t142, t143⟩, A30, H⟩ := H
  replace H : ((hist_Part.f k 12 0 0 y137 t141 t142 t143).bind fun bt144 => ((hist_Mul.f 1000000000 1000000000).bind fun t146 => (if t146 = 1000000000000 then ((hist_Times.f 10 1 3).bind fun t147 => (if t147 = 3 then ((hist_Clip.f (-5)).bind fun t148 => (if t148 = 0 then (if bt144.1 = 10 then (some (bt144.2 == 40)) else (some false)) else (some false))) else (some false))) else (some false)))) = some r := H
  have A3 := Aside0.mk A30
  clear A30
  replace H := Option.bind_eq_some_iff.mp H
  obtain ⟨⟨t144, t145⟩, A40, H⟩ := H
  replace H : ((hist_Mul.f 1000000000 1000000000).bind fun t146 => (if t146 = 1000000000000 then ((hist_Times.f 10 1 3).bind fun t147 => (if t147 = 3 then ((hist_Clip.f (-5)).bind fun t148 => (if t148 = 0 then (if t144 = 10 then (some (t145 == 40)) else (some false)) else (some false))) else (some false))) else (some false))) = some r := H
  have A4 := Aside0.mk A40
  clear A40
  replace H := Option.bind_eq_some_iff.mp H
  obtain ⟨t146, A50, H⟩ := H
  replace H : (if t146 = 1000000000000 then ((hist_Times.f 10 1 3).bind fun t147 => (if t147 = 3 then ((hist_Clip.f (-5)).bind fun t148 => (if t148 = 0 then (if t144 = 10 then (some (t145 == 40)) else (some false)) else (some false))) else (some false))) else (some false)) = some r := H
  have A5 := Aside0.mk A50
  clear A50
  by_cases c6 : t146 = 1000000000000
  · rw [if_pos c6] at H
    have c6b0 : (t146 == 1000000000000) = true := beq_iff_eq.mpr c6
    have c6b1 : (t146 != 1000000000000) = false := bne_eq_false_iff_eq.mpr c6
    clear c6
    replace H := Option.bind_eq_some_iff.mp H
    obtain ⟨t147, A70, H⟩ := H
    replace H : (if t147 = 3 then ((hist_Clip.f (-5)).bind fun t148 => (if t148 = 0 then (if t144 = 10 then (some (t145 == 40)) else (some false)) else (some false))) else (some false)) = some r := H
    have A7 := Aside0.mk A70
    clear A70
    by_cases c8 : t147 = 3
    · rw [if_pos c8] at H
      have c8b0 : (t147 == 3) = true := beq_iff_eq.mpr c8
      have c8b1 : (t147 != 3) = false := bne_eq_false_iff_eq.mpr c8
      clear c8
      replace H := Option.bind_eq_some_iff.mp H
      obtain ⟨t148, A90, H⟩ := H
      replace H : (if t148 = 0 then (if t144 = 10 then (some (t145 == 40)) else (some false)) else (some false)) = some r := H
      have A9 := Aside0.mk A90
      clear A90
      by_cases c10 : t148 = 0
      · rw [if_pos c10] at H
        have c10b0 : (t148 == 0) = true := beq_iff_eq.mpr c10
        have c10b1 : (t148 != 0) = false := bne_eq_false_iff_eq.mpr c10
        clear c10
        by_cases c11 : t144 = 10
        · rw [if_pos c11] at H
          have c11b0 : (t144 == 10) = true := beq_iff_eq.mpr c11
          have c11b1 : (t144 != 10) = false := bne_eq_false_iff_eq.mpr c11
          clear c11
          obtain rfl := Option.some.inj H
          go_enter Try.func9, Try.ntmps9
          try go_wp2_with (first | ((with_reducible refine gate_callee (f := 25) rfl ?_); refine goesL_ (some 4) rfl rfl Try.func25 (by kernel_rfl) rfl #[.int .i64 5] rfl (by (try simp only [List.map_toArray, List.map_cons, List.map_nil]); first | done | rfl | (simp only [List.length_drop, List.length_take]; rfl)) ?_; (with_reducible refine (weathercocklaw13_n.calls 5 t131 t132 t133 _ A1.out).mono ?_); rintro e w12 ⟨rfl, hb⟩; refine ⟨_, rfl, ?_⟩; have n0_ := Aside0.mk (below_step (by repeat (first | (with_reducible first | exact HB.out | apply below_alloc | apply pw_below_drewN | apply below_drew1) | exact HB.out)) hb); clear HB; have HB := n0_; clear n0_; (try clear hb); (try clear hb2); (try clear hk); (try clear hi)) | ((with_reducible refine gate_callee (f := 25) rfl ?_); refine goesL_ (some 6) rfl rfl Try.func25 (by kernel_rfl) rfl #[.int .i64 9] rfl (by (try simp only [List.map_toArray, List.map_cons, List.map_nil]); first | done | rfl | (simp only [List.length_drop, List.length_take]; rfl)) ?_; (with_reducible refine (weathercocklaw13_n.calls 9 t134 t135 t136 _ A2.out).mono ?_); rintro e w13 ⟨rfl, hb⟩; refine ⟨_, rfl, ?_⟩; have n0_ := Aside0.mk (below_step (by repeat (first | (with_reducible first | exact HB.out | apply below_alloc | apply pw_below_drewN | apply below_drew1) | exact HB.out)) hb); clear HB; have HB := n0_; clear n0_; (try clear hb); (try clear hb2); (try clear hk); (try clear hi)) | ((with_reducible refine gate_dst (N := 8) rfl ?_); refine Kd.R_lit k39 _ 39 ?hg (N := 8) ?hd (xs := ([(⟨(⟨t131, t132, t133⟩ : S31), 10⟩ : S39), (⟨(⟨t134, t135, t136⟩ : S31), 30⟩ : S39)] : List (S39))) (inner := [.int .i64 t131, .int .i64 t132, .string t133, .int .i64 10, .int .i64 t134, .int .i64 t135, .string t136, .int .i64 30]) (ok := fun _ => True) (okp := fun _ => True) ?hr ?hp (fun _ hk => hk) trivial (Below.refl _ _) (Nat.le_refl _) (by simp) ?_; (case hd => rfl); (case hg => rfl); (case hr => first | (go_simp; done) | (go_simp; rfl)); (case hp => exact (Reps.c4 (show Kd.M k39 _ _ _ (⟨(⟨t131, t132, t133⟩ : S31), 10⟩ : S39) [.int .i64 t131, .int .i64 t132, .string t133, .int .i64 10] from (k39_mkM _ _ _ (⟨(⟨t131, t132, t133⟩ : S31), 10⟩ : S39) )) (Reps.c4 (show Kd.M k39 _ _ _ (⟨(⟨t134, t135, t136⟩ : S31), 30⟩ : S39) [.int .i64 t134, .int .i64 t135, .string t136, .int .i64 30] from (k39_mkM _ _ _ (⟨(⟨t134, t135, t136⟩ : S31), 30⟩ : S39) )) (Reps.none _ _)))); intro v138 w14 ho15 hb hg_ hnew_; clear hg_ hnew_; (first | rw [← Ny137.out] at ho15 | (simp only [Int.reduceToNat] at ho15; rw [← Ny137.out] at ho15)); have n0_ := Aside0.mk (Kd.R_lower ho15 (below_size (by repeat (first | (with_reducible first | exact HB.out | apply below_alloc | apply pw_below_drewN | apply below_drew1) | exact HB.out)))); have n1_ := Aside0.mk (below_step (by repeat (first | (with_reducible first | exact HB.out | apply below_alloc | apply pw_below_drewN | apply below_drew1) | exact HB.out)) hb); clear HB; have HO139 := n0_; have HB := n1_; clear n0_ n1_; clear hb ho15; obtain ⟨Ao16, co16, eo16⟩ := Kd.R_slice HO139.out; subst eo16) | ((with_reducible refine gate_dst (N := 1) rfl ?_); refine box_event ?hg (N := 1) ?hd (cs := #[.int .i64 0, .int .i64 0, .slice none 0 0]) (t := 29) ?hr ?_; (case hd => rfl); (case hg => rfl); (case hr => first | (go_simp; done) | (go_simp; rfl)); intro gb140 hg w17 hbox hb; have n0_ := Aside0.mk (Kd.R_below (by (with_reducible repeat (first | apply Kd.R_alloc | apply Kd.R_drewN | apply Kd.R_drew)); exact HO139.out) hb); have n1_ := Aside0.mk (below_step (by repeat (first | (with_reducible first | exact HB.out | apply below_alloc | apply pw_below_drewN | apply below_drew1) | exact HB.out)) hb); have n2_ := Aside0.mk (hbox); have n3_ := Aside0.mk ((by rw [hg]; exact (below_size (by repeat (first | (with_reducible first | exact HB.out | apply below_alloc | apply pw_below_drewN | apply below_drew1) | exact HB.out))) : w.heap.size ≤ gb140)); have n4_ := Aside0.mk ((by rw [hg]; exact (below_size (by repeat (first | (with_reducible first | exact HB.out | apply below_alloc | apply pw_below_drewN | apply below_drew1) | exact HB.out))) : w.heap.size ≤ gb140)); clear HO139; clear HB; have HO139 := n0_; have HB := n1_; have BK140 := n2_; have GW140 := n3_; have GE140 := n4_; clear n0_ n1_ n2_ n3_ n4_; clear hb hbox hg; have hcz18_0 : w17.cell? ⟨gb140, 0, none⟩ = some (.int .i64 0) := (blk_cell BK140.out 0).trans rfl; have hcz18_1 : w17.cell? ⟨gb140, 1, none⟩ = some (.int .i64 0) := (blk_cell BK140.out 1).trans rfl; have hcz18_2 : w17.cell? ⟨gb140, 2, none⟩ = some (.slice none 0 0) := (blk_cell BK140.out 2).trans rfl; have hfz18_0 := blk_frozen BK140.out 0; have hfz18_1 := blk_frozen BK140.out 1; have hfz18_2 := blk_frozen BK140.out 2))
          have n0_ : Aside0 (Kd.R k39 39 (((w17.setCell ⟨gb140, 0, none⟩ (.int .i64 0)).setCell ⟨gb140, 1, none⟩ (.int .i64 0)).setCell ⟨gb140, 2, none⟩ (.slice Ao16 y137.length co16)) w.heap.size (fun _ => True) (.slice Ao16 y137.length co16) y137) := ⟨by (with_reducible repeat (first | apply Kd.R_alloc | apply Kd.R_drewN | apply Kd.R_drew)); exact Kd.R_mono (Kd.R_far (p := ⟨gb140, 2, none⟩) (Kd.R_far (p := ⟨gb140, 1, none⟩) (Kd.R_far (p := ⟨gb140, 0, none⟩) (Kd.R_types HO139.out BK140.out (by decide)) (fun _ hk => hk.2) (.int .i64 0)) (fun _ hk => hk.2) (.int .i64 0)) (fun _ hk => hk.2) (.slice Ao16 y137.length co16)) (fun _ hk => trivial)⟩
          have n1_ : Aside0 ((((w17.setCell ⟨gb140, 0, none⟩ (.int .i64 0)).setCell ⟨gb140, 1, none⟩ (.int .i64 0)).setCell ⟨gb140, 2, none⟩ (.slice Ao16 y137.length co16)).heap[gb140]? = some (.cells #[.int .i64 0, .int .i64 0, .slice Ao16 y137.length co16] 29 (0, 0))) := ⟨by (with_reducible repeat (first | refine blk_drewN ?_ _ | refine blk_drew ?_ | refine blk_alloc ?_ _)); refine blk_put (cs := #[.int .i64 0, .int .i64 0, .slice none 0 0]) ?_ 2 _ rfl; (with_reducible repeat (first | refine blk_drewN ?_ _ | refine blk_drew ?_ | refine blk_alloc ?_ _)); refine blk_put (cs := #[.int .i64 0, .int .i64 0, .slice none 0 0]) ?_ 1 _ rfl; (with_reducible repeat (first | refine blk_drewN ?_ _ | refine blk_drew ?_ | refine blk_alloc ?_ _)); refine blk_put (cs := #[.int .i64 0, .int .i64 0, .slice none 0 0]) ?_ 0 _ rfl; (with_reducible repeat (first | refine blk_drewN ?_ _ | refine blk_drew ?_ | refine blk_alloc ?_ _)); exact BK140.out⟩
          have n2_ : Aside0 (Below w.heap.size w (((w17.setCell ⟨gb140, 0, none⟩ (.int .i64 0)).setCell ⟨gb140, 1, none⟩ (.int .i64 0)).setCell ⟨gb140, 2, none⟩ (.slice Ao16 y137.length co16))) := ⟨by repeat (first | (with_reducible first | exact HB.out | apply below_alloc | apply pw_below_drewN | apply below_drew1 | refine below_set ?_ GE140.out) | exact HB.out)⟩
          (try clear HO139)
          (try clear BK140)
          (try clear HB)
          generalize (((w17.setCell ⟨gb140, 0, none⟩ (.int .i64 0)).setCell ⟨gb140, 1, none⟩ (.int .i64 0)).setCell ⟨gb140, 2, none⟩ (.slice Ao16 y137.length co16)) = w19 at n0_ n1_ n2_ ⊢
          have HO139 := n0_
          have BK140 := n1_
          have HB := n2_
          clear n0_ n1_ n2_
          have n0_ := Aside0.mk (Kd.R_drew HO139.out)
          have n1_ := Aside0.mk (blk_drew BK140.out)
          have n2_ := Aside0.mk (below_drew1 HB.out)
          clear HO139
          clear BK140
          clear HB
          have HO139 := n0_
          have BK140 := n1_
          have HB := n2_
          clear n0_ n1_ n2_
          refine start_ (n := 8) (S := fun w' => w'.cell? ⟨gb140, 0, none⟩ = some (.int .i64 0) ∧ w'.cell? ⟨gb140, 1, none⟩ = some (.int .i64 0) ∧ w'.cell? ⟨gb140, 2, none⟩ = some (.slice Ao16 y137.length co16)) (ds := []) #[false, false, false, false, false, false, false, false] (by kernel_rfl) rfl rfl ⟨(blk_cell BK140.out 0).trans rfl, (blk_cell BK140.out 1).trans rfl, (blk_cell BK140.out 2).trans rfl⟩ (fun hHeld => ?_); refine with_tabW weathercocklaw13_examples0.tab2 weathercocklaw13_examples0.bits2 (fun HT_ HW_ => ?_)
          generalize w19.drew = w20 at HO139 BK140 HB hHeld ⊢
          refine take_ (i := 0) (N := some 11) (v := ?_) (a' := ?_) #[true, false, false, false, false, false, false, false] rfl rfl (take_ofW HT_.out HW_.out (by kernel_rfl)) (fun _ _ _ h => h) (Or.inl ⟨by rfl, ?_⟩) hHeld ?_ ?_
          rotate_left
          · rintro w' ⟨s0, s1, s2⟩
            go_simp
            with_reducible rfl
          rotate_left
          · simp only [Act.put, List.setIfInBounds_toArray, List.set_cons_zero, List.set_cons_succ, i64_w, i32_w]
            rfl
          refine one_ (i := 1) (N := some 12) #[true, true, false, false, false, false, false, false] rfl rfl (one_of HT_.out (by kernel_rfl)) (by decide) (fun K hK => ?_)
          refine goes_ Try.func25 (by kernel_rfl) rfl #[.int .i64 6] (by rfl) rfl rfl (by (try simp only [List.map_toArray, List.map_cons, List.map_nil]); first | done | rfl | (simp only [List.length_drop, List.length_take]; rfl)) ?_
          with_reducible refine (weathercocklaw13_n.calls 6 t141 t142 t143 _ A3.out).mono ?_
          rintro e w21 ⟨rfl, hb⟩
          refine ⟨_, rfl, ?_⟩
          have n0_ := Aside0.mk (Kd.R_below (by (with_reducible repeat (first | apply Kd.R_alloc | apply Kd.R_drewN | apply Kd.R_drew)); exact HO139.out) hb)
          have n1_ := Aside0.mk (blk_below (g := gb140) (o := .cells #[.int .i64 0, .int .i64 0, .slice Ao16 y137.length co16] 29 (0, 0)) (by (with_reducible repeat (first | refine blk_drewN ?_ _ | refine blk_drew ?_ | refine blk_alloc ?_ _)); exact BK140.out) hb)
          have n2_ := Aside0.mk (below_step (by repeat (first | (with_reducible first | exact HB.out | apply below_alloc | apply pw_below_drewN | apply below_drew1 | refine below_set ?_ GE140.out) | exact HB.out)) hb)
          clear HO139
          clear BK140
          clear HB
          have HO139 := n0_
          have BK140 := n1_
          have HB := n2_
          clear n0_ n1_ n2_
          (try clear hb)
          (try clear hb2)
          (try clear hk)
          (try clear hi)
          refine hK.out _ _ ⟨(blk_cell BK140.out 0).trans rfl, (blk_cell BK140.out 1).trans rfl, (blk_cell BK140.out 2).trans rfl⟩ (fun hHeld => ?_)
          clear hK K
          refine norm_ (a' := ?_) ?_ ?_
          rotate_left
          · show Act.put _ (some 12) _ = _
            simp only [Act.put, List.setIfInBounds_toArray, List.set_cons_zero, List.set_cons_succ, i64_w, i32_w]
            rfl
          refine one_ (i := 2) (N := some 13) #[true, true, true, false, false, false, false, false] rfl rfl (one_of HT_.out (by kernel_rfl)) (by decide) (fun K hK => ?_)
          refine goes_ Try.func18 (by kernel_rfl) rfl #[.int .i64 12, .agg #[.int .i64 0, .int .i64 0, .slice Ao16 y137.length co16], .agg #[.int .i64 t141, .int .i64 t142, .string t143]] (by rfl) rfl rfl (by (try simp only [List.map_toArray, List.map_cons, List.map_nil]); first | done | rfl | (simp only [List.length_drop, List.length_take]; rfl)) ?_
          with_reducible refine (hist_Part.calls k 12 0 0 _ _ y137 t141 t142 t143 t144 t145 _ ?side1 ?side2 A4.out).mono ?_
          (case side1 => repeat (first | exact (Kd.R_reads' HO139.out).2.2 | (with_reducible refine Kd.C_alloc ?_ _) | (with_reducible refine Kd.C_drewN ?_ _) | (with_reducible refine Kd.C_drew ?_)))
          (case side2 => exact (Kd.R_reads' HO139.out).2.1)
          rintro e w22 ⟨rfl, hb⟩
          refine ⟨_, rfl, ?_⟩
          have n0_ := Aside0.mk (Kd.R_below (by (with_reducible repeat (first | apply Kd.R_alloc | apply Kd.R_drewN | apply Kd.R_drew)); exact HO139.out) hb)
          have n1_ := Aside0.mk (blk_below (g := gb140) (o := .cells #[.int .i64 0, .int .i64 0, .slice Ao16 y137.length co16] 29 (0, 0)) (by (with_reducible repeat (first | refine blk_drewN ?_ _ | refine blk_drew ?_ | refine blk_alloc ?_ _)); exact BK140.out) hb)
          have n2_ := Aside0.mk (below_step (by repeat (first | (with_reducible first | exact HB.out | apply below_alloc | apply pw_below_drewN | apply below_drew1 | refine below_set ?_ GE140.out) | exact HB.out)) hb)
          clear HO139
          clear BK140
          clear HB
          have HO139 := n0_
          have BK140 := n1_
          have HB := n2_
          clear n0_ n1_ n2_
          (try clear hb)
          (try clear hb2)
          (try clear hk)
          (try clear hi)
          refine hK.out _ _ ⟨(blk_cell BK140.out 0).trans rfl, (blk_cell BK140.out 1).trans rfl, (blk_cell BK140.out 2).trans rfl⟩ (fun hHeld => ?_)
          clear hK K
          refine norm_ (a' := ?_) ?_ ?_
          rotate_left
          · show Act.put _ (some 13) _ = _
            simp only [Act.put, List.setIfInBounds_toArray, List.set_cons_zero, List.set_cons_succ, i64_w, i32_w]
            rfl
          refine pure_ (i := 3) (N := some 10) (v := ?_) (a' := ?_) #[true, true, true, true, false, false, false, false] rfl rfl (any_of HT_.out (by kernel_rfl)) (fun _ _ _ h => h) (Or.inl ⟨by rfl, ?_⟩) ?_ ?_
          rotate_left
          · intro w'
            go_simp
            with_reducible rfl
          rotate_left
          · simp only [Act.put, List.setIfInBounds_toArray, List.set_cons_zero, List.set_cons_succ, i64_w, i32_w]
            rfl
          refine pure_ (i := 4) (N := some 14) (v := ?_) (a' := ?_) #[true, true, true, true, true, false, false, false] rfl rfl (any_of HT_.out (by kernel_rfl)) (fun _ _ _ h => h) (Or.inl ⟨by rfl, ?_⟩) ?_ ?_
          rotate_left
          · intro w'
            go_simp
            with_reducible rfl
          rotate_left
          · simp only [Act.put, List.setIfInBounds_toArray, List.set_cons_zero, List.set_cons_succ, i64_w, i32_w]
            rfl
          refine pure_ (i := 5) (N := some 15) (v := ?_) (a' := ?_) #[true, true, true, true, true, true, false, false] rfl rfl (any_of HT_.out (by kernel_rfl)) (fun _ _ _ h => h) (Or.inl ⟨by rfl, ?_⟩) ?_ ?_
          rotate_left
          · intro w'
            go_simp
            with_reducible rfl
          rotate_left
          · simp only [Act.put, List.setIfInBounds_toArray, List.set_cons_zero, List.set_cons_succ, i64_w, i32_w]
            rfl
          refine pure_ (i := 6) (N := some 2) (v := ?_) (a' := ?_) #[true, true, true, true, true, true, true, false] rfl rfl (any_of HT_.out (by kernel_rfl)) (fun _ _ _ h => h) (Or.inl ⟨by rfl, ?_⟩) ?_ ?_
          rotate_left
          · intro w'
            go_simp
            with_reducible rfl
          rotate_left
          · simp only [Act.put, List.setIfInBounds_toArray, List.set_cons_zero, List.set_cons_succ, i64_w, i32_w]
            rfl
          refine pure_ (i := 7) (N := some 3) (v := ?_) (a' := ?_) #[true, true, true, true, true, true, true, true] rfl rfl (any_of HT_.out (by kernel_rfl)) (fun _ _ _ h => h) (Or.inl ⟨by rfl, ?_⟩) ?_ ?_
          rotate_left
          · intro w'
            go_simp
            with_reducible rfl
          rotate_left
          · simp only [Act.put, List.setIfInBounds_toArray, List.set_cons_zero, List.set_cons_succ, i64_w, i32_w]
            rfl
          refine done_ (done_of HT_.out (by kernel_rfl)) ?_
          try go_wp2_with (first | ((with_reducible refine gate_callee (f := 14) rfl ?_); refine goesL_ (some 16) rfl rfl Try.func14 (by kernel_rfl) rfl #[.int .i64 1000000000, .int .i64 1000000000] rfl (by (try simp only [List.map_toArray, List.map_cons, List.map_nil]); first | done | rfl | (simp only [List.length_drop, List.length_take]; rfl)) ?_; (with_reducible refine (hist_Mul.calls 1000000000 1000000000 t146 _ A5.out).mono ?_); rintro e w23 ⟨rfl, hb⟩; refine ⟨_, rfl, ?_⟩; have n0_ := Aside0.mk (Kd.R_below (by (with_reducible repeat (first | apply Kd.R_alloc | apply Kd.R_drewN | apply Kd.R_drew)); exact HO139.out) hb); have n1_ := Aside0.mk (blk_below (g := gb140) (o := .cells #[.int .i64 0, .int .i64 0, .slice Ao16 y137.length co16] 29 (0, 0)) (by (with_reducible repeat (first | refine blk_drewN ?_ _ | refine blk_drew ?_ | refine blk_alloc ?_ _)); exact BK140.out) hb); have n2_ := Aside0.mk (below_step (by repeat (first | (with_reducible first | exact HB.out | apply below_alloc | apply pw_below_drewN | apply below_drew1 | refine below_set ?_ GE140.out) | exact HB.out)) hb); clear HO139; clear BK140; clear HB; have HO139 := n0_; have BK140 := n1_; have HB := n2_; clear n0_ n1_ n2_; (try clear hb); (try clear hb2); (try clear hk); (try clear hi)) | (go_at_call 16; (with_reducible refine (hist_Times.calls 10 1 3 t147 _ A7.out).mono ?_); rintro e w24 ⟨rfl, hb⟩; have n0_ := Aside0.mk (Kd.R_below (by (with_reducible repeat (first | apply Kd.R_alloc | apply Kd.R_drewN | apply Kd.R_drew)); exact HO139.out) hb); have n1_ := Aside0.mk (blk_below (g := gb140) (o := .cells #[.int .i64 0, .int .i64 0, .slice Ao16 y137.length co16] 29 (0, 0)) (by (with_reducible repeat (first | refine blk_drewN ?_ _ | refine blk_drew ?_ | refine blk_alloc ?_ _)); exact BK140.out) hb); have n2_ := Aside0.mk (below_step (by repeat (first | (with_reducible first | exact HB.out | apply below_alloc | apply pw_below_drewN | apply below_drew1 | refine below_set ?_ GE140.out) | exact HB.out)) hb); clear HO139; clear BK140; clear HB; have HO139 := n0_; have BK140 := n1_; have HB := n2_; clear n0_ n1_ n2_; (try clear hb); (try clear hb2); (try clear hk); (try clear hi)) | (go_at_call 10; (with_reducible refine (hist_Clip.calls (-5) t148 _ A9.out).mono ?_); rintro e w25 ⟨rfl, hb⟩; have n0_ := Aside0.mk (Kd.R_below (by (with_reducible repeat (first | apply Kd.R_alloc | apply Kd.R_drewN | apply Kd.R_drew)); exact HO139.out) hb); have n1_ := Aside0.mk (blk_below (g := gb140) (o := .cells #[.int .i64 0, .int .i64 0, .slice Ao16 y137.length co16] 29 (0, 0)) (by (with_reducible repeat (first | refine blk_drewN ?_ _ | refine blk_drew ?_ | refine blk_alloc ?_ _)); exact BK140.out) hb); have n2_ := Aside0.mk (below_step (by repeat (first | (with_reducible first | exact HB.out | apply below_alloc | apply pw_below_drewN | apply below_drew1 | refine below_set ?_ GE140.out) | exact HB.out)) hb); clear HO139; clear BK140; clear HB; have HO139 := n0_; have BK140 := n1_; have HB := n2_; clear n0_ n1_ n2_; (try clear hb); (try clear hb2); (try clear hk); (try clear hi)))
          go_ret
          exact ⟨by first | rfl | (simp [errW_none, errW_some] <;> rfl) | (simp [*, errW_none, errW_some] <;> rfl), by repeat (first | (with_reducible first | exact HB.out | apply below_alloc | apply pw_below_drewN | apply below_drew1 | refine below_set ?_ GE140.out) | exact HB.out)⟩
        · rw [if_neg c11] at H
          have c11b0 : (t144 == 10) = false := beq_eq_false_iff_ne.mpr c11
          have c11b1 : (t144 != 10) = true := bne_iff_ne.mpr c11
          exact absurd (Option.some.inj H) (fun h_ => absurd (h_.trans HRT.out) (by decide))
      · rw [if_neg c10] at H
        have c10b0 : (t148 == 0) = false := beq_eq_false_iff_ne.mpr c10
        have c10b1 : (t148 != 0) = true := bne_iff_ne.mpr c10
        exact absurd (Option.some.inj H) (fun h_ => absurd (h_.trans HRT.out) (by decide))
    · rw [if_neg c8] at H
      have c8b0 : (t147 == 3) = false := beq_eq_false_iff_ne.mpr c8
      have c8b1 : (t147 != 3) = true := bne_iff_ne.mpr c8
      exact absurd (Option.some.inj H) (fun h_ => absurd (h_.trans HRT.out) (by decide))
  · rw [if_neg c6] at H
    have c6b0 : (t146 == 1000000000000) = false := beq_eq_false_iff_ne.mpr c6
    have c6b1 : (t146 != 1000000000000) = true := bne_iff_ne.mpr c6
    exact absurd (Option.some.inj H) (fun h_ => absurd (h_.trans HRT.out) (by decide))
def weathercocklaw13_examples.f (k : Nat) : Option (Bool) := if weathercocklaw13_examples0.f k = some true then some true else none
theorem weathercocklaw13_examples.mono : ∀ k, LeO (weathercocklaw13_examples.f k) (weathercocklaw13_examples.f (k + 1)) := by
  intro k r h
  unfold weathercocklaw13_examples.f at h ⊢
  by_cases c : weathercocklaw13_examples0.f k = some true
  · rw [if_pos c] at h; rw [if_pos (weathercocklaw13_examples0.mono k true c)]; exact h
  · rw [if_neg c] at h; cases h
theorem weathercocklaw13_examples.calls (k : Nat) (r : Bool) (w : World) (h : weathercocklaw13_examples.f k = some r) :
    Calls Try.prog 9 #[] w fun e w' => e = .returned (.bool r) ∧ Below w.heap.size w w' := by
  unfold weathercocklaw13_examples.f at h
  by_cases c : weathercocklaw13_examples0.f k = some true
  · rw [if_pos c] at h
    obtain rfl := Option.some.inj h
    exact weathercocklaw13_examples0.calls k true w c rfl
  · rw [if_neg c] at h; cases h

/-! ### weathercocklaw13_HistHeld: function 5 -/
mutual
def weathercocklaw13_HistHeld.l0 : Nat → Int → Int → Int → Bool → List Int → Int → Option (Bool)
  | 0, _, _, _, _, _, _ => none
  | k + 1, x0, x1, x2, x7, x8, x9 => if x9 < 4 then (if 0 ≤ x9 then (if x9 < (x8.length : Int) then (if (rd x8 x9) < 0 then (some false) else (if (rd x8 x9) > 1000000000000 then (some false) else (weathercocklaw13_HistHeld.l0 k x0 x1 x2 x7 x8 (wrap64 (x9 + 1))))) else (none)) else (none)) else (if x0 < x1 then ((hist_Clip.f x0).bind fun t159 => ((hist_Clip.f x1).bind fun t160 => (if t159 > t160 then (weathercocklaw13_HistHeld.j1 k x0 x1 x2 x7 true) else ((hist_Add.f x0 x2).bind fun t161 => ((hist_Add.f x1 x2).bind fun t162 => (if t161 > t162 then (weathercocklaw13_HistHeld.j1 k x0 x1 x2 x7 true) else ((hist_Mul.f x0 x2).bind fun t163 => ((hist_Mul.f x1 x2).bind fun t164 => (if t163 > t164 then (weathercocklaw13_HistHeld.j1 k x0 x1 x2 x7 true) else ((hist_Times.f x0 x2 7).bind fun t165 => ((hist_Times.f x1 x2 7).bind fun t166 => (weathercocklaw13_HistHeld.j1 k x0 x1 x2 x7 (decide (t165 > t166)))))))))))))) else (weathercocklaw13_HistHeld.j1 k x0 x1 x2 x7 false))
def weathercocklaw13_HistHeld.j1 : Nat → Int → Int → Int → Bool → Bool → Option (Bool)
  | 0, _, _, _, _, _ => none
  | k + 1, x0, x1, x2, x7, x76 => if x76 = true then (some false) else (if x7 = true then ((hist_Add.f x0 x1).bind fun t167 => ((hist_Add.f x1 x0).bind fun t168 => (if t167 = t168 then ((hist_Mul.f x0 x1).bind fun t169 => ((hist_Mul.f x1 x0).bind fun t170 => (if t169 = t170 then ((hist_Times.f x0 1 1).bind fun t171 => ((hist_Clip.f x0).bind fun t172 => (if t171 = t172 then ((hist_Add.f x0 x1).bind fun t173 => ((hist_Add.f t173 x2).bind fun t174 => ((hist_Add.f x1 x2).bind fun t175 => ((hist_Add.f x0 t175).bind fun t176 => (some (t174 == t176)))))) else (some false)))) else (some false)))) else (some false)))) else (some false))
end
def weathercocklaw13_HistHeld.f (k : Nat) (a0 : Int) (a1 : Int) (a2 : Int) : Option (Bool) := (weathercocklaw13_examples.f k).bind fun t149 => ((hist_Clip.f a0).bind fun t150 => ((hist_Add.f a0 a1).bind fun t151 => ((hist_Mul.f a0 a1).bind fun t152 => ((hist_Times.f a0 a1 a2).bind fun t153 => (weathercocklaw13_HistHeld.l0 k a0 a1 a2 t149 (([t150, t151, t152, t153] : List Int)) 0)))))
theorem weathercocklaw13_HistHeld.mono_l : ∀ k, (∀ y0 y1 y2 y3 y4 y5, LeO (weathercocklaw13_HistHeld.l0 k y0 y1 y2 y3 y4 y5) (weathercocklaw13_HistHeld.l0 (k + 1) y0 y1 y2 y3 y4 y5)) ∧ (∀ y0 y1 y2 y3 y4, LeO (weathercocklaw13_HistHeld.j1 k y0 y1 y2 y3 y4) (weathercocklaw13_HistHeld.j1 (k + 1) y0 y1 y2 y3 y4))
  | 0 => ⟨fun _ _ _ _ _ _ r h => by simp [weathercocklaw13_HistHeld.l0] at h, fun _ _ _ _ _ r h => by simp [weathercocklaw13_HistHeld.j1] at h⟩
  | k + 1 => by
    obtain ⟨ih0, ih1⟩ := weathercocklaw13_HistHeld.mono_l k
    refine ⟨?_, ?_⟩
    · intro y0 y1 y2 y3 y4 y5
      unfold weathercocklaw13_HistHeld.l0
      repeat' first
      | (with_reducible exact ih0 _ _ _ _ _ _)
      | (with_reducible exact ih1 _ _ _ _ _)
      | (with_reducible exact weathercocklaw13_examples.mono _)
      | (with_reducible exact LeO.refl _)
      | (with_reducible exact LeO.none _)
      | (with_reducible refine LeO.ite ?_ ?_)
      | (with_reducible refine LeO.bind ?_ (fun _ => ?_))
      | exact ih0 _ _ _ _ _ _
      | exact ih1 _ _ _ _ _
      | exact weathercocklaw13_examples.mono _
      | exact LeO.none _
      | refine LeO.ite ?_ ?_
      | refine LeO.bind ?_ (fun _ => ?_)
    · intro y0 y1 y2 y3 y4
      unfold weathercocklaw13_HistHeld.j1
      repeat' first
      | (with_reducible exact ih0 _ _ _ _ _ _)
      | (with_reducible exact ih1 _ _ _ _ _)
      | (with_reducible exact weathercocklaw13_examples.mono _)
      | (with_reducible exact LeO.refl _)
      | (with_reducible exact LeO.none _)
      | (with_reducible refine LeO.ite ?_ ?_)
      | (with_reducible refine LeO.bind ?_ (fun _ => ?_))
      | exact ih0 _ _ _ _ _ _
      | exact ih1 _ _ _ _ _
      | exact weathercocklaw13_examples.mono _
      | exact LeO.none _
      | refine LeO.ite ?_ ?_
      | refine LeO.bind ?_ (fun _ => ?_)
theorem weathercocklaw13_HistHeld.mono : ∀ a0 a1 a2 k, LeO (weathercocklaw13_HistHeld.f k a0 a1 a2) (weathercocklaw13_HistHeld.f (k + 1) a0 a1 a2) := by
  intro a0 a1 a2 k
  obtain ⟨ih0, ih1⟩ := weathercocklaw13_HistHeld.mono_l k
  unfold weathercocklaw13_HistHeld.f
  repeat' first
      | (with_reducible exact ih0 _ _ _ _ _ _)
      | (with_reducible exact ih1 _ _ _ _ _)
      | (with_reducible exact weathercocklaw13_examples.mono _)
      | (with_reducible exact LeO.refl _)
      | (with_reducible exact LeO.none _)
      | (with_reducible refine LeO.ite ?_ ?_)
      | (with_reducible refine LeO.bind ?_ (fun _ => ?_))
      | exact ih0 _ _ _ _ _ _
      | exact ih1 _ _ _ _ _
      | exact weathercocklaw13_examples.mono _
      | exact LeO.none _
      | refine LeO.ite ?_ ?_
      | refine LeO.bind ?_ (fun _ => ?_)
set_option maxHeartbeats 8000000 in
set_option maxRecDepth 100000 in
theorem weathercocklaw13_HistHeld.calls (k : Nat) (a0 : Int) (a1 : Int) (a2 : Int) (r : Bool) (w : World) (h : weathercocklaw13_HistHeld.f k a0 a1 a2 = some r) (hrt : r = true) :
    Calls Try.prog 5 #[.int .i64 a0, .int .i64 a1, .int .i64 a2] w fun e w' => e = .returned (.bool r) ∧ Below w.heap.size w w' := by
  have HRT := Aside0.mk hrt
  clear hrt
  have HB := Aside0.mk (Below.refl w.heap.size w)
  have H : ((weathercocklaw13_examples.f k).bind fun t149 => ((hist_Clip.f a0).bind fun t150 => ((hist_Add.f a0 a1).bind fun t151 => ((hist_Mul.f a0 a1).bind fun t152 => ((hist_Times.f a0 a1 a2).bind fun t153 => (weathercocklaw13_HistHeld.l0 k a0 a1 a2 t149 (([t150, t151, t152, t153] : List Int)) 0)))))) = some r := h
  clear h
  replace H := Option.bind_eq_some_iff.mp H
  obtain ⟨t149, A40, H⟩ := H
  replace H : ((hist_Clip.f a0).bind fun t150 => ((hist_Add.f a0 a1).bind fun t151 => ((hist_Mul.f a0 a1).bind fun t152 => ((hist_Times.f a0 a1 a2).bind fun t153 => (weathercocklaw13_HistHeld.l0 k a0 a1 a2 t149 (([t150, t151, t152, t153] : List Int)) 0))))) = some r := H
  have A4 := Aside0.mk A40
  clear A40
  replace H := Option.bind_eq_some_iff.mp H
  obtain ⟨t150, A50, H⟩ := H
  replace H : ((hist_Add.f a0 a1).bind fun t151 => ((hist_Mul.f a0 a1).bind fun t152 => ((hist_Times.f a0 a1 a2).bind fun t153 => (weathercocklaw13_HistHeld.l0 k a0 a1 a2 t149 (([t150, t151, t152, t153] : List Int)) 0)))) = some r := H
  have A5 := Aside0.mk A50
  clear A50
  replace H := Option.bind_eq_some_iff.mp H
  obtain ⟨t151, A60, H⟩ := H
  replace H : ((hist_Mul.f a0 a1).bind fun t152 => ((hist_Times.f a0 a1 a2).bind fun t153 => (weathercocklaw13_HistHeld.l0 k a0 a1 a2 t149 (([t150, t151, t152, t153] : List Int)) 0))) = some r := H
  have A6 := Aside0.mk A60
  clear A60
  replace H := Option.bind_eq_some_iff.mp H
  obtain ⟨t152, A70, H⟩ := H
  replace H : ((hist_Times.f a0 a1 a2).bind fun t153 => (weathercocklaw13_HistHeld.l0 k a0 a1 a2 t149 (([t150, t151, t152, t153] : List Int)) 0)) = some r := H
  have A7 := Aside0.mk A70
  clear A70
  replace H := Option.bind_eq_some_iff.mp H
  obtain ⟨t153, A80, H⟩ := H
  replace H : (weathercocklaw13_HistHeld.l0 k a0 a1 a2 t149 (([t150, t151, t152, t153] : List Int)) 0) = some r := H
  have A8 := Aside0.mk A80
  clear A80
  obtain ⟨y154, hy154⟩ : ∃ y_ : List Int, y_ = (([t150, t151, t152, t153] : List Int)) := ⟨_, rfl⟩
  replace H : (weathercocklaw13_HistHeld.l0 k a0 a1 a2 t149 y154 0) = some r := by first | (rw [hy154]; with_reducible exact H) | (have H2_ := (Option.bind_some _ _).symm.trans H; rw [hy154]; with_reducible exact H2_) | (have H2_ := (Option.bind_some _ _).symm.trans H; with_reducible exact H2_) | with_reducible exact H | (rw [hy154]; exact H) | exact H
  have Ny154 := Aside0.mk hy154
  clear hy154
  have H' := Aside0.mk H
  clear H
  go_enter Try.func5, Try.ntmps5
  go_wp2_with (first | ((with_reducible refine gate_callee (f := 9) rfl ?_); refine goesL_ (some 10) rfl rfl Try.func9 (by kernel_rfl) rfl #[] rfl (by (try simp only [List.map_toArray, List.map_cons, List.map_nil]); first | done | rfl | (simp only [List.length_drop, List.length_take]; rfl)) ?_; (with_reducible refine (weathercocklaw13_examples.calls k  t149 _ A4.out).mono ?_); rintro e w9 ⟨rfl, hb⟩; refine ⟨_, rfl, ?_⟩; have n0_ := Aside0.mk (below_step (by repeat (first | (with_reducible first | exact HB.out | apply below_alloc | apply pw_below_drewN | apply below_drew1) | exact HB.out)) hb); clear HB; have HB := n0_; clear n0_; (try clear hb); (try clear hb2); (try clear hk); (try clear hi)) | ((with_reducible refine gate_callee (f := 10) rfl ?_); refine goesL_ (some 12) rfl rfl Try.func10 (by kernel_rfl) rfl #[.int .i64 a0] rfl (by (try simp only [List.map_toArray, List.map_cons, List.map_nil]); first | done | rfl | (simp only [List.length_drop, List.length_take]; rfl)) ?_; (with_reducible refine (hist_Clip.calls a0 t150 _ A5.out).mono ?_); rintro e w10 ⟨rfl, hb⟩; refine ⟨_, rfl, ?_⟩; have n0_ := Aside0.mk (below_step (by repeat (first | (with_reducible first | exact HB.out | apply below_alloc | apply pw_below_drewN | apply below_drew1) | exact HB.out)) hb); clear HB; have HB := n0_; clear n0_; (try clear hb); (try clear hb2); (try clear hk); (try clear hi)) | ((with_reducible refine gate_callee (f := 12) rfl ?_); refine goesL_ (some 15) rfl rfl Try.func12 (by kernel_rfl) rfl #[.int .i64 a0, .int .i64 a1] rfl (by (try simp only [List.map_toArray, List.map_cons, List.map_nil]); first | done | rfl | (simp only [List.length_drop, List.length_take]; rfl)) ?_; (with_reducible refine (hist_Add.calls a0 a1 t151 _ A6.out).mono ?_); rintro e w11 ⟨rfl, hb⟩; refine ⟨_, rfl, ?_⟩; have n0_ := Aside0.mk (below_step (by repeat (first | (with_reducible first | exact HB.out | apply below_alloc | apply pw_below_drewN | apply below_drew1) | exact HB.out)) hb); clear HB; have HB := n0_; clear n0_; (try clear hb); (try clear hb2); (try clear hk); (try clear hi)) | ((with_reducible refine gate_callee (f := 14) rfl ?_); refine goesL_ (some 18) rfl rfl Try.func14 (by kernel_rfl) rfl #[.int .i64 a0, .int .i64 a1] rfl (by (try simp only [List.map_toArray, List.map_cons, List.map_nil]); first | done | rfl | (simp only [List.length_drop, List.length_take]; rfl)) ?_; (with_reducible refine (hist_Mul.calls a0 a1 t152 _ A7.out).mono ?_); rintro e w12 ⟨rfl, hb⟩; refine ⟨_, rfl, ?_⟩; have n0_ := Aside0.mk (below_step (by repeat (first | (with_reducible first | exact HB.out | apply below_alloc | apply pw_below_drewN | apply below_drew1) | exact HB.out)) hb); clear HB; have HB := n0_; clear n0_; (try clear hb); (try clear hb2); (try clear hk); (try clear hi)) | ((with_reducible refine gate_callee (f := 16) rfl ?_); refine goesL_ (some 22) rfl rfl Try.func16 (by kernel_rfl) rfl #[.int .i64 a0, .int .i64 a1, .int .i64 a2] rfl (by (try simp only [List.map_toArray, List.map_cons, List.map_nil]); first | done | rfl | (simp only [List.length_drop, List.length_take]; rfl)) ?_; (with_reducible refine (hist_Times.calls a0 a1 a2 t153 _ A8.out).mono ?_); rintro e w13 ⟨rfl, hb⟩; refine ⟨_, rfl, ?_⟩; have n0_ := Aside0.mk (below_step (by repeat (first | (with_reducible first | exact HB.out | apply below_alloc | apply pw_below_drewN | apply below_drew1) | exact HB.out)) hb); clear HB; have HB := n0_; clear n0_; (try clear hb); (try clear hb2); (try clear hk); (try clear hi)) | ((with_reducible refine gate_dst (N := 23) rfl ?_); refine Kd.R_lit (Kd.int .i64) _ 3 ?hg (N := 23) ?hd (xs := ([t150, t151, t152, t153] : List Int)) (inner := [.int .i64 t150, .int .i64 t151, .int .i64 t152, .int .i64 t153]) (ok := fun _ => True) (okp := fun _ => True) ?hr ?hp (fun _ hk => hk) trivial (Below.refl _ _) (Nat.le_refl _) (by simp) ?_; (case hd => rfl); (case hg => rfl); (case hr => first | (go_simp; done) | (go_simp; rfl)); (case hp => exact (Reps.one (show Kd.M (Kd.int .i64) _ _ _ t150 [.int .i64 t150] from rfl) (Reps.one (show Kd.M (Kd.int .i64) _ _ _ t151 [.int .i64 t151] from rfl) (Reps.one (show Kd.M (Kd.int .i64) _ _ _ t152 [.int .i64 t152] from rfl) (Reps.one (show Kd.M (Kd.int .i64) _ _ _ t153 [.int .i64 t153] from rfl) (Reps.none _ _)))))); intro v155 w14 ho15 hb hg_ hnew_; clear hg_ hnew_; (first | rw [← Ny154.out] at ho15 | (simp only [Int.reduceToNat] at ho15; rw [← Ny154.out] at ho15)); have n0_ := Aside0.mk (Kd.R_lower ho15 (below_size (by repeat (first | (with_reducible first | exact HB.out | apply below_alloc | apply pw_below_drewN | apply below_drew1) | exact HB.out)))); have n1_ := Aside0.mk (below_step (by repeat (first | (with_reducible first | exact HB.out | apply below_alloc | apply pw_below_drewN | apply below_drew1) | exact HB.out)) hb); clear HB; have HO156 := n0_; have HB := n1_; clear n0_ n1_; clear hb ho15))
  go_loopg [9] k (fun kq v9 w' => ∃ (x9_1 : Int), v9 = .int .i64 x9_1 ∧ Aside0 (weathercocklaw13_HistHeld.l0 kq a0 a1 a2 t149 y154 x9_1 = some r) ∧ Aside0 (kq ≤ k) ∧ Aside0 (Kd.R (Kd.int .i64) 3 w' w.heap.size (fun _ => True) v155 y154) ∧ Aside0 (Below w.heap.size w w'))
  case atStart => exact ⟨(0), (by first | rfl | (simp; done) | (simp [*]; done)), H', ⟨Nat.le_refl _⟩, ⟨by (with_reducible repeat (first | apply Kd.R_alloc | apply Kd.R_drewN | apply Kd.R_drew)); exact HO156.out⟩, ⟨by repeat (first | (with_reducible first | exact HB.out | apply below_alloc | apply pw_below_drewN | apply below_drew1) | exact HB.out)⟩⟩
  case round =>
    clear H'
    try clear c1
    try clear p2
    try clear c5
    try clear c9
    try clear c10
    try clear c12
    try clear c14
    obtain ⟨x9_1, rfl, HA, HK1, HO_8, HB⟩ := hrel
    cases gk with
    | zero => exact absurd HA.out (by simp [weathercocklaw13_HistHeld.l0])
    | succ k1 =>
      have H := HA.out
      clear HA
      simp only [weathercocklaw13_HistHeld.l0] at H
      by_cases c16 : x9_1 < 4
      · rw [if_pos c16] at H
        have c16b0 : decide (x9_1 < 4) = true := decide_eq_true c16
        clear c16
        by_cases c17 : 0 ≤ x9_1
        · rw [if_pos c17] at H
          have c17b0 : decide (0 ≤ x9_1) = true := decide_eq_true c17
          clear c17
          by_cases c18 : x9_1 < (y154.length : Int)
          · rw [if_pos c18] at H
            have c18b0 : decide (x9_1 < (y154.length : Int)) = true := decide_eq_true c18
            clear c18
            by_cases c19 : (rd y154 x9_1) < 0
            · rw [if_pos c19] at H
              have c19b0 : decide ((rd y154 x9_1) < 0) = true := decide_eq_true c19
              clear c19
              exact absurd (Option.some.inj H) (fun h_ => absurd (h_.trans HRT.out) (by decide))
            · rw [if_neg c19] at H
              have c19b0 : decide ((rd y154 x9_1) < 0) = false := decide_eq_false c19
              clear c19
              by_cases c20 : (rd y154 x9_1) > 1000000000000
              · rw [if_pos c20] at H
                have c20b0 : decide (1000000000000 < (rd y154 x9_1)) = true := decide_eq_true c20
                clear c20
                exact absurd (Option.some.inj H) (fun h_ => absurd (h_.trans HRT.out) (by decide))
              · rw [if_neg c20] at H
                have c20b0 : decide (1000000000000 < (rd y154 x9_1)) = false := decide_eq_false c20
                clear c20
                have H' := Aside0.mk H
                clear H
                obtain ⟨Ao21, co21, eo21⟩ := Kd.R_slice HO_8.out
                subst eo21
                have p157 : 0 ≤ (x9_1 : Int) := of_decide_eq_true (by first | (with_reducible assumption) | assumption)
                have q157 : x9_1 < (y154.length : Int) := of_decide_eq_true (by first | (with_reducible assumption) | assumption)
                obtain ⟨ad157, e157, hx157_0⟩ := Kd.at_int (Kd.R_reads' HO_8.out).2.2 x9_1 p157 q157
                cases e157
                replace p157 := eq_true p157
                replace q157 := eq_true q157
                have p158 : 0 ≤ (x9_1 : Int) := of_decide_eq_true (by first | (with_reducible assumption) | assumption)
                have q158 : x9_1 < (y154.length : Int) := of_decide_eq_true (by first | (with_reducible assumption) | assumption)
                obtain ⟨ad158, e158, hx158_0⟩ := Kd.at_int (Kd.R_reads' HO_8.out).2.2 x9_1 p158 q158
                obtain rfl : ad157 = ad158 := (by injection e158)
                replace p158 := eq_true p158
                replace q158 := eq_true q158
                go_wp2
                go_roundg k1
                case measure => have := HK1.out; omega
                case rel => exact ⟨(wrap64 (x9_1 + 1)), (by first | rfl | (simp; done) | (simp [*]; done)), H', ⟨by have := HK1.out; omega⟩, ⟨by (with_reducible repeat (first | apply Kd.R_alloc | apply Kd.R_drewN | apply Kd.R_drew)); exact HO_8.out⟩, ⟨by repeat (first | (with_reducible first | exact HB.out | apply below_alloc | apply pw_below_drewN | apply below_drew1) | exact HB.out)⟩⟩
          · rw [if_neg c18] at H
            exact absurd H (by simp)
        · rw [if_neg c17] at H
          exact absurd H (by simp)
      · rw [if_neg c16] at H
        have c16b0 : decide (x9_1 < 4) = false := decide_eq_false c16
        clear c16
        have HC22 := Aside0.mk H
        clear H
        go_upto_region 8 with (fail)
        go_cut [76] (fun v76 wc => ∃ (kq : Nat) (x76_21 : Bool), v76 = .bool x76_21 ∧ Aside0 (weathercocklaw13_HistHeld.j1 kq a0 a1 a2 t149 x76_21 = some r) ∧ Aside0 (kq ≤ k1) ∧ Aside0 (Below w.heap.size w wc))
        case first =>
          have H := HC22.out
          clear HC22
          by_cases c23 : a0 < a1
          · rw [if_pos c23] at H
            have c23b0 : decide (a0 < a1) = true := decide_eq_true c23
            clear c23
            (first | rw [c23b0] | rw [c23b1] | (simp only [i64_w, i32_w]; rw [c23b0]) | skip)
            replace H := Option.bind_eq_some_iff.mp H
            obtain ⟨t159, A240, H⟩ := H
            replace H : ((hist_Clip.f a1).bind fun t160 => (if t159 > t160 then (weathercocklaw13_HistHeld.j1 k1 a0 a1 a2 t149 true) else ((hist_Add.f a0 a2).bind fun t161 => ((hist_Add.f a1 a2).bind fun t162 => (if t161 > t162 then (weathercocklaw13_HistHeld.j1 k1 a0 a1 a2 t149 true) else ((hist_Mul.f a0 a2).bind fun t163 => ((hist_Mul.f a1 a2).bind fun t164 => (if t163 > t164 then (weathercocklaw13_HistHeld.j1 k1 a0 a1 a2 t149 true) else ((hist_Times.f a0 a2 7).bind fun t165 => ((hist_Times.f a1 a2 7).bind fun t166 => (weathercocklaw13_HistHeld.j1 k1 a0 a1 a2 t149 (decide (t165 > t166))))))))))))) = some r := H
            have A24 := Aside0.mk A240
            clear A240
            replace H := Option.bind_eq_some_iff.mp H
            obtain ⟨t160, A250, H⟩ := H
            replace H : (if t159 > t160 then (weathercocklaw13_HistHeld.j1 k1 a0 a1 a2 t149 true) else ((hist_Add.f a0 a2).bind fun t161 => ((hist_Add.f a1 a2).bind fun t162 => (if t161 > t162 then (weathercocklaw13_HistHeld.j1 k1 a0 a1 a2 t149 true) else ((hist_Mul.f a0 a2).bind fun t163 => ((hist_Mul.f a1 a2).bind fun t164 => (if t163 > t164 then (weathercocklaw13_HistHeld.j1 k1 a0 a1 a2 t149 true) else ((hist_Times.f a0 a2 7).bind fun t165 => ((hist_Times.f a1 a2 7).bind fun t166 => (weathercocklaw13_HistHeld.j1 k1 a0 a1 a2 t149 (decide (t165 > t166)))))))))))) = some r := H
            have A25 := Aside0.mk A250
            clear A250
            by_cases c26 : t159 > t160
            · rw [if_pos c26] at H
              have c26b0 : decide (t160 < t159) = true := decide_eq_true c26
              clear c26
              have H' := Aside0.mk H
              clear H
              go_wp2_with (first | (go_at_call 10; (with_reducible refine (hist_Clip.calls a0 t159 _ A24.out).mono ?_); rintro e w27 ⟨rfl, hb⟩; have n0_ := Aside0.mk (Kd.R_below (by (with_reducible repeat (first | apply Kd.R_alloc | apply Kd.R_drewN | apply Kd.R_drew)); exact HO_8.out) hb); have n1_ := Aside0.mk (below_step (by repeat (first | (with_reducible first | exact HB.out | apply below_alloc | apply pw_below_drewN | apply below_drew1) | exact HB.out)) hb); clear HO_8; clear HB; have HO_8 := n0_; have HB := n1_; clear n0_ n1_; (try clear hb); (try clear hb2); (try clear hk); (try clear hi)) | (go_at_call 10; (with_reducible refine (hist_Clip.calls a1 t160 _ A25.out).mono ?_); rintro e w28 ⟨rfl, hb⟩; have n0_ := Aside0.mk (Kd.R_below (by (with_reducible repeat (first | apply Kd.R_alloc | apply Kd.R_drewN | apply Kd.R_drew)); exact HO_8.out) hb); have n1_ := Aside0.mk (below_step (by repeat (first | (with_reducible first | exact HB.out | apply below_alloc | apply pw_below_drewN | apply below_drew1) | exact HB.out)) hb); clear HO_8; clear HB; have HO_8 := n0_; have HB := n1_; clear n0_ n1_; (try clear hb); (try clear hb2); (try clear hk); (try clear hi)))
              go_meet
              case rel => exact ⟨_, (true), (by first | rfl | (simp; done) | (simp [*]; done)), H', ⟨by have := HK1.out; first | omega | exact Nat.le_refl _⟩, ⟨by repeat (first | (with_reducible first | exact HB.out | apply below_alloc | apply pw_below_drewN | apply below_drew1) | exact HB.out)⟩⟩
            · rw [if_neg c26] at H
              have c26b0 : decide (t160 < t159) = false := decide_eq_false c26
              clear c26
              replace H := Option.bind_eq_some_iff.mp H
              obtain ⟨t161, A290, H⟩ := H
              replace H : ((hist_Add.f a1 a2).bind fun t162 => (if t161 > t162 then (weathercocklaw13_HistHeld.j1 k1 a0 a1 a2 t149 true) else ((hist_Mul.f a0 a2).bind fun t163 => ((hist_Mul.f a1 a2).bind fun t164 => (if t163 > t164 then (weathercocklaw13_HistHeld.j1 k1 a0 a1 a2 t149 true) else ((hist_Times.f a0 a2 7).bind fun t165 => ((hist_Times.f a1 a2 7).bind fun t166 => (weathercocklaw13_HistHeld.j1 k1 a0 a1 a2 t149 (decide (t165 > t166)))))))))) = some r := H
              have A29 := Aside0.mk A290
              clear A290
              replace H := Option.bind_eq_some_iff.mp H
              obtain ⟨t162, A300, H⟩ := H
              replace H : (if t161 > t162 then (weathercocklaw13_HistHeld.j1 k1 a0 a1 a2 t149 true) else ((hist_Mul.f a0 a2).bind fun t163 => ((hist_Mul.f a1 a2).bind fun t164 => (if t163 > t164 then (weathercocklaw13_HistHeld.j1 k1 a0 a1 a2 t149 true) else ((hist_Times.f a0 a2 7).bind fun t165 => ((hist_Times.f a1 a2 7).bind fun t166 => (weathercocklaw13_HistHeld.j1 k1 a0 a1 a2 t149 (decide (t165 > t166))))))))) = some r := H
              have A30 := Aside0.mk A300
              clear A300
              by_cases c31 : t161 > t162
              · rw [if_pos c31] at H
                have c31b0 : decide (t162 < t161) = true := decide_eq_true c31
                clear c31
                have H' := Aside0.mk H
                clear H
                go_wp2_with (first | (go_at_call 10; (with_reducible refine (hist_Clip.calls a0 t159 _ A24.out).mono ?_); rintro e w32 ⟨rfl, hb⟩; have n0_ := Aside0.mk (Kd.R_below (by (with_reducible repeat (first | apply Kd.R_alloc | apply Kd.R_drewN | apply Kd.R_drew)); exact HO_8.out) hb); have n1_ := Aside0.mk (below_step (by repeat (first | (with_reducible first | exact HB.out | apply below_alloc | apply pw_below_drewN | apply below_drew1) | exact HB.out)) hb); clear HO_8; clear HB; have HO_8 := n0_; have HB := n1_; clear n0_ n1_; (try clear hb); (try clear hb2); (try clear hk); (try clear hi)) | (go_at_call 10; (with_reducible refine (hist_Clip.calls a1 t160 _ A25.out).mono ?_); rintro e w33 ⟨rfl, hb⟩; have n0_ := Aside0.mk (Kd.R_below (by (with_reducible repeat (first | apply Kd.R_alloc | apply Kd.R_drewN | apply Kd.R_drew)); exact HO_8.out) hb); have n1_ := Aside0.mk (below_step (by repeat (first | (with_reducible first | exact HB.out | apply below_alloc | apply pw_below_drewN | apply below_drew1) | exact HB.out)) hb); clear HO_8; clear HB; have HO_8 := n0_; have HB := n1_; clear n0_ n1_; (try clear hb); (try clear hb2); (try clear hk); (try clear hi)) | (go_at_call 12; (with_reducible refine (hist_Add.calls a0 a2 t161 _ A29.out).mono ?_); rintro e w34 ⟨rfl, hb⟩; have n0_ := Aside0.mk (Kd.R_below (by (with_reducible repeat (first | apply Kd.R_alloc | apply Kd.R_drewN | apply Kd.R_drew)); exact HO_8.out) hb); have n1_ := Aside0.mk (below_step (by repeat (first | (with_reducible first | exact HB.out | apply below_alloc | apply pw_below_drewN | apply below_drew1) | exact HB.out)) hb); clear HO_8; clear HB; have HO_8 := n0_; have HB := n1_; clear n0_ n1_; (try clear hb); (try clear hb2); (try clear hk); (try clear hi)) | (go_at_call 12; (with_reducible refine (hist_Add.calls a1 a2 t162 _ A30.out).mono ?_); rintro e w35 ⟨rfl, hb⟩; have n0_ := Aside0.mk (Kd.R_below (by (with_reducible repeat (first | apply Kd.R_alloc | apply Kd.R_drewN | apply Kd.R_drew)); exact HO_8.out) hb); have n1_ := Aside0.mk (below_step (by repeat (first | (with_reducible first | exact HB.out | apply below_alloc | apply pw_below_drewN | apply below_drew1) | exact HB.out)) hb); clear HO_8; clear HB; have HO_8 := n0_; have HB := n1_; clear n0_ n1_; (try clear hb); (try clear hb2); (try clear hk); (try clear hi)))
                go_meet
                case rel => exact ⟨_, (true), (by first | rfl | (simp; done) | (simp [*]; done)), H', ⟨by have := HK1.out; first | omega | exact Nat.le_refl _⟩, ⟨by repeat (first | (with_reducible first | exact HB.out | apply below_alloc | apply pw_below_drewN | apply below_drew1) | exact HB.out)⟩⟩
              · rw [if_neg c31] at H
                have c31b0 : decide (t162 < t161) = false := decide_eq_false c31
                clear c31
                replace H := Option.bind_eq_some_iff.mp H
                obtain ⟨t163, A360, H⟩ := H
                replace H : ((hist_Mul.f a1 a2).bind fun t164 => (if t163 > t164 then (weathercocklaw13_HistHeld.j1 k1 a0 a1 a2 t149 true) else ((hist_Times.f a0 a2 7).bind fun t165 => ((hist_Times.f a1 a2 7).bind fun t166 => (weathercocklaw13_HistHeld.j1 k1 a0 a1 a2 t149 (decide (t165 > t166))))))) = some r := H
                have A36 := Aside0.mk A360
                clear A360
                replace H := Option.bind_eq_some_iff.mp H
                obtain ⟨t164, A370, H⟩ := H
                replace H : (if t163 > t164 then (weathercocklaw13_HistHeld.j1 k1 a0 a1 a2 t149 true) else ((hist_Times.f a0 a2 7).bind fun t165 => ((hist_Times.f a1 a2 7).bind fun t166 => (weathercocklaw13_HistHeld.j1 k1 a0 a1 a2 t149 (decide (t165 > t166)))))) = some r := H
                have A37 := Aside0.mk A370
                clear A370
                by_cases c38 : t163 > t164
                · rw [if_pos c38] at H
                  have c38b0 : decide (t164 < t163) = true := decide_eq_true c38
                  clear c38
                  have H' := Aside0.mk H
                  clear H
                  go_wp2_with (first | (go_at_call 10; (with_reducible refine (hist_Clip.calls a0 t159 _ A24.out).mono ?_); rintro e w39 ⟨rfl, hb⟩; have n0_ := Aside0.mk (Kd.R_below (by (with_reducible repeat (first | apply Kd.R_alloc | apply Kd.R_drewN | apply Kd.R_drew)); exact HO_8.out) hb); have n1_ := Aside0.mk (below_step (by repeat (first | (with_reducible first | exact HB.out | apply below_alloc | apply pw_below_drewN | apply below_drew1) | exact HB.out)) hb); clear HO_8; clear HB; have HO_8 := n0_; have HB := n1_; clear n0_ n1_; (try clear hb); (try clear hb2); (try clear hk); (try clear hi)) | (go_at_call 10; (with_reducible refine (hist_Clip.calls a1 t160 _ A25.out).mono ?_); rintro e w40 ⟨rfl, hb⟩; have n0_ := Aside0.mk (Kd.R_below (by (with_reducible repeat (first | apply Kd.R_alloc | apply Kd.R_drewN | apply Kd.R_drew)); exact HO_8.out) hb); have n1_ := Aside0.mk (below_step (by repeat (first | (with_reducible first | exact HB.out | apply below_alloc | apply pw_below_drewN | apply below_drew1) | exact HB.out)) hb); clear HO_8; clear HB; have HO_8 := n0_; have HB := n1_; clear n0_ n1_; (try clear hb); (try clear hb2); (try clear hk); (try clear hi)) | (go_at_call 12; (with_reducible refine (hist_Add.calls a0 a2 t161 _ A29.out).mono ?_); rintro e w41 ⟨rfl, hb⟩; have n0_ := Aside0.mk (Kd.R_below (by (with_reducible repeat (first | apply Kd.R_alloc | apply Kd.R_drewN | apply Kd.R_drew)); exact HO_8.out) hb); have n1_ := Aside0.mk (below_step (by repeat (first | (with_reducible first | exact HB.out | apply below_alloc | apply pw_below_drewN | apply below_drew1) | exact HB.out)) hb); clear HO_8; clear HB; have HO_8 := n0_; have HB := n1_; clear n0_ n1_; (try clear hb); (try clear hb2); (try clear hk); (try clear hi)) | (go_at_call 12; (with_reducible refine (hist_Add.calls a1 a2 t162 _ A30.out).mono ?_); rintro e w42 ⟨rfl, hb⟩; have n0_ := Aside0.mk (Kd.R_below (by (with_reducible repeat (first | apply Kd.R_alloc | apply Kd.R_drewN | apply Kd.R_drew)); exact HO_8.out) hb); have n1_ := Aside0.mk (below_step (by repeat (first | (with_reducible first | exact HB.out | apply below_alloc | apply pw_below_drewN | apply below_drew1) | exact HB.out)) hb); clear HO_8; clear HB; have HO_8 := n0_; have HB := n1_; clear n0_ n1_; (try clear hb); (try clear hb2); (try clear hk); (try clear hi)) | (go_at_call 14; (with_reducible refine (hist_Mul.calls a0 a2 t163 _ A36.out).mono ?_); rintro e w43 ⟨rfl, hb⟩; have n0_ := Aside0.mk (Kd.R_below (by (with_reducible repeat (first | apply Kd.R_alloc | apply Kd.R_drewN | apply Kd.R_drew)); exact HO_8.out) hb); have n1_ := Aside0.mk (below_step (by repeat (first | (with_reducible first | exact HB.out | apply below_alloc | apply pw_below_drewN | apply below_drew1) | exact HB.out)) hb); clear HO_8; clear HB; have HO_8 := n0_; have HB := n1_; clear n0_ n1_; (try clear hb); (try clear hb2); (try clear hk); (try clear hi)) | (go_at_call 14; (with_reducible refine (hist_Mul.calls a1 a2 t164 _ A37.out).mono ?_); rintro e w44 ⟨rfl, hb⟩; have n0_ := Aside0.mk (Kd.R_below (by (with_reducible repeat (first | apply Kd.R_alloc | apply Kd.R_drewN | apply Kd.R_drew)); exact HO_8.out) hb); have n1_ := Aside0.mk (below_step (by repeat (first | (with_reducible first | exact HB.out | apply below_alloc | apply pw_below_drewN | apply below_drew1) | exact HB.out)) hb); clear HO_8; clear HB; have HO_8 := n0_; have HB := n1_; clear n0_ n1_; (try clear hb); (try clear hb2); (try clear hk); (try clear hi)))
                  go_meet
                  case rel => exact ⟨_, (true), (by first | rfl | (simp; done) | (simp [*]; done)), H', ⟨by have := HK1.out; first | omega | exact Nat.le_refl _⟩, ⟨by repeat (first | (with_reducible first | exact HB.out | apply below_alloc | apply pw_below_drewN | apply below_drew1) | exact HB.out)⟩⟩
                · rw [if_neg c38] at H
                  have c38b0 : decide (t164 < t163) = false := decide_eq_false c38
                  clear c38
                  replace H := Option.bind_eq_some_iff.mp H
                  obtain ⟨t165, A450, H⟩ := H
                  replace H : ((hist_Times.f a1 a2 7).bind fun t166 => (weathercocklaw13_HistHeld.j1 k1 a0 a1 a2 t149 (decide (t165 > t166)))) = some r := H
                  have A45 := Aside0.mk A450
                  clear A450
                  replace H := Option.bind_eq_some_iff.mp H
                  obtain ⟨t166, A460, H⟩ := H
                  replace H : (weathercocklaw13_HistHeld.j1 k1 a0 a1 a2 t149 (decide (t165 > t166))) = some r := H
                  have A46 := Aside0.mk A460
                  clear A460
                  have H' := Aside0.mk H
                  clear H
                  go_wp2_with (first | (go_at_call 10; (with_reducible refine (hist_Clip.calls a0 t159 _ A24.out).mono ?_); rintro e w47 ⟨rfl, hb⟩; have n0_ := Aside0.mk (Kd.R_below (by (with_reducible repeat (first | apply Kd.R_alloc | apply Kd.R_drewN | apply Kd.R_drew)); exact HO_8.out) hb); have n1_ := Aside0.mk (below_step (by repeat (first | (with_reducible first | exact HB.out | apply below_alloc | apply pw_below_drewN | apply below_drew1) | exact HB.out)) hb); clear HO_8; clear HB; have HO_8 := n0_; have HB := n1_; clear n0_ n1_; (try clear hb); (try clear hb2); (try clear hk); (try clear hi)) | (go_at_call 10; (with_reducible refine (hist_Clip.calls a1 t160 _ A25.out).mono ?_); rintro e w48 ⟨rfl, hb⟩; have n0_ := Aside0.mk (Kd.R_below (by (with_reducible repeat (first | apply Kd.R_alloc | apply Kd.R_drewN | apply Kd.R_drew)); exact HO_8.out) hb); have n1_ := Aside0.mk (below_step (by repeat (first | (with_reducible first | exact HB.out | apply below_alloc | apply pw_below_drewN | apply below_drew1) | exact HB.out)) hb); clear HO_8; clear HB; have HO_8 := n0_; have HB := n1_; clear n0_ n1_; (try clear hb); (try clear hb2); (try clear hk); (try clear hi)) | (go_at_call 12; (with_reducible refine (hist_Add.calls a0 a2 t161 _ A29.out).mono ?_); rintro e w49 ⟨rfl, hb⟩; have n0_ := Aside0.mk (Kd.R_below (by (with_reducible repeat (first | apply Kd.R_alloc | apply Kd.R_drewN | apply Kd.R_drew)); exact HO_8.out) hb); have n1_ := Aside0.mk (below_step (by repeat (first | (with_reducible first | exact HB.out | apply below_alloc | apply pw_below_drewN | apply below_drew1) | exact HB.out)) hb); clear HO_8; clear HB; have HO_8 := n0_; have HB := n1_; clear n0_ n1_; (try clear hb); (try clear hb2); (try clear hk); (try clear hi)) | (go_at_call 12; (with_reducible refine (hist_Add.calls a1 a2 t162 _ A30.out).mono ?_); rintro e w50 ⟨rfl, hb⟩; have n0_ := Aside0.mk (Kd.R_below (by (with_reducible repeat (first | apply Kd.R_alloc | apply Kd.R_drewN | apply Kd.R_drew)); exact HO_8.out) hb); have n1_ := Aside0.mk (below_step (by repeat (first | (with_reducible first | exact HB.out | apply below_alloc | apply pw_below_drewN | apply below_drew1) | exact HB.out)) hb); clear HO_8; clear HB; have HO_8 := n0_; have HB := n1_; clear n0_ n1_; (try clear hb); (try clear hb2); (try clear hk); (try clear hi)) | (go_at_call 14; (with_reducible refine (hist_Mul.calls a0 a2 t163 _ A36.out).mono ?_); rintro e w51 ⟨rfl, hb⟩; have n0_ := Aside0.mk (Kd.R_below (by (with_reducible repeat (first | apply Kd.R_alloc | apply Kd.R_drewN | apply Kd.R_drew)); exact HO_8.out) hb); have n1_ := Aside0.mk (below_step (by repeat (first | (with_reducible first | exact HB.out | apply below_alloc | apply pw_below_drewN | apply below_drew1) | exact HB.out)) hb); clear HO_8; clear HB; have HO_8 := n0_; have HB := n1_; clear n0_ n1_; (try clear hb); (try clear hb2); (try clear hk); (try clear hi)) | (go_at_call 14; (with_reducible refine (hist_Mul.calls a1 a2 t164 _ A37.out).mono ?_); rintro e w52 ⟨rfl, hb⟩; have n0_ := Aside0.mk (Kd.R_below (by (with_reducible repeat (first | apply Kd.R_alloc | apply Kd.R_drewN | apply Kd.R_drew)); exact HO_8.out) hb); have n1_ := Aside0.mk (below_step (by repeat (first | (with_reducible first | exact HB.out | apply below_alloc | apply pw_below_drewN | apply below_drew1) | exact HB.out)) hb); clear HO_8; clear HB; have HO_8 := n0_; have HB := n1_; clear n0_ n1_; (try clear hb); (try clear hb2); (try clear hk); (try clear hi)) | (go_at_call 16; (with_reducible refine (hist_Times.calls a0 a2 7 t165 _ A45.out).mono ?_); rintro e w53 ⟨rfl, hb⟩; have n0_ := Aside0.mk (Kd.R_below (by (with_reducible repeat (first | apply Kd.R_alloc | apply Kd.R_drewN | apply Kd.R_drew)); exact HO_8.out) hb); have n1_ := Aside0.mk (below_step (by repeat (first | (with_reducible first | exact HB.out | apply below_alloc | apply pw_below_drewN | apply below_drew1) | exact HB.out)) hb); clear HO_8; clear HB; have HO_8 := n0_; have HB := n1_; clear n0_ n1_; (try clear hb); (try clear hb2); (try clear hk); (try clear hi)) | (go_at_call 16; (with_reducible refine (hist_Times.calls a1 a2 7 t166 _ A46.out).mono ?_); rintro e w54 ⟨rfl, hb⟩; have n0_ := Aside0.mk (Kd.R_below (by (with_reducible repeat (first | apply Kd.R_alloc | apply Kd.R_drewN | apply Kd.R_drew)); exact HO_8.out) hb); have n1_ := Aside0.mk (below_step (by repeat (first | (with_reducible first | exact HB.out | apply below_alloc | apply pw_below_drewN | apply below_drew1) | exact HB.out)) hb); clear HO_8; clear HB; have HO_8 := n0_; have HB := n1_; clear n0_ n1_; (try clear hb); (try clear hb2); (try clear hk); (try clear hi)))
                  go_meet
                  case rel => exact ⟨_, (decide (t165 > t166)), (by first | rfl | (simp; done) | (simp [*]; done)), H', ⟨by have := HK1.out; first | omega | exact Nat.le_refl _⟩, ⟨by repeat (first | (with_reducible first | exact HB.out | apply below_alloc | apply pw_below_drewN | apply below_drew1) | exact HB.out)⟩⟩
          · rw [if_neg c23] at H
            have c23b0 : decide (a0 < a1) = false := decide_eq_false c23
            clear c23
            (first | rw [c23b0] | rw [c23b1] | (simp only [i64_w, i32_w]; rw [c23b0]) | skip)
            have H' := Aside0.mk H
            clear H
            go_wp2
            go_meet
            case rel => exact ⟨_, (false), (by first | rfl | (simp; done) | (simp [*]; done)), H', ⟨by have := HK1.out; first | omega | exact Nat.le_refl _⟩, ⟨by repeat (first | (with_reducible first | exact HB.out | apply below_alloc | apply pw_below_drewN | apply below_drew1) | exact HB.out)⟩⟩
        case rest =>
          clear HC22
          try clear c1
          try clear p1
          try clear q1
          try clear hx1
          try clear c2
          try clear p2
          try clear c3
          try clear c5
          try clear p6
          try clear c9
          try clear c10
          try clear c12
          try clear c14
          try clear p15
          try clear q15
          try clear hx15
          try clear c16
          try clear c16b0
          try clear c17
          try clear c17b0
          try clear c18
          try clear c18b0
          try clear c19
          try clear c19b0
          try clear c20
          try clear c20b0
          try clear c23
          try clear c23b0
          try clear c23b1
          try clear c26
          try clear c26b0
          try clear c31
          try clear c31b0
          try clear c38
          try clear c38b0
          try clear hx157_0
          try clear hx158_0
          try clear p157
          try clear p158
          try clear p2
          try clear q157
          try clear q158
          obtain ⟨kq, x76_21, rfl, HA, HJ21, HB⟩ := hcut
          cases kq with
          | zero => exact absurd HA.out (by simp [weathercocklaw13_HistHeld.j1])
          | succ kj21 =>
            have H := HA.out
            clear HA
            simp only [weathercocklaw13_HistHeld.j1] at H
            by_cases c55 : x76_21 = true
            · subst c55
              have H1 : (some false) = some r := by rw [if_pos rfl] at H; exact H
              clear H
              have H := H1
              clear H1
              exact absurd (Option.some.inj H) (fun h_ => absurd (h_.trans HRT.out) (by decide))
            · replace c55 := Bool.eq_false_iff.mpr c55
              subst c55
              have H1 : (if t149 = true then ((hist_Add.f a0 a1).bind fun t167 => ((hist_Add.f a1 a0).bind fun t168 => (if t167 = t168 then ((hist_Mul.f a0 a1).bind fun t169 => ((hist_Mul.f a1 a0).bind fun t170 => (if t169 = t170 then ((hist_Times.f a0 1 1).bind fun t171 => ((hist_Clip.f a0).bind fun t172 => (if t171 = t172 then ((hist_Add.f a0 a1).bind fun t173 => ((hist_Add.f t173 a2).bind fun t174 => ((hist_Add.f a1 a2).bind fun t175 => ((hist_Add.f a0 t175).bind fun t176 => (some (t174 == t176)))))) else (some false)))) else (some false)))) else (some false)))) else (some false)) = some r := by rw [if_neg (show ¬ (false = true) by decide)] at H; exact H
              clear H
              have H := H1
              clear H1
              by_cases c56 : t149 = true
              · subst c56
                have H1 : ((hist_Add.f a0 a1).bind fun t167 => ((hist_Add.f a1 a0).bind fun t168 => (if t167 = t168 then ((hist_Mul.f a0 a1).bind fun t169 => ((hist_Mul.f a1 a0).bind fun t170 => (if t169 = t170 then ((hist_Times.f a0 1 1).bind fun t171 => ((hist_Clip.f a0).bind fun t172 => (if t171 = t172 then ((hist_Add.f a0 a1).bind fun t173 => ((hist_Add.f t173 a2).bind fun t174 => ((hist_Add.f a1 a2).bind fun t175 => ((hist_Add.f a0 t175).bind fun t176 => (some (t174 == t176)))))) else (some false)))) else (some false)))) else (some false)))) = some r := by rw [if_pos rfl] at H; exact H
                clear H
                have H := H1
                clear H1
                replace H := Option.bind_eq_some_iff.mp H
                obtain ⟨t167, A570, H⟩ := H
                replace H : ((hist_Add.f a1 a0).bind fun t168 => (if t167 = t168 then ((hist_Mul.f a0 a1).bind fun t169 => ((hist_Mul.f a1 a0).bind fun t170 => (if t169 = t170 then ((hist_Times.f a0 1 1).bind fun t171 => ((hist_Clip.f a0).bind fun t172 => (if t171 = t172 then ((hist_Add.f a0 a1).bind fun t173 => ((hist_Add.f t173 a2).bind fun t174 => ((hist_Add.f a1 a2).bind fun t175 => ((hist_Add.f a0 t175).bind fun t176 => (some (t174 == t176)))))) else (some false)))) else (some false)))) else (some false))) = some r := H
                have A57 := Aside0.mk A570
                clear A570
                replace H := Option.bind_eq_some_iff.mp H
                obtain ⟨t168, A580, H⟩ := H
                replace H : (if t167 = t168 then ((hist_Mul.f a0 a1).bind fun t169 => ((hist_Mul.f a1 a0).bind fun t170 => (if t169 = t170 then ((hist_Times.f a0 1 1).bind fun t171 => ((hist_Clip.f a0).bind fun t172 => (if t171 = t172 then ((hist_Add.f a0 a1).bind fun t173 => ((hist_Add.f t173 a2).bind fun t174 => ((hist_Add.f a1 a2).bind fun t175 => ((hist_Add.f a0 t175).bind fun t176 => (some (t174 == t176)))))) else (some false)))) else (some false)))) else (some false)) = some r := H
                have A58 := Aside0.mk A580
                clear A580
                by_cases c59 : t167 = t168
                · rw [if_pos c59] at H
                  have c59b0 : (t167 == t168) = true := beq_iff_eq.mpr c59
                  have c59b1 : (t167 != t168) = false := bne_eq_false_iff_eq.mpr c59
                  clear c59
                  replace H := Option.bind_eq_some_iff.mp H
                  obtain ⟨t169, A600, H⟩ := H
                  replace H : ((hist_Mul.f a1 a0).bind fun t170 => (if t169 = t170 then ((hist_Times.f a0 1 1).bind fun t171 => ((hist_Clip.f a0).bind fun t172 => (if t171 = t172 then ((hist_Add.f a0 a1).bind fun t173 => ((hist_Add.f t173 a2).bind fun t174 => ((hist_Add.f a1 a2).bind fun t175 => ((hist_Add.f a0 t175).bind fun t176 => (some (t174 == t176)))))) else (some false)))) else (some false))) = some r := H
                  have A60 := Aside0.mk A600
                  clear A600
                  replace H := Option.bind_eq_some_iff.mp H
                  obtain ⟨t170, A610, H⟩ := H
                  replace H : (if t169 = t170 then ((hist_Times.f a0 1 1).bind fun t171 => ((hist_Clip.f a0).bind fun t172 => (if t171 = t172 then ((hist_Add.f a0 a1).bind fun t173 => ((hist_Add.f t173 a2).bind fun t174 => ((hist_Add.f a1 a2).bind fun t175 => ((hist_Add.f a0 t175).bind fun t176 => (some (t174 == t176)))))) else (some false)))) else (some false)) = some r := H
                  have A61 := Aside0.mk A610
                  clear A610
                  by_cases c62 : t169 = t170
                  · rw [if_pos c62] at H
                    have c62b0 : (t169 == t170) = true := beq_iff_eq.mpr c62
                    have c62b1 : (t169 != t170) = false := bne_eq_false_iff_eq.mpr c62
                    clear c62
                    replace H := Option.bind_eq_some_iff.mp H
                    obtain ⟨t171, A630, H⟩ := H
                    replace H : ((hist_Clip.f a0).bind fun t172 => (if t171 = t172 then ((hist_Add.f a0 a1).bind fun t173 => ((hist_Add.f t173 a2).bind fun t174 => ((hist_Add.f a1 a2).bind fun t175 => ((hist_Add.f a0 t175).bind fun t176 => (some (t174 == t176)))))) else (some false))) = some r := H
                    have A63 := Aside0.mk A630
                    clear A630
                    replace H := Option.bind_eq_some_iff.mp H
                    obtain ⟨t172, A640, H⟩ := H
                    replace H : (if t171 = t172 then ((hist_Add.f a0 a1).bind fun t173 => ((hist_Add.f t173 a2).bind fun t174 => ((hist_Add.f a1 a2).bind fun t175 => ((hist_Add.f a0 t175).bind fun t176 => (some (t174 == t176)))))) else (some false)) = some r := H
                    have A64 := Aside0.mk A640
                    clear A640
                    by_cases c65 : t171 = t172
                    · rw [if_pos c65] at H
                      have c65b0 : (t171 == t172) = true := beq_iff_eq.mpr c65
                      have c65b1 : (t171 != t172) = false := bne_eq_false_iff_eq.mpr c65
                      clear c65
                      replace H := Option.bind_eq_some_iff.mp H
                      obtain ⟨t173, A660, H⟩ := H
                      replace H : ((hist_Add.f t173 a2).bind fun t174 => ((hist_Add.f a1 a2).bind fun t175 => ((hist_Add.f a0 t175).bind fun t176 => (some (t174 == t176))))) = some r := H
                      have A66 := Aside0.mk A660
                      clear A660
                      obtain rfl : t167 = t173 := Option.some.inj (A57.out.symm.trans A66.out)
                      replace H := Option.bind_eq_some_iff.mp H
                      obtain ⟨t174, A670, H⟩ := H
                      replace H : ((hist_Add.f a1 a2).bind fun t175 => ((hist_Add.f a0 t175).bind fun t176 => (some (t174 == t176)))) = some r := H
                      have A67 := Aside0.mk A670
                      clear A670
                      replace H := Option.bind_eq_some_iff.mp H
                      obtain ⟨t175, A680, H⟩ := H
                      replace H : ((hist_Add.f a0 t175).bind fun t176 => (some (t174 == t176))) = some r := H
                      have A68 := Aside0.mk A680
                      clear A680
                      replace H := Option.bind_eq_some_iff.mp H
                      obtain ⟨t176, A690, H⟩ := H
                      replace H : (some (t174 == t176)) = some r := H
                      have A69 := Aside0.mk A690
                      clear A690
                      obtain rfl := Option.some.inj H
                      go_wp2_with (first | (go_at_call 12; (with_reducible refine (hist_Add.calls a0 a1 t167 _ A57.out).mono ?_); rintro e w70 ⟨rfl, hb⟩; have n0_ := Aside0.mk (below_step (by repeat (first | (with_reducible first | exact HB.out | apply below_alloc | apply pw_below_drewN | apply below_drew1) | exact HB.out)) hb); clear HB; have HB := n0_; clear n0_; (try clear hb); (try clear hb2); (try clear hk); (try clear hi)) | (go_at_call 12; (with_reducible refine (hist_Add.calls a1 a0 t168 _ A58.out).mono ?_); rintro e w71 ⟨rfl, hb⟩; have n0_ := Aside0.mk (below_step (by repeat (first | (with_reducible first | exact HB.out | apply below_alloc | apply pw_below_drewN | apply below_drew1) | exact HB.out)) hb); clear HB; have HB := n0_; clear n0_; (try clear hb); (try clear hb2); (try clear hk); (try clear hi)) | (go_at_call 14; (with_reducible refine (hist_Mul.calls a0 a1 t169 _ A60.out).mono ?_); rintro e w72 ⟨rfl, hb⟩; have n0_ := Aside0.mk (below_step (by repeat (first | (with_reducible first | exact HB.out | apply below_alloc | apply pw_below_drewN | apply below_drew1) | exact HB.out)) hb); clear HB; have HB := n0_; clear n0_; (try clear hb); (try clear hb2); (try clear hk); (try clear hi)) | (go_at_call 14; (with_reducible refine (hist_Mul.calls a1 a0 t170 _ A61.out).mono ?_); rintro e w73 ⟨rfl, hb⟩; have n0_ := Aside0.mk (below_step (by repeat (first | (with_reducible first | exact HB.out | apply below_alloc | apply pw_below_drewN | apply below_drew1) | exact HB.out)) hb); clear HB; have HB := n0_; clear n0_; (try clear hb); (try clear hb2); (try clear hk); (try clear hi)) | (go_at_call 16; (with_reducible refine (hist_Times.calls a0 1 1 t171 _ A63.out).mono ?_); rintro e w74 ⟨rfl, hb⟩; have n0_ := Aside0.mk (below_step (by repeat (first | (with_reducible first | exact HB.out | apply below_alloc | apply pw_below_drewN | apply below_drew1) | exact HB.out)) hb); clear HB; have HB := n0_; clear n0_; (try clear hb); (try clear hb2); (try clear hk); (try clear hi)) | (go_at_call 10; (with_reducible refine (hist_Clip.calls a0 t172 _ A64.out).mono ?_); rintro e w75 ⟨rfl, hb⟩; have n0_ := Aside0.mk (below_step (by repeat (first | (with_reducible first | exact HB.out | apply below_alloc | apply pw_below_drewN | apply below_drew1) | exact HB.out)) hb); clear HB; have HB := n0_; clear n0_; (try clear hb); (try clear hb2); (try clear hk); (try clear hi)) | (go_at_call 12; (with_reducible refine (hist_Add.calls a0 a1 t167 _ A66.out).mono ?_); rintro e w76 ⟨rfl, hb⟩; have n0_ := Aside0.mk (below_step (by repeat (first | (with_reducible first | exact HB.out | apply below_alloc | apply pw_below_drewN | apply below_drew1) | exact HB.out)) hb); clear HB; have HB := n0_; clear n0_; (try clear hb); (try clear hb2); (try clear hk); (try clear hi)) | (go_at_call 12; (with_reducible refine (hist_Add.calls t167 a2 t174 _ A67.out).mono ?_); rintro e w77 ⟨rfl, hb⟩; have n0_ := Aside0.mk (below_step (by repeat (first | (with_reducible first | exact HB.out | apply below_alloc | apply pw_below_drewN | apply below_drew1) | exact HB.out)) hb); clear HB; have HB := n0_; clear n0_; (try clear hb); (try clear hb2); (try clear hk); (try clear hi)) | (go_at_call 12; (with_reducible refine (hist_Add.calls a1 a2 t175 _ A68.out).mono ?_); rintro e w78 ⟨rfl, hb⟩; have n0_ := Aside0.mk (below_step (by repeat (first | (with_reducible first | exact HB.out | apply below_alloc | apply pw_below_drewN | apply below_drew1) | exact HB.out)) hb); clear HB; have HB := n0_; clear n0_; (try clear hb); (try clear hb2); (try clear hk); (try clear hi)) | (go_at_call 12; (with_reducible refine (hist_Add.calls a0 t175 t176 _ A69.out).mono ?_); rintro e w79 ⟨rfl, hb⟩; have n0_ := Aside0.mk (below_step (by repeat (first | (with_reducible first | exact HB.out | apply below_alloc | apply pw_below_drewN | apply below_drew1) | exact HB.out)) hb); clear HB; have HB := n0_; clear n0_; (try clear hb); (try clear hb2); (try clear hk); (try clear hi)))
                      go_ret
                      exact ⟨by first | rfl | (simp [errW_none, errW_some] <;> rfl) | (simp [*, errW_none, errW_some] <;> rfl), by repeat (first | (with_reducible first | exact HB.out | apply below_alloc | apply pw_below_drewN | apply below_drew1) | exact HB.out)⟩
                    · rw [if_neg c65] at H
                      have c65b0 : (t171 == t172) = false := beq_eq_false_iff_ne.mpr c65
                      have c65b1 : (t171 != t172) = true := bne_iff_ne.mpr c65
                      exact absurd (Option.some.inj H) (fun h_ => absurd (h_.trans HRT.out) (by decide))
                  · rw [if_neg c62] at H
                    have c62b0 : (t169 == t170) = false := beq_eq_false_iff_ne.mpr c62
                    have c62b1 : (t169 != t170) = true := bne_iff_ne.mpr c62
                    exact absurd (Option.some.inj H) (fun h_ => absurd (h_.trans HRT.out) (by decide))
                · rw [if_neg c59] at H
                  have c59b0 : (t167 == t168) = false := beq_eq_false_iff_ne.mpr c59
                  have c59b1 : (t167 != t168) = true := bne_iff_ne.mpr c59
                  exact absurd (Option.some.inj H) (fun h_ => absurd (h_.trans HRT.out) (by decide))
              · replace c56 := Bool.eq_false_iff.mpr c56
                subst c56
                have H1 : (some false) = some r := by rw [if_neg (show ¬ (false = true) by decide)] at H; exact H
                clear H
                have H := H1
                clear H1
                exact absurd (Option.some.inj H) (fun h_ => absurd (h_.trans HRT.out) (by decide))

/-- THE ONE PURE STATEMENT of weathercocklaw13_HistHeld: yours. -/
def weathercocklaw13_HistHeld.Pure : Prop := ∀ (a0 : Int) (a1 : Int) (a2 : Int), (Lit.int .i64 a0).wf = true → (Lit.int .i64 a1).wf = true → (Lit.int .i64 a2).wf = true → ∃ k, weathercocklaw13_HistHeld.f k a0 a1 a2 = some true
theorem weathercocklaw13_HistHeld.walk (P : weathercocklaw13_HistHeld.Pure) (a0 : Int) (a1 : Int) (a2 : Int) (w : World) (w0 : (Lit.int .i64 a0).wf = true) (w1 : (Lit.int .i64 a1).wf = true) (w2 : (Lit.int .i64 a2).wf = true) :
    Calls Try.prog 5 #[.int .i64 a0, .int .i64 a1, .int .i64 a2] w fun e w' => e = .returned (.bool true) ∧ Below w.heap.size w w' := by
  obtain ⟨k, h⟩ := P a0 a1 a2 w0 w1 w2
  refine (weathercocklaw13_HistHeld.calls k a0 a1 a2 true w h rfl).mono ?_
  rintro e w' ⟨rfl, hd⟩
  exact ⟨rfl, hd⟩

end Go.Proofs.Ytlhpldhejhfkaaa.QHistHeld
