-- Written by wip/tools/myprint.py of this project (the kit's printer with lines replaced in memory, and texts of ours)
import Derived.Test.YtlhpldhejhfkaaaQHistWholex0
import Derived.Test.YtlhpldhejhfkaaaQHistWholex1
import Derived.Test.YtlhpldhejhfkaaaQHistWholex3
namespace Go.Proofs.Ytlhpldhejhfkaaa.QHistWhole
open Go.RowKit Go.Proofs.YtlhpldhejhfkaaaW.PrintWords Go.Proofs.YtlhpldhejhfkaaaW.PrintLast Go.Proofs.YtlhpldhejhfkaaaW.PrintMore
attribute [local go_sem] max2_int min2_int max_two min_two max_three min_three max_four min_four   -- for this text's walks alone
set_option linter.unusedVariables false
set_option linter.unusedSimpArgs false

/-! ### weathercocklaw13_examples0: function 9 -/
def weathercocklaw13_examples0.f (k : Nat)  : Option (Bool) := (weathercocklaw13_n.f 5).bind fun bt131 => ((weathercocklaw13_n.f 9).bind fun bt134 => ((weathercocklaw13_n.f 6).bind fun bt141 => ((hist_Part.f k 12 0 0 (([(⟨(⟨bt131.1, bt131.2.1, bt131.2.2⟩ : S31), 10⟩ : S39), (⟨(⟨bt134.1, bt134.2.1, bt134.2.2⟩ : S31), 30⟩ : S39)] : List (S39))) bt141.1 bt141.2.1 bt141.2.2).bind fun bt144 => ((hist_Mul.f 1000000000 1000000000).bind fun t146 => (if t146 = 1000000000000 then ((hist_Times.f 10 1 3).bind fun t147 => (if t147 = 3 then ((hist_Clip.f (-5)).bind fun t148 => (if t148 = 0 then (if bt144.1 = 10 then (some (bt144.2 == 40)) else (some false)) else (some false))) else (some false))) else (some false))))))
theorem weathercocklaw13_examples0.mono : ∀ k, LeO (weathercocklaw13_examples0.f k ) (weathercocklaw13_examples0.f (k + 1) ) := by
  intro  k
  unfold weathercocklaw13_examples0.f
  repeat' first
      | (with_reducible exact hist_Part.mono _ _ _ _ _ _ _ _)
      | (with_reducible exact LeO.refl _)
      | (with_reducible exact LeO.none _)
      | (with_reducible refine LeO.ite ?_ ?_)
      | (with_reducible refine LeO.bind ?_ (fun _ => ?_))
      | exact hist_Part.mono _ _ _ _ _ _ _ _
      | exact LeO.none _
      | refine LeO.ite ?_ ?_
      | refine LeO.bind ?_ (fun _ => ?_)
def weathercocklaw13_examples0.T2 : Bool × List (List Nat × List Nat) := (true, [([], []), ([], []), ([0, 1, 1], [0, 1]), ([2], [2]), ([3], [3]), ([3], [3]), ([4, 2, 0, 1, 2, 3, 4], [4]), ([5, 6, 0, 1, 2, 3, 4, 5, 6], [5])])
def weathercocklaw13_examples0.B2 : List Nat := [0, 0, 3, 7, 15, 15, 31, 127]
theorem weathercocklaw13_examples0.tab2 : rtab .any (opsOf Try.f9 2) = weathercocklaw13_examples0.T2 := by kernel_rfl
theorem weathercocklaw13_examples0.bits2 : waitsOk weathercocklaw13_examples0.T2.2 weathercocklaw13_examples0.B2 = true := by kernel_rfl
set_option maxHeartbeats 8000000 in
set_option maxRecDepth 100000 in
theorem weathercocklaw13_examples0.calls (k : Nat)  (r : Bool) (w : World) (h : weathercocklaw13_examples0.f k  = some r) (hrt : r = true) :
    Calls Try.prog 9 #[] w fun e w' => e = .returned (.bool r) ∧ Below w.heap.size w w' := by
  have HRT := Aside0.mk hrt
  clear hrt
  have hu39 := Try.underlying39
  have hu29 := Try.underlying29
  have HB := Aside0.mk (Below.refl w.heap.size w)
  have H : ((weathercocklaw13_n.f 5).bind fun bt131 => ((weathercocklaw13_n.f 9).bind fun bt134 => ((weathercocklaw13_n.f 6).bind fun bt141 => ((hist_Part.f k 12 0 0 (([(⟨(⟨bt131.1, bt131.2.1, bt131.2.2⟩ : S31), 10⟩ : S39), (⟨(⟨bt134.1, bt134.2.1, bt134.2.2⟩ : S31), 30⟩ : S39)] : List (S39))) bt141.1 bt141.2.1 bt141.2.2).bind fun bt144 => ((hist_Mul.f 1000000000 1000000000).bind fun t146 => (if t146 = 1000000000000 then ((hist_Times.f 10 1 3).bind fun t147 => (if t147 = 3 then ((hist_Clip.f (-5)).bind fun t148 => (if t148 = 0 then (if bt144.1 = 10 then (some (bt144.2 == 40)) else (some false)) else (some false))) else (some false))) else (some false))))))) = some r := h
  clear h
  replace H := Option.bind_eq_some_iff.mp H
  obtain ⟨⟨t131, t132, t133⟩, A10, H⟩ := H
  replace H : ((weathercocklaw13_n.f 9).bind fun bt134 => ((weathercocklaw13_n.f 6).bind fun bt141 => ((hist_Part.f k 12 0 0 (([(⟨(⟨t131, t132, t133⟩ : S31), 10⟩ : S39), (⟨(⟨bt134.1, bt134.2.1, bt134.2.2⟩ : S31), 30⟩ : S39)] : List (S39))) bt141.1 bt141.2.1 bt141.2.2).bind fun bt144 => ((hist_Mul.f 1000000000 1000000000).bind fun t146 => (if t146 = 1000000000000 then ((hist_Times.f 10 1 3).bind fun t147 => (if t147 = 3 then ((hist_Clip.f (-5)).bind fun t148 => (if t148 = 0 then (if bt144.1 = 10 then (some (bt144.2 == 40)) else (some false)) else (some false))) else (some false))) else (some false)))))) = some r := H
  have A1 := Aside0.mk A10
  clear A10
  replace H := Option.bind_eq_some_iff.mp H
  obtain ⟨⟨t134, t135, t136⟩, A20, H⟩ := H
  replace H : ((weathercocklaw13_n.f 6).bind fun bt141 => ((hist_Part.f k 12 0 0 (([(⟨(⟨t131, t132, t133⟩ : S31), 10⟩ : S39), (⟨(⟨t134, t135, t136⟩ : S31), 30⟩ : S39)] : List (S39))) bt141.1 bt141.2.1 bt141.2.2).bind fun bt144 => ((hist_Mul.f 1000000000 1000000000).bind fun t146 => (if t146 = 1000000000000 then ((hist_Times.f 10 1 3).bind fun t147 => (if t147 = 3 then ((hist_Clip.f (-5)).bind fun t148 => (if t148 = 0 then (if bt144.1 = 10 then (some (bt144.2 == 40)) else (some false)) else (some false))) else (some false))) else (some false))))) = some r := H
  have A2 := Aside0.mk A20
  clear A20
  obtain ⟨y137, hy137⟩ : ∃ y_ : List (S39), y_ = (([(⟨(⟨t131, t132, t133⟩ : S31), 10⟩ : S39), (⟨(⟨t134, t135, t136⟩ : S31), 30⟩ : S39)] : List (S39))) := ⟨_, rfl⟩
  replace H : ((weathercocklaw13_n.f 6).bind fun bt141 => ((hist_Part.f k 12 0 0 y137 bt141.1 bt141.2.1 bt141.2.2).bind fun bt144 => ((hist_Mul.f 1000000000 1000000000).bind fun t146 => (if t146 = 1000000000000 then ((hist_Times.f 10 1 3).bind fun t147 => (if t147 = 3 then ((hist_Clip.f (-5)).bind fun t148 => (if t148 = 0 then (if bt144.1 = 10 then (some (bt144.2 == 40)) else (some false)) else (some false))) else (some false))) else (some false))))) = some r := by first | (rw [hy137]; with_reducible exact H) | (have H2_ := (Option.bind_some _ _).symm.trans H; rw [hy137]; with_reducible exact H2_) | (have H2_ := (Option.bind_some _ _).symm.trans H; with_reducible exact H2_) | with_reducible exact H | (rw [hy137]; exact H) | exact H
  have Ny137 := Aside0.mk hy137
  clear hy137
  replace H := Option.bind_eq_some_iff.mp H
  obtain ⟨⟨t141, t142, t143⟩, A30, H⟩ := H
  replace H : ((hist_Part.f k 12 0 0 y137 t141 t142 t143).bind fun bt144 => ((hist_Mul.f 1000000000 1000000000).bind fun t146 => (if t146 = 1000000000000 then ((hist_Times.f 10 1 3).bind fun t147 => (if t147 = 3 then ((hist_Clip.f (-5)).bind fun t148 => (if t148 = 0 then (if bt144.1 = 10 then (some (bt144.2 == 40)) else (some false)) else (some false))) else (some false))) else (some false)))) = some r := H
  have A3 := Aside0.mk A30
  clear A30
  replace H := Option.bind_eq_some_iff.mp H
  obtain ⟨⟨t144, t145⟩, A40, H⟩ := H
  replace H : ((hist_Mul.f 1000000000 1000000000).bind fun t146 => (if t146 = 1000000000000 then ((hist_Times.f 10 1 3).bind fun t147 => (if t147 = 3 then ((hist_Clip.f (-5)).bind fun t148 => (if t148 = 0 then (if t144 = 10 then (some (t145 == 40)) else (some false)) else (some false))) else (some false))) else (some false))) = some r := H
  have A4 := Aside0.mk A40
  clear A40
  replace H := Option.bind_eq_some_iff.mp H
  obtain ⟨t146, A50, H⟩ := H
  replace H : (if t146 = 1000000000000 then ((hist_Times.f 10 1 3).bind fun t147 => (if t147 = 3 then ((hist_Clip.f (-5)).bind fun t148 => (if t148 = 0 then (if t144 = 10 then (some (t145 == 40)) else (some false)) else (some false))) else (some false))) else (some false)) = some r := H
  have A5 := Aside0.mk A50
  clear A50
  by_cases c6 : t146 = 1000000000000
  · rw [if_pos c6] at H
    have c6b0 : (t146 == 1000000000000) = true := beq_iff_eq.mpr c6
    have c6b1 : (t146 != 1000000000000) = false := bne_eq_false_iff_eq.mpr c6
    clear c6
    replace H := Option.bind_eq_some_iff.mp H
    obtain ⟨t147, A70, H⟩ := H
    replace H : (if t147 = 3 then ((hist_Clip.f (-5)).bind fun t148 => (if t148 = 0 then (if t144 = 10 then (some (t145 == 40)) else (some false)) else (some false))) else (some false)) = some r := H
    have A7 := Aside0.mk A70
    clear A70
    by_cases c8 : t147 = 3
    · rw [if_pos c8] at H
      have c8b0 : (t147 == 3) = true := beq_iff_eq.mpr c8
      have c8b1 : (t147 != 3) = false := bne_eq_false_iff_eq.mpr c8
      clear c8
      replace H := Option.bind_eq_some_iff.mp H
      obtain ⟨t148, A90, H⟩ := H
      replace H : (if t148 = 0 then (if t144 = 10 then (some (t145 == 40)) else (some false)) else (some false)) = some r := H
      have A9 := Aside0.mk A90
      clear A90
      by_cases c10 : t148 = 0
      · rw [if_pos c10] at H
        have c10b0 : (t148 == 0) = true := beq_iff_eq.mpr c10
        have c10b1 : (t148 != 0) = false := bne_eq_false_iff_eq.mpr c10
        clear c10
        by_cases c11 : t144 = 10
        · rw [if_pos c11] at H
          have c11b0 : (t144 == 10) = true := beq_iff_eq.mpr c11
          have c11b1 : (t144 != 10) = false := bne_eq_false_iff_eq.mpr c11
          clear c11
          obtain rfl := Option.some.inj H
          go_enter Try.func9, Try.ntmps9
          try go_wp2_with (first | ((with_reducible refine gate_callee (f := 25) rfl ?_); refine goesL_ (some 4) rfl rfl Try.func25 (by kernel_rfl) rfl #[.int .i64 5] rfl (by (try simp only [List.map_toArray, List.map_cons, List.map_nil]); first | done | rfl | (simp only [List.length_drop, List.length_take]; rfl)) ?_; (with_reducible refine (weathercocklaw13_n.calls 5 t131 t132 t133 _ A1.out).mono ?_); rintro e w12 ⟨rfl, hb⟩; refine ⟨_, rfl, ?_⟩; have n0_ := Aside0.mk (below_step (by repeat (first | (with_reducible first | exact HB.out | apply below_alloc | apply pw_below_drewN | apply below_drew1) | exact HB.out)) hb); clear HB; have HB := n0_; clear n0_; (try clear hb); (try clear hb2); (try clear hk); (try clear hi)) | ((with_reducible refine gate_callee (f := 25) rfl ?_); refine goesL_ (some 6) rfl rfl Try.func25 (by kernel_rfl) rfl #[.int .i64 9] rfl (by (try simp only [List.map_toArray, List.map_cons, List.map_nil]); first | done | rfl | (simp only [List.length_drop, List.length_take]; rfl)) ?_; (with_reducible refine (weathercocklaw13_n.calls 9 t134 t135 t136 _ A2.out).mono ?_); rintro e w13 ⟨rfl, hb⟩; refine ⟨_, rfl, ?_⟩; have n0_ := Aside0.mk (below_step (by repeat (first | (with_reducible first | exact HB.out | apply below_alloc | apply pw_below_drewN | apply below_drew1) | exact HB.out)) hb); clear HB; have HB := n0_; clear n0_; (try clear hb); (try clear hb2); (try clear hk); (try clear hi)) | ((with_reducible refine gate_dst (N := 8) rfl ?_); refine Kd.R_lit k39 _ 39 ?hg (N := 8) ?hd (xs := ([(⟨(⟨t131, t132, t133⟩ : S31), 10⟩ : S39), (⟨(⟨t134, t135, t136⟩ : S31), 30⟩ : S39)] : List (S39))) (inner := [.int .i64 t131, .int .i64 t132, .string t133, .int .i64 10, .int .i64 t134, .int .i64 t135, .string t136, .int .i64 30]) (ok := fun _ => True) (okp := fun _ => True) ?hr ?hp (fun _ hk => hk) trivial (Below.refl _ _) (Nat.le_refl _) (by simp) ?_; (case hd => rfl); (case hg => rfl); (case hr => first | (go_simp; done) | (go_simp; rfl)); (case hp => exact (Reps.c4 (show Kd.M k39 _ _ _ (⟨(⟨t131, t132, t133⟩ : S31), 10⟩ : S39) [.int .i64 t131, .int .i64 t132, .string t133, .int .i64 10] from (k39_mkM _ _ _ (⟨(⟨t131, t132, t133⟩ : S31), 10⟩ : S39) )) (Reps.c4 (show Kd.M k39 _ _ _ (⟨(⟨t134, t135, t136⟩ : S31), 30⟩ : S39) [.int .i64 t134, .int .i64 t135, .string t136, .int .i64 30] from (k39_mkM _ _ _ (⟨(⟨t134, t135, t136⟩ : S31), 30⟩ : S39) )) (Reps.none _ _)))); intro v138 w14 ho15 hb hg_ hnew_; clear hg_ hnew_; (first | rw [← Ny137.out] at ho15 | (simp only [Int.reduceToNat] at ho15; rw [← Ny137.out] at ho15)); have n0_ := Aside0.mk (Kd.R_lower ho15 (below_size (by repeat (first | (with_reducible first | exact HB.out | apply below_alloc | apply pw_below_drewN | apply below_drew1) | exact HB.out)))); have n1_ := Aside0.mk (below_step (by repeat (first | (with_reducible first | exact HB.out | apply below_alloc | apply pw_below_drewN | apply below_drew1) | exact HB.out)) hb); clear HB; have HO139 := n0_; have HB := n1_; clear n0_ n1_; clear hb ho15; obtain ⟨Ao16, co16, eo16⟩ := Kd.R_slice HO139.out; subst eo16) | ((with_reducible refine gate_dst (N := 1) rfl ?_); refine box_event ?hg (N := 1) ?hd (cs := #[.int .i64 0, .int .i64 0, .slice none 0 0]) (t := 29) ?hr ?_; (case hd => rfl); (case hg => rfl); (case hr => first | (go_simp; done) | (go_simp; rfl)); intro gb140 hg w17 hbox hb; have n0_ := Aside0.mk (Kd.R_below (by (with_reducible repeat (first | apply Kd.R_alloc | apply Kd.R_drewN | apply Kd.R_drew)); exact HO139.out) hb); have n1_ := Aside0.mk (below_step (by repeat (first | (with_reducible first | exact HB.out | apply below_alloc | apply pw_below_drewN | apply below_drew1) | exact HB.out)) hb); have n2_ := Aside0.mk (hbox); have n3_ := Aside0.mk ((by rw [hg]; exact (below_size (by repeat (first | (with_reducible first | exact HB.out | apply below_alloc | apply pw_below_drewN | apply below_drew1) | exact HB.out))) : w.heap.size ≤ gb140)); have n4_ := Aside0.mk ((by rw [hg]; exact (below_size (by repeat (first | (with_reducible first | exact HB.out | apply below_alloc | apply pw_below_drewN | apply below_drew1) | exact HB.out))) : w.heap.size ≤ gb140)); clear HO139; clear HB; have HO139 := n0_; have HB := n1_; have BK140 := n2_; have GW140 := n3_; have GE140 := n4_; clear n0_ n1_ n2_ n3_ n4_; clear hb hbox hg; have hcz18_0 : w17.cell? ⟨gb140, 0, none⟩ = some (.int .i64 0) := (blk_cell BK140.out 0).trans rfl; have hcz18_1 : w17.cell? ⟨gb140, 1, none⟩ = some (.int .i64 0) := (blk_cell BK140.out 1).trans rfl; have hcz18_2 : w17.cell? ⟨gb140, 2, none⟩ = some (.slice none 0 0) := (blk_cell BK140.out 2).trans rfl; have hfz18_0 := blk_frozen BK140.out 0; have hfz18_1 := blk_frozen BK140.out 1; have hfz18_2 := blk_frozen BK140.out 2))
          have n0_ : Aside0 (Kd.R k39 39 (((w17.setCell ⟨gb140, 0, none⟩ (.int .i64 0)).setCell ⟨gb140, 1, none⟩ (.int .i64 0)).setCell ⟨gb140, 2, none⟩ (.slice Ao16 y137.length co16)) w.heap.size (fun _ => True) (.slice Ao16 y137.length co16) y137) := ⟨by (with_reducible repeat (first | apply Kd.R_alloc | apply Kd.R_drewN | apply Kd.R_drew)); exact Kd.R_mono (Kd.R_far (p := ⟨gb140, 2, none⟩) (Kd.R_far (p := ⟨gb140, 1, none⟩) (Kd.R_far (p := ⟨gb140, 0, none⟩) (Kd.R_types HO139.out BK140.out (by decide)) (fun _ hk => hk.2) (.int .i64 0)) (fun _ hk => hk.2) (.int .i64 0)) (fun _ hk => hk.2) (.slice Ao16 y137.length co16)) (fun _ hk => trivial)⟩
          have n1_ : Aside0 ((((w17.setCell ⟨gb140, 0, none⟩ (.int .i64 0)).setCell ⟨gb140, 1, none⟩ (.int .i64 0)).setCell ⟨gb140, 2, none⟩ (.slice Ao16 y137.length co16)).heap[gb140]? = some (.cells #[.int .i64 0, .int .i64 0, .slice Ao16 y137.length co16] 29 (0, 0))) := ⟨by (with_reducible repeat (first | refine blk_drewN ?_ _ | refine blk_drew ?_ | refine blk_alloc ?_ _)); refine blk_put (cs := #[.int .i64 0, .int .i64 0, .slice none 0 0]) ?_ 2 _ rfl; (with_reducible repeat (first | refine blk_drewN ?_ _ | refine blk_drew ?_ | refine blk_alloc ?_ _)); refine blk_put (cs := #[.int .i64 0, .int .i64 0, .slice none 0 0]) ?_ 1 _ rfl; (with_reducible repeat (first | refine blk_drewN ?_ _ | refine blk_drew ?_ | refine blk_alloc ?_ _)); refine blk_put (cs := #[.int .i64 0, .int .i64 0, .slice none 0 0]) ?_ 0 _ rfl; (with_reducible repeat (first | refine blk_drewN ?_ _ | refine blk_drew ?_ | refine blk_alloc ?_ _)); exact BK140.out⟩
          have n2_ : Aside0 (Below w.heap.size w (((w17.setCell ⟨gb140, 0, none⟩ (.int .i64 0)).setCell ⟨gb140, 1, none⟩ (.int .i64 0)).setCell ⟨gb140, 2, none⟩ (.slice Ao16 y137.length co16))) := ⟨by repeat (first | (with_reducible first | exact HB.out | apply below_alloc | apply pw_below_drewN | apply below_drew1 | refine below_set ?_ GE140.out) | exact HB.out)⟩
          (try clear HO139)
          (try clear BK140)
          (try clear HB)
          generalize (((w17.setCell ⟨gb140, 0, none⟩ (.int .i64 0)).setCell ⟨gb140, 1, none⟩ (.int .i64 0)).setCell ⟨gb140, 2, none⟩ (.slice Ao16 y137.length co16)) = w19 at n0_ n1_ n2_ ⊢
          have HO139 := n0_
          have BK140 := n1_
          have HB := n2_
          clear n0_ n1_ n2_
          have n0_ := Aside0.mk (Kd.R_drew HO139.out)
          have n1_ := Aside0.mk (blk_drew BK140.out)
          have n2_ := Aside0.mk (below_drew1 HB.out)
          clear HO139
          clear BK140
          clear HB
          have HO139 := n0_
          have BK140 := n1_
          have HB := n2_
          clear n0_ n1_ n2_
          refine start_ (n := 8) (S := fun w' => w'.cell? ⟨gb140, 0, none⟩ = some (.int .i64 0) ∧ w'.cell? ⟨gb140, 1, none⟩ = some (.int .i64 0) ∧ w'.cell? ⟨gb140, 2, none⟩ = some (.slice Ao16 y137.length co16)) (ds := []) #[false, false, false, false, false, false, false, false] (by kernel_rfl) rfl rfl ⟨(blk_cell BK140.out 0).trans rfl, (blk_cell BK140.out 1).trans rfl, (blk_cell BK140.out 2).trans rfl⟩ (fun hHeld => ?_); refine with_tabW weathercocklaw13_examples0.tab2 weathercocklaw13_examples0.bits2 (fun HT_ HW_ => ?_)
          generalize w19.drew = w20 at HO139 BK140 HB hHeld ⊢
          refine take_ (i := 0) (N := some 11) (v := ?_) (a' := ?_) #[true, false, false, false, false, false, false, false] rfl rfl (take_ofW HT_.out HW_.out (by kernel_rfl)) (fun _ _ _ h => h) (Or.inl ⟨by rfl, ?_⟩) hHeld ?_ ?_
          rotate_left
          · rintro w' ⟨s0, s1, s2⟩
            go_simp
            with_reducible rfl
          rotate_left
          · simp only [Act.put, List.setIfInBounds_toArray, List.set_cons_zero, List.set_cons_succ, i64_w, i32_w]
            rfl
          refine one_ (i := 1) (N := some 12) #[true, true, false, false, false, false, false, false] rfl rfl (one_of HT_.out (by kernel_rfl)) (by decide) (fun K hK => ?_)
          refine goes_ Try.func25 (by kernel_rfl) rfl #[.int .i64 6] (by rfl) rfl rfl (by (try simp only [List.map_toArray, List.map_cons, List.map_nil]); first | done | rfl | (simp only [List.length_drop, List.length_take]; rfl)) ?_
          with_reducible refine (weathercocklaw13_n.calls 6 t141 t142 t143 _ A3.out).mono ?_
          rintro e w21 ⟨rfl, hb⟩
          refine ⟨_, rfl, ?_⟩
          have n0_ := Aside0.mk (Kd.R_below (by (with_reducible repeat (first | apply Kd.R_alloc | apply Kd.R_drewN | apply Kd.R_drew)); exact HO139.out) hb)
          have n1_ := Aside0.mk (blk_below (g := gb140) (o := .cells #[.int .i64 0, .int .i64 0, .slice Ao16 y137.length co16] 29 (0, 0)) (by (with_reducible repeat (first | refine blk_drewN ?_ _ | refine blk_drew ?_ | refine blk_alloc ?_ _)); exact BK140.out) hb)
          have n2_ := Aside0.mk (below_step (by repeat (first | (with_reducible first | exact HB.out | apply below_alloc | apply pw_below_drewN | apply below_drew1 | refine below_set ?_ GE140.out) | exact HB.out)) hb)
          clear HO139
          clear BK140
          clear HB
          have HO139 := n0_
          have BK140 := n1_
          have HB := n2_
          clear n0_ n1_ n2_
          (try clear hb)
          (try clear hb2)
          (try clear hk)
          (try clear hi)
          refine hK.out _ _ ⟨(blk_cell BK140.out 0).trans rfl, (blk_cell BK140.out 1).trans rfl, (blk_cell BK140.out 2).trans rfl⟩ (fun hHeld => ?_)
          clear hK K
          refine norm_ (a' := ?_) ?_ ?_
          rotate_left
          · show Act.put _ (some 12) _ = _
            simp only [Act.put, List.setIfInBounds_toArray, List.set_cons_zero, List.set_cons_succ, i64_w, i32_w]
            rfl
          refine one_ (i := 2) (N := some 13) #[true, true, true, false, false, false, false, false] rfl rfl (one_of HT_.out (by kernel_rfl)) (by decide) (fun K hK => ?_)
          refine goes_ Try.func18 (by kernel_rfl) rfl #[.int .i64 12, .agg #[.int .i64 0, .int .i64 0, .slice Ao16 y137.length co16], .agg #[.int .i64 t141, .int .i64 t142, .string t143]] (by rfl) rfl rfl (by (try simp only [List.map_toArray, List.map_cons, List.map_nil]); first | done | rfl | (simp only [List.length_drop, List.length_take]; rfl)) ?_
          with_reducible refine (hist_Part.calls k 12 0 0 _ _ y137 t141 t142 t143 t144 t145 _ ?side1 ?side2 A4.out).mono ?_
          (case side1 => repeat (first | exact (Kd.R_reads' HO139.out).2.2 | (with_reducible refine Kd.C_alloc ?_ _) | (with_reducible refine Kd.C_drewN ?_ _) | (with_reducible refine Kd.C_drew ?_)))
          (case side2 => exact (Kd.R_reads' HO139.out).2.1)
          rintro e w22 ⟨rfl, hb⟩
          refine ⟨_, rfl, ?_⟩
          have n0_ := Aside0.mk (Kd.R_below (by (with_reducible repeat (first | apply Kd.R_alloc | apply Kd.R_drewN | apply Kd.R_drew)); exact HO139.out) hb)
          have n1_ := Aside0.mk (blk_below (g := gb140) (o := .cells #[.int .i64 0, .int .i64 0, .slice Ao16 y137.length co16] 29 (0, 0)) (by (with_reducible repeat (first | refine blk_drewN ?_ _ | refine blk_drew ?_ | refine blk_alloc ?_ _)); exact BK140.out) hb)
          have n2_ := Aside0.mk (below_step (by repeat (first | (with_reducible first | exact HB.out | apply below_alloc | apply pw_below_drewN | apply below_drew1 | refine below_set ?_ GE140.out) | exact HB.out)) hb)
          clear HO139
          clear BK140
          clear HB
          have HO139 := n0_
          have BK140 := n1_
          have HB := n2_
          clear n0_ n1_ n2_
          (try clear hb)
          (try clear hb2)
          (try clear hk)
          (try clear hi)
          refine hK.out _ _ ⟨(blk_cell BK140.out 0).trans rfl, (blk_cell BK140.out 1).trans rfl, (blk_cell BK140.out 2).trans rfl⟩ (fun hHeld => ?_)
          clear hK K
          refine norm_ (a' := ?_) ?_ ?_
          rotate_left
          · show Act.put _ (some 13) _ = _
            simp only [Act.put, List.setIfInBounds_toArray, List.set_cons_zero, List.set_cons_succ, i64_w, i32_w]
            rfl
          refine pure_ (i := 3) (N := some 10) (v := ?_) (a' := ?_) #[true, true, true, true, false, false, false, false] rfl rfl (any_of HT_.out (by kernel_rfl)) (fun _ _ _ h => h) (Or.inl ⟨by rfl, ?_⟩) ?_ ?_
          rotate_left
          · intro w'
            go_simp
            with_reducible rfl
          rotate_left
          · simp only [Act.put, List.setIfInBounds_toArray, List.set_cons_zero, List.set_cons_succ, i64_w, i32_w]
            rfl
          refine pure_ (i := 4) (N := some 14) (v := ?_) (a' := ?_) #[true, true, true, true, true, false, false, false] rfl rfl (any_of HT_.out (by kernel_rfl)) (fun _ _ _ h => h) (Or.inl ⟨by rfl, ?_⟩) ?_ ?_
          rotate_left
          · intro w'
            go_simp
            with_reducible rfl
          rotate_left
          · simp only [Act.put, List.setIfInBounds_toArray, List.set_cons_zero, List.set_cons_succ, i64_w, i32_w]
            rfl
          refine pure_ (i := 5) (N := some 15) (v := ?_) (a' := ?_) #[true, true, true, true, true, true, false, false] rfl rfl (any_of HT_.out (by kernel_rfl)) (fun _ _ _ h => h) (Or.inl ⟨by rfl, ?_⟩) ?_ ?_
          rotate_left
          · intro w'
            go_simp
            with_reducible rfl
          rotate_left
          · simp only [Act.put, List.setIfInBounds_toArray, List.set_cons_zero, List.set_cons_succ, i64_w, i32_w]
            rfl
          refine pure_ (i := 6) (N := some 2) (v := ?_) (a' := ?_) #[true, true, true, true, true, true, true, false] rfl rfl (any_of HT_.out (by kernel_rfl)) (fun _ _ _ h => h) (Or.inl ⟨by rfl, ?_⟩) ?_ ?_
          rotate_left
          · intro w'
            go_simp
            with_reducible rfl
          rotate_left
          · simp only [Act.put, List.setIfInBounds_toArray, List.set_cons_zero, List.set_cons_succ, i64_w, i32_w]
            rfl
          refine pure_ (i := 7) (N := some 3) (v := ?_) (a' := ?_) #[true, true, true, true, true, true, true, true] rfl rfl (any_of HT_.out (by kernel_rfl)) (fun _ _ _ h => h) (Or.inl ⟨by rfl, ?_⟩) ?_ ?_
          rotate_left
          · intro w'
            go_simp
            with_reducible rfl
          rotate_left
          · simp only [Act.put, List.setIfInBounds_toArray, List.set_cons_zero, List.set_cons_succ, i64_w, i32_w]
            rfl
          refine done_ (done_of HT_.out (by kernel_rfl)) ?_
          try go_wp2_with (first | ((with_reducible refine gate_callee (f := 14) rfl ?_); refine goesL_ (some 16) rfl rfl Try.func14 (by kernel_rfl) rfl #[.int .i64 1000000000, .int .i64 1000000000] rfl (by (try simp only [List.map_toArray, List.map_cons, List.map_nil]); first | done | rfl | (simp only [List.length_drop, List.length_take]; rfl)) ?_; (with_reducible refine (hist_Mul.calls 1000000000 1000000000 t146 _ A5.out).mono ?_); rintro e w23 ⟨rfl, hb⟩; refine ⟨_, rfl, ?_⟩; have n0_ := Aside0.mk (Kd.R_below (by (with_reducible repeat (first | apply Kd.R_alloc | apply Kd.R_drewN | apply Kd.R_drew)); exact HO139.out) hb); have n1_ := Aside0.mk (blk_below (g := gb140) (o := .cells #[.int .i64 0, .int .i64 0, .slice Ao16 y137.length co16] 29 (0, 0)) (by (with_reducible repeat (first | refine blk_drewN ?_ _ | refine blk_drew ?_ | refine blk_alloc ?_ _)); exact BK140.out) hb); have n2_ := Aside0.mk (below_step (by repeat (first | (with_reducible first | exact HB.out | apply below_alloc | apply pw_below_drewN | apply below_drew1 | refine below_set ?_ GE140.out) | exact HB.out)) hb); clear HO139; clear BK140; clear HB; have HO139 := n0_; have BK140 := n1_; have HB := n2_; clear n0_ n1_ n2_; (try clear hb); (try clear hb2); (try clear hk); (try clear hi)) | (go_at_call 16; (with_reducible refine (hist_Times.calls 10 1 3 t147 _ A7.out).mono ?_); rintro e w24 ⟨rfl, hb⟩; have n0_ := Aside0.mk (Kd.R_below (by (with_reducible repeat (first | apply Kd.R_alloc | apply Kd.R_drewN | apply Kd.R_drew)); exact HO139.out) hb); have n1_ := Aside0.mk (blk_below (g := gb140) (o := .cells #[.int .i64 0, .int .i64 0, .slice Ao16 y137.length co16] 29 (0, 0)) (by (with_reducible repeat (first | refine blk_drewN ?_ _ | refine blk_drew ?_ | refine blk_alloc ?_ _)); exact BK140.out) hb); have n2_ := Aside0.mk (below_step (by repeat (first | (with_reducible first | exact HB.out | apply below_alloc | apply pw_below_drewN | apply below_drew1 | refine below_set ?_ GE140.out) | exact HB.out)) hb); clear HO139; clear BK140; clear HB; have HO139 := n0_; have BK140 := n1_; have HB := n2_; clear n0_ n1_ n2_; (try clear hb); (try clear hb2); (try clear hk); (try clear hi)) | (go_at_call 10; (with_reducible refine (hist_Clip.calls (-5) t148 _ A9.out).mono ?_); rintro e w25 ⟨rfl, hb⟩; have n0_ := Aside0.mk (Kd.R_below (by (with_reducible repeat (first | apply Kd.R_alloc | apply Kd.R_drewN | apply Kd.R_drew)); exact HO139.out) hb); have n1_ := Aside0.mk (blk_below (g := gb140) (o := .cells #[.int .i64 0, .int .i64 0, .slice Ao16 y137.length co16] 29 (0, 0)) (by (with_reducible repeat (first | refine blk_drewN ?_ _ | refine blk_drew ?_ | refine blk_alloc ?_ _)); exact BK140.out) hb); have n2_ := Aside0.mk (below_step (by repeat (first | (with_reducible first | exact HB.out | apply below_alloc | apply pw_below_drewN | apply below_drew1 | refine below_set ?_ GE140.out) | exact HB.out)) hb); clear HO139; clear BK140; clear HB; have HO139 := n0_; have BK140 := n1_; have HB := n2_; clear n0_ n1_ n2_; (try clear hb); (try clear hb2); (try clear hk); (try clear hi)))
          go_ret
          exact ⟨by first | rfl | (simp [errW_none, errW_some] <;> rfl) | (simp [*, errW_none, errW_some] <;> rfl), by repeat (first | (with_reducible first | exact HB.out | apply below_alloc | apply pw_below_drewN | apply below_drew1 | refine below_set ?_ GE140.out) | exact HB.out)⟩
        · rw [if_neg c11] at H
          have c11b0 : (t144 == 10) = false := beq_eq_false_iff_ne.mpr c11
          have c11b1 : (t144 != 10) = true := bne_iff_ne.mpr c11
          exact absurd (Option.some.inj H) (fun h_ => absurd (h_.trans HRT.out) (by decide))
      · rw [if_neg c10] at H
        have c10b0 : (t148 == 0) = false := beq_eq_false_iff_ne.mpr c10
        have c10b1 : (t148 != 0) = true := bne_iff_ne.mpr c10
        exact absurd (Option.some.inj H) (fun h_ => absurd (h_.trans HRT.out) (by decide))
    · rw [if_neg c8] at H
      have c8b0 : (t147 == 3) = false := beq_eq_false_iff_ne.mpr c8
      have c8b1 : (t147 != 3) = true := bne_iff_ne.mpr c8
      exact absurd (Option.some.inj H) (fun h_ => absurd (h_.trans HRT.out) (by decide))
  · rw [if_neg c6] at H
    have c6b0 : (t146 == 1000000000000) = false := beq_eq_false_iff_ne.mpr c6
    have c6b1 : (t146 != 1000000000000) = true := bne_iff_ne.mpr c6
    exact absurd (Option.some.inj H) (fun h_ => absurd (h_.trans HRT.out) (by decide))
def weathercocklaw13_examples.f (k : Nat) : Option (Bool) := if weathercocklaw13_examples0.f k = some true then some true else none
theorem weathercocklaw13_examples.mono : ∀ k, LeO (weathercocklaw13_examples.f k) (weathercocklaw13_examples.f (k + 1)) := by
  intro k r h
  unfold weathercocklaw13_examples.f at h ⊢
  by_cases c : weathercocklaw13_examples0.f k = some true
  · rw [if_pos c] at h; rw [if_pos (weathercocklaw13_examples0.mono k true c)]; exact h
  · rw [if_neg c] at h; cases h
theorem weathercocklaw13_examples.calls (k : Nat) (r : Bool) (w : World) (h : weathercocklaw13_examples.f k = some r) :
    Calls Try.prog 9 #[] w fun e w' => e = .returned (.bool r) ∧ Below w.heap.size w w' := by
  unfold weathercocklaw13_examples.f at h
  by_cases c : weathercocklaw13_examples0.f k = some true
  · rw [if_pos c] at h
    obtain rfl := Option.some.inj h
    exact weathercocklaw13_examples0.calls k true w c rfl
  · rw [if_neg c] at h; cases h

end Go.Proofs.Ytlhpldhejhfkaaa.QHistWhole
