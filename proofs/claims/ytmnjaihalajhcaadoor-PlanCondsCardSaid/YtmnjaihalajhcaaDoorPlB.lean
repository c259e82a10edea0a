import Derived.Test.YtmnjaihalajhcaaDoorPlA
/- Plan: walks by hand; the conditions stand in each theorem. -/
namespace Go.Proofs.YtmnjaihalajhcaaDoor.QPlanConds
open Go.RowKit Go.Proofs.YtmnjaihalajhcaaDoorW.PrintWords Go.Proofs.YtmnjaihalajhcaaDoorW.PrintLast Go.Proofs.YtmnjaihalajhcaaDoorW.PrintMore
attribute [local go_sem] max2_int min2_int max_two min_two max_three min_three max_four min_four
set_option linter.unusedVariables false
set_option linter.unusedSimpArgs false
attribute [local go_sem high] eqA44
/-! ### value_Right: function 73 -/
def value_Right.f (a0_0 : Int) (a0_1 : Int) (a0_2 : ByteArray) : Option (Bool) := if a0_0 = 0 then (some (a0_0 == 0 && (a0_1 == 0 && (a0_2.toList == ([] : List UInt8))))) else (if a0_0 = 1 then (some (a0_2.toList == ([] : List UInt8))) else (if a0_0 = 2 then (if (a0_1 / 2) = 0 then (some (a0_2.toList == ([] : List UInt8))) else (some false)) else (if a0_0 = 3 then (if a0_1 = 0 then (some (decide ((a0_2.size : Int) ≤ 40))) else (some false)) else (some false))))
set_option maxHeartbeats 8000000 in
set_option maxRecDepth 100000 in
theorem value_Right.calls (a0_0 : Int) (a0_1 : Int) (a0_2 : ByteArray) (r : Bool) (w : World) (h : value_Right.f a0_0 a0_1 a0_2 = some r) :
    Calls Tryd.prog 73 #[.agg #[.int .i64 a0_0, .int .i64 a0_1, .string a0_2]] w fun e w' => e = .returned (.bool r) ∧ Below w.heap.size w w' := by
  have hu44 := Tryd.underlying44
  have HB := Aside0.mk (Below.refl w.heap.size w)
  have H : (if a0_0 = 0 then (some (a0_0 == 0 && (a0_1 == 0 && (a0_2.toList == ([] : List UInt8))))) else (if a0_0 = 1 then (some (a0_2.toList == ([] : List UInt8))) else (if a0_0 = 2 then (if (a0_1 / 2) = 0 then (some (a0_2.toList == ([] : List UInt8))) else (some false)) else (if a0_0 = 3 then (if a0_1 = 0 then (some (decide ((a0_2.size : Int) ≤ 40))) else (some false)) else (some false))))) = some r := h
  clear h
  by_cases c2 : a0_0 = 0
  · rw [if_pos c2] at H
    have c2b0 : (a0_0 == 0) = true := beq_iff_eq.mpr c2
    have c2b1 : (a0_0 != 0) = false := bne_eq_false_iff_eq.mpr c2
    clear c2
    obtain rfl := Option.some.inj H
    go_enter Tryd.func73, Tryd.ntmps73
    go_wp2_with (first | ((with_reducible refine gate_dst (N := 1) rfl ?_); (try (refine gate_guard (by rfl) ?_; dsimp only)); refine box_event ?hg (N := 1) ?hd (cs := #[.int .i64 a0_0, .int .i64 a0_1, .string a0_2]) (t := 44) ?hr ?_; (case hd => rfl); (case hg => rfl); (case hr => first | (go_simp; done) | (go_simp; rfl)); intro gb101 hg w3 hbox hb; have n0_ := Aside0.mk (below_step (by repeat (first | (with_reducible first | exact HB.out | apply below_alloc | apply pw_below_drewN | apply below_drew1) | exact HB.out)) hb); have n1_ := Aside0.mk (hbox); have n2_ := Aside0.mk ((by rw [hg]; exact (below_size (by repeat (first | (with_reducible first | exact HB.out | apply below_alloc | apply pw_below_drewN | apply below_drew1) | exact HB.out))) : w.heap.size ≤ gb101)); have n3_ := Aside0.mk ((by rw [hg]; exact (below_size (by repeat (first | (with_reducible first | exact HB.out | apply below_alloc | apply pw_below_drewN | apply below_drew1) | exact HB.out))) : w.heap.size ≤ gb101)); clear HB; have HB := n0_; have BK101 := n1_; have GW101 := n2_; have GE101 := n3_; clear n0_ n1_ n2_ n3_; clear hb hbox hg; have hcz4_0 : w3.cell? ⟨gb101, 0, none⟩ = some (.int .i64 a0_0) := (blk_cell BK101.out 0).trans rfl; have hcz4_1 : w3.cell? ⟨gb101, 1, none⟩ = some (.int .i64 a0_1) := (blk_cell BK101.out 1).trans rfl; have hcz4_2 : w3.cell? ⟨gb101, 2, none⟩ = some (.string a0_2) := (blk_cell BK101.out 2).trans rfl; have hfz4_0 := blk_frozen BK101.out 0; have hfz4_1 := blk_frozen BK101.out 1; have hfz4_2 := blk_frozen BK101.out 2))
    go_ret
    exact ⟨by first | rfl | (simp [errW_none, errW_some] <;> rfl) | (simp [*, errW_none, errW_some] <;> rfl), by repeat (first | (with_reducible first | exact HB.out | apply below_alloc | apply pw_below_drewN | apply below_drew1 | refine below_set ?_ GE101.out) | exact HB.out)⟩
  · rw [if_neg c2] at H
    have c2b0 : (a0_0 == 0) = false := beq_eq_false_iff_ne.mpr c2
    have c2b1 : (a0_0 != 0) = true := bne_iff_ne.mpr c2
    by_cases c5 : a0_0 = 1
    · rw [if_pos c5] at H
      have c5b0 : (a0_0 == 1) = true := beq_iff_eq.mpr c5
      have c5b1 : (a0_0 != 1) = false := bne_eq_false_iff_eq.mpr c5
      clear c5
      obtain rfl := Option.some.inj H
      go_enter Tryd.func73, Tryd.ntmps73
      go_wp2_with (first | ((with_reducible refine gate_dst (N := 1) rfl ?_); (try (refine gate_guard (by rfl) ?_; dsimp only)); refine box_event ?hg (N := 1) ?hd (cs := #[.int .i64 a0_0, .int .i64 a0_1, .string a0_2]) (t := 44) ?hr ?_; (case hd => rfl); (case hg => rfl); (case hr => first | (go_simp; done) | (go_simp; rfl)); intro gb101 hg w6 hbox hb; have n0_ := Aside0.mk (below_step (by repeat (first | (with_reducible first | exact HB.out | apply below_alloc | apply pw_below_drewN | apply below_drew1) | exact HB.out)) hb); have n1_ := Aside0.mk (hbox); have n2_ := Aside0.mk ((by rw [hg]; exact (below_size (by repeat (first | (with_reducible first | exact HB.out | apply below_alloc | apply pw_below_drewN | apply below_drew1) | exact HB.out))) : w.heap.size ≤ gb101)); have n3_ := Aside0.mk ((by rw [hg]; exact (below_size (by repeat (first | (with_reducible first | exact HB.out | apply below_alloc | apply pw_below_drewN | apply below_drew1) | exact HB.out))) : w.heap.size ≤ gb101)); clear HB; have HB := n0_; have BK101 := n1_; have GW101 := n2_; have GE101 := n3_; clear n0_ n1_ n2_ n3_; clear hb hbox hg; have hcz7_0 : w6.cell? ⟨gb101, 0, none⟩ = some (.int .i64 a0_0) := (blk_cell BK101.out 0).trans rfl; have hcz7_1 : w6.cell? ⟨gb101, 1, none⟩ = some (.int .i64 a0_1) := (blk_cell BK101.out 1).trans rfl; have hcz7_2 : w6.cell? ⟨gb101, 2, none⟩ = some (.string a0_2) := (blk_cell BK101.out 2).trans rfl; have hfz7_0 := blk_frozen BK101.out 0; have hfz7_1 := blk_frozen BK101.out 1; have hfz7_2 := blk_frozen BK101.out 2))
      go_ret
      exact ⟨by first | rfl | (simp [errW_none, errW_some] <;> rfl) | (simp [*, errW_none, errW_some] <;> rfl), by repeat (first | (with_reducible first | exact HB.out | apply below_alloc | apply pw_below_drewN | apply below_drew1 | refine below_set ?_ GE101.out) | exact HB.out)⟩
    · rw [if_neg c5] at H
      have c5b0 : (a0_0 == 1) = false := beq_eq_false_iff_ne.mpr c5
      have c5b1 : (a0_0 != 1) = true := bne_iff_ne.mpr c5
      by_cases c8 : a0_0 = 2
      · rw [if_pos c8] at H
        have c8b0 : (a0_0 == 2) = true := beq_iff_eq.mpr c8
        have c8b1 : (a0_0 != 2) = false := bne_eq_false_iff_eq.mpr c8
        clear c8
        by_cases c9 : (a0_1 / 2) = 0
        · rw [if_pos c9] at H
          have c9b0 : ((a0_1 / 2) == 0) = true := beq_iff_eq.mpr c9
          have c9b1 : ((a0_1 / 2) != 0) = false := bne_eq_false_iff_eq.mpr c9
          clear c9
          obtain rfl := Option.some.inj H
          go_enter Tryd.func73, Tryd.ntmps73
          go_wp2_with (first | ((with_reducible refine gate_dst (N := 1) rfl ?_); (try (refine gate_guard (by rfl) ?_; dsimp only)); refine box_event ?hg (N := 1) ?hd (cs := #[.int .i64 a0_0, .int .i64 a0_1, .string a0_2]) (t := 44) ?hr ?_; (case hd => rfl); (case hg => rfl); (case hr => first | (go_simp; done) | (go_simp; rfl)); intro gb101 hg w10 hbox hb; have n0_ := Aside0.mk (below_step (by repeat (first | (with_reducible first | exact HB.out | apply below_alloc | apply pw_below_drewN | apply below_drew1) | exact HB.out)) hb); have n1_ := Aside0.mk (hbox); have n2_ := Aside0.mk ((by rw [hg]; exact (below_size (by repeat (first | (with_reducible first | exact HB.out | apply below_alloc | apply pw_below_drewN | apply below_drew1) | exact HB.out))) : w.heap.size ≤ gb101)); have n3_ := Aside0.mk ((by rw [hg]; exact (below_size (by repeat (first | (with_reducible first | exact HB.out | apply below_alloc | apply pw_below_drewN | apply below_drew1) | exact HB.out))) : w.heap.size ≤ gb101)); clear HB; have HB := n0_; have BK101 := n1_; have GW101 := n2_; have GE101 := n3_; clear n0_ n1_ n2_ n3_; clear hb hbox hg; have hcz11_0 : w10.cell? ⟨gb101, 0, none⟩ = some (.int .i64 a0_0) := (blk_cell BK101.out 0).trans rfl; have hcz11_1 : w10.cell? ⟨gb101, 1, none⟩ = some (.int .i64 a0_1) := (blk_cell BK101.out 1).trans rfl; have hcz11_2 : w10.cell? ⟨gb101, 2, none⟩ = some (.string a0_2) := (blk_cell BK101.out 2).trans rfl; have hfz11_0 := blk_frozen BK101.out 0; have hfz11_1 := blk_frozen BK101.out 1; have hfz11_2 := blk_frozen BK101.out 2))
          go_ret
          exact ⟨by first | rfl | (simp [errW_none, errW_some] <;> rfl) | (simp [*, errW_none, errW_some] <;> rfl), by repeat (first | (with_reducible first | exact HB.out | apply below_alloc | apply pw_below_drewN | apply below_drew1 | refine below_set ?_ GE101.out) | exact HB.out)⟩
        · rw [if_neg c9] at H
          have c9b0 : ((a0_1 / 2) == 0) = false := beq_eq_false_iff_ne.mpr c9
          have c9b1 : ((a0_1 / 2) != 0) = true := bne_iff_ne.mpr c9
          obtain rfl := Option.some.inj H
          go_enter Tryd.func73, Tryd.ntmps73
          go_wp2_with (first | ((with_reducible refine gate_dst (N := 1) rfl ?_); (try (refine gate_guard (by rfl) ?_; dsimp only)); refine box_event ?hg (N := 1) ?hd (cs := #[.int .i64 a0_0, .int .i64 a0_1, .string a0_2]) (t := 44) ?hr ?_; (case hd => rfl); (case hg => rfl); (case hr => first | (go_simp; done) | (go_simp; rfl)); intro gb101 hg w12 hbox hb; have n0_ := Aside0.mk (below_step (by repeat (first | (with_reducible first | exact HB.out | apply below_alloc | apply pw_below_drewN | apply below_drew1) | exact HB.out)) hb); have n1_ := Aside0.mk (hbox); have n2_ := Aside0.mk ((by rw [hg]; exact (below_size (by repeat (first | (with_reducible first | exact HB.out | apply below_alloc | apply pw_below_drewN | apply below_drew1) | exact HB.out))) : w.heap.size ≤ gb101)); have n3_ := Aside0.mk ((by rw [hg]; exact (below_size (by repeat (first | (with_reducible first | exact HB.out | apply below_alloc | apply pw_below_drewN | apply below_drew1) | exact HB.out))) : w.heap.size ≤ gb101)); clear HB; have HB := n0_; have BK101 := n1_; have GW101 := n2_; have GE101 := n3_; clear n0_ n1_ n2_ n3_; clear hb hbox hg; have hcz13_0 : w12.cell? ⟨gb101, 0, none⟩ = some (.int .i64 a0_0) := (blk_cell BK101.out 0).trans rfl; have hcz13_1 : w12.cell? ⟨gb101, 1, none⟩ = some (.int .i64 a0_1) := (blk_cell BK101.out 1).trans rfl; have hcz13_2 : w12.cell? ⟨gb101, 2, none⟩ = some (.string a0_2) := (blk_cell BK101.out 2).trans rfl; have hfz13_0 := blk_frozen BK101.out 0; have hfz13_1 := blk_frozen BK101.out 1; have hfz13_2 := blk_frozen BK101.out 2))
          go_ret
          exact ⟨by first | rfl | (simp [errW_none, errW_some] <;> rfl) | (simp [*, errW_none, errW_some] <;> rfl), by repeat (first | (with_reducible first | exact HB.out | apply below_alloc | apply pw_below_drewN | apply below_drew1 | refine below_set ?_ GE101.out) | exact HB.out)⟩
      · rw [if_neg c8] at H
        have c8b0 : (a0_0 == 2) = false := beq_eq_false_iff_ne.mpr c8
        have c8b1 : (a0_0 != 2) = true := bne_iff_ne.mpr c8
        by_cases c14 : a0_0 = 3
        · rw [if_pos c14] at H
          have c14b0 : (a0_0 == 3) = true := beq_iff_eq.mpr c14
          have c14b1 : (a0_0 != 3) = false := bne_eq_false_iff_eq.mpr c14
          clear c14
          by_cases c15 : a0_1 = 0
          · rw [if_pos c15] at H
            have c15b0 : (a0_1 == 0) = true := beq_iff_eq.mpr c15
            have c15b1 : (a0_1 != 0) = false := bne_eq_false_iff_eq.mpr c15
            clear c15
            obtain rfl := Option.some.inj H
            go_enter Tryd.func73, Tryd.ntmps73
            go_wp2_with (first | ((with_reducible refine gate_dst (N := 1) rfl ?_); (try (refine gate_guard (by rfl) ?_; dsimp only)); refine box_event ?hg (N := 1) ?hd (cs := #[.int .i64 a0_0, .int .i64 a0_1, .string a0_2]) (t := 44) ?hr ?_; (case hd => rfl); (case hg => rfl); (case hr => first | (go_simp; done) | (go_simp; rfl)); intro gb101 hg w16 hbox hb; have n0_ := Aside0.mk (below_step (by repeat (first | (with_reducible first | exact HB.out | apply below_alloc | apply pw_below_drewN | apply below_drew1) | exact HB.out)) hb); have n1_ := Aside0.mk (hbox); have n2_ := Aside0.mk ((by rw [hg]; exact (below_size (by repeat (first | (with_reducible first | exact HB.out | apply below_alloc | apply pw_below_drewN | apply below_drew1) | exact HB.out))) : w.heap.size ≤ gb101)); have n3_ := Aside0.mk ((by rw [hg]; exact (below_size (by repeat (first | (with_reducible first | exact HB.out | apply below_alloc | apply pw_below_drewN | apply below_drew1) | exact HB.out))) : w.heap.size ≤ gb101)); clear HB; have HB := n0_; have BK101 := n1_; have GW101 := n2_; have GE101 := n3_; clear n0_ n1_ n2_ n3_; clear hb hbox hg; have hcz17_0 : w16.cell? ⟨gb101, 0, none⟩ = some (.int .i64 a0_0) := (blk_cell BK101.out 0).trans rfl; have hcz17_1 : w16.cell? ⟨gb101, 1, none⟩ = some (.int .i64 a0_1) := (blk_cell BK101.out 1).trans rfl; have hcz17_2 : w16.cell? ⟨gb101, 2, none⟩ = some (.string a0_2) := (blk_cell BK101.out 2).trans rfl; have hfz17_0 := blk_frozen BK101.out 0; have hfz17_1 := blk_frozen BK101.out 1; have hfz17_2 := blk_frozen BK101.out 2))
            go_ret
            exact ⟨by first | rfl | (simp [errW_none, errW_some] <;> rfl) | (simp [*, errW_none, errW_some] <;> rfl), by repeat (first | (with_reducible first | exact HB.out | apply below_alloc | apply pw_below_drewN | apply below_drew1 | refine below_set ?_ GE101.out) | exact HB.out)⟩
          · rw [if_neg c15] at H
            have c15b0 : (a0_1 == 0) = false := beq_eq_false_iff_ne.mpr c15
            have c15b1 : (a0_1 != 0) = true := bne_iff_ne.mpr c15
            obtain rfl := Option.some.inj H
            go_enter Tryd.func73, Tryd.ntmps73
            go_wp2_with (first | ((with_reducible refine gate_dst (N := 1) rfl ?_); (try (refine gate_guard (by rfl) ?_; dsimp only)); refine box_event ?hg (N := 1) ?hd (cs := #[.int .i64 a0_0, .int .i64 a0_1, .string a0_2]) (t := 44) ?hr ?_; (case hd => rfl); (case hg => rfl); (case hr => first | (go_simp; done) | (go_simp; rfl)); intro gb101 hg w18 hbox hb; have n0_ := Aside0.mk (below_step (by repeat (first | (with_reducible first | exact HB.out | apply below_alloc | apply pw_below_drewN | apply below_drew1) | exact HB.out)) hb); have n1_ := Aside0.mk (hbox); have n2_ := Aside0.mk ((by rw [hg]; exact (below_size (by repeat (first | (with_reducible first | exact HB.out | apply below_alloc | apply pw_below_drewN | apply below_drew1) | exact HB.out))) : w.heap.size ≤ gb101)); have n3_ := Aside0.mk ((by rw [hg]; exact (below_size (by repeat (first | (with_reducible first | exact HB.out | apply below_alloc | apply pw_below_drewN | apply below_drew1) | exact HB.out))) : w.heap.size ≤ gb101)); clear HB; have HB := n0_; have BK101 := n1_; have GW101 := n2_; have GE101 := n3_; clear n0_ n1_ n2_ n3_; clear hb hbox hg; have hcz19_0 : w18.cell? ⟨gb101, 0, none⟩ = some (.int .i64 a0_0) := (blk_cell BK101.out 0).trans rfl; have hcz19_1 : w18.cell? ⟨gb101, 1, none⟩ = some (.int .i64 a0_1) := (blk_cell BK101.out 1).trans rfl; have hcz19_2 : w18.cell? ⟨gb101, 2, none⟩ = some (.string a0_2) := (blk_cell BK101.out 2).trans rfl; have hfz19_0 := blk_frozen BK101.out 0; have hfz19_1 := blk_frozen BK101.out 1; have hfz19_2 := blk_frozen BK101.out 2))
            go_ret
            exact ⟨by first | rfl | (simp [errW_none, errW_some] <;> rfl) | (simp [*, errW_none, errW_some] <;> rfl), by repeat (first | (with_reducible first | exact HB.out | apply below_alloc | apply pw_below_drewN | apply below_drew1 | refine below_set ?_ GE101.out) | exact HB.out)⟩
        · rw [if_neg c14] at H
          have c14b0 : (a0_0 == 3) = false := beq_eq_false_iff_ne.mpr c14
          have c14b1 : (a0_0 != 3) = true := bne_iff_ne.mpr c14
          obtain rfl := Option.some.inj H
          go_enter Tryd.func73, Tryd.ntmps73
          go_wp2_with (first | ((with_reducible refine gate_dst (N := 1) rfl ?_); (try (refine gate_guard (by rfl) ?_; dsimp only)); refine box_event ?hg (N := 1) ?hd (cs := #[.int .i64 a0_0, .int .i64 a0_1, .string a0_2]) (t := 44) ?hr ?_; (case hd => rfl); (case hg => rfl); (case hr => first | (go_simp; done) | (go_simp; rfl)); intro gb101 hg w20 hbox hb; have n0_ := Aside0.mk (below_step (by repeat (first | (with_reducible first | exact HB.out | apply below_alloc | apply pw_below_drewN | apply below_drew1) | exact HB.out)) hb); have n1_ := Aside0.mk (hbox); have n2_ := Aside0.mk ((by rw [hg]; exact (below_size (by repeat (first | (with_reducible first | exact HB.out | apply below_alloc | apply pw_below_drewN | apply below_drew1) | exact HB.out))) : w.heap.size ≤ gb101)); have n3_ := Aside0.mk ((by rw [hg]; exact (below_size (by repeat (first | (with_reducible first | exact HB.out | apply below_alloc | apply pw_below_drewN | apply below_drew1) | exact HB.out))) : w.heap.size ≤ gb101)); clear HB; have HB := n0_; have BK101 := n1_; have GW101 := n2_; have GE101 := n3_; clear n0_ n1_ n2_ n3_; clear hb hbox hg; have hcz21_0 : w20.cell? ⟨gb101, 0, none⟩ = some (.int .i64 a0_0) := (blk_cell BK101.out 0).trans rfl; have hcz21_1 : w20.cell? ⟨gb101, 1, none⟩ = some (.int .i64 a0_1) := (blk_cell BK101.out 1).trans rfl; have hcz21_2 : w20.cell? ⟨gb101, 2, none⟩ = some (.string a0_2) := (blk_cell BK101.out 2).trans rfl; have hfz21_0 := blk_frozen BK101.out 0; have hfz21_1 := blk_frozen BK101.out 1; have hfz21_2 := blk_frozen BK101.out 2))
          go_ret
          exact ⟨by first | rfl | (simp [errW_none, errW_some] <;> rfl) | (simp [*, errW_none, errW_some] <;> rfl), by repeat (first | (with_reducible first | exact HB.out | apply below_alloc | apply pw_below_drewN | apply below_drew1 | refine below_set ?_ GE101.out) | exact HB.out)⟩


def encE (e : S46) (A : Option Addr) (c : Nat) : Value := .agg #[.int .i64 e.f0, .int .i64 e.f1.f0, .int .i64 e.f1.f1, .string e.f1.f2, .int .i64 e.f2, .int .i64 e.f3, .int .i64 e.f4, .string e.f5, .slice A e.f6.length c]
def cellsE (e : S46) (v : Value) : Array Value := #[.int .i64 e.f0, .int .i64 e.f1.f0, .int .i64 e.f1.f1, .string e.f1.f2, .int .i64 e.f2, .int .i64 e.f3, .int .i64 e.f4, .string e.f5, v]
def vrB (v : S44) : Bool := (value_Right.f v.f0 v.f1 v.f2).getD false
theorem vr_some (v : S44) : value_Right.f v.f0 v.f1 v.f2 = some (vrB v) := by
  have h : ∃ r, value_Right.f v.f0 v.f1 v.f2 = some r := by
    unfold value_Right.f
    split
    · exact ⟨_, rfl⟩
    · split
      · exact ⟨_, rfl⟩
      · split
        · split <;> exact ⟨_, rfl⟩
        · split
          · split <;> exact ⟨_, rfl⟩
          · exact ⟨_, rfl⟩
  obtain ⟨r, h⟩ := h
  unfold vrB
  rw [h]
  rfl
def zvB (v : S44) : Bool := v.f0 == 0 && (v.f1 == 0 && (v.f2.toList == ([] : List UInt8)))
def ownT (e : S46) : Bool :=
  if e.f0 = 1 then vrB e.f1 && ((e.f2 == 0) && ((e.f3 == 0) && (e.f4 == 0)))
  else if e.f0 = 2 then decide (e.f2 ≥ 0) && (decide (e.f2 ≤ 15) && (decide (e.f3 ≥ 0) && (decide (e.f3 < 6) && ((e.f4 == 0) && zvB e.f1))))
  else if e.f0 = 3 then decide (e.f4 ≥ 1) && (decide (e.f4 ≤ 4) && ((e.f2 == 0) && ((e.f3 == 0) && zvB e.f1)))
  else (e.f2 == 0) && ((e.f3 == 0) && ((e.f4 == 0) && zvB e.f1))
def ownB (e : S46) : Bool := (e.f5.toList == ([] : List UInt8)) && ((((e.f6.length : Int) == wantsI e.f0)) && ownT e)
set_option maxRecDepth 100000 in
set_option maxHeartbeats 8000000 in
theorem own59 (e : S46) (A : Option Addr) (c : Nat) (w : World) :
    Calls Tryd.prog 59 #[encE e A c] w fun e_ w' => e_ = .returned (.bool (ownB e)) ∧ Below w.heap.size w w' := by
  have hu46 := Tryd.underlying46
  have hu44 := Tryd.underlying44
  obtain ⟨rs, hrs⟩ : ∃ rs, rs = ownB e := ⟨_, rfl⟩
  rw [← hrs]
  have HR := Aside0.mk hrs
  clear hrs
  unfold encE
  go_enter Tryd.func59, Tryd.ntmps59
  go_wp2_with ((with_reducible refine gate_dst (N := 1) rfl ?_); refine box_event ?hg (N := 1) ?hd (cs := cellsE e (.slice A e.f6.length c)) (t := 46) ?hr ?_; (case hd => rfl); (case hg => rfl); (case hr => unfold cellsE; first | (go_simp; done) | (go_simp; rfl)); intro gb hg1 w1 hbox hb; have BK := Aside0.mk hbox; have HB := Aside0.mk hb; have HGE := Aside0.mk hg1; clear hbox hb hg1)
  have m0_ : Aside0 (w1.drew.cell? ⟨gb, 0, none⟩ = some (.int .i64 e.f0)) := ⟨(blk_cell (blk_drew BK.out) 0).trans rfl⟩
  have m1_ : Aside0 (w1.drew.cell? ⟨gb, 7, none⟩ = some (.string e.f5)) := ⟨(blk_cell (blk_drew BK.out) 7).trans rfl⟩
  have m2_ : Aside0 (w1.drew.cell? ⟨gb, 8, none⟩ = some (.slice A e.f6.length c)) := ⟨(blk_cell (blk_drew BK.out) 8).trans rfl⟩
  by_cases hs : e.f5.toList = []
  · have hs1 : (e.f5.toList == ([] : List UInt8)) = true := beq_iff_eq.2 hs
    have HS1 := Aside0.mk hs1
    clear hs
    refine start_ (n := 12) (S := fun w' => w'.cell? ⟨gb, 0, none⟩ = some (.int .i64 e.f0) ∧ w'.cell? ⟨gb, 7, none⟩ = some (.string e.f5) ∧ w'.cell? ⟨gb, 8, none⟩ = some (.slice A e.f6.length c)) (ds := []) #[false, false, false, false, false, false, false, false, false, false, false, false] (by kernel_rfl) rfl rfl ⟨m0_.out, m1_.out, m2_.out⟩ (fun hHeld => ?_)
    refine pure_ (i := 0) (N := some 3) (v := ?_) (a' := ?_) #[true, false, false, false, false, false, false, false, false, false, false, false] rfl rfl (by kernel_rfl) (fun _ _ _ h => h) (Or.inl ⟨by rfl, ?_⟩) ?_ ?_
    rotate_left
    · intro w'
      go_simp
      with_reducible rfl
    rotate_left
    · simp only [Act.put, List.setIfInBounds_toArray, List.set_cons_zero, List.set_cons_succ, i64_w, i32_w]
      rfl
    refine take_ (i := 1) (N := some 4) (v := ?_) (a' := ?_) #[true, true, false, false, false, false, false, false, false, false, false, false] rfl rfl (by kernel_rfl) (fun _ _ _ h => h) (Or.inl ⟨by rfl, ?_⟩) hHeld ?_ ?_
    rotate_left
    · rintro w' ⟨s0, s1, s2⟩
      go_simp
      with_reducible rfl
    rotate_left
    · simp only [Act.put, List.setIfInBounds_toArray, List.set_cons_zero, List.set_cons_succ, i64_w, i32_w]
      rfl
    refine pure_ (i := 2) (N := some 5) (v := ?_) (a' := ?_) #[true, true, true, false, false, false, false, false, false, false, false, false] rfl rfl (by kernel_rfl) (fun _ _ _ h => h) (Or.inl ⟨by rfl, ?_⟩) ?_ ?_
    rotate_left
    · intro w'
      go_simp
      with_reducible rfl
    rotate_left
    · simp only [Act.put, List.setIfInBounds_toArray, List.set_cons_zero, List.set_cons_succ, i64_w, i32_w]
      rfl
    refine pure_ (i := 3) (N := some 6) (v := ?_) (a' := ?_) #[true, true, true, true, false, false, false, false, false, false, false, false] rfl rfl (by kernel_rfl) (fun _ _ _ h => h) (Or.inl ⟨by rfl, ?_⟩) ?_ ?_
    rotate_left
    · intro w'
      go_simp
      with_reducible rfl
    rotate_left
    · simp only [Act.put, List.setIfInBounds_toArray, List.set_cons_zero, List.set_cons_succ, i64_w, i32_w]
      rfl
    refine pure_ (i := 4) (N := some 7) (v := ?_) (a' := ?_) #[true, true, true, true, true, false, false, false, false, false, false, false] rfl rfl (by kernel_rfl) (fun _ _ _ h => h) (Or.inl ⟨by rfl, ?_⟩) ?_ ?_
    rotate_left
    · intro w'
      go_simp
      with_reducible rfl
    rotate_left
    · simp only [Act.put, List.setIfInBounds_toArray, List.set_cons_zero, List.set_cons_succ, i64_w, i32_w]
      rfl
    refine pure_ (i := 7) (N := some 10) (v := ?_) (a' := ?_) #[true, true, true, true, true, false, false, true, false, false, false, false] rfl rfl (by kernel_rfl) (fun _ _ _ h => h) (Or.inl ⟨by rfl, ?_⟩) ?_ ?_
    rotate_left
    · intro w'
      go_simp
      with_reducible rfl
    rotate_left
    · simp only [Act.put, List.setIfInBounds_toArray, List.set_cons_zero, List.set_cons_succ, i64_w, i32_w]
      rfl
    refine take_ (i := 5) (N := some 8) (v := ?_) (a' := ?_) #[true, true, true, true, true, true, false, true, false, false, false, false] rfl rfl (by kernel_rfl) (fun _ _ _ h => h) (Or.inl ⟨by rfl, ?_⟩) hHeld ?_ ?_
    rotate_left
    · rintro w' ⟨s0, s1, s2⟩
      go_simp
      with_reducible rfl
    rotate_left
    · simp only [Act.put, List.setIfInBounds_toArray, List.set_cons_zero, List.set_cons_succ, i64_w, i32_w]
      rfl
    refine pure_ (i := 6) (N := some 9) (v := ?_) (a' := ?_) #[true, true, true, true, true, true, true, true, false, false, false, false] rfl rfl (by kernel_rfl) (fun _ _ _ h => h) (Or.inl ⟨by rfl, ?_⟩) ?_ ?_
    rotate_left
    · intro w'
      go_simp
      with_reducible rfl
    rotate_left
    · simp only [Act.put, List.setIfInBounds_toArray, List.set_cons_zero, List.set_cons_succ, i64_w, i32_w]
      rfl
    refine take_ (i := 8) (N := some 11) (v := ?_) (a' := ?_) #[true, true, true, true, true, true, true, true, true, false, false, false] rfl rfl (by kernel_rfl) (fun _ _ _ h => h) (Or.inl ⟨by rfl, ?_⟩) hHeld ?_ ?_
    rotate_left
    · rintro w' ⟨s0, s1, s2⟩
      go_simp
      with_reducible rfl
    rotate_left
    · simp only [Act.put, List.setIfInBounds_toArray, List.set_cons_zero, List.set_cons_succ, i64_w, i32_w]
      rfl
    refine one_ (i := 9) (N := some 12) #[true, true, true, true, true, true, true, true, true, true, false, false] rfl rfl (by kernel_rfl) (by decide) (fun K hK => ?_)
    refine goes_ Tryd.func72 (by kernel_rfl) rfl #[.int .i64 e.f0] (by rfl) rfl rfl (by simp only [List.map_toArray, List.map_cons, List.map_nil]; rfl) ?_
    with_reducible refine (expr_wants.calls e.f0 _ _ rfl).mono ?_
    rintro e_ w3 ⟨rfl, hb3⟩
    refine ⟨_, rfl, ?_⟩
    refine hK.out _ _ ⟨cells_later hb3 hHeld.1, cells_later hb3 hHeld.2.1, cells_later hb3 hHeld.2.2⟩ (fun hHeld => ?_)
    clear hK K
    refine norm_ (a' := ?_) ?_ ?_
    rotate_left
    · show Act.put _ (some 12) _ = _
      simp only [Act.put, List.setIfInBounds_toArray, List.set_cons_zero, List.set_cons_succ, i64_w, i32_w]
      rfl
    refine pure_ (i := 10) (N := some 13) (v := ?_) (a' := ?_) #[true, true, true, true, true, true, true, true, true, true, true, false] rfl rfl (by kernel_rfl) (fun _ _ _ h => h) (Or.inl ⟨by rfl, ?_⟩) ?_ ?_
    rotate_left
    · intro w'
      go_simp
      with_reducible rfl
    rotate_left
    · simp only [Act.put, List.setIfInBounds_toArray, List.set_cons_zero, List.set_cons_succ, i64_w, i32_w]
      rfl
    refine pure_ (i := 11) (N := some 14) (v := ?_) (a' := ?_) #[true, true, true, true, true, true, true, true, true, true, true, true] rfl rfl (by kernel_rfl) (fun _ _ _ h => h) (Or.inl ⟨by rfl, ?_⟩) ?_ ?_
    rotate_left
    · intro w'
      go_simp
      with_reducible rfl
    rotate_left
    · simp only [Act.put, List.setIfInBounds_toArray, List.set_cons_zero, List.set_cons_succ, i64_w, i32_w]
      rfl
    refine done_ (by kernel_rfl) ?_
    have HB3 := Aside0.mk ((below_drew HB.out).trans (hb3.mono (below_drew HB.out).size))
    have BK3 := Aside0.mk ((hb3.block gb (blk_lt (blk_drew BK.out))).trans (blk_drew BK.out))
    clear hb3 m0_ m1_ m2_
    by_cases hl : ((e.f6.length : Int) = wantsI e.f0)
    · have hl1 : ((e.f6.length : Int) != wantsI e.f0) = false := bne_eq_false_iff_eq.2 hl
      have HL := Aside0.mk hl
      clear hl
      have hc8 := (blk_cell BK3.out 8).trans (rfl : _ = some (Value.slice A e.f6.length c))
      have hf8 := blk_frozen BK3.out 8
      have hc0 := (blk_cell BK3.out 0).trans (rfl : _ = some (Value.int .i64 e.f0))
      have HGB : Aside0 (w.heap.size ≤ gb) := ⟨by rw [HGE.out]; exact Nat.le_refl _⟩
      by_cases o1 : e.f0 = 1
      · have O1 := Aside0.mk o1
        have o1b : (e.f0 == 1) = true := beq_iff_eq.2 o1
        clear o1
        rcases Bool.eq_false_or_eq_true (vrB e.f1) with q0 | q0
        · skip
          by_cases z1 : (e.f2 = 0)
          · have q1 : (e.f2 == 0) = true := beq_iff_eq.2 z1
            clear z1
            by_cases z2 : (e.f3 = 0)
            · have q2 : (e.f3 == 0) = true := beq_iff_eq.2 z2
              clear z2
              have HT : Aside0 (ownT e = (e.f4 == 0)) := ⟨by unfold ownT; rw [if_pos O1.out]; rw [q0, q1, q2]; simp only [Bool.true_and]⟩
              go_wp2_with (first | ((with_reducible refine gate_store (t := 23) (p := 15) rfl ?_); refine store_event (t := 23) (p := 15) (v := .const (.slice none 0 0)) (w1 := w3.setCell ⟨gb, 8, none⟩ (.slice none 0 0)) rfl rfl rfl ?hrS ?_; (case hrS => first | (go_simp; done) | (go_simp; rfl)); intro w5 hw5; have BK5 : Aside0 (w5.heap[gb]? = some (.cells (cellsE e (.slice none 0 0)) 46 (0, 0))) := ⟨by rw [hw5]; exact blk_set BK3.out 8 (.slice none 0 0)⟩; have HB5 : Aside0 (Below w.heap.size w w5) := ⟨by rw [hw5]; exact below_set HB3.out HGB.out⟩; clear hw5; have d0 := (blk_cell BK5.out 0).trans (rfl : _ = some (Value.int .i64 e.f0)); have d1 := (blk_cell BK5.out 1).trans (rfl : _ = some (Value.int .i64 e.f1.f0)); have d2 := (blk_cell BK5.out 2).trans (rfl : _ = some (Value.int .i64 e.f1.f1)); have d3 := (blk_cell BK5.out 3).trans (rfl : _ = some (Value.string e.f1.f2)); have d4 := (blk_cell BK5.out 4).trans (rfl : _ = some (Value.int .i64 e.f2)); have d5 := (blk_cell BK5.out 5).trans (rfl : _ = some (Value.int .i64 e.f3)); have d6 := (blk_cell BK5.out 6).trans (rfl : _ = some (Value.int .i64 e.f4))) | (go_at_call 73; refine (value_Right.calls e.f1.f0 e.f1.f1 e.f1.f2 _ _ (vr_some e.f1)).mono ?_; rintro e_ w6 ⟨rfl, hb6⟩; have HB6 : Aside0 (Below w.heap.size w w6) := ⟨HB5.out.trans (hb6.mono HB5.out.size)⟩; have BK6 := Aside0.mk ((hb6.block gb (blk_lt BK5.out)).trans BK5.out); clear hb6; have d0 := (blk_cell BK6.out 0).trans (rfl : _ = some (Value.int .i64 e.f0)); have d4 := (blk_cell BK6.out 4).trans (rfl : _ = some (Value.int .i64 e.f2)); have d5 := (blk_cell BK6.out 5).trans (rfl : _ = some (Value.int .i64 e.f3)); have d6 := (blk_cell BK6.out 6).trans (rfl : _ = some (Value.int .i64 e.f4))))
              go_ret
              rw [HR.out]
              unfold ownB
              rw [HS1.out, beq_iff_eq.2 HL.out, Bool.true_and, Bool.true_and, HT.out]
              exact ⟨by first | rfl | (simp [errW_none] <;> rfl), HB6.out⟩
            · have q2 : (e.f3 == 0) = false := beq_eq_false_iff_ne.2 z2
              clear z2
              have HT : Aside0 (ownT e = false) := ⟨by unfold ownT; rw [if_pos O1.out]; rw [q0, q1, q2]; simp only [Bool.true_and, Bool.false_and]⟩
              go_wp2_with (first | ((with_reducible refine gate_store (t := 23) (p := 15) rfl ?_); refine store_event (t := 23) (p := 15) (v := .const (.slice none 0 0)) (w1 := w3.setCell ⟨gb, 8, none⟩ (.slice none 0 0)) rfl rfl rfl ?hrS ?_; (case hrS => first | (go_simp; done) | (go_simp; rfl)); intro w5 hw5; have BK5 : Aside0 (w5.heap[gb]? = some (.cells (cellsE e (.slice none 0 0)) 46 (0, 0))) := ⟨by rw [hw5]; exact blk_set BK3.out 8 (.slice none 0 0)⟩; have HB5 : Aside0 (Below w.heap.size w w5) := ⟨by rw [hw5]; exact below_set HB3.out HGB.out⟩; clear hw5; have d0 := (blk_cell BK5.out 0).trans (rfl : _ = some (Value.int .i64 e.f0)); have d1 := (blk_cell BK5.out 1).trans (rfl : _ = some (Value.int .i64 e.f1.f0)); have d2 := (blk_cell BK5.out 2).trans (rfl : _ = some (Value.int .i64 e.f1.f1)); have d3 := (blk_cell BK5.out 3).trans (rfl : _ = some (Value.string e.f1.f2)); have d4 := (blk_cell BK5.out 4).trans (rfl : _ = some (Value.int .i64 e.f2)); have d5 := (blk_cell BK5.out 5).trans (rfl : _ = some (Value.int .i64 e.f3)); have d6 := (blk_cell BK5.out 6).trans (rfl : _ = some (Value.int .i64 e.f4))) | (go_at_call 73; refine (value_Right.calls e.f1.f0 e.f1.f1 e.f1.f2 _ _ (vr_some e.f1)).mono ?_; rintro e_ w6 ⟨rfl, hb6⟩; have HB6 : Aside0 (Below w.heap.size w w6) := ⟨HB5.out.trans (hb6.mono HB5.out.size)⟩; have BK6 := Aside0.mk ((hb6.block gb (blk_lt BK5.out)).trans BK5.out); clear hb6; have d0 := (blk_cell BK6.out 0).trans (rfl : _ = some (Value.int .i64 e.f0)); have d4 := (blk_cell BK6.out 4).trans (rfl : _ = some (Value.int .i64 e.f2)); have d5 := (blk_cell BK6.out 5).trans (rfl : _ = some (Value.int .i64 e.f3)); have d6 := (blk_cell BK6.out 6).trans (rfl : _ = some (Value.int .i64 e.f4))))
              go_ret
              rw [HR.out]
              unfold ownB
              rw [HS1.out, beq_iff_eq.2 HL.out, Bool.true_and, Bool.true_and, HT.out]
              exact ⟨by first | rfl | (simp [errW_none] <;> rfl), HB6.out⟩
          · have q1 : (e.f2 == 0) = false := beq_eq_false_iff_ne.2 z1
            clear z1
            have HT : Aside0 (ownT e = false) := ⟨by unfold ownT; rw [if_pos O1.out]; rw [q0, q1]; simp only [Bool.true_and, Bool.false_and]⟩
            go_wp2_with (first | ((with_reducible refine gate_store (t := 23) (p := 15) rfl ?_); refine store_event (t := 23) (p := 15) (v := .const (.slice none 0 0)) (w1 := w3.setCell ⟨gb, 8, none⟩ (.slice none 0 0)) rfl rfl rfl ?hrS ?_; (case hrS => first | (go_simp; done) | (go_simp; rfl)); intro w5 hw5; have BK5 : Aside0 (w5.heap[gb]? = some (.cells (cellsE e (.slice none 0 0)) 46 (0, 0))) := ⟨by rw [hw5]; exact blk_set BK3.out 8 (.slice none 0 0)⟩; have HB5 : Aside0 (Below w.heap.size w w5) := ⟨by rw [hw5]; exact below_set HB3.out HGB.out⟩; clear hw5; have d0 := (blk_cell BK5.out 0).trans (rfl : _ = some (Value.int .i64 e.f0)); have d1 := (blk_cell BK5.out 1).trans (rfl : _ = some (Value.int .i64 e.f1.f0)); have d2 := (blk_cell BK5.out 2).trans (rfl : _ = some (Value.int .i64 e.f1.f1)); have d3 := (blk_cell BK5.out 3).trans (rfl : _ = some (Value.string e.f1.f2)); have d4 := (blk_cell BK5.out 4).trans (rfl : _ = some (Value.int .i64 e.f2)); have d5 := (blk_cell BK5.out 5).trans (rfl : _ = some (Value.int .i64 e.f3)); have d6 := (blk_cell BK5.out 6).trans (rfl : _ = some (Value.int .i64 e.f4))) | (go_at_call 73; refine (value_Right.calls e.f1.f0 e.f1.f1 e.f1.f2 _ _ (vr_some e.f1)).mono ?_; rintro e_ w6 ⟨rfl, hb6⟩; have HB6 : Aside0 (Below w.heap.size w w6) := ⟨HB5.out.trans (hb6.mono HB5.out.size)⟩; have BK6 := Aside0.mk ((hb6.block gb (blk_lt BK5.out)).trans BK5.out); clear hb6; have d0 := (blk_cell BK6.out 0).trans (rfl : _ = some (Value.int .i64 e.f0)); have d4 := (blk_cell BK6.out 4).trans (rfl : _ = some (Value.int .i64 e.f2)); have d5 := (blk_cell BK6.out 5).trans (rfl : _ = some (Value.int .i64 e.f3)); have d6 := (blk_cell BK6.out 6).trans (rfl : _ = some (Value.int .i64 e.f4))))
            go_ret
            rw [HR.out]
            unfold ownB
            rw [HS1.out, beq_iff_eq.2 HL.out, Bool.true_and, Bool.true_and, HT.out]
            exact ⟨by first | rfl | (simp [errW_none] <;> rfl), HB6.out⟩
        · skip
          have HT : Aside0 (ownT e = false) := ⟨by unfold ownT; rw [if_pos O1.out]; rw [q0]; simp only [Bool.true_and, Bool.false_and]⟩
          go_wp2_with (first | ((with_reducible refine gate_store (t := 23) (p := 15) rfl ?_); refine store_event (t := 23) (p := 15) (v := .const (.slice none 0 0)) (w1 := w3.setCell ⟨gb, 8, none⟩ (.slice none 0 0)) rfl rfl rfl ?hrS ?_; (case hrS => first | (go_simp; done) | (go_simp; rfl)); intro w5 hw5; have BK5 : Aside0 (w5.heap[gb]? = some (.cells (cellsE e (.slice none 0 0)) 46 (0, 0))) := ⟨by rw [hw5]; exact blk_set BK3.out 8 (.slice none 0 0)⟩; have HB5 : Aside0 (Below w.heap.size w w5) := ⟨by rw [hw5]; exact below_set HB3.out HGB.out⟩; clear hw5; have d0 := (blk_cell BK5.out 0).trans (rfl : _ = some (Value.int .i64 e.f0)); have d1 := (blk_cell BK5.out 1).trans (rfl : _ = some (Value.int .i64 e.f1.f0)); have d2 := (blk_cell BK5.out 2).trans (rfl : _ = some (Value.int .i64 e.f1.f1)); have d3 := (blk_cell BK5.out 3).trans (rfl : _ = some (Value.string e.f1.f2)); have d4 := (blk_cell BK5.out 4).trans (rfl : _ = some (Value.int .i64 e.f2)); have d5 := (blk_cell BK5.out 5).trans (rfl : _ = some (Value.int .i64 e.f3)); have d6 := (blk_cell BK5.out 6).trans (rfl : _ = some (Value.int .i64 e.f4))) | (go_at_call 73; refine (value_Right.calls e.f1.f0 e.f1.f1 e.f1.f2 _ _ (vr_some e.f1)).mono ?_; rintro e_ w6 ⟨rfl, hb6⟩; have HB6 : Aside0 (Below w.heap.size w w6) := ⟨HB5.out.trans (hb6.mono HB5.out.size)⟩; have BK6 := Aside0.mk ((hb6.block gb (blk_lt BK5.out)).trans BK5.out); clear hb6; have d0 := (blk_cell BK6.out 0).trans (rfl : _ = some (Value.int .i64 e.f0)); have d4 := (blk_cell BK6.out 4).trans (rfl : _ = some (Value.int .i64 e.f2)); have d5 := (blk_cell BK6.out 5).trans (rfl : _ = some (Value.int .i64 e.f3)); have d6 := (blk_cell BK6.out 6).trans (rfl : _ = some (Value.int .i64 e.f4))))
          go_ret
          rw [HR.out]
          unfold ownB
          rw [HS1.out, beq_iff_eq.2 HL.out, Bool.true_and, Bool.true_and, HT.out]
          exact ⟨by first | rfl | (simp [errW_none] <;> rfl), HB6.out⟩
      · have O1 := Aside0.mk o1
        have o1b : (e.f0 == 1) = false := beq_eq_false_iff_ne.2 o1
        clear o1
        by_cases o2 : e.f0 = 2
        · have O2 := Aside0.mk o2
          have o2b : (e.f0 == 2) = true := beq_iff_eq.2 o2
          clear o2
          by_cases z0 : (e.f2 ≥ 0)
          · have q0 : decide (e.f2 ≥ 0) = true := decide_eq_true z0
            clear z0
            by_cases z1 : (e.f2 ≤ 15)
            · have q1 : decide (e.f2 ≤ 15) = true := decide_eq_true z1
              clear z1
              by_cases z2 : (e.f3 ≥ 0)
              · have q2 : decide (e.f3 ≥ 0) = true := decide_eq_true z2
                clear z2
                by_cases z3 : (e.f3 < 6)
                · have q3 : decide (e.f3 < 6) = true := decide_eq_true z3
                  clear z3
                  by_cases z4 : (e.f4 = 0)
                  · have q4 : (e.f4 == 0) = true := beq_iff_eq.2 z4
                    clear z4
                    have HT : Aside0 (ownT e = zvB e.f1) := ⟨by unfold ownT; rw [if_neg O1.out, if_pos O2.out]; rw [q0, q1, q2, q3, q4]; simp only [Bool.true_and]⟩
                    unfold zvB at HT
                    go_wp2_with (first | ((with_reducible refine gate_store (t := 23) (p := 15) rfl ?_); refine store_event (t := 23) (p := 15) (v := .const (.slice none 0 0)) (w1 := w3.setCell ⟨gb, 8, none⟩ (.slice none 0 0)) rfl rfl rfl ?hrS ?_; (case hrS => first | (go_simp; done) | (go_simp; rfl)); intro w5 hw5; have BK5 : Aside0 (w5.heap[gb]? = some (.cells (cellsE e (.slice none 0 0)) 46 (0, 0))) := ⟨by rw [hw5]; exact blk_set BK3.out 8 (.slice none 0 0)⟩; have HB5 : Aside0 (Below w.heap.size w w5) := ⟨by rw [hw5]; exact below_set HB3.out HGB.out⟩; clear hw5; have d0 := (blk_cell BK5.out 0).trans (rfl : _ = some (Value.int .i64 e.f0)); have d1 := (blk_cell BK5.out 1).trans (rfl : _ = some (Value.int .i64 e.f1.f0)); have d2 := (blk_cell BK5.out 2).trans (rfl : _ = some (Value.int .i64 e.f1.f1)); have d3 := (blk_cell BK5.out 3).trans (rfl : _ = some (Value.string e.f1.f2)); have d4 := (blk_cell BK5.out 4).trans (rfl : _ = some (Value.int .i64 e.f2)); have d5 := (blk_cell BK5.out 5).trans (rfl : _ = some (Value.int .i64 e.f3)); have d6 := (blk_cell BK5.out 6).trans (rfl : _ = some (Value.int .i64 e.f4))))
                    go_ret
                    rw [HR.out]
                    unfold ownB
                    rw [HS1.out, beq_iff_eq.2 HL.out, Bool.true_and, Bool.true_and, HT.out]
                    exact ⟨by first | rfl | (simp [errW_none] <;> rfl), HB5.out⟩
                  · have q4 : (e.f4 == 0) = false := beq_eq_false_iff_ne.2 z4
                    clear z4
                    have HT : Aside0 (ownT e = false) := ⟨by unfold ownT; rw [if_neg O1.out, if_pos O2.out]; rw [q0, q1, q2, q3, q4]; simp only [Bool.true_and, Bool.false_and]⟩
                    go_wp2_with (first | ((with_reducible refine gate_store (t := 23) (p := 15) rfl ?_); refine store_event (t := 23) (p := 15) (v := .const (.slice none 0 0)) (w1 := w3.setCell ⟨gb, 8, none⟩ (.slice none 0 0)) rfl rfl rfl ?hrS ?_; (case hrS => first | (go_simp; done) | (go_simp; rfl)); intro w5 hw5; have BK5 : Aside0 (w5.heap[gb]? = some (.cells (cellsE e (.slice none 0 0)) 46 (0, 0))) := ⟨by rw [hw5]; exact blk_set BK3.out 8 (.slice none 0 0)⟩; have HB5 : Aside0 (Below w.heap.size w w5) := ⟨by rw [hw5]; exact below_set HB3.out HGB.out⟩; clear hw5; have d0 := (blk_cell BK5.out 0).trans (rfl : _ = some (Value.int .i64 e.f0)); have d1 := (blk_cell BK5.out 1).trans (rfl : _ = some (Value.int .i64 e.f1.f0)); have d2 := (blk_cell BK5.out 2).trans (rfl : _ = some (Value.int .i64 e.f1.f1)); have d3 := (blk_cell BK5.out 3).trans (rfl : _ = some (Value.string e.f1.f2)); have d4 := (blk_cell BK5.out 4).trans (rfl : _ = some (Value.int .i64 e.f2)); have d5 := (blk_cell BK5.out 5).trans (rfl : _ = some (Value.int .i64 e.f3)); have d6 := (blk_cell BK5.out 6).trans (rfl : _ = some (Value.int .i64 e.f4))))
                    go_ret
                    rw [HR.out]
                    unfold ownB
                    rw [HS1.out, beq_iff_eq.2 HL.out, Bool.true_and, Bool.true_and, HT.out]
                    exact ⟨by first | rfl | (simp [errW_none] <;> rfl), HB5.out⟩
                · have q3 : decide (e.f3 < 6) = false := decide_eq_false z3
                  clear z3
                  have HT : Aside0 (ownT e = false) := ⟨by unfold ownT; rw [if_neg O1.out, if_pos O2.out]; rw [q0, q1, q2, q3]; simp only [Bool.true_and, Bool.false_and]⟩
                  go_wp2_with (first | ((with_reducible refine gate_store (t := 23) (p := 15) rfl ?_); refine store_event (t := 23) (p := 15) (v := .const (.slice none 0 0)) (w1 := w3.setCell ⟨gb, 8, none⟩ (.slice none 0 0)) rfl rfl rfl ?hrS ?_; (case hrS => first | (go_simp; done) | (go_simp; rfl)); intro w5 hw5; have BK5 : Aside0 (w5.heap[gb]? = some (.cells (cellsE e (.slice none 0 0)) 46 (0, 0))) := ⟨by rw [hw5]; exact blk_set BK3.out 8 (.slice none 0 0)⟩; have HB5 : Aside0 (Below w.heap.size w w5) := ⟨by rw [hw5]; exact below_set HB3.out HGB.out⟩; clear hw5; have d0 := (blk_cell BK5.out 0).trans (rfl : _ = some (Value.int .i64 e.f0)); have d1 := (blk_cell BK5.out 1).trans (rfl : _ = some (Value.int .i64 e.f1.f0)); have d2 := (blk_cell BK5.out 2).trans (rfl : _ = some (Value.int .i64 e.f1.f1)); have d3 := (blk_cell BK5.out 3).trans (rfl : _ = some (Value.string e.f1.f2)); have d4 := (blk_cell BK5.out 4).trans (rfl : _ = some (Value.int .i64 e.f2)); have d5 := (blk_cell BK5.out 5).trans (rfl : _ = some (Value.int .i64 e.f3)); have d6 := (blk_cell BK5.out 6).trans (rfl : _ = some (Value.int .i64 e.f4))))
                  go_ret
                  rw [HR.out]
                  unfold ownB
                  rw [HS1.out, beq_iff_eq.2 HL.out, Bool.true_and, Bool.true_and, HT.out]
                  exact ⟨by first | rfl | (simp [errW_none] <;> rfl), HB5.out⟩
              · have q2 : decide (e.f3 ≥ 0) = false := decide_eq_false z2
                clear z2
                have HT : Aside0 (ownT e = false) := ⟨by unfold ownT; rw [if_neg O1.out, if_pos O2.out]; rw [q0, q1, q2]; simp only [Bool.true_and, Bool.false_and]⟩
                go_wp2_with (first | ((with_reducible refine gate_store (t := 23) (p := 15) rfl ?_); refine store_event (t := 23) (p := 15) (v := .const (.slice none 0 0)) (w1 := w3.setCell ⟨gb, 8, none⟩ (.slice none 0 0)) rfl rfl rfl ?hrS ?_; (case hrS => first | (go_simp; done) | (go_simp; rfl)); intro w5 hw5; have BK5 : Aside0 (w5.heap[gb]? = some (.cells (cellsE e (.slice none 0 0)) 46 (0, 0))) := ⟨by rw [hw5]; exact blk_set BK3.out 8 (.slice none 0 0)⟩; have HB5 : Aside0 (Below w.heap.size w w5) := ⟨by rw [hw5]; exact below_set HB3.out HGB.out⟩; clear hw5; have d0 := (blk_cell BK5.out 0).trans (rfl : _ = some (Value.int .i64 e.f0)); have d1 := (blk_cell BK5.out 1).trans (rfl : _ = some (Value.int .i64 e.f1.f0)); have d2 := (blk_cell BK5.out 2).trans (rfl : _ = some (Value.int .i64 e.f1.f1)); have d3 := (blk_cell BK5.out 3).trans (rfl : _ = some (Value.string e.f1.f2)); have d4 := (blk_cell BK5.out 4).trans (rfl : _ = some (Value.int .i64 e.f2)); have d5 := (blk_cell BK5.out 5).trans (rfl : _ = some (Value.int .i64 e.f3)); have d6 := (blk_cell BK5.out 6).trans (rfl : _ = some (Value.int .i64 e.f4))))
                go_ret
                rw [HR.out]
                unfold ownB
                rw [HS1.out, beq_iff_eq.2 HL.out, Bool.true_and, Bool.true_and, HT.out]
                exact ⟨by first | rfl | (simp [errW_none] <;> rfl), HB5.out⟩
            · have q1 : decide (e.f2 ≤ 15) = false := decide_eq_false z1
              clear z1
              have HT : Aside0 (ownT e = false) := ⟨by unfold ownT; rw [if_neg O1.out, if_pos O2.out]; rw [q0, q1]; simp only [Bool.true_and, Bool.false_and]⟩
              go_wp2_with (first | ((with_reducible refine gate_store (t := 23) (p := 15) rfl ?_); refine store_event (t := 23) (p := 15) (v := .const (.slice none 0 0)) (w1 := w3.setCell ⟨gb, 8, none⟩ (.slice none 0 0)) rfl rfl rfl ?hrS ?_; (case hrS => first | (go_simp; done) | (go_simp; rfl)); intro w5 hw5; have BK5 : Aside0 (w5.heap[gb]? = some (.cells (cellsE e (.slice none 0 0)) 46 (0, 0))) := ⟨by rw [hw5]; exact blk_set BK3.out 8 (.slice none 0 0)⟩; have HB5 : Aside0 (Below w.heap.size w w5) := ⟨by rw [hw5]; exact below_set HB3.out HGB.out⟩; clear hw5; have d0 := (blk_cell BK5.out 0).trans (rfl : _ = some (Value.int .i64 e.f0)); have d1 := (blk_cell BK5.out 1).trans (rfl : _ = some (Value.int .i64 e.f1.f0)); have d2 := (blk_cell BK5.out 2).trans (rfl : _ = some (Value.int .i64 e.f1.f1)); have d3 := (blk_cell BK5.out 3).trans (rfl : _ = some (Value.string e.f1.f2)); have d4 := (blk_cell BK5.out 4).trans (rfl : _ = some (Value.int .i64 e.f2)); have d5 := (blk_cell BK5.out 5).trans (rfl : _ = some (Value.int .i64 e.f3)); have d6 := (blk_cell BK5.out 6).trans (rfl : _ = some (Value.int .i64 e.f4))))
              go_ret
              rw [HR.out]
              unfold ownB
              rw [HS1.out, beq_iff_eq.2 HL.out, Bool.true_and, Bool.true_and, HT.out]
              exact ⟨by first | rfl | (simp [errW_none] <;> rfl), HB5.out⟩
          · have q0 : decide (e.f2 ≥ 0) = false := decide_eq_false z0
            clear z0
            have HT : Aside0 (ownT e = false) := ⟨by unfold ownT; rw [if_neg O1.out, if_pos O2.out]; rw [q0]; simp only [Bool.true_and, Bool.false_and]⟩
            go_wp2_with (first | ((with_reducible refine gate_store (t := 23) (p := 15) rfl ?_); refine store_event (t := 23) (p := 15) (v := .const (.slice none 0 0)) (w1 := w3.setCell ⟨gb, 8, none⟩ (.slice none 0 0)) rfl rfl rfl ?hrS ?_; (case hrS => first | (go_simp; done) | (go_simp; rfl)); intro w5 hw5; have BK5 : Aside0 (w5.heap[gb]? = some (.cells (cellsE e (.slice none 0 0)) 46 (0, 0))) := ⟨by rw [hw5]; exact blk_set BK3.out 8 (.slice none 0 0)⟩; have HB5 : Aside0 (Below w.heap.size w w5) := ⟨by rw [hw5]; exact below_set HB3.out HGB.out⟩; clear hw5; have d0 := (blk_cell BK5.out 0).trans (rfl : _ = some (Value.int .i64 e.f0)); have d1 := (blk_cell BK5.out 1).trans (rfl : _ = some (Value.int .i64 e.f1.f0)); have d2 := (blk_cell BK5.out 2).trans (rfl : _ = some (Value.int .i64 e.f1.f1)); have d3 := (blk_cell BK5.out 3).trans (rfl : _ = some (Value.string e.f1.f2)); have d4 := (blk_cell BK5.out 4).trans (rfl : _ = some (Value.int .i64 e.f2)); have d5 := (blk_cell BK5.out 5).trans (rfl : _ = some (Value.int .i64 e.f3)); have d6 := (blk_cell BK5.out 6).trans (rfl : _ = some (Value.int .i64 e.f4))))
            go_ret
            rw [HR.out]
            unfold ownB
            rw [HS1.out, beq_iff_eq.2 HL.out, Bool.true_and, Bool.true_and, HT.out]
            exact ⟨by first | rfl | (simp [errW_none] <;> rfl), HB5.out⟩
        · have O2 := Aside0.mk o2
          have o2b : (e.f0 == 2) = false := beq_eq_false_iff_ne.2 o2
          clear o2
          by_cases o3 : e.f0 = 3
          · have O3 := Aside0.mk o3
            have o3b : (e.f0 == 3) = true := beq_iff_eq.2 o3
            clear o3
            by_cases z0 : (e.f4 ≥ 1)
            · have q0 : decide (e.f4 ≥ 1) = true := decide_eq_true z0
              clear z0
              by_cases z1 : (e.f4 ≤ 4)
              · have q1 : decide (e.f4 ≤ 4) = true := decide_eq_true z1
                clear z1
                by_cases z2 : (e.f2 = 0)
                · have q2 : (e.f2 == 0) = true := beq_iff_eq.2 z2
                  clear z2
                  by_cases z3 : (e.f3 = 0)
                  · have q3 : (e.f3 == 0) = true := beq_iff_eq.2 z3
                    clear z3
                    have HT : Aside0 (ownT e = zvB e.f1) := ⟨by unfold ownT; rw [if_neg O1.out, if_neg O2.out, if_pos O3.out]; rw [q0, q1, q2, q3]; simp only [Bool.true_and]⟩
                    unfold zvB at HT
                    go_wp2_with (first | ((with_reducible refine gate_store (t := 23) (p := 15) rfl ?_); refine store_event (t := 23) (p := 15) (v := .const (.slice none 0 0)) (w1 := w3.setCell ⟨gb, 8, none⟩ (.slice none 0 0)) rfl rfl rfl ?hrS ?_; (case hrS => first | (go_simp; done) | (go_simp; rfl)); intro w5 hw5; have BK5 : Aside0 (w5.heap[gb]? = some (.cells (cellsE e (.slice none 0 0)) 46 (0, 0))) := ⟨by rw [hw5]; exact blk_set BK3.out 8 (.slice none 0 0)⟩; have HB5 : Aside0 (Below w.heap.size w w5) := ⟨by rw [hw5]; exact below_set HB3.out HGB.out⟩; clear hw5; have d0 := (blk_cell BK5.out 0).trans (rfl : _ = some (Value.int .i64 e.f0)); have d1 := (blk_cell BK5.out 1).trans (rfl : _ = some (Value.int .i64 e.f1.f0)); have d2 := (blk_cell BK5.out 2).trans (rfl : _ = some (Value.int .i64 e.f1.f1)); have d3 := (blk_cell BK5.out 3).trans (rfl : _ = some (Value.string e.f1.f2)); have d4 := (blk_cell BK5.out 4).trans (rfl : _ = some (Value.int .i64 e.f2)); have d5 := (blk_cell BK5.out 5).trans (rfl : _ = some (Value.int .i64 e.f3)); have d6 := (blk_cell BK5.out 6).trans (rfl : _ = some (Value.int .i64 e.f4))))
                    go_ret
                    rw [HR.out]
                    unfold ownB
                    rw [HS1.out, beq_iff_eq.2 HL.out, Bool.true_and, Bool.true_and, HT.out]
                    exact ⟨by first | rfl | (simp [errW_none] <;> rfl), HB5.out⟩
                  · have q3 : (e.f3 == 0) = false := beq_eq_false_iff_ne.2 z3
                    clear z3
                    have HT : Aside0 (ownT e = false) := ⟨by unfold ownT; rw [if_neg O1.out, if_neg O2.out, if_pos O3.out]; rw [q0, q1, q2, q3]; simp only [Bool.true_and, Bool.false_and]⟩
                    go_wp2_with (first | ((with_reducible refine gate_store (t := 23) (p := 15) rfl ?_); refine store_event (t := 23) (p := 15) (v := .const (.slice none 0 0)) (w1 := w3.setCell ⟨gb, 8, none⟩ (.slice none 0 0)) rfl rfl rfl ?hrS ?_; (case hrS => first | (go_simp; done) | (go_simp; rfl)); intro w5 hw5; have BK5 : Aside0 (w5.heap[gb]? = some (.cells (cellsE e (.slice none 0 0)) 46 (0, 0))) := ⟨by rw [hw5]; exact blk_set BK3.out 8 (.slice none 0 0)⟩; have HB5 : Aside0 (Below w.heap.size w w5) := ⟨by rw [hw5]; exact below_set HB3.out HGB.out⟩; clear hw5; have d0 := (blk_cell BK5.out 0).trans (rfl : _ = some (Value.int .i64 e.f0)); have d1 := (blk_cell BK5.out 1).trans (rfl : _ = some (Value.int .i64 e.f1.f0)); have d2 := (blk_cell BK5.out 2).trans (rfl : _ = some (Value.int .i64 e.f1.f1)); have d3 := (blk_cell BK5.out 3).trans (rfl : _ = some (Value.string e.f1.f2)); have d4 := (blk_cell BK5.out 4).trans (rfl : _ = some (Value.int .i64 e.f2)); have d5 := (blk_cell BK5.out 5).trans (rfl : _ = some (Value.int .i64 e.f3)); have d6 := (blk_cell BK5.out 6).trans (rfl : _ = some (Value.int .i64 e.f4))))
                    go_ret
                    rw [HR.out]
                    unfold ownB
                    rw [HS1.out, beq_iff_eq.2 HL.out, Bool.true_and, Bool.true_and, HT.out]
                    exact ⟨by first | rfl | (simp [errW_none] <;> rfl), HB5.out⟩
                · have q2 : (e.f2 == 0) = false := beq_eq_false_iff_ne.2 z2
                  clear z2
                  have HT : Aside0 (ownT e = false) := ⟨by unfold ownT; rw [if_neg O1.out, if_neg O2.out, if_pos O3.out]; rw [q0, q1, q2]; simp only [Bool.true_and, Bool.false_and]⟩
                  go_wp2_with (first | ((with_reducible refine gate_store (t := 23) (p := 15) rfl ?_); refine store_event (t := 23) (p := 15) (v := .const (.slice none 0 0)) (w1 := w3.setCell ⟨gb, 8, none⟩ (.slice none 0 0)) rfl rfl rfl ?hrS ?_; (case hrS => first | (go_simp; done) | (go_simp; rfl)); intro w5 hw5; have BK5 : Aside0 (w5.heap[gb]? = some (.cells (cellsE e (.slice none 0 0)) 46 (0, 0))) := ⟨by rw [hw5]; exact blk_set BK3.out 8 (.slice none 0 0)⟩; have HB5 : Aside0 (Below w.heap.size w w5) := ⟨by rw [hw5]; exact below_set HB3.out HGB.out⟩; clear hw5; have d0 := (blk_cell BK5.out 0).trans (rfl : _ = some (Value.int .i64 e.f0)); have d1 := (blk_cell BK5.out 1).trans (rfl : _ = some (Value.int .i64 e.f1.f0)); have d2 := (blk_cell BK5.out 2).trans (rfl : _ = some (Value.int .i64 e.f1.f1)); have d3 := (blk_cell BK5.out 3).trans (rfl : _ = some (Value.string e.f1.f2)); have d4 := (blk_cell BK5.out 4).trans (rfl : _ = some (Value.int .i64 e.f2)); have d5 := (blk_cell BK5.out 5).trans (rfl : _ = some (Value.int .i64 e.f3)); have d6 := (blk_cell BK5.out 6).trans (rfl : _ = some (Value.int .i64 e.f4))))
                  go_ret
                  rw [HR.out]
                  unfold ownB
                  rw [HS1.out, beq_iff_eq.2 HL.out, Bool.true_and, Bool.true_and, HT.out]
                  exact ⟨by first | rfl | (simp [errW_none] <;> rfl), HB5.out⟩
              · have q1 : decide (e.f4 ≤ 4) = false := decide_eq_false z1
                clear z1
                have HT : Aside0 (ownT e = false) := ⟨by unfold ownT; rw [if_neg O1.out, if_neg O2.out, if_pos O3.out]; rw [q0, q1]; simp only [Bool.true_and, Bool.false_and]⟩
                go_wp2_with (first | ((with_reducible refine gate_store (t := 23) (p := 15) rfl ?_); refine store_event (t := 23) (p := 15) (v := .const (.slice none 0 0)) (w1 := w3.setCell ⟨gb, 8, none⟩ (.slice none 0 0)) rfl rfl rfl ?hrS ?_; (case hrS => first | (go_simp; done) | (go_simp; rfl)); intro w5 hw5; have BK5 : Aside0 (w5.heap[gb]? = some (.cells (cellsE e (.slice none 0 0)) 46 (0, 0))) := ⟨by rw [hw5]; exact blk_set BK3.out 8 (.slice none 0 0)⟩; have HB5 : Aside0 (Below w.heap.size w w5) := ⟨by rw [hw5]; exact below_set HB3.out HGB.out⟩; clear hw5; have d0 := (blk_cell BK5.out 0).trans (rfl : _ = some (Value.int .i64 e.f0)); have d1 := (blk_cell BK5.out 1).trans (rfl : _ = some (Value.int .i64 e.f1.f0)); have d2 := (blk_cell BK5.out 2).trans (rfl : _ = some (Value.int .i64 e.f1.f1)); have d3 := (blk_cell BK5.out 3).trans (rfl : _ = some (Value.string e.f1.f2)); have d4 := (blk_cell BK5.out 4).trans (rfl : _ = some (Value.int .i64 e.f2)); have d5 := (blk_cell BK5.out 5).trans (rfl : _ = some (Value.int .i64 e.f3)); have d6 := (blk_cell BK5.out 6).trans (rfl : _ = some (Value.int .i64 e.f4))))
                go_ret
                rw [HR.out]
                unfold ownB
                rw [HS1.out, beq_iff_eq.2 HL.out, Bool.true_and, Bool.true_and, HT.out]
                exact ⟨by first | rfl | (simp [errW_none] <;> rfl), HB5.out⟩
            · have q0 : decide (e.f4 ≥ 1) = false := decide_eq_false z0
              clear z0
              have HT : Aside0 (ownT e = false) := ⟨by unfold ownT; rw [if_neg O1.out, if_neg O2.out, if_pos O3.out]; rw [q0]; simp only [Bool.true_and, Bool.false_and]⟩
              go_wp2_with (first | ((with_reducible refine gate_store (t := 23) (p := 15) rfl ?_); refine store_event (t := 23) (p := 15) (v := .const (.slice none 0 0)) (w1 := w3.setCell ⟨gb, 8, none⟩ (.slice none 0 0)) rfl rfl rfl ?hrS ?_; (case hrS => first | (go_simp; done) | (go_simp; rfl)); intro w5 hw5; have BK5 : Aside0 (w5.heap[gb]? = some (.cells (cellsE e (.slice none 0 0)) 46 (0, 0))) := ⟨by rw [hw5]; exact blk_set BK3.out 8 (.slice none 0 0)⟩; have HB5 : Aside0 (Below w.heap.size w w5) := ⟨by rw [hw5]; exact below_set HB3.out HGB.out⟩; clear hw5; have d0 := (blk_cell BK5.out 0).trans (rfl : _ = some (Value.int .i64 e.f0)); have d1 := (blk_cell BK5.out 1).trans (rfl : _ = some (Value.int .i64 e.f1.f0)); have d2 := (blk_cell BK5.out 2).trans (rfl : _ = some (Value.int .i64 e.f1.f1)); have d3 := (blk_cell BK5.out 3).trans (rfl : _ = some (Value.string e.f1.f2)); have d4 := (blk_cell BK5.out 4).trans (rfl : _ = some (Value.int .i64 e.f2)); have d5 := (blk_cell BK5.out 5).trans (rfl : _ = some (Value.int .i64 e.f3)); have d6 := (blk_cell BK5.out 6).trans (rfl : _ = some (Value.int .i64 e.f4))))
              go_ret
              rw [HR.out]
              unfold ownB
              rw [HS1.out, beq_iff_eq.2 HL.out, Bool.true_and, Bool.true_and, HT.out]
              exact ⟨by first | rfl | (simp [errW_none] <;> rfl), HB5.out⟩
          · have O3 := Aside0.mk o3
            have o3b : (e.f0 == 3) = false := beq_eq_false_iff_ne.2 o3
            clear o3
            by_cases z0 : (e.f2 = 0)
            · have q0 : (e.f2 == 0) = true := beq_iff_eq.2 z0
              clear z0
              by_cases z1 : (e.f3 = 0)
              · have q1 : (e.f3 == 0) = true := beq_iff_eq.2 z1
                clear z1
                by_cases z2 : (e.f4 = 0)
                · have q2 : (e.f4 == 0) = true := beq_iff_eq.2 z2
                  clear z2
                  have HT : Aside0 (ownT e = zvB e.f1) := ⟨by unfold ownT; rw [if_neg O1.out, if_neg O2.out, if_neg O3.out]; rw [q0, q1, q2]; simp only [Bool.true_and]⟩
                  unfold zvB at HT
                  go_wp2_with (first | ((with_reducible refine gate_store (t := 23) (p := 15) rfl ?_); refine store_event (t := 23) (p := 15) (v := .const (.slice none 0 0)) (w1 := w3.setCell ⟨gb, 8, none⟩ (.slice none 0 0)) rfl rfl rfl ?hrS ?_; (case hrS => first | (go_simp; done) | (go_simp; rfl)); intro w5 hw5; have BK5 : Aside0 (w5.heap[gb]? = some (.cells (cellsE e (.slice none 0 0)) 46 (0, 0))) := ⟨by rw [hw5]; exact blk_set BK3.out 8 (.slice none 0 0)⟩; have HB5 : Aside0 (Below w.heap.size w w5) := ⟨by rw [hw5]; exact below_set HB3.out HGB.out⟩; clear hw5; have d0 := (blk_cell BK5.out 0).trans (rfl : _ = some (Value.int .i64 e.f0)); have d1 := (blk_cell BK5.out 1).trans (rfl : _ = some (Value.int .i64 e.f1.f0)); have d2 := (blk_cell BK5.out 2).trans (rfl : _ = some (Value.int .i64 e.f1.f1)); have d3 := (blk_cell BK5.out 3).trans (rfl : _ = some (Value.string e.f1.f2)); have d4 := (blk_cell BK5.out 4).trans (rfl : _ = some (Value.int .i64 e.f2)); have d5 := (blk_cell BK5.out 5).trans (rfl : _ = some (Value.int .i64 e.f3)); have d6 := (blk_cell BK5.out 6).trans (rfl : _ = some (Value.int .i64 e.f4))))
                  go_ret
                  rw [HR.out]
                  unfold ownB
                  rw [HS1.out, beq_iff_eq.2 HL.out, Bool.true_and, Bool.true_and, HT.out]
                  exact ⟨by first | rfl | (simp [errW_none] <;> rfl), HB5.out⟩
                · have q2 : (e.f4 == 0) = false := beq_eq_false_iff_ne.2 z2
                  clear z2
                  have HT : Aside0 (ownT e = false) := ⟨by unfold ownT; rw [if_neg O1.out, if_neg O2.out, if_neg O3.out]; rw [q0, q1, q2]; simp only [Bool.true_and, Bool.false_and]⟩
                  go_wp2_with (first | ((with_reducible refine gate_store (t := 23) (p := 15) rfl ?_); refine store_event (t := 23) (p := 15) (v := .const (.slice none 0 0)) (w1 := w3.setCell ⟨gb, 8, none⟩ (.slice none 0 0)) rfl rfl rfl ?hrS ?_; (case hrS => first | (go_simp; done) | (go_simp; rfl)); intro w5 hw5; have BK5 : Aside0 (w5.heap[gb]? = some (.cells (cellsE e (.slice none 0 0)) 46 (0, 0))) := ⟨by rw [hw5]; exact blk_set BK3.out 8 (.slice none 0 0)⟩; have HB5 : Aside0 (Below w.heap.size w w5) := ⟨by rw [hw5]; exact below_set HB3.out HGB.out⟩; clear hw5; have d0 := (blk_cell BK5.out 0).trans (rfl : _ = some (Value.int .i64 e.f0)); have d1 := (blk_cell BK5.out 1).trans (rfl : _ = some (Value.int .i64 e.f1.f0)); have d2 := (blk_cell BK5.out 2).trans (rfl : _ = some (Value.int .i64 e.f1.f1)); have d3 := (blk_cell BK5.out 3).trans (rfl : _ = some (Value.string e.f1.f2)); have d4 := (blk_cell BK5.out 4).trans (rfl : _ = some (Value.int .i64 e.f2)); have d5 := (blk_cell BK5.out 5).trans (rfl : _ = some (Value.int .i64 e.f3)); have d6 := (blk_cell BK5.out 6).trans (rfl : _ = some (Value.int .i64 e.f4))))
                  go_ret
                  rw [HR.out]
                  unfold ownB
                  rw [HS1.out, beq_iff_eq.2 HL.out, Bool.true_and, Bool.true_and, HT.out]
                  exact ⟨by first | rfl | (simp [errW_none] <;> rfl), HB5.out⟩
              · have q1 : (e.f3 == 0) = false := beq_eq_false_iff_ne.2 z1
                clear z1
                have HT : Aside0 (ownT e = false) := ⟨by unfold ownT; rw [if_neg O1.out, if_neg O2.out, if_neg O3.out]; rw [q0, q1]; simp only [Bool.true_and, Bool.false_and]⟩
                go_wp2_with (first | ((with_reducible refine gate_store (t := 23) (p := 15) rfl ?_); refine store_event (t := 23) (p := 15) (v := .const (.slice none 0 0)) (w1 := w3.setCell ⟨gb, 8, none⟩ (.slice none 0 0)) rfl rfl rfl ?hrS ?_; (case hrS => first | (go_simp; done) | (go_simp; rfl)); intro w5 hw5; have BK5 : Aside0 (w5.heap[gb]? = some (.cells (cellsE e (.slice none 0 0)) 46 (0, 0))) := ⟨by rw [hw5]; exact blk_set BK3.out 8 (.slice none 0 0)⟩; have HB5 : Aside0 (Below w.heap.size w w5) := ⟨by rw [hw5]; exact below_set HB3.out HGB.out⟩; clear hw5; have d0 := (blk_cell BK5.out 0).trans (rfl : _ = some (Value.int .i64 e.f0)); have d1 := (blk_cell BK5.out 1).trans (rfl : _ = some (Value.int .i64 e.f1.f0)); have d2 := (blk_cell BK5.out 2).trans (rfl : _ = some (Value.int .i64 e.f1.f1)); have d3 := (blk_cell BK5.out 3).trans (rfl : _ = some (Value.string e.f1.f2)); have d4 := (blk_cell BK5.out 4).trans (rfl : _ = some (Value.int .i64 e.f2)); have d5 := (blk_cell BK5.out 5).trans (rfl : _ = some (Value.int .i64 e.f3)); have d6 := (blk_cell BK5.out 6).trans (rfl : _ = some (Value.int .i64 e.f4))))
                go_ret
                rw [HR.out]
                unfold ownB
                rw [HS1.out, beq_iff_eq.2 HL.out, Bool.true_and, Bool.true_and, HT.out]
                exact ⟨by first | rfl | (simp [errW_none] <;> rfl), HB5.out⟩
            · have q0 : (e.f2 == 0) = false := beq_eq_false_iff_ne.2 z0
              clear z0
              have HT : Aside0 (ownT e = false) := ⟨by unfold ownT; rw [if_neg O1.out, if_neg O2.out, if_neg O3.out]; rw [q0]; simp only [Bool.true_and, Bool.false_and]⟩
              go_wp2_with (first | ((with_reducible refine gate_store (t := 23) (p := 15) rfl ?_); refine store_event (t := 23) (p := 15) (v := .const (.slice none 0 0)) (w1 := w3.setCell ⟨gb, 8, none⟩ (.slice none 0 0)) rfl rfl rfl ?hrS ?_; (case hrS => first | (go_simp; done) | (go_simp; rfl)); intro w5 hw5; have BK5 : Aside0 (w5.heap[gb]? = some (.cells (cellsE e (.slice none 0 0)) 46 (0, 0))) := ⟨by rw [hw5]; exact blk_set BK3.out 8 (.slice none 0 0)⟩; have HB5 : Aside0 (Below w.heap.size w w5) := ⟨by rw [hw5]; exact below_set HB3.out HGB.out⟩; clear hw5; have d0 := (blk_cell BK5.out 0).trans (rfl : _ = some (Value.int .i64 e.f0)); have d1 := (blk_cell BK5.out 1).trans (rfl : _ = some (Value.int .i64 e.f1.f0)); have d2 := (blk_cell BK5.out 2).trans (rfl : _ = some (Value.int .i64 e.f1.f1)); have d3 := (blk_cell BK5.out 3).trans (rfl : _ = some (Value.string e.f1.f2)); have d4 := (blk_cell BK5.out 4).trans (rfl : _ = some (Value.int .i64 e.f2)); have d5 := (blk_cell BK5.out 5).trans (rfl : _ = some (Value.int .i64 e.f3)); have d6 := (blk_cell BK5.out 6).trans (rfl : _ = some (Value.int .i64 e.f4))))
              go_ret
              rw [HR.out]
              unfold ownB
              rw [HS1.out, beq_iff_eq.2 HL.out, Bool.true_and, Bool.true_and, HT.out]
              exact ⟨by first | rfl | (simp [errW_none] <;> rfl), HB5.out⟩
    · have hl1 : ((e.f6.length : Int) != wantsI e.f0) = true := bne_iff_ne.2 hl
      have HL := Aside0.mk hl
      clear hl
      go_wp2
      go_ret
      rw [HR.out]
      unfold ownB
      rw [beq_eq_false_iff_ne.2 HL.out, Bool.false_and, Bool.and_false]
      exact ⟨rfl, HB3.out⟩
  · have hs1 : (e.f5.toList == ([] : List UInt8)) = false := beq_eq_false_iff_ne.2 hs
    have HS1 := Aside0.mk hs1
    clear hs
    refine start_ (n := 12) (S := fun w' => w'.cell? ⟨gb, 0, none⟩ = some (.int .i64 e.f0) ∧ w'.cell? ⟨gb, 7, none⟩ = some (.string e.f5) ∧ w'.cell? ⟨gb, 8, none⟩ = some (.slice A e.f6.length c)) (ds := []) #[false, false, false, false, false, false, false, false, false, false, false, false] (by kernel_rfl) rfl rfl ⟨m0_.out, m1_.out, m2_.out⟩ (fun hHeld => ?_)
    refine pure_ (i := 0) (N := some 3) (v := ?_) (a' := ?_) #[true, false, false, false, false, false, false, false, false, false, false, false] rfl rfl (by kernel_rfl) (fun _ _ _ h => h) (Or.inl ⟨by rfl, ?_⟩) ?_ ?_
    rotate_left
    · intro w'
      go_simp
      with_reducible rfl
    rotate_left
    · simp only [Act.put, List.setIfInBounds_toArray, List.set_cons_zero, List.set_cons_succ, i64_w, i32_w]
      rfl
    refine take_ (i := 1) (N := some 4) (v := ?_) (a' := ?_) #[true, true, false, false, false, false, false, false, false, false, false, false] rfl rfl (by kernel_rfl) (fun _ _ _ h => h) (Or.inl ⟨by rfl, ?_⟩) hHeld ?_ ?_
    rotate_left
    · rintro w' ⟨s0, s1, s2⟩
      go_simp
      with_reducible rfl
    rotate_left
    · simp only [Act.put, List.setIfInBounds_toArray, List.set_cons_zero, List.set_cons_succ, i64_w, i32_w]
      rfl
    refine pure_ (i := 2) (N := some 5) (v := ?_) (a' := ?_) #[true, true, true, false, false, false, false, false, false, false, false, false] rfl rfl (by kernel_rfl) (fun _ _ _ h => h) (Or.inl ⟨by rfl, ?_⟩) ?_ ?_
    rotate_left
    · intro w'
      go_simp
      with_reducible rfl
    rotate_left
    · simp only [Act.put, List.setIfInBounds_toArray, List.set_cons_zero, List.set_cons_succ, i64_w, i32_w]
      rfl
    refine pure_ (i := 3) (N := some 6) (v := ?_) (a' := ?_) #[true, true, true, true, false, false, false, false, false, false, false, false] rfl rfl (by kernel_rfl) (fun _ _ _ h => h) (Or.inl ⟨by rfl, ?_⟩) ?_ ?_
    rotate_left
    · intro w'
      go_simp
      with_reducible rfl
    rotate_left
    · simp only [Act.put, List.setIfInBounds_toArray, List.set_cons_zero, List.set_cons_succ, i64_w, i32_w]
      rfl
    refine pure_ (i := 4) (N := some 7) (v := undef) (a' := ?_) #[true, true, true, true, true, false, false, false, false, false, false, false] rfl rfl (by kernel_rfl) (fun _ _ _ h => h) (Or.inr ⟨by rfl, rfl⟩) ?_ ?_
    rotate_left
    · simp only [Act.put, List.setIfInBounds_toArray, List.set_cons_zero, List.set_cons_succ, i64_w, i32_w]
      rfl
    refine pure_ (i := 5) (N := some 8) (v := undef) (a' := ?_) #[true, true, true, true, true, true, false, false, false, false, false, false] rfl rfl (by kernel_rfl) (fun _ _ _ h => h) (Or.inr ⟨by rfl, rfl⟩) ?_ ?_
    rotate_left
    · simp only [Act.put, List.setIfInBounds_toArray, List.set_cons_zero, List.set_cons_succ, i64_w, i32_w]
      rfl
    refine pure_ (i := 6) (N := some 9) (v := undef) (a' := ?_) #[true, true, true, true, true, true, true, false, false, false, false, false] rfl rfl (by kernel_rfl) (fun _ _ _ h => h) (Or.inr ⟨by rfl, rfl⟩) ?_ ?_
    rotate_left
    · simp only [Act.put, List.setIfInBounds_toArray, List.set_cons_zero, List.set_cons_succ, i64_w, i32_w]
      rfl
    refine pure_ (i := 7) (N := some 10) (v := undef) (a' := ?_) #[true, true, true, true, true, true, true, true, false, false, false, false] rfl rfl (by kernel_rfl) (fun _ _ _ h => h) (Or.inr ⟨by rfl, rfl⟩) ?_ ?_
    rotate_left
    · simp only [Act.put, List.setIfInBounds_toArray, List.set_cons_zero, List.set_cons_succ, i64_w, i32_w]
      rfl
    refine pure_ (i := 8) (N := some 11) (v := undef) (a' := ?_) #[true, true, true, true, true, true, true, true, true, false, false, false] rfl rfl (by kernel_rfl) (fun _ _ _ h => h) (Or.inr ⟨by rfl, rfl⟩) ?_ ?_
    rotate_left
    · simp only [Act.put, List.setIfInBounds_toArray, List.set_cons_zero, List.set_cons_succ, i64_w, i32_w]
      rfl
    refine pure_ (i := 9) (N := some 12) (v := undef) (a' := ?_) #[true, true, true, true, true, true, true, true, true, true, false, false] rfl rfl (by kernel_rfl) (fun _ _ _ h => h) (Or.inr ⟨by rfl, rfl⟩) ?_ ?_
    rotate_left
    · simp only [Act.put, List.setIfInBounds_toArray, List.set_cons_zero, List.set_cons_succ, i64_w, i32_w]
      rfl
    refine pure_ (i := 10) (N := some 13) (v := undef) (a' := ?_) #[true, true, true, true, true, true, true, true, true, true, true, false] rfl rfl (by kernel_rfl) (fun _ _ _ h => h) (Or.inr ⟨by rfl, rfl⟩) ?_ ?_
    rotate_left
    · simp only [Act.put, List.setIfInBounds_toArray, List.set_cons_zero, List.set_cons_succ, i64_w, i32_w]
      rfl
    refine pure_ (i := 11) (N := some 14) (v := ?_) (a' := ?_) #[true, true, true, true, true, true, true, true, true, true, true, true] rfl rfl (by kernel_rfl) (fun _ _ _ h => h) (Or.inl ⟨by rfl, ?_⟩) ?_ ?_
    rotate_left
    · intro w'
      go_simp
      with_reducible rfl
    rotate_left
    · simp only [Act.put, List.setIfInBounds_toArray, List.set_cons_zero, List.set_cons_succ, i64_w, i32_w]
      rfl
    refine done_ (by kernel_rfl) ?_
    go_wp2
    go_ret
    rw [HR.out]
    unfold ownB
    rw [HS1.out, Bool.false_and]
    exact ⟨rfl, below_drew HB.out⟩

end Go.Proofs.YtmnjaihalajhcaaDoor.QPlanConds
