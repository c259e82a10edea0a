import Derived.Test.YtmnjaihalajhcaaDoorPlRl
import Derived.Test.YtmnjaihalajhcaaDoorPlR
import Derived.Test.YtmnjaihalajhcaaDoorPlX
/- Plan: walks by hand; the conditions stand in each theorem. -/
namespace Go.Proofs.YtmnjaihalajhcaaDoor.QPlanConds
open Go.RowKit Go.Proofs.YtmnjaihalajhcaaDoorW.PrintWords Go.Proofs.YtmnjaihalajhcaaDoorW.PrintLast Go.Proofs.YtmnjaihalajhcaaDoorW.PrintMore
attribute [local go_sem] max2_int min2_int max_two min_two max_three min_three max_four min_four
set_option linter.unusedVariables false
set_option linter.unusedSimpArgs false
set_option maxRecDepth 8000 in
set_option maxHeartbeats 16000000 in
theorem conds_row (W : World) (b : BV) (L : List S46) (i left right rel : Int) (hn : b.n4 = L.length) (hL : k46.C W b.A4 b.n4 L) (wi : (Lit.int .i64 i).wf = true) (wl : (Lit.int .i64 left).wf = true) (wr : (Lit.int .i64 right).wf = true) (wm : (Lit.int .i64 rel).wf = true) :
    Calls Tryd.prog 3 #[b.enc, .int .i64 i, .int .i64 left, .int .i64 right, .int .i64 rel] W fun e_ w' => e_ = .returned (.bool true) ∧ Below W.heap.size W w' := by
  have hu26 := Tryd.underlying26
  have il := i64_bd wl
  have ir := i64_bd wr
  have HL := Aside0.mk hL
  have H12 : Aside0 (∀ w', Below W.heap.size W w' → Calls Tryd.prog 12 #[b.enc, .int .i64 i, .int .i64 left, .int .i64 right] w' fun e_ w'' => e_ = .returned (.bool (joinsX L i left right)) ∧ Below w'.heap.size w' w'') := ⟨fun w' hb => joins12 b L i left right w' hn (Kd.C_below hL hb)⟩
  have H13 : Aside0 (∀ w', Below W.heap.size W w' → Calls Tryd.prog 13 #[b.enc, .int .i64 i, .int .i64 left, .int .i64 right] w' fun e_ w'' => e_ = .returned (.bool (joinsX L i left right)) ∧ Below w'.heap.size w' w'') := ⟨fun w' hb => refJoins13 b L i left right w' (by omega) (by omega) hn (Kd.C_below hL hb)⟩
  have H10 : Aside0 (∀ w', Below W.heap.size W w' → Calls Tryd.prog 10 #[b.enc, .int .i64 i, .int .i64 rel] w' fun e_ w'' => e_ = .returned (.tuple #[.int .i64 ((looksO L i rel).getD 0), .bool (looksO L i rel).isSome]) ∧ Below w'.heap.size w' w'') := ⟨fun w' hb => looks10 b L i rel w' hn (Kd.C_below hL hb)⟩
  have H11 : Aside0 (∀ w', Below W.heap.size W w' → Calls Tryd.prog 11 #[b.enc, .int .i64 i, .int .i64 rel] w' fun e_ w'' => e_ = .returned (.tuple #[.int .i64 ((looksO L i rel).getD 0), .bool (looksO L i rel).isSome]) ∧ Below w'.heap.size w' w'') := ⟨fun w' hb => refLooks11 b L i rel w' hn (Kd.C_below hL hb)⟩
  clear hn hL HL wi wl wr wm il ir
  generalize joinsX L i left right = J at *
  generalize (looksO L i rel).getD 0 = lv at *
  generalize (looksO L i rel).isSome = lb at *
  unfold BV.enc at *
  go_enter Tryd.func3, Tryd.ntmps3
  go_wp2_with (first | ((with_reducible refine gate_dst (N := 5) rfl ?_); refine box_event ?hg (N := 5) ?hd (cs := b.cells) (t := 26) ?hr ?_; (case hd => rfl); (case hg => rfl); (case hr => unfold BV.cells; first | (go_simp; done) | (go_simp; rfl)); intro gb hg1 w1 hbox hb; have BB1 := Aside0.mk hbox; have HB1 := Aside0.mk hb; clear hbox hb hg1) | (go_at_call 9; refine (examples9 _).mono ?_; rintro e_ w3 ⟨rfl, hb3⟩; have HB3 := Aside0.mk (bst HB1.out hb3); have BB3 := Aside0.mk ((hb3.block gb (blk_lt BB1.out)).trans BB1.out); clear hb3; have b0 := (blk_cell BB3.out 0).trans (rfl : _ = some (Value.slice b.A0 b.n0 b.c0)); have b1 := (blk_cell BB3.out 1).trans (rfl : _ = some (Value.int .i64 b.core)); have b2 := (blk_cell BB3.out 2).trans (rfl : _ = some (Value.slice b.A2 b.n2 b.c2)); have b3 := (blk_cell BB3.out 3).trans (rfl : _ = some (Value.slice b.A3 b.n3 b.c3)); have b4 := (blk_cell BB3.out 4).trans (rfl : _ = some (Value.slice b.A4 b.n4 b.c4)); have b5 := (blk_cell BB3.out 5).trans (rfl : _ = some (Value.slice b.A5 b.n5 b.c5)); have b6 := (blk_cell BB3.out 6).trans (rfl : _ = some (Value.slice b.A6 b.n6 b.c6)); have b7 := (blk_cell BB3.out 7).trans (rfl : _ = some (Value.bool b.g7)); have b8 := (blk_cell BB3.out 8).trans (rfl : _ = some (Value.slice b.A8 b.n8 b.c8)); have b9 := (blk_cell BB3.out 9).trans (rfl : _ = some (Value.slice b.A9 b.n9 b.c9)); have b10 := (blk_cell BB3.out 10).trans (rfl : _ = some (Value.bool b.d10))) | (go_at_call 10; refine (H10.out _ HB3.out).mono ?_; rintro e_ w4 ⟨rfl, hb4⟩; have HB4 := Aside0.mk (bst HB3.out hb4); have BB4 := Aside0.mk ((hb4.block gb (blk_lt BB3.out)).trans BB3.out); clear hb4 b0 b1 b2 b3 b4 b5 b6 b7 b8 b9 b10; have b0 := (blk_cell BB4.out 0).trans (rfl : _ = some (Value.slice b.A0 b.n0 b.c0)); have b1 := (blk_cell BB4.out 1).trans (rfl : _ = some (Value.int .i64 b.core)); have b2 := (blk_cell BB4.out 2).trans (rfl : _ = some (Value.slice b.A2 b.n2 b.c2)); have b3 := (blk_cell BB4.out 3).trans (rfl : _ = some (Value.slice b.A3 b.n3 b.c3)); have b4 := (blk_cell BB4.out 4).trans (rfl : _ = some (Value.slice b.A4 b.n4 b.c4)); have b5 := (blk_cell BB4.out 5).trans (rfl : _ = some (Value.slice b.A5 b.n5 b.c5)); have b6 := (blk_cell BB4.out 6).trans (rfl : _ = some (Value.slice b.A6 b.n6 b.c6)); have b7 := (blk_cell BB4.out 7).trans (rfl : _ = some (Value.bool b.g7)); have b8 := (blk_cell BB4.out 8).trans (rfl : _ = some (Value.slice b.A8 b.n8 b.c8)); have b9 := (blk_cell BB4.out 9).trans (rfl : _ = some (Value.slice b.A9 b.n9 b.c9)); have b10 := (blk_cell BB4.out 10).trans (rfl : _ = some (Value.bool b.d10))) | (go_at_call 11; refine (H11.out _ HB4.out).mono ?_; rintro e_ w5 ⟨rfl, hb5⟩; have HB5 := Aside0.mk (bst HB4.out hb5); have BB5 := Aside0.mk ((hb5.block gb (blk_lt BB4.out)).trans BB4.out); clear hb5 b0 b1 b2 b3 b4 b5 b6 b7 b8 b9 b10; have b0 := (blk_cell BB5.out 0).trans (rfl : _ = some (Value.slice b.A0 b.n0 b.c0)); have b1 := (blk_cell BB5.out 1).trans (rfl : _ = some (Value.int .i64 b.core)); have b2 := (blk_cell BB5.out 2).trans (rfl : _ = some (Value.slice b.A2 b.n2 b.c2)); have b3 := (blk_cell BB5.out 3).trans (rfl : _ = some (Value.slice b.A3 b.n3 b.c3)); have b4 := (blk_cell BB5.out 4).trans (rfl : _ = some (Value.slice b.A4 b.n4 b.c4)); have b5 := (blk_cell BB5.out 5).trans (rfl : _ = some (Value.slice b.A5 b.n5 b.c5)); have b6 := (blk_cell BB5.out 6).trans (rfl : _ = some (Value.slice b.A6 b.n6 b.c6)); have b7 := (blk_cell BB5.out 7).trans (rfl : _ = some (Value.bool b.g7)); have b8 := (blk_cell BB5.out 8).trans (rfl : _ = some (Value.slice b.A8 b.n8 b.c8)); have b9 := (blk_cell BB5.out 9).trans (rfl : _ = some (Value.slice b.A9 b.n9 b.c9)); have b10 := (blk_cell BB5.out 10).trans (rfl : _ = some (Value.bool b.d10))))
  have m0_ : Aside0 (w5.drew.cell? ⟨gb, 0, none⟩ = some (.slice b.A0 b.n0 b.c0)) := ⟨b0⟩
  have m1_ : Aside0 (w5.drew.cell? ⟨gb, 1, none⟩ = some (.int .i64 b.core)) := ⟨b1⟩
  have m2_ : Aside0 (w5.drew.cell? ⟨gb, 2, none⟩ = some (.slice b.A2 b.n2 b.c2)) := ⟨b2⟩
  have m3_ : Aside0 (w5.drew.cell? ⟨gb, 3, none⟩ = some (.slice b.A3 b.n3 b.c3)) := ⟨b3⟩
  have m4_ : Aside0 (w5.drew.cell? ⟨gb, 4, none⟩ = some (.slice b.A4 b.n4 b.c4)) := ⟨b4⟩
  have m5_ : Aside0 (w5.drew.cell? ⟨gb, 5, none⟩ = some (.slice b.A5 b.n5 b.c5)) := ⟨b5⟩
  have m6_ : Aside0 (w5.drew.cell? ⟨gb, 6, none⟩ = some (.slice b.A6 b.n6 b.c6)) := ⟨b6⟩
  have m7_ : Aside0 (w5.drew.cell? ⟨gb, 7, none⟩ = some (.bool b.g7)) := ⟨b7⟩
  have m8_ : Aside0 (w5.drew.cell? ⟨gb, 8, none⟩ = some (.slice b.A8 b.n8 b.c8)) := ⟨b8⟩
  have m9_ : Aside0 (w5.drew.cell? ⟨gb, 9, none⟩ = some (.slice b.A9 b.n9 b.c9)) := ⟨b9⟩
  have m10_ : Aside0 (w5.drew.cell? ⟨gb, 10, none⟩ = some (.bool b.d10)) := ⟨b10⟩
  clear b0 b1 b2 b3 b4 b5 b6 b7 b8 b9 b10
  refine start_ (n := 25) (S := fun w' => w'.cell? ⟨gb, 0, none⟩ = some (.slice b.A0 b.n0 b.c0) ∧ w'.cell? ⟨gb, 1, none⟩ = some (.int .i64 b.core) ∧ w'.cell? ⟨gb, 2, none⟩ = some (.slice b.A2 b.n2 b.c2) ∧ w'.cell? ⟨gb, 3, none⟩ = some (.slice b.A3 b.n3 b.c3) ∧ w'.cell? ⟨gb, 4, none⟩ = some (.slice b.A4 b.n4 b.c4) ∧ w'.cell? ⟨gb, 5, none⟩ = some (.slice b.A5 b.n5 b.c5) ∧ w'.cell? ⟨gb, 6, none⟩ = some (.slice b.A6 b.n6 b.c6) ∧ w'.cell? ⟨gb, 7, none⟩ = some (.bool b.g7) ∧ w'.cell? ⟨gb, 8, none⟩ = some (.slice b.A8 b.n8 b.c8) ∧ w'.cell? ⟨gb, 9, none⟩ = some (.slice b.A9 b.n9 b.c9) ∧ w'.cell? ⟨gb, 10, none⟩ = some (.bool b.d10)) (ds := []) #[false, false, false, false, false, false, false, false, false, false, false, false, false, false, false, false, false, false, false, false, false, false, false, false, false] (by kernel_rfl) rfl rfl ⟨m0_.out, m1_.out, m2_.out, m3_.out, m4_.out, m5_.out, m6_.out, m7_.out, m8_.out, m9_.out, m10_.out⟩ (fun hHeld => ?_)
  refine pure_ (i := 0) (N := some 31) (v := ?_) (a' := ?_) #[true, false, false, false, false, false, false, false, false, false, false, false, false, false, false, false, false, false, false, false, false, false, false, false, false] rfl rfl (by kernel_rfl) (fun _ _ _ h => h) (Or.inl ⟨by rfl, ?_⟩) ?_ ?_
  rotate_left
  · intro w'
    go_simp
    with_reducible rfl
  rotate_left
  · simp only [Act.put, List.setIfInBounds_toArray, List.set_cons_zero, List.set_cons_succ, i64_w, i32_w]
    rfl
  refine pure_ (i := 1) (N := some 32) (v := ?_) (a' := ?_) #[true, true, false, false, false, false, false, false, false, false, false, false, false, false, false, false, false, false, false, false, false, false, false, false, false] rfl rfl (by kernel_rfl) (fun _ _ _ h => h) (Or.inl ⟨by rfl, ?_⟩) ?_ ?_
  rotate_left
  · intro w'
    go_simp
    with_reducible rfl
  rotate_left
  · simp only [Act.put, List.setIfInBounds_toArray, List.set_cons_zero, List.set_cons_succ, i64_w, i32_w]
    rfl
  refine pure_ (i := 3) (N := some 34) (v := ?_) (a' := ?_) #[true, true, false, true, false, false, false, false, false, false, false, false, false, false, false, false, false, false, false, false, false, false, false, false, false] rfl rfl (by kernel_rfl) (fun _ _ _ h => h) (Or.inl ⟨by rfl, ?_⟩) ?_ ?_
  rotate_left
  · intro w'
    go_simp
    with_reducible rfl
  rotate_left
  · simp only [Act.put, List.setIfInBounds_toArray, List.set_cons_zero, List.set_cons_succ, i64_w, i32_w]
    rfl
  refine pure_ (i := 4) (N := some 35) (v := ?_) (a' := ?_) #[true, true, false, true, true, false, false, false, false, false, false, false, false, false, false, false, false, false, false, false, false, false, false, false, false] rfl rfl (by kernel_rfl) (fun _ _ _ h => h) (Or.inl ⟨by rfl, ?_⟩) ?_ ?_
  rotate_left
  · intro w'
    go_simp
    with_reducible rfl
  rotate_left
  · simp only [Act.put, List.setIfInBounds_toArray, List.set_cons_zero, List.set_cons_succ, i64_w, i32_w]
    rfl
  refine pure_ (i := 5) (N := some 36) (v := ?_) (a' := ?_) #[true, true, false, true, true, true, false, false, false, false, false, false, false, false, false, false, false, false, false, false, false, false, false, false, false] rfl rfl (by kernel_rfl) (fun _ _ _ h => h) (Or.inl ⟨by rfl, ?_⟩) ?_ ?_
  rotate_left
  · intro w'
    go_simp
    with_reducible rfl
  rotate_left
  · simp only [Act.put, List.setIfInBounds_toArray, List.set_cons_zero, List.set_cons_succ, i64_w, i32_w]
    rfl
  refine pure_ (i := 8) (N := some 39) (v := ?_) (a' := ?_) #[true, true, false, true, true, true, false, false, true, false, false, false, false, false, false, false, false, false, false, false, false, false, false, false, false] rfl rfl (by kernel_rfl) (fun _ _ _ h => h) (Or.inl ⟨by rfl, ?_⟩) ?_ ?_
  rotate_left
  · intro w'
    go_simp
    with_reducible rfl
  rotate_left
  · simp only [Act.put, List.setIfInBounds_toArray, List.set_cons_zero, List.set_cons_succ, i64_w, i32_w]
    rfl
  refine pure_ (i := 9) (N := some 40) (v := ?_) (a' := ?_) #[true, true, false, true, true, true, false, false, true, true, false, false, false, false, false, false, false, false, false, false, false, false, false, false, false] rfl rfl (by kernel_rfl) (fun _ _ _ h => h) (Or.inl ⟨by rfl, ?_⟩) ?_ ?_
  rotate_left
  · intro w'
    go_simp
    with_reducible rfl
  rotate_left
  · simp only [Act.put, List.setIfInBounds_toArray, List.set_cons_zero, List.set_cons_succ, i64_w, i32_w]
    rfl
  refine pure_ (i := 10) (N := some 41) (v := ?_) (a' := ?_) #[true, true, false, true, true, true, false, false, true, true, true, false, false, false, false, false, false, false, false, false, false, false, false, false, false] rfl rfl (by kernel_rfl) (fun _ _ _ h => h) (Or.inl ⟨by rfl, ?_⟩) ?_ ?_
  rotate_left
  · intro w'
    go_simp
    with_reducible rfl
  rotate_left
  · simp only [Act.put, List.setIfInBounds_toArray, List.set_cons_zero, List.set_cons_succ, i64_w, i32_w]
    rfl
  refine take_ (i := 2) (N := some 33) (v := ?_) (a' := ?_) #[true, true, true, true, true, true, false, false, true, true, true, false, false, false, false, false, false, false, false, false, false, false, false, false, false] rfl rfl (by kernel_rfl) (fun _ _ _ h => h) (Or.inl ⟨by rfl, ?_⟩) hHeld ?_ ?_
  rotate_left
  · rintro w' ⟨s0, s1, s2, s3, s4, s5, s6, s7, s8, s9, s10⟩
    go_simp
    with_reducible rfl
  rotate_left
  · simp only [Act.put, List.setIfInBounds_toArray, List.set_cons_zero, List.set_cons_succ, i64_w, i32_w]
    rfl
  refine take_ (i := 7) (N := some 38) (v := ?_) (a' := ?_) #[true, true, true, true, true, true, false, true, true, true, true, false, false, false, false, false, false, false, false, false, false, false, false, false, false] rfl rfl (by kernel_rfl) (fun _ _ _ h => h) (Or.inl ⟨by rfl, ?_⟩) hHeld ?_ ?_
  rotate_left
  · rintro w' ⟨s0, s1, s2, s3, s4, s5, s6, s7, s8, s9, s10⟩
    go_simp
    with_reducible rfl
  rotate_left
  · simp only [Act.put, List.setIfInBounds_toArray, List.set_cons_zero, List.set_cons_succ, i64_w, i32_w]
    rfl
  refine one_ (i := 6) (N := some 37) #[true, true, true, true, true, true, true, true, true, true, true, false, false, false, false, false, false, false, false, false, false, false, false, false, false] rfl rfl (by kernel_rfl) (by decide) (fun K hK => ?_)
  refine goes_ Tryd.func12 (by kernel_rfl) rfl #[.agg #[.slice b.A0 b.n0 b.c0, .int .i64 b.core, .slice b.A2 b.n2 b.c2, .slice b.A3 b.n3 b.c3, .slice b.A4 b.n4 b.c4, .slice b.A5 b.n5 b.c5, .slice b.A6 b.n6 b.c6, .bool b.g7, .slice b.A8 b.n8 b.c8, .slice b.A9 b.n9 b.c9, .bool b.d10], .int .i64 i, .int .i64 left, .int .i64 right] (by rfl) rfl rfl (by simp only [List.map_toArray, List.map_cons, List.map_nil]; rfl) ?_
  with_reducible refine (H12.out _ (below_drew HB5.out)).mono ?_
  rintro e_ w6 ⟨rfl, hb6⟩
  refine ⟨_, rfl, ?_⟩
  refine hK.out _ _ ⟨cells_later hb6 hHeld.1, cells_later hb6 hHeld.2.1, cells_later hb6 hHeld.2.2.1, cells_later hb6 hHeld.2.2.2.1, cells_later hb6 hHeld.2.2.2.2.1, cells_later hb6 hHeld.2.2.2.2.2.1, cells_later hb6 hHeld.2.2.2.2.2.2.1, cells_later hb6 hHeld.2.2.2.2.2.2.2.1, cells_later hb6 hHeld.2.2.2.2.2.2.2.2.1, cells_later hb6 hHeld.2.2.2.2.2.2.2.2.2.1, cells_later hb6 hHeld.2.2.2.2.2.2.2.2.2.2⟩ (fun hHeld => ?_)
  clear hK K
  refine norm_ (a' := ?_) ?_ ?_
  rotate_left
  · show Act.put _ (some 37) _ = _
    simp only [Act.put, List.setIfInBounds_toArray, List.set_cons_zero, List.set_cons_succ, i64_w, i32_w]
    rfl
  refine one_ (i := 11) (N := some 42) #[true, true, true, true, true, true, true, true, true, true, true, true, false, false, false, false, false, false, false, false, false, false, false, false, false] rfl rfl (by kernel_rfl) (by decide) (fun K hK => ?_)
  refine goes_ Tryd.func13 (by kernel_rfl) rfl #[.agg #[.slice b.A0 b.n0 b.c0, .int .i64 b.core, .slice b.A2 b.n2 b.c2, .slice b.A3 b.n3 b.c3, .slice b.A4 b.n4 b.c4, .slice b.A5 b.n5 b.c5, .slice b.A6 b.n6 b.c6, .bool b.g7, .slice b.A8 b.n8 b.c8, .slice b.A9 b.n9 b.c9, .bool b.d10], .int .i64 i, .int .i64 left, .int .i64 right] (by rfl) rfl rfl (by simp only [List.map_toArray, List.map_cons, List.map_nil]; rfl) ?_
  with_reducible refine (H13.out _ (bst (below_drew HB5.out) hb6)).mono ?_
  rintro e_ w7 ⟨rfl, hb7⟩
  refine ⟨_, rfl, ?_⟩
  refine hK.out _ _ ⟨cells_later hb7 hHeld.1, cells_later hb7 hHeld.2.1, cells_later hb7 hHeld.2.2.1, cells_later hb7 hHeld.2.2.2.1, cells_later hb7 hHeld.2.2.2.2.1, cells_later hb7 hHeld.2.2.2.2.2.1, cells_later hb7 hHeld.2.2.2.2.2.2.1, cells_later hb7 hHeld.2.2.2.2.2.2.2.1, cells_later hb7 hHeld.2.2.2.2.2.2.2.2.1, cells_later hb7 hHeld.2.2.2.2.2.2.2.2.2.1, cells_later hb7 hHeld.2.2.2.2.2.2.2.2.2.2⟩ (fun hHeld => ?_)
  clear hK K
  refine norm_ (a' := ?_) ?_ ?_
  rotate_left
  · show Act.put _ (some 42) _ = _
    simp only [Act.put, List.setIfInBounds_toArray, List.set_cons_zero, List.set_cons_succ, i64_w, i32_w]
    rfl
  refine pure_ (i := 12) (N := some 43) (v := ?_) (a' := ?_) #[true, true, true, true, true, true, true, true, true, true, true, true, true, false, false, false, false, false, false, false, false, false, false, false, false] rfl rfl (by kernel_rfl) (fun _ _ _ h => h) (Or.inl ⟨by rfl, ?_⟩) ?_ ?_
  rotate_left
  · intro w'
    go_simp
    with_reducible rfl
  rotate_left
  · simp only [Act.put, List.setIfInBounds_toArray, List.set_cons_zero, List.set_cons_succ, i64_w, i32_w]
    rfl
  refine pure_ (i := 13) (N := some 44) (v := ?_) (a' := ?_) #[true, true, true, true, true, true, true, true, true, true, true, true, true, true, false, false, false, false, false, false, false, false, false, false, false] rfl rfl (by kernel_rfl) (fun _ _ _ h => h) (Or.inl ⟨by rfl, ?_⟩) ?_ ?_
  rotate_left
  · intro w'
    go_simp
    with_reducible rfl
  rotate_left
  · simp only [Act.put, List.setIfInBounds_toArray, List.set_cons_zero, List.set_cons_succ, i64_w, i32_w]
    rfl
  refine pure_ (i := 14) (N := some 45) (v := ?_) (a' := ?_) #[true, true, true, true, true, true, true, true, true, true, true, true, true, true, true, false, false, false, false, false, false, false, false, false, false] rfl rfl (by kernel_rfl) (fun _ _ _ h => h) (Or.inl ⟨by rfl, ?_⟩) ?_ ?_
  rotate_left
  · intro w'
    go_simp
    with_reducible rfl
  rotate_left
  · simp only [Act.put, List.setIfInBounds_toArray, List.set_cons_zero, List.set_cons_succ, i64_w, i32_w]
    rfl
  refine pure_ (i := 15) (N := some 46) (v := ?_) (a' := ?_) #[true, true, true, true, true, true, true, true, true, true, true, true, true, true, true, true, false, false, false, false, false, false, false, false, false] rfl rfl (by kernel_rfl) (fun _ _ _ h => h) (Or.inl ⟨by rfl, ?_⟩) ?_ ?_
  rotate_left
  · intro w'
    go_simp
    with_reducible rfl
  rotate_left
  · simp only [Act.put, List.setIfInBounds_toArray, List.set_cons_zero, List.set_cons_succ, i64_w, i32_w]
    rfl
  refine pure_ (i := 16) (N := some 47) (v := ?_) (a' := ?_) #[true, true, true, true, true, true, true, true, true, true, true, true, true, true, true, true, true, false, false, false, false, false, false, false, false] rfl rfl (by kernel_rfl) (fun _ _ _ h => h) (Or.inl ⟨by rfl, ?_⟩) ?_ ?_
  rotate_left
  · intro w'
    go_simp
    with_reducible rfl
  rotate_left
  · simp only [Act.put, List.setIfInBounds_toArray, List.set_cons_zero, List.set_cons_succ, i64_w, i32_w]
    rfl
  refine pure_ (i := 17) (N := some 48) (v := ?_) (a' := ?_) #[true, true, true, true, true, true, true, true, true, true, true, true, true, true, true, true, true, true, false, false, false, false, false, false, false] rfl rfl (by kernel_rfl) (fun _ _ _ h => h) (Or.inl ⟨by rfl, ?_⟩) ?_ ?_
  rotate_left
  · intro w'
    go_simp
    with_reducible rfl
  rotate_left
  · simp only [Act.put, List.setIfInBounds_toArray, List.set_cons_zero, List.set_cons_succ, i64_w, i32_w]
    rfl
  refine pure_ (i := 18) (N := some 49) (v := ?_) (a' := ?_) #[true, true, true, true, true, true, true, true, true, true, true, true, true, true, true, true, true, true, true, false, false, false, false, false, false] rfl rfl (by kernel_rfl) (fun _ _ _ h => h) (Or.inl ⟨by rfl, ?_⟩) ?_ ?_
  rotate_left
  · intro w'
    go_simp
    with_reducible rfl
  rotate_left
  · simp only [Act.put, List.setIfInBounds_toArray, List.set_cons_zero, List.set_cons_succ, i64_w, i32_w]
    rfl
  refine pure_ (i := 19) (N := some 50) (v := ?_) (a' := ?_) #[true, true, true, true, true, true, true, true, true, true, true, true, true, true, true, true, true, true, true, true, false, false, false, false, false] rfl rfl (by kernel_rfl) (fun _ _ _ h => h) (Or.inl ⟨by rfl, ?_⟩) ?_ ?_
  rotate_left
  · intro w'
    go_simp
    with_reducible rfl
  rotate_left
  · simp only [Act.put, List.setIfInBounds_toArray, List.set_cons_zero, List.set_cons_succ, i64_w, i32_w]
    rfl
  refine pure_ (i := 20) (N := some 51) (v := ?_) (a' := ?_) #[true, true, true, true, true, true, true, true, true, true, true, true, true, true, true, true, true, true, true, true, true, false, false, false, false] rfl rfl (by kernel_rfl) (fun _ _ _ h => h) (Or.inl ⟨by rfl, ?_⟩) ?_ ?_
  rotate_left
  · intro w'
    go_simp
    with_reducible rfl
  rotate_left
  · simp only [Act.put, List.setIfInBounds_toArray, List.set_cons_zero, List.set_cons_succ, i64_w, i32_w]
    rfl
  refine pure_ (i := 21) (N := some 52) (v := ?_) (a' := ?_) #[true, true, true, true, true, true, true, true, true, true, true, true, true, true, true, true, true, true, true, true, true, true, false, false, false] rfl rfl (by kernel_rfl) (fun _ _ _ h => h) (Or.inl ⟨by rfl, ?_⟩) ?_ ?_
  rotate_left
  · intro w'
    go_simp
    with_reducible rfl
  rotate_left
  · simp only [Act.put, List.setIfInBounds_toArray, List.set_cons_zero, List.set_cons_succ, i64_w, i32_w]
    rfl
  refine pure_ (i := 22) (N := some 53) (v := ?_) (a' := ?_) #[true, true, true, true, true, true, true, true, true, true, true, true, true, true, true, true, true, true, true, true, true, true, true, false, false] rfl rfl (by kernel_rfl) (fun _ _ _ h => h) (Or.inl ⟨by rfl, ?_⟩) ?_ ?_
  rotate_left
  · intro w'
    go_simp
    with_reducible rfl
  rotate_left
  · simp only [Act.put, List.setIfInBounds_toArray, List.set_cons_zero, List.set_cons_succ, i64_w, i32_w]
    rfl
  refine pure_ (i := 23) (N := some 54) (v := ?_) (a' := ?_) #[true, true, true, true, true, true, true, true, true, true, true, true, true, true, true, true, true, true, true, true, true, true, true, true, false] rfl rfl (by kernel_rfl) (fun _ _ _ h => h) (Or.inl ⟨by rfl, ?_⟩) ?_ ?_
  rotate_left
  · intro w'
    go_simp
    with_reducible rfl
  rotate_left
  · simp only [Act.put, List.setIfInBounds_toArray, List.set_cons_zero, List.set_cons_succ, i64_w, i32_w]
    rfl
  refine pure_ (i := 24) (N := some 10) (v := ?_) (a' := ?_) #[true, true, true, true, true, true, true, true, true, true, true, true, true, true, true, true, true, true, true, true, true, true, true, true, true] rfl rfl (by kernel_rfl) (fun _ _ _ h => h) (Or.inl ⟨by rfl, ?_⟩) ?_ ?_
  rotate_left
  · intro w'
    go_simp
    with_reducible rfl
  rotate_left
  · simp only [Act.put, List.setIfInBounds_toArray, List.set_cons_zero, List.set_cons_succ, i64_w, i32_w]
    rfl
  refine done_ (by kernel_rfl) ?_
  have HBe := Aside0.mk (bst (bst (below_drew HB5.out) hb6) hb7)
  clear hb6 hb7
  go_wp2_with fail
  go_ret
  exact ⟨rfl, HBe.out⟩

end Go.Proofs.YtmnjaihalajhcaaDoor.QPlanConds
