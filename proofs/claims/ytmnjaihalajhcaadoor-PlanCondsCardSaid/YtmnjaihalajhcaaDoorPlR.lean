import Derived.Test.YtmnjaihalajhcaaDoorPlQ
import Derived.Test.YtmnjaihalajhcaaDoorQPlanCondsx2
/- Plan: walks by hand; the conditions stand in each theorem. -/
namespace Go.Proofs.YtmnjaihalajhcaaDoor.QPlanConds
open Go.RowKit Go.Proofs.YtmnjaihalajhcaaDoorW.PrintWords Go.Proofs.YtmnjaihalajhcaaDoorW.PrintLast Go.Proofs.YtmnjaihalajhcaaDoorW.PrintMore
attribute [local go_sem] max2_int min2_int max_two min_two max_three min_three max_four min_four
set_option linter.unusedVariables false
set_option linter.unusedSimpArgs false
def s00 : S34 := ⟨1, 0, 0, 1, false, 0, 0, []⟩
def s01 : S34 := ⟨1, 1, 0, 2, false, 0, 0, []⟩
def P0 : S34 := ⟨4, 0, 0, 3, false, 0, 0, [s00, s01]⟩
def L0 : List S46 := [(⟨9, (⟨0, 0, (⟨#[]⟩ : ByteArray)⟩ : S44), 0, 0, 0, (⟨#[]⟩ : ByteArray), (([(⟨2, (⟨0, 0, (⟨#[]⟩ : ByteArray)⟩ : S44), 0, 0, 0, (⟨#[]⟩ : ByteArray), ([] : List (S46))⟩ : S46), (⟨2, (⟨0, 0, (⟨#[]⟩ : ByteArray)⟩ : S44), 1, 0, 0, (⟨#[]⟩ : ByteArray), ([] : List (S46))⟩ : S46)] : List (S46)))⟩ : S46)]
theorem P0_nodes : nodesX P0 = 3 := by decide +kernel
theorem P0_text : textX P0 = [104, 48, 40, 115, 48, 32, 115, 49, 41] := by decide +kernel
theorem P0_bin : binB P0 = true := by decide +kernel
theorem P0_cost : costX [10, 20] [0, 10, 20, 5] P0 = 91 := by decide +kernel
theorem L0_joins : joinsX L0 0 1 2 = true := by decide +kernel
theorem P0_right : rightP 2 2 L0 [] P0 = true := by decide +kernel
theorem P0_nums : numsP (fun n => 0 ≤ n ∧ n < 100) P0 := by
  rw [numsP_eq]
  refine ⟨by decide, by decide, by decide, ?_⟩
  intro x hx
  have h : ∀ r : S34, r.f7 = [] → (0 ≤ r.f1 ∧ r.f1 < 100) → (0 ≤ r.f2 ∧ r.f2 < 100) → (0 ≤ r.f3 ∧ r.f3 < 100) → numsP (fun n => 0 ≤ n ∧ n < 100) r := by
    intro r h0 h1 h2 h3
    rw [numsP_eq, h0]
    exact ⟨h1, h2, h3, fun x hx => by cases hx⟩
  have hx2 : x ∈ [numsP (fun n => 0 ≤ n ∧ n < 100) s00, numsP (fun n => 0 ≤ n ∧ n < 100) s01] := hx
  rcases List.mem_cons.1 hx2 with rfl | hx3
  · exact h s00 rfl (by decide) (by decide) (by decide)
  · rcases List.mem_cons.1 hx3 with rfl | hx4
    · exact h s01 rfl (by decide) (by decide) (by decide)
    · cases hx4
theorem HQs (w : World) : HQ (fun n => 0 ≤ n ∧ n < 100) w := fun n hn w' _ => itoa43z n hn.1 hn.2 w'
theorem scan20a (w : World) : Calls Tryd.prog 20 #[.int .i64 0] w fun e w' => ∃ v7_ : Value, e = .returned (.agg #[.int .i64 1, .int .i64 0, .int .i64 0, .int .i64 1, .bool false, .int .i64 0, .int .i64 0, v7_]) ∧ Kd.R k34 34 w' w.heap.size (fun _ => True) v7_ [] ∧ Below w.heap.size w w' :=
  weathercocklaw17_scan.calls 0 1 0 0 1 false 0 0 [] w (by rfl)
theorem scan20b (w : World) : Calls Tryd.prog 20 #[.int .i64 1] w fun e w' => ∃ v7_ : Value, e = .returned (.agg #[.int .i64 1, .int .i64 1, .int .i64 0, .int .i64 2, .bool false, .int .i64 0, .int .i64 0, v7_]) ∧ Kd.R k34 34 w' w.heap.size (fun _ => True) v7_ [] ∧ Below w.heap.size w w' :=
  weathercocklaw17_scan.calls 1 1 1 0 2 false 0 0 [] w (by rfl)
theorem pair21 (w : World) : Calls Tryd.prog 21 #[] w fun e w' => (∃ b : BV, e = .returned b.enc ∧ b.core = 2 ∧ b.n0 = 2 ∧ b.n4 = L0.length ∧ k46.C w' b.A4 b.n4 L0) ∧ Below w.heap.size w w' := by
  refine (weathercocklaw17_pair.calls [0, 1] 2 [] [] L0 [] [] false [] [] false w rfl).mono ?_
  rintro e w' ⟨v0, v2, v3, v4, v5, v6, v8, v9, rfl, h0, h2, h3, h4, h5, h6, h8, h9, hb⟩
  obtain ⟨A0, c0, rfl⟩ := Kd.R_slice h0
  obtain ⟨A2, c2, rfl⟩ := Kd.R_slice h2
  obtain ⟨A3, c3, rfl⟩ := Kd.N_slice h3
  obtain ⟨A4, c4, rfl, hl4, hC4⟩ := Kd.N_reads h4
  obtain ⟨A5, c5, rfl⟩ := Kd.N_slice h5
  obtain ⟨A6, c6, rfl⟩ := Kd.N_slice h6
  obtain ⟨A8, c8, rfl⟩ := Kd.N_slice h8
  obtain ⟨A9, c9, rfl⟩ := Kd.N_slice h9
  exact ⟨⟨⟨A0, 2, c0, 2, A2, 0, c2, A3, 0, c3, A4, L0.length, c4, A5, 0, c5, A6, 0, c6, false, A8, 0, c8, A9, 0, c9, false⟩, rfl, rfl, rfl, rfl, hC4⟩, hb⟩
set_option maxRecDepth 8000 in
set_option maxHeartbeats 8000000 in
theorem examples9 (w : World) : Calls Tryd.prog 9 #[] w fun e_ w' => e_ = .returned (.bool true) ∧ Below w.heap.size w w' := by
  have hu34 := Tryd.underlying34
  have MK := Aside0.mk trivial
  go_enter Tryd.func9, Tryd.ntmps9
  go_wp2_with (first | (go_at_call 20; have _ := MK; have H_ := scan20a w; refine H_.mono ?_; clear H_; rintro e_ w1 ⟨v7a, rfl, hRa, hb1⟩; have HRa := Aside0.mk hRa; have HB1 := Aside0.mk hb1; clear hRa hb1; clear MK) | (go_at_call 20; have H_ := scan20b w1; refine H_.mono ?_; clear H_; rintro e_ w2 ⟨v7b, rfl, hRb, hb2⟩; have HB2 := Aside0.mk (bst HB1.out hb2); have HRa2 := Aside0.mk (Kd.R_below HRa.out hb2); have HRb := Aside0.mk (Kd.R_lower hRb HB1.out.size); clear hRb hb2) | ((with_reducible refine gate_dst (N := 4) rfl ?_); refine Kd.R_lit k34 (w0 := w2) w.heap.size 34 ?hg (N := 4) ?hd (xs := [s00, s01]) (inner := [.int .i64 1, .int .i64 0, .int .i64 0, .int .i64 1, .bool false, .int .i64 0, .int .i64 0, v7a, .int .i64 1, .int .i64 1, .int .i64 0, .int .i64 2, .bool false, .int .i64 0, .int .i64 0, v7b]) (ok := fun _ => True) (okp := fun _ => True) ?hr ?hp (fun _ hk => hk) trivial (Below.refl _ _) HB2.out.size (by decide) ?_; (case hd => rfl); (case hg => rfl); (case hr => first | (go_simp; done) | (go_simp; rfl)); (case hp => exact Reps.c8 (k34_mkM _ _ _ s00 HRa2.out) (Reps.c8 (k34_mkM _ _ _ s01 HRb.out) (Reps.none _ _))); intro v4 w3 hR hb hg hat; obtain ⟨A4, c4, rfl, hl4, hC4⟩ := Kd.R_reads hR; have HC4 := Aside0.mk hC4; have HB3 := Aside0.mk (HB2.out.trans hb); clear hR hb hg hat hl4 hC4) | ((with_reducible refine gate_dst (N := 1) rfl ?_); refine box_event ?hg (N := 1) ?hd (cs := zeroP) (t := 34) ?hr ?_; (case hd => rfl); (case hg => rfl); (case hr => unfold zeroP; first | (go_simp; done) | (go_simp; rfl)); intro gp hg1 w4 hbox hb; have HGP := Aside0.mk hbox; have HB4 := Aside0.mk (bst HB3.out hb); have HD4 := Aside0.mk hb; have HGG : Aside0 (w3.heap.size ≤ gp) := ⟨by rw [hg1]; exact Nat.le_refl _⟩; clear hbox hb hg1) | ((with_reducible refine gate_store (t := 34) (p := 1) rfl ?_); refine row_event rfl 34 _ _ rfl gp (cellsP P0 (.slice A4 2 c4)) rfl rfl 34 zeroP HGP.out (by kernel_rfl) (by kernel_rfl) (by kernel_rfl) ?_; intro w5 hx hb hf; have HX5 := Aside0.mk hx; have HD5 : Aside0 (Below w3.heap.size w3 w5) := ⟨HD4.out.trans (hb.mono HGG.out)⟩; clear hx hb hf; have HB5 := Aside0.mk (bst HB3.out HD5.out); have HC5 : Aside0 (k34.C w5 A4 P0.f7.length P0.f7) := ⟨Kd.C_below HC4.out HD5.out⟩))
  have HBE := Aside0.mk (below_drew HB5.out)
  have HPC : Aside0 (k34.C w5.drew A4 P0.f7.length P0.f7) := ⟨Kd.C_below HC5.out (below_drew (Below.refl _ _))⟩
  have m0_ : Aside0 (w5.drew.cell? ⟨gp, 0, none⟩ = some (.int .i64 4)) := ⟨(blk_cell (blk_drew HX5.out) 0).trans rfl⟩
  have m1_ : Aside0 (w5.drew.cell? ⟨gp, 1, none⟩ = some (.int .i64 0)) := ⟨(blk_cell (blk_drew HX5.out) 1).trans rfl⟩
  have m2_ : Aside0 (w5.drew.cell? ⟨gp, 2, none⟩ = some (.int .i64 0)) := ⟨(blk_cell (blk_drew HX5.out) 2).trans rfl⟩
  have m3_ : Aside0 (w5.drew.cell? ⟨gp, 3, none⟩ = some (.int .i64 3)) := ⟨(blk_cell (blk_drew HX5.out) 3).trans rfl⟩
  have m4_ : Aside0 (w5.drew.cell? ⟨gp, 4, none⟩ = some (.bool false)) := ⟨(blk_cell (blk_drew HX5.out) 4).trans rfl⟩
  have m5_ : Aside0 (w5.drew.cell? ⟨gp, 5, none⟩ = some (.int .i64 0)) := ⟨(blk_cell (blk_drew HX5.out) 5).trans rfl⟩
  have m6_ : Aside0 (w5.drew.cell? ⟨gp, 6, none⟩ = some (.int .i64 0)) := ⟨(blk_cell (blk_drew HX5.out) 6).trans rfl⟩
  have m7_ : Aside0 (w5.drew.cell? ⟨gp, 7, none⟩ = some (.slice A4 2 c4)) := ⟨(blk_cell (blk_drew HX5.out) 7).trans rfl⟩
  have HBs : Aside0 (Below w5.drew.heap.size w5.drew w5.drew) := ⟨Below.refl _ _⟩
  refine start_ (n := 25) (S := fun w' => w'.cell? ⟨gp, 0, none⟩ = some (.int .i64 4) ∧ w'.cell? ⟨gp, 1, none⟩ = some (.int .i64 0) ∧ w'.cell? ⟨gp, 2, none⟩ = some (.int .i64 0) ∧ w'.cell? ⟨gp, 3, none⟩ = some (.int .i64 3) ∧ w'.cell? ⟨gp, 4, none⟩ = some (.bool false) ∧ w'.cell? ⟨gp, 5, none⟩ = some (.int .i64 0) ∧ w'.cell? ⟨gp, 6, none⟩ = some (.int .i64 0) ∧ w'.cell? ⟨gp, 7, none⟩ = some (.slice A4 2 c4)) (ds := []) #[false, false, false, false, false, false, false, false, false, false, false, false, false, false, false, false, false, false, false, false, false, false, false, false, false] (by kernel_rfl) rfl rfl ⟨m0_.out, m1_.out, m2_.out, m3_.out, m4_.out, m5_.out, m6_.out, m7_.out⟩ (fun hHeld => ?_)
  refine take_ (i := 0) (N := some 6) (v := ?_) (a' := ?_) #[true, false, false, false, false, false, false, false, false, false, false, false, false, false, false, false, false, false, false, false, false, false, false, false, false] rfl rfl (by kernel_rfl) (fun _ _ _ h => h) (Or.inl ⟨by rfl, ?_⟩) hHeld ?_ ?_
  rotate_left
  · rintro w' ⟨s0, s1, s2, s3, s4, s5, s6, s7⟩
    go_simp
    with_reducible rfl
  rotate_left
  · simp only [Act.put, List.setIfInBounds_toArray, List.set_cons_zero, List.set_cons_succ, i64_w, i32_w]
    rfl
  refine one_ (i := 1) (N := some 7) #[true, true, false, false, false, false, false, false, false, false, false, false, false, false, false, false, false, false, false, false, false, false, false, false, false] rfl rfl (by kernel_rfl) (by decide) (fun K hK => ?_)
  refine goes_ Tryd.func18 (by kernel_rfl) rfl #[encP P0 A4 c4] (by rfl) rfl rfl (by first | done | rfl | (simp only [List.map_toArray, List.map_cons, List.map_nil]; rfl)) ?_
  have H_ := text18 (Q := fun n => 0 ≤ n ∧ n < 100) P0 A4 c4 w5.drew (HQs _) P0_nums (by rw [P0_text]; decide) HPC.out
  rw [P0_text] at H_
  refine H_.mono ?_
  clear H_
  rintro e_ wt ⟨rfl, hbt⟩
  have HBt := Aside0.mk (bst HBs.out hbt)
  refine ⟨_, rfl, ?_⟩
  refine hK.out _ _ ⟨cells_later hbt hHeld.1, cells_later hbt hHeld.2.1, cells_later hbt hHeld.2.2.1, cells_later hbt hHeld.2.2.2.1, cells_later hbt hHeld.2.2.2.2.1, cells_later hbt hHeld.2.2.2.2.2.1, cells_later hbt hHeld.2.2.2.2.2.2.1, cells_later hbt hHeld.2.2.2.2.2.2.2⟩ (fun hHeld => ?_)
  clear hK K
  refine norm_ (a' := ?_) ?_ ?_
  rotate_left
  · show Act.put _ (some 7) _ = _
    simp only [Act.put, List.setIfInBounds_toArray, List.set_cons_zero, List.set_cons_succ, i64_w, i32_w]
    rfl
  refine pure_ (i := 2) (N := some 8) (v := ?_) (a' := ?_) #[true, true, true, false, false, false, false, false, false, false, false, false, false, false, false, false, false, false, false, false, false, false, false, false, false] rfl rfl (by kernel_rfl) (fun _ _ _ h => h) (Or.inl ⟨by rfl, ?_⟩) ?_ ?_
  rotate_left
  · intro w'
    go_simp
    with_reducible rfl
  rotate_left
  · simp only [Act.put, List.setIfInBounds_toArray, List.set_cons_zero, List.set_cons_succ, i64_w, i32_w]
    rfl
  refine pure_ (i := 3) (N := some 9) (v := ?_) (a' := ?_) #[true, true, true, true, false, false, false, false, false, false, false, false, false, false, false, false, false, false, false, false, false, false, false, false, false] rfl rfl (by kernel_rfl) (fun _ _ _ h => h) (Or.inl ⟨by rfl, ?_⟩) ?_ ?_
  rotate_left
  · intro w'
    go_simp
    with_reducible rfl
  rotate_left
  · simp only [Act.put, List.setIfInBounds_toArray, List.set_cons_zero, List.set_cons_succ, i64_w, i32_w]
    rfl
  refine take_ (i := 4) (N := some 10) (v := ?_) (a' := ?_) #[true, true, true, true, true, false, false, false, false, false, false, false, false, false, false, false, false, false, false, false, false, false, false, false, false] rfl rfl (by kernel_rfl) (fun _ _ _ h => h) (Or.inl ⟨by rfl, ?_⟩) hHeld ?_ ?_
  rotate_left
  · rintro w' ⟨s0, s1, s2, s3, s4, s5, s6, s7⟩
    go_simp
    with_reducible rfl
  rotate_left
  · simp only [Act.put, List.setIfInBounds_toArray, List.set_cons_zero, List.set_cons_succ, i64_w, i32_w]
    rfl
  refine two_ (i := 5) (j := 6) (Ni := some 11) (Nj := some 12) #[true, true, true, true, true, true, false, false, false, false, false, false, false, false, false, false, false, false, false, false, false, false, false, false, false] #[true, true, true, true, true, false, true, false, false, false, false, false, false, false, false, false, false, false, false, false, false, false, false, false, false] rfl rfl rfl rfl (by kernel_rfl) (by decide) (by decide) (fun K hK => ?_) (fun K hK => ?_)
  · refine Kd.R_lit_step (Kd.int .i64) (w0 := wt) wt.heap.size 3 (by rfl) (N := 11) rfl (xs := ([10, 20] : List Int)) (inner := [.int .i64 10, .int .i64 20]) (ok := fun _ => True) (okp := fun _ => True) ?hr ?hp (fun _ hk => hk) trivial (Below.refl _ _) (Nat.le_refl _) (by decide) ?_
    case hr => first | (go_simp; done) | (go_simp; rfl)
    case hp => exact (Reps.one (show Kd.M (Kd.int .i64) _ _ _ 10 [.int .i64 10] from rfl) (Reps.one (show Kd.M (Kd.int .i64) _ _ _ 20 [.int .i64 20] from rfl) (Reps.none _ _)))
    intro v_ wx hR_ hbx hg_ hat_
    obtain ⟨Ax, cx, rfl, hl_, hCx⟩ := Kd.R_reads hR_
    have HBx := Aside0.mk (bst HBt.out hbx)
    clear hR_ hg_ hat_ hl_
    refine hK.out _ _ ⟨cells_later hbx hHeld.1, cells_later hbx hHeld.2.1, cells_later hbx hHeld.2.2.1, cells_later hbx hHeld.2.2.2.1, cells_later hbx hHeld.2.2.2.2.1, cells_later hbx hHeld.2.2.2.2.2.1, cells_later hbx hHeld.2.2.2.2.2.2.1, cells_later hbx hHeld.2.2.2.2.2.2.2⟩ (fun hHeld => ?_)
    clear hK K
    refine norm_ (a' := ?_) ?_ ?_
    rotate_left
    · show Act.put _ (some 11) _ = _
      simp only [Act.put, List.setIfInBounds_toArray, List.set_cons_zero, List.set_cons_succ, i64_w, i32_w]
      rfl
    refine one_ (i := 6) (N := some 12) #[true, true, true, true, true, true, true, false, false, false, false, false, false, false, false, false, false, false, false, false, false, false, false, false, false] rfl rfl (by kernel_rfl) (by decide) (fun K hK => ?_)
    refine Kd.R_lit_step (Kd.int .i64) (w0 := wx) wx.heap.size 3 (by rfl) (N := 12) rfl (xs := ([0, 10, 20, 5] : List Int)) (inner := [.int .i64 0, .int .i64 10, .int .i64 20, .int .i64 5]) (ok := fun _ => True) (okp := fun _ => True) ?hr ?hp (fun _ hk => hk) trivial (Below.refl _ _) (Nat.le_refl _) (by decide) ?_
    case hr => first | (go_simp; done) | (go_simp; rfl)
    case hp => exact (Reps.one (show Kd.M (Kd.int .i64) _ _ _ 0 [.int .i64 0] from rfl) (Reps.one (show Kd.M (Kd.int .i64) _ _ _ 10 [.int .i64 10] from rfl) (Reps.one (show Kd.M (Kd.int .i64) _ _ _ 20 [.int .i64 20] from rfl) (Reps.one (show Kd.M (Kd.int .i64) _ _ _ 5 [.int .i64 5] from rfl) (Reps.none _ _)))))
    intro v_ wy hR_ hby hg_ hat_
    obtain ⟨Ay, cy, rfl, hl_, hCy⟩ := Kd.R_reads hR_
    have HBy := Aside0.mk (bst HBx.out hby)
    clear hR_ hg_ hat_ hl_
    refine hK.out _ _ ⟨cells_later hby hHeld.1, cells_later hby hHeld.2.1, cells_later hby hHeld.2.2.1, cells_later hby hHeld.2.2.2.1, cells_later hby hHeld.2.2.2.2.1, cells_later hby hHeld.2.2.2.2.2.1, cells_later hby hHeld.2.2.2.2.2.2.1, cells_later hby hHeld.2.2.2.2.2.2.2⟩ (fun hHeld => ?_)
    clear hK K
    refine norm_ (a' := ?_) ?_ ?_
    rotate_left
    · show Act.put _ (some 12) _ = _
      simp only [Act.put, List.setIfInBounds_toArray, List.set_cons_zero, List.set_cons_succ, i64_w, i32_w]
      rfl
    refine one_ (i := 7) (N := some 13) #[true, true, true, true, true, true, true, true, false, false, false, false, false, false, false, false, false, false, false, false, false, false, false, false, false] rfl rfl (by kernel_rfl) (by decide) (fun K hK => ?_)
    refine goes_ Tryd.func15 (by kernel_rfl) rfl #[encP P0 A4 c4, .slice Ax ([10, 20] : List Int).length cx, .slice Ay ([0, 10, 20, 5] : List Int).length cy] (by rfl) rfl rfl (by first | done | rfl | (simp only [List.map_toArray, List.map_cons, List.map_nil]; rfl)) ?_
    have H_ := cost15 P0 A4 c4 Ax cx [10, 20] Ay cy [0, 10, 20, 5] wy P0_bin (Kd.C_below hCx hby) hCy (Kd.C_below HPC.out HBy.out)
    rw [P0_cost] at H_
    refine H_.mono ?_
    clear H_
    rintro e_ wc_ ⟨rfl, hbc_⟩
    have HBc_ := Aside0.mk (bst HBy.out hbc_)
    refine ⟨_, rfl, ?_⟩
    refine hK.out _ _ ⟨cells_later hbc_ hHeld.1, cells_later hbc_ hHeld.2.1, cells_later hbc_ hHeld.2.2.1, cells_later hbc_ hHeld.2.2.2.1, cells_later hbc_ hHeld.2.2.2.2.1, cells_later hbc_ hHeld.2.2.2.2.2.1, cells_later hbc_ hHeld.2.2.2.2.2.2.1, cells_later hbc_ hHeld.2.2.2.2.2.2.2⟩ (fun hHeld => ?_)
    clear hK K
    refine norm_ (a' := ?_) ?_ ?_
    rotate_left
    · show Act.put _ (some 13) _ = _
      simp only [Act.put, List.setIfInBounds_toArray, List.set_cons_zero, List.set_cons_succ, i64_w, i32_w]
      rfl
    refine pure_ (i := 8) (N := some 14) (v := ?_) (a' := ?_) #[true, true, true, true, true, true, true, true, true, false, false, false, false, false, false, false, false, false, false, false, false, false, false, false, false] rfl rfl (by kernel_rfl) (fun _ _ _ h => h) (Or.inl ⟨by rfl, ?_⟩) ?_ ?_
    rotate_left
    · intro w'
      go_simp
      with_reducible rfl
    rotate_left
    · simp only [Act.put, List.setIfInBounds_toArray, List.set_cons_zero, List.set_cons_succ, i64_w, i32_w]
      rfl
    refine pure_ (i := 9) (N := some 15) (v := ?_) (a' := ?_) #[true, true, true, true, true, true, true, true, true, true, false, false, false, false, false, false, false, false, false, false, false, false, false, false, false] rfl rfl (by kernel_rfl) (fun _ _ _ h => h) (Or.inl ⟨by rfl, ?_⟩) ?_ ?_
    rotate_left
    · intro w'
      go_simp
      with_reducible rfl
    rotate_left
    · simp only [Act.put, List.setIfInBounds_toArray, List.set_cons_zero, List.set_cons_succ, i64_w, i32_w]
      rfl
    refine pure_ (i := 10) (N := some 16) (v := ?_) (a' := ?_) #[true, true, true, true, true, true, true, true, true, true, true, false, false, false, false, false, false, false, false, false, false, false, false, false, false] rfl rfl (by kernel_rfl) (fun _ _ _ h => h) (Or.inl ⟨by rfl, ?_⟩) ?_ ?_
    rotate_left
    · intro w'
      go_simp
      with_reducible rfl
    rotate_left
    · simp only [Act.put, List.setIfInBounds_toArray, List.set_cons_zero, List.set_cons_succ, i64_w, i32_w]
      rfl
    refine take_ (i := 12) (N := some 18) (v := ?_) (a' := ?_) #[true, true, true, true, true, true, true, true, true, true, true, false, true, false, false, false, false, false, false, false, false, false, false, false, false] rfl rfl (by kernel_rfl) (fun _ _ _ h => h) (Or.inl ⟨by rfl, ?_⟩) hHeld ?_ ?_
    rotate_left
    · rintro w' ⟨s0, s1, s2, s3, s4, s5, s6, s7⟩
      go_simp
      with_reducible rfl
    rotate_left
    · simp only [Act.put, List.setIfInBounds_toArray, List.set_cons_zero, List.set_cons_succ, i64_w, i32_w]
      rfl
    refine one_ (i := 11) (N := some 17) #[true, true, true, true, true, true, true, true, true, true, true, true, true, false, false, false, false, false, false, false, false, false, false, false, false] rfl rfl (by kernel_rfl) (by decide) (fun K hK => ?_)
    refine goes_ Tryd.func21 (by kernel_rfl) rfl #[] (by rfl) rfl rfl (by simp only [List.map_toArray, List.map_nil]) ?_
    have H_ := pair21 wc_
    refine H_.mono ?_
    clear H_
    rintro e_ wd ⟨⟨bd, rfl, hcd, hnd, hmd, hLd⟩, hbd⟩
    have HBd := Aside0.mk (bst HBc_.out hbd)
    refine ⟨_, rfl, ?_⟩
    refine hK.out _ _ ⟨cells_later hbd hHeld.1, cells_later hbd hHeld.2.1, cells_later hbd hHeld.2.2.1, cells_later hbd hHeld.2.2.2.1, cells_later hbd hHeld.2.2.2.2.1, cells_later hbd hHeld.2.2.2.2.2.1, cells_later hbd hHeld.2.2.2.2.2.2.1, cells_later hbd hHeld.2.2.2.2.2.2.2⟩ (fun hHeld => ?_)
    clear hK K
    refine norm_ (a' := ?_) ?_ ?_
    rotate_left
    · show Act.put _ (some 17) _ = _
      simp only [Act.put, List.setIfInBounds_toArray, List.set_cons_zero, List.set_cons_succ, i64_w, i32_w]
      rfl
    refine one_ (i := 13) (N := some 19) #[true, true, true, true, true, true, true, true, true, true, true, true, true, true, false, false, false, false, false, false, false, false, false, false, false] rfl rfl (by kernel_rfl) (by decide) (fun K hK => ?_)
    refine goes_ Tryd.func14 (by kernel_rfl) rfl #[bd.enc, .slice none ([] : List Int).length 0, encP P0 A4 c4] (by rfl) rfl rfl (by first | done | rfl | (simp only [List.map_toArray, List.map_cons, List.map_nil]; rfl)) ?_
    have H_ := right14 bd L0 none 0 [] P0 A4 c4 wd hmd hLd (Kd.C_nil _ _) (Kd.C_below HPC.out HBd.out)
    rw [hnd, hcd, P0_right] at H_
    refine H_.mono ?_
    clear H_
    rintro e_ we_ ⟨rfl, hbe_⟩
    have HBe_ := Aside0.mk (bst HBd.out hbe_)
    refine ⟨_, rfl, ?_⟩
    refine hK.out _ _ ⟨cells_later hbe_ hHeld.1, cells_later hbe_ hHeld.2.1, cells_later hbe_ hHeld.2.2.1, cells_later hbe_ hHeld.2.2.2.1, cells_later hbe_ hHeld.2.2.2.2.1, cells_later hbe_ hHeld.2.2.2.2.2.1, cells_later hbe_ hHeld.2.2.2.2.2.2.1, cells_later hbe_ hHeld.2.2.2.2.2.2.2⟩ (fun hHeld => ?_)
    clear hK K
    refine norm_ (a' := ?_) ?_ ?_
    rotate_left
    · show Act.put _ (some 19) _ = _
      simp only [Act.put, List.setIfInBounds_toArray, List.set_cons_zero, List.set_cons_succ, i64_w, i32_w]
      rfl
    refine pure_ (i := 14) (N := some 20) (v := ?_) (a' := ?_) #[true, true, true, true, true, true, true, true, true, true, true, true, true, true, true, false, false, false, false, false, false, false, false, false, false] rfl rfl (by kernel_rfl) (fun _ _ _ h => h) (Or.inl ⟨by rfl, ?_⟩) ?_ ?_
    rotate_left
    · intro w'
      go_simp
      with_reducible rfl
    rotate_left
    · simp only [Act.put, List.setIfInBounds_toArray, List.set_cons_zero, List.set_cons_succ, i64_w, i32_w]
      rfl
    refine pure_ (i := 15) (N := some 21) (v := ?_) (a' := ?_) #[true, true, true, true, true, true, true, true, true, true, true, true, true, true, true, true, false, false, false, false, false, false, false, false, false] rfl rfl (by kernel_rfl) (fun _ _ _ h => h) (Or.inl ⟨by rfl, ?_⟩) ?_ ?_
    rotate_left
    · intro w'
      go_simp
      with_reducible rfl
    rotate_left
    · simp only [Act.put, List.setIfInBounds_toArray, List.set_cons_zero, List.set_cons_succ, i64_w, i32_w]
      rfl
    refine one_ (i := 16) (N := some 22) #[true, true, true, true, true, true, true, true, true, true, true, true, true, true, true, true, true, false, false, false, false, false, false, false, false] rfl rfl (by kernel_rfl) (by decide) (fun K hK => ?_)
    refine goes_ Tryd.func21 (by kernel_rfl) rfl #[] (by rfl) rfl rfl (by simp only [List.map_toArray, List.map_nil]) ?_
    have H_ := pair21 we_
    refine H_.mono ?_
    clear H_
    rintro e_ wf ⟨⟨bf, rfl, hcf, hnf, hmf, hLf⟩, hbf⟩
    have HBf := Aside0.mk (bst HBe_.out hbf)
    refine ⟨_, rfl, ?_⟩
    refine hK.out _ _ ⟨cells_later hbf hHeld.1, cells_later hbf hHeld.2.1, cells_later hbf hHeld.2.2.1, cells_later hbf hHeld.2.2.2.1, cells_later hbf hHeld.2.2.2.2.1, cells_later hbf hHeld.2.2.2.2.2.1, cells_later hbf hHeld.2.2.2.2.2.2.1, cells_later hbf hHeld.2.2.2.2.2.2.2⟩ (fun hHeld => ?_)
    clear hK K
    refine norm_ (a' := ?_) ?_ ?_
    rotate_left
    · show Act.put _ (some 22) _ = _
      simp only [Act.put, List.setIfInBounds_toArray, List.set_cons_zero, List.set_cons_succ, i64_w, i32_w]
      rfl
    refine one_ (i := 17) (N := some 23) #[true, true, true, true, true, true, true, true, true, true, true, true, true, true, true, true, true, true, false, false, false, false, false, false, false] rfl rfl (by kernel_rfl) (by decide) (fun K hK => ?_)
    refine goes_ Tryd.func12 (by kernel_rfl) rfl #[bf.enc, .int .i64 0, .int .i64 1, .int .i64 2] (by rfl) rfl rfl (by first | done | rfl | (simp only [List.map_toArray, List.map_cons, List.map_nil]; rfl)) ?_
    have H_ := joins12 bf L0 0 1 2 wf hmf hLf
    rw [L0_joins] at H_
    refine H_.mono ?_
    clear H_
    rintro e_ wg ⟨rfl, hbg⟩
    have HBg := Aside0.mk (bst HBf.out hbg)
    refine ⟨_, rfl, ?_⟩
    refine hK.out _ _ ⟨cells_later hbg hHeld.1, cells_later hbg hHeld.2.1, cells_later hbg hHeld.2.2.1, cells_later hbg hHeld.2.2.2.1, cells_later hbg hHeld.2.2.2.2.1, cells_later hbg hHeld.2.2.2.2.2.1, cells_later hbg hHeld.2.2.2.2.2.2.1, cells_later hbg hHeld.2.2.2.2.2.2.2⟩ (fun hHeld => ?_)
    clear hK K
    refine norm_ (a' := ?_) ?_ ?_
    rotate_left
    · show Act.put _ (some 23) _ = _
      simp only [Act.put, List.setIfInBounds_toArray, List.set_cons_zero, List.set_cons_succ, i64_w, i32_w]
      rfl
    refine pure_ (i := 18) (N := some 24) (v := ?_) (a' := ?_) #[true, true, true, true, true, true, true, true, true, true, true, true, true, true, true, true, true, true, true, false, false, false, false, false, false] rfl rfl (by kernel_rfl) (fun _ _ _ h => h) (Or.inl ⟨by rfl, ?_⟩) ?_ ?_
    rotate_left
    · intro w'
      go_simp
      with_reducible rfl
    rotate_left
    · simp only [Act.put, List.setIfInBounds_toArray, List.set_cons_zero, List.set_cons_succ, i64_w, i32_w]
      rfl
    refine pure_ (i := 19) (N := some 25) (v := ?_) (a' := ?_) #[true, true, true, true, true, true, true, true, true, true, true, true, true, true, true, true, true, true, true, true, false, false, false, false, false] rfl rfl (by kernel_rfl) (fun _ _ _ h => h) (Or.inl ⟨by rfl, ?_⟩) ?_ ?_
    rotate_left
    · intro w'
      go_simp
      with_reducible rfl
    rotate_left
    · simp only [Act.put, List.setIfInBounds_toArray, List.set_cons_zero, List.set_cons_succ, i64_w, i32_w]
      rfl
    refine take_ (i := 20) (N := some 26) (v := ?_) (a' := ?_) #[true, true, true, true, true, true, true, true, true, true, true, true, true, true, true, true, true, true, true, true, true, false, false, false, false] rfl rfl (by kernel_rfl) (fun _ _ _ h => h) (Or.inl ⟨by rfl, ?_⟩) hHeld ?_ ?_
    rotate_left
    · rintro w' ⟨s0, s1, s2, s3, s4, s5, s6, s7⟩
      go_simp
      with_reducible rfl
    rotate_left
    · simp only [Act.put, List.setIfInBounds_toArray, List.set_cons_zero, List.set_cons_succ, i64_w, i32_w]
      rfl
    refine one_ (i := 21) (N := some 27) #[true, true, true, true, true, true, true, true, true, true, true, true, true, true, true, true, true, true, true, true, true, true, false, false, false] rfl rfl (by kernel_rfl) (by decide) (fun K hK => ?_)
    refine goes_ Tryd.func16 (by kernel_rfl) rfl #[encP P0 A4 c4] (by rfl) rfl rfl (by first | done | rfl | (simp only [List.map_toArray, List.map_cons, List.map_nil]; rfl)) ?_
    have H_ := nodes16 P0 A4 c4 wg (Kd.C_below HPC.out HBg.out)
    rw [P0_nodes] at H_
    refine H_.mono ?_
    clear H_
    rintro e_ wh ⟨rfl, hbh⟩
    have HBh := Aside0.mk (bst HBg.out hbh)
    refine ⟨_, rfl, ?_⟩
    refine hK.out _ _ ⟨cells_later hbh hHeld.1, cells_later hbh hHeld.2.1, cells_later hbh hHeld.2.2.1, cells_later hbh hHeld.2.2.2.1, cells_later hbh hHeld.2.2.2.2.1, cells_later hbh hHeld.2.2.2.2.2.1, cells_later hbh hHeld.2.2.2.2.2.2.1, cells_later hbh hHeld.2.2.2.2.2.2.2⟩ (fun hHeld => ?_)
    clear hK K
    refine norm_ (a' := ?_) ?_ ?_
    rotate_left
    · show Act.put _ (some 27) _ = _
      simp only [Act.put, List.setIfInBounds_toArray, List.set_cons_zero, List.set_cons_succ, i64_w, i32_w]
      rfl
    refine pure_ (i := 22) (N := some 28) (v := ?_) (a' := ?_) #[true, true, true, true, true, true, true, true, true, true, true, true, true, true, true, true, true, true, true, true, true, true, true, false, false] rfl rfl (by kernel_rfl) (fun _ _ _ h => h) (Or.inl ⟨by rfl, ?_⟩) ?_ ?_
    rotate_left
    · intro w'
      go_simp
      with_reducible rfl
    rotate_left
    · simp only [Act.put, List.setIfInBounds_toArray, List.set_cons_zero, List.set_cons_succ, i64_w, i32_w]
      rfl
    refine pure_ (i := 23) (N := some 29) (v := ?_) (a' := ?_) #[true, true, true, true, true, true, true, true, true, true, true, true, true, true, true, true, true, true, true, true, true, true, true, true, false] rfl rfl (by kernel_rfl) (fun _ _ _ h => h) (Or.inl ⟨by rfl, ?_⟩) ?_ ?_
    rotate_left
    · intro w'
      go_simp
      with_reducible rfl
    rotate_left
    · simp only [Act.put, List.setIfInBounds_toArray, List.set_cons_zero, List.set_cons_succ, i64_w, i32_w]
      rfl
    refine pure_ (i := 24) (N := some 0) (v := ?_) (a' := ?_) #[true, true, true, true, true, true, true, true, true, true, true, true, true, true, true, true, true, true, true, true, true, true, true, true, true] rfl rfl (by kernel_rfl) (fun _ _ _ h => h) (Or.inl ⟨by rfl, ?_⟩) ?_ ?_
    rotate_left
    · intro w'
      go_simp
      with_reducible rfl
    rotate_left
    · simp only [Act.put, List.setIfInBounds_toArray, List.set_cons_zero, List.set_cons_succ, i64_w, i32_w]
      rfl
    refine done_ (by kernel_rfl) ?_
    go_wp2
    go_ret
    exact ⟨rfl, bst HBE.out HBh.out⟩
  · refine Kd.R_lit_step (Kd.int .i64) (w0 := wt) wt.heap.size 3 (by rfl) (N := 12) rfl (xs := ([0, 10, 20, 5] : List Int)) (inner := [.int .i64 0, .int .i64 10, .int .i64 20, .int .i64 5]) (ok := fun _ => True) (okp := fun _ => True) ?hr ?hp (fun _ hk => hk) trivial (Below.refl _ _) (Nat.le_refl _) (by decide) ?_
    case hr => first | (go_simp; done) | (go_simp; rfl)
    case hp => exact (Reps.one (show Kd.M (Kd.int .i64) _ _ _ 0 [.int .i64 0] from rfl) (Reps.one (show Kd.M (Kd.int .i64) _ _ _ 10 [.int .i64 10] from rfl) (Reps.one (show Kd.M (Kd.int .i64) _ _ _ 20 [.int .i64 20] from rfl) (Reps.one (show Kd.M (Kd.int .i64) _ _ _ 5 [.int .i64 5] from rfl) (Reps.none _ _)))))
    intro v_ wy hR_ hby hg_ hat_
    obtain ⟨Ay, cy, rfl, hl_, hCy⟩ := Kd.R_reads hR_
    have HBy := Aside0.mk (bst HBt.out hby)
    clear hR_ hg_ hat_ hl_
    refine hK.out _ _ ⟨cells_later hby hHeld.1, cells_later hby hHeld.2.1, cells_later hby hHeld.2.2.1, cells_later hby hHeld.2.2.2.1, cells_later hby hHeld.2.2.2.2.1, cells_later hby hHeld.2.2.2.2.2.1, cells_later hby hHeld.2.2.2.2.2.2.1, cells_later hby hHeld.2.2.2.2.2.2.2⟩ (fun hHeld => ?_)
    clear hK K
    refine norm_ (a' := ?_) ?_ ?_
    rotate_left
    · show Act.put _ (some 12) _ = _
      simp only [Act.put, List.setIfInBounds_toArray, List.set_cons_zero, List.set_cons_succ, i64_w, i32_w]
      rfl
    refine one_ (i := 5) (N := some 11) #[true, true, true, true, true, true, true, false, false, false, false, false, false, false, false, false, false, false, false, false, false, false, false, false, false] rfl rfl (by kernel_rfl) (by decide) (fun K hK => ?_)
    refine Kd.R_lit_step (Kd.int .i64) (w0 := wy) wy.heap.size 3 (by rfl) (N := 11) rfl (xs := ([10, 20] : List Int)) (inner := [.int .i64 10, .int .i64 20]) (ok := fun _ => True) (okp := fun _ => True) ?hr ?hp (fun _ hk => hk) trivial (Below.refl _ _) (Nat.le_refl _) (by decide) ?_
    case hr => first | (go_simp; done) | (go_simp; rfl)
    case hp => exact (Reps.one (show Kd.M (Kd.int .i64) _ _ _ 10 [.int .i64 10] from rfl) (Reps.one (show Kd.M (Kd.int .i64) _ _ _ 20 [.int .i64 20] from rfl) (Reps.none _ _)))
    intro v_ wx hR_ hbx hg_ hat_
    obtain ⟨Ax, cx, rfl, hl_, hCx⟩ := Kd.R_reads hR_
    have HBx := Aside0.mk (bst HBy.out hbx)
    clear hR_ hg_ hat_ hl_
    refine hK.out _ _ ⟨cells_later hbx hHeld.1, cells_later hbx hHeld.2.1, cells_later hbx hHeld.2.2.1, cells_later hbx hHeld.2.2.2.1, cells_later hbx hHeld.2.2.2.2.1, cells_later hbx hHeld.2.2.2.2.2.1, cells_later hbx hHeld.2.2.2.2.2.2.1, cells_later hbx hHeld.2.2.2.2.2.2.2⟩ (fun hHeld => ?_)
    clear hK K
    refine norm_ (a' := ?_) ?_ ?_
    rotate_left
    · show Act.put _ (some 11) _ = _
      simp only [Act.put, List.setIfInBounds_toArray, List.set_cons_zero, List.set_cons_succ, i64_w, i32_w]
      rfl
    refine one_ (i := 7) (N := some 13) #[true, true, true, true, true, true, true, true, false, false, false, false, false, false, false, false, false, false, false, false, false, false, false, false, false] rfl rfl (by kernel_rfl) (by decide) (fun K hK => ?_)
    refine goes_ Tryd.func15 (by kernel_rfl) rfl #[encP P0 A4 c4, .slice Ax ([10, 20] : List Int).length cx, .slice Ay ([0, 10, 20, 5] : List Int).length cy] (by rfl) rfl rfl (by first | done | rfl | (simp only [List.map_toArray, List.map_cons, List.map_nil]; rfl)) ?_
    have H_ := cost15 P0 A4 c4 Ax cx [10, 20] Ay cy [0, 10, 20, 5] wx P0_bin hCx (Kd.C_below hCy hbx) (Kd.C_below HPC.out HBx.out)
    rw [P0_cost] at H_
    refine H_.mono ?_
    clear H_
    rintro e_ wc_ ⟨rfl, hbc_⟩
    have HBc_ := Aside0.mk (bst HBx.out hbc_)
    refine ⟨_, rfl, ?_⟩
    refine hK.out _ _ ⟨cells_later hbc_ hHeld.1, cells_later hbc_ hHeld.2.1, cells_later hbc_ hHeld.2.2.1, cells_later hbc_ hHeld.2.2.2.1, cells_later hbc_ hHeld.2.2.2.2.1, cells_later hbc_ hHeld.2.2.2.2.2.1, cells_later hbc_ hHeld.2.2.2.2.2.2.1, cells_later hbc_ hHeld.2.2.2.2.2.2.2⟩ (fun hHeld => ?_)
    clear hK K
    refine norm_ (a' := ?_) ?_ ?_
    rotate_left
    · show Act.put _ (some 13) _ = _
      simp only [Act.put, List.setIfInBounds_toArray, List.set_cons_zero, List.set_cons_succ, i64_w, i32_w]
      rfl
    refine pure_ (i := 8) (N := some 14) (v := ?_) (a' := ?_) #[true, true, true, true, true, true, true, true, true, false, false, false, false, false, false, false, false, false, false, false, false, false, false, false, false] rfl rfl (by kernel_rfl) (fun _ _ _ h => h) (Or.inl ⟨by rfl, ?_⟩) ?_ ?_
    rotate_left
    · intro w'
      go_simp
      with_reducible rfl
    rotate_left
    · simp only [Act.put, List.setIfInBounds_toArray, List.set_cons_zero, List.set_cons_succ, i64_w, i32_w]
      rfl
    refine pure_ (i := 9) (N := some 15) (v := ?_) (a' := ?_) #[true, true, true, true, true, true, true, true, true, true, false, false, false, false, false, false, false, false, false, false, false, false, false, false, false] rfl rfl (by kernel_rfl) (fun _ _ _ h => h) (Or.inl ⟨by rfl, ?_⟩) ?_ ?_
    rotate_left
    · intro w'
      go_simp
      with_reducible rfl
    rotate_left
    · simp only [Act.put, List.setIfInBounds_toArray, List.set_cons_zero, List.set_cons_succ, i64_w, i32_w]
      rfl
    refine pure_ (i := 10) (N := some 16) (v := ?_) (a' := ?_) #[true, true, true, true, true, true, true, true, true, true, true, false, false, false, false, false, false, false, false, false, false, false, false, false, false] rfl rfl (by kernel_rfl) (fun _ _ _ h => h) (Or.inl ⟨by rfl, ?_⟩) ?_ ?_
    rotate_left
    · intro w'
      go_simp
      with_reducible rfl
    rotate_left
    · simp only [Act.put, List.setIfInBounds_toArray, List.set_cons_zero, List.set_cons_succ, i64_w, i32_w]
      rfl
    refine take_ (i := 12) (N := some 18) (v := ?_) (a' := ?_) #[true, true, true, true, true, true, true, true, true, true, true, false, true, false, false, false, false, false, false, false, false, false, false, false, false] rfl rfl (by kernel_rfl) (fun _ _ _ h => h) (Or.inl ⟨by rfl, ?_⟩) hHeld ?_ ?_
    rotate_left
    · rintro w' ⟨s0, s1, s2, s3, s4, s5, s6, s7⟩
      go_simp
      with_reducible rfl
    rotate_left
    · simp only [Act.put, List.setIfInBounds_toArray, List.set_cons_zero, List.set_cons_succ, i64_w, i32_w]
      rfl
    refine one_ (i := 11) (N := some 17) #[true, true, true, true, true, true, true, true, true, true, true, true, true, false, false, false, false, false, false, false, false, false, false, false, false] rfl rfl (by kernel_rfl) (by decide) (fun K hK => ?_)
    refine goes_ Tryd.func21 (by kernel_rfl) rfl #[] (by rfl) rfl rfl (by simp only [List.map_toArray, List.map_nil]) ?_
    have H_ := pair21 wc_
    refine H_.mono ?_
    clear H_
    rintro e_ wd ⟨⟨bd, rfl, hcd, hnd, hmd, hLd⟩, hbd⟩
    have HBd := Aside0.mk (bst HBc_.out hbd)
    refine ⟨_, rfl, ?_⟩
    refine hK.out _ _ ⟨cells_later hbd hHeld.1, cells_later hbd hHeld.2.1, cells_later hbd hHeld.2.2.1, cells_later hbd hHeld.2.2.2.1, cells_later hbd hHeld.2.2.2.2.1, cells_later hbd hHeld.2.2.2.2.2.1, cells_later hbd hHeld.2.2.2.2.2.2.1, cells_later hbd hHeld.2.2.2.2.2.2.2⟩ (fun hHeld => ?_)
    clear hK K
    refine norm_ (a' := ?_) ?_ ?_
    rotate_left
    · show Act.put _ (some 17) _ = _
      simp only [Act.put, List.setIfInBounds_toArray, List.set_cons_zero, List.set_cons_succ, i64_w, i32_w]
      rfl
    refine one_ (i := 13) (N := some 19) #[true, true, true, true, true, true, true, true, true, true, true, true, true, true, false, false, false, false, false, false, false, false, false, false, false] rfl rfl (by kernel_rfl) (by decide) (fun K hK => ?_)
    refine goes_ Tryd.func14 (by kernel_rfl) rfl #[bd.enc, .slice none ([] : List Int).length 0, encP P0 A4 c4] (by rfl) rfl rfl (by first | done | rfl | (simp only [List.map_toArray, List.map_cons, List.map_nil]; rfl)) ?_
    have H_ := right14 bd L0 none 0 [] P0 A4 c4 wd hmd hLd (Kd.C_nil _ _) (Kd.C_below HPC.out HBd.out)
    rw [hnd, hcd, P0_right] at H_
    refine H_.mono ?_
    clear H_
    rintro e_ we_ ⟨rfl, hbe_⟩
    have HBe_ := Aside0.mk (bst HBd.out hbe_)
    refine ⟨_, rfl, ?_⟩
    refine hK.out _ _ ⟨cells_later hbe_ hHeld.1, cells_later hbe_ hHeld.2.1, cells_later hbe_ hHeld.2.2.1, cells_later hbe_ hHeld.2.2.2.1, cells_later hbe_ hHeld.2.2.2.2.1, cells_later hbe_ hHeld.2.2.2.2.2.1, cells_later hbe_ hHeld.2.2.2.2.2.2.1, cells_later hbe_ hHeld.2.2.2.2.2.2.2⟩ (fun hHeld => ?_)
    clear hK K
    refine norm_ (a' := ?_) ?_ ?_
    rotate_left
    · show Act.put _ (some 19) _ = _
      simp only [Act.put, List.setIfInBounds_toArray, List.set_cons_zero, List.set_cons_succ, i64_w, i32_w]
      rfl
    refine pure_ (i := 14) (N := some 20) (v := ?_) (a' := ?_) #[true, true, true, true, true, true, true, true, true, true, true, true, true, true, true, false, false, false, false, false, false, false, false, false, false] rfl rfl (by kernel_rfl) (fun _ _ _ h => h) (Or.inl ⟨by rfl, ?_⟩) ?_ ?_
    rotate_left
    · intro w'
      go_simp
      with_reducible rfl
    rotate_left
    · simp only [Act.put, List.setIfInBounds_toArray, List.set_cons_zero, List.set_cons_succ, i64_w, i32_w]
      rfl
    refine pure_ (i := 15) (N := some 21) (v := ?_) (a' := ?_) #[true, true, true, true, true, true, true, true, true, true, true, true, true, true, true, true, false, false, false, false, false, false, false, false, false] rfl rfl (by kernel_rfl) (fun _ _ _ h => h) (Or.inl ⟨by rfl, ?_⟩) ?_ ?_
    rotate_left
    · intro w'
      go_simp
      with_reducible rfl
    rotate_left
    · simp only [Act.put, List.setIfInBounds_toArray, List.set_cons_zero, List.set_cons_succ, i64_w, i32_w]
      rfl
    refine one_ (i := 16) (N := some 22) #[true, true, true, true, true, true, true, true, true, true, true, true, true, true, true, true, true, false, false, false, false, false, false, false, false] rfl rfl (by kernel_rfl) (by decide) (fun K hK => ?_)
    refine goes_ Tryd.func21 (by kernel_rfl) rfl #[] (by rfl) rfl rfl (by simp only [List.map_toArray, List.map_nil]) ?_
    have H_ := pair21 we_
    refine H_.mono ?_
    clear H_
    rintro e_ wf ⟨⟨bf, rfl, hcf, hnf, hmf, hLf⟩, hbf⟩
    have HBf := Aside0.mk (bst HBe_.out hbf)
    refine ⟨_, rfl, ?_⟩
    refine hK.out _ _ ⟨cells_later hbf hHeld.1, cells_later hbf hHeld.2.1, cells_later hbf hHeld.2.2.1, cells_later hbf hHeld.2.2.2.1, cells_later hbf hHeld.2.2.2.2.1, cells_later hbf hHeld.2.2.2.2.2.1, cells_later hbf hHeld.2.2.2.2.2.2.1, cells_later hbf hHeld.2.2.2.2.2.2.2⟩ (fun hHeld => ?_)
    clear hK K
    refine norm_ (a' := ?_) ?_ ?_
    rotate_left
    · show Act.put _ (some 22) _ = _
      simp only [Act.put, List.setIfInBounds_toArray, List.set_cons_zero, List.set_cons_succ, i64_w, i32_w]
      rfl
    refine one_ (i := 17) (N := some 23) #[true, true, true, true, true, true, true, true, true, true, true, true, true, true, true, true, true, true, false, false, false, false, false, false, false] rfl rfl (by kernel_rfl) (by decide) (fun K hK => ?_)
    refine goes_ Tryd.func12 (by kernel_rfl) rfl #[bf.enc, .int .i64 0, .int .i64 1, .int .i64 2] (by rfl) rfl rfl (by first | done | rfl | (simp only [List.map_toArray, List.map_cons, List.map_nil]; rfl)) ?_
    have H_ := joins12 bf L0 0 1 2 wf hmf hLf
    rw [L0_joins] at H_
    refine H_.mono ?_
    clear H_
    rintro e_ wg ⟨rfl, hbg⟩
    have HBg := Aside0.mk (bst HBf.out hbg)
    refine ⟨_, rfl, ?_⟩
    refine hK.out _ _ ⟨cells_later hbg hHeld.1, cells_later hbg hHeld.2.1, cells_later hbg hHeld.2.2.1, cells_later hbg hHeld.2.2.2.1, cells_later hbg hHeld.2.2.2.2.1, cells_later hbg hHeld.2.2.2.2.2.1, cells_later hbg hHeld.2.2.2.2.2.2.1, cells_later hbg hHeld.2.2.2.2.2.2.2⟩ (fun hHeld => ?_)
    clear hK K
    refine norm_ (a' := ?_) ?_ ?_
    rotate_left
    · show Act.put _ (some 23) _ = _
      simp only [Act.put, List.setIfInBounds_toArray, List.set_cons_zero, List.set_cons_succ, i64_w, i32_w]
      rfl
    refine pure_ (i := 18) (N := some 24) (v := ?_) (a' := ?_) #[true, true, true, true, true, true, true, true, true, true, true, true, true, true, true, true, true, true, true, false, false, false, false, false, false] rfl rfl (by kernel_rfl) (fun _ _ _ h => h) (Or.inl ⟨by rfl, ?_⟩) ?_ ?_
    rotate_left
    · intro w'
      go_simp
      with_reducible rfl
    rotate_left
    · simp only [Act.put, List.setIfInBounds_toArray, List.set_cons_zero, List.set_cons_succ, i64_w, i32_w]
      rfl
    refine pure_ (i := 19) (N := some 25) (v := ?_) (a' := ?_) #[true, true, true, true, true, true, true, true, true, true, true, true, true, true, true, true, true, true, true, true, false, false, false, false, false] rfl rfl (by kernel_rfl) (fun _ _ _ h => h) (Or.inl ⟨by rfl, ?_⟩) ?_ ?_
    rotate_left
    · intro w'
      go_simp
      with_reducible rfl
    rotate_left
    · simp only [Act.put, List.setIfInBounds_toArray, List.set_cons_zero, List.set_cons_succ, i64_w, i32_w]
      rfl
    refine take_ (i := 20) (N := some 26) (v := ?_) (a' := ?_) #[true, true, true, true, true, true, true, true, true, true, true, true, true, true, true, true, true, true, true, true, true, false, false, false, false] rfl rfl (by kernel_rfl) (fun _ _ _ h => h) (Or.inl ⟨by rfl, ?_⟩) hHeld ?_ ?_
    rotate_left
    · rintro w' ⟨s0, s1, s2, s3, s4, s5, s6, s7⟩
      go_simp
      with_reducible rfl
    rotate_left
    · simp only [Act.put, List.setIfInBounds_toArray, List.set_cons_zero, List.set_cons_succ, i64_w, i32_w]
      rfl
    refine one_ (i := 21) (N := some 27) #[true, true, true, true, true, true, true, true, true, true, true, true, true, true, true, true, true, true, true, true, true, true, false, false, false] rfl rfl (by kernel_rfl) (by decide) (fun K hK => ?_)
    refine goes_ Tryd.func16 (by kernel_rfl) rfl #[encP P0 A4 c4] (by rfl) rfl rfl (by first | done | rfl | (simp only [List.map_toArray, List.map_cons, List.map_nil]; rfl)) ?_
    have H_ := nodes16 P0 A4 c4 wg (Kd.C_below HPC.out HBg.out)
    rw [P0_nodes] at H_
    refine H_.mono ?_
    clear H_
    rintro e_ wh ⟨rfl, hbh⟩
    have HBh := Aside0.mk (bst HBg.out hbh)
    refine ⟨_, rfl, ?_⟩
    refine hK.out _ _ ⟨cells_later hbh hHeld.1, cells_later hbh hHeld.2.1, cells_later hbh hHeld.2.2.1, cells_later hbh hHeld.2.2.2.1, cells_later hbh hHeld.2.2.2.2.1, cells_later hbh hHeld.2.2.2.2.2.1, cells_later hbh hHeld.2.2.2.2.2.2.1, cells_later hbh hHeld.2.2.2.2.2.2.2⟩ (fun hHeld => ?_)
    clear hK K
    refine norm_ (a' := ?_) ?_ ?_
    rotate_left
    · show Act.put _ (some 27) _ = _
      simp only [Act.put, List.setIfInBounds_toArray, List.set_cons_zero, List.set_cons_succ, i64_w, i32_w]
      rfl
    refine pure_ (i := 22) (N := some 28) (v := ?_) (a' := ?_) #[true, true, true, true, true, true, true, true, true, true, true, true, true, true, true, true, true, true, true, true, true, true, true, false, false] rfl rfl (by kernel_rfl) (fun _ _ _ h => h) (Or.inl ⟨by rfl, ?_⟩) ?_ ?_
    rotate_left
    · intro w'
      go_simp
      with_reducible rfl
    rotate_left
    · simp only [Act.put, List.setIfInBounds_toArray, List.set_cons_zero, List.set_cons_succ, i64_w, i32_w]
      rfl
    refine pure_ (i := 23) (N := some 29) (v := ?_) (a' := ?_) #[true, true, true, true, true, true, true, true, true, true, true, true, true, true, true, true, true, true, true, true, true, true, true, true, false] rfl rfl (by kernel_rfl) (fun _ _ _ h => h) (Or.inl ⟨by rfl, ?_⟩) ?_ ?_
    rotate_left
    · intro w'
      go_simp
      with_reducible rfl
    rotate_left
    · simp only [Act.put, List.setIfInBounds_toArray, List.set_cons_zero, List.set_cons_succ, i64_w, i32_w]
      rfl
    refine pure_ (i := 24) (N := some 0) (v := ?_) (a' := ?_) #[true, true, true, true, true, true, true, true, true, true, true, true, true, true, true, true, true, true, true, true, true, true, true, true, true] rfl rfl (by kernel_rfl) (fun _ _ _ h => h) (Or.inl ⟨by rfl, ?_⟩) ?_ ?_
    rotate_left
    · intro w'
      go_simp
      with_reducible rfl
    rotate_left
    · simp only [Act.put, List.setIfInBounds_toArray, List.set_cons_zero, List.set_cons_succ, i64_w, i32_w]
      rfl
    refine done_ (by kernel_rfl) ?_
    go_wp2
    go_ret
    exact ⟨rfl, bst HBE.out HBh.out⟩

end Go.Proofs.YtmnjaihalajhcaaDoor.QPlanConds
