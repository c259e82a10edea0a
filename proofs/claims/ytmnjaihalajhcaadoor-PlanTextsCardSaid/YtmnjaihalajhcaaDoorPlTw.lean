import Derived.Test.YtmnjaihalajhcaaDoorPlTx
/- Plan: walks by hand; the conditions stand in each theorem. -/
namespace Go.Proofs.YtmnjaihalajhcaaDoor.QPlanConds
open Go.RowKit Go.Proofs.YtmnjaihalajhcaaDoorW.PrintWords Go.Proofs.YtmnjaihalajhcaaDoorW.PrintLast Go.Proofs.YtmnjaihalajhcaaDoorW.PrintMore
attribute [local go_sem] max2_int min2_int max_two min_two max_three min_three max_four min_four
set_option linter.unusedVariables false
set_option linter.unusedSimpArgs false
theorem alike_no {p q : S34} (h : (p.f0 != q.f0) = true ∨ (p.f1 != q.f1) = true ∨ (p.f2 != q.f2) = true ∨ (p.f3 != q.f3) = true ∨ (p.f4 != q.f4) = true ∨ ((p.f7.length : Int) != (q.f7.length : Int)) = true) : alikeX p q = false := by
  rcases Bool.eq_false_or_eq_true (alikeX p q) with a | a
  · obtain ⟨h0, h1, h2, h3, h4, h7, _⟩ := alike_open a
    rw [h0, h1, h2, h3, h4, h7] at h
    simp at h
  · exact a
def Ca (p : S34) : Prop := ∀ (w : World) (q : S34) (A : Option Addr) (c : Nat) (A' : Option Addr) (c' : Nat), k34.C w A p.f7.length p.f7 → k34.C w A' q.f7.length q.f7 →
  Calls Tryd.prog 17 #[encP p A c, encP q A' c'] w fun e_ w' => e_ = .returned (.bool (alikeX p q)) ∧ Below w.heap.size w w'
set_option maxRecDepth 8000 in
set_option maxHeartbeats 16000000 in
theorem alike17 : ∀ p, Ca p := by
  refine ind34 ?_
  intro p ih w q A c A' c' hC hD
  have HC := Aside0.mk hC
  have HD := Aside0.mk hD
  have HIH := Aside0.mk ih
  clear hC hD ih
  have hu34 := Tryd.underlying34
  rcases Bool.eq_false_or_eq_true (p.f0 != q.f0) with q0 | q0
  · have HR : Aside0 (alikeX p q = false) := ⟨alike_no (Or.inl q0)⟩
    go_enter Tryd.func17, Tryd.ntmps17
    go_wp2_with (first | ((with_reducible refine gate_dst (N := 2) rfl ?_); refine box_event ?hg (N := 2) ?hd (cs := cellsP p (.slice A p.f7.length c)) (t := 34) ?hr ?_; (case hd => rfl); (case hg => rfl); (case hr => unfold cellsP encP; first | (go_simp; done) | (go_simp; rfl)); intro gp hg1 w1 hbox hb; have BP1 := Aside0.mk hbox; have HB1 := Aside0.mk hb; clear hbox hb hg1) | ((with_reducible refine gate_dst (N := 3) rfl ?_); refine box_event ?hg (N := 3) ?hd (cs := cellsP q (.slice A' q.f7.length c')) (t := 34) ?hr ?_; (case hd => rfl); (case hg => rfl); (case hr => unfold cellsP encP; first | (go_simp; done) | (go_simp; rfl)); intro gq hg1 w2 hbox hb; have BQ2 := Aside0.mk hbox; have HB2 := Aside0.mk (bst HB1.out hb); have BP2 := Aside0.mk ((hb.block gp (blk_lt BP1.out)).trans BP1.out); have k0 := (blk_cell BP2.out 0).trans (rfl : _ = some (Value.int .i64 p.f0)); have k1 := (blk_cell BP2.out 1).trans (rfl : _ = some (Value.int .i64 p.f1)); have k2 := (blk_cell BP2.out 2).trans (rfl : _ = some (Value.int .i64 p.f2)); have k3 := (blk_cell BP2.out 3).trans (rfl : _ = some (Value.int .i64 p.f3)); have k4 := (blk_cell BP2.out 4).trans (rfl : _ = some (Value.bool p.f4)); have k5 := (blk_cell BP2.out 5).trans (rfl : _ = some (Value.int .i64 p.f5)); have k6 := (blk_cell BP2.out 6).trans (rfl : _ = some (Value.int .i64 p.f6)); have k7 := (blk_cell BP2.out 7).trans (rfl : _ = some (Value.slice A p.f7.length c)); have j0 := (blk_cell BQ2.out 0).trans (rfl : _ = some (Value.int .i64 q.f0)); have j1 := (blk_cell BQ2.out 1).trans (rfl : _ = some (Value.int .i64 q.f1)); have j2 := (blk_cell BQ2.out 2).trans (rfl : _ = some (Value.int .i64 q.f2)); have j3 := (blk_cell BQ2.out 3).trans (rfl : _ = some (Value.int .i64 q.f3)); have j4 := (blk_cell BQ2.out 4).trans (rfl : _ = some (Value.bool q.f4)); have j5 := (blk_cell BQ2.out 5).trans (rfl : _ = some (Value.int .i64 q.f5)); have j6 := (blk_cell BQ2.out 6).trans (rfl : _ = some (Value.int .i64 q.f6)); have j7 := (blk_cell BQ2.out 7).trans (rfl : _ = some (Value.slice A' q.f7.length c')); clear hbox hb hg1))
    go_ret
    rw [HR.out]
    exact ⟨rfl, HB2.out⟩
  rcases Bool.eq_false_or_eq_true (p.f1 != q.f1) with q1 | q1
  · have HR : Aside0 (alikeX p q = false) := ⟨alike_no (Or.inr (Or.inl q1))⟩
    go_enter Tryd.func17, Tryd.ntmps17
    go_wp2_with (first | ((with_reducible refine gate_dst (N := 2) rfl ?_); refine box_event ?hg (N := 2) ?hd (cs := cellsP p (.slice A p.f7.length c)) (t := 34) ?hr ?_; (case hd => rfl); (case hg => rfl); (case hr => unfold cellsP encP; first | (go_simp; done) | (go_simp; rfl)); intro gp hg1 w1 hbox hb; have BP1 := Aside0.mk hbox; have HB1 := Aside0.mk hb; clear hbox hb hg1) | ((with_reducible refine gate_dst (N := 3) rfl ?_); refine box_event ?hg (N := 3) ?hd (cs := cellsP q (.slice A' q.f7.length c')) (t := 34) ?hr ?_; (case hd => rfl); (case hg => rfl); (case hr => unfold cellsP encP; first | (go_simp; done) | (go_simp; rfl)); intro gq hg1 w2 hbox hb; have BQ2 := Aside0.mk hbox; have HB2 := Aside0.mk (bst HB1.out hb); have BP2 := Aside0.mk ((hb.block gp (blk_lt BP1.out)).trans BP1.out); have k0 := (blk_cell BP2.out 0).trans (rfl : _ = some (Value.int .i64 p.f0)); have k1 := (blk_cell BP2.out 1).trans (rfl : _ = some (Value.int .i64 p.f1)); have k2 := (blk_cell BP2.out 2).trans (rfl : _ = some (Value.int .i64 p.f2)); have k3 := (blk_cell BP2.out 3).trans (rfl : _ = some (Value.int .i64 p.f3)); have k4 := (blk_cell BP2.out 4).trans (rfl : _ = some (Value.bool p.f4)); have k5 := (blk_cell BP2.out 5).trans (rfl : _ = some (Value.int .i64 p.f5)); have k6 := (blk_cell BP2.out 6).trans (rfl : _ = some (Value.int .i64 p.f6)); have k7 := (blk_cell BP2.out 7).trans (rfl : _ = some (Value.slice A p.f7.length c)); have j0 := (blk_cell BQ2.out 0).trans (rfl : _ = some (Value.int .i64 q.f0)); have j1 := (blk_cell BQ2.out 1).trans (rfl : _ = some (Value.int .i64 q.f1)); have j2 := (blk_cell BQ2.out 2).trans (rfl : _ = some (Value.int .i64 q.f2)); have j3 := (blk_cell BQ2.out 3).trans (rfl : _ = some (Value.int .i64 q.f3)); have j4 := (blk_cell BQ2.out 4).trans (rfl : _ = some (Value.bool q.f4)); have j5 := (blk_cell BQ2.out 5).trans (rfl : _ = some (Value.int .i64 q.f5)); have j6 := (blk_cell BQ2.out 6).trans (rfl : _ = some (Value.int .i64 q.f6)); have j7 := (blk_cell BQ2.out 7).trans (rfl : _ = some (Value.slice A' q.f7.length c')); clear hbox hb hg1))
    go_ret
    rw [HR.out]
    exact ⟨rfl, HB2.out⟩
  rcases Bool.eq_false_or_eq_true (p.f2 != q.f2) with q2 | q2
  · have HR : Aside0 (alikeX p q = false) := ⟨alike_no (Or.inr (Or.inr (Or.inl q2)))⟩
    go_enter Tryd.func17, Tryd.ntmps17
    go_wp2_with (first | ((with_reducible refine gate_dst (N := 2) rfl ?_); refine box_event ?hg (N := 2) ?hd (cs := cellsP p (.slice A p.f7.length c)) (t := 34) ?hr ?_; (case hd => rfl); (case hg => rfl); (case hr => unfold cellsP encP; first | (go_simp; done) | (go_simp; rfl)); intro gp hg1 w1 hbox hb; have BP1 := Aside0.mk hbox; have HB1 := Aside0.mk hb; clear hbox hb hg1) | ((with_reducible refine gate_dst (N := 3) rfl ?_); refine box_event ?hg (N := 3) ?hd (cs := cellsP q (.slice A' q.f7.length c')) (t := 34) ?hr ?_; (case hd => rfl); (case hg => rfl); (case hr => unfold cellsP encP; first | (go_simp; done) | (go_simp; rfl)); intro gq hg1 w2 hbox hb; have BQ2 := Aside0.mk hbox; have HB2 := Aside0.mk (bst HB1.out hb); have BP2 := Aside0.mk ((hb.block gp (blk_lt BP1.out)).trans BP1.out); have k0 := (blk_cell BP2.out 0).trans (rfl : _ = some (Value.int .i64 p.f0)); have k1 := (blk_cell BP2.out 1).trans (rfl : _ = some (Value.int .i64 p.f1)); have k2 := (blk_cell BP2.out 2).trans (rfl : _ = some (Value.int .i64 p.f2)); have k3 := (blk_cell BP2.out 3).trans (rfl : _ = some (Value.int .i64 p.f3)); have k4 := (blk_cell BP2.out 4).trans (rfl : _ = some (Value.bool p.f4)); have k5 := (blk_cell BP2.out 5).trans (rfl : _ = some (Value.int .i64 p.f5)); have k6 := (blk_cell BP2.out 6).trans (rfl : _ = some (Value.int .i64 p.f6)); have k7 := (blk_cell BP2.out 7).trans (rfl : _ = some (Value.slice A p.f7.length c)); have j0 := (blk_cell BQ2.out 0).trans (rfl : _ = some (Value.int .i64 q.f0)); have j1 := (blk_cell BQ2.out 1).trans (rfl : _ = some (Value.int .i64 q.f1)); have j2 := (blk_cell BQ2.out 2).trans (rfl : _ = some (Value.int .i64 q.f2)); have j3 := (blk_cell BQ2.out 3).trans (rfl : _ = some (Value.int .i64 q.f3)); have j4 := (blk_cell BQ2.out 4).trans (rfl : _ = some (Value.bool q.f4)); have j5 := (blk_cell BQ2.out 5).trans (rfl : _ = some (Value.int .i64 q.f5)); have j6 := (blk_cell BQ2.out 6).trans (rfl : _ = some (Value.int .i64 q.f6)); have j7 := (blk_cell BQ2.out 7).trans (rfl : _ = some (Value.slice A' q.f7.length c')); clear hbox hb hg1))
    go_ret
    rw [HR.out]
    exact ⟨rfl, HB2.out⟩
  rcases Bool.eq_false_or_eq_true (p.f3 != q.f3) with q3 | q3
  · have HR : Aside0 (alikeX p q = false) := ⟨alike_no (Or.inr (Or.inr (Or.inr (Or.inl q3))))⟩
    go_enter Tryd.func17, Tryd.ntmps17
    go_wp2_with (first | ((with_reducible refine gate_dst (N := 2) rfl ?_); refine box_event ?hg (N := 2) ?hd (cs := cellsP p (.slice A p.f7.length c)) (t := 34) ?hr ?_; (case hd => rfl); (case hg => rfl); (case hr => unfold cellsP encP; first | (go_simp; done) | (go_simp; rfl)); intro gp hg1 w1 hbox hb; have BP1 := Aside0.mk hbox; have HB1 := Aside0.mk hb; clear hbox hb hg1) | ((with_reducible refine gate_dst (N := 3) rfl ?_); refine box_event ?hg (N := 3) ?hd (cs := cellsP q (.slice A' q.f7.length c')) (t := 34) ?hr ?_; (case hd => rfl); (case hg => rfl); (case hr => unfold cellsP encP; first | (go_simp; done) | (go_simp; rfl)); intro gq hg1 w2 hbox hb; have BQ2 := Aside0.mk hbox; have HB2 := Aside0.mk (bst HB1.out hb); have BP2 := Aside0.mk ((hb.block gp (blk_lt BP1.out)).trans BP1.out); have k0 := (blk_cell BP2.out 0).trans (rfl : _ = some (Value.int .i64 p.f0)); have k1 := (blk_cell BP2.out 1).trans (rfl : _ = some (Value.int .i64 p.f1)); have k2 := (blk_cell BP2.out 2).trans (rfl : _ = some (Value.int .i64 p.f2)); have k3 := (blk_cell BP2.out 3).trans (rfl : _ = some (Value.int .i64 p.f3)); have k4 := (blk_cell BP2.out 4).trans (rfl : _ = some (Value.bool p.f4)); have k5 := (blk_cell BP2.out 5).trans (rfl : _ = some (Value.int .i64 p.f5)); have k6 := (blk_cell BP2.out 6).trans (rfl : _ = some (Value.int .i64 p.f6)); have k7 := (blk_cell BP2.out 7).trans (rfl : _ = some (Value.slice A p.f7.length c)); have j0 := (blk_cell BQ2.out 0).trans (rfl : _ = some (Value.int .i64 q.f0)); have j1 := (blk_cell BQ2.out 1).trans (rfl : _ = some (Value.int .i64 q.f1)); have j2 := (blk_cell BQ2.out 2).trans (rfl : _ = some (Value.int .i64 q.f2)); have j3 := (blk_cell BQ2.out 3).trans (rfl : _ = some (Value.int .i64 q.f3)); have j4 := (blk_cell BQ2.out 4).trans (rfl : _ = some (Value.bool q.f4)); have j5 := (blk_cell BQ2.out 5).trans (rfl : _ = some (Value.int .i64 q.f5)); have j6 := (blk_cell BQ2.out 6).trans (rfl : _ = some (Value.int .i64 q.f6)); have j7 := (blk_cell BQ2.out 7).trans (rfl : _ = some (Value.slice A' q.f7.length c')); clear hbox hb hg1))
    go_ret
    rw [HR.out]
    exact ⟨rfl, HB2.out⟩
  rcases Bool.eq_false_or_eq_true (p.f4 != q.f4) with q4 | q4
  · have HR : Aside0 (alikeX p q = false) := ⟨alike_no (Or.inr (Or.inr (Or.inr (Or.inr (Or.inl q4)))))⟩
    have n4 : ¬ p.f4 = q.f4 := bne_iff_ne.1 q4
    go_enter Tryd.func17, Tryd.ntmps17
    go_wp2_with (first | ((with_reducible refine gate_dst (N := 2) rfl ?_); refine box_event ?hg (N := 2) ?hd (cs := cellsP p (.slice A p.f7.length c)) (t := 34) ?hr ?_; (case hd => rfl); (case hg => rfl); (case hr => unfold cellsP encP; first | (go_simp; done) | (go_simp; rfl)); intro gp hg1 w1 hbox hb; have BP1 := Aside0.mk hbox; have HB1 := Aside0.mk hb; clear hbox hb hg1) | ((with_reducible refine gate_dst (N := 3) rfl ?_); refine box_event ?hg (N := 3) ?hd (cs := cellsP q (.slice A' q.f7.length c')) (t := 34) ?hr ?_; (case hd => rfl); (case hg => rfl); (case hr => unfold cellsP encP; first | (go_simp; done) | (go_simp; rfl)); intro gq hg1 w2 hbox hb; have BQ2 := Aside0.mk hbox; have HB2 := Aside0.mk (bst HB1.out hb); have BP2 := Aside0.mk ((hb.block gp (blk_lt BP1.out)).trans BP1.out); have k0 := (blk_cell BP2.out 0).trans (rfl : _ = some (Value.int .i64 p.f0)); have k1 := (blk_cell BP2.out 1).trans (rfl : _ = some (Value.int .i64 p.f1)); have k2 := (blk_cell BP2.out 2).trans (rfl : _ = some (Value.int .i64 p.f2)); have k3 := (blk_cell BP2.out 3).trans (rfl : _ = some (Value.int .i64 p.f3)); have k4 := (blk_cell BP2.out 4).trans (rfl : _ = some (Value.bool p.f4)); have k5 := (blk_cell BP2.out 5).trans (rfl : _ = some (Value.int .i64 p.f5)); have k6 := (blk_cell BP2.out 6).trans (rfl : _ = some (Value.int .i64 p.f6)); have k7 := (blk_cell BP2.out 7).trans (rfl : _ = some (Value.slice A p.f7.length c)); have j0 := (blk_cell BQ2.out 0).trans (rfl : _ = some (Value.int .i64 q.f0)); have j1 := (blk_cell BQ2.out 1).trans (rfl : _ = some (Value.int .i64 q.f1)); have j2 := (blk_cell BQ2.out 2).trans (rfl : _ = some (Value.int .i64 q.f2)); have j3 := (blk_cell BQ2.out 3).trans (rfl : _ = some (Value.int .i64 q.f3)); have j4 := (blk_cell BQ2.out 4).trans (rfl : _ = some (Value.bool q.f4)); have j5 := (blk_cell BQ2.out 5).trans (rfl : _ = some (Value.int .i64 q.f5)); have j6 := (blk_cell BQ2.out 6).trans (rfl : _ = some (Value.int .i64 q.f6)); have j7 := (blk_cell BQ2.out 7).trans (rfl : _ = some (Value.slice A' q.f7.length c')); clear hbox hb hg1))
    go_ret
    rw [HR.out]
    exact ⟨rfl, HB2.out⟩
  have n4 : p.f4 = q.f4 := bne_eq_false_iff_eq.1 q4
  rcases Bool.eq_false_or_eq_true ((p.f7.length : Int) != (q.f7.length : Int)) with q7 | q7
  · have HR : Aside0 (alikeX p q = false) := ⟨alike_no (Or.inr (Or.inr (Or.inr (Or.inr (Or.inr q7)))))⟩
    go_enter Tryd.func17, Tryd.ntmps17
    go_wp2_with (first | ((with_reducible refine gate_dst (N := 2) rfl ?_); refine box_event ?hg (N := 2) ?hd (cs := cellsP p (.slice A p.f7.length c)) (t := 34) ?hr ?_; (case hd => rfl); (case hg => rfl); (case hr => unfold cellsP encP; first | (go_simp; done) | (go_simp; rfl)); intro gp hg1 w1 hbox hb; have BP1 := Aside0.mk hbox; have HB1 := Aside0.mk hb; clear hbox hb hg1) | ((with_reducible refine gate_dst (N := 3) rfl ?_); refine box_event ?hg (N := 3) ?hd (cs := cellsP q (.slice A' q.f7.length c')) (t := 34) ?hr ?_; (case hd => rfl); (case hg => rfl); (case hr => unfold cellsP encP; first | (go_simp; done) | (go_simp; rfl)); intro gq hg1 w2 hbox hb; have BQ2 := Aside0.mk hbox; have HB2 := Aside0.mk (bst HB1.out hb); have BP2 := Aside0.mk ((hb.block gp (blk_lt BP1.out)).trans BP1.out); have k0 := (blk_cell BP2.out 0).trans (rfl : _ = some (Value.int .i64 p.f0)); have k1 := (blk_cell BP2.out 1).trans (rfl : _ = some (Value.int .i64 p.f1)); have k2 := (blk_cell BP2.out 2).trans (rfl : _ = some (Value.int .i64 p.f2)); have k3 := (blk_cell BP2.out 3).trans (rfl : _ = some (Value.int .i64 p.f3)); have k4 := (blk_cell BP2.out 4).trans (rfl : _ = some (Value.bool p.f4)); have k5 := (blk_cell BP2.out 5).trans (rfl : _ = some (Value.int .i64 p.f5)); have k6 := (blk_cell BP2.out 6).trans (rfl : _ = some (Value.int .i64 p.f6)); have k7 := (blk_cell BP2.out 7).trans (rfl : _ = some (Value.slice A p.f7.length c)); have j0 := (blk_cell BQ2.out 0).trans (rfl : _ = some (Value.int .i64 q.f0)); have j1 := (blk_cell BQ2.out 1).trans (rfl : _ = some (Value.int .i64 q.f1)); have j2 := (blk_cell BQ2.out 2).trans (rfl : _ = some (Value.int .i64 q.f2)); have j3 := (blk_cell BQ2.out 3).trans (rfl : _ = some (Value.int .i64 q.f3)); have j4 := (blk_cell BQ2.out 4).trans (rfl : _ = some (Value.bool q.f4)); have j5 := (blk_cell BQ2.out 5).trans (rfl : _ = some (Value.int .i64 q.f5)); have j6 := (blk_cell BQ2.out 6).trans (rfl : _ = some (Value.int .i64 q.f6)); have j7 := (blk_cell BQ2.out 7).trans (rfl : _ = some (Value.slice A' q.f7.length c')); clear hbox hb hg1))
    go_ret
    rw [HR.out]
    exact ⟨rfl, HB2.out⟩
  have HL : Aside0 (p.f7.length = q.f7.length ∧ (alikeX p q = true ↔ ∀ i (h : i < p.f7.length) (h' : i < q.f7.length), alikeX p.f7[i] q.f7[i] = true)) := ⟨by
    have e0 : p.f0 = q.f0 := bne_eq_false_iff_eq.1 q0
    have e1 : p.f1 = q.f1 := bne_eq_false_iff_eq.1 q1
    have e2 : p.f2 = q.f2 := bne_eq_false_iff_eq.1 q2
    have e3 : p.f3 = q.f3 := bne_eq_false_iff_eq.1 q3
    have e4 : p.f4 = q.f4 := bne_eq_false_iff_eq.1 q4
    have e7 : (p.f7.length : Int) = (q.f7.length : Int) := bne_eq_false_iff_eq.1 q7
    exact ⟨by omega, fun h => (alike_open h).2.2.2.2.2.2, alike_mk e0 e1 e2 e3 e4 (by omega)⟩⟩
  go_enter Tryd.func17, Tryd.ntmps17
  go_wp2_with (first | ((with_reducible refine gate_dst (N := 2) rfl ?_); refine box_event ?hg (N := 2) ?hd (cs := cellsP p (.slice A p.f7.length c)) (t := 34) ?hr ?_; (case hd => rfl); (case hg => rfl); (case hr => unfold cellsP encP; first | (go_simp; done) | (go_simp; rfl)); intro gp hg1 w1 hbox hb; have BP1 := Aside0.mk hbox; have HB1 := Aside0.mk hb; clear hbox hb hg1) | ((with_reducible refine gate_dst (N := 3) rfl ?_); refine box_event ?hg (N := 3) ?hd (cs := cellsP q (.slice A' q.f7.length c')) (t := 34) ?hr ?_; (case hd => rfl); (case hg => rfl); (case hr => unfold cellsP encP; first | (go_simp; done) | (go_simp; rfl)); intro gq hg1 w2 hbox hb; have BQ2 := Aside0.mk hbox; have HB2 := Aside0.mk (bst HB1.out hb); have BP2 := Aside0.mk ((hb.block gp (blk_lt BP1.out)).trans BP1.out); have k0 := (blk_cell BP2.out 0).trans (rfl : _ = some (Value.int .i64 p.f0)); have k1 := (blk_cell BP2.out 1).trans (rfl : _ = some (Value.int .i64 p.f1)); have k2 := (blk_cell BP2.out 2).trans (rfl : _ = some (Value.int .i64 p.f2)); have k3 := (blk_cell BP2.out 3).trans (rfl : _ = some (Value.int .i64 p.f3)); have k4 := (blk_cell BP2.out 4).trans (rfl : _ = some (Value.bool p.f4)); have k5 := (blk_cell BP2.out 5).trans (rfl : _ = some (Value.int .i64 p.f5)); have k6 := (blk_cell BP2.out 6).trans (rfl : _ = some (Value.int .i64 p.f6)); have k7 := (blk_cell BP2.out 7).trans (rfl : _ = some (Value.slice A p.f7.length c)); have j0 := (blk_cell BQ2.out 0).trans (rfl : _ = some (Value.int .i64 q.f0)); have j1 := (blk_cell BQ2.out 1).trans (rfl : _ = some (Value.int .i64 q.f1)); have j2 := (blk_cell BQ2.out 2).trans (rfl : _ = some (Value.int .i64 q.f2)); have j3 := (blk_cell BQ2.out 3).trans (rfl : _ = some (Value.int .i64 q.f3)); have j4 := (blk_cell BQ2.out 4).trans (rfl : _ = some (Value.bool q.f4)); have j5 := (blk_cell BQ2.out 5).trans (rfl : _ = some (Value.int .i64 q.f5)); have j6 := (blk_cell BQ2.out 6).trans (rfl : _ = some (Value.int .i64 q.f6)); have j7 := (blk_cell BQ2.out 7).trans (rfl : _ = some (Value.slice A' q.f7.length c')); clear hbox hb hg1))
  clear q0 q1 q2 q3 q4 n4 q7 k0 k1 k2 k3 k4 k5 k6 k7 j0 j1 j2 j3 j4 j5 j6 j7
  go_loopw [5] (fun s5 wr => ∃ i : Nat, i ≤ p.f7.length ∧ s5 = .int .i64 (i : Int) ∧ Aside0 (∀ j (h : j < p.f7.length) (h' : j < q.f7.length), j < i → alikeX p.f7[j] q.f7[j] = true) ∧ Aside0 (Below w.heap.size w wr) ∧ Aside0 (wr.heap[gp]? = some (.cells (cellsP p (.slice A p.f7.length c)) 34 (0, 0))) ∧ Aside0 (wr.heap[gq]? = some (.cells (cellsP q (.slice A' q.f7.length c')) 34 (0, 0)))) (fun s5 _ => p.f7.length - (intOf s5).toNat)
  case atStart => exact ⟨0, Nat.zero_le _, rfl, ⟨fun j h h' hj => absurd hj (Nat.not_lt_zero _)⟩, HB2, BP2, BQ2⟩
  case round =>
    obtain ⟨i, hi, rfl, HA, HB5, BP5, BQ5⟩ := hrel
    obtain ⟨w5, hw5⟩ : ∃ x, x = wr := ⟨_, rfl⟩
    subst hw5
    have k7 := (blk_cell BP5.out 7).trans (rfl : _ = some (Value.slice A p.f7.length c))
    have j7 := (blk_cell BQ5.out 7).trans (rfl : _ = some (Value.slice A' q.f7.length c'))
    by_cases hlt : i < p.f7.length
    · have hlq : i < q.f7.length := by have := HL.out.1; omega
      have hin : (i : Int) < (p.f7.length : Int) := by omega
      have hinq : (i : Int) < (q.f7.length : Int) := by omega
      have hwi : wrap64 ((i : Int) + 1) = (i : Int) + 1 := w64_ (by omega) (by have := Kd.C_max HC.out; omega)
      have hrd : rd_T34 p.f7 (i : Int) = p.f7[i] := (rdl_get hlt).symm
      have hrq : rd_T34 q.f7 (i : Int) = q.f7[i] := (rdl_get hlq).symm
      obtain ⟨ad, A8, c8, e0, x0, x1, x2, x3, x4, x5, x6, x7, l8, g8⟩ := at_T34 (Kd.C_below HC.out HB5.out) (i : Int) (by omega) hin
      obtain ⟨ae, A9, c9, e1, y0, y1, y2, y3, y4, y5, y6, y7, l9, g9⟩ := at_T34 (Kd.C_below HD.out HB5.out) (i : Int) (by omega) hinq
      subst e0
      subst e1
      have HG8 := Aside0.mk g8
      have HG9 := Aside0.mk g9
      clear g8 g9 l8 l9
      rw [hrd] at x0 x1 x2 x3 x4 x5 x6 x7 HG8
      rw [hrq] at y0 y1 y2 y3 y4 y5 y6 y7 HG9
      rw [Int.toNat_natCast] at x0 x1 x2 x3 x4 x5 x6 x7 y0 y1 y2 y3 y4 y5 y6 y7
      clear hrd hrq
      have HI := Aside0.mk (HIH.out _ (List.getElem_mem hlt) w5.drew q.f7[i] A8 c8 A9 c9 (Kd.C_below HG8.out (below_drew (Below.refl _ w5))) (Kd.C_below HG9.out (below_drew (Below.refl _ w5))))
      have HT : Aside0 (alikeX p.f7[i] q.f7[i] = true → ∀ j (h : j < p.f7.length) (h' : j < q.f7.length), j < i + 1 → alikeX p.f7[j] q.f7[j] = true) := ⟨fun h j hj hj' hji => by
        by_cases e : j = i
        · subst e; exact h
        · exact HA.out j hj hj' (by omega)⟩
      have HF : Aside0 (alikeX p.f7[i] q.f7[i] = false → alikeX p q = false) := ⟨fun h => by
        rcases Bool.eq_false_or_eq_true (alikeX p q) with a | a
        · have := HL.out.2.1 a i hlt hlq
          rw [h] at this
          cases this
        · exact a⟩
      generalize p.f7[i] = e at *
      generalize q.f7[i] = f at *
      generalize alikeX e f = r at *
      go_wp2_with fail
      have m0_ : Aside0 (w5.drew.cell? ⟨gp, 7, none⟩ = some (.slice (some ad) p.f7.length c)) := ⟨k7⟩
      have m1_ : Aside0 (w5.drew.cell? ⟨gq, 7, none⟩ = some (.slice (some ae) q.f7.length c')) := ⟨j7⟩
      have m2_ : Aside0 (w5.drew.cell? (ad.add (i * 8)) = some (.int .i64 e.f0)) := ⟨x0⟩
      have m3_ : Aside0 (w5.drew.cell? ⟨(ad.add (i * 8)).block, (ad.add (i * 8)).off + 1, none⟩ = some (.int .i64 e.f1)) := ⟨x1⟩
      have m4_ : Aside0 (w5.drew.cell? ⟨(ad.add (i * 8)).block, (ad.add (i * 8)).off + 2, none⟩ = some (.int .i64 e.f2)) := ⟨x2⟩
      have m5_ : Aside0 (w5.drew.cell? ⟨(ad.add (i * 8)).block, (ad.add (i * 8)).off + 3, none⟩ = some (.int .i64 e.f3)) := ⟨x3⟩
      have m6_ : Aside0 (w5.drew.cell? ⟨(ad.add (i * 8)).block, (ad.add (i * 8)).off + 4, none⟩ = some (.bool e.f4)) := ⟨x4⟩
      have m7_ : Aside0 (w5.drew.cell? ⟨(ad.add (i * 8)).block, (ad.add (i * 8)).off + 5, none⟩ = some (.int .i64 e.f5)) := ⟨x5⟩
      have m8_ : Aside0 (w5.drew.cell? ⟨(ad.add (i * 8)).block, (ad.add (i * 8)).off + 6, none⟩ = some (.int .i64 e.f6)) := ⟨x6⟩
      have m9_ : Aside0 (w5.drew.cell? ⟨(ad.add (i * 8)).block, (ad.add (i * 8)).off + 7, none⟩ = some (.slice A8 e.f7.length c8)) := ⟨x7⟩
      have m10_ : Aside0 (w5.drew.cell? (ae.add (i * 8)) = some (.int .i64 f.f0)) := ⟨y0⟩
      have m11_ : Aside0 (w5.drew.cell? ⟨(ae.add (i * 8)).block, (ae.add (i * 8)).off + 1, none⟩ = some (.int .i64 f.f1)) := ⟨y1⟩
      have m12_ : Aside0 (w5.drew.cell? ⟨(ae.add (i * 8)).block, (ae.add (i * 8)).off + 2, none⟩ = some (.int .i64 f.f2)) := ⟨y2⟩
      have m13_ : Aside0 (w5.drew.cell? ⟨(ae.add (i * 8)).block, (ae.add (i * 8)).off + 3, none⟩ = some (.int .i64 f.f3)) := ⟨y3⟩
      have m14_ : Aside0 (w5.drew.cell? ⟨(ae.add (i * 8)).block, (ae.add (i * 8)).off + 4, none⟩ = some (.bool f.f4)) := ⟨y4⟩
      have m15_ : Aside0 (w5.drew.cell? ⟨(ae.add (i * 8)).block, (ae.add (i * 8)).off + 5, none⟩ = some (.int .i64 f.f5)) := ⟨y5⟩
      have m16_ : Aside0 (w5.drew.cell? ⟨(ae.add (i * 8)).block, (ae.add (i * 8)).off + 6, none⟩ = some (.int .i64 f.f6)) := ⟨y6⟩
      have m17_ : Aside0 (w5.drew.cell? ⟨(ae.add (i * 8)).block, (ae.add (i * 8)).off + 7, none⟩ = some (.slice A9 f.f7.length c9)) := ⟨y7⟩
      clear k7 j7 x0 x1 x2 x3 x4 x5 x6 x7 y0 y1 y2 y3 y4 y5 y6 y7
      refine start_ (n := 12) (S := fun w' => w'.cell? ⟨gp, 7, none⟩ = some (.slice (some ad) p.f7.length c) ∧ w'.cell? ⟨gq, 7, none⟩ = some (.slice (some ae) q.f7.length c') ∧ w'.cell? (ad.add (i * 8)) = some (.int .i64 e.f0) ∧ w'.cell? ⟨(ad.add (i * 8)).block, (ad.add (i * 8)).off + 1, none⟩ = some (.int .i64 e.f1) ∧ w'.cell? ⟨(ad.add (i * 8)).block, (ad.add (i * 8)).off + 2, none⟩ = some (.int .i64 e.f2) ∧ w'.cell? ⟨(ad.add (i * 8)).block, (ad.add (i * 8)).off + 3, none⟩ = some (.int .i64 e.f3) ∧ w'.cell? ⟨(ad.add (i * 8)).block, (ad.add (i * 8)).off + 4, none⟩ = some (.bool e.f4) ∧ w'.cell? ⟨(ad.add (i * 8)).block, (ad.add (i * 8)).off + 5, none⟩ = some (.int .i64 e.f5) ∧ w'.cell? ⟨(ad.add (i * 8)).block, (ad.add (i * 8)).off + 6, none⟩ = some (.int .i64 e.f6) ∧ w'.cell? ⟨(ad.add (i * 8)).block, (ad.add (i * 8)).off + 7, none⟩ = some (.slice A8 e.f7.length c8) ∧ w'.cell? (ae.add (i * 8)) = some (.int .i64 f.f0) ∧ w'.cell? ⟨(ae.add (i * 8)).block, (ae.add (i * 8)).off + 1, none⟩ = some (.int .i64 f.f1) ∧ w'.cell? ⟨(ae.add (i * 8)).block, (ae.add (i * 8)).off + 2, none⟩ = some (.int .i64 f.f2) ∧ w'.cell? ⟨(ae.add (i * 8)).block, (ae.add (i * 8)).off + 3, none⟩ = some (.int .i64 f.f3) ∧ w'.cell? ⟨(ae.add (i * 8)).block, (ae.add (i * 8)).off + 4, none⟩ = some (.bool f.f4) ∧ w'.cell? ⟨(ae.add (i * 8)).block, (ae.add (i * 8)).off + 5, none⟩ = some (.int .i64 f.f5) ∧ w'.cell? ⟨(ae.add (i * 8)).block, (ae.add (i * 8)).off + 6, none⟩ = some (.int .i64 f.f6) ∧ w'.cell? ⟨(ae.add (i * 8)).block, (ae.add (i * 8)).off + 7, none⟩ = some (.slice A9 f.f7.length c9)) (ds := []) #[false, false, false, false, false, false, false, false, false, false, false, false] (by kernel_rfl) rfl rfl ⟨m0_.out, m1_.out, m2_.out, m3_.out, m4_.out, m5_.out, m6_.out, m7_.out, m8_.out, m9_.out, m10_.out, m11_.out, m12_.out, m13_.out, m14_.out, m15_.out, m16_.out, m17_.out⟩ (fun hHeld => ?_)
      refine pure_ (i := 0) (N := some 56) (v := ?_) (a' := ?_) #[true, false, false, false, false, false, false, false, false, false, false, false] rfl rfl (by kernel_rfl) (fun _ _ _ h => h) (Or.inl ⟨by rfl, ?_⟩) ?_ ?_
      rotate_left
      · intro w'
        go_simp
        with_reducible rfl
      rotate_left
      · simp only [Act.put, List.setIfInBounds_toArray, List.set_cons_zero, List.set_cons_succ, i64_w, i32_w]
        rfl
      refine pure_ (i := 2) (N := some 58) (v := ?_) (a' := ?_) #[true, false, true, false, false, false, false, false, false, false, false, false] rfl rfl (by kernel_rfl) (fun _ _ _ h => h) (Or.inl ⟨by rfl, ?_⟩) ?_ ?_
      rotate_left
      · intro w'
        go_simp
        with_reducible rfl
      rotate_left
      · simp only [Act.put, List.setIfInBounds_toArray, List.set_cons_zero, List.set_cons_succ, i64_w, i32_w]
        rfl
      refine pure_ (i := 5) (N := some 61) (v := ?_) (a' := ?_) #[true, false, true, false, false, true, false, false, false, false, false, false] rfl rfl (by kernel_rfl) (fun _ _ _ h => h) (Or.inl ⟨by rfl, ?_⟩) ?_ ?_
      rotate_left
      · intro w'
        go_simp
        with_reducible rfl
      rotate_left
      · simp only [Act.put, List.setIfInBounds_toArray, List.set_cons_zero, List.set_cons_succ, i64_w, i32_w]
        rfl
      refine pure_ (i := 7) (N := some 63) (v := ?_) (a' := ?_) #[true, false, true, false, false, true, false, true, false, false, false, false] rfl rfl (by kernel_rfl) (fun _ _ _ h => h) (Or.inl ⟨by rfl, ?_⟩) ?_ ?_
      rotate_left
      · intro w'
        go_simp
        with_reducible rfl
      rotate_left
      · simp only [Act.put, List.setIfInBounds_toArray, List.set_cons_zero, List.set_cons_succ, i64_w, i32_w]
        rfl
      refine take_ (i := 1) (N := some 57) (v := ?_) (a' := ?_) #[true, true, true, false, false, true, false, true, false, false, false, false] rfl rfl (by kernel_rfl) (fun _ _ _ h => h) (Or.inl ⟨by rfl, ?_⟩) hHeld ?_ ?_
      rotate_left
      · rintro w' ⟨s0, s1, s2, s3, s4, s5, s6, s7, s8, s9, s10, s11, s12, s13, s14, s15, s16, s17⟩
        go_simp
        with_reducible rfl
      rotate_left
      · simp only [Act.put, List.setIfInBounds_toArray, List.set_cons_zero, List.set_cons_succ, i64_w, i32_w]
        rfl
      refine pure_ (i := 3) (N := some 59) (v := ?_) (a' := ?_) #[true, true, true, true, false, true, false, true, false, false, false, false] rfl rfl (by kernel_rfl) (fun _ _ _ h => h) (Or.inl ⟨by rfl, ?_⟩) ?_ ?_
      rotate_left
      · intro w'
        go_simp
        with_reducible rfl
      rotate_left
      · simp only [Act.put, List.setIfInBounds_toArray, List.set_cons_zero, List.set_cons_succ, i64_w, i32_w]
        rfl
      refine take_ (i := 4) (N := some 60) (v := ?_) (a' := ?_) #[true, true, true, true, true, true, false, true, false, false, false, false] rfl rfl (by kernel_rfl) (fun _ _ _ h => h) (Or.inl ⟨by rfl, ?_⟩) hHeld ?_ ?_
      rotate_left
      · rintro w' ⟨s0, s1, s2, s3, s4, s5, s6, s7, s8, s9, s10, s11, s12, s13, s14, s15, s16, s17⟩
        go_simp
        with_reducible rfl
      rotate_left
      · simp only [Act.put, List.setIfInBounds_toArray, List.set_cons_zero, List.set_cons_succ, i64_w, i32_w]
        rfl
      refine take_ (i := 6) (N := some 62) (v := ?_) (a' := ?_) #[true, true, true, true, true, true, true, true, false, false, false, false] rfl rfl (by kernel_rfl) (fun _ _ _ h => h) (Or.inl ⟨by rfl, ?_⟩) hHeld ?_ ?_
      rotate_left
      · rintro w' ⟨s0, s1, s2, s3, s4, s5, s6, s7, s8, s9, s10, s11, s12, s13, s14, s15, s16, s17⟩
        go_simp
        with_reducible rfl
      rotate_left
      · simp only [Act.put, List.setIfInBounds_toArray, List.set_cons_zero, List.set_cons_succ, i64_w, i32_w]
        rfl
      refine pure_ (i := 8) (N := some 64) (v := ?_) (a' := ?_) #[true, true, true, true, true, true, true, true, true, false, false, false] rfl rfl (by kernel_rfl) (fun _ _ _ h => h) (Or.inl ⟨by rfl, ?_⟩) ?_ ?_
      rotate_left
      · intro w'
        go_simp
        with_reducible rfl
      rotate_left
      · simp only [Act.put, List.setIfInBounds_toArray, List.set_cons_zero, List.set_cons_succ, i64_w, i32_w]
        rfl
      refine take_ (i := 9) (N := some 65) (v := ?_) (a' := ?_) #[true, true, true, true, true, true, true, true, true, true, false, false] rfl rfl (by kernel_rfl) (fun _ _ _ h => h) (Or.inl ⟨by rfl, ?_⟩) hHeld ?_ ?_
      rotate_left
      · rintro w' ⟨s0, s1, s2, s3, s4, s5, s6, s7, s8, s9, s10, s11, s12, s13, s14, s15, s16, s17⟩
        go_simp
        with_reducible rfl
      rotate_left
      · simp only [Act.put, List.setIfInBounds_toArray, List.set_cons_zero, List.set_cons_succ, i64_w, i32_w]
        rfl
      refine one_ (i := 10) (N := some 66) #[true, true, true, true, true, true, true, true, true, true, true, false] rfl rfl (by kernel_rfl) (by decide) (fun K hK => ?_)
      refine goes_ Tryd.func17 (by kernel_rfl) rfl #[encP e A8 c8, encP f A9 c9] (by rfl) rfl rfl (by simp only [List.map_toArray, List.map_cons, List.map_nil]; rfl) ?_
      with_reducible refine (HI.out).mono ?_
      rintro e_ w6 ⟨rfl, hb6⟩
      refine ⟨_, rfl, ?_⟩
      refine hK.out _ _ ⟨cells_later hb6 hHeld.1, cells_later hb6 hHeld.2.1, cells_later hb6 hHeld.2.2.1, cells_later hb6 hHeld.2.2.2.1, cells_later hb6 hHeld.2.2.2.2.1, cells_later hb6 hHeld.2.2.2.2.2.1, cells_later hb6 hHeld.2.2.2.2.2.2.1, cells_later hb6 hHeld.2.2.2.2.2.2.2.1, cells_later hb6 hHeld.2.2.2.2.2.2.2.2.1, cells_later hb6 hHeld.2.2.2.2.2.2.2.2.2.1, cells_later hb6 hHeld.2.2.2.2.2.2.2.2.2.2.1, cells_later hb6 hHeld.2.2.2.2.2.2.2.2.2.2.2.1, cells_later hb6 hHeld.2.2.2.2.2.2.2.2.2.2.2.2.1, cells_later hb6 hHeld.2.2.2.2.2.2.2.2.2.2.2.2.2.1, cells_later hb6 hHeld.2.2.2.2.2.2.2.2.2.2.2.2.2.2.1, cells_later hb6 hHeld.2.2.2.2.2.2.2.2.2.2.2.2.2.2.2.1, cells_later hb6 hHeld.2.2.2.2.2.2.2.2.2.2.2.2.2.2.2.2.1, cells_later hb6 hHeld.2.2.2.2.2.2.2.2.2.2.2.2.2.2.2.2.2⟩ (fun hHeld => ?_)
      clear hK K
      refine norm_ (a' := ?_) ?_ ?_
      rotate_left
      · show Act.put _ (some 66) _ = _
        simp only [Act.put, List.setIfInBounds_toArray, List.set_cons_zero, List.set_cons_succ, i64_w, i32_w]
        rfl
      refine pure_ (i := 11) (N := some 6) (v := ?_) (a' := ?_) #[true, true, true, true, true, true, true, true, true, true, true, true] rfl rfl (by kernel_rfl) (fun _ _ _ h => h) (Or.inl ⟨by rfl, ?_⟩) ?_ ?_
      rotate_left
      · intro w'
        go_simp
        with_reducible rfl
      rotate_left
      · simp only [Act.put, List.setIfInBounds_toArray, List.set_cons_zero, List.set_cons_succ, i64_w, i32_w]
        rfl
      refine done_ (by kernel_rfl) ?_
      have HB6 := Aside0.mk (bst (below_drew HB5.out) hb6)
      have BP6 := Aside0.mk ((hb6.block gp (blk_lt (blk_drew BP5.out))).trans (blk_drew BP5.out))
      have BQ6 := Aside0.mk ((hb6.block gq (blk_lt (blk_drew BQ5.out))).trans (blk_drew BQ5.out))
      clear hb6
      rcases r with _ | _
      · have HR := Aside0.mk (HF.out rfl)
        clear HF HT
        go_wp2_with fail
        go_ret
        rw [HR.out]
        exact ⟨rfl, HB6.out⟩
      · have HT2 := Aside0.mk (HT.out rfl)
        clear HF HT
        go_wp2_with fail
        go_roundw
        case rel => exact ⟨i + 1, by omega, by go_num, HT2, HB6, BP6, BQ6⟩
        case measure => first | exact meas_ hlt | (rw [hwi]; exact meas_ hlt)
    · have hle : p.f7.length ≤ i := by omega
      have HR : Aside0 (alikeX p q = true) := ⟨HL.out.2.2 (fun j h h' => HA.out j h h' (by omega))⟩
      go_wp2
      go_ret
      rw [HR.out]
      exact ⟨rfl, HB5.out⟩
set_option maxRecDepth 8000 in
set_option maxHeartbeats 16000000 in
theorem texts_row (W : World) (b : BV) (L : List S46) (At : Option Addr) (ct : Nat) (T : List Int) (p : S34) (A : Option Addr) (c : Nat) (q : S34) (A' : Option Addr) (c' : Nat) (htab : Lib.TabIs Tryd.prog W "internal/strconv.uint64pow10" .u64 Lib.pow10Tab) (hn : b.n4 = L.length) (hL : k46.C W b.A4 b.n4 L) (hT : (Kd.int .i64).C W At T.length T) (hct : T.length ≤ ct) (wT : (∀ y ∈ T, (Lit.int .i64 y).wf = true) ∧ T.length * 8 ≤ 140737488351232 ∧ T.length ≤ maxLen) (hC : k34.C W A p.f7.length p.f7) (wp : numsP I64 p) (hD : k34.C W A' q.f7.length q.f7) (wq : numsP I64 q) :
    Calls Tryd.prog 5 #[b.enc, .slice At T.length ct, encP p A c, encP q A' c'] W fun e_ w' => e_ = .returned (.bool true) ∧ Below W.heap.size W w' := by
  have HN := Aside0.mk hn
  have HLc := Aside0.mk hL
  have HT := Aside0.mk hT
  have HC := Aside0.mk hC
  have HD := Aside0.mk hD
  have HQ := Aside0.mk (tab_HQ htab)
  have HWP := Aside0.mk wp
  have HWQ := Aside0.mk wq
  clear hn hL hT hct wT hC wp hD wq htab
  have hu34 := Tryd.underlying34
  have hu26 := Tryd.underlying26
  have HRP : Aside0 (∀ (x : S34) (A8 : Option Addr) (c8 : Nat) (r : Bool), k34.C W A8 x.f7.length x.f7 → rightP b.n0 b.core L T x = r → ∀ w', Below W.heap.size W w' → Calls Tryd.prog 14 #[b.enc, .slice At T.length ct, encP x A8 c8] w' fun e_ w'' => e_ = .returned (.bool r) ∧ Below w'.heap.size w' w'') := ⟨fun x A8 c8 r hx hr w' hb => by rw [← hr]; exact right14 b L At ct T x A8 c8 w' HN.out (Kd.C_below HLc.out hb) (Kd.C_below HT.out hb) (Kd.C_below hx hb)⟩
  have H17 : Aside0 (∀ w', Below W.heap.size W w' → Calls Tryd.prog 17 #[encP p A c, encP q A' c'] w' fun e_ w'' => e_ = .returned (.bool (alikeX p q)) ∧ Below w'.heap.size w' w'') := ⟨fun w' hb => alike17 p w' q A c A' c' (Kd.C_below HC.out hb) (Kd.C_below HD.out hb)⟩
  have G17 : Aside0 (∀ w', Below W.heap.size W w' → Calls Tryd.prog 17 #[encP p A c, encP p A c] w' fun e_ w'' => e_ = .returned (.bool true) ∧ Below w'.heap.size w' w'') := ⟨fun w' hb => by have h := alike17 p w' p A c A c (Kd.C_below HC.out hb) (Kd.C_below HC.out hb); rw [alike_self p] at h; exact h⟩
  obtain ⟨r, hr⟩ : ∃ r, r = rightP b.n0 b.core L T p := ⟨_, rfl⟩
  have H14 := Aside0.mk (HRP.out p A c r HC.out hr.symm)
  obtain ⟨s, hs⟩ : ∃ r, r = rightP b.n0 b.core L T q := ⟨_, rfl⟩
  have G14 := Aside0.mk (HRP.out q A' c' s HD.out hs.symm)
  clear HRP
  unfold BV.enc at H14 G14 ⊢
  rcases r with _ | _
  · clear hr hs
    go_enter Tryd.func5, Tryd.ntmps5
    go_wp2_with (first | ((with_reducible refine gate_dst (N := 4) rfl ?_); refine box_event ?hg (N := 4) ?hd (cs := b.cells) (t := 26) ?hr ?_; (case hd => rfl); (case hg => rfl); (case hr => unfold BV.cells; first | (go_simp; done) | (go_simp; rfl)); intro gb hg1 w1 hbox hb; have BB1 := Aside0.mk hbox; have HB1 := Aside0.mk hb; clear hbox hb hg1) | ((with_reducible refine gate_dst (N := 6) rfl ?_); refine box_event ?hg (N := 6) ?hd (cs := cellsP p (.slice A p.f7.length c)) (t := 34) ?hr ?_; (case hd => rfl); (case hg => rfl); (case hr => unfold cellsP encP; first | (go_simp; done) | (go_simp; rfl)); intro gp hg1 w2 hbox hb; have BP2 := Aside0.mk hbox; have HB2 := Aside0.mk (bst HB1.out hb); have BB2 := Aside0.mk ((hb.block gb (blk_lt BB1.out)).trans BB1.out); clear hbox hb hg1) | ((with_reducible refine gate_dst (N := 7) rfl ?_); refine box_event ?hg (N := 7) ?hd (cs := cellsP q (.slice A' q.f7.length c')) (t := 34) ?hr ?_; (case hd => rfl); (case hg => rfl); (case hr => unfold cellsP encP; first | (go_simp; done) | (go_simp; rfl)); intro gq hg1 w3 hbox hb; have BQ3a := Aside0.mk hbox; have HB3a := Aside0.mk (bst HB2.out hb); have BB3a := Aside0.mk ((hb.block gb (blk_lt BB2.out)).trans BB2.out); have BP3a := Aside0.mk ((hb.block gp (blk_lt BP2.out)).trans BP2.out); clear hbox hb hg1) | (go_at_call 9; refine (examples9 _).mono ?_; rintro e_ w3b ⟨rfl, hb3⟩; have HB3 := Aside0.mk (bst HB3a.out hb3); have BB3 := Aside0.mk ((hb3.block gb (blk_lt BB3a.out)).trans BB3a.out); have BP3 := Aside0.mk ((hb3.block gp (blk_lt BP3a.out)).trans BP3a.out); have BQ3 := Aside0.mk ((hb3.block gq (blk_lt BQ3a.out)).trans BQ3a.out); clear hb3; have k0 := (blk_cell BP3.out 0).trans (rfl : _ = some (Value.int .i64 p.f0)); have k1 := (blk_cell BP3.out 1).trans (rfl : _ = some (Value.int .i64 p.f1)); have k2 := (blk_cell BP3.out 2).trans (rfl : _ = some (Value.int .i64 p.f2)); have k3 := (blk_cell BP3.out 3).trans (rfl : _ = some (Value.int .i64 p.f3)); have k4 := (blk_cell BP3.out 4).trans (rfl : _ = some (Value.bool p.f4)); have k5 := (blk_cell BP3.out 5).trans (rfl : _ = some (Value.int .i64 p.f5)); have k6 := (blk_cell BP3.out 6).trans (rfl : _ = some (Value.int .i64 p.f6)); have k7 := (blk_cell BP3.out 7).trans (rfl : _ = some (Value.slice A p.f7.length c)); have b0 := (blk_cell BB3.out 0).trans (rfl : _ = some (Value.slice b.A0 b.n0 b.c0)); have b1 := (blk_cell BB3.out 1).trans (rfl : _ = some (Value.int .i64 b.core)); have b2 := (blk_cell BB3.out 2).trans (rfl : _ = some (Value.slice b.A2 b.n2 b.c2)); have b3 := (blk_cell BB3.out 3).trans (rfl : _ = some (Value.slice b.A3 b.n3 b.c3)); have b4 := (blk_cell BB3.out 4).trans (rfl : _ = some (Value.slice b.A4 b.n4 b.c4)); have b5 := (blk_cell BB3.out 5).trans (rfl : _ = some (Value.slice b.A5 b.n5 b.c5)); have b6 := (blk_cell BB3.out 6).trans (rfl : _ = some (Value.slice b.A6 b.n6 b.c6)); have b7 := (blk_cell BB3.out 7).trans (rfl : _ = some (Value.bool b.g7)); have b8 := (blk_cell BB3.out 8).trans (rfl : _ = some (Value.slice b.A8 b.n8 b.c8)); have b9 := (blk_cell BB3.out 9).trans (rfl : _ = some (Value.slice b.A9 b.n9 b.c9)); have b10 := (blk_cell BB3.out 10).trans (rfl : _ = some (Value.bool b.d10))) | (go_at_call 14; refine (H14.out _ HB3.out).mono ?_; clear H14; rintro e_ w4 ⟨rfl, hb4⟩; have HB4 := Aside0.mk (bst HB3.out hb4); have BB4 := Aside0.mk ((hb4.block gb (blk_lt BB3.out)).trans BB3.out); have BP4 := Aside0.mk ((hb4.block gp (blk_lt BP3.out)).trans BP3.out); have BQ4 := Aside0.mk ((hb4.block gq (blk_lt BQ3.out)).trans BQ3.out); clear hb4 k0 k1 k2 k3 k4 k5 k6 k7 b0 b1 b2 b3 b4 b5 b6 b7 b8 b9 b10; have j0 := (blk_cell BQ4.out 0).trans (rfl : _ = some (Value.int .i64 q.f0)); have j1 := (blk_cell BQ4.out 1).trans (rfl : _ = some (Value.int .i64 q.f1)); have j2 := (blk_cell BQ4.out 2).trans (rfl : _ = some (Value.int .i64 q.f2)); have j3 := (blk_cell BQ4.out 3).trans (rfl : _ = some (Value.int .i64 q.f3)); have j4 := (blk_cell BQ4.out 4).trans (rfl : _ = some (Value.bool q.f4)); have j5 := (blk_cell BQ4.out 5).trans (rfl : _ = some (Value.int .i64 q.f5)); have j6 := (blk_cell BQ4.out 6).trans (rfl : _ = some (Value.int .i64 q.f6)); have j7 := (blk_cell BQ4.out 7).trans (rfl : _ = some (Value.slice A' q.f7.length c')); have b0 := (blk_cell BB4.out 0).trans (rfl : _ = some (Value.slice b.A0 b.n0 b.c0)); have b1 := (blk_cell BB4.out 1).trans (rfl : _ = some (Value.int .i64 b.core)); have b2 := (blk_cell BB4.out 2).trans (rfl : _ = some (Value.slice b.A2 b.n2 b.c2)); have b3 := (blk_cell BB4.out 3).trans (rfl : _ = some (Value.slice b.A3 b.n3 b.c3)); have b4 := (blk_cell BB4.out 4).trans (rfl : _ = some (Value.slice b.A4 b.n4 b.c4)); have b5 := (blk_cell BB4.out 5).trans (rfl : _ = some (Value.slice b.A5 b.n5 b.c5)); have b6 := (blk_cell BB4.out 6).trans (rfl : _ = some (Value.slice b.A6 b.n6 b.c6)); have b7 := (blk_cell BB4.out 7).trans (rfl : _ = some (Value.bool b.g7)); have b8 := (blk_cell BB4.out 8).trans (rfl : _ = some (Value.slice b.A8 b.n8 b.c8)); have b9 := (blk_cell BB4.out 9).trans (rfl : _ = some (Value.slice b.A9 b.n9 b.c9)); have b10 := (blk_cell BB4.out 10).trans (rfl : _ = some (Value.bool b.d10))))
    go_ret
    exact ⟨rfl, HB4.out⟩
  rcases s with _ | _
  · clear hr hs
    go_enter Tryd.func5, Tryd.ntmps5
    go_wp2_with (first | ((with_reducible refine gate_dst (N := 4) rfl ?_); refine box_event ?hg (N := 4) ?hd (cs := b.cells) (t := 26) ?hr ?_; (case hd => rfl); (case hg => rfl); (case hr => unfold BV.cells; first | (go_simp; done) | (go_simp; rfl)); intro gb hg1 w1 hbox hb; have BB1 := Aside0.mk hbox; have HB1 := Aside0.mk hb; clear hbox hb hg1) | ((with_reducible refine gate_dst (N := 6) rfl ?_); refine box_event ?hg (N := 6) ?hd (cs := cellsP p (.slice A p.f7.length c)) (t := 34) ?hr ?_; (case hd => rfl); (case hg => rfl); (case hr => unfold cellsP encP; first | (go_simp; done) | (go_simp; rfl)); intro gp hg1 w2 hbox hb; have BP2 := Aside0.mk hbox; have HB2 := Aside0.mk (bst HB1.out hb); have BB2 := Aside0.mk ((hb.block gb (blk_lt BB1.out)).trans BB1.out); clear hbox hb hg1) | ((with_reducible refine gate_dst (N := 7) rfl ?_); refine box_event ?hg (N := 7) ?hd (cs := cellsP q (.slice A' q.f7.length c')) (t := 34) ?hr ?_; (case hd => rfl); (case hg => rfl); (case hr => unfold cellsP encP; first | (go_simp; done) | (go_simp; rfl)); intro gq hg1 w3 hbox hb; have BQ3a := Aside0.mk hbox; have HB3a := Aside0.mk (bst HB2.out hb); have BB3a := Aside0.mk ((hb.block gb (blk_lt BB2.out)).trans BB2.out); have BP3a := Aside0.mk ((hb.block gp (blk_lt BP2.out)).trans BP2.out); clear hbox hb hg1) | (go_at_call 9; refine (examples9 _).mono ?_; rintro e_ w3b ⟨rfl, hb3⟩; have HB3 := Aside0.mk (bst HB3a.out hb3); have BB3 := Aside0.mk ((hb3.block gb (blk_lt BB3a.out)).trans BB3a.out); have BP3 := Aside0.mk ((hb3.block gp (blk_lt BP3a.out)).trans BP3a.out); have BQ3 := Aside0.mk ((hb3.block gq (blk_lt BQ3a.out)).trans BQ3a.out); clear hb3; have k0 := (blk_cell BP3.out 0).trans (rfl : _ = some (Value.int .i64 p.f0)); have k1 := (blk_cell BP3.out 1).trans (rfl : _ = some (Value.int .i64 p.f1)); have k2 := (blk_cell BP3.out 2).trans (rfl : _ = some (Value.int .i64 p.f2)); have k3 := (blk_cell BP3.out 3).trans (rfl : _ = some (Value.int .i64 p.f3)); have k4 := (blk_cell BP3.out 4).trans (rfl : _ = some (Value.bool p.f4)); have k5 := (blk_cell BP3.out 5).trans (rfl : _ = some (Value.int .i64 p.f5)); have k6 := (blk_cell BP3.out 6).trans (rfl : _ = some (Value.int .i64 p.f6)); have k7 := (blk_cell BP3.out 7).trans (rfl : _ = some (Value.slice A p.f7.length c)); have b0 := (blk_cell BB3.out 0).trans (rfl : _ = some (Value.slice b.A0 b.n0 b.c0)); have b1 := (blk_cell BB3.out 1).trans (rfl : _ = some (Value.int .i64 b.core)); have b2 := (blk_cell BB3.out 2).trans (rfl : _ = some (Value.slice b.A2 b.n2 b.c2)); have b3 := (blk_cell BB3.out 3).trans (rfl : _ = some (Value.slice b.A3 b.n3 b.c3)); have b4 := (blk_cell BB3.out 4).trans (rfl : _ = some (Value.slice b.A4 b.n4 b.c4)); have b5 := (blk_cell BB3.out 5).trans (rfl : _ = some (Value.slice b.A5 b.n5 b.c5)); have b6 := (blk_cell BB3.out 6).trans (rfl : _ = some (Value.slice b.A6 b.n6 b.c6)); have b7 := (blk_cell BB3.out 7).trans (rfl : _ = some (Value.bool b.g7)); have b8 := (blk_cell BB3.out 8).trans (rfl : _ = some (Value.slice b.A8 b.n8 b.c8)); have b9 := (blk_cell BB3.out 9).trans (rfl : _ = some (Value.slice b.A9 b.n9 b.c9)); have b10 := (blk_cell BB3.out 10).trans (rfl : _ = some (Value.bool b.d10))) | (go_at_call 14; refine (H14.out _ HB3.out).mono ?_; clear H14; rintro e_ w4 ⟨rfl, hb4⟩; have HB4 := Aside0.mk (bst HB3.out hb4); have BB4 := Aside0.mk ((hb4.block gb (blk_lt BB3.out)).trans BB3.out); have BP4 := Aside0.mk ((hb4.block gp (blk_lt BP3.out)).trans BP3.out); have BQ4 := Aside0.mk ((hb4.block gq (blk_lt BQ3.out)).trans BQ3.out); clear hb4 k0 k1 k2 k3 k4 k5 k6 k7 b0 b1 b2 b3 b4 b5 b6 b7 b8 b9 b10; have j0 := (blk_cell BQ4.out 0).trans (rfl : _ = some (Value.int .i64 q.f0)); have j1 := (blk_cell BQ4.out 1).trans (rfl : _ = some (Value.int .i64 q.f1)); have j2 := (blk_cell BQ4.out 2).trans (rfl : _ = some (Value.int .i64 q.f2)); have j3 := (blk_cell BQ4.out 3).trans (rfl : _ = some (Value.int .i64 q.f3)); have j4 := (blk_cell BQ4.out 4).trans (rfl : _ = some (Value.bool q.f4)); have j5 := (blk_cell BQ4.out 5).trans (rfl : _ = some (Value.int .i64 q.f5)); have j6 := (blk_cell BQ4.out 6).trans (rfl : _ = some (Value.int .i64 q.f6)); have j7 := (blk_cell BQ4.out 7).trans (rfl : _ = some (Value.slice A' q.f7.length c')); have b0 := (blk_cell BB4.out 0).trans (rfl : _ = some (Value.slice b.A0 b.n0 b.c0)); have b1 := (blk_cell BB4.out 1).trans (rfl : _ = some (Value.int .i64 b.core)); have b2 := (blk_cell BB4.out 2).trans (rfl : _ = some (Value.slice b.A2 b.n2 b.c2)); have b3 := (blk_cell BB4.out 3).trans (rfl : _ = some (Value.slice b.A3 b.n3 b.c3)); have b4 := (blk_cell BB4.out 4).trans (rfl : _ = some (Value.slice b.A4 b.n4 b.c4)); have b5 := (blk_cell BB4.out 5).trans (rfl : _ = some (Value.slice b.A5 b.n5 b.c5)); have b6 := (blk_cell BB4.out 6).trans (rfl : _ = some (Value.slice b.A6 b.n6 b.c6)); have b7 := (blk_cell BB4.out 7).trans (rfl : _ = some (Value.bool b.g7)); have b8 := (blk_cell BB4.out 8).trans (rfl : _ = some (Value.slice b.A8 b.n8 b.c8)); have b9 := (blk_cell BB4.out 9).trans (rfl : _ = some (Value.slice b.A9 b.n9 b.c9)); have b10 := (blk_cell BB4.out 10).trans (rfl : _ = some (Value.bool b.d10))) | (go_at_call 14; refine (G14.out _ HB4.out).mono ?_; rintro e_ w5 ⟨rfl, hb5⟩; have HB5 := Aside0.mk (bst HB4.out hb5); have BB5 := Aside0.mk ((hb5.block gb (blk_lt BB4.out)).trans BB4.out); have BP5 := Aside0.mk ((hb5.block gp (blk_lt BP4.out)).trans BP4.out); have BQ5 := Aside0.mk ((hb5.block gq (blk_lt BQ4.out)).trans BQ4.out); clear hb5 j0 j1 j2 j3 j4 j5 j6 j7 b0 b1 b2 b3 b4 b5 b6 b7 b8 b9 b10; have k0 := (blk_cell BP5.out 0).trans (rfl : _ = some (Value.int .i64 p.f0)); have k1 := (blk_cell BP5.out 1).trans (rfl : _ = some (Value.int .i64 p.f1)); have k2 := (blk_cell BP5.out 2).trans (rfl : _ = some (Value.int .i64 p.f2)); have k3 := (blk_cell BP5.out 3).trans (rfl : _ = some (Value.int .i64 p.f3)); have k4 := (blk_cell BP5.out 4).trans (rfl : _ = some (Value.bool p.f4)); have k5 := (blk_cell BP5.out 5).trans (rfl : _ = some (Value.int .i64 p.f5)); have k6 := (blk_cell BP5.out 6).trans (rfl : _ = some (Value.int .i64 p.f6)); have k7 := (blk_cell BP5.out 7).trans (rfl : _ = some (Value.slice A p.f7.length c)); have j0 := (blk_cell BQ5.out 0).trans (rfl : _ = some (Value.int .i64 q.f0)); have j1 := (blk_cell BQ5.out 1).trans (rfl : _ = some (Value.int .i64 q.f1)); have j2 := (blk_cell BQ5.out 2).trans (rfl : _ = some (Value.int .i64 q.f2)); have j3 := (blk_cell BQ5.out 3).trans (rfl : _ = some (Value.int .i64 q.f3)); have j4 := (blk_cell BQ5.out 4).trans (rfl : _ = some (Value.bool q.f4)); have j5 := (blk_cell BQ5.out 5).trans (rfl : _ = some (Value.int .i64 q.f5)); have j6 := (blk_cell BQ5.out 6).trans (rfl : _ = some (Value.int .i64 q.f6)); have j7 := (blk_cell BQ5.out 7).trans (rfl : _ = some (Value.slice A' q.f7.length c'))))
    go_ret
    exact ⟨rfl, HB5.out⟩
  · have HX := Aside0.mk (texts_law hr.symm hs.symm)
    have H18 : Aside0 (∀ w', Below W.heap.size W w' → Calls Tryd.prog 18 #[encP p A c] w' fun e_ w'' => e_ = .returned (.string ⟨(textX p).toArray⟩) ∧ Below w'.heap.size w' w'') := ⟨fun w' hb => text18 p A c w' (HQ_below HQ.out hb) HWP.out (right_len hr.symm HWP.out) (Kd.C_below HC.out hb)⟩
    have G18 : Aside0 (∀ w', Below W.heap.size W w' → Calls Tryd.prog 18 #[encP q A' c'] w' fun e_ w'' => e_ = .returned (.string ⟨(textX q).toArray⟩) ∧ Below w'.heap.size w' w'') := ⟨fun w' hb => text18 q A' c' w' (HQ_below HQ.out hb) HWQ.out (right_len hs.symm HWQ.out) (Kd.C_below HD.out hb)⟩
    clear hr hs HQ HWP HWQ
    generalize alikeX p q = al at *
    generalize textX p = tp at *
    generalize textX q = tq at *
    go_enter Tryd.func5, Tryd.ntmps5
    go_wp2_with (first | ((with_reducible refine gate_dst (N := 4) rfl ?_); refine box_event ?hg (N := 4) ?hd (cs := b.cells) (t := 26) ?hr ?_; (case hd => rfl); (case hg => rfl); (case hr => unfold BV.cells; first | (go_simp; done) | (go_simp; rfl)); intro gb hg1 w1 hbox hb; have BB1 := Aside0.mk hbox; have HB1 := Aside0.mk hb; clear hbox hb hg1) | ((with_reducible refine gate_dst (N := 6) rfl ?_); refine box_event ?hg (N := 6) ?hd (cs := cellsP p (.slice A p.f7.length c)) (t := 34) ?hr ?_; (case hd => rfl); (case hg => rfl); (case hr => unfold cellsP encP; first | (go_simp; done) | (go_simp; rfl)); intro gp hg1 w2 hbox hb; have BP2 := Aside0.mk hbox; have HB2 := Aside0.mk (bst HB1.out hb); have BB2 := Aside0.mk ((hb.block gb (blk_lt BB1.out)).trans BB1.out); clear hbox hb hg1) | ((with_reducible refine gate_dst (N := 7) rfl ?_); refine box_event ?hg (N := 7) ?hd (cs := cellsP q (.slice A' q.f7.length c')) (t := 34) ?hr ?_; (case hd => rfl); (case hg => rfl); (case hr => unfold cellsP encP; first | (go_simp; done) | (go_simp; rfl)); intro gq hg1 w3 hbox hb; have BQ3a := Aside0.mk hbox; have HB3a := Aside0.mk (bst HB2.out hb); have BB3a := Aside0.mk ((hb.block gb (blk_lt BB2.out)).trans BB2.out); have BP3a := Aside0.mk ((hb.block gp (blk_lt BP2.out)).trans BP2.out); clear hbox hb hg1) | (go_at_call 9; refine (examples9 _).mono ?_; rintro e_ w3b ⟨rfl, hb3⟩; have HB3 := Aside0.mk (bst HB3a.out hb3); have BB3 := Aside0.mk ((hb3.block gb (blk_lt BB3a.out)).trans BB3a.out); have BP3 := Aside0.mk ((hb3.block gp (blk_lt BP3a.out)).trans BP3a.out); have BQ3 := Aside0.mk ((hb3.block gq (blk_lt BQ3a.out)).trans BQ3a.out); clear hb3; have k0 := (blk_cell BP3.out 0).trans (rfl : _ = some (Value.int .i64 p.f0)); have k1 := (blk_cell BP3.out 1).trans (rfl : _ = some (Value.int .i64 p.f1)); have k2 := (blk_cell BP3.out 2).trans (rfl : _ = some (Value.int .i64 p.f2)); have k3 := (blk_cell BP3.out 3).trans (rfl : _ = some (Value.int .i64 p.f3)); have k4 := (blk_cell BP3.out 4).trans (rfl : _ = some (Value.bool p.f4)); have k5 := (blk_cell BP3.out 5).trans (rfl : _ = some (Value.int .i64 p.f5)); have k6 := (blk_cell BP3.out 6).trans (rfl : _ = some (Value.int .i64 p.f6)); have k7 := (blk_cell BP3.out 7).trans (rfl : _ = some (Value.slice A p.f7.length c)); have b0 := (blk_cell BB3.out 0).trans (rfl : _ = some (Value.slice b.A0 b.n0 b.c0)); have b1 := (blk_cell BB3.out 1).trans (rfl : _ = some (Value.int .i64 b.core)); have b2 := (blk_cell BB3.out 2).trans (rfl : _ = some (Value.slice b.A2 b.n2 b.c2)); have b3 := (blk_cell BB3.out 3).trans (rfl : _ = some (Value.slice b.A3 b.n3 b.c3)); have b4 := (blk_cell BB3.out 4).trans (rfl : _ = some (Value.slice b.A4 b.n4 b.c4)); have b5 := (blk_cell BB3.out 5).trans (rfl : _ = some (Value.slice b.A5 b.n5 b.c5)); have b6 := (blk_cell BB3.out 6).trans (rfl : _ = some (Value.slice b.A6 b.n6 b.c6)); have b7 := (blk_cell BB3.out 7).trans (rfl : _ = some (Value.bool b.g7)); have b8 := (blk_cell BB3.out 8).trans (rfl : _ = some (Value.slice b.A8 b.n8 b.c8)); have b9 := (blk_cell BB3.out 9).trans (rfl : _ = some (Value.slice b.A9 b.n9 b.c9)); have b10 := (blk_cell BB3.out 10).trans (rfl : _ = some (Value.bool b.d10))) | (go_at_call 14; refine (H14.out _ HB3.out).mono ?_; clear H14; rintro e_ w4 ⟨rfl, hb4⟩; have HB4 := Aside0.mk (bst HB3.out hb4); have BB4 := Aside0.mk ((hb4.block gb (blk_lt BB3.out)).trans BB3.out); have BP4 := Aside0.mk ((hb4.block gp (blk_lt BP3.out)).trans BP3.out); have BQ4 := Aside0.mk ((hb4.block gq (blk_lt BQ3.out)).trans BQ3.out); clear hb4 k0 k1 k2 k3 k4 k5 k6 k7 b0 b1 b2 b3 b4 b5 b6 b7 b8 b9 b10; have j0 := (blk_cell BQ4.out 0).trans (rfl : _ = some (Value.int .i64 q.f0)); have j1 := (blk_cell BQ4.out 1).trans (rfl : _ = some (Value.int .i64 q.f1)); have j2 := (blk_cell BQ4.out 2).trans (rfl : _ = some (Value.int .i64 q.f2)); have j3 := (blk_cell BQ4.out 3).trans (rfl : _ = some (Value.int .i64 q.f3)); have j4 := (blk_cell BQ4.out 4).trans (rfl : _ = some (Value.bool q.f4)); have j5 := (blk_cell BQ4.out 5).trans (rfl : _ = some (Value.int .i64 q.f5)); have j6 := (blk_cell BQ4.out 6).trans (rfl : _ = some (Value.int .i64 q.f6)); have j7 := (blk_cell BQ4.out 7).trans (rfl : _ = some (Value.slice A' q.f7.length c')); have b0 := (blk_cell BB4.out 0).trans (rfl : _ = some (Value.slice b.A0 b.n0 b.c0)); have b1 := (blk_cell BB4.out 1).trans (rfl : _ = some (Value.int .i64 b.core)); have b2 := (blk_cell BB4.out 2).trans (rfl : _ = some (Value.slice b.A2 b.n2 b.c2)); have b3 := (blk_cell BB4.out 3).trans (rfl : _ = some (Value.slice b.A3 b.n3 b.c3)); have b4 := (blk_cell BB4.out 4).trans (rfl : _ = some (Value.slice b.A4 b.n4 b.c4)); have b5 := (blk_cell BB4.out 5).trans (rfl : _ = some (Value.slice b.A5 b.n5 b.c5)); have b6 := (blk_cell BB4.out 6).trans (rfl : _ = some (Value.slice b.A6 b.n6 b.c6)); have b7 := (blk_cell BB4.out 7).trans (rfl : _ = some (Value.bool b.g7)); have b8 := (blk_cell BB4.out 8).trans (rfl : _ = some (Value.slice b.A8 b.n8 b.c8)); have b9 := (blk_cell BB4.out 9).trans (rfl : _ = some (Value.slice b.A9 b.n9 b.c9)); have b10 := (blk_cell BB4.out 10).trans (rfl : _ = some (Value.bool b.d10))) | (go_at_call 14; refine (G14.out _ HB4.out).mono ?_; rintro e_ w5 ⟨rfl, hb5⟩; have HB5 := Aside0.mk (bst HB4.out hb5); have BB5 := Aside0.mk ((hb5.block gb (blk_lt BB4.out)).trans BB4.out); have BP5 := Aside0.mk ((hb5.block gp (blk_lt BP4.out)).trans BP4.out); have BQ5 := Aside0.mk ((hb5.block gq (blk_lt BQ4.out)).trans BQ4.out); clear hb5 j0 j1 j2 j3 j4 j5 j6 j7 b0 b1 b2 b3 b4 b5 b6 b7 b8 b9 b10; have k0 := (blk_cell BP5.out 0).trans (rfl : _ = some (Value.int .i64 p.f0)); have k1 := (blk_cell BP5.out 1).trans (rfl : _ = some (Value.int .i64 p.f1)); have k2 := (blk_cell BP5.out 2).trans (rfl : _ = some (Value.int .i64 p.f2)); have k3 := (blk_cell BP5.out 3).trans (rfl : _ = some (Value.int .i64 p.f3)); have k4 := (blk_cell BP5.out 4).trans (rfl : _ = some (Value.bool p.f4)); have k5 := (blk_cell BP5.out 5).trans (rfl : _ = some (Value.int .i64 p.f5)); have k6 := (blk_cell BP5.out 6).trans (rfl : _ = some (Value.int .i64 p.f6)); have k7 := (blk_cell BP5.out 7).trans (rfl : _ = some (Value.slice A p.f7.length c)); have j0 := (blk_cell BQ5.out 0).trans (rfl : _ = some (Value.int .i64 q.f0)); have j1 := (blk_cell BQ5.out 1).trans (rfl : _ = some (Value.int .i64 q.f1)); have j2 := (blk_cell BQ5.out 2).trans (rfl : _ = some (Value.int .i64 q.f2)); have j3 := (blk_cell BQ5.out 3).trans (rfl : _ = some (Value.int .i64 q.f3)); have j4 := (blk_cell BQ5.out 4).trans (rfl : _ = some (Value.bool q.f4)); have j5 := (blk_cell BQ5.out 5).trans (rfl : _ = some (Value.int .i64 q.f5)); have j6 := (blk_cell BQ5.out 6).trans (rfl : _ = some (Value.int .i64 q.f6)); have j7 := (blk_cell BQ5.out 7).trans (rfl : _ = some (Value.slice A' q.f7.length c'))) | (go_at_call 17; refine (H17.out _ HB5.out).mono ?_; clear H17; rintro e_ w6 ⟨rfl, hb6⟩; have HB6 := Aside0.mk (bst HB5.out hb6); have BB6 := Aside0.mk ((hb6.block gb (blk_lt BB5.out)).trans BB5.out); have BP6 := Aside0.mk ((hb6.block gp (blk_lt BP5.out)).trans BP5.out); have BQ6 := Aside0.mk ((hb6.block gq (blk_lt BQ5.out)).trans BQ5.out); clear hb6 k0 k1 k2 k3 k4 k5 k6 k7 j0 j1 j2 j3 j4 j5 j6 j7; have k0 := (blk_cell BP6.out 0).trans (rfl : _ = some (Value.int .i64 p.f0)); have k1 := (blk_cell BP6.out 1).trans (rfl : _ = some (Value.int .i64 p.f1)); have k2 := (blk_cell BP6.out 2).trans (rfl : _ = some (Value.int .i64 p.f2)); have k3 := (blk_cell BP6.out 3).trans (rfl : _ = some (Value.int .i64 p.f3)); have k4 := (blk_cell BP6.out 4).trans (rfl : _ = some (Value.bool p.f4)); have k5 := (blk_cell BP6.out 5).trans (rfl : _ = some (Value.int .i64 p.f5)); have k6 := (blk_cell BP6.out 6).trans (rfl : _ = some (Value.int .i64 p.f6)); have k7 := (blk_cell BP6.out 7).trans (rfl : _ = some (Value.slice A p.f7.length c))) | (go_at_call 17; refine (G17.out _ HB6.out).mono ?_; clear G17; rintro e_ w7 ⟨rfl, hb7⟩; have HB7 := Aside0.mk (bst HB6.out hb7); have BB7 := Aside0.mk ((hb7.block gb (blk_lt BB6.out)).trans BB6.out); have BP7 := Aside0.mk ((hb7.block gp (blk_lt BP6.out)).trans BP6.out); have BQ7 := Aside0.mk ((hb7.block gq (blk_lt BQ6.out)).trans BQ6.out); clear hb7 k0 k1 k2 k3 k4 k5 k6 k7; have k0 := (blk_cell BP7.out 0).trans (rfl : _ = some (Value.int .i64 p.f0)); have k1 := (blk_cell BP7.out 1).trans (rfl : _ = some (Value.int .i64 p.f1)); have k2 := (blk_cell BP7.out 2).trans (rfl : _ = some (Value.int .i64 p.f2)); have k3 := (blk_cell BP7.out 3).trans (rfl : _ = some (Value.int .i64 p.f3)); have k4 := (blk_cell BP7.out 4).trans (rfl : _ = some (Value.bool p.f4)); have k5 := (blk_cell BP7.out 5).trans (rfl : _ = some (Value.int .i64 p.f5)); have k6 := (blk_cell BP7.out 6).trans (rfl : _ = some (Value.int .i64 p.f6)); have k7 := (blk_cell BP7.out 7).trans (rfl : _ = some (Value.slice A p.f7.length c)); have j0 := (blk_cell BQ7.out 0).trans (rfl : _ = some (Value.int .i64 q.f0)); have j1 := (blk_cell BQ7.out 1).trans (rfl : _ = some (Value.int .i64 q.f1)); have j2 := (blk_cell BQ7.out 2).trans (rfl : _ = some (Value.int .i64 q.f2)); have j3 := (blk_cell BQ7.out 3).trans (rfl : _ = some (Value.int .i64 q.f3)); have j4 := (blk_cell BQ7.out 4).trans (rfl : _ = some (Value.bool q.f4)); have j5 := (blk_cell BQ7.out 5).trans (rfl : _ = some (Value.int .i64 q.f5)); have j6 := (blk_cell BQ7.out 6).trans (rfl : _ = some (Value.int .i64 q.f6)); have j7 := (blk_cell BQ7.out 7).trans (rfl : _ = some (Value.slice A' q.f7.length c'))))
    have m0_ : Aside0 (w7.drew.cell? ⟨gp, 0, none⟩ = some (.int .i64 p.f0)) := ⟨k0⟩
    have m1_ : Aside0 (w7.drew.cell? ⟨gp, 1, none⟩ = some (.int .i64 p.f1)) := ⟨k1⟩
    have m2_ : Aside0 (w7.drew.cell? ⟨gp, 2, none⟩ = some (.int .i64 p.f2)) := ⟨k2⟩
    have m3_ : Aside0 (w7.drew.cell? ⟨gp, 3, none⟩ = some (.int .i64 p.f3)) := ⟨k3⟩
    have m4_ : Aside0 (w7.drew.cell? ⟨gp, 4, none⟩ = some (.bool p.f4)) := ⟨k4⟩
    have m5_ : Aside0 (w7.drew.cell? ⟨gp, 5, none⟩ = some (.int .i64 p.f5)) := ⟨k5⟩
    have m6_ : Aside0 (w7.drew.cell? ⟨gp, 6, none⟩ = some (.int .i64 p.f6)) := ⟨k6⟩
    have m7_ : Aside0 (w7.drew.cell? ⟨gp, 7, none⟩ = some (.slice A p.f7.length c)) := ⟨k7⟩
    have m8_ : Aside0 (w7.drew.cell? ⟨gq, 0, none⟩ = some (.int .i64 q.f0)) := ⟨j0⟩
    have m9_ : Aside0 (w7.drew.cell? ⟨gq, 1, none⟩ = some (.int .i64 q.f1)) := ⟨j1⟩
    have m10_ : Aside0 (w7.drew.cell? ⟨gq, 2, none⟩ = some (.int .i64 q.f2)) := ⟨j2⟩
    have m11_ : Aside0 (w7.drew.cell? ⟨gq, 3, none⟩ = some (.int .i64 q.f3)) := ⟨j3⟩
    have m12_ : Aside0 (w7.drew.cell? ⟨gq, 4, none⟩ = some (.bool q.f4)) := ⟨j4⟩
    have m13_ : Aside0 (w7.drew.cell? ⟨gq, 5, none⟩ = some (.int .i64 q.f5)) := ⟨j5⟩
    have m14_ : Aside0 (w7.drew.cell? ⟨gq, 6, none⟩ = some (.int .i64 q.f6)) := ⟨j6⟩
    have m15_ : Aside0 (w7.drew.cell? ⟨gq, 7, none⟩ = some (.slice A' q.f7.length c')) := ⟨j7⟩
    clear k0 k1 k2 k3 k4 k5 k6 k7 j0 j1 j2 j3 j4 j5 j6 j7
    refine start_ (n := 14) (S := fun w' => w'.cell? ⟨gp, 0, none⟩ = some (.int .i64 p.f0) ∧ w'.cell? ⟨gp, 1, none⟩ = some (.int .i64 p.f1) ∧ w'.cell? ⟨gp, 2, none⟩ = some (.int .i64 p.f2) ∧ w'.cell? ⟨gp, 3, none⟩ = some (.int .i64 p.f3) ∧ w'.cell? ⟨gp, 4, none⟩ = some (.bool p.f4) ∧ w'.cell? ⟨gp, 5, none⟩ = some (.int .i64 p.f5) ∧ w'.cell? ⟨gp, 6, none⟩ = some (.int .i64 p.f6) ∧ w'.cell? ⟨gp, 7, none⟩ = some (.slice A p.f7.length c) ∧ w'.cell? ⟨gq, 0, none⟩ = some (.int .i64 q.f0) ∧ w'.cell? ⟨gq, 1, none⟩ = some (.int .i64 q.f1) ∧ w'.cell? ⟨gq, 2, none⟩ = some (.int .i64 q.f2) ∧ w'.cell? ⟨gq, 3, none⟩ = some (.int .i64 q.f3) ∧ w'.cell? ⟨gq, 4, none⟩ = some (.bool q.f4) ∧ w'.cell? ⟨gq, 5, none⟩ = some (.int .i64 q.f5) ∧ w'.cell? ⟨gq, 6, none⟩ = some (.int .i64 q.f6) ∧ w'.cell? ⟨gq, 7, none⟩ = some (.slice A' q.f7.length c')) (ds := []) #[false, false, false, false, false, false, false, false, false, false, false, false, false, false] (by kernel_rfl) rfl rfl ⟨m0_.out, m1_.out, m2_.out, m3_.out, m4_.out, m5_.out, m6_.out, m7_.out, m8_.out, m9_.out, m10_.out, m11_.out, m12_.out, m13_.out, m14_.out, m15_.out⟩ (fun hHeld => ?_)
    refine pure_ (i := 0) (N := some 32) (v := ?_) (a' := ?_) #[true, false, false, false, false, false, false, false, false, false, false, false, false, false] rfl rfl (by kernel_rfl) (fun _ _ _ h => h) (Or.inl ⟨by rfl, ?_⟩) ?_ ?_
    rotate_left
    · intro w'
      go_simp
      with_reducible rfl
    rotate_left
    · simp only [Act.put, List.setIfInBounds_toArray, List.set_cons_zero, List.set_cons_succ, i64_w, i32_w]
      rfl
    refine pure_ (i := 1) (N := some 33) (v := ?_) (a' := ?_) #[true, true, false, false, false, false, false, false, false, false, false, false, false, false] rfl rfl (by kernel_rfl) (fun _ _ _ h => h) (Or.inl ⟨by rfl, ?_⟩) ?_ ?_
    rotate_left
    · intro w'
      go_simp
      with_reducible rfl
    rotate_left
    · simp only [Act.put, List.setIfInBounds_toArray, List.set_cons_zero, List.set_cons_succ, i64_w, i32_w]
      rfl
    refine pure_ (i := 2) (N := some 34) (v := ?_) (a' := ?_) #[true, true, true, false, false, false, false, false, false, false, false, false, false, false] rfl rfl (by kernel_rfl) (fun _ _ _ h => h) (Or.inl ⟨by rfl, ?_⟩) ?_ ?_
    rotate_left
    · intro w'
      go_simp
      with_reducible rfl
    rotate_left
    · simp only [Act.put, List.setIfInBounds_toArray, List.set_cons_zero, List.set_cons_succ, i64_w, i32_w]
      rfl
    refine pure_ (i := 3) (N := some 35) (v := ?_) (a' := ?_) #[true, true, true, true, false, false, false, false, false, false, false, false, false, false] rfl rfl (by kernel_rfl) (fun _ _ _ h => h) (Or.inl ⟨by rfl, ?_⟩) ?_ ?_
    rotate_left
    · intro w'
      go_simp
      with_reducible rfl
    rotate_left
    · simp only [Act.put, List.setIfInBounds_toArray, List.set_cons_zero, List.set_cons_succ, i64_w, i32_w]
      rfl
    refine pure_ (i := 4) (N := some 36) (v := ?_) (a' := ?_) #[true, true, true, true, true, false, false, false, false, false, false, false, false, false] rfl rfl (by kernel_rfl) (fun _ _ _ h => h) (Or.inl ⟨by rfl, ?_⟩) ?_ ?_
    rotate_left
    · intro w'
      go_simp
      with_reducible rfl
    rotate_left
    · simp only [Act.put, List.setIfInBounds_toArray, List.set_cons_zero, List.set_cons_succ, i64_w, i32_w]
      rfl
    refine pure_ (i := 10) (N := some 42) (v := ?_) (a' := ?_) #[true, true, true, true, true, false, false, false, false, false, true, false, false, false] rfl rfl (by kernel_rfl) (fun _ _ _ h => h) (Or.inl ⟨by rfl, ?_⟩) ?_ ?_
    rotate_left
    · intro w'
      go_simp
      with_reducible rfl
    rotate_left
    · simp only [Act.put, List.setIfInBounds_toArray, List.set_cons_zero, List.set_cons_succ, i64_w, i32_w]
      rfl
    refine take_ (i := 5) (N := some 37) (v := ?_) (a' := ?_) #[true, true, true, true, true, true, false, false, false, false, true, false, false, false] rfl rfl (by kernel_rfl) (fun _ _ _ h => h) (Or.inl ⟨by rfl, ?_⟩) hHeld ?_ ?_
    rotate_left
    · rintro w' ⟨s0, s1, s2, s3, s4, s5, s6, s7, s8, s9, s10, s11, s12, s13, s14, s15⟩
      go_simp
      with_reducible rfl
    rotate_left
    · simp only [Act.put, List.setIfInBounds_toArray, List.set_cons_zero, List.set_cons_succ, i64_w, i32_w]
      rfl
    refine take_ (i := 7) (N := some 39) (v := ?_) (a' := ?_) #[true, true, true, true, true, true, false, true, false, false, true, false, false, false] rfl rfl (by kernel_rfl) (fun _ _ _ h => h) (Or.inl ⟨by rfl, ?_⟩) hHeld ?_ ?_
    rotate_left
    · rintro w' ⟨s0, s1, s2, s3, s4, s5, s6, s7, s8, s9, s10, s11, s12, s13, s14, s15⟩
      go_simp
      with_reducible rfl
    rotate_left
    · simp only [Act.put, List.setIfInBounds_toArray, List.set_cons_zero, List.set_cons_succ, i64_w, i32_w]
      rfl
    refine one_ (i := 6) (N := some 38) #[true, true, true, true, true, true, true, true, false, false, true, false, false, false] rfl rfl (by kernel_rfl) (by decide) (fun K hK => ?_)
    refine goes_ Tryd.func18 (by kernel_rfl) rfl #[encP p A c] (by rfl) rfl rfl (by simp only [List.map_toArray, List.map_cons, List.map_nil]; rfl) ?_
    with_reducible refine (H18.out _ (below_drew HB7.out)).mono ?_
    rintro e_ w8 ⟨rfl, hb8⟩
    refine ⟨_, rfl, ?_⟩
    refine hK.out _ _ ⟨cells_later hb8 hHeld.1, cells_later hb8 hHeld.2.1, cells_later hb8 hHeld.2.2.1, cells_later hb8 hHeld.2.2.2.1, cells_later hb8 hHeld.2.2.2.2.1, cells_later hb8 hHeld.2.2.2.2.2.1, cells_later hb8 hHeld.2.2.2.2.2.2.1, cells_later hb8 hHeld.2.2.2.2.2.2.2.1, cells_later hb8 hHeld.2.2.2.2.2.2.2.2.1, cells_later hb8 hHeld.2.2.2.2.2.2.2.2.2.1, cells_later hb8 hHeld.2.2.2.2.2.2.2.2.2.2.1, cells_later hb8 hHeld.2.2.2.2.2.2.2.2.2.2.2.1, cells_later hb8 hHeld.2.2.2.2.2.2.2.2.2.2.2.2.1, cells_later hb8 hHeld.2.2.2.2.2.2.2.2.2.2.2.2.2.1, cells_later hb8 hHeld.2.2.2.2.2.2.2.2.2.2.2.2.2.2.1, cells_later hb8 hHeld.2.2.2.2.2.2.2.2.2.2.2.2.2.2.2⟩ (fun hHeld => ?_)
    clear hK K
    refine norm_ (a' := ?_) ?_ ?_
    rotate_left
    · show Act.put _ (some 38) _ = _
      simp only [Act.put, List.setIfInBounds_toArray, List.set_cons_zero, List.set_cons_succ, i64_w, i32_w]
      rfl
    refine one_ (i := 8) (N := some 40) #[true, true, true, true, true, true, true, true, true, false, true, false, false, false] rfl rfl (by kernel_rfl) (by decide) (fun K hK => ?_)
    refine goes_ Tryd.func18 (by kernel_rfl) rfl #[encP q A' c'] (by rfl) rfl rfl (by simp only [List.map_toArray, List.map_cons, List.map_nil]; rfl) ?_
    with_reducible refine (G18.out _ (bst (below_drew HB7.out) hb8)).mono ?_
    rintro e_ w9 ⟨rfl, hb9⟩
    refine ⟨_, rfl, ?_⟩
    refine hK.out _ _ ⟨cells_later hb9 hHeld.1, cells_later hb9 hHeld.2.1, cells_later hb9 hHeld.2.2.1, cells_later hb9 hHeld.2.2.2.1, cells_later hb9 hHeld.2.2.2.2.1, cells_later hb9 hHeld.2.2.2.2.2.1, cells_later hb9 hHeld.2.2.2.2.2.2.1, cells_later hb9 hHeld.2.2.2.2.2.2.2.1, cells_later hb9 hHeld.2.2.2.2.2.2.2.2.1, cells_later hb9 hHeld.2.2.2.2.2.2.2.2.2.1, cells_later hb9 hHeld.2.2.2.2.2.2.2.2.2.2.1, cells_later hb9 hHeld.2.2.2.2.2.2.2.2.2.2.2.1, cells_later hb9 hHeld.2.2.2.2.2.2.2.2.2.2.2.2.1, cells_later hb9 hHeld.2.2.2.2.2.2.2.2.2.2.2.2.2.1, cells_later hb9 hHeld.2.2.2.2.2.2.2.2.2.2.2.2.2.2.1, cells_later hb9 hHeld.2.2.2.2.2.2.2.2.2.2.2.2.2.2.2⟩ (fun hHeld => ?_)
    clear hK K
    refine norm_ (a' := ?_) ?_ ?_
    rotate_left
    · show Act.put _ (some 40) _ = _
      simp only [Act.put, List.setIfInBounds_toArray, List.set_cons_zero, List.set_cons_succ, i64_w, i32_w]
      rfl
    refine pure_ (i := 9) (N := some 41) (v := ?_) (a' := ?_) #[true, true, true, true, true, true, true, true, true, true, true, false, false, false] rfl rfl (by kernel_rfl) (fun _ _ _ h => h) (Or.inl ⟨by rfl, ?_⟩) ?_ ?_
    rotate_left
    · intro w'
      go_simp
      with_reducible rfl
    rotate_left
    · simp only [Act.put, List.setIfInBounds_toArray, List.set_cons_zero, List.set_cons_succ, i64_w, i32_w]
      rfl
    refine pure_ (i := 11) (N := some 43) (v := ?_) (a' := ?_) #[true, true, true, true, true, true, true, true, true, true, true, true, false, false] rfl rfl (by kernel_rfl) (fun _ _ _ h => h) (Or.inl ⟨by rfl, ?_⟩) ?_ ?_
    rotate_left
    · intro w'
      go_simp
      with_reducible rfl
    rotate_left
    · simp only [Act.put, List.setIfInBounds_toArray, List.set_cons_zero, List.set_cons_succ, i64_w, i32_w]
      rfl
    refine pure_ (i := 12) (N := some 44) (v := ?_) (a' := ?_) #[true, true, true, true, true, true, true, true, true, true, true, true, true, false] rfl rfl (by kernel_rfl) (fun _ _ _ h => h) (Or.inl ⟨by rfl, ?_⟩) ?_ ?_
    rotate_left
    · intro w'
      go_simp
      with_reducible rfl
    rotate_left
    · simp only [Act.put, List.setIfInBounds_toArray, List.set_cons_zero, List.set_cons_succ, i64_w, i32_w]
      rfl
    refine pure_ (i := 13) (N := some 8) (v := ?_) (a' := ?_) #[true, true, true, true, true, true, true, true, true, true, true, true, true, true] rfl rfl (by kernel_rfl) (fun _ _ _ h => h) (Or.inl ⟨by rfl, ?_⟩) ?_ ?_
    rotate_left
    · intro w'
      go_simp
      with_reducible rfl
    rotate_left
    · simp only [Act.put, List.setIfInBounds_toArray, List.set_cons_zero, List.set_cons_succ, i64_w, i32_w]
      rfl
    refine done_ (by kernel_rfl) ?_
    have HB9 := Aside0.mk (bst (bst (below_drew HB7.out) hb8) hb9)
    clear hb8 hb9
    go_wp2_with fail
    go_ret
    have hfin : ((tp == tq) == al) = true := by
      rcases Bool.eq_false_or_eq_true al with ha | ha
      · rw [ha, beq_iff_eq.2 (HX.out.2 ha)]
        rfl
      · have : (tp == tq) = false := beq_eq_false_iff_ne.2 (fun e => by have := HX.out.1 e; rw [ha] at this; cases this)
        rw [ha, this]
        rfl
    exact ⟨congrArg (fun b => Ending.returned (Value.bool b)) hfin, HB9.out⟩

end Go.Proofs.YtmnjaihalajhcaaDoor.QPlanConds
