import Derived.Test.YtmnjaihalajhcaaDoorPlRg
/- Plan: walks by hand; the conditions stand in each theorem. -/
namespace Go.Proofs.YtmnjaihalajhcaaDoor.QPlanConds
open Go.RowKit Go.Proofs.YtmnjaihalajhcaaDoorW.PrintWords Go.Proofs.YtmnjaihalajhcaaDoorW.PrintLast Go.Proofs.YtmnjaihalajhcaaDoorW.PrintMore
attribute [local go_sem] max2_int min2_int max_two min_two max_three min_three max_four min_four
set_option linter.unusedVariables false
set_option linter.unusedSimpArgs false
set_option maxRecDepth 8000 in
set_option maxHeartbeats 8000000 in
theorem refLooks11 (b : BV) (L : List S46) (i rel : Int) (w : World) (hn : b.n4 = L.length) (hC : k46.C w b.A4 b.n4 L) :
    Calls Tryd.prog 11 #[b.enc, .int .i64 i, .int .i64 rel] w fun e_ w' => e_ = .returned (.tuple #[.int .i64 ((looksO L i rel).getD 0), .bool (looksO L i rel).isSome]) ∧ Below w.heap.size w w' := by
  have hu26 := Tryd.underlying26
  have hu46 := Tryd.underlying46
  rcases Bool.eq_false_or_eq_true (decide (i < 0)) with q1 | q1
  · have HF : Aside0 (looksO L i rel = none) := ⟨by unfold looksO; rw [eqX_no (by have := of_decide_eq_true q1; omega)]⟩
    unfold BV.enc
    go_enter Tryd.func11, Tryd.ntmps11
    go_wp2_with (((with_reducible refine gate_dst (N := 3) rfl ?_); refine box_event ?hg (N := 3) ?hd (cs := b.cells) (t := 26) ?hr ?_; (case hd => rfl); (case hg => rfl); (case hr => unfold BV.cells; first | (go_simp; done) | (go_simp; rfl)); intro gb hg1 w1 hbox hb; have BB := Aside0.mk hbox; have HB1 := Aside0.mk hb; have hb4 := (blk_cell BB.out 4).trans (rfl : _ = some (Value.slice b.A4 b.n4 b.c4)); rw [hn] at hb4; clear hbox hb hg1))
    refine bodyPost_ret (v := .tuple #[.int .i64 0, .bool false]) (by simp [results, Tryd.results11, go_sem]) rfl ?_
    rw [HF.out]
    exact ⟨rfl, HB1.out⟩
  rcases Bool.eq_false_or_eq_true (decide (i ≥ (L.length : Int))) with q2 | q2
  · have HF : Aside0 (looksO L i rel = none) := ⟨by unfold looksO; rw [eqX_no (by have := of_decide_eq_true q2; omega)]⟩
    unfold BV.enc
    go_enter Tryd.func11, Tryd.ntmps11
    go_wp2_with (((with_reducible refine gate_dst (N := 3) rfl ?_); refine box_event ?hg (N := 3) ?hd (cs := b.cells) (t := 26) ?hr ?_; (case hd => rfl); (case hg => rfl); (case hr => unfold BV.cells; first | (go_simp; done) | (go_simp; rfl)); intro gb hg1 w1 hbox hb; have BB := Aside0.mk hbox; have HB1 := Aside0.mk hb; have hb4 := (blk_cell BB.out 4).trans (rfl : _ = some (Value.slice b.A4 b.n4 b.c4)); rw [hn] at hb4; clear hbox hb hg1))
    refine bodyPost_ret (v := .tuple #[.int .i64 0, .bool false]) (by simp [results, Tryd.results11, go_sem]) rfl ?_
    rw [HF.out]
    exact ⟨rfl, HB1.out⟩
  have h0 : 0 ≤ i := by have := of_decide_eq_false q1; omega
  have hl : i < (L.length : Int) := by have := of_decide_eq_false q2; omega
  obtain ⟨ad, A8, c8, e0, x0, x1, x2, x3, x4, x5, x6, x7, x8, l8, g8⟩ := at_T46 hC i h0 (by rw [hn]; exact hl)
  have HNO : Aside0 (¬ ((rd_T46 L i).f0 = 9 ∧ rightX (rd_T46 L i) = true) → looksO L i rel = none) := ⟨fun h => by unfold looksO; rw [eqX_no (fun q => h q.2.2)]⟩
  have HYES : Aside0 ((rd_T46 L i).f0 = 9 → rightX (rd_T46 L i) = true → eqX L i = some (rd_T46 L i)) := ⟨fun h h' => eqX_yes ⟨h0, hl, h, h'⟩⟩
  have HG8 := Aside0.mk g8
  have HJE : Aside0 (eqX L i = some (rd_T46 L i) → looksO L i rel = if (rd_T46 (rd_T46 L i).f6 0).f0 = 2 ∧ (rd_T46 (rd_T46 L i).f6 0).f2 = rel ∧ (rd_T46 (rd_T46 L i).f6 1).f0 = 1 then some (rd_T46 (rd_T46 L i).f6 0).f3 else if (rd_T46 (rd_T46 L i).f6 1).f0 = 2 ∧ (rd_T46 (rd_T46 L i).f6 1).f2 = rel ∧ (rd_T46 (rd_T46 L i).f6 0).f0 = 1 then some (rd_T46 (rd_T46 L i).f6 1).f3 else none) := ⟨fun h => by unfold looksO; rw [h]⟩
  clear hC l8 g8
  generalize rd_T46 L i = x at *
  generalize looksO L i rel = LO at *
  have H23 : Aside0 (∀ w', Below w.heap.size w w' → Calls Tryd.prog 23 #[encE x A8 c8] w' fun e_ w'' => e_ = .returned (.bool (rightX x)) ∧ Below w'.heap.size w' w'') := ⟨fun w' hb => right23 x A8 c8 w' (Kd.C_below HG8.out hb)⟩
  rcases b with ⟨B0_, n0, d0_, core, A2, n2, c2, A3, n3, c3, A4, n4, c4, A5, n5, c5, A6, n6, c6, g7, A8_, n8, c8_, A9, n9, c9, d10⟩
  dsimp only at hn e0
  subst hn
  subst e0
  rcases Bool.eq_false_or_eq_true (rightX x) with qr | qr
  rotate_left
  · have HF := Aside0.mk (HNO.out (fun h => by rw [qr] at h; cases h.2))
    rw [qr] at H23
    clear qr
    unfold BV.enc encE at *
    dsimp only
    go_enter Tryd.func11, Tryd.ntmps11
    go_wp2_with (first | ((with_reducible refine gate_dst (N := 3) rfl ?_); refine box_event ?hg (N := 3) ?hd (cs := (BV.cells ⟨B0_, n0, d0_, core, A2, n2, c2, A3, n3, c3, some ad, L.length, c4, A5, n5, c5, A6, n6, c6, g7, A8_, n8, c8_, A9, n9, c9, d10⟩)) (t := 26) ?hr ?_; (case hd => rfl); (case hg => rfl); (case hr => unfold BV.cells; first | (go_simp; done) | (go_simp; rfl)); intro gb hg1 w1 hbox hb; have BB := Aside0.mk hbox; have HB1 := Aside0.mk hb; have hb4 := (blk_cell BB.out 4).trans (rfl : _ = some (Value.slice (some ad) L.length c4)); have v0 := cells_later HB1.out x0; have v1 := cells_later HB1.out x1; have v2 := cells_later HB1.out x2; have v3 := cells_later HB1.out x3; have v4 := cells_later HB1.out x4; have v5 := cells_later HB1.out x5; have v6 := cells_later HB1.out x6; have v7 := cells_later HB1.out x7; have v8 := cells_later HB1.out x8; clear x0 x1 x2 x3 x4 x5 x6 x7 x8; clear hbox hb hg1) | ((with_reducible refine gate_dst (N := 8) rfl ?_); refine box_event ?hg (N := 8) ?hd (cs := zeroC) (t := 46) ?hr ?_; (case hd => rfl); (case hg => rfl); (case hr => unfold zeroC; first | (go_simp; done) | (go_simp; rfl)); intro ge hg1 w3 hbox hb; have HGE := Aside0.mk hbox; have HB3 := Aside0.mk (HB1.out.trans (hb.mono HB1.out.size)); have HGW : Aside0 (w.heap.size ≤ ge) := ⟨by rw [hg1]; exact HB1.out.size⟩; clear hbox hb hg1) | ((with_reducible refine gate_store (t := 46) (p := 8) rfl ?_); refine row_event rfl 46 _ _ rfl ge (cellsE x (.slice A8 x.f6.length c8)) rfl rfl 46 zeroC HGE.out (by kernel_rfl) (by kernel_rfl) (by kernel_rfl) ?_; intro w5 hx hb hf; have HGE5a := Aside0.mk hx; have HB5a : Aside0 (Below w.heap.size w w5) := ⟨HB3.out.trans (hb.mono HGW.out)⟩; clear hx hb hf; clear v0 v1 v2 v3 v4 v5 v6 v7 v8; have f0 := (blk_cell HGE5a.out 0).trans (rfl : _ = some (Value.int .i64 x.f0)); have f1 := (blk_cell HGE5a.out 1).trans (rfl : _ = some (Value.int .i64 x.f1.f0)); have f2 := (blk_cell HGE5a.out 2).trans (rfl : _ = some (Value.int .i64 x.f1.f1)); have f3 := (blk_cell HGE5a.out 3).trans (rfl : _ = some (Value.string x.f1.f2)); have f4 := (blk_cell HGE5a.out 4).trans (rfl : _ = some (Value.int .i64 x.f2)); have f5 := (blk_cell HGE5a.out 5).trans (rfl : _ = some (Value.int .i64 x.f3)); have f6 := (blk_cell HGE5a.out 6).trans (rfl : _ = some (Value.int .i64 x.f4)); have f7 := (blk_cell HGE5a.out 7).trans (rfl : _ = some (Value.string x.f5)); have f8 := (blk_cell HGE5a.out 8).trans (rfl : _ = some (Value.slice A8 x.f6.length c8))) | (go_at_call 23; refine (H23.out _ HB5a.out).mono ?_; rintro e_ w6 ⟨rfl, hb6⟩; have HB5 := Aside0.mk (bst HB5a.out hb6); have HGE5 := Aside0.mk ((hb6.block ge (blk_lt HGE5a.out)).trans HGE5a.out); clear hb6 f0 f1 f2 f3 f4 f5 f6 f7 f8; have f0 := (blk_cell HGE5.out 0).trans (rfl : _ = some (Value.int .i64 x.f0)); have f1 := (blk_cell HGE5.out 1).trans (rfl : _ = some (Value.int .i64 x.f1.f0)); have f2 := (blk_cell HGE5.out 2).trans (rfl : _ = some (Value.int .i64 x.f1.f1)); have f3 := (blk_cell HGE5.out 3).trans (rfl : _ = some (Value.string x.f1.f2)); have f4 := (blk_cell HGE5.out 4).trans (rfl : _ = some (Value.int .i64 x.f2)); have f5 := (blk_cell HGE5.out 5).trans (rfl : _ = some (Value.int .i64 x.f3)); have f6 := (blk_cell HGE5.out 6).trans (rfl : _ = some (Value.int .i64 x.f4)); have f7 := (blk_cell HGE5.out 7).trans (rfl : _ = some (Value.string x.f5)); have f8 := (blk_cell HGE5.out 8).trans (rfl : _ = some (Value.slice A8 x.f6.length c8))))
    refine bodyPost_ret (v := .tuple #[.int .i64 0, .bool false]) (by simp [results, Tryd.results11, go_sem]) rfl ?_
    rw [HF.out]
    exact ⟨rfl, HB5.out⟩
  rcases Bool.eq_false_or_eq_true (x.f0 != 9) with q9 | q9
  · have HF := Aside0.mk (HNO.out (fun h => by rw [h.1] at q9; cases q9))
    rw [qr] at H23
    clear qr
    unfold BV.enc encE at *
    dsimp only
    go_enter Tryd.func11, Tryd.ntmps11
    go_wp2_with (first | ((with_reducible refine gate_dst (N := 3) rfl ?_); refine box_event ?hg (N := 3) ?hd (cs := (BV.cells ⟨B0_, n0, d0_, core, A2, n2, c2, A3, n3, c3, some ad, L.length, c4, A5, n5, c5, A6, n6, c6, g7, A8_, n8, c8_, A9, n9, c9, d10⟩)) (t := 26) ?hr ?_; (case hd => rfl); (case hg => rfl); (case hr => unfold BV.cells; first | (go_simp; done) | (go_simp; rfl)); intro gb hg1 w1 hbox hb; have BB := Aside0.mk hbox; have HB1 := Aside0.mk hb; have hb4 := (blk_cell BB.out 4).trans (rfl : _ = some (Value.slice (some ad) L.length c4)); have v0 := cells_later HB1.out x0; have v1 := cells_later HB1.out x1; have v2 := cells_later HB1.out x2; have v3 := cells_later HB1.out x3; have v4 := cells_later HB1.out x4; have v5 := cells_later HB1.out x5; have v6 := cells_later HB1.out x6; have v7 := cells_later HB1.out x7; have v8 := cells_later HB1.out x8; clear x0 x1 x2 x3 x4 x5 x6 x7 x8; clear hbox hb hg1) | ((with_reducible refine gate_dst (N := 8) rfl ?_); refine box_event ?hg (N := 8) ?hd (cs := zeroC) (t := 46) ?hr ?_; (case hd => rfl); (case hg => rfl); (case hr => unfold zeroC; first | (go_simp; done) | (go_simp; rfl)); intro ge hg1 w3 hbox hb; have HGE := Aside0.mk hbox; have HB3 := Aside0.mk (HB1.out.trans (hb.mono HB1.out.size)); have HGW : Aside0 (w.heap.size ≤ ge) := ⟨by rw [hg1]; exact HB1.out.size⟩; clear hbox hb hg1) | ((with_reducible refine gate_store (t := 46) (p := 8) rfl ?_); refine row_event rfl 46 _ _ rfl ge (cellsE x (.slice A8 x.f6.length c8)) rfl rfl 46 zeroC HGE.out (by kernel_rfl) (by kernel_rfl) (by kernel_rfl) ?_; intro w5 hx hb hf; have HGE5a := Aside0.mk hx; have HB5a : Aside0 (Below w.heap.size w w5) := ⟨HB3.out.trans (hb.mono HGW.out)⟩; clear hx hb hf; clear v0 v1 v2 v3 v4 v5 v6 v7 v8; have f0 := (blk_cell HGE5a.out 0).trans (rfl : _ = some (Value.int .i64 x.f0)); have f1 := (blk_cell HGE5a.out 1).trans (rfl : _ = some (Value.int .i64 x.f1.f0)); have f2 := (blk_cell HGE5a.out 2).trans (rfl : _ = some (Value.int .i64 x.f1.f1)); have f3 := (blk_cell HGE5a.out 3).trans (rfl : _ = some (Value.string x.f1.f2)); have f4 := (blk_cell HGE5a.out 4).trans (rfl : _ = some (Value.int .i64 x.f2)); have f5 := (blk_cell HGE5a.out 5).trans (rfl : _ = some (Value.int .i64 x.f3)); have f6 := (blk_cell HGE5a.out 6).trans (rfl : _ = some (Value.int .i64 x.f4)); have f7 := (blk_cell HGE5a.out 7).trans (rfl : _ = some (Value.string x.f5)); have f8 := (blk_cell HGE5a.out 8).trans (rfl : _ = some (Value.slice A8 x.f6.length c8))) | (go_at_call 23; refine (H23.out _ HB5a.out).mono ?_; rintro e_ w6 ⟨rfl, hb6⟩; have HB5 := Aside0.mk (bst HB5a.out hb6); have HGE5 := Aside0.mk ((hb6.block ge (blk_lt HGE5a.out)).trans HGE5a.out); clear hb6 f0 f1 f2 f3 f4 f5 f6 f7 f8; have f0 := (blk_cell HGE5.out 0).trans (rfl : _ = some (Value.int .i64 x.f0)); have f1 := (blk_cell HGE5.out 1).trans (rfl : _ = some (Value.int .i64 x.f1.f0)); have f2 := (blk_cell HGE5.out 2).trans (rfl : _ = some (Value.int .i64 x.f1.f1)); have f3 := (blk_cell HGE5.out 3).trans (rfl : _ = some (Value.string x.f1.f2)); have f4 := (blk_cell HGE5.out 4).trans (rfl : _ = some (Value.int .i64 x.f2)); have f5 := (blk_cell HGE5.out 5).trans (rfl : _ = some (Value.int .i64 x.f3)); have f6 := (blk_cell HGE5.out 6).trans (rfl : _ = some (Value.int .i64 x.f4)); have f7 := (blk_cell HGE5.out 7).trans (rfl : _ = some (Value.string x.f5)); have f8 := (blk_cell HGE5.out 8).trans (rfl : _ = some (Value.slice A8 x.f6.length c8))))
    refine bodyPost_ret (v := .tuple #[.int .i64 0, .bool false]) (by simp [results, Tryd.results11, go_sem]) rfl ?_
    rw [HF.out]
    exact ⟨rfl, HB5.out⟩
  have heq := HYES.out (bne_eq_false_iff_eq.1 q9) qr
  have h2 := eq_two heq
  have HJ := Aside0.mk (HJE.out heq)
  rw [qr] at H23
  obtain ⟨ae, A0, c0, A1, c1, had, ⟨z0_, z1_, z2_, z3_, z4_, z5_, z6_, z7_, z8_, z9_, z10_, z11_, z12_, z13_, z14_, z15_, z16_, z17_⟩, hC0, hC1⟩ := two46 h2 HG8.out
  subst had
  have H2 := Aside0.mk h2
  have hxl : (x.f6.length : Int) = 2 := by rw [h2]; rfl
  have hxn : 0 < x.f6.length := by rw [h2]; decide
  clear hC0 hC1 heq h2 qr HJE HYES HNO
  have HZ0 : Aside0 (w.cell? ae = some (.int .i64 (rd_T46 x.f6 0).f0) ∧ w.cell? ⟨ae.block, ae.off + 1, none⟩ = some (.int .i64 (rd_T46 x.f6 0).f1.f0) ∧ w.cell? ⟨ae.block, ae.off + 2, none⟩ = some (.int .i64 (rd_T46 x.f6 0).f1.f1) ∧ w.cell? ⟨ae.block, ae.off + 3, none⟩ = some (.string (rd_T46 x.f6 0).f1.f2) ∧ w.cell? ⟨ae.block, ae.off + 4, none⟩ = some (.int .i64 (rd_T46 x.f6 0).f2) ∧ w.cell? ⟨ae.block, ae.off + 5, none⟩ = some (.int .i64 (rd_T46 x.f6 0).f3) ∧ w.cell? ⟨ae.block, ae.off + 6, none⟩ = some (.int .i64 (rd_T46 x.f6 0).f4) ∧ w.cell? ⟨ae.block, ae.off + 7, none⟩ = some (.string (rd_T46 x.f6 0).f5) ∧ w.cell? ⟨ae.block, ae.off + 8, none⟩ = some (.slice A0 (rd_T46 x.f6 0).f6.length c0) ∧ w.cell? ⟨ae.block, ae.off + 9, none⟩ = some (.int .i64 (rd_T46 x.f6 1).f0) ∧ w.cell? ⟨ae.block, ae.off + 9 + 1, none⟩ = some (.int .i64 (rd_T46 x.f6 1).f1.f0) ∧ w.cell? ⟨ae.block, ae.off + 9 + 2, none⟩ = some (.int .i64 (rd_T46 x.f6 1).f1.f1) ∧ w.cell? ⟨ae.block, ae.off + 9 + 3, none⟩ = some (.string (rd_T46 x.f6 1).f1.f2) ∧ w.cell? ⟨ae.block, ae.off + 9 + 4, none⟩ = some (.int .i64 (rd_T46 x.f6 1).f2) ∧ w.cell? ⟨ae.block, ae.off + 9 + 5, none⟩ = some (.int .i64 (rd_T46 x.f6 1).f3) ∧ w.cell? ⟨ae.block, ae.off + 9 + 6, none⟩ = some (.int .i64 (rd_T46 x.f6 1).f4) ∧ w.cell? ⟨ae.block, ae.off + 9 + 7, none⟩ = some (.string (rd_T46 x.f6 1).f5) ∧ w.cell? ⟨ae.block, ae.off + 9 + 8, none⟩ = some (.slice A1 (rd_T46 x.f6 1).f6.length c1)) := ⟨⟨z0_, z1_, z2_, z3_, z4_, z5_, z6_, z7_, z8_, z9_, z10_, z11_, z12_, z13_, z14_, z15_, z16_, z17_⟩⟩
  clear z0_ z1_ z2_ z3_ z4_ z5_ z6_ z7_ z8_ z9_ z10_ z11_ z12_ z13_ z14_ z15_ z16_ z17_
  unfold BV.enc encE at *
  dsimp only
  go_enter Tryd.func11, Tryd.ntmps11
  go_wp2_with (first | ((with_reducible refine gate_dst (N := 3) rfl ?_); refine box_event ?hg (N := 3) ?hd (cs := (BV.cells ⟨B0_, n0, d0_, core, A2, n2, c2, A3, n3, c3, some ad, L.length, c4, A5, n5, c5, A6, n6, c6, g7, A8_, n8, c8_, A9, n9, c9, d10⟩)) (t := 26) ?hr ?_; (case hd => rfl); (case hg => rfl); (case hr => unfold BV.cells; first | (go_simp; done) | (go_simp; rfl)); intro gb hg1 w1 hbox hb; have BB := Aside0.mk hbox; have HB1 := Aside0.mk hb; have hb4 := (blk_cell BB.out 4).trans (rfl : _ = some (Value.slice (some ad) L.length c4)); have v0 := cells_later HB1.out x0; have v1 := cells_later HB1.out x1; have v2 := cells_later HB1.out x2; have v3 := cells_later HB1.out x3; have v4 := cells_later HB1.out x4; have v5 := cells_later HB1.out x5; have v6 := cells_later HB1.out x6; have v7 := cells_later HB1.out x7; have v8 := cells_later HB1.out x8; clear x0 x1 x2 x3 x4 x5 x6 x7 x8; clear hbox hb hg1) | ((with_reducible refine gate_dst (N := 8) rfl ?_); refine box_event ?hg (N := 8) ?hd (cs := zeroC) (t := 46) ?hr ?_; (case hd => rfl); (case hg => rfl); (case hr => unfold zeroC; first | (go_simp; done) | (go_simp; rfl)); intro ge hg1 w3 hbox hb; have HGE := Aside0.mk hbox; have HB3 := Aside0.mk (HB1.out.trans (hb.mono HB1.out.size)); have HGW : Aside0 (w.heap.size ≤ ge) := ⟨by rw [hg1]; exact HB1.out.size⟩; clear hbox hb hg1) | ((with_reducible refine gate_store (t := 46) (p := 8) rfl ?_); refine row_event rfl 46 _ _ rfl ge (cellsE x (.slice (some ae) x.f6.length c8)) rfl rfl 46 zeroC HGE.out (by kernel_rfl) (by kernel_rfl) (by kernel_rfl) ?_; intro w5 hx hb hf; have HGE5a := Aside0.mk hx; have HB5a : Aside0 (Below w.heap.size w w5) := ⟨HB3.out.trans (hb.mono HGW.out)⟩; clear hx hb hf; clear v0 v1 v2 v3 v4 v5 v6 v7 v8; have f0 := (blk_cell HGE5a.out 0).trans (rfl : _ = some (Value.int .i64 x.f0)); have f1 := (blk_cell HGE5a.out 1).trans (rfl : _ = some (Value.int .i64 x.f1.f0)); have f2 := (blk_cell HGE5a.out 2).trans (rfl : _ = some (Value.int .i64 x.f1.f1)); have f3 := (blk_cell HGE5a.out 3).trans (rfl : _ = some (Value.string x.f1.f2)); have f4 := (blk_cell HGE5a.out 4).trans (rfl : _ = some (Value.int .i64 x.f2)); have f5 := (blk_cell HGE5a.out 5).trans (rfl : _ = some (Value.int .i64 x.f3)); have f6 := (blk_cell HGE5a.out 6).trans (rfl : _ = some (Value.int .i64 x.f4)); have f7 := (blk_cell HGE5a.out 7).trans (rfl : _ = some (Value.string x.f5)); have f8 := (blk_cell HGE5a.out 8).trans (rfl : _ = some (Value.slice (some ae) x.f6.length c8))) | (go_at_call 23; refine (H23.out _ HB5a.out).mono ?_; rintro e_ w6 ⟨rfl, hb6⟩; have HB5 := Aside0.mk (bst HB5a.out hb6); have HGE5 := Aside0.mk ((hb6.block ge (blk_lt HGE5a.out)).trans HGE5a.out); clear hb6 f0 f1 f2 f3 f4 f5 f6 f7 f8; have f0 := (blk_cell HGE5.out 0).trans (rfl : _ = some (Value.int .i64 x.f0)); have f1 := (blk_cell HGE5.out 1).trans (rfl : _ = some (Value.int .i64 x.f1.f0)); have f2 := (blk_cell HGE5.out 2).trans (rfl : _ = some (Value.int .i64 x.f1.f1)); have f3 := (blk_cell HGE5.out 3).trans (rfl : _ = some (Value.string x.f1.f2)); have f4 := (blk_cell HGE5.out 4).trans (rfl : _ = some (Value.int .i64 x.f2)); have f5 := (blk_cell HGE5.out 5).trans (rfl : _ = some (Value.int .i64 x.f3)); have f6 := (blk_cell HGE5.out 6).trans (rfl : _ = some (Value.int .i64 x.f4)); have f7 := (blk_cell HGE5.out 7).trans (rfl : _ = some (Value.string x.f5)); have f8 := (blk_cell HGE5.out 8).trans (rfl : _ = some (Value.slice (some ae) x.f6.length c8))))
  have HT : Aside0 (w6.cell? ae = some (.int .i64 (rd_T46 x.f6 0).f0) ∧ w6.cell? ⟨ae.block, ae.off + 1, none⟩ = some (.int .i64 (rd_T46 x.f6 0).f1.f0) ∧ w6.cell? ⟨ae.block, ae.off + 2, none⟩ = some (.int .i64 (rd_T46 x.f6 0).f1.f1) ∧ w6.cell? ⟨ae.block, ae.off + 3, none⟩ = some (.string (rd_T46 x.f6 0).f1.f2) ∧ w6.cell? ⟨ae.block, ae.off + 4, none⟩ = some (.int .i64 (rd_T46 x.f6 0).f2) ∧ w6.cell? ⟨ae.block, ae.off + 5, none⟩ = some (.int .i64 (rd_T46 x.f6 0).f3) ∧ w6.cell? ⟨ae.block, ae.off + 6, none⟩ = some (.int .i64 (rd_T46 x.f6 0).f4) ∧ w6.cell? ⟨ae.block, ae.off + 7, none⟩ = some (.string (rd_T46 x.f6 0).f5) ∧ w6.cell? ⟨ae.block, ae.off + 8, none⟩ = some (.slice A0 (rd_T46 x.f6 0).f6.length c0) ∧ w6.cell? ⟨ae.block, ae.off + 9, none⟩ = some (.int .i64 (rd_T46 x.f6 1).f0) ∧ w6.cell? ⟨ae.block, ae.off + 9 + 1, none⟩ = some (.int .i64 (rd_T46 x.f6 1).f1.f0) ∧ w6.cell? ⟨ae.block, ae.off + 9 + 2, none⟩ = some (.int .i64 (rd_T46 x.f6 1).f1.f1) ∧ w6.cell? ⟨ae.block, ae.off + 9 + 3, none⟩ = some (.string (rd_T46 x.f6 1).f1.f2) ∧ w6.cell? ⟨ae.block, ae.off + 9 + 4, none⟩ = some (.int .i64 (rd_T46 x.f6 1).f2) ∧ w6.cell? ⟨ae.block, ae.off + 9 + 5, none⟩ = some (.int .i64 (rd_T46 x.f6 1).f3) ∧ w6.cell? ⟨ae.block, ae.off + 9 + 6, none⟩ = some (.int .i64 (rd_T46 x.f6 1).f4) ∧ w6.cell? ⟨ae.block, ae.off + 9 + 7, none⟩ = some (.string (rd_T46 x.f6 1).f5) ∧ w6.cell? ⟨ae.block, ae.off + 9 + 8, none⟩ = some (.slice A1 (rd_T46 x.f6 1).f6.length c1)) := ⟨⟨cells_later HB5.out (HZ0.out.1), cells_later HB5.out (HZ0.out.2.1), cells_later HB5.out (HZ0.out.2.2.1), cells_later HB5.out (HZ0.out.2.2.2.1), cells_later HB5.out (HZ0.out.2.2.2.2.1), cells_later HB5.out (HZ0.out.2.2.2.2.2.1), cells_later HB5.out (HZ0.out.2.2.2.2.2.2.1), cells_later HB5.out (HZ0.out.2.2.2.2.2.2.2.1), cells_later HB5.out (HZ0.out.2.2.2.2.2.2.2.2.1), cells_later HB5.out (HZ0.out.2.2.2.2.2.2.2.2.2.1), cells_later HB5.out (HZ0.out.2.2.2.2.2.2.2.2.2.2.1), cells_later HB5.out (HZ0.out.2.2.2.2.2.2.2.2.2.2.2.1), cells_later HB5.out (HZ0.out.2.2.2.2.2.2.2.2.2.2.2.2.1), cells_later HB5.out (HZ0.out.2.2.2.2.2.2.2.2.2.2.2.2.2.1), cells_later HB5.out (HZ0.out.2.2.2.2.2.2.2.2.2.2.2.2.2.2.1), cells_later HB5.out (HZ0.out.2.2.2.2.2.2.2.2.2.2.2.2.2.2.2.1), cells_later HB5.out (HZ0.out.2.2.2.2.2.2.2.2.2.2.2.2.2.2.2.2.1), cells_later HB5.out (HZ0.out.2.2.2.2.2.2.2.2.2.2.2.2.2.2.2.2.2)⟩⟩
  clear HZ0 f0 f1 f2 f3 f4 f5 f6 f7 f8 hb4
  generalize rd_T46 x.f6 0 = p at *
  generalize rd_T46 x.f6 1 = q at *
  go_loopw [10] (fun s_ wr => ∃ k : Nat, k ≤ 2 ∧ s_ = .int .i64 (k : Int) ∧ Aside0 (1 ≤ k → ¬ (p.f0 = 2 ∧ p.f2 = rel ∧ q.f0 = 1)) ∧ Aside0 (2 ≤ k → ¬ (q.f0 = 2 ∧ q.f2 = rel ∧ p.f0 = 1)) ∧ Aside0 (Below w6.heap.size w6 wr)) (fun s_ _ => 2 - (intOf s_).toNat)
  case atStart => exact ⟨0, by decide, rfl, ⟨fun h => by omega⟩, ⟨fun h => by omega⟩, ⟨Below.refl _ _⟩⟩
  case round =>
    obtain ⟨k, hk, rfl, H0, H1, HW⟩ := hrel
    have f8 := (blk_cell ((HW.out.block ge (blk_lt HGE5.out)).trans HGE5.out) 8).trans (rfl : _ = some (Value.slice (some ae) x.f6.length c8))
    have hT := HT.out
    obtain ⟨z0_, z1_, z2_, z3_, z4_, z5_, z6_, z7_, z8_, z9_, z10_, z11_, z12_, z13_, z14_, z15_, z16_, z17_⟩ := hT
    have y0 := cells_later HW.out z0_
    have y1 := cells_later HW.out z1_
    have y2 := cells_later HW.out z2_
    have y3 := cells_later HW.out z3_
    have y4 := cells_later HW.out z4_
    have y5 := cells_later HW.out z5_
    have y6 := cells_later HW.out z6_
    have y7 := cells_later HW.out z7_
    have y8 := cells_later HW.out z8_
    have y9 := cells_later HW.out z9_
    have y10 := cells_later HW.out z10_
    have y11 := cells_later HW.out z11_
    have y12 := cells_later HW.out z12_
    have y13 := cells_later HW.out z13_
    have y14 := cells_later HW.out z14_
    have y15 := cells_later HW.out z15_
    have y16 := cells_later HW.out z16_
    have y17 := cells_later HW.out z17_
    clear z0_ z1_ z2_ z3_ z4_ z5_ z6_ z7_ z8_ z9_ z10_ z11_ z12_ z13_ z14_ z15_ z16_ z17_
    have h3 : k = 0 ∨ k = 1 ∨ k = 2 := by omega
    rcases h3 with rfl | rfl | rfl
    · have HZ : Aside0 (w6.cell? ⟨ae.block, ae.off + 9, none⟩ = some (.int .i64 q.f0)) := ⟨HT.out.2.2.2.2.2.2.2.2.2.1⟩
      go_upto_region 11 with (first | ((with_reducible refine gate_dst (N := 11) rfl ?_); refine box_event ?hg (N := 11) ?hd (cs := zeroC) (t := 46) ?hr ?_; (case hd => rfl); (case hg => rfl); (case hr => unfold zeroC; first | (go_simp; done) | (go_simp; rfl)); intro gx hg1 w7q hbox hb; have HGX := Aside0.mk hbox; have HB6 := Aside0.mk (HW.out.trans (hb.mono HW.out.size)); have HGG : Aside0 (w6.heap.size ≤ gx) := ⟨by rw [hg1]; exact HW.out.size⟩; clear hbox hb hg1) | ((with_reducible refine gate_store (t := 46) (p := 11) rfl ?_); refine row_event rfl 46 _ _ rfl gx (cellsE p (.slice A0 p.f6.length c0)) rfl rfl 46 zeroC HGX.out (by kernel_rfl) (by kernel_rfl) (by kernel_rfl) ?_; intro w8q hx hb hf; have HGX7 := Aside0.mk hx; have HB7 : Aside0 (Below w6.heap.size w6 w8q) := ⟨HB6.out.trans (hb.mono HGG.out)⟩; clear hx hb hf; have f8 := (blk_cell ((HB7.out.block ge (blk_lt HGE5.out)).trans HGE5.out) 8).trans (rfl : _ = some (Value.slice (some ae) x.f6.length c8)); have u0 := cells_later HB7.out HZ.out; have g0 := (blk_cell HGX7.out 0).trans (rfl : _ = some (Value.int .i64 p.f0)); have g1 := (blk_cell HGX7.out 1).trans (rfl : _ = some (Value.int .i64 p.f1.f0)); have g2 := (blk_cell HGX7.out 2).trans (rfl : _ = some (Value.int .i64 p.f1.f1)); have g3 := (blk_cell HGX7.out 3).trans (rfl : _ = some (Value.string p.f1.f2)); have g4 := (blk_cell HGX7.out 4).trans (rfl : _ = some (Value.int .i64 p.f2)); have g5 := (blk_cell HGX7.out 5).trans (rfl : _ = some (Value.int .i64 p.f3)); have g6 := (blk_cell HGX7.out 6).trans (rfl : _ = some (Value.int .i64 p.f4)); have g7 := (blk_cell HGX7.out 7).trans (rfl : _ = some (Value.string p.f5)); have g8 := (blk_cell HGX7.out 8).trans (rfl : _ = some (Value.slice A0 p.f6.length c0))))
      rcases Bool.eq_false_or_eq_true (p.f0 == 2) with q1 | q1
      · rcases Bool.eq_false_or_eq_true (p.f2 == rel) with q2 | q2
        · rcases Bool.eq_false_or_eq_true (q.f0 == 1) with q3 | q3
          · have HI : Aside0 (LO = some p.f3) := ⟨by rw [HJ.out]; exact if_pos ⟨beq_iff_eq.1 q1, beq_iff_eq.1 q2, beq_iff_eq.1 q3⟩⟩
            go_wp2_with fail
            refine bodyPost_ret (v := .tuple #[.int .i64 p.f3, .bool true]) (by simp [results, Tryd.results11, go_sem]) rfl ?_
            rw [HI.out]
            exact ⟨rfl, HB5.out.trans (HB7.out.mono HB5.out.size)⟩
          · have HQ : Aside0 (¬ (p.f0 = 2 ∧ p.f2 = rel ∧ q.f0 = 1)) := ⟨fun h => by rw [h.2.2] at q3; cases q3⟩
            go_wp2_with fail
            go_roundw
            case rel => exact ⟨1, by decide, rfl, ⟨fun _ => HQ.out⟩, ⟨fun h => by omega⟩, HB7⟩
            case measure => simp [intOf]
        · have HQ : Aside0 (¬ (p.f0 = 2 ∧ p.f2 = rel ∧ q.f0 = 1)) := ⟨fun h => by rw [h.2.1] at q2; simp at q2⟩
          go_wp2_with fail
          go_roundw
          case rel => exact ⟨1, by decide, rfl, ⟨fun _ => HQ.out⟩, ⟨fun h => by omega⟩, HB7⟩
          case measure => simp [intOf]
      · have HQ : Aside0 (¬ (p.f0 = 2 ∧ p.f2 = rel ∧ q.f0 = 1)) := ⟨fun h => by rw [h.1] at q1; cases q1⟩
        go_wp2_with fail
        go_roundw
        case rel => exact ⟨1, by decide, rfl, ⟨fun _ => HQ.out⟩, ⟨fun h => by omega⟩, HB7⟩
        case measure => simp [intOf]
    · have HZ : Aside0 (w6.cell? ae = some (.int .i64 p.f0)) := ⟨HT.out.1⟩
      go_upto_region 11 with (first | ((with_reducible refine gate_dst (N := 11) rfl ?_); refine box_event ?hg (N := 11) ?hd (cs := zeroC) (t := 46) ?hr ?_; (case hd => rfl); (case hg => rfl); (case hr => unfold zeroC; first | (go_simp; done) | (go_simp; rfl)); intro gx hg1 w7q hbox hb; have HGX := Aside0.mk hbox; have HB6 := Aside0.mk (HW.out.trans (hb.mono HW.out.size)); have HGG : Aside0 (w6.heap.size ≤ gx) := ⟨by rw [hg1]; exact HW.out.size⟩; clear hbox hb hg1) | ((with_reducible refine gate_store (t := 46) (p := 11) rfl ?_); refine row_event rfl 46 _ _ rfl gx (cellsE q (.slice A1 q.f6.length c1)) rfl rfl 46 zeroC HGX.out (by kernel_rfl) (by kernel_rfl) (by kernel_rfl) ?_; intro w8q hx hb hf; have HGX7 := Aside0.mk hx; have HB7 : Aside0 (Below w6.heap.size w6 w8q) := ⟨HB6.out.trans (hb.mono HGG.out)⟩; clear hx hb hf; have f8 := (blk_cell ((HB7.out.block ge (blk_lt HGE5.out)).trans HGE5.out) 8).trans (rfl : _ = some (Value.slice (some ae) x.f6.length c8)); have u0 := cells_later HB7.out HZ.out; have g0 := (blk_cell HGX7.out 0).trans (rfl : _ = some (Value.int .i64 q.f0)); have g1 := (blk_cell HGX7.out 1).trans (rfl : _ = some (Value.int .i64 q.f1.f0)); have g2 := (blk_cell HGX7.out 2).trans (rfl : _ = some (Value.int .i64 q.f1.f1)); have g3 := (blk_cell HGX7.out 3).trans (rfl : _ = some (Value.string q.f1.f2)); have g4 := (blk_cell HGX7.out 4).trans (rfl : _ = some (Value.int .i64 q.f2)); have g5 := (blk_cell HGX7.out 5).trans (rfl : _ = some (Value.int .i64 q.f3)); have g6 := (blk_cell HGX7.out 6).trans (rfl : _ = some (Value.int .i64 q.f4)); have g7 := (blk_cell HGX7.out 7).trans (rfl : _ = some (Value.string q.f5)); have g8 := (blk_cell HGX7.out 8).trans (rfl : _ = some (Value.slice A1 q.f6.length c1))))
      rcases Bool.eq_false_or_eq_true (q.f0 == 2) with q1 | q1
      · rcases Bool.eq_false_or_eq_true (q.f2 == rel) with q2 | q2
        · rcases Bool.eq_false_or_eq_true (p.f0 == 1) with q3 | q3
          · have HI : Aside0 (LO = some q.f3) := ⟨by rw [HJ.out]; rw [if_neg (H0.out (by decide))]; exact if_pos ⟨beq_iff_eq.1 q1, beq_iff_eq.1 q2, beq_iff_eq.1 q3⟩⟩
            go_wp2_with fail
            refine bodyPost_ret (v := .tuple #[.int .i64 q.f3, .bool true]) (by simp [results, Tryd.results11, go_sem]) rfl ?_
            rw [HI.out]
            exact ⟨rfl, HB5.out.trans (HB7.out.mono HB5.out.size)⟩
          · have HQ : Aside0 (¬ (q.f0 = 2 ∧ q.f2 = rel ∧ p.f0 = 1)) := ⟨fun h => by rw [h.2.2] at q3; cases q3⟩
            go_wp2_with fail
            go_roundw
            case rel => exact ⟨2, by decide, rfl, ⟨fun _ => H0.out (by decide)⟩, ⟨fun _ => HQ.out⟩, HB7⟩
            case measure => simp [intOf]
        · have HQ : Aside0 (¬ (q.f0 = 2 ∧ q.f2 = rel ∧ p.f0 = 1)) := ⟨fun h => by rw [h.2.1] at q2; simp at q2⟩
          go_wp2_with fail
          go_roundw
          case rel => exact ⟨2, by decide, rfl, ⟨fun _ => H0.out (by decide)⟩, ⟨fun _ => HQ.out⟩, HB7⟩
          case measure => simp [intOf]
      · have HQ : Aside0 (¬ (q.f0 = 2 ∧ q.f2 = rel ∧ p.f0 = 1)) := ⟨fun h => by rw [h.1] at q1; cases q1⟩
        go_wp2_with fail
        go_roundw
        case rel => exact ⟨2, by decide, rfl, ⟨fun _ => H0.out (by decide)⟩, ⟨fun _ => HQ.out⟩, HB7⟩
        case measure => simp [intOf]
    · have HI : Aside0 (LO = none) := ⟨by rw [HJ.out, if_neg (H0.out (by decide)), if_neg (H1.out (by decide))]⟩
      go_wp2
      refine bodyPost_ret (v := .tuple #[.int .i64 0, .bool false]) (by simp [results, Tryd.results11, go_sem]) rfl ?_
      rw [HI.out]
      exact ⟨rfl, HB5.out.trans (HW.out.mono HB5.out.size)⟩


end Go.Proofs.YtmnjaihalajhcaaDoor.QPlanConds
