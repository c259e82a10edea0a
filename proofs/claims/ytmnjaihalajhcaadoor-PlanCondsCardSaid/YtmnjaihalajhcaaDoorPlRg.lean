import Derived.Test.YtmnjaihalajhcaaDoorPlRf
/- Plan: walks by hand; the conditions stand in each theorem. -/
namespace Go.Proofs.YtmnjaihalajhcaaDoor.QPlanConds
open Go.RowKit Go.Proofs.YtmnjaihalajhcaaDoorW.PrintWords Go.Proofs.YtmnjaihalajhcaaDoorW.PrintLast Go.Proofs.YtmnjaihalajhcaaDoorW.PrintMore
attribute [local go_sem] max2_int min2_int max_two min_two max_three min_three max_four min_four
set_option linter.unusedVariables false
set_option linter.unusedSimpArgs false
theorem eqX_no {L : List S46} {i : Int} (h : ¬ (0 ≤ i ∧ i < (L.length : Int) ∧ (rd_T46 L i).f0 = 9 ∧ rightX (rd_T46 L i) = true)) : eqX L i = none := by unfold eqX; rw [if_neg h]
theorem eqX_yes {L : List S46} {i : Int} (h : 0 ≤ i ∧ i < (L.length : Int) ∧ (rd_T46 L i).f0 = 9 ∧ rightX (rd_T46 L i) = true) : eqX L i = some (rd_T46 L i) := by unfold eqX; rw [if_pos h]
theorem joinsX_neg {L : List S46} {i l r : Int} (h : l < 0 ∨ r < 0) : joinsX L i l r = false := by
  unfold joinsX
  split
  · rfl
  · split
    · rfl
    · split
      · rfl
      · omega
set_option maxRecDepth 8000 in
set_option maxHeartbeats 8000000 in
theorem refJoins13 (b : BV) (L : List S46) (i left right : Int) (w : World) (hl63 : left < 9223372036854775808) (hr63 : right < 9223372036854775808) (hn : b.n4 = L.length) (hC : k46.C w b.A4 b.n4 L) :
    Calls Tryd.prog 13 #[b.enc, .int .i64 i, .int .i64 left, .int .i64 right] w fun e_ w' => e_ = .returned (.bool (joinsX L i left right)) ∧ Below w.heap.size w w' := by
  have hu26 := Tryd.underlying26
  have hu46 := Tryd.underlying46
  rcases Bool.eq_false_or_eq_true (decide (i < 0)) with q1 | q1
  · have HF : Aside0 (joinsX L i left right = false) := ⟨by unfold joinsX; rw [eqX_no (by have := of_decide_eq_true q1; omega)]⟩
    clear hl63 hr63
    unfold BV.enc
    go_enter Tryd.func13, Tryd.ntmps13
    go_wp2_with (((with_reducible refine gate_dst (N := 4) rfl ?_); refine box_event ?hg (N := 4) ?hd (cs := b.cells) (t := 26) ?hr ?_; (case hd => rfl); (case hg => rfl); (case hr => unfold BV.cells; first | (go_simp; done) | (go_simp; rfl)); intro gb hg1 w1 hbox hb; have BB := Aside0.mk hbox; have HB1 := Aside0.mk hb; have hb4 := (blk_cell BB.out 4).trans (rfl : _ = some (Value.slice b.A4 b.n4 b.c4)); rw [hn] at hb4; clear hbox hb hg1))
    go_ret
    rw [HF.out]
    exact ⟨rfl, HB1.out⟩
  rcases Bool.eq_false_or_eq_true (decide (i ≥ (L.length : Int))) with q2 | q2
  · have HF : Aside0 (joinsX L i left right = false) := ⟨by unfold joinsX; rw [eqX_no (by have := of_decide_eq_true q2; omega)]⟩
    clear hl63 hr63
    unfold BV.enc
    go_enter Tryd.func13, Tryd.ntmps13
    go_wp2_with (((with_reducible refine gate_dst (N := 4) rfl ?_); refine box_event ?hg (N := 4) ?hd (cs := b.cells) (t := 26) ?hr ?_; (case hd => rfl); (case hg => rfl); (case hr => unfold BV.cells; first | (go_simp; done) | (go_simp; rfl)); intro gb hg1 w1 hbox hb; have BB := Aside0.mk hbox; have HB1 := Aside0.mk hb; have hb4 := (blk_cell BB.out 4).trans (rfl : _ = some (Value.slice b.A4 b.n4 b.c4)); rw [hn] at hb4; clear hbox hb hg1))
    go_ret
    rw [HF.out]
    exact ⟨rfl, HB1.out⟩
  rcases Bool.eq_false_or_eq_true (decide (left < 0)) with q3 | q3
  · have HF : Aside0 (joinsX L i left right = false) := ⟨joinsX_neg (Or.inl (of_decide_eq_true q3))⟩
    clear hl63 hr63
    unfold BV.enc
    go_enter Tryd.func13, Tryd.ntmps13
    go_wp2_with (((with_reducible refine gate_dst (N := 4) rfl ?_); refine box_event ?hg (N := 4) ?hd (cs := b.cells) (t := 26) ?hr ?_; (case hd => rfl); (case hg => rfl); (case hr => unfold BV.cells; first | (go_simp; done) | (go_simp; rfl)); intro gb hg1 w1 hbox hb; have BB := Aside0.mk hbox; have HB1 := Aside0.mk hb; have hb4 := (blk_cell BB.out 4).trans (rfl : _ = some (Value.slice b.A4 b.n4 b.c4)); rw [hn] at hb4; clear hbox hb hg1))
    go_ret
    rw [HF.out]
    exact ⟨rfl, HB1.out⟩
  rcases Bool.eq_false_or_eq_true (decide (right < 0)) with q4 | q4
  · have HF : Aside0 (joinsX L i left right = false) := ⟨joinsX_neg (Or.inr (of_decide_eq_true q4))⟩
    clear hl63 hr63
    unfold BV.enc
    go_enter Tryd.func13, Tryd.ntmps13
    go_wp2_with (((with_reducible refine gate_dst (N := 4) rfl ?_); refine box_event ?hg (N := 4) ?hd (cs := b.cells) (t := 26) ?hr ?_; (case hd => rfl); (case hg => rfl); (case hr => unfold BV.cells; first | (go_simp; done) | (go_simp; rfl)); intro gb hg1 w1 hbox hb; have BB := Aside0.mk hbox; have HB1 := Aside0.mk hb; have hb4 := (blk_cell BB.out 4).trans (rfl : _ = some (Value.slice b.A4 b.n4 b.c4)); rw [hn] at hb4; clear hbox hb hg1))
    go_ret
    rw [HF.out]
    exact ⟨rfl, HB1.out⟩
  have h0 : 0 ≤ i := by have := of_decide_eq_false q1; omega
  have hl : i < (L.length : Int) := by have := of_decide_eq_false q2; omega
  obtain ⟨ad, A8, c8, e0, x0, x1, x2, x3, x4, x5, x6, x7, x8, l8, g8⟩ := at_T46 hC i h0 (by rw [hn]; exact hl)
  have HNO : Aside0 (¬ ((rd_T46 L i).f0 = 9 ∧ rightX (rd_T46 L i) = true) → joinsX L i left right = false) := ⟨fun h => by unfold joinsX; rw [eqX_no (fun q => h q.2.2)]⟩
  have HYES : Aside0 ((rd_T46 L i).f0 = 9 → rightX (rd_T46 L i) = true → eqX L i = some (rd_T46 L i)) := ⟨fun h h' => eqX_yes ⟨h0, hl, h, h'⟩⟩
  have HJE : Aside0 (eqX L i = some (rd_T46 L i) → joinsX L i left right = joinsE (rd_T46 L i) left right) := ⟨fun h => by
    unfold joinsX
    rw [h]
    show (if _ then _ else _) = _
    rw [if_neg (of_decide_eq_false q3), if_neg (of_decide_eq_false q4)]⟩
  have HG8 := Aside0.mk g8
  have HLR : Aside0 (0 ≤ left ∧ left < 9223372036854775808 ∧ 0 ≤ right ∧ right < 9223372036854775808) := ⟨by have := of_decide_eq_false q3; have := of_decide_eq_false q4; omega⟩
  have HC := Aside0.mk hC
  have HIX := Aside0.mk (And.intro h0 hl)
  clear hC l8 g8 hl63 hr63
  generalize rd_T46 L i = x at *
  generalize joinsX L i left right = RX at *
  have H23 : Aside0 (∀ w', Below w.heap.size w w' → Calls Tryd.prog 23 #[encE x A8 c8] w' fun e_ w'' => e_ = .returned (.bool (rightX x)) ∧ Below w'.heap.size w' w'') := ⟨fun w' hb => right23 x A8 c8 w' (Kd.C_below HG8.out hb)⟩
  rcases b with ⟨A0, n0, c0, core, A2, n2, c2, A3, n3, c3, A4, n4, c4, A5, n5, c5, A6, n6, c6, g7, A8_, n8, c8_, A9, n9, c9, d10⟩
  dsimp only at hn e0 HC
  subst hn
  subst e0
  rcases Bool.eq_false_or_eq_true (rightX x) with qr | qr
  rotate_left
  · have HF := Aside0.mk (HNO.out (fun h => by rw [qr] at h; cases h.2))
    rw [qr] at H23
    clear qr
    unfold BV.enc encE at *
    dsimp only
    go_enter Tryd.func13, Tryd.ntmps13
    go_wp2_with (first | ((with_reducible refine gate_dst (N := 4) rfl ?_); refine box_event ?hg (N := 4) ?hd (cs := (BV.cells ⟨A0, n0, c0, core, A2, n2, c2, A3, n3, c3, some ad, L.length, c4, A5, n5, c5, A6, n6, c6, g7, A8_, n8, c8_, A9, n9, c9, d10⟩)) (t := 26) ?hr ?_; (case hd => rfl); (case hg => rfl); (case hr => unfold BV.cells; first | (go_simp; done) | (go_simp; rfl)); intro gb hg1 w1 hbox hb; have BB := Aside0.mk hbox; have HB1 := Aside0.mk hb; have hb4 := (blk_cell BB.out 4).trans (rfl : _ = some (Value.slice (some ad) L.length c4)); have v0 := cells_later HB1.out x0; have v1 := cells_later HB1.out x1; have v2 := cells_later HB1.out x2; have v3 := cells_later HB1.out x3; have v4 := cells_later HB1.out x4; have v5 := cells_later HB1.out x5; have v6 := cells_later HB1.out x6; have v7 := cells_later HB1.out x7; have v8 := cells_later HB1.out x8; clear x0 x1 x2 x3 x4 x5 x6 x7 x8; clear hbox hb hg1) | ((with_reducible refine gate_dst (N := 9) rfl ?_); refine box_event ?hg (N := 9) ?hd (cs := zeroC) (t := 46) ?hr ?_; (case hd => rfl); (case hg => rfl); (case hr => unfold zeroC; first | (go_simp; done) | (go_simp; rfl)); intro ge hg1 w3 hbox hb; have HGE := Aside0.mk hbox; have HB3 := Aside0.mk (HB1.out.trans (hb.mono HB1.out.size)); have HGW : Aside0 (w.heap.size ≤ ge) := ⟨by rw [hg1]; exact HB1.out.size⟩; clear hbox hb hg1) | ((with_reducible refine gate_store (t := 46) (p := 9) rfl ?_); refine row_event rfl 46 _ _ rfl ge (cellsE x (.slice A8 x.f6.length c8)) rfl rfl 46 zeroC HGE.out (by kernel_rfl) (by kernel_rfl) (by kernel_rfl) ?_; intro w5 hx hb hf; have HGE5a := Aside0.mk hx; have HB5a : Aside0 (Below w.heap.size w w5) := ⟨HB3.out.trans (hb.mono HGW.out)⟩; clear hx hb hf; clear v0 v1 v2 v3 v4 v5 v6 v7 v8; have f0 := (blk_cell HGE5a.out 0).trans (rfl : _ = some (Value.int .i64 x.f0)); have f1 := (blk_cell HGE5a.out 1).trans (rfl : _ = some (Value.int .i64 x.f1.f0)); have f2 := (blk_cell HGE5a.out 2).trans (rfl : _ = some (Value.int .i64 x.f1.f1)); have f3 := (blk_cell HGE5a.out 3).trans (rfl : _ = some (Value.string x.f1.f2)); have f4 := (blk_cell HGE5a.out 4).trans (rfl : _ = some (Value.int .i64 x.f2)); have f5 := (blk_cell HGE5a.out 5).trans (rfl : _ = some (Value.int .i64 x.f3)); have f6 := (blk_cell HGE5a.out 6).trans (rfl : _ = some (Value.int .i64 x.f4)); have f7 := (blk_cell HGE5a.out 7).trans (rfl : _ = some (Value.string x.f5)); have f8 := (blk_cell HGE5a.out 8).trans (rfl : _ = some (Value.slice A8 x.f6.length c8))) | (go_at_call 23; refine (H23.out _ HB5a.out).mono ?_; rintro e_ w6 ⟨rfl, hb6⟩; have HB5 := Aside0.mk (bst HB5a.out hb6); have HGE5 := Aside0.mk ((hb6.block ge (blk_lt HGE5a.out)).trans HGE5a.out); clear hb6 f0 f1 f2 f3 f4 f5 f6 f7 f8; have f0 := (blk_cell HGE5.out 0).trans (rfl : _ = some (Value.int .i64 x.f0)); have f1 := (blk_cell HGE5.out 1).trans (rfl : _ = some (Value.int .i64 x.f1.f0)); have f2 := (blk_cell HGE5.out 2).trans (rfl : _ = some (Value.int .i64 x.f1.f1)); have f3 := (blk_cell HGE5.out 3).trans (rfl : _ = some (Value.string x.f1.f2)); have f4 := (blk_cell HGE5.out 4).trans (rfl : _ = some (Value.int .i64 x.f2)); have f5 := (blk_cell HGE5.out 5).trans (rfl : _ = some (Value.int .i64 x.f3)); have f6 := (blk_cell HGE5.out 6).trans (rfl : _ = some (Value.int .i64 x.f4)); have f7 := (blk_cell HGE5.out 7).trans (rfl : _ = some (Value.string x.f5)); have f8 := (blk_cell HGE5.out 8).trans (rfl : _ = some (Value.slice A8 x.f6.length c8))))
    go_ret
    rw [HF.out]
    exact ⟨rfl, HB5.out⟩
  rcases Bool.eq_false_or_eq_true (x.f0 != 9) with q9 | q9
  · have HF := Aside0.mk (HNO.out (fun h => by rw [h.1] at q9; cases q9))
    rw [qr] at H23
    clear qr
    unfold BV.enc encE at *
    dsimp only
    go_enter Tryd.func13, Tryd.ntmps13
    go_wp2_with (first | ((with_reducible refine gate_dst (N := 4) rfl ?_); refine box_event ?hg (N := 4) ?hd (cs := (BV.cells ⟨A0, n0, c0, core, A2, n2, c2, A3, n3, c3, some ad, L.length, c4, A5, n5, c5, A6, n6, c6, g7, A8_, n8, c8_, A9, n9, c9, d10⟩)) (t := 26) ?hr ?_; (case hd => rfl); (case hg => rfl); (case hr => unfold BV.cells; first | (go_simp; done) | (go_simp; rfl)); intro gb hg1 w1 hbox hb; have BB := Aside0.mk hbox; have HB1 := Aside0.mk hb; have hb4 := (blk_cell BB.out 4).trans (rfl : _ = some (Value.slice (some ad) L.length c4)); have v0 := cells_later HB1.out x0; have v1 := cells_later HB1.out x1; have v2 := cells_later HB1.out x2; have v3 := cells_later HB1.out x3; have v4 := cells_later HB1.out x4; have v5 := cells_later HB1.out x5; have v6 := cells_later HB1.out x6; have v7 := cells_later HB1.out x7; have v8 := cells_later HB1.out x8; clear x0 x1 x2 x3 x4 x5 x6 x7 x8; clear hbox hb hg1) | ((with_reducible refine gate_dst (N := 9) rfl ?_); refine box_event ?hg (N := 9) ?hd (cs := zeroC) (t := 46) ?hr ?_; (case hd => rfl); (case hg => rfl); (case hr => unfold zeroC; first | (go_simp; done) | (go_simp; rfl)); intro ge hg1 w3 hbox hb; have HGE := Aside0.mk hbox; have HB3 := Aside0.mk (HB1.out.trans (hb.mono HB1.out.size)); have HGW : Aside0 (w.heap.size ≤ ge) := ⟨by rw [hg1]; exact HB1.out.size⟩; clear hbox hb hg1) | ((with_reducible refine gate_store (t := 46) (p := 9) rfl ?_); refine row_event rfl 46 _ _ rfl ge (cellsE x (.slice A8 x.f6.length c8)) rfl rfl 46 zeroC HGE.out (by kernel_rfl) (by kernel_rfl) (by kernel_rfl) ?_; intro w5 hx hb hf; have HGE5a := Aside0.mk hx; have HB5a : Aside0 (Below w.heap.size w w5) := ⟨HB3.out.trans (hb.mono HGW.out)⟩; clear hx hb hf; clear v0 v1 v2 v3 v4 v5 v6 v7 v8; have f0 := (blk_cell HGE5a.out 0).trans (rfl : _ = some (Value.int .i64 x.f0)); have f1 := (blk_cell HGE5a.out 1).trans (rfl : _ = some (Value.int .i64 x.f1.f0)); have f2 := (blk_cell HGE5a.out 2).trans (rfl : _ = some (Value.int .i64 x.f1.f1)); have f3 := (blk_cell HGE5a.out 3).trans (rfl : _ = some (Value.string x.f1.f2)); have f4 := (blk_cell HGE5a.out 4).trans (rfl : _ = some (Value.int .i64 x.f2)); have f5 := (blk_cell HGE5a.out 5).trans (rfl : _ = some (Value.int .i64 x.f3)); have f6 := (blk_cell HGE5a.out 6).trans (rfl : _ = some (Value.int .i64 x.f4)); have f7 := (blk_cell HGE5a.out 7).trans (rfl : _ = some (Value.string x.f5)); have f8 := (blk_cell HGE5a.out 8).trans (rfl : _ = some (Value.slice A8 x.f6.length c8))) | (go_at_call 23; refine (H23.out _ HB5a.out).mono ?_; rintro e_ w6 ⟨rfl, hb6⟩; have HB5 := Aside0.mk (bst HB5a.out hb6); have HGE5 := Aside0.mk ((hb6.block ge (blk_lt HGE5a.out)).trans HGE5a.out); clear hb6 f0 f1 f2 f3 f4 f5 f6 f7 f8; have f0 := (blk_cell HGE5.out 0).trans (rfl : _ = some (Value.int .i64 x.f0)); have f1 := (blk_cell HGE5.out 1).trans (rfl : _ = some (Value.int .i64 x.f1.f0)); have f2 := (blk_cell HGE5.out 2).trans (rfl : _ = some (Value.int .i64 x.f1.f1)); have f3 := (blk_cell HGE5.out 3).trans (rfl : _ = some (Value.string x.f1.f2)); have f4 := (blk_cell HGE5.out 4).trans (rfl : _ = some (Value.int .i64 x.f2)); have f5 := (blk_cell HGE5.out 5).trans (rfl : _ = some (Value.int .i64 x.f3)); have f6 := (blk_cell HGE5.out 6).trans (rfl : _ = some (Value.int .i64 x.f4)); have f7 := (blk_cell HGE5.out 7).trans (rfl : _ = some (Value.string x.f5)); have f8 := (blk_cell HGE5.out 8).trans (rfl : _ = some (Value.slice A8 x.f6.length c8))))
    go_ret
    rw [HF.out]
    exact ⟨rfl, HB5.out⟩
  have heq := HYES.out (bne_eq_false_iff_eq.1 q9) qr
  have h2 := eq_two heq
  have HX := Aside0.mk (HJE.out heq)
  obtain ⟨ta, tb_, ha, hb_, hta, htb, _⟩ := eq_tables heq
  rw [qr] at H23
  obtain ⟨ae, A0_, c0_, A1_, c1_, had, ⟨z0_, z1_, z2_, z3_, z4_, z5_, z6_, z7_, z8_, z9_, z10_, z11_, z12_, z13_, z14_, z15_, z16_, z17_⟩, hC0, hC1⟩ := two46 h2 HG8.out
  subst had
  have HC0 := Aside0.mk hC0
  have HC1 := Aside0.mk hC1
  have H2 := Aside0.mk h2
  have hxl : (x.f6.length : Int) = 2 := by rw [h2]; rfl
  have H25a : Aside0 (∀ w', Below w.heap.size w w' → Calls Tryd.prog 25 #[encE (rd_T46 x.f6 0) A0_ c0_] w' fun e_ w'' => e_ = .returned (.int .i64 (ta : Int)) ∧ Below w'.heap.size w' w'') := ⟨fun w' hb => by rw [← hta]; exact tables25 _ A0_ c0_ w' (Kd.C_below HC0.out hb)⟩
  have H25b : Aside0 (∀ w', Below w.heap.size w w' → Calls Tryd.prog 25 #[encE (rd_T46 x.f6 1) A1_ c1_] w' fun e_ w'' => e_ = .returned (.int .i64 (tb_ : Int)) ∧ Below w'.heap.size w' w'') := ⟨fun w' hb => by rw [← htb]; exact tables25 _ A1_ c1_ w' (Kd.C_below HC1.out hb)⟩
  have HJ : Aside0 (RX = ((wiB (ta : Int) left && wiB (tb_ : Int) right) || (wiB (ta : Int) right && wiB (tb_ : Int) left))) := ⟨by
    rw [HX.out]
    unfold joinsE
    obtain ⟨a1, a2, a3, a4⟩ := HLR.out
    obtain ⟨ln, rfl⟩ := Int.eq_ofNat_of_zero_le a1
    obtain ⟨rn, rfl⟩ := Int.eq_ofNat_of_zero_le a3
    rw [hta, htb, wi_in (by omega) (by omega), wi_in (by omega) (by omega), wi_in (by omega) (by omega), wi_in (by omega) (by omega)]⟩
  have W1 := Aside0.mk (wi26 (ta : Int) left)
  have W2 := Aside0.mk (wi26 (tb_ : Int) right)
  have W3 := Aside0.mk (wi26 (ta : Int) right)
  have W4 := Aside0.mk (wi26 (tb_ : Int) left)
  clear hC0 hC1 heq h2 hta htb qr HX HJE HYES HNO ha hb_
  have HZ : Aside0 (w.cell? ae = some (.int .i64 (rd_T46 x.f6 0).f0) ∧ w.cell? ⟨ae.block, ae.off + 1, none⟩ = some (.int .i64 (rd_T46 x.f6 0).f1.f0) ∧ w.cell? ⟨ae.block, ae.off + 2, none⟩ = some (.int .i64 (rd_T46 x.f6 0).f1.f1) ∧ w.cell? ⟨ae.block, ae.off + 3, none⟩ = some (.string (rd_T46 x.f6 0).f1.f2) ∧ w.cell? ⟨ae.block, ae.off + 4, none⟩ = some (.int .i64 (rd_T46 x.f6 0).f2) ∧ w.cell? ⟨ae.block, ae.off + 5, none⟩ = some (.int .i64 (rd_T46 x.f6 0).f3) ∧ w.cell? ⟨ae.block, ae.off + 6, none⟩ = some (.int .i64 (rd_T46 x.f6 0).f4) ∧ w.cell? ⟨ae.block, ae.off + 7, none⟩ = some (.string (rd_T46 x.f6 0).f5) ∧ w.cell? ⟨ae.block, ae.off + 8, none⟩ = some (.slice A0_ (rd_T46 x.f6 0).f6.length c0_) ∧ w.cell? ⟨ae.block, ae.off + 9, none⟩ = some (.int .i64 (rd_T46 x.f6 1).f0) ∧ w.cell? ⟨ae.block, ae.off + 9 + 1, none⟩ = some (.int .i64 (rd_T46 x.f6 1).f1.f0) ∧ w.cell? ⟨ae.block, ae.off + 9 + 2, none⟩ = some (.int .i64 (rd_T46 x.f6 1).f1.f1) ∧ w.cell? ⟨ae.block, ae.off + 9 + 3, none⟩ = some (.string (rd_T46 x.f6 1).f1.f2) ∧ w.cell? ⟨ae.block, ae.off + 9 + 4, none⟩ = some (.int .i64 (rd_T46 x.f6 1).f2) ∧ w.cell? ⟨ae.block, ae.off + 9 + 5, none⟩ = some (.int .i64 (rd_T46 x.f6 1).f3) ∧ w.cell? ⟨ae.block, ae.off + 9 + 6, none⟩ = some (.int .i64 (rd_T46 x.f6 1).f4) ∧ w.cell? ⟨ae.block, ae.off + 9 + 7, none⟩ = some (.string (rd_T46 x.f6 1).f5) ∧ w.cell? ⟨ae.block, ae.off + 9 + 8, none⟩ = some (.slice A1_ (rd_T46 x.f6 1).f6.length c1_)) := ⟨⟨z0_, z1_, z2_, z3_, z4_, z5_, z6_, z7_, z8_, z9_, z10_, z11_, z12_, z13_, z14_, z15_, z16_, z17_⟩⟩
  clear z0_ z1_ z2_ z3_ z4_ z5_ z6_ z7_ z8_ z9_ z10_ z11_ z12_ z13_ z14_ z15_ z16_ z17_
  generalize rd_T46 x.f6 0 = p at *
  generalize rd_T46 x.f6 1 = q at *
  generalize wiB (ta : Int) left = u1 at *
  generalize wiB (tb_ : Int) right = u2 at *
  generalize wiB (ta : Int) right = u3 at *
  generalize wiB (tb_ : Int) left = u4 at *
  generalize (ta : Int) = ta at *
  generalize (tb_ : Int) = tb_ at *
  unfold BV.enc encE at *
  dsimp only
  go_enter Tryd.func13, Tryd.ntmps13
  go_upto_region 9 with (first | ((with_reducible refine gate_dst (N := 4) rfl ?_); refine box_event ?hg (N := 4) ?hd (cs := (BV.cells ⟨A0, n0, c0, core, A2, n2, c2, A3, n3, c3, some ad, L.length, c4, A5, n5, c5, A6, n6, c6, g7, A8_, n8, c8_, A9, n9, c9, d10⟩)) (t := 26) ?hr ?_; (case hd => rfl); (case hg => rfl); (case hr => unfold BV.cells; first | (go_simp; done) | (go_simp; rfl)); intro gb hg1 w1 hbox hb; have BB := Aside0.mk hbox; have HB1 := Aside0.mk hb; have hb4 := (blk_cell BB.out 4).trans (rfl : _ = some (Value.slice (some ad) L.length c4)); have v0 := cells_later HB1.out x0; have v1 := cells_later HB1.out x1; have v2 := cells_later HB1.out x2; have v3 := cells_later HB1.out x3; have v4 := cells_later HB1.out x4; have v5 := cells_later HB1.out x5; have v6 := cells_later HB1.out x6; have v7 := cells_later HB1.out x7; have v8 := cells_later HB1.out x8; clear x0 x1 x2 x3 x4 x5 x6 x7 x8; clear hbox hb hg1) | ((with_reducible refine gate_dst (N := 9) rfl ?_); refine box_event ?hg (N := 9) ?hd (cs := zeroC) (t := 46) ?hr ?_; (case hd => rfl); (case hg => rfl); (case hr => unfold zeroC; first | (go_simp; done) | (go_simp; rfl)); intro ge hg1 w3 hbox hb; have HGE := Aside0.mk hbox; have HB3 := Aside0.mk (HB1.out.trans (hb.mono HB1.out.size)); have HGW : Aside0 (w.heap.size ≤ ge) := ⟨by rw [hg1]; exact HB1.out.size⟩; clear hbox hb hg1) | ((with_reducible refine gate_store (t := 46) (p := 9) rfl ?_); refine row_event rfl 46 _ _ rfl ge (cellsE x (.slice (some ae) x.f6.length c8)) rfl rfl 46 zeroC HGE.out (by kernel_rfl) (by kernel_rfl) (by kernel_rfl) ?_; intro w5 hx hb hf; have HGE5a := Aside0.mk hx; have HB5a : Aside0 (Below w.heap.size w w5) := ⟨HB3.out.trans (hb.mono HGW.out)⟩; clear hx hb hf; clear v0 v1 v2 v3 v4 v5 v6 v7 v8; have f0 := (blk_cell HGE5a.out 0).trans (rfl : _ = some (Value.int .i64 x.f0)); have f1 := (blk_cell HGE5a.out 1).trans (rfl : _ = some (Value.int .i64 x.f1.f0)); have f2 := (blk_cell HGE5a.out 2).trans (rfl : _ = some (Value.int .i64 x.f1.f1)); have f3 := (blk_cell HGE5a.out 3).trans (rfl : _ = some (Value.string x.f1.f2)); have f4 := (blk_cell HGE5a.out 4).trans (rfl : _ = some (Value.int .i64 x.f2)); have f5 := (blk_cell HGE5a.out 5).trans (rfl : _ = some (Value.int .i64 x.f3)); have f6 := (blk_cell HGE5a.out 6).trans (rfl : _ = some (Value.int .i64 x.f4)); have f7 := (blk_cell HGE5a.out 7).trans (rfl : _ = some (Value.string x.f5)); have f8 := (blk_cell HGE5a.out 8).trans (rfl : _ = some (Value.slice (some ae) x.f6.length c8))) | (go_at_call 23; refine (H23.out _ HB5a.out).mono ?_; rintro e_ w6 ⟨rfl, hb6⟩; have HB5 := Aside0.mk (bst HB5a.out hb6); have HGE5 := Aside0.mk ((hb6.block ge (blk_lt HGE5a.out)).trans HGE5a.out); clear hb6 f0 f1 f2 f3 f4 f5 f6 f7 f8; have f0 := (blk_cell HGE5.out 0).trans (rfl : _ = some (Value.int .i64 x.f0)); have f1 := (blk_cell HGE5.out 1).trans (rfl : _ = some (Value.int .i64 x.f1.f0)); have f2 := (blk_cell HGE5.out 2).trans (rfl : _ = some (Value.int .i64 x.f1.f1)); have f3 := (blk_cell HGE5.out 3).trans (rfl : _ = some (Value.string x.f1.f2)); have f4 := (blk_cell HGE5.out 4).trans (rfl : _ = some (Value.int .i64 x.f2)); have f5 := (blk_cell HGE5.out 5).trans (rfl : _ = some (Value.int .i64 x.f3)); have f6 := (blk_cell HGE5.out 6).trans (rfl : _ = some (Value.int .i64 x.f4)); have f7 := (blk_cell HGE5.out 7).trans (rfl : _ = some (Value.string x.f5)); have f8 := (blk_cell HGE5.out 8).trans (rfl : _ = some (Value.slice (some ae) x.f6.length c8)); have y0 := cells_later HB5.out HZ.out.1; have y1 := cells_later HB5.out HZ.out.2.1; have y2 := cells_later HB5.out HZ.out.2.2.1; have y3 := cells_later HB5.out HZ.out.2.2.2.1; have y4 := cells_later HB5.out HZ.out.2.2.2.2.1; have y5 := cells_later HB5.out HZ.out.2.2.2.2.2.1; have y6 := cells_later HB5.out HZ.out.2.2.2.2.2.2.1; have y7 := cells_later HB5.out HZ.out.2.2.2.2.2.2.2.1; have y8 := cells_later HB5.out HZ.out.2.2.2.2.2.2.2.2.1; have y9 := cells_later HB5.out HZ.out.2.2.2.2.2.2.2.2.2.1; have y10 := cells_later HB5.out HZ.out.2.2.2.2.2.2.2.2.2.2.1; have y11 := cells_later HB5.out HZ.out.2.2.2.2.2.2.2.2.2.2.2.1; have y12 := cells_later HB5.out HZ.out.2.2.2.2.2.2.2.2.2.2.2.2.1; have y13 := cells_later HB5.out HZ.out.2.2.2.2.2.2.2.2.2.2.2.2.2.1; have y14 := cells_later HB5.out HZ.out.2.2.2.2.2.2.2.2.2.2.2.2.2.2.1; have y15 := cells_later HB5.out HZ.out.2.2.2.2.2.2.2.2.2.2.2.2.2.2.2.1; have y16 := cells_later HB5.out HZ.out.2.2.2.2.2.2.2.2.2.2.2.2.2.2.2.2.1; have y17 := cells_later HB5.out HZ.out.2.2.2.2.2.2.2.2.2.2.2.2.2.2.2.2.2) | (go_at_call 25; refine (H25a.out _ HB5.out).mono ?_; clear H25a; rintro e_ w7 ⟨rfl, hb7⟩; have HB7 := Aside0.mk (bst HB5.out hb7); have HGE7 := Aside0.mk ((hb7.block ge (blk_lt HGE5.out)).trans HGE5.out); clear hb7 y0 y1 y2 y3 y4 y5 y6 y7 y8 y9 y10 y11 y12 y13 y14 y15 y16 y17; have f8 := (blk_cell HGE7.out 8).trans (rfl : _ = some (Value.slice (some ae) x.f6.length c8)); have y0 := cells_later HB7.out HZ.out.1; have y1 := cells_later HB7.out HZ.out.2.1; have y2 := cells_later HB7.out HZ.out.2.2.1; have y3 := cells_later HB7.out HZ.out.2.2.2.1; have y4 := cells_later HB7.out HZ.out.2.2.2.2.1; have y5 := cells_later HB7.out HZ.out.2.2.2.2.2.1; have y6 := cells_later HB7.out HZ.out.2.2.2.2.2.2.1; have y7 := cells_later HB7.out HZ.out.2.2.2.2.2.2.2.1; have y8 := cells_later HB7.out HZ.out.2.2.2.2.2.2.2.2.1; have y9 := cells_later HB7.out HZ.out.2.2.2.2.2.2.2.2.2.1; have y10 := cells_later HB7.out HZ.out.2.2.2.2.2.2.2.2.2.2.1; have y11 := cells_later HB7.out HZ.out.2.2.2.2.2.2.2.2.2.2.2.1; have y12 := cells_later HB7.out HZ.out.2.2.2.2.2.2.2.2.2.2.2.2.1; have y13 := cells_later HB7.out HZ.out.2.2.2.2.2.2.2.2.2.2.2.2.2.1; have y14 := cells_later HB7.out HZ.out.2.2.2.2.2.2.2.2.2.2.2.2.2.2.1; have y15 := cells_later HB7.out HZ.out.2.2.2.2.2.2.2.2.2.2.2.2.2.2.2.1; have y16 := cells_later HB7.out HZ.out.2.2.2.2.2.2.2.2.2.2.2.2.2.2.2.2.1; have y17 := cells_later HB7.out HZ.out.2.2.2.2.2.2.2.2.2.2.2.2.2.2.2.2.2) | (go_at_call 25; refine (H25b.out _ HB7.out).mono ?_; rintro e_ w8 ⟨rfl, hb8⟩; have HB8 := Aside0.mk (bst HB7.out hb8); clear hb8 f8 y0 y1 y2 y3 y4 y5 y6 y7 y8 y9 y10 y11 y12 y13 y14 y15 y16 y17))
  rcases u1 with _ | _
  · rcases u3 with _ | _
    · go_wp2_with (first | (go_at_call 26; ((with_reducible refine (W1.out _).mono ?_); rintro e_ w9 ⟨rfl, hb9⟩; have HB9 := Aside0.mk (bst HB8.out hb9); clear hb9 W1)) | (go_at_call 26; ((with_reducible refine (W3.out _).mono ?_); rintro e_ w10 ⟨rfl, hb10⟩; have HB10 := Aside0.mk (bst HB9.out hb10); clear hb10 W3)))
      go_ret
      rw [HJ.out]
      exact ⟨rfl, HB10.out⟩
    · go_wp2_with (first | (go_at_call 26; ((with_reducible refine (W1.out _).mono ?_); rintro e_ w9 ⟨rfl, hb9⟩; have HB9 := Aside0.mk (bst HB8.out hb9); clear hb9 W1)) | (go_at_call 26; ((with_reducible refine (W3.out _).mono ?_); rintro e_ w10 ⟨rfl, hb10⟩; have HB10 := Aside0.mk (bst HB9.out hb10); clear hb10 W3)) | (go_at_call 26; ((with_reducible refine (W4.out _).mono ?_); rintro e_ w11 ⟨rfl, hb11⟩; have HB11 := Aside0.mk (bst HB10.out hb11); clear hb11 W4)))
      go_ret
      rw [HJ.out]
      exact ⟨rfl, HB11.out⟩
  · rcases u2 with _ | _
    · rcases u3 with _ | _
      · go_wp2_with (first | (go_at_call 26; ((with_reducible refine (W1.out _).mono ?_); rintro e_ w9 ⟨rfl, hb9⟩; have HB9 := Aside0.mk (bst HB8.out hb9); clear hb9 W1)) | (go_at_call 26; ((with_reducible refine (W2.out _).mono ?_); rintro e_ w9b ⟨rfl, hb9b⟩; have HB9b := Aside0.mk (bst HB9.out hb9b); clear hb9b W2)) | (go_at_call 26; ((with_reducible refine (W3.out _).mono ?_); rintro e_ w10 ⟨rfl, hb10⟩; have HB10 := Aside0.mk (bst HB9b.out hb10); clear hb10 W3)))
        go_ret
        rw [HJ.out]
        exact ⟨rfl, HB10.out⟩
      · go_wp2_with (first | (go_at_call 26; ((with_reducible refine (W1.out _).mono ?_); rintro e_ w9 ⟨rfl, hb9⟩; have HB9 := Aside0.mk (bst HB8.out hb9); clear hb9 W1)) | (go_at_call 26; ((with_reducible refine (W2.out _).mono ?_); rintro e_ w9b ⟨rfl, hb9b⟩; have HB9b := Aside0.mk (bst HB9.out hb9b); clear hb9b W2)) | (go_at_call 26; ((with_reducible refine (W3.out _).mono ?_); rintro e_ w10 ⟨rfl, hb10⟩; have HB10 := Aside0.mk (bst HB9b.out hb10); clear hb10 W3)) | (go_at_call 26; ((with_reducible refine (W4.out _).mono ?_); rintro e_ w11 ⟨rfl, hb11⟩; have HB11 := Aside0.mk (bst HB10.out hb11); clear hb11 W4)))
        go_ret
        rw [HJ.out]
        exact ⟨rfl, HB11.out⟩
    · go_wp2_with (first | (go_at_call 26; ((with_reducible refine (W1.out _).mono ?_); rintro e_ w9 ⟨rfl, hb9⟩; have HB9 := Aside0.mk (bst HB8.out hb9); clear hb9 W1)) | (go_at_call 26; ((with_reducible refine (W2.out _).mono ?_); rintro e_ w9b ⟨rfl, hb9b⟩; have HB9b := Aside0.mk (bst HB9.out hb9b); clear hb9b W2)))
      go_ret
      rw [HJ.out]
      exact ⟨rfl, HB9b.out⟩

end Go.Proofs.YtmnjaihalajhcaaDoor.QPlanConds
