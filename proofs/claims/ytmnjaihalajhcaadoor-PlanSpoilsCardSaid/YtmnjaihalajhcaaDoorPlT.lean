import Derived.Test.YtmnjaihalajhcaaDoorPlS
/- Plan: walks by hand; the conditions stand in each theorem. -/
namespace Go.Proofs.YtmnjaihalajhcaaDoor.QPlanConds
open Go.RowKit Go.Proofs.YtmnjaihalajhcaaDoorW.PrintWords Go.Proofs.YtmnjaihalajhcaaDoorW.PrintLast Go.Proofs.YtmnjaihalajhcaaDoorW.PrintMore
attribute [local go_sem] max2_int min2_int max_two min_two max_three min_three max_four min_four
set_option linter.unusedVariables false
set_option linter.unusedSimpArgs false
theorem heap34 : Kd.Heap k34 := Kd.heap_fix (fun d hd => Kd.heap_iso _ (Kd.heap_pair (Kd.heap_int _) (Kd.heap_pair (Kd.heap_int _) (Kd.heap_pair (Kd.heap_int _) (Kd.heap_pair (Kd.heap_int _) (Kd.heap_pair Kd.heap_bool (Kd.heap_pair (Kd.heap_int _) (Kd.heap_pair (Kd.heap_int _) (Kd.heap_slice 34 hd)))))))))
theorem bits17 : ∀ (a : Fin 16) (c : Fin 5), (2 : Int) ^ c.val ≤ Go.bits .or .i64 (a.val : Int) (wrap64 (2 ^ c.val)) := by decide +kernel
theorem spoil3 {nT : Nat} {core : Int} {L : List S46} {T : List Int} {p : S34} (h : rightP nT core L T p = true) : 2 ^ core.toNat ≤ Go.bits .or .i64 p.f3 (wrap64 (2 ^ core.toNat)) := by
  obtain ⟨c1, c4, _, _, hn⟩ := right_node h
  obtain ⟨c, hc, k1, k4, k16, k2⟩ := pow_core c1 c4
  obtain ⟨s0, s1⟩ := node_set c1 c4 p hn
  rw [hc] at s1 ⊢
  obtain ⟨n, hn⟩ := Int.eq_ofNat_of_zero_le (Int.le_of_lt s0)
  rw [hn] at s1 ⊢
  exact bits17 ⟨n, by omega⟩ ⟨c, by omega⟩
theorem F_nil_ (W : World) (ok : Nat → Prop) (A : Option Addr) : Kd.F k34 W ok A ([] : List S34).length [] := fun _ _ => ⟨rfl, by simp, fun h => absurd h (Nat.lt_irrefl 0)⟩
def okQ (g : Nat) : Nat → Prop := fun k => k ≠ g
section
variable {P : Program} {ops : Array Oper} {rest : List Oper} {o : Oper} {a : Act} {Q : Exit → Act → World → Prop}
theorem lit1_event {W : World} (hg : o.guard = none) {N : Tmp} (_hd : o.dst = some N) (cells : Array Value) (e : TypeId) (hrun : (execOp a.eval o).run P W = .ok (.value (.slice (some ⟨W.heap.size, 0, none⟩) 1 1)) (W.alloc (.cells cells e)))
    (h : wpList P ops Q rest (a.put o.dst (.slice (some ⟨W.heap.size, 0, none⟩) 1 1)) (W.alloc (.cells cells e))) : wpList P ops Q (o :: rest) a W := Kd.event_run hg hrun h
end
theorem lit56 {ev : Operand → Value} {o : Oper} {W : World} (v7 : Value) (ho : o.op = .buildSlice 32 1 #[(0, .tmp 55)]) (he : ev (.tmp 55) = .agg #[.int .i64 1, .int .i64 0, .int .i64 0, .int .i64 1, .bool false, .int .i64 0, .int .i64 0, v7]) :
    (execOp ev o).run Tryd.prog W = .ok (.value (.slice (some ⟨W.heap.size, 0, none⟩) 1 1)) (W.alloc (.cells #[.int .i64 1, .int .i64 0, .int .i64 0, .int .i64 1, .bool false, .int .i64 0, .int .i64 0, v7] 34)) := by
  unfold execOp
  simp only [ho]
  go_simp
  first | done | (simp [he]; done) | (simp only [he]; go_simp; done)
theorem info34 : (Tryd.prog.info? 34).map (fun i => (i.zero, i.size, i.bytes)) = some (some (.agg #[.int .i64 0, .int .i64 0, .int .i64 0, .int .i64 0, .bool false, .int .i64 0, .int .i64 0, .slice none 0 0]), 8, 80) := by kernel_rfl
set_option maxRecDepth 8000 in
set_option maxHeartbeats 16000000 in
theorem spoils_row (W : World) (b : BV) (L : List S46) (At : Option Addr) (ct : Nat) (T : List Int) (p : S34) (A : Option Addr) (c : Nat) (how : Int) (hn : b.n4 = L.length) (hL : k46.C W b.A4 b.n4 L) (hT : (Kd.int .i64).C W At T.length T) (hct : T.length ≤ ct) (wT : (∀ y ∈ T, (Lit.int .i64 y).wf = true) ∧ T.length * 8 ≤ 140737488351232 ∧ T.length ≤ maxLen) (hC : k34.C W A p.f7.length p.f7) (wp : numsP I64 p) (wh : (Lit.int .i64 how).wf = true) :
    Calls Tryd.prog 7 #[b.enc, .slice At T.length ct, encP p A c, .int .i64 how] W fun e_ w' => e_ = .returned (.bool true) ∧ Below W.heap.size W w' := by
  have HN := Aside0.mk hn
  have HLc := Aside0.mk hL
  have HT := Aside0.mk hT
  have HC := Aside0.mk hC
  clear hn hL hT hct wT hC wp wh
  have hu34 := Tryd.underlying34
  have hu26 := Tryd.underlying26
  obtain ⟨r, hr⟩ : ∃ r, r = rightP b.n0 b.core L T p := ⟨_, rfl⟩
  have H14 : Aside0 (∀ w', Below W.heap.size W w' → Calls Tryd.prog 14 #[b.enc, .slice At T.length ct, encP p A c] w' fun e_ w'' => e_ = .returned (.bool r) ∧ Below w'.heap.size w' w'') := ⟨fun w' hb => by rw [hr]; exact right14 b L At ct T p A c w' HN.out (Kd.C_below HLc.out hb) (Kd.C_below HT.out hb) (Kd.C_below HC.out hb)⟩
  unfold BV.enc
  rcases r with _ | _
  · clear hr
    go_enter Tryd.func7, Tryd.ntmps7
    go_wp2_with (first | ((with_reducible refine gate_dst (N := 4) rfl ?_); refine box_event ?hg (N := 4) ?hd (cs := b.cells) (t := 26) ?hr ?_; (case hd => rfl); (case hg => rfl); (case hr => unfold BV.cells; first | (go_simp; done) | (go_simp; rfl)); intro gb hg1 w1 hbox hb; have BB1 := Aside0.mk hbox; have HB1 := Aside0.mk hb; clear hbox hb hg1) | ((with_reducible refine gate_dst (N := 6) rfl ?_); refine box_event ?hg (N := 6) ?hd (cs := cellsP p (.slice A p.f7.length c)) (t := 34) ?hr ?_; (case hd => rfl); (case hg => rfl); (case hr => unfold cellsP encP; first | (go_simp; done) | (go_simp; rfl)); intro gp hg1 w2 hbox hb; have BP2 := Aside0.mk hbox; have HB2 := Aside0.mk (bst HB1.out hb); have BB2 := Aside0.mk ((hb.block gb (blk_lt BB1.out)).trans BB1.out); have HNE2 : Aside0 (gb < gp) := ⟨by rw [hg1]; exact blk_lt BB1.out⟩; clear hbox hb hg1) | (go_at_call 9; refine (examples9 _).mono ?_; rintro e_ w3 ⟨rfl, hb3⟩; have HB3 := Aside0.mk (bst HB2.out hb3); have BB3 := Aside0.mk ((hb3.block gb (blk_lt BB2.out)).trans BB2.out); have BP3 := Aside0.mk ((hb3.block gp (blk_lt BP2.out)).trans BP2.out); clear hb3; have k0 := (blk_cell BP3.out 0).trans (rfl : _ = some (Value.int .i64 p.f0)); have k1 := (blk_cell BP3.out 1).trans (rfl : _ = some (Value.int .i64 p.f1)); have k2 := (blk_cell BP3.out 2).trans (rfl : _ = some (Value.int .i64 p.f2)); have k3 := (blk_cell BP3.out 3).trans (rfl : _ = some (Value.int .i64 p.f3)); have k4 := (blk_cell BP3.out 4).trans (rfl : _ = some (Value.bool p.f4)); have k5 := (blk_cell BP3.out 5).trans (rfl : _ = some (Value.int .i64 p.f5)); have k6 := (blk_cell BP3.out 6).trans (rfl : _ = some (Value.int .i64 p.f6)); have k7 := (blk_cell BP3.out 7).trans (rfl : _ = some (Value.slice A p.f7.length c)); have b0 := (blk_cell BB3.out 0).trans (rfl : _ = some (Value.slice b.A0 b.n0 b.c0)); have b1 := (blk_cell BB3.out 1).trans (rfl : _ = some (Value.int .i64 b.core)); have b2 := (blk_cell BB3.out 2).trans (rfl : _ = some (Value.slice b.A2 b.n2 b.c2)); have b3 := (blk_cell BB3.out 3).trans (rfl : _ = some (Value.slice b.A3 b.n3 b.c3)); have b4 := (blk_cell BB3.out 4).trans (rfl : _ = some (Value.slice b.A4 b.n4 b.c4)); have b5 := (blk_cell BB3.out 5).trans (rfl : _ = some (Value.slice b.A5 b.n5 b.c5)); have b6 := (blk_cell BB3.out 6).trans (rfl : _ = some (Value.slice b.A6 b.n6 b.c6)); have b7 := (blk_cell BB3.out 7).trans (rfl : _ = some (Value.bool b.g7)); have b8 := (blk_cell BB3.out 8).trans (rfl : _ = some (Value.slice b.A8 b.n8 b.c8)); have b9 := (blk_cell BB3.out 9).trans (rfl : _ = some (Value.slice b.A9 b.n9 b.c9)); have b10 := (blk_cell BB3.out 10).trans (rfl : _ = some (Value.bool b.d10))) | (go_at_call 14; refine (H14.out _ HB3.out).mono ?_; rintro e_ w4 ⟨rfl, hb4⟩; have HB4 := Aside0.mk (bst HB3.out hb4); have BB4 := Aside0.mk ((hb4.block gb (blk_lt BB3.out)).trans BB3.out); have BP4 := Aside0.mk ((hb4.block gp (blk_lt BP3.out)).trans BP3.out); clear hb4 k0 k1 k2 k3 k4 k5 k6 k7 b0 b1 b2 b3 b4 b5 b6 b7 b8 b9 b10))
    go_ret
    exact ⟨rfl, HB4.out⟩
  · have HR := Aside0.mk hr.symm
    clear hr
    go_enter Tryd.func7, Tryd.ntmps7
    go_upto_if 19 with (first | ((with_reducible refine gate_dst (N := 4) rfl ?_); refine box_event ?hg (N := 4) ?hd (cs := b.cells) (t := 26) ?hr ?_; (case hd => rfl); (case hg => rfl); (case hr => unfold BV.cells; first | (go_simp; done) | (go_simp; rfl)); intro gb hg1 w1 hbox hb; have BB1 := Aside0.mk hbox; have HB1 := Aside0.mk hb; clear hbox hb hg1) | ((with_reducible refine gate_dst (N := 6) rfl ?_); refine box_event ?hg (N := 6) ?hd (cs := cellsP p (.slice A p.f7.length c)) (t := 34) ?hr ?_; (case hd => rfl); (case hg => rfl); (case hr => unfold cellsP encP; first | (go_simp; done) | (go_simp; rfl)); intro gp hg1 w2 hbox hb; have BP2 := Aside0.mk hbox; have HB2 := Aside0.mk (bst HB1.out hb); have BB2 := Aside0.mk ((hb.block gb (blk_lt BB1.out)).trans BB1.out); have HNE2 : Aside0 (gb < gp) := ⟨by rw [hg1]; exact blk_lt BB1.out⟩; clear hbox hb hg1) | (go_at_call 9; refine (examples9 _).mono ?_; rintro e_ w3 ⟨rfl, hb3⟩; have HB3 := Aside0.mk (bst HB2.out hb3); have BB3 := Aside0.mk ((hb3.block gb (blk_lt BB2.out)).trans BB2.out); have BP3 := Aside0.mk ((hb3.block gp (blk_lt BP2.out)).trans BP2.out); clear hb3; have k0 := (blk_cell BP3.out 0).trans (rfl : _ = some (Value.int .i64 p.f0)); have k1 := (blk_cell BP3.out 1).trans (rfl : _ = some (Value.int .i64 p.f1)); have k2 := (blk_cell BP3.out 2).trans (rfl : _ = some (Value.int .i64 p.f2)); have k3 := (blk_cell BP3.out 3).trans (rfl : _ = some (Value.int .i64 p.f3)); have k4 := (blk_cell BP3.out 4).trans (rfl : _ = some (Value.bool p.f4)); have k5 := (blk_cell BP3.out 5).trans (rfl : _ = some (Value.int .i64 p.f5)); have k6 := (blk_cell BP3.out 6).trans (rfl : _ = some (Value.int .i64 p.f6)); have k7 := (blk_cell BP3.out 7).trans (rfl : _ = some (Value.slice A p.f7.length c)); have b0 := (blk_cell BB3.out 0).trans (rfl : _ = some (Value.slice b.A0 b.n0 b.c0)); have b1 := (blk_cell BB3.out 1).trans (rfl : _ = some (Value.int .i64 b.core)); have b2 := (blk_cell BB3.out 2).trans (rfl : _ = some (Value.slice b.A2 b.n2 b.c2)); have b3 := (blk_cell BB3.out 3).trans (rfl : _ = some (Value.slice b.A3 b.n3 b.c3)); have b4 := (blk_cell BB3.out 4).trans (rfl : _ = some (Value.slice b.A4 b.n4 b.c4)); have b5 := (blk_cell BB3.out 5).trans (rfl : _ = some (Value.slice b.A5 b.n5 b.c5)); have b6 := (blk_cell BB3.out 6).trans (rfl : _ = some (Value.slice b.A6 b.n6 b.c6)); have b7 := (blk_cell BB3.out 7).trans (rfl : _ = some (Value.bool b.g7)); have b8 := (blk_cell BB3.out 8).trans (rfl : _ = some (Value.slice b.A8 b.n8 b.c8)); have b9 := (blk_cell BB3.out 9).trans (rfl : _ = some (Value.slice b.A9 b.n9 b.c9)); have b10 := (blk_cell BB3.out 10).trans (rfl : _ = some (Value.bool b.d10))) | (go_at_call 14; refine (H14.out _ HB3.out).mono ?_; rintro e_ w4 ⟨rfl, hb4⟩; have HB4 := Aside0.mk (bst HB3.out hb4); have BB4 := Aside0.mk ((hb4.block gb (blk_lt BB3.out)).trans BB3.out); have BP4 := Aside0.mk ((hb4.block gp (blk_lt BP3.out)).trans BP3.out); clear hb4 k0 k1 k2 k3 k4 k5 k6 k7 b0 b1 b2 b3 b4 b5 b6 b7 b8 b9 b10))
    go_cut [3] (fun s3 wx => ∃ h : Int, s3 = .int .i64 h ∧ w4 = wx)
    case first =>
      as_aux_lemma =>
        by_cases qh : how < 0
        · go_wp2_with fail
          go_meet
          exact ⟨_, rfl, rfl⟩
        · go_wp2_with fail
          go_meet
          exact ⟨_, rfl, rfl⟩
    case rest =>
    obtain ⟨h, rfl, rfl⟩ := hcut
    have k0 := (blk_cell BP4.out 0).trans (rfl : _ = some (Value.int .i64 p.f0))
    have k1 := (blk_cell BP4.out 1).trans (rfl : _ = some (Value.int .i64 p.f1))
    have k2 := (blk_cell BP4.out 2).trans (rfl : _ = some (Value.int .i64 p.f2))
    have k3 := (blk_cell BP4.out 3).trans (rfl : _ = some (Value.int .i64 p.f3))
    have k4 := (blk_cell BP4.out 4).trans (rfl : _ = some (Value.bool p.f4))
    have k5 := (blk_cell BP4.out 5).trans (rfl : _ = some (Value.int .i64 p.f5))
    have k6 := (blk_cell BP4.out 6).trans (rfl : _ = some (Value.int .i64 p.f6))
    have k7 := (blk_cell BP4.out 7).trans (rfl : _ = some (Value.slice A p.f7.length c))
    go_upto_block 0 with (first | ((with_reducible refine gate_dst (N := 10) rfl ?_); refine box_event ?hg (N := 10) ?hd (cs := zeroP) (t := 34) ?hr ?_; (case hd => rfl); (case hg => rfl); (case hr => unfold zeroP; first | (go_simp; done) | (go_simp; rfl)); intro gq hg1 w5a hbox hb; have BQa := Aside0.mk hbox; have HBa := Aside0.mk (bst HB4.out hb); have BBa := Aside0.mk ((hb.block gb (blk_lt BB4.out)).trans BB4.out); have BPa := Aside0.mk ((hb.block gp (blk_lt BP4.out)).trans BP4.out); have HNQ : Aside0 (gb < gq ∧ gp < gq ∧ W.heap.size ≤ gq) := ⟨by have := blk_lt BB4.out; have := blk_lt BP4.out; have := HB4.out.size; rw [hg1]; omega⟩; clear hbox hb hg1) | ((with_reducible refine gate_store (t := 34) (p := 10) rfl ?_); refine row_event rfl 34 _ _ rfl gq (cellsP p (.slice A p.f7.length c)) rfl rfl 34 zeroP BQa.out (by kernel_rfl) (by kernel_rfl) (by kernel_rfl) ?_; intro w5 hx hb hf; have BQ5 := Aside0.mk hx; have HB5 : Aside0 (Below W.heap.size W w5) := ⟨HBa.out.trans (hb.mono HNQ.out.2.2)⟩; have BB5 := Aside0.mk ((hf gb (by have := HNQ.out.1; omega)).trans BBa.out); have BP5 := Aside0.mk ((hf gp (by have := HNQ.out.2.1; omega)).trans BPa.out); clear hx hb hf k0 k1 k2 k3 k4 k5 k6 k7; have k0 := (blk_cell BP5.out 0).trans (rfl : _ = some (Value.int .i64 p.f0)); have k1 := (blk_cell BP5.out 1).trans (rfl : _ = some (Value.int .i64 p.f1)); have k2 := (blk_cell BP5.out 2).trans (rfl : _ = some (Value.int .i64 p.f2)); have k3 := (blk_cell BP5.out 3).trans (rfl : _ = some (Value.int .i64 p.f3)); have k4 := (blk_cell BP5.out 4).trans (rfl : _ = some (Value.bool p.f4)); have k5 := (blk_cell BP5.out 5).trans (rfl : _ = some (Value.int .i64 p.f5)); have k6 := (blk_cell BP5.out 6).trans (rfl : _ = some (Value.int .i64 p.f6)); have k7 := (blk_cell BP5.out 7).trans (rfl : _ = some (Value.slice A p.f7.length c))))
    go_cut [] (fun wx => ∃ (q : S34) (Aq : Option Addr) (cq : Nat), Aside0 (wx.heap[gq]? = some (.cells (cellsP q (.slice Aq q.f7.length cq)) 34 (0, 0))) ∧ Aside0 (k34.C wx Aq q.f7.length q.f7) ∧ Aside0 (nodeX b.core L T q = false) ∧ Aside0 (wx.heap[gb]? = some (.cells b.cells 26 (0, 0))) ∧ Aside0 (Below W.heap.size W wx))
    case first =>
      as_aux_lemma =>
        have HRN := Aside0.mk (right_node HR.out)
        rcases Bool.eq_false_or_eq_true (Int.tmod h 6 == 0) with q0 | q0
        · have hc0 := (blk_cell BQ5.out 0).trans (rfl : _ = some (Value.int .i64 p.f0))
          have hf0 := blk_frozen BQ5.out 0
          go_wp2_with fail
          go_meet
          exact ⟨{ p with f0 := 8 }, A, c, ⟨(blk_set BQ5.out 0 (.int .i64 8)).trans rfl⟩, ⟨Kd.C_below HC.out (below_set (j := 0) (v := .int .i64 8) HB5.out HNQ.out.2.2)⟩, ⟨spoil0 rfl⟩, ⟨((Below.heap_setCell _ _ _ _ (by have := HNQ.out.1; show gb ≠ gq; omega)).trans BB5.out)⟩, ⟨(below_set (j := 0) (v := .int .i64 8) HB5.out HNQ.out.2.2)⟩⟩
        rcases Bool.eq_false_or_eq_true (Int.tmod h 6 == 1) with q1 | q1
        · have hc3 := (blk_cell BQ5.out 3).trans (rfl : _ = some (Value.int .i64 p.f3))
          have hf3 := blk_frozen BQ5.out 3
          go_wp2_with fail
          go_meet
          exact ⟨{ p with f3 := 0 }, A, c, ⟨(blk_set BQ5.out 3 (.int .i64 0)).trans rfl⟩, ⟨Kd.C_below HC.out (below_set (j := 3) (v := .int .i64 0) HB5.out HNQ.out.2.2)⟩, ⟨spoil_set HRN.out.1 HRN.out.2.1 (Or.inl (Int.le_refl _))⟩, ⟨((Below.heap_setCell _ _ _ _ (by have := HNQ.out.1; show gb ≠ gq; omega)).trans BB5.out)⟩, ⟨(below_set (j := 3) (v := .int .i64 0) HB5.out HNQ.out.2.2)⟩⟩
        rcases Bool.eq_false_or_eq_true (Int.tmod h 6 == 2) with q2 | q2
        · have HL2 : Aside0 (p.f7.length ≤ 2) := ⟨by obtain ⟨_, ⟨_, hl, _⟩ | ⟨_, hl, _⟩⟩ := node_ways HRN.out.2.2.2.2 <;> omega⟩
          have HK1 : Aside0 (∀ k_, k_ < W.heap.size → okQ gq k_ ∧ some k_ ≠ (Value.slice none 0 0).ownBlock) := ⟨fun k_ hk => ⟨by have := HNQ.out.2.2; unfold okQ; omega, by simp [Value.ownBlock]⟩⟩
          have HK2 : Aside0 (∀ k_, w5.heap.size ≤ k_ → okQ gq k_) := ⟨fun k_ hk => by have := blk_lt BQ5.out; unfold okQ; omega⟩
          go_wp2_with (first | ((with_reducible refine gate_builtin (b := .append) (xs := #[.const (.slice none 0 0), .tmp 53]) rfl ?_); at_builtin; refine Kd.N_append_rows k34 (w0 := w5) w5.heap.size rfl (.const (.slice none 0 0)) (.tmp 53) 32 34 (.agg #[.int .i64 0, .int .i64 0, .int .i64 0, .int .i64 0, .bool false, .int .i64 0, .int .i64 0, .slice none 0 0]) 80 rfl Tryd.underlying32 info34 rfl (by decide) (by decide) _ ([] : List S34) p.f7 A p.f7.length c (okQ gq) (fun k_ => k_ < W.heap.size) (by first | (go_simp; done) | (go_simp; rfl)) (by first | (go_simp; done) | (go_simp; rfl)) (Kd.N_nil _ _ _ _ _) (Kd.F_below (Kd.C_F heap34 HC.out) HB5.out) HK1.out HK2.out (Below.refl _ _) (Nat.le_refl _) (by have := HL2.out; simp only [List.length_nil]; omega) ?_; intro v6 w6 hm hb hg hat; have HM6 : Aside0 (Kd.N k34 34 w6 w5.heap.size (okQ gq) v6 p.f7) := ⟨hm⟩; have HD6 := Aside0.mk hb; clear hm hb hg hat) | (go_at_call 20; refine (scan20a _).mono ?_; rintro e_ w7 ⟨v7a, rfl, hRa, hb7⟩; have HRa := Aside0.mk hRa; have HD7 := Aside0.mk (bst HD6.out hb7); have HM7 := Aside0.mk (Kd.N_below HM6.out hb7); clear hRa hb7) | ((with_reducible refine gate_dst (N := 56) rfl ?_); refine lit1_event ?hg (N := 56) ?hd #[.int .i64 1, .int .i64 0, .int .i64 0, .int .i64 1, .bool false, .int .i64 0, .int .i64 0, v7a] 34 ?hr ?_; (case hd => rfl); (case hg => rfl); (case hr => exact lit56 v7a (by rfl) (by rfl))) | ((with_reducible refine gate_builtin (b := .append) (xs := #[.tmp 54, .tmp 56]) rfl ?_); at_builtin; obtain ⟨A7, c7, rfl, hl7, hC7⟩ := Kd.R_reads HRa.out; clear hl7 hC7 HRa; refine Kd.N_append k34 (w0 := w5) w5.heap.size rfl (.tmp 54) (.tmp 56) 32 34 (.agg #[.int .i64 0, .int .i64 0, .int .i64 0, .int .i64 0, .bool false, .int .i64 0, .int .i64 0, .slice none 0 0]) 80 rfl Tryd.underlying32 info34 rfl (by decide) (by decide) v6 p.f7 s00 [.int .i64 1, .int .i64 0, .int .i64 0, .int .i64 1, .bool false, .int .i64 0, .int .i64 0, .slice A7 0 c7] (okQ gq) (fun _ => False) rfl rfl (k34_mkF _ _ s00 (Nat.zero_le _) (F_nil_ _ _ _)) (fun _ hk => hk.elim) (fun k_ hk_ => HK2.out k_ (Nat.le_trans HD7.out.size hk_)) HM7.out HD7.out HD7.out.size (by have := HL2.out; omega) ?_; intro v8 w8 hm hb hg hat; obtain ⟨A8, c8, rfl, hl8, hC8⟩ := Kd.N_reads hm; have HM8 := Aside0.mk hm; have HD8 := Aside0.mk hb; have BQ8 := Aside0.mk ((hb.block gq (blk_lt BQ5.out)).trans BQ5.out); clear hm hb hg hat hl8 hC8; have hc7 := (blk_cell BQ8.out 7).trans (rfl : _ = some (Value.slice A p.f7.length c)); have hf7 := blk_frozen BQ8.out 7))
          go_meet
          exact ⟨{ p with f7 := p.f7 ++ [s00] }, A8, c8, ⟨by show _ = some (Obj.cells (cellsP p (.slice A8 (p.f7 ++ [s00]).length c8)) 34 (0, 0)); rw [List.length_append]; exact (blk_set BQ8.out 7 _).trans rfl⟩, ⟨(Kd.N_reads' (Kd.N_far (p := ⟨gq, 7, none⟩) HM8.out (fun _ hk => hk) _)).2.2⟩, ⟨spoil2 HRN.out.2.2.2.2 rfl (by simp)⟩, ⟨(Below.heap_setCell _ _ _ _ (by have := HNQ.out.1; show gb ≠ gq; omega)).trans ((HD8.out.block gb (blk_lt BB5.out)).trans BB5.out)⟩, ⟨below_set (HB5.out.trans (HD8.out.mono HB5.out.size)) HNQ.out.2.2⟩⟩
        rcases Bool.eq_false_or_eq_true (Int.tmod h 6 == 3) with q3 | q3
        · have HS3 := Aside0.mk (spoil3 HR.out)
          have hc0 : decide (0 ≤ b.core) = true := decide_eq_true (by have := HRN.out.1; omega)
          have hc1 : ¬ b.core < 0 := by have := HRN.out.1; omega
          have hmn : min b.core.toNat 64 = b.core.toNat := by have := HRN.out.1; have := HRN.out.2.1; omega
          go_upto_region 18 with fail
          have BQd := Aside0.mk (blk_drew BQ5.out)
          have m0_ : Aside0 (w5.drew.cell? ⟨gp, 3, none⟩ = some (.int .i64 p.f3)) := ⟨(blk_cell (blk_drew BP5.out) 3).trans rfl⟩
          have m1_ : Aside0 (w5.drew.cell? ⟨gb, 1, none⟩ = some (.int .i64 b.core)) := ⟨(blk_cell (blk_drew BB5.out) 1).trans rfl⟩
          refine start_ (n := 8) (S := fun w' => w'.cell? ⟨gp, 3, none⟩ = some (.int .i64 p.f3) ∧ w'.cell? ⟨gb, 1, none⟩ = some (.int .i64 b.core)) (ds := [7]) #[false, false, false, false, false, false, false, false] (by kernel_rfl) rfl rfl ⟨m0_.out, m1_.out⟩ (fun hHeld => ?_)
          refine pure_ (i := 0) (N := some 61) (v := ?_) (a' := ?_) #[true, false, false, false, false, false, false, false] rfl rfl (by kernel_rfl) (fun _ _ _ h => h) (Or.inl ⟨by rfl, ?_⟩) ?_ ?_
          rotate_left
          · intro w'
            go_simp
            with_reducible rfl
          rotate_left
          · simp only [Act.put, List.setIfInBounds_toArray, List.set_cons_zero, List.set_cons_succ, i64_w, i32_w]
            rfl
          refine pure_ (i := 2) (N := some 63) (v := ?_) (a' := ?_) #[true, false, true, false, false, false, false, false] rfl rfl (by kernel_rfl) (fun _ _ _ h => h) (Or.inl ⟨by rfl, ?_⟩) ?_ ?_
          rotate_left
          · intro w'
            go_simp
            with_reducible rfl
          rotate_left
          · simp only [Act.put, List.setIfInBounds_toArray, List.set_cons_zero, List.set_cons_succ, i64_w, i32_w]
            rfl
          refine take_ (i := 1) (N := some 62) (v := ?_) (a' := ?_) #[true, true, true, false, false, false, false, false] rfl rfl (by kernel_rfl) (fun _ _ _ h => h) (Or.inl ⟨by rfl, ?_⟩) hHeld ?_ ?_
          rotate_left
          · rintro w' ⟨s0, s1⟩
            go_simp
            with_reducible rfl
          rotate_left
          · simp only [Act.put, List.setIfInBounds_toArray, List.set_cons_zero, List.set_cons_succ, i64_w, i32_w]
            rfl
          refine take_ (i := 3) (N := some 64) (v := ?_) (a' := ?_) #[true, true, true, true, false, false, false, false] rfl rfl (by kernel_rfl) (fun _ _ _ h => h) (Or.inl ⟨by rfl, ?_⟩) hHeld ?_ ?_
          rotate_left
          · rintro w' ⟨s0, s1⟩
            go_simp
            with_reducible rfl
          rotate_left
          · simp only [Act.put, List.setIfInBounds_toArray, List.set_cons_zero, List.set_cons_succ, i64_w, i32_w]
            rfl
          refine pure_ (i := 4) (N := some 65) (v := ?_) (a' := ?_) #[true, true, true, true, true, false, false, false] rfl rfl (by kernel_rfl) (fun _ _ _ h => h) (Or.inl ⟨by rfl, ?_⟩) ?_ ?_
          rotate_left
          · intro w'
            go_simp
            with_reducible rfl
          rotate_left
          · simp only [Act.put, List.setIfInBounds_toArray, List.set_cons_zero, List.set_cons_succ, i64_w, i32_w]
            rfl
          refine pure_ (i := 5) (N := some 66) (v := ?_) (a' := ?_) #[true, true, true, true, true, true, false, false] rfl rfl (by kernel_rfl) (fun _ _ _ h => h) (Or.inl ⟨by rfl, ?_⟩) ?_ ?_
          rotate_left
          · intro w'
            go_simp
            with_reducible rfl
          rotate_left
          · simp only [Act.put, List.setIfInBounds_toArray, List.set_cons_zero, List.set_cons_succ, i64_w, i32_w]
            rfl
          refine pure_ (i := 6) (N := some 67) (v := ?_) (a' := ?_) #[true, true, true, true, true, true, true, false] rfl rfl (by kernel_rfl) (fun _ _ _ h => h) (Or.inl ⟨by rfl, ?_⟩) ?_ ?_
          rotate_left
          · intro w'
            go_simp
            with_reducible rfl
          rotate_left
          · simp only [Act.put, List.setIfInBounds_toArray, List.set_cons_zero, List.set_cons_succ, i64_w, i32_w]
            rfl
          refine last_ (i := 7) (N := none) #[true, true, true, true, true, true, true, true] rfl rfl (by kernel_rfl) (by decide) (fun K hK => ?_)
          have hs_ := (blk_cell BQd.out 3).trans (rfl : _ = some (Value.int .i64 p.f3))
          have hfs_ := blk_frozen BQd.out 3
          refine skip_ (w1 := ?_) (by rfl) rfl ?_ ?_
          rotate_left
          · go_simp
            rfl
          refine hK.out _ _ ?_
          clear hK K
          refine done_ (by kernel_rfl) ?_
          first | go_meet | (go_wp2_with fail; go_meet)
          exact ⟨{ p with f3 := Go.bits .or .i64 p.f3 (wrap64 (2 ^ b.core.toNat)) }, A, c, ⟨(blk_set BQd.out 3 (.int .i64 (Go.bits .or .i64 p.f3 (wrap64 (2 ^ b.core.toNat))))).trans rfl⟩, ⟨Kd.C_below HC.out (below_set (j := 3) (v := .int .i64 (Go.bits .or .i64 p.f3 (wrap64 (2 ^ b.core.toNat)))) (below_drew HB5.out) HNQ.out.2.2)⟩, ⟨spoil_set HRN.out.1 HRN.out.2.1 (Or.inr HS3.out)⟩, ⟨((Below.heap_setCell _ _ _ _ (by have := HNQ.out.1; show gb ≠ gq; omega)).trans (blk_drew BB5.out))⟩, ⟨(below_set (j := 3) (v := .int .i64 (Go.bits .or .i64 p.f3 (wrap64 (2 ^ b.core.toNat)))) (below_drew HB5.out) HNQ.out.2.2)⟩⟩
        rcases Bool.eq_false_or_eq_true (Int.tmod h 6 == 4) with q4 | q4
        · have hc4 := (blk_cell BQ5.out 4).trans (rfl : _ = some (Value.bool p.f4))
          have hf4 := blk_frozen BQ5.out 4
          have hc5 := (blk_cell BQ5.out 5).trans (rfl : _ = some (Value.int .i64 p.f5))
          have hf5 := blk_frozen BQ5.out 5
          have hc6 := (blk_cell BQ5.out 6).trans (rfl : _ = some (Value.int .i64 p.f6))
          have hf6 := blk_frozen BQ5.out 6
          go_wp2_with fail
          go_meet
          exact ⟨{ p with f4 := true, f5 := 2, f6 := 1 }, A, c, ⟨(blk_set (blk_set (blk_set BQ5.out 4 (.bool true)) 5 (.int .i64 2)) 6 (.int .i64 1)).trans rfl⟩, ⟨Kd.C_below HC.out (below_set (j := 6) (v := .int .i64 1) (below_set (j := 5) (v := .int .i64 2) (below_set (j := 4) (v := .bool true) HB5.out HNQ.out.2.2) HNQ.out.2.2) HNQ.out.2.2)⟩, ⟨spoil4 rfl rfl rfl⟩, ⟨((Below.heap_setCell _ _ _ _ (by have := HNQ.out.1; show gb ≠ gq; omega)).trans ((Below.heap_setCell _ _ _ _ (by have := HNQ.out.1; show gb ≠ gq; omega)).trans ((Below.heap_setCell _ _ _ _ (by have := HNQ.out.1; show gb ≠ gq; omega)).trans BB5.out)))⟩, ⟨(below_set (j := 6) (v := .int .i64 1) (below_set (j := 5) (v := .int .i64 2) (below_set (j := 4) (v := .bool true) HB5.out HNQ.out.2.2) HNQ.out.2.2) HNQ.out.2.2)⟩⟩
        have hc2 := (blk_cell BQ5.out 2).trans (rfl : _ = some (Value.int .i64 p.f2))
        have hf2 := blk_frozen BQ5.out 2
        have b0 := (blk_cell BB5.out 0).trans (rfl : _ = some (Value.slice b.A0 b.n0 b.c0))
        have b1 := (blk_cell BB5.out 1).trans (rfl : _ = some (Value.int .i64 b.core))
        have b2 := (blk_cell BB5.out 2).trans (rfl : _ = some (Value.slice b.A2 b.n2 b.c2))
        have b3 := (blk_cell BB5.out 3).trans (rfl : _ = some (Value.slice b.A3 b.n3 b.c3))
        have b4 := (blk_cell BB5.out 4).trans (rfl : _ = some (Value.slice b.A4 b.n4 b.c4))
        have b5 := (blk_cell BB5.out 5).trans (rfl : _ = some (Value.slice b.A5 b.n5 b.c5))
        have b6 := (blk_cell BB5.out 6).trans (rfl : _ = some (Value.slice b.A6 b.n6 b.c6))
        have b7 := (blk_cell BB5.out 7).trans (rfl : _ = some (Value.bool b.g7))
        have b8 := (blk_cell BB5.out 8).trans (rfl : _ = some (Value.slice b.A8 b.n8 b.c8))
        have b9 := (blk_cell BB5.out 9).trans (rfl : _ = some (Value.slice b.A9 b.n9 b.c9))
        have b10 := (blk_cell BB5.out 10).trans (rfl : _ = some (Value.bool b.d10))
        by_cases ho : p.f0 = 6 ∨ p.f0 = 1 ∨ p.f0 = 3
        · rcases Bool.eq_false_or_eq_true (p.f0 == 6) with o6 | o6
          · go_wp2_with fail
            go_meet
            exact ⟨{ p with f2 := 1 }, A, c, ⟨(blk_set (blk_set BQ5.out 2 (.int .i64 (b.n4 : Int))) 2 (.int .i64 1)).trans rfl⟩, ⟨Kd.C_below HC.out (below_set (j := 2) (v := .int .i64 1) (below_set (j := 2) (v := .int .i64 (b.n4 : Int)) HB5.out HNQ.out.2.2) HNQ.out.2.2)⟩, ⟨spoil5 HRN.out.2.2.2.2 rfl (Or.inl ⟨ho, rfl⟩)⟩, ⟨((Below.heap_setCell _ _ _ _ (by have := HNQ.out.1; show gb ≠ gq; omega)).trans ((Below.heap_setCell _ _ _ _ (by have := HNQ.out.1; show gb ≠ gq; omega)).trans BB5.out))⟩, ⟨(below_set (j := 2) (v := .int .i64 1) (below_set (j := 2) (v := .int .i64 (b.n4 : Int)) HB5.out HNQ.out.2.2) HNQ.out.2.2)⟩⟩
          · rcases Bool.eq_false_or_eq_true (p.f0 == 1) with o1 | o1
            · go_wp2_with fail
              go_meet
              exact ⟨{ p with f2 := 1 }, A, c, ⟨(blk_set (blk_set BQ5.out 2 (.int .i64 (b.n4 : Int))) 2 (.int .i64 1)).trans rfl⟩, ⟨Kd.C_below HC.out (below_set (j := 2) (v := .int .i64 1) (below_set (j := 2) (v := .int .i64 (b.n4 : Int)) HB5.out HNQ.out.2.2) HNQ.out.2.2)⟩, ⟨spoil5 HRN.out.2.2.2.2 rfl (Or.inl ⟨ho, rfl⟩)⟩, ⟨((Below.heap_setCell _ _ _ _ (by have := HNQ.out.1; show gb ≠ gq; omega)).trans ((Below.heap_setCell _ _ _ _ (by have := HNQ.out.1; show gb ≠ gq; omega)).trans BB5.out))⟩, ⟨(below_set (j := 2) (v := .int .i64 1) (below_set (j := 2) (v := .int .i64 (b.n4 : Int)) HB5.out HNQ.out.2.2) HNQ.out.2.2)⟩⟩
            · have o3 : (p.f0 == 3) = true := by simp at o6 o1 ⊢; omega
              go_wp2_with fail
              go_meet
              exact ⟨{ p with f2 := 1 }, A, c, ⟨(blk_set (blk_set BQ5.out 2 (.int .i64 (b.n4 : Int))) 2 (.int .i64 1)).trans rfl⟩, ⟨Kd.C_below HC.out (below_set (j := 2) (v := .int .i64 1) (below_set (j := 2) (v := .int .i64 (b.n4 : Int)) HB5.out HNQ.out.2.2) HNQ.out.2.2)⟩, ⟨spoil5 HRN.out.2.2.2.2 rfl (Or.inl ⟨ho, rfl⟩)⟩, ⟨((Below.heap_setCell _ _ _ _ (by have := HNQ.out.1; show gb ≠ gq; omega)).trans ((Below.heap_setCell _ _ _ _ (by have := HNQ.out.1; show gb ≠ gq; omega)).trans BB5.out))⟩, ⟨(below_set (j := 2) (v := .int .i64 1) (below_set (j := 2) (v := .int .i64 (b.n4 : Int)) HB5.out HNQ.out.2.2) HNQ.out.2.2)⟩⟩
        · have o6 : (p.f0 == 6) = false := by simp; omega
          have o1 : (p.f0 == 1) = false := by simp; omega
          have o3 : (p.f0 == 3) = false := by simp; omega
          go_wp2_with fail
          go_meet
          exact ⟨{ p with f2 := (b.n4 : Int) }, A, c, ⟨(blk_set BQ5.out 2 (.int .i64 (b.n4 : Int))).trans rfl⟩, ⟨Kd.C_below HC.out (below_set (j := 2) (v := .int .i64 (b.n4 : Int)) HB5.out HNQ.out.2.2)⟩, ⟨spoil5 HRN.out.2.2.2.2 rfl (Or.inr ⟨ho, by rw [HN.out]⟩)⟩, ⟨((Below.heap_setCell _ _ _ _ (by have := HNQ.out.1; show gb ≠ gq; omega)).trans BB5.out)⟩, ⟨(below_set (j := 2) (v := .int .i64 (b.n4 : Int)) HB5.out HNQ.out.2.2)⟩⟩
    case rest =>
    obtain ⟨q, Aq, cq, BQ7, HC7, HS7, BB7, HB7⟩ := hcut
    obtain ⟨w7, hw7⟩ : ∃ x, x = wc := ⟨_, rfl⟩
    subst hw7
    have H15 : Aside0 (Calls Tryd.prog 14 #[b.enc, .slice At T.length ct, encP q Aq cq] w7 fun e_ w'' => e_ = .returned (.bool false) ∧ Below w7.heap.size w7 w'') := ⟨by have h := right14 b L At ct T q Aq cq w7 HN.out (Kd.C_below HLc.out HB7.out) (Kd.C_below HT.out HB7.out) HC7.out; rw [right_no HS7.out] at h; exact h⟩
    clear k0 k1 k2 k3 k4 k5 k6 k7
    have k0 := (blk_cell BQ7.out 0).trans (rfl : _ = some (Value.int .i64 q.f0))
    have k1 := (blk_cell BQ7.out 1).trans (rfl : _ = some (Value.int .i64 q.f1))
    have k2 := (blk_cell BQ7.out 2).trans (rfl : _ = some (Value.int .i64 q.f2))
    have k3 := (blk_cell BQ7.out 3).trans (rfl : _ = some (Value.int .i64 q.f3))
    have k4 := (blk_cell BQ7.out 4).trans (rfl : _ = some (Value.bool q.f4))
    have k5 := (blk_cell BQ7.out 5).trans (rfl : _ = some (Value.int .i64 q.f5))
    have k6 := (blk_cell BQ7.out 6).trans (rfl : _ = some (Value.int .i64 q.f6))
    have k7 := (blk_cell BQ7.out 7).trans (rfl : _ = some (Value.slice Aq q.f7.length cq))
    have b0 := (blk_cell BB7.out 0).trans (rfl : _ = some (Value.slice b.A0 b.n0 b.c0))
    have b1 := (blk_cell BB7.out 1).trans (rfl : _ = some (Value.int .i64 b.core))
    have b2 := (blk_cell BB7.out 2).trans (rfl : _ = some (Value.slice b.A2 b.n2 b.c2))
    have b3 := (blk_cell BB7.out 3).trans (rfl : _ = some (Value.slice b.A3 b.n3 b.c3))
    have b4 := (blk_cell BB7.out 4).trans (rfl : _ = some (Value.slice b.A4 b.n4 b.c4))
    have b5 := (blk_cell BB7.out 5).trans (rfl : _ = some (Value.slice b.A5 b.n5 b.c5))
    have b6 := (blk_cell BB7.out 6).trans (rfl : _ = some (Value.slice b.A6 b.n6 b.c6))
    have b7 := (blk_cell BB7.out 7).trans (rfl : _ = some (Value.bool b.g7))
    have b8 := (blk_cell BB7.out 8).trans (rfl : _ = some (Value.slice b.A8 b.n8 b.c8))
    have b9 := (blk_cell BB7.out 9).trans (rfl : _ = some (Value.slice b.A9 b.n9 b.c9))
    have b10 := (blk_cell BB7.out 10).trans (rfl : _ = some (Value.bool b.d10))
    go_wp2_with (go_at_call 14; refine H15.out.mono ?_; rintro e_ w8 ⟨rfl, hb8⟩; have HB8 := Aside0.mk (bst HB7.out hb8); clear hb8)
    go_ret
    exact ⟨rfl, HB8.out⟩

end Go.Proofs.YtmnjaihalajhcaaDoor.QPlanConds
