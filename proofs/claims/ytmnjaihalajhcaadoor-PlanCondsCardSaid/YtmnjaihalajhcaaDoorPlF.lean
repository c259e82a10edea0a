import Derived.Test.YtmnjaihalajhcaaDoorPlE
/- Plan: walks by hand; the conditions stand in each theorem. -/
namespace Go.Proofs.YtmnjaihalajhcaaDoor.QPlanConds
open Go.RowKit Go.Proofs.YtmnjaihalajhcaaDoorW.PrintWords Go.Proofs.YtmnjaihalajhcaaDoorW.PrintLast Go.Proofs.YtmnjaihalajhcaaDoorW.PrintMore
attribute [local go_sem] max2_int min2_int max_two min_two max_three min_three max_four min_four
set_option linter.unusedVariables false
set_option linter.unusedSimpArgs false
def inB (a s : Int) : Bool := if a = 0 then false else Go.bits .andNot .i64 a s == 0
theorem in24 (a s : Int) (w : World) : Calls Tryd.prog 24 #[.int .i64 a, .int .i64 s] w fun e_ w' => e_ = .returned (.bool (inB a s)) ∧ Below w.heap.size w w' := by
  by_cases h0 : a = 0
  · have HI : Aside0 (inB a s = false) := ⟨by unfold inB; rw [if_pos h0]⟩
    have h1 : (a != 0) = false := by rw [h0]; rfl
    clear h0
    go_enter Tryd.func24, Tryd.ntmps24
    go_wp2
    go_ret
    rw [HI.out]
    exact ⟨rfl, Below.refl _ _⟩
  · have HI : Aside0 (inB a s = (Go.bits .andNot .i64 a s == 0)) := ⟨by unfold inB; rw [if_neg h0]⟩
    have h1 : (a != 0) = true := bne_iff_ne.2 h0
    clear h0
    go_enter Tryd.func24, Tryd.ntmps24
    go_wp2
    go_ret
    rw [HI.out]
    exact ⟨rfl, Below.refl _ _⟩
def joinsE (x : S46) (left right : Int) : Bool := (inB (tablesX (rd_T46 x.f6 0)) left && inB (tablesX (rd_T46 x.f6 1)) right) || (inB (tablesX (rd_T46 x.f6 0)) right && inB (tablesX (rd_T46 x.f6 1)) left)
def joinsX (L : List S46) (i left right : Int) : Bool := match eqX L i with
  | none => false
  | some x => if left < 0 then false else if right < 0 then false else joinsE x left right
theorem eqX_some {L : List S46} {i : Int} {y : S46} (h : eqX L i = some y) : y.f0 = 9 ∧ rightX y = true := by
  unfold eqX at h
  split at h
  · rename_i h1
    injection h with h
    rw [← h]
    exact ⟨h1.2.2.1, h1.2.2.2⟩
  · cases h
theorem right_own {e : S46} (h : rightX e = true) : ownB e = true := by
  unfold rightX wk at h
  split at h
  · cases h
  · split at h
    · assumption
    · cases h
theorem eq_two {L : List S46} {i : Int} {y : S46} (h : eqX L i = some y) : y.f6.length = 2 := by
  obtain ⟨h9, hr⟩ := eqX_some h
  have ho := right_own hr
  unfold ownB wantsI at ho
  simp only [Bool.and_eq_true, beq_iff_eq] at ho
  have := ho.2.1
  rw [h9] at this
  simp at this
  omega
theorem eq22n {b : BV} {L : List S46} {i : Int} {w : World} (hn : b.n4 = L.length) (hC : k46.C w b.A4 b.n4 L) (h : eqX L i = none) :
    Calls Tryd.prog 22 #[b.enc, .int .i64 i] w fun e_ w' => (∃ (x : S46) (A8 : Option Addr) (c8 : Nat), e_ = .returned (.tuple #[encE x A8 c8, .bool false])) ∧ Below w.heap.size w w' := by
  refine (eq22 b L i w hn hC).mono ?_
  rintro e_ w' ⟨⟨x, A8, c8, h1, _, _, _⟩, hb⟩
  rw [h] at h1
  exact ⟨⟨x, A8, c8, h1⟩, hb⟩
theorem eq22s {b : BV} {L : List S46} {i : Int} {w : World} {y : S46} (hn : b.n4 = L.length) (hC : k46.C w b.A4 b.n4 L) (h : eqX L i = some y) :
    Calls Tryd.prog 22 #[b.enc, .int .i64 i] w fun e_ w' => (∃ (A8 : Option Addr) (c8 : Nat), e_ = .returned (.tuple #[encE y A8 c8, .bool true]) ∧ k46.C w A8 y.f6.length y.f6 ∧ y.f6.length ≤ c8) ∧ Below w.heap.size w w' := by
  refine (eq22 b L i w hn hC).mono ?_
  rintro e_ w' ⟨⟨x, A8, c8, h1, h2, h3, h4⟩, hb⟩
  have := h2 y h
  subst this
  rw [h] at h1
  exact ⟨⟨A8, c8, h1, h3, h4⟩, hb⟩
theorem two46 {w : World} {A : Option Addr} {l : List S46} (hl : l.length = 2) (h : k46.C w A l.length l) : ∃ ad A0 c0 A1 c1, A = some ad ∧ ((w.cell? ad = some (.int .i64 (rd_T46 l 0).f0) ∧ w.cell? ⟨ad.block, ad.off + 1, none⟩ = some (.int .i64 (rd_T46 l 0).f1.f0) ∧ w.cell? ⟨ad.block, ad.off + 2, none⟩ = some (.int .i64 (rd_T46 l 0).f1.f1) ∧ w.cell? ⟨ad.block, ad.off + 3, none⟩ = some (.string (rd_T46 l 0).f1.f2) ∧ w.cell? ⟨ad.block, ad.off + 4, none⟩ = some (.int .i64 (rd_T46 l 0).f2) ∧ w.cell? ⟨ad.block, ad.off + 5, none⟩ = some (.int .i64 (rd_T46 l 0).f3) ∧ w.cell? ⟨ad.block, ad.off + 6, none⟩ = some (.int .i64 (rd_T46 l 0).f4) ∧ w.cell? ⟨ad.block, ad.off + 7, none⟩ = some (.string (rd_T46 l 0).f5) ∧ w.cell? ⟨ad.block, ad.off + 8, none⟩ = some (.slice A0 (rd_T46 l 0).f6.length c0) ∧ w.cell? ⟨ad.block, ad.off + 9, none⟩ = some (.int .i64 (rd_T46 l 1).f0) ∧ w.cell? ⟨ad.block, ad.off + 9 + 1, none⟩ = some (.int .i64 (rd_T46 l 1).f1.f0) ∧ w.cell? ⟨ad.block, ad.off + 9 + 2, none⟩ = some (.int .i64 (rd_T46 l 1).f1.f1) ∧ w.cell? ⟨ad.block, ad.off + 9 + 3, none⟩ = some (.string (rd_T46 l 1).f1.f2) ∧ w.cell? ⟨ad.block, ad.off + 9 + 4, none⟩ = some (.int .i64 (rd_T46 l 1).f2) ∧ w.cell? ⟨ad.block, ad.off + 9 + 5, none⟩ = some (.int .i64 (rd_T46 l 1).f3) ∧ w.cell? ⟨ad.block, ad.off + 9 + 6, none⟩ = some (.int .i64 (rd_T46 l 1).f4) ∧ w.cell? ⟨ad.block, ad.off + 9 + 7, none⟩ = some (.string (rd_T46 l 1).f5) ∧ w.cell? ⟨ad.block, ad.off + 9 + 8, none⟩ = some (.slice A1 (rd_T46 l 1).f6.length c1)) ∧ (k46.C w A0 (rd_T46 l 0).f6.length (rd_T46 l 0).f6 ∧ k46.C w A1 (rd_T46 l 1).f6.length (rd_T46 l 1).f6)) := by
  obtain ⟨ad, A0, c0, e0, x0, x1, x2, x3, x4, x5, x6, x7, x8, l0, g0⟩ := at_T46 h 0 (by omega) (by omega)
  obtain ⟨ad', A1, c1, e1, y0, y1, y2, y3, y4, y5, y6, y7, y8, l1, g1⟩ := at_T46 h 1 (by omega) (by omega)
  rw [e0] at e1
  injection e1 with e1
  subst e1
  refine ⟨ad, A0, c0, A1, c1, e0, ⟨?_, g0, g1⟩⟩
  exact ⟨x0, x1, x2, x3, x4, x5, x6, x7, x8, y0, y1, y2, y3, y4, y5, y6, y7, y8⟩
theorem eq22t {b : BV} {L : List S46} {i : Int} {w : World} {y : S46} (hn : b.n4 = L.length) (hC : k46.C w b.A4 b.n4 L) (h : eqX L i = some y) :
    Calls Tryd.prog 22 #[b.enc, .int .i64 i] w fun e_ w' => (∃ (ad : Addr) (c8 : Nat), e_ = .returned (.tuple #[encE y (some ad) c8, .bool true]) ∧ k46.C w (some ad) y.f6.length y.f6) ∧ Below w.heap.size w w' := by
  refine (eq22s hn hC h).mono ?_
  rintro e_ w' ⟨⟨A8, c8, h1, h3, h4⟩, hb⟩
  obtain ⟨ad, _, _, _, _, rfl, _⟩ := two46 (eq_two h) h3
  exact ⟨⟨ad, c8, h1, h3⟩, hb⟩
set_option maxRecDepth 8000 in
set_option maxHeartbeats 4000000 in
theorem joins12 (b : BV) (L : List S46) (i left right : Int) (w : World) (hn : b.n4 = L.length) (hC : k46.C w b.A4 b.n4 L) :
    Calls Tryd.prog 12 #[b.enc, .int .i64 i, .int .i64 left, .int .i64 right] w fun e_ w' => e_ = .returned (.bool (joinsX L i left right)) ∧ Below w.heap.size w w' := by
  have hu26 := Tryd.underlying26
  have hu46 := Tryd.underlying46
  have HN := Aside0.mk hn
  have HC := Aside0.mk hC
  clear hn hC
  rcases hE : eqX L i with _ | x
  · have HE := Aside0.mk hE
    have HJ : Aside0 (joinsX L i left right = false) := ⟨by unfold joinsX; rw [hE]⟩
    clear hE
    unfold BV.enc
    go_enter Tryd.func12, Tryd.ntmps12
    go_wp2_with (first | ((with_reducible refine gate_dst (N := 4) rfl ?_); refine box_event ?hg (N := 4) ?hd (cs := b.cells) (t := 26) ?hr ?_; (case hd => rfl); (case hg => rfl); (case hr => unfold BV.cells; first | (go_simp; done) | (go_simp; rfl)); intro gb hg1 w1 hbox hb; have BK := Aside0.mk hbox; have HB := Aside0.mk hb; have k0 := (blk_cell BK.out 0).trans (rfl : _ = some (Value.slice b.A0 b.n0 b.c0)); have k1 := (blk_cell BK.out 1).trans (rfl : _ = some (Value.int .i64 b.core)); have k2 := (blk_cell BK.out 2).trans (rfl : _ = some (Value.slice b.A2 b.n2 b.c2)); have k3 := (blk_cell BK.out 3).trans (rfl : _ = some (Value.slice b.A3 b.n3 b.c3)); have k4 := (blk_cell BK.out 4).trans (rfl : _ = some (Value.slice b.A4 b.n4 b.c4)); have k5 := (blk_cell BK.out 5).trans (rfl : _ = some (Value.slice b.A5 b.n5 b.c5)); have k6 := (blk_cell BK.out 6).trans (rfl : _ = some (Value.slice b.A6 b.n6 b.c6)); have k7 := (blk_cell BK.out 7).trans (rfl : _ = some (Value.bool b.g7)); have k8 := (blk_cell BK.out 8).trans (rfl : _ = some (Value.slice b.A8 b.n8 b.c8)); have k9 := (blk_cell BK.out 9).trans (rfl : _ = some (Value.slice b.A9 b.n9 b.c9)); have k10 := (blk_cell BK.out 10).trans (rfl : _ = some (Value.bool b.d10)); clear hbox hb hg1) | (go_at_call 22; refine (eq22n (b := b) HN.out (Kd.C_below HC.out HB.out) HE.out).mono ?_; rintro e_ w2 ⟨⟨x, A8, c8, rfl⟩, hb2⟩; have HB2 := Aside0.mk (HB.out.trans (hb2.mono HB.out.size)); clear hb2) | ((with_reducible refine gate_dst (N := 9) rfl ?_); refine box_event ?hg (N := 9) ?hd (cs := zeroC) (t := 46) ?hr ?_; (case hd => rfl); (case hg => rfl); (case hr => unfold zeroC; first | (go_simp; done) | (go_simp; rfl)); intro ge hg1 w3 hbox hb; have HGE := Aside0.mk hbox; have HB3 := Aside0.mk (HB2.out.trans (hb.mono HB2.out.size)); have HGW : Aside0 (w.heap.size ≤ ge) := ⟨by rw [hg1]; exact HB2.out.size⟩; clear hbox hb hg1) | ((with_reducible refine gate_store (t := 46) (p := 9) rfl ?_); refine row_event rfl 46 _ _ rfl ge (cellsE x (.slice A8 x.f6.length c8)) rfl rfl 46 zeroC HGE.out (by kernel_rfl) (by kernel_rfl) (by kernel_rfl) ?_; intro w5 hx hb hf; have HGE5 := Aside0.mk hx; have HB5 : Aside0 (Below w.heap.size w w5) := ⟨HB3.out.trans (hb.mono HGW.out)⟩; clear hx hb hf))
    go_ret
    rw [HJ.out]
    exact ⟨rfl, HB5.out⟩
  · have HE := Aside0.mk hE
    by_cases hl : left < 0 ∨ right < 0
    · have HJ : Aside0 (joinsX L i left right = false) := ⟨by unfold joinsX; rw [hE]; rcases hl with h | h; exact if_pos h; show (if _ then _ else _) = _; rw [if_pos h]; split <;> rfl⟩
      clear hE
      unfold BV.enc
      by_cases h1 : left < 0
      · clear hl
        have h1b : decide (left < 0) = true := decide_eq_true h1
        go_enter Tryd.func12, Tryd.ntmps12
        go_wp2_with (first | ((with_reducible refine gate_dst (N := 4) rfl ?_); refine box_event ?hg (N := 4) ?hd (cs := b.cells) (t := 26) ?hr ?_; (case hd => rfl); (case hg => rfl); (case hr => unfold BV.cells; first | (go_simp; done) | (go_simp; rfl)); intro gb hg1 w1 hbox hb; have BK := Aside0.mk hbox; have HB := Aside0.mk hb; have k0 := (blk_cell BK.out 0).trans (rfl : _ = some (Value.slice b.A0 b.n0 b.c0)); have k1 := (blk_cell BK.out 1).trans (rfl : _ = some (Value.int .i64 b.core)); have k2 := (blk_cell BK.out 2).trans (rfl : _ = some (Value.slice b.A2 b.n2 b.c2)); have k3 := (blk_cell BK.out 3).trans (rfl : _ = some (Value.slice b.A3 b.n3 b.c3)); have k4 := (blk_cell BK.out 4).trans (rfl : _ = some (Value.slice b.A4 b.n4 b.c4)); have k5 := (blk_cell BK.out 5).trans (rfl : _ = some (Value.slice b.A5 b.n5 b.c5)); have k6 := (blk_cell BK.out 6).trans (rfl : _ = some (Value.slice b.A6 b.n6 b.c6)); have k7 := (blk_cell BK.out 7).trans (rfl : _ = some (Value.bool b.g7)); have k8 := (blk_cell BK.out 8).trans (rfl : _ = some (Value.slice b.A8 b.n8 b.c8)); have k9 := (blk_cell BK.out 9).trans (rfl : _ = some (Value.slice b.A9 b.n9 b.c9)); have k10 := (blk_cell BK.out 10).trans (rfl : _ = some (Value.bool b.d10)); clear hbox hb hg1) | (go_at_call 22; refine (eq22s (b := b) HN.out (Kd.C_below HC.out HB.out) HE.out).mono ?_; rintro e_ w2 ⟨⟨A8, c8, rfl, hc8, hl8⟩, hb2⟩; have HB2 := Aside0.mk (HB.out.trans (hb2.mono HB.out.size)); clear hb2 hc8 hl8) | ((with_reducible refine gate_dst (N := 9) rfl ?_); refine box_event ?hg (N := 9) ?hd (cs := zeroC) (t := 46) ?hr ?_; (case hd => rfl); (case hg => rfl); (case hr => unfold zeroC; first | (go_simp; done) | (go_simp; rfl)); intro ge hg1 w3 hbox hb; have HGE := Aside0.mk hbox; have HB3 := Aside0.mk (HB2.out.trans (hb.mono HB2.out.size)); have HGW : Aside0 (w.heap.size ≤ ge) := ⟨by rw [hg1]; exact HB2.out.size⟩; clear hbox hb hg1) | ((with_reducible refine gate_store (t := 46) (p := 9) rfl ?_); refine row_event rfl 46 _ _ rfl ge (cellsE x (.slice A8 x.f6.length c8)) rfl rfl 46 zeroC HGE.out (by kernel_rfl) (by kernel_rfl) (by kernel_rfl) ?_; intro w5 hx hb hf; have HGE5 := Aside0.mk hx; have HB5 : Aside0 (Below w.heap.size w w5) := ⟨HB3.out.trans (hb.mono HGW.out)⟩; clear hx hb hf))
        go_ret
        rw [HJ.out]
        exact ⟨rfl, HB5.out⟩
      · have h2 := hl.resolve_left h1
        clear hl
        have h1b : decide (left < 0) = false := decide_eq_false h1
        have h2b : decide (right < 0) = true := decide_eq_true h2
        go_enter Tryd.func12, Tryd.ntmps12
        go_wp2_with (first | ((with_reducible refine gate_dst (N := 4) rfl ?_); refine box_event ?hg (N := 4) ?hd (cs := b.cells) (t := 26) ?hr ?_; (case hd => rfl); (case hg => rfl); (case hr => unfold BV.cells; first | (go_simp; done) | (go_simp; rfl)); intro gb hg1 w1 hbox hb; have BK := Aside0.mk hbox; have HB := Aside0.mk hb; have k0 := (blk_cell BK.out 0).trans (rfl : _ = some (Value.slice b.A0 b.n0 b.c0)); have k1 := (blk_cell BK.out 1).trans (rfl : _ = some (Value.int .i64 b.core)); have k2 := (blk_cell BK.out 2).trans (rfl : _ = some (Value.slice b.A2 b.n2 b.c2)); have k3 := (blk_cell BK.out 3).trans (rfl : _ = some (Value.slice b.A3 b.n3 b.c3)); have k4 := (blk_cell BK.out 4).trans (rfl : _ = some (Value.slice b.A4 b.n4 b.c4)); have k5 := (blk_cell BK.out 5).trans (rfl : _ = some (Value.slice b.A5 b.n5 b.c5)); have k6 := (blk_cell BK.out 6).trans (rfl : _ = some (Value.slice b.A6 b.n6 b.c6)); have k7 := (blk_cell BK.out 7).trans (rfl : _ = some (Value.bool b.g7)); have k8 := (blk_cell BK.out 8).trans (rfl : _ = some (Value.slice b.A8 b.n8 b.c8)); have k9 := (blk_cell BK.out 9).trans (rfl : _ = some (Value.slice b.A9 b.n9 b.c9)); have k10 := (blk_cell BK.out 10).trans (rfl : _ = some (Value.bool b.d10)); clear hbox hb hg1) | (go_at_call 22; refine (eq22s (b := b) HN.out (Kd.C_below HC.out HB.out) HE.out).mono ?_; rintro e_ w2 ⟨⟨A8, c8, rfl, hc8, hl8⟩, hb2⟩; have HB2 := Aside0.mk (HB.out.trans (hb2.mono HB.out.size)); clear hb2 hc8 hl8) | ((with_reducible refine gate_dst (N := 9) rfl ?_); refine box_event ?hg (N := 9) ?hd (cs := zeroC) (t := 46) ?hr ?_; (case hd => rfl); (case hg => rfl); (case hr => unfold zeroC; first | (go_simp; done) | (go_simp; rfl)); intro ge hg1 w3 hbox hb; have HGE := Aside0.mk hbox; have HB3 := Aside0.mk (HB2.out.trans (hb.mono HB2.out.size)); have HGW : Aside0 (w.heap.size ≤ ge) := ⟨by rw [hg1]; exact HB2.out.size⟩; clear hbox hb hg1) | ((with_reducible refine gate_store (t := 46) (p := 9) rfl ?_); refine row_event rfl 46 _ _ rfl ge (cellsE x (.slice A8 x.f6.length c8)) rfl rfl 46 zeroC HGE.out (by kernel_rfl) (by kernel_rfl) (by kernel_rfl) ?_; intro w5 hx hb hf; have HGE5 := Aside0.mk hx; have HB5 : Aside0 (Below w.heap.size w w5) := ⟨HB3.out.trans (hb.mono HGW.out)⟩; clear hx hb hf))
        go_ret
        rw [HJ.out]
        exact ⟨rfl, HB5.out⟩
    · have h1 : ¬ left < 0 := fun h => hl (Or.inl h)
      have h2 : ¬ right < 0 := fun h => hl (Or.inr h)
      have HJ : Aside0 (joinsX L i left right = ((inB (tablesX (rd_T46 x.f6 0)) left && inB (tablesX (rd_T46 x.f6 1)) right) || (inB (tablesX (rd_T46 x.f6 0)) right && inB (tablesX (rd_T46 x.f6 1)) left))) := ⟨by unfold joinsX; rw [hE]; show (if _ then _ else _) = _; rw [if_neg h1, if_neg h2]; rfl⟩
      have H2 := Aside0.mk (eq_two hE)
      have hl0 : 0 < x.f6.length := by rw [eq_two hE]; decide
      have hl1 : (1 : Int) < (x.f6.length : Int) := by rw [eq_two hE]; decide
      have h1b : decide (left < 0) = false := decide_eq_false h1
      have h2b : decide (right < 0) = false := decide_eq_false h2
      clear hE hl h1 h2
      unfold BV.enc
      go_enter Tryd.func12, Tryd.ntmps12
      go_wp2_with (first | ((with_reducible refine gate_dst (N := 4) rfl ?_); refine box_event ?hg (N := 4) ?hd (cs := b.cells) (t := 26) ?hr ?_; (case hd => rfl); (case hg => rfl); (case hr => unfold BV.cells; first | (go_simp; done) | (go_simp; rfl)); intro gb hg1 w1 hbox hb; have BK := Aside0.mk hbox; have HB := Aside0.mk hb; have k0 := (blk_cell BK.out 0).trans (rfl : _ = some (Value.slice b.A0 b.n0 b.c0)); have k1 := (blk_cell BK.out 1).trans (rfl : _ = some (Value.int .i64 b.core)); have k2 := (blk_cell BK.out 2).trans (rfl : _ = some (Value.slice b.A2 b.n2 b.c2)); have k3 := (blk_cell BK.out 3).trans (rfl : _ = some (Value.slice b.A3 b.n3 b.c3)); have k4 := (blk_cell BK.out 4).trans (rfl : _ = some (Value.slice b.A4 b.n4 b.c4)); have k5 := (blk_cell BK.out 5).trans (rfl : _ = some (Value.slice b.A5 b.n5 b.c5)); have k6 := (blk_cell BK.out 6).trans (rfl : _ = some (Value.slice b.A6 b.n6 b.c6)); have k7 := (blk_cell BK.out 7).trans (rfl : _ = some (Value.bool b.g7)); have k8 := (blk_cell BK.out 8).trans (rfl : _ = some (Value.slice b.A8 b.n8 b.c8)); have k9 := (blk_cell BK.out 9).trans (rfl : _ = some (Value.slice b.A9 b.n9 b.c9)); have k10 := (blk_cell BK.out 10).trans (rfl : _ = some (Value.bool b.d10)); clear hbox hb hg1) | (go_at_call 22; refine (eq22t (b := b) HN.out (Kd.C_below HC.out HB.out) HE.out).mono ?_; rintro e_ w2 ⟨⟨ad, c8, rfl, hc8⟩, hb2⟩; have HB2 := Aside0.mk (HB.out.trans (hb2.mono HB.out.size)); have HC8 := Aside0.mk (Kd.C_below hc8 hb2); clear hb2 hc8) | ((with_reducible refine gate_dst (N := 9) rfl ?_); refine box_event ?hg (N := 9) ?hd (cs := zeroC) (t := 46) ?hr ?_; (case hd => rfl); (case hg => rfl); (case hr => unfold zeroC; first | (go_simp; done) | (go_simp; rfl)); intro ge hg1 w3 hbox hb; have HGE := Aside0.mk hbox; have HB3 := Aside0.mk (HB2.out.trans (hb.mono HB2.out.size)); have HG3 := Aside0.mk (hb); have HGQ : Aside0 (w2.heap.size ≤ ge) := ⟨by rw [hg1]; exact Nat.le_refl _⟩; have HGW : Aside0 (w.heap.size ≤ ge) := ⟨by rw [hg1]; exact HB2.out.size⟩; clear hbox hb hg1) | ((with_reducible refine gate_store (t := 46) (p := 9) rfl ?_); refine row_event rfl 46 _ _ rfl ge (cellsE x (.slice (some ad) x.f6.length c8)) rfl rfl 46 zeroC HGE.out (by kernel_rfl) (by kernel_rfl) (by kernel_rfl) ?_; intro w5 hx hb hf; have HGE5 := Aside0.mk hx; have HB5 : Aside0 (Below w.heap.size w w5) := ⟨HB3.out.trans (hb.mono HGW.out)⟩; have HB25 : Aside0 (Below w2.heap.size w2 w5) := ⟨HG3.out.trans (hb.mono HGQ.out)⟩; clear hx hb hf))
      obtain ⟨ad_, A0, c0, A1, c1, had, hT, hC0, hC1⟩ := two46 H2.out (Kd.C_below HC8.out (below_drew HB25.out))
      injection had with had
      subst had
      have HC0 := Aside0.mk hC0
      have HC1 := Aside0.mk hC1
      have m0_ : Aside0 (w5.drew.cell? ⟨ge, 8, none⟩ = some (.slice (some ad) x.f6.length c8)) := ⟨(blk_cell (blk_drew HGE5.out) 8).trans rfl⟩
      obtain ⟨z0_, z1_, z2_, z3_, z4_, z5_, z6_, z7_, z8_, z9_, z10_, z11_, z12_, z13_, z14_, z15_, z16_, z17_⟩ := hT
      have m1_ := Aside0.mk z0_
      have m2_ := Aside0.mk z1_
      have m3_ := Aside0.mk z2_
      have m4_ := Aside0.mk z3_
      have m5_ := Aside0.mk z4_
      have m6_ := Aside0.mk z5_
      have m7_ := Aside0.mk z6_
      have m8_ := Aside0.mk z7_
      have m9_ := Aside0.mk z8_
      have m10_ := Aside0.mk z9_
      have m11_ := Aside0.mk z10_
      have m12_ := Aside0.mk z11_
      have m13_ := Aside0.mk z12_
      have m14_ := Aside0.mk z13_
      have m15_ := Aside0.mk z14_
      have m16_ := Aside0.mk z15_
      have m17_ := Aside0.mk z16_
      have m18_ := Aside0.mk z17_
      clear z0_ z1_ z2_ z3_ z4_ z5_ z6_ z7_ z8_ z9_ z10_ z11_ z12_ z13_ z14_ z15_ z16_ z17_ hC0 hC1
      have HW5 := Aside0.mk (below_drew HB5.out)
      generalize rd_T46 x.f6 0 = p at *
      generalize rd_T46 x.f6 1 = q at *
      refine start_ (n := 12) (S := fun w' => w'.cell? ⟨ge, 8, none⟩ = some (.slice (some ad) x.f6.length c8) ∧ w'.cell? ad = some (.int .i64 p.f0) ∧ w'.cell? ⟨ad.block, ad.off + 1, none⟩ = some (.int .i64 p.f1.f0) ∧ w'.cell? ⟨ad.block, ad.off + 2, none⟩ = some (.int .i64 p.f1.f1) ∧ w'.cell? ⟨ad.block, ad.off + 3, none⟩ = some (.string p.f1.f2) ∧ w'.cell? ⟨ad.block, ad.off + 4, none⟩ = some (.int .i64 p.f2) ∧ w'.cell? ⟨ad.block, ad.off + 5, none⟩ = some (.int .i64 p.f3) ∧ w'.cell? ⟨ad.block, ad.off + 6, none⟩ = some (.int .i64 p.f4) ∧ w'.cell? ⟨ad.block, ad.off + 7, none⟩ = some (.string p.f5) ∧ w'.cell? ⟨ad.block, ad.off + 8, none⟩ = some (.slice A0 p.f6.length c0) ∧ w'.cell? ⟨ad.block, ad.off + 9, none⟩ = some (.int .i64 q.f0) ∧ w'.cell? ⟨ad.block, ad.off + 9 + 1, none⟩ = some (.int .i64 q.f1.f0) ∧ w'.cell? ⟨ad.block, ad.off + 9 + 2, none⟩ = some (.int .i64 q.f1.f1) ∧ w'.cell? ⟨ad.block, ad.off + 9 + 3, none⟩ = some (.string q.f1.f2) ∧ w'.cell? ⟨ad.block, ad.off + 9 + 4, none⟩ = some (.int .i64 q.f2) ∧ w'.cell? ⟨ad.block, ad.off + 9 + 5, none⟩ = some (.int .i64 q.f3) ∧ w'.cell? ⟨ad.block, ad.off + 9 + 6, none⟩ = some (.int .i64 q.f4) ∧ w'.cell? ⟨ad.block, ad.off + 9 + 7, none⟩ = some (.string q.f5) ∧ w'.cell? ⟨ad.block, ad.off + 9 + 8, none⟩ = some (.slice A1 q.f6.length c1)) (ds := []) #[false, false, false, false, false, false, false, false, false, false, false, false] (by kernel_rfl) rfl rfl ⟨m0_.out, m1_.out, m2_.out, m3_.out, m4_.out, m5_.out, m6_.out, m7_.out, m8_.out, m9_.out, m10_.out, m11_.out, m12_.out, m13_.out, m14_.out, m15_.out, m16_.out, m17_.out, m18_.out⟩ (fun hHeld => ?_)
      refine pure_ (i := 0) (N := some 30) (v := ?_) (a' := ?_) #[true, false, false, false, false, false, false, false, false, false, false, false] rfl rfl (by kernel_rfl) (fun _ _ _ h => h) (Or.inl ⟨by rfl, ?_⟩) ?_ ?_
      rotate_left
      · intro w'
        go_simp
        with_reducible rfl
      rotate_left
      · simp only [Act.put, List.setIfInBounds_toArray, List.set_cons_zero, List.set_cons_succ, i64_w, i32_w]
        rfl
      refine pure_ (i := 5) (N := some 35) (v := ?_) (a' := ?_) #[true, false, false, false, false, true, false, false, false, false, false, false] rfl rfl (by kernel_rfl) (fun _ _ _ h => h) (Or.inl ⟨by rfl, ?_⟩) ?_ ?_
      rotate_left
      · intro w'
        go_simp
        with_reducible rfl
      rotate_left
      · simp only [Act.put, List.setIfInBounds_toArray, List.set_cons_zero, List.set_cons_succ, i64_w, i32_w]
        rfl
      refine take_ (i := 1) (N := some 31) (v := ?_) (a' := ?_) #[true, true, false, false, false, true, false, false, false, false, false, false] rfl rfl (by kernel_rfl) (fun _ _ _ h => h) (Or.inl ⟨by rfl, ?_⟩) hHeld ?_ ?_
      rotate_left
      · rintro w' ⟨s0, s1, s2, s3, s4, s5, s6, s7, s8, s9, s10, s11, s12, s13, s14, s15, s16, s17, s18⟩
        go_simp
        with_reducible rfl
      rotate_left
      · simp only [Act.put, List.setIfInBounds_toArray, List.set_cons_zero, List.set_cons_succ, i64_w, i32_w]
        rfl
      refine pure_ (i := 2) (N := some 32) (v := ?_) (a' := ?_) #[true, true, true, false, false, true, false, false, false, false, false, false] rfl rfl (by kernel_rfl) (fun _ _ _ h => h) (Or.inl ⟨by rfl, ?_⟩) ?_ ?_
      rotate_left
      · intro w'
        go_simp
        with_reducible rfl
      rotate_left
      · simp only [Act.put, List.setIfInBounds_toArray, List.set_cons_zero, List.set_cons_succ, i64_w, i32_w]
        rfl
      refine take_ (i := 3) (N := some 33) (v := ?_) (a' := ?_) #[true, true, true, true, false, true, false, false, false, false, false, false] rfl rfl (by kernel_rfl) (fun _ _ _ h => h) (Or.inl ⟨by rfl, ?_⟩) hHeld ?_ ?_
      rotate_left
      · rintro w' ⟨s0, s1, s2, s3, s4, s5, s6, s7, s8, s9, s10, s11, s12, s13, s14, s15, s16, s17, s18⟩
        go_simp
        with_reducible rfl
      rotate_left
      · simp only [Act.put, List.setIfInBounds_toArray, List.set_cons_zero, List.set_cons_succ, i64_w, i32_w]
        rfl
      refine take_ (i := 6) (N := some 36) (v := ?_) (a' := ?_) #[true, true, true, true, false, true, true, false, false, false, false, false] rfl rfl (by kernel_rfl) (fun _ _ _ h => h) (Or.inl ⟨by rfl, ?_⟩) hHeld ?_ ?_
      rotate_left
      · rintro w' ⟨s0, s1, s2, s3, s4, s5, s6, s7, s8, s9, s10, s11, s12, s13, s14, s15, s16, s17, s18⟩
        go_simp
        with_reducible rfl
      rotate_left
      · simp only [Act.put, List.setIfInBounds_toArray, List.set_cons_zero, List.set_cons_succ, i64_w, i32_w]
        rfl
      refine pure_ (i := 7) (N := some 37) (v := ?_) (a' := ?_) #[true, true, true, true, false, true, true, true, false, false, false, false] rfl rfl (by kernel_rfl) (fun _ _ _ h => h) (Or.inl ⟨by rfl, ?_⟩) ?_ ?_
      rotate_left
      · intro w'
        go_simp
        with_reducible rfl
      rotate_left
      · simp only [Act.put, List.setIfInBounds_toArray, List.set_cons_zero, List.set_cons_succ, i64_w, i32_w]
        rfl
      refine take_ (i := 8) (N := some 38) (v := ?_) (a' := ?_) #[true, true, true, true, false, true, true, true, true, false, false, false] rfl rfl (by kernel_rfl) (fun _ _ _ h => h) (Or.inl ⟨by rfl, ?_⟩) hHeld ?_ ?_
      rotate_left
      · rintro w' ⟨s0, s1, s2, s3, s4, s5, s6, s7, s8, s9, s10, s11, s12, s13, s14, s15, s16, s17, s18⟩
        go_simp
        with_reducible rfl
      rotate_left
      · simp only [Act.put, List.setIfInBounds_toArray, List.set_cons_zero, List.set_cons_succ, i64_w, i32_w]
        rfl
      refine one_ (i := 4) (N := some 34) #[true, true, true, true, true, true, true, true, true, false, false, false] rfl rfl (by kernel_rfl) (by decide) (fun K hK => ?_)
      refine goes_ Tryd.func19 (by kernel_rfl) rfl #[encE p A0 c0] (by rfl) rfl rfl (by simp only [List.map_toArray, List.map_cons, List.map_nil]; rfl) ?_
      with_reducible refine (tables19 p A0 c0 _ (Kd.C_below HC0.out (Below.refl _ _))).mono ?_
      rintro e_ w6 ⟨rfl, hb6⟩
      refine ⟨_, rfl, ?_⟩
      refine hK.out _ _ ⟨cells_later hb6 hHeld.1, cells_later hb6 hHeld.2.1, cells_later hb6 hHeld.2.2.1, cells_later hb6 hHeld.2.2.2.1, cells_later hb6 hHeld.2.2.2.2.1, cells_later hb6 hHeld.2.2.2.2.2.1, cells_later hb6 hHeld.2.2.2.2.2.2.1, cells_later hb6 hHeld.2.2.2.2.2.2.2.1, cells_later hb6 hHeld.2.2.2.2.2.2.2.2.1, cells_later hb6 hHeld.2.2.2.2.2.2.2.2.2.1, cells_later hb6 hHeld.2.2.2.2.2.2.2.2.2.2.1, cells_later hb6 hHeld.2.2.2.2.2.2.2.2.2.2.2.1, cells_later hb6 hHeld.2.2.2.2.2.2.2.2.2.2.2.2.1, cells_later hb6 hHeld.2.2.2.2.2.2.2.2.2.2.2.2.2.1, cells_later hb6 hHeld.2.2.2.2.2.2.2.2.2.2.2.2.2.2.1, cells_later hb6 hHeld.2.2.2.2.2.2.2.2.2.2.2.2.2.2.2.1, cells_later hb6 hHeld.2.2.2.2.2.2.2.2.2.2.2.2.2.2.2.2.1, cells_later hb6 hHeld.2.2.2.2.2.2.2.2.2.2.2.2.2.2.2.2.2.1, cells_later hb6 hHeld.2.2.2.2.2.2.2.2.2.2.2.2.2.2.2.2.2.2⟩ (fun hHeld => ?_)
      clear hK K
      refine norm_ (a' := ?_) ?_ ?_
      rotate_left
      · show Act.put _ (some 34) _ = _
        simp only [Act.put, List.setIfInBounds_toArray, List.set_cons_zero, List.set_cons_succ, i64_w, i32_w]
        rfl
      refine one_ (i := 9) (N := some 39) #[true, true, true, true, true, true, true, true, true, true, false, false] rfl rfl (by kernel_rfl) (by decide) (fun K hK => ?_)
      refine goes_ Tryd.func19 (by kernel_rfl) rfl #[encE q A1 c1] (by rfl) rfl rfl (by simp only [List.map_toArray, List.map_cons, List.map_nil]; rfl) ?_
      with_reducible refine (tables19 q A1 c1 _ (Kd.C_below HC1.out hb6)).mono ?_
      rintro e_ w7 ⟨rfl, hb7⟩
      refine ⟨_, rfl, ?_⟩
      refine hK.out _ _ ⟨cells_later hb7 hHeld.1, cells_later hb7 hHeld.2.1, cells_later hb7 hHeld.2.2.1, cells_later hb7 hHeld.2.2.2.1, cells_later hb7 hHeld.2.2.2.2.1, cells_later hb7 hHeld.2.2.2.2.2.1, cells_later hb7 hHeld.2.2.2.2.2.2.1, cells_later hb7 hHeld.2.2.2.2.2.2.2.1, cells_later hb7 hHeld.2.2.2.2.2.2.2.2.1, cells_later hb7 hHeld.2.2.2.2.2.2.2.2.2.1, cells_later hb7 hHeld.2.2.2.2.2.2.2.2.2.2.1, cells_later hb7 hHeld.2.2.2.2.2.2.2.2.2.2.2.1, cells_later hb7 hHeld.2.2.2.2.2.2.2.2.2.2.2.2.1, cells_later hb7 hHeld.2.2.2.2.2.2.2.2.2.2.2.2.2.1, cells_later hb7 hHeld.2.2.2.2.2.2.2.2.2.2.2.2.2.2.1, cells_later hb7 hHeld.2.2.2.2.2.2.2.2.2.2.2.2.2.2.2.1, cells_later hb7 hHeld.2.2.2.2.2.2.2.2.2.2.2.2.2.2.2.2.1, cells_later hb7 hHeld.2.2.2.2.2.2.2.2.2.2.2.2.2.2.2.2.2.1, cells_later hb7 hHeld.2.2.2.2.2.2.2.2.2.2.2.2.2.2.2.2.2.2⟩ (fun hHeld => ?_)
      clear hK K
      refine norm_ (a' := ?_) ?_ ?_
      rotate_left
      · show Act.put _ (some 39) _ = _
        simp only [Act.put, List.setIfInBounds_toArray, List.set_cons_zero, List.set_cons_succ, i64_w, i32_w]
        rfl
      refine pure_ (i := 10) (N := some 11) (v := ?_) (a' := ?_) #[true, true, true, true, true, true, true, true, true, true, true, false] rfl rfl (by kernel_rfl) (fun _ _ _ h => h) (Or.inl ⟨by rfl, ?_⟩) ?_ ?_
      rotate_left
      · intro w'
        go_simp
        with_reducible rfl
      rotate_left
      · simp only [Act.put, List.setIfInBounds_toArray, List.set_cons_zero, List.set_cons_succ, i64_w, i32_w]
        rfl
      refine pure_ (i := 11) (N := some 12) (v := ?_) (a' := ?_) #[true, true, true, true, true, true, true, true, true, true, true, true] rfl rfl (by kernel_rfl) (fun _ _ _ h => h) (Or.inl ⟨by rfl, ?_⟩) ?_ ?_
      rotate_left
      · intro w'
        go_simp
        with_reducible rfl
      rotate_left
      · simp only [Act.put, List.setIfInBounds_toArray, List.set_cons_zero, List.set_cons_succ, i64_w, i32_w]
        rfl
      refine done_ (by kernel_rfl) ?_
      have HB7 := Aside0.mk ((HW5.out.trans (hb6.mono HW5.out.size)).trans (hb7.mono (Nat.le_trans HW5.out.size hb6.size)))
      clear hb6 hb7 hHeld
      obtain ⟨p1, hp1⟩ : ∃ v, v = inB (tablesX p) left := ⟨_, rfl⟩
      obtain ⟨p2, hp2⟩ : ∃ v, v = inB (tablesX q) right := ⟨_, rfl⟩
      obtain ⟨p3, hp3⟩ : ∃ v, v = inB (tablesX p) right := ⟨_, rfl⟩
      obtain ⟨p4, hp4⟩ : ∃ v, v = inB (tablesX q) left := ⟨_, rfl⟩
      have HQ : Aside0 (joinsX L i left right = ((p1 && p2) || (p3 && p4))) := ⟨by rw [HJ.out, hp1, hp2, hp3, hp4]⟩
      have Q1 : Aside0 (∀ w, Calls Tryd.prog 24 #[.int .i64 (tablesX p), .int .i64 left] w fun e_ w' => e_ = .returned (.bool p1) ∧ Below w.heap.size w w') := ⟨fun w => by rw [hp1]; exact in24 _ _ w⟩
      have Q2 : Aside0 (∀ w, Calls Tryd.prog 24 #[.int .i64 (tablesX q), .int .i64 right] w fun e_ w' => e_ = .returned (.bool p2) ∧ Below w.heap.size w w') := ⟨fun w => by rw [hp2]; exact in24 _ _ w⟩
      have Q3 : Aside0 (∀ w, Calls Tryd.prog 24 #[.int .i64 (tablesX p), .int .i64 right] w fun e_ w' => e_ = .returned (.bool p3) ∧ Below w.heap.size w w') := ⟨fun w => by rw [hp3]; exact in24 _ _ w⟩
      have Q4 : Aside0 (∀ w, Calls Tryd.prog 24 #[.int .i64 (tablesX q), .int .i64 left] w fun e_ w' => e_ = .returned (.bool p4) ∧ Below w.heap.size w w') := ⟨fun w => by rw [hp4]; exact in24 _ _ w⟩
      clear hp1 hp2 hp3 hp4
      generalize tablesX p = tp at *
      generalize tablesX q = tq at *
      cases p1 <;> cases p2 <;> cases p3 <;> cases p4
      all_goals
        go_wp2_with (first | (go_at_call 24; with_reducible refine (Q1.out _).mono ?_; rintro e_ v1 ⟨rfl, hv⟩; have HV1 := Aside0.mk (HB7.out.trans (hv.mono HB7.out.size)); have MK1 := Aside0.mk trivial; clear hv Q1) | (go_at_call 24; with_reducible refine (Q2.out _).mono ?_; rintro e_ v2 ⟨rfl, hv⟩; have HV2 := Aside0.mk (HV1.out.trans (hv.mono HV1.out.size)); clear hv HV1; have HV1 := HV2; clear HV2 Q2) | (go_at_call 24; with_reducible refine (Q3.out _).mono ?_; rintro e_ v3 ⟨rfl, hv⟩; have HV3 := Aside0.mk (HV1.out.trans (hv.mono HV1.out.size)); clear hv HV1; have HV1 := HV3; clear HV3 Q3) | (go_at_call 24; with_reducible refine (Q4.out _).mono ?_; rintro e_ v4 ⟨rfl, hv⟩; have HV4 := Aside0.mk (HV1.out.trans (hv.mono HV1.out.size)); clear hv HV1; have HV1 := HV4; clear HV4 Q4))
        go_ret
        rw [HQ.out]
        exact ⟨rfl, HV1.out⟩

end Go.Proofs.YtmnjaihalajhcaaDoor.QPlanConds
