import Derived.Test.YtmnjaihalajhcaaDoorPlS
/- Plan: walks by hand; the conditions stand in each theorem. -/
namespace Go.Proofs.YtmnjaihalajhcaaDoor.QPlanConds
open Go.RowKit Go.Proofs.YtmnjaihalajhcaaDoorW.PrintWords Go.Proofs.YtmnjaihalajhcaaDoorW.PrintLast Go.Proofs.YtmnjaihalajhcaaDoorW.PrintMore
attribute [local go_sem] max2_int min2_int max_two min_two max_three min_three max_four min_four
set_option linter.unusedVariables false
set_option linter.unusedSimpArgs false
/- With more rows nothing costs less. -/
def PGe (l m : List Int) : Prop := l.length = m.length ∧ ∀ i (h : i < l.length) (h' : i < m.length), l[i] ≤ m[i]
theorem PGe.refl (l : List Int) : PGe l l := ⟨rfl, fun _ _ _ => Int.le_refl _⟩
theorem PGe.at_ {l m : List Int} (h : PGe l m) (i : Int) : atI l i ≤ atI m i := by
  unfold atI
  rw [h.1]
  split
  · exact Int.le_refl _
  · split
    · exact Int.le_refl _
    · rename_i h0 h1
      obtain ⟨n, rfl⟩ := Int.eq_ofNat_of_zero_le (show 0 ≤ i by omega)
      have hm : n < m.length := by omega
      have hl : n < l.length := by have := h.1; omega
      rw [Int.toNat_natCast, List.getD_eq_getElem?_getD, List.getD_eq_getElem?_getD, List.getElem?_eq_getElem hl, List.getElem?_eq_getElem hm]
      exact h.2 n hl hm
theorem PGe.set {l m : List Int} (h : PGe l m) (k : Nat) (v : Int) (hv : ∀ h' : k < m.length, m[k] ≤ v) : PGe l (m.set k v) := by
  refine ⟨by rw [List.length_set]; exact h.1, fun i hi hi' => ?_⟩
  rw [List.length_set] at hi'
  rw [List.getElem_set]
  split
  · rename_i e
    subst e
    exact Int.le_trans (h.2 k hi hi') (hv hi')
  · exact h.2 i hi hi'
theorem le2_map (f g : S34 → Int) : ∀ l : List S34, (∀ x ∈ l, f x ≤ g x) → ∀ a b : Int, a ≤ b → Le2 (l.map f ++ [a]) (l.map g ++ [b])
  | [], _, a, b, h => by simp [Le2, h]
  | x :: l, hx, a, b, h => by
    have h1 := hx x List.mem_cons_self
    have h2 := le2_map f g l (fun y hy => hx y (List.mem_cons_of_mem _ hy)) a b h
    simp [Le2, h1]
    exact h2
theorem own_mono {B B' C C' : List Int} (hB : ∀ i, atI B i ≤ atI B' i) (hC : ∀ i, atI C i ≤ atI C' i) (p : S34) : ownI B C p ≤ ownI B' C' p := by
  have h0 : in0 C p ≤ in0 C' p := by unfold in0; split; exact hC _; exact Int.le_refl _
  have h1 : in1 C p ≤ in1 C' p := by unfold in1; split; exact hC _; exact Int.le_refl _
  have ho := hC p.f3
  have hb := hB p.f1
  unfold ownI
  split
  · exact tot_mono (by simp [Le2, hb])
  split
  · exact tot_mono (by simp [Le2, ho])
  split
  · exact tot_mono (by simp [Le2, h0, ho, mul_mono h0 h1])
  split
  · exact tot_mono (by simp [Le2, h0, h1, ho])
  split
  · exact tot_mono (by simp [Le2, h0, h1, ho, sortI_mono h0, sortI_mono h1])
  split
  · exact clip_mono ho
  · exact Int.le_refl _
theorem cost_mono {B B' C C' : List Int} (hB : ∀ i, atI B i ≤ atI B' i) (hC : ∀ i, atI C i ≤ atI C' i) : ∀ p : S34, costX B C p ≤ costX B' C' p := by
  refine ind34 ?_
  intro p ih
  rw [costX_eq, costX_eq]
  exact tot_mono (le2_map _ _ _ ih _ _ (own_mono hB hC p))
theorem cost_b (B C : List Int) (p : S34) : 0 ≤ costX B C p ∧ costX B C p ≤ 1000000000000 := by
  rw [costX_eq]
  exact tot_b _
/- A right plan has two inputs at most. -/
theorem node_bin {core : Int} {L : List S46} {T : List Int} : ∀ p : S34, nodeX core L T p = true → binB p = true := by
  refine ind34 ?_
  intro p ih h
  rw [binB_eq]
  obtain ⟨_, ⟨_, hl, _, hx, hy, _⟩ | ⟨_, hl, _⟩⟩ := node_ways h
  · have hz := list_two hl
    have e : (p.f7.map binB).all id = ([rd_T34 p.f7 0, rd_T34 p.f7 1].map binB).all id := congrArg (fun l => (List.map binB l).all id) hz
    rw [hl, e]
    simp [ih _ (mem_two hl).1 hx, ih _ (mem_two hl).2 hy]
  · have hz : p.f7 = [] := List.eq_nil_of_length_eq_zero hl
    rw [hz]
    rfl
theorem copyR {w : World} {A : Option Addr} {l : List Int} (h : (Kd.int .i64).C w A l.length l) : ReadsRow ((Kd.int .i64).K w) (Kd.int IntKind.i64).sz w A l.length l := h
set_option maxRecDepth 8000 in
set_option maxHeartbeats 16000000 in
theorem costs_row (W : World) (b : BV) (L : List S46) (At : Option Addr) (ct : Nat) (T : List Int) (p : S34) (A : Option Addr) (c : Nat) (Ab : Option Addr) (cb : Nat) (B : List Int) (Ac : Option Addr) (cc : Nat) (C : List Int) (set more : Int) (hn : b.n4 = L.length) (hL : k46.C W b.A4 b.n4 L) (hT : (Kd.int .i64).C W At T.length T) (hct : T.length ≤ ct) (wT : (∀ y ∈ T, (Lit.int .i64 y).wf = true) ∧ T.length * 8 ≤ 140737488351232 ∧ T.length ≤ maxLen) (hC : k34.C W A p.f7.length p.f7) (wp : numsP I64 p)
    (hB : (Kd.int .i64).C W Ab B.length B) (hcb : B.length ≤ cb) (wB : (∀ y ∈ B, (Lit.int .i64 y).wf = true) ∧ B.length * 8 ≤ 140737488351232 ∧ B.length ≤ maxLen) (hCc : (Kd.int .i64).C W Ac C.length C) (hcc : C.length ≤ cc) (wC : (∀ y ∈ C, (Lit.int .i64 y).wf = true) ∧ C.length * 8 ≤ 140737488351232 ∧ C.length ≤ maxLen) (ws : (Lit.int .i64 set).wf = true) (wm : (Lit.int .i64 more).wf = true) :
    Calls Tryd.prog 8 #[b.enc, .slice At T.length ct, encP p A c, .slice Ab B.length cb, .slice Ac C.length cc, .int .i64 set, .int .i64 more] W fun e_ w' => e_ = .returned (.bool true) ∧ Below W.heap.size W w' := by
  have HN := Aside0.mk hn
  have HLc := Aside0.mk hL
  have HT := Aside0.mk hT
  have HC := Aside0.mk hC
  have HB_ := Aside0.mk hB
  have HC_ := Aside0.mk hCc
  have HBL := Aside0.mk wB.2.1
  have HCL := Aside0.mk wC.2.1
  have IM := Aside0.mk (i64_bd wm)
  have IS := Aside0.mk (i64_bd ws)
  clear hn hL hT hct wT hC wp hB hcb wB hCc hcc wC ws wm
  have hu34 := Tryd.underlying34
  have hu26 := Tryd.underlying26
  obtain ⟨r, hr⟩ : ∃ r, r = rightP b.n0 b.core L T p := ⟨_, rfl⟩
  have H14 : Aside0 (∀ w', Below W.heap.size W w' → Calls Tryd.prog 14 #[b.enc, .slice At T.length ct, encP p A c] w' fun e_ w'' => e_ = .returned (.bool r) ∧ Below w'.heap.size w' w'') := ⟨fun w' hb => by rw [hr]; exact right14 b L At ct T p A c w' HN.out (Kd.C_below HLc.out hb) (Kd.C_below HT.out hb) (Kd.C_below HC.out hb)⟩
  unfold BV.enc
  rcases r with _ | _
  · clear hr
    go_enter Tryd.func8, Tryd.ntmps8
    go_wp2_with (first | ((with_reducible refine gate_dst (N := 7) rfl ?_); refine box_event ?hg (N := 7) ?hd (cs := b.cells) (t := 26) ?hr ?_; (case hd => rfl); (case hg => rfl); (case hr => unfold BV.cells; first | (go_simp; done) | (go_simp; rfl)); intro gb hg1 w1 hbox hb; have BB1 := Aside0.mk hbox; have HB1 := Aside0.mk hb; clear hbox hb hg1) | ((with_reducible refine gate_dst (N := 9) rfl ?_); refine box_event ?hg (N := 9) ?hd (cs := cellsP p (.slice A p.f7.length c)) (t := 34) ?hr ?_; (case hd => rfl); (case hg => rfl); (case hr => unfold cellsP encP; first | (go_simp; done) | (go_simp; rfl)); intro gp hg1 w2 hbox hb; have BP2 := Aside0.mk hbox; have HB2 := Aside0.mk (bst HB1.out hb); have BB2 := Aside0.mk ((hb.block gb (blk_lt BB1.out)).trans BB1.out); clear hbox hb hg1) | (go_at_call 9; refine (examples9 _).mono ?_; rintro e_ w3 ⟨rfl, hb3⟩; have HB3 := Aside0.mk (bst HB2.out hb3); have BB3 := Aside0.mk ((hb3.block gb (blk_lt BB2.out)).trans BB2.out); have BP3 := Aside0.mk ((hb3.block gp (blk_lt BP2.out)).trans BP2.out); clear hb3; have k0 := (blk_cell BP3.out 0).trans (rfl : _ = some (Value.int .i64 p.f0)); have k1 := (blk_cell BP3.out 1).trans (rfl : _ = some (Value.int .i64 p.f1)); have k2 := (blk_cell BP3.out 2).trans (rfl : _ = some (Value.int .i64 p.f2)); have k3 := (blk_cell BP3.out 3).trans (rfl : _ = some (Value.int .i64 p.f3)); have k4 := (blk_cell BP3.out 4).trans (rfl : _ = some (Value.bool p.f4)); have k5 := (blk_cell BP3.out 5).trans (rfl : _ = some (Value.int .i64 p.f5)); have k6 := (blk_cell BP3.out 6).trans (rfl : _ = some (Value.int .i64 p.f6)); have k7 := (blk_cell BP3.out 7).trans (rfl : _ = some (Value.slice A p.f7.length c)); have b0 := (blk_cell BB3.out 0).trans (rfl : _ = some (Value.slice b.A0 b.n0 b.c0)); have b1 := (blk_cell BB3.out 1).trans (rfl : _ = some (Value.int .i64 b.core)); have b2 := (blk_cell BB3.out 2).trans (rfl : _ = some (Value.slice b.A2 b.n2 b.c2)); have b3 := (blk_cell BB3.out 3).trans (rfl : _ = some (Value.slice b.A3 b.n3 b.c3)); have b4 := (blk_cell BB3.out 4).trans (rfl : _ = some (Value.slice b.A4 b.n4 b.c4)); have b5 := (blk_cell BB3.out 5).trans (rfl : _ = some (Value.slice b.A5 b.n5 b.c5)); have b6 := (blk_cell BB3.out 6).trans (rfl : _ = some (Value.slice b.A6 b.n6 b.c6)); have b7 := (blk_cell BB3.out 7).trans (rfl : _ = some (Value.bool b.g7)); have b8 := (blk_cell BB3.out 8).trans (rfl : _ = some (Value.slice b.A8 b.n8 b.c8)); have b9 := (blk_cell BB3.out 9).trans (rfl : _ = some (Value.slice b.A9 b.n9 b.c9)); have b10 := (blk_cell BB3.out 10).trans (rfl : _ = some (Value.bool b.d10))) | (go_at_call 14; refine (H14.out _ HB3.out).mono ?_; rintro e_ w4 ⟨rfl, hb4⟩; have HB4 := Aside0.mk (bst HB3.out hb4); have BP4 := Aside0.mk ((hb4.block gp (blk_lt BP3.out)).trans BP3.out); clear hb4 k0 k1 k2 k3 k4 k5 k6 k7 b0 b1 b2 b3 b4 b5 b6 b7 b8 b9 b10))
    go_ret
    exact ⟨rfl, HB4.out⟩
  by_cases hs : set < 0
  · clear hr
    go_enter Tryd.func8, Tryd.ntmps8
    go_wp2_with (first | ((with_reducible refine gate_dst (N := 7) rfl ?_); refine box_event ?hg (N := 7) ?hd (cs := b.cells) (t := 26) ?hr ?_; (case hd => rfl); (case hg => rfl); (case hr => unfold BV.cells; first | (go_simp; done) | (go_simp; rfl)); intro gb hg1 w1 hbox hb; have BB1 := Aside0.mk hbox; have HB1 := Aside0.mk hb; clear hbox hb hg1) | ((with_reducible refine gate_dst (N := 9) rfl ?_); refine box_event ?hg (N := 9) ?hd (cs := cellsP p (.slice A p.f7.length c)) (t := 34) ?hr ?_; (case hd => rfl); (case hg => rfl); (case hr => unfold cellsP encP; first | (go_simp; done) | (go_simp; rfl)); intro gp hg1 w2 hbox hb; have BP2 := Aside0.mk hbox; have HB2 := Aside0.mk (bst HB1.out hb); have BB2 := Aside0.mk ((hb.block gb (blk_lt BB1.out)).trans BB1.out); clear hbox hb hg1) | (go_at_call 9; refine (examples9 _).mono ?_; rintro e_ w3 ⟨rfl, hb3⟩; have HB3 := Aside0.mk (bst HB2.out hb3); have BB3 := Aside0.mk ((hb3.block gb (blk_lt BB2.out)).trans BB2.out); have BP3 := Aside0.mk ((hb3.block gp (blk_lt BP2.out)).trans BP2.out); clear hb3; have k0 := (blk_cell BP3.out 0).trans (rfl : _ = some (Value.int .i64 p.f0)); have k1 := (blk_cell BP3.out 1).trans (rfl : _ = some (Value.int .i64 p.f1)); have k2 := (blk_cell BP3.out 2).trans (rfl : _ = some (Value.int .i64 p.f2)); have k3 := (blk_cell BP3.out 3).trans (rfl : _ = some (Value.int .i64 p.f3)); have k4 := (blk_cell BP3.out 4).trans (rfl : _ = some (Value.bool p.f4)); have k5 := (blk_cell BP3.out 5).trans (rfl : _ = some (Value.int .i64 p.f5)); have k6 := (blk_cell BP3.out 6).trans (rfl : _ = some (Value.int .i64 p.f6)); have k7 := (blk_cell BP3.out 7).trans (rfl : _ = some (Value.slice A p.f7.length c)); have b0 := (blk_cell BB3.out 0).trans (rfl : _ = some (Value.slice b.A0 b.n0 b.c0)); have b1 := (blk_cell BB3.out 1).trans (rfl : _ = some (Value.int .i64 b.core)); have b2 := (blk_cell BB3.out 2).trans (rfl : _ = some (Value.slice b.A2 b.n2 b.c2)); have b3 := (blk_cell BB3.out 3).trans (rfl : _ = some (Value.slice b.A3 b.n3 b.c3)); have b4 := (blk_cell BB3.out 4).trans (rfl : _ = some (Value.slice b.A4 b.n4 b.c4)); have b5 := (blk_cell BB3.out 5).trans (rfl : _ = some (Value.slice b.A5 b.n5 b.c5)); have b6 := (blk_cell BB3.out 6).trans (rfl : _ = some (Value.slice b.A6 b.n6 b.c6)); have b7 := (blk_cell BB3.out 7).trans (rfl : _ = some (Value.bool b.g7)); have b8 := (blk_cell BB3.out 8).trans (rfl : _ = some (Value.slice b.A8 b.n8 b.c8)); have b9 := (blk_cell BB3.out 9).trans (rfl : _ = some (Value.slice b.A9 b.n9 b.c9)); have b10 := (blk_cell BB3.out 10).trans (rfl : _ = some (Value.bool b.d10))) | (go_at_call 14; refine (H14.out _ HB3.out).mono ?_; rintro e_ w4 ⟨rfl, hb4⟩; have HB4 := Aside0.mk (bst HB3.out hb4); have BP4 := Aside0.mk ((hb4.block gp (blk_lt BP3.out)).trans BP3.out); clear hb4 k0 k1 k2 k3 k4 k5 k6 k7 b0 b1 b2 b3 b4 b5 b6 b7 b8 b9 b10))
    go_ret
    exact ⟨rfl, HB4.out⟩
  · have HBN := Aside0.mk (node_bin p (right_node hr.symm).2.2.2.2)
    clear hr
    go_enter Tryd.func8, Tryd.ntmps8
    go_upto_if 33 with (first | ((with_reducible refine gate_dst (N := 7) rfl ?_); refine box_event ?hg (N := 7) ?hd (cs := b.cells) (t := 26) ?hr ?_; (case hd => rfl); (case hg => rfl); (case hr => unfold BV.cells; first | (go_simp; done) | (go_simp; rfl)); intro gb hg1 w1 hbox hb; have BB1 := Aside0.mk hbox; have HB1 := Aside0.mk hb; clear hbox hb hg1) | ((with_reducible refine gate_dst (N := 9) rfl ?_); refine box_event ?hg (N := 9) ?hd (cs := cellsP p (.slice A p.f7.length c)) (t := 34) ?hr ?_; (case hd => rfl); (case hg => rfl); (case hr => unfold cellsP encP; first | (go_simp; done) | (go_simp; rfl)); intro gp hg1 w2 hbox hb; have BP2 := Aside0.mk hbox; have HB2 := Aside0.mk (bst HB1.out hb); have BB2 := Aside0.mk ((hb.block gb (blk_lt BB1.out)).trans BB1.out); clear hbox hb hg1) | (go_at_call 9; refine (examples9 _).mono ?_; rintro e_ w3 ⟨rfl, hb3⟩; have HB3 := Aside0.mk (bst HB2.out hb3); have BB3 := Aside0.mk ((hb3.block gb (blk_lt BB2.out)).trans BB2.out); have BP3 := Aside0.mk ((hb3.block gp (blk_lt BP2.out)).trans BP2.out); clear hb3; have k0 := (blk_cell BP3.out 0).trans (rfl : _ = some (Value.int .i64 p.f0)); have k1 := (blk_cell BP3.out 1).trans (rfl : _ = some (Value.int .i64 p.f1)); have k2 := (blk_cell BP3.out 2).trans (rfl : _ = some (Value.int .i64 p.f2)); have k3 := (blk_cell BP3.out 3).trans (rfl : _ = some (Value.int .i64 p.f3)); have k4 := (blk_cell BP3.out 4).trans (rfl : _ = some (Value.bool p.f4)); have k5 := (blk_cell BP3.out 5).trans (rfl : _ = some (Value.int .i64 p.f5)); have k6 := (blk_cell BP3.out 6).trans (rfl : _ = some (Value.int .i64 p.f6)); have k7 := (blk_cell BP3.out 7).trans (rfl : _ = some (Value.slice A p.f7.length c)); have b0 := (blk_cell BB3.out 0).trans (rfl : _ = some (Value.slice b.A0 b.n0 b.c0)); have b1 := (blk_cell BB3.out 1).trans (rfl : _ = some (Value.int .i64 b.core)); have b2 := (blk_cell BB3.out 2).trans (rfl : _ = some (Value.slice b.A2 b.n2 b.c2)); have b3 := (blk_cell BB3.out 3).trans (rfl : _ = some (Value.slice b.A3 b.n3 b.c3)); have b4 := (blk_cell BB3.out 4).trans (rfl : _ = some (Value.slice b.A4 b.n4 b.c4)); have b5 := (blk_cell BB3.out 5).trans (rfl : _ = some (Value.slice b.A5 b.n5 b.c5)); have b6 := (blk_cell BB3.out 6).trans (rfl : _ = some (Value.slice b.A6 b.n6 b.c6)); have b7 := (blk_cell BB3.out 7).trans (rfl : _ = some (Value.bool b.g7)); have b8 := (blk_cell BB3.out 8).trans (rfl : _ = some (Value.slice b.A8 b.n8 b.c8)); have b9 := (blk_cell BB3.out 9).trans (rfl : _ = some (Value.slice b.A9 b.n9 b.c9)); have b10 := (blk_cell BB3.out 10).trans (rfl : _ = some (Value.bool b.d10))) | (go_at_call 14; refine (H14.out _ HB3.out).mono ?_; rintro e_ w4 ⟨rfl, hb4⟩; have HB4 := Aside0.mk (bst HB3.out hb4); have BP4 := Aside0.mk ((hb4.block gp (blk_lt BP3.out)).trans BP3.out); clear hb4 k0 k1 k2 k3 k4 k5 k6 k7 b0 b1 b2 b3 b4 b5 b6 b7 b8 b9 b10))
    go_cut [6] (fun s6 wx => ∃ m : Int, s6 = .int .i64 m ∧ Aside0 (0 ≤ m) ∧ w4 = wx)
    case first =>
      as_aux_lemma =>
        by_cases qm : more < 0
        · have hw1 : wrap64 (more + 1) = more + 1 := w64_ (by have := IM.out; omega) (by omega)
          have hw2 : wrap64 (-(more + 1)) = -(more + 1) := w64_ (by omega) (by have := IM.out; omega)
          have HM : Aside0 (0 ≤ wrap64 (-(more + 1))) := ⟨by rw [hw2]; omega⟩
          go_wp2_with fail
          go_meet
          exact ⟨_, rfl, HM, rfl⟩
        · have HM : Aside0 (0 ≤ more) := ⟨by omega⟩
          go_wp2_with fail
          go_meet
          exact ⟨_, rfl, HM, rfl⟩
    case rest =>
    obtain ⟨m0, rfl, HM0, rfl⟩ := hcut
    have HMM : Aside0 (0 ≤ Int.tmod m0 1000 ∧ Int.tmod m0 1000 < 1000) := ⟨Int.tmod_nonneg _ HM0.out, Int.tmod_lt_of_pos _ (by decide)⟩
    go_upto_block 0 with (((with_reducible refine gate_builtin (b := .append) (xs := #[.const (.slice none 0 0), .tmp 39]) rfl ?_); at_builtin; refine Kd.R_append_rows (Kd.int .i64) (w0 := w4) (Rr := (Kd.int .i64).K w4) w4.heap.size rfl (.const (.slice none 0 0)) (.tmp 39) 22 3 (.int .i64 0) 8 rfl Tryd.underlying22 info3 rfl (by decide) (by decide) _ ([] : List Int) C Ac C.length cc (fun _ => True) (fun _ => False) (by first | (go_simp; done) | (go_simp; rfl)) (by first | (go_simp; done) | (go_simp; rfl)) (Kd.R_nil _ _ _ _ _) (copyR (Kd.C_below HC_.out HB4.out)) (fun x cs hx => hx) (fun _ hk => hk.elim) (fun _ _ => trivial) (Below.refl _ _) (Nat.le_refl _) (by have := HCL.out; simp only [List.length_nil]; omega) ?_; intro v5 w5 hm5_ hb5 hg5 hat5; have hm5 : (Kd.int .i64).R 3 w5 w4.heap.size (fun _ => True) v5 C := hm5_; have HB5 := Aside0.mk (bst HB4.out hb5); have BP5 := Aside0.mk ((hb5.block gp (blk_lt BP4.out)).trans BP4.out); have hsz5 := hb5.size; clear hm5_ hb5 hg5 hat5))
    have HBaW := HB4
    have HGPa := Aside0.mk (blk_lt BP4.out)
    obtain ⟨A5, c5, rfl⟩ := Kd.R_slice hm5
    have HQa := Aside0.mk hm5
    have HSZa : Aside0 (w4.heap.size ≤ w5.heap.size) := ⟨hsz5⟩
    have HMXa := Aside0.mk (Kd.C_max HC_.out)
    clear hm5 hsz5
    obtain ⟨sna, hsna⟩ := Int.eq_ofNat_of_zero_le (Int.tmod_nonneg 16 (show 0 ≤ set by omega))
    have hsnba : set % 16 = (sna : Int) := by rw [← hsna]; exact (Int.tmod_eq_emod_of_nonneg (by omega)).symm
    go_wp2_with fail
    go_loopw [17] (fun s17 wr => ∃ (i : Nat) (l' : List Int), i ≤ C.length ∧ s17 = .int .i64 (i : Int) ∧ Aside0 ((Kd.int .i64).R 3 wr w4.heap.size (fun _ => True) (.slice A5 C.length c5) l') ∧ Aside0 (PGe C l') ∧ Aside0 (Below W.heap.size W wr) ∧ Aside0 (w4.heap.size ≤ wr.heap.size) ∧ Aside0 (wr.heap[gp]? = some (.cells (cellsP p (.slice A p.f7.length c)) 34 (0, 0)))) (fun s17 _ => C.length - (intOf s17).toNat)
    case atStart => exact ⟨0, C, Nat.zero_le _, rfl, HQa, ⟨PGe.refl _⟩, HB5, HSZa, BP5⟩
    case round =>
      obtain ⟨i, l', hi, rfl, HRr, HG, HBr, HSr, BPr⟩ := hrel
      by_cases hlt : i < C.length
      · have hin : (i : Int) < (C.length : Int) := by omega
        have hwi : wrap64 ((i : Int) + 1) = (i : Int) + 1 := w64_ (by omega) (by have := HMXa.out; omega)
        have hl2 : i < l'.length := by have := HG.out.1; omega
        obtain ⟨g, cap, ef, hbg, hgl, _⟩ := Kd.R_form HRr.out (by omega)
        injection ef with ef1 ef2 ef3
        subst ef1
        have HGG := Aside0.mk hbg
        obtain ⟨hcell, hfro⟩ := Kd.R_celln (0 : Int) HRr.out (i : Int) (by omega) hin
        rw [Int.toNat_natCast] at hcell hfro
        have hrd : rdOf (0 : Int) l' (i : Int) = l'[i] := by unfold rdOf; rw [Int.toNat_natCast, List.getD_eq_getElem?_getD, List.getElem?_eq_getElem hl2]; rfl
        rw [hrd] at hcell
        have had : (⟨g, 0, none⟩ : Addr).add i = ⟨g, i, none⟩ := by unfold Addr.add; split <;> simp_all
        obtain ⟨ad, hadd⟩ : ∃ ad : Addr, ad = ⟨g, 0, none⟩ := ⟨_, rfl⟩
        rw [← hadd] at had HRr
        rw [← had] at hcell hfro
        rw [← hadd]
        have HAD := Aside0.mk had
        have HAD2 := Aside0.mk hadd
        clear had hadd hgl hbg hrd
        obtain ⟨x, hx⟩ : ∃ x, x = l'[i] := ⟨_, rfl⟩
        rw [← hx] at hcell
        have HX := Aside0.mk hx
        clear hx
        by_cases q1 : i = sna
        · subst q1
          rcases Bool.eq_false_or_eq_true (decide (x < 1125899906842624)) with q2 | q2
          · have HV : Aside0 (x ≤ wrap64 ((if 0 < x then x else 0) + m0.tmod 1000)) := ⟨by have h1 := HMM.out; have h2 := of_decide_eq_true q2; split; (rw [w64_ (by omega) (by omega)]; omega); (rw [w64_ (by omega) (by omega)]; omega)⟩
            go_wp2_with fail
            obtain ⟨nv, hnv⟩ : ∃ v, v = wrap64 ((if 0 < x then x else 0) + m0.tmod 1000) := ⟨_, rfl⟩
            rw [← hnv]
            have HV2 : Aside0 (x ≤ nv) := ⟨by rw [hnv]; exact HV.out⟩
            have HR2 : Aside0 ((Kd.int .i64).R 3 (wr.setCell (ad.add i) (.int .i64 nv)) w4.heap.size (fun _ => True) (.slice (some ad) C.length c5) (l'.set i nv)) := ⟨by have h0 := HRr.out; rw [HAD2.out] at h0; have h1 := Kd.R_putn h0 (i : Int) nv; rw [Int.toNat_natCast] at h1; rw [HAD.out, HAD2.out]; exact h1⟩
            have HG2 : Aside0 (PGe C (l'.set i nv)) := ⟨HG.out.set i nv (fun h' => by rw [← HX.out]; exact HV2.out)⟩
            have HB2_ : Aside0 (Below W.heap.size W (wr.setCell (ad.add i) (.int .i64 nv))) := ⟨by rw [HAD.out]; exact below_set HBr.out (by have h1 := HGG.out; have h2 := HBaW.out.size; omega)⟩
            have HS2_ : Aside0 (w4.heap.size ≤ (wr.setCell (ad.add i) (.int .i64 nv)).heap.size) := ⟨by simpa [World.setCell] using HSr.out⟩
            have BP2_ : Aside0 ((wr.setCell (ad.add i) (.int .i64 nv)).heap[gp]? = some (.cells (cellsP p (.slice A p.f7.length c)) 34 (0, 0))) := ⟨by rw [HAD.out]; exact (Below.heap_setCell _ _ _ _ (by have h1 := HGG.out; have h2 := HGPa.out; show gp ≠ g; omega)).trans BPr.out⟩
            go_roundw
            case rel => exact ⟨i + 1, l'.set i nv, by omega, by go_num, HR2, HG2, HB2_, HS2_, BP2_⟩
            case measure => first | exact meas_ hlt | (rw [hwi]; exact meas_ hlt)
          · go_wp2_with fail
            go_roundw
            case rel => exact ⟨i + 1, l', by omega, by go_num, HRr, HG, HBr, HSr, BPr⟩
            case measure => first | exact meas_ hlt | (rw [hwi]; exact meas_ hlt)
        · have q1b : ((i : Int) == (sna : Int)) = false := by simp; omega
          go_wp2_with fail
          go_roundw
          case rel => exact ⟨i + 1, l', by omega, by go_num, HRr, HG, HBr, HSr, BPr⟩
          case measure => first | exact meas_ hlt | (rw [hwi]; exact meas_ hlt)
      · have hle : C.length ≤ i := by omega
        obtain ⟨w6, hw6⟩ : ∃ x, x = wr := ⟨_, rfl⟩
        subst hw6
        have HRg := Aside0.mk (Kd.R_mono (Kd.R_bound HRr.out) (fun _ hk => hk.2.2.1) : (Kd.int .i64).R 3 w6 w4.heap.size (fun k_ => k_ < w6.heap.size) (.slice A5 C.length c5) l')
        obtain ⟨l1, hl1⟩ : ∃ l1, l1 = l' := ⟨_, rfl⟩
        subst hl1
        have HG1 := HG
        have HBbW := HBr
        have HGPb := Aside0.mk (blk_lt BPr.out)
        clear HRr HG hle hi hsna hsnba
        go_upto_block 2 with (((with_reducible refine gate_builtin (b := .append) (xs := #[.const (.slice none 0 0), .tmp 68]) rfl ?_); at_builtin; refine Kd.R_append_rows (Kd.int .i64) (w0 := w6) (Rr := (Kd.int .i64).K w6) w6.heap.size rfl (.const (.slice none 0 0)) (.tmp 68) 22 3 (.int .i64 0) 8 rfl Tryd.underlying22 info3 rfl (by decide) (by decide) _ ([] : List Int) B Ab B.length cb (fun _ => True) (fun _ => False) (by first | (go_simp; done) | (go_simp; rfl)) (by first | (go_simp; done) | (go_simp; rfl)) (Kd.R_nil _ _ _ _ _) (copyR (Kd.C_below HB_.out HBr.out)) (fun x cs hx => hx) (fun _ hk => hk.elim) (fun _ _ => trivial) (Below.refl _ _) (Nat.le_refl _) (by have := HBL.out; simp only [List.length_nil]; omega) ?_; intro v7 w7 hm7_ hb7 hg7 hat7; have hm7 : (Kd.int .i64).R 3 w7 w6.heap.size (fun _ => True) v7 B := hm7_; have HB7 := Aside0.mk (bst HBr.out hb7); have BP7 := Aside0.mk ((hb7.block gp (blk_lt BPr.out)).trans BPr.out); have hsz7 := hb7.size; have HRg7 := Aside0.mk (Kd.R_below HRg.out hb7); clear hm7_ hb7 hg7 hat7))
        obtain ⟨A7, c7, rfl⟩ := Kd.R_slice hm7
        have HQb := Aside0.mk hm7
        have HSZb : Aside0 (w6.heap.size ≤ w7.heap.size) := ⟨hsz7⟩
        have HMXb := Aside0.mk (Kd.C_max HB_.out)
        clear hm7 hsz7
        obtain ⟨snb, hsnb⟩ := Int.eq_ofNat_of_zero_le (Int.tmod_nonneg 4 (show 0 ≤ set by omega))
        have hsnbb : set % 4 = (snb : Int) := by rw [← hsnb]; exact (Int.tmod_eq_emod_of_nonneg (by omega)).symm
        go_wp2_with fail
        go_loopw [19] (fun s17 wr => ∃ (i : Nat) (l' : List Int), i ≤ B.length ∧ s17 = .int .i64 (i : Int) ∧ Aside0 ((Kd.int .i64).R 3 wr w6.heap.size (fun _ => True) (.slice A7 B.length c7) l') ∧ Aside0 (PGe B l') ∧ Aside0 (Below W.heap.size W wr) ∧ Aside0 (w6.heap.size ≤ wr.heap.size) ∧ Aside0 (wr.heap[gp]? = some (.cells (cellsP p (.slice A p.f7.length c)) 34 (0, 0))) ∧ Aside0 ((Kd.int .i64).R 3 wr w4.heap.size (fun k_ => k_ < w6.heap.size) (.slice A5 C.length c5) l1)) (fun s17 _ => B.length - (intOf s17).toNat)
        case atStart => exact ⟨0, B, Nat.zero_le _, rfl, HQb, ⟨PGe.refl _⟩, HB7, HSZb, BP7, HRg7⟩
        case round =>
          obtain ⟨i, l', hi, rfl, HRr, HG, HBr, HSr, BPr, HRgr⟩ := hrel
          by_cases hlt : i < B.length
          · have hin : (i : Int) < (B.length : Int) := by omega
            have hwi : wrap64 ((i : Int) + 1) = (i : Int) + 1 := w64_ (by omega) (by have := HMXb.out; omega)
            have hl2 : i < l'.length := by have := HG.out.1; omega
            obtain ⟨g, cap, ef, hbg, hgl, _⟩ := Kd.R_form HRr.out (by omega)
            injection ef with ef1 ef2 ef3
            subst ef1
            have HGG := Aside0.mk hbg
            obtain ⟨hcell, hfro⟩ := Kd.R_celln (0 : Int) HRr.out (i : Int) (by omega) hin
            rw [Int.toNat_natCast] at hcell hfro
            have hrd : rdOf (0 : Int) l' (i : Int) = l'[i] := by unfold rdOf; rw [Int.toNat_natCast, List.getD_eq_getElem?_getD, List.getElem?_eq_getElem hl2]; rfl
            rw [hrd] at hcell
            have had : (⟨g, 0, none⟩ : Addr).add i = ⟨g, i, none⟩ := by unfold Addr.add; split <;> simp_all
            obtain ⟨ad, hadd⟩ : ∃ ad : Addr, ad = ⟨g, 0, none⟩ := ⟨_, rfl⟩
            rw [← hadd] at had HRr
            rw [← had] at hcell hfro
            rw [← hadd]
            have HAD := Aside0.mk had
            have HAD2 := Aside0.mk hadd
            clear had hadd hgl hbg hrd
            obtain ⟨x, hx⟩ : ∃ x, x = l'[i] := ⟨_, rfl⟩
            rw [← hx] at hcell
            have HX := Aside0.mk hx
            clear hx
            by_cases q1 : i = snb
            · subst q1
              rcases Bool.eq_false_or_eq_true (decide (x < 1125899906842624)) with q2 | q2
              · have HV : Aside0 (x ≤ wrap64 ((if 0 < x then x else 0) + m0.tmod 1000)) := ⟨by have h1 := HMM.out; have h2 := of_decide_eq_true q2; split; (rw [w64_ (by omega) (by omega)]; omega); (rw [w64_ (by omega) (by omega)]; omega)⟩
                go_wp2_with fail
                obtain ⟨nv, hnv⟩ : ∃ v, v = wrap64 ((if 0 < x then x else 0) + m0.tmod 1000) := ⟨_, rfl⟩
                rw [← hnv]
                have HV2 : Aside0 (x ≤ nv) := ⟨by rw [hnv]; exact HV.out⟩
                have HR2 : Aside0 ((Kd.int .i64).R 3 (wr.setCell (ad.add i) (.int .i64 nv)) w6.heap.size (fun _ => True) (.slice (some ad) B.length c7) (l'.set i nv)) := ⟨by have h0 := HRr.out; rw [HAD2.out] at h0; have h1 := Kd.R_putn h0 (i : Int) nv; rw [Int.toNat_natCast] at h1; rw [HAD.out, HAD2.out]; exact h1⟩
                have HG2 : Aside0 (PGe B (l'.set i nv)) := ⟨HG.out.set i nv (fun h' => by rw [← HX.out]; exact HV2.out)⟩
                have HB2_ : Aside0 (Below W.heap.size W (wr.setCell (ad.add i) (.int .i64 nv))) := ⟨by rw [HAD.out]; exact below_set HBr.out (by have h1 := HGG.out; have h2 := HBbW.out.size; omega)⟩
                have HS2_ : Aside0 (w6.heap.size ≤ (wr.setCell (ad.add i) (.int .i64 nv)).heap.size) := ⟨by simpa [World.setCell] using HSr.out⟩
                have BP2_ : Aside0 ((wr.setCell (ad.add i) (.int .i64 nv)).heap[gp]? = some (.cells (cellsP p (.slice A p.f7.length c)) 34 (0, 0))) := ⟨by rw [HAD.out]; exact (Below.heap_setCell _ _ _ _ (by have h1 := HGG.out; have h2 := HGPb.out; show gp ≠ g; omega)).trans BPr.out⟩
                have HRg2 : Aside0 ((Kd.int .i64).R 3 (wr.setCell (ad.add i) (.int .i64 nv)) w4.heap.size (fun k_ => k_ < w6.heap.size) (.slice A5 C.length c5) l1) := ⟨by rw [HAD.out]; exact Kd.R_far HRgr.out (fun k_ hk_ => by have h1 := HGG.out; show k_ ≠ g; omega) _⟩
                go_roundw
                case rel => exact ⟨i + 1, l'.set i nv, by omega, by go_num, HR2, HG2, HB2_, HS2_, BP2_, HRg2⟩
                case measure => first | exact meas_ hlt | (rw [hwi]; exact meas_ hlt)
              · go_wp2_with fail
                go_roundw
                case rel => exact ⟨i + 1, l', by omega, by go_num, HRr, HG, HBr, HSr, BPr, HRgr⟩
                case measure => first | exact meas_ hlt | (rw [hwi]; exact meas_ hlt)
            · have q1b : ((i : Int) == (snb : Int)) = false := by simp; omega
              go_wp2_with fail
              go_roundw
              case rel => exact ⟨i + 1, l', by omega, by go_num, HRr, HG, HBr, HSr, BPr, HRgr⟩
              case measure => first | exact meas_ hlt | (rw [hwi]; exact meas_ hlt)
          · have hle : B.length ≤ i := by omega
            obtain ⟨w9, hw9⟩ : ∃ x, x = wr := ⟨_, rfl⟩
            subst hw9
            have HRg9 := HRgr
            have HG2 := HG
            have H0 : Aside0 (Calls Tryd.prog 15 #[encP p A c, .slice Ab B.length cb, .slice Ac C.length cc] w9 fun e_ w' => e_ = .returned (.int .i64 (costX B C p)) ∧ Below w9.heap.size w9 w') := ⟨cost15 p A c Ab cb B Ac cc C w9 HBN.out (Kd.C_below HB_.out HBr.out) (Kd.C_below HC_.out HBr.out) (Kd.C_below HC.out HBr.out)⟩
            have H1 : Aside0 (∀ w', Below w9.heap.size w9 w' → Calls Tryd.prog 15 #[encP p A c, .slice Ab B.length cb, .slice A5 C.length c5] w' fun e_ w'' => e_ = .returned (.int .i64 (costX B l1 p)) ∧ Below w'.heap.size w' w'') := ⟨fun w' hb => by have h := cost15 p A c Ab cb B A5 c5 l1 w' HBN.out (Kd.C_below HB_.out (bst HBr.out hb)) (Kd.C_below (Kd.R_reads' HRg9.out).2.2 hb) (Kd.C_below HC.out (bst HBr.out hb)); rw [← HG1.out.1] at h; exact h⟩
            have H2 : Aside0 (∀ w', Below w9.heap.size w9 w' → Calls Tryd.prog 15 #[encP p A c, .slice A7 B.length c7, .slice Ac C.length cc] w' fun e_ w'' => e_ = .returned (.int .i64 (costX l' C p)) ∧ Below w'.heap.size w' w'') := ⟨fun w' hb => by have h := cost15 p A c A7 c7 l' Ac cc C w' HBN.out (Kd.C_below (Kd.R_reads' HRr.out).2.2 hb) (Kd.C_below HC_.out (bst HBr.out hb)) (Kd.C_below HC.out (bst HBr.out hb)); rw [← HG2.out.1] at h; exact h⟩
            have p1 : decide (costX B l1 p ≥ costX B C p) = true := decide_eq_true (cost_mono (fun _ => Int.le_refl _) HG1.out.at_ p)
            have p2 : decide (costX l' C p ≥ costX B C p) = true := decide_eq_true (cost_mono HG2.out.at_ (fun _ => Int.le_refl _) p)
            have p3 : decide (costX B C p ≥ 0) = true := decide_eq_true (cost_b B C p).1
            have p4 : decide (costX B C p ≤ 1000000000000) = true := decide_eq_true (cost_b B C p).2
            generalize costX B l1 p = x1 at *
            generalize costX l' C p = x2 at *
            generalize costX B C p = x0 at *
            have k0 := (blk_cell BPr.out 0).trans (rfl : _ = some (Value.int .i64 p.f0))
            have k1 := (blk_cell BPr.out 1).trans (rfl : _ = some (Value.int .i64 p.f1))
            have k2 := (blk_cell BPr.out 2).trans (rfl : _ = some (Value.int .i64 p.f2))
            have k3 := (blk_cell BPr.out 3).trans (rfl : _ = some (Value.int .i64 p.f3))
            have k4 := (blk_cell BPr.out 4).trans (rfl : _ = some (Value.bool p.f4))
            have k5 := (blk_cell BPr.out 5).trans (rfl : _ = some (Value.int .i64 p.f5))
            have k6 := (blk_cell BPr.out 6).trans (rfl : _ = some (Value.int .i64 p.f6))
            have k7 := (blk_cell BPr.out 7).trans (rfl : _ = some (Value.slice A p.f7.length c))
            go_wp2_with (first | (go_at_call 15; have H_ := H0.out; clear H0; refine H_.mono ?_; clear H_; rintro e_ wa ⟨rfl, hba⟩; have HBa_ := Aside0.mk hba; have BPa := Aside0.mk ((hba.block gp (blk_lt BPr.out)).trans BPr.out); clear hba k0 k1 k2 k3 k4 k5 k6 k7; have k0 := (blk_cell BPa.out 0).trans (rfl : _ = some (Value.int .i64 p.f0)); have k1 := (blk_cell BPa.out 1).trans (rfl : _ = some (Value.int .i64 p.f1)); have k2 := (blk_cell BPa.out 2).trans (rfl : _ = some (Value.int .i64 p.f2)); have k3 := (blk_cell BPa.out 3).trans (rfl : _ = some (Value.int .i64 p.f3)); have k4 := (blk_cell BPa.out 4).trans (rfl : _ = some (Value.bool p.f4)); have k5 := (blk_cell BPa.out 5).trans (rfl : _ = some (Value.int .i64 p.f5)); have k6 := (blk_cell BPa.out 6).trans (rfl : _ = some (Value.int .i64 p.f6)); have k7 := (blk_cell BPa.out 7).trans (rfl : _ = some (Value.slice A p.f7.length c))) | (go_at_call 15; have H_ := H1.out wa HBa_.out; clear H1; refine H_.mono ?_; clear H_; rintro e_ wb ⟨rfl, hbb⟩; have HBb_ := Aside0.mk (bst HBa_.out hbb); have BPb := Aside0.mk ((hbb.block gp (blk_lt BPa.out)).trans BPa.out); clear hbb k0 k1 k2 k3 k4 k5 k6 k7; have k0 := (blk_cell BPb.out 0).trans (rfl : _ = some (Value.int .i64 p.f0)); have k1 := (blk_cell BPb.out 1).trans (rfl : _ = some (Value.int .i64 p.f1)); have k2 := (blk_cell BPb.out 2).trans (rfl : _ = some (Value.int .i64 p.f2)); have k3 := (blk_cell BPb.out 3).trans (rfl : _ = some (Value.int .i64 p.f3)); have k4 := (blk_cell BPb.out 4).trans (rfl : _ = some (Value.bool p.f4)); have k5 := (blk_cell BPb.out 5).trans (rfl : _ = some (Value.int .i64 p.f5)); have k6 := (blk_cell BPb.out 6).trans (rfl : _ = some (Value.int .i64 p.f6)); have k7 := (blk_cell BPb.out 7).trans (rfl : _ = some (Value.slice A p.f7.length c))) | (go_at_call 15; have H_ := H2.out wb HBb_.out; clear H2; refine H_.mono ?_; clear H_; rintro e_ wc_ ⟨rfl, hbc⟩; have HBc_ := Aside0.mk (bst HBb_.out hbc); clear hbc))
            go_ret
            exact ⟨rfl, bst HBr.out HBc_.out⟩

end Go.Proofs.YtmnjaihalajhcaaDoor.QPlanConds
