import Derived.Test.YtmnjaihalajhcaaDoorPlC1
import Derived.Test.YtmnjaihalajhcaaDoorPlR
import Derived.Laws.BitsLemmas
/- Plan: walks by hand; the conditions stand in each theorem. -/
namespace Go.Proofs.YtmnjaihalajhcaaDoor.QPlanConds
open Go.RowKit Go.Proofs.YtmnjaihalajhcaaDoorW.PrintWords Go.Proofs.YtmnjaihalajhcaaDoorW.PrintLast Go.Proofs.YtmnjaihalajhcaaDoorW.PrintMore
attribute [local go_sem] max2_int min2_int max_two min_two max_three min_three max_four min_four
set_option linter.unusedVariables false
set_option linter.unusedSimpArgs false
theorem rdl_get {l : List S34} {i : Nat} (h : i < l.length) : l[i] = rd_T34 l (i : Int) := by unfold rd_T34; rw [Int.toNat_natCast, List.getD_eq_getElem?_getD, List.getElem?_eq_getElem h]; rfl
/- Sets of tables. -/
theorem bits63 (a b : Nat) (ha : a < 2 ^ 63) (hb : b < 2 ^ 63) : Go.bits .and .i64 a b = ((a &&& b : Nat) : Int) ∧ Go.bits .or .i64 a b = ((a ||| b : Nat) : Int) :=
  bits_nat .i64 63 (by decide) (fun n h0 h1 => by rw [IntKind.wrap_i64]; omega) a b ha hb
/- The parts of a right plan. -/
theorem sz_two {p : S34} (h : p.f7.length = 2) : szP p = 1 + (szP (rd_T34 p.f7 0) + szP (rd_T34 p.f7 1)) := by
  have e : (p.f7.map szP).sum = ([rd_T34 p.f7 0, rd_T34 p.f7 1].map szP).sum := congrArg (fun l => (List.map szP l).sum) (list_two h)
  rw [szP_eq, e]
  simp
theorem right_mk {nT : Nat} {core : Int} {L : List S46} {T : List Int} {x : S34} (h1 : 1 ≤ core) (h2 : core ≤ 4) (h3 : core ≤ nT) (h4 : nodesX x ≤ 20) (h5 : nodeX core L T x = true) : rightP nT core L T x = true := by
  unfold rightP
  rw [if_neg (by omega), if_neg (by omega), if_neg (by omega), if_neg (by omega)]
  exact h5
theorem parts_law {nT : Nat} {core : Int} {L : List S46} {T : List Int} {p : S34} (h : rightP nT core L T p = true) (hl : p.f7.length = 2) :
    rightP nT core L T (rd_T34 p.f7 0) = true ∧ rightP nT core L T (rd_T34 p.f7 1) = true ∧ Go.bits .and .i64 (rd_T34 p.f7 0).f3 (rd_T34 p.f7 1).f3 = 0 ∧ p.f3 = Go.bits .or .i64 (rd_T34 p.f7 0).f3 (rd_T34 p.f7 1).f3 ∧ nodesX p = 1 + nodesX (rd_T34 p.f7 0) + nodesX (rd_T34 p.f7 1) := by
  obtain ⟨h1, h2, h3, h4, hn⟩ := right_node h
  have hz := sz_two hl
  obtain ⟨_, ⟨_, _, _, hx, hy, _, hs⟩ | ⟨_, h0, _⟩⟩ := node_ways hn
  · obtain ⟨s1, s2⟩ := setB_eq hs
    unfold nodesX at h4 ⊢
    exact ⟨right_mk h1 h2 h3 (by unfold nodesX; omega) hx, right_mk h1 h2 h3 (by unfold nodesX; omega) hy, s1, s2, by omega⟩
  · omega
theorem cost_two {B C : List Int} {p : S34} (hl : p.f7.length = 2) : mn 1000000000000 (costX B C (rd_T34 p.f7 0) + costX B C (rd_T34 p.f7 1)) ≤ costX B C p := by
  have e : p.f7.map (costX B C) = [costX B C (rd_T34 p.f7 0), costX B C (rd_T34 p.f7 1)] := congrArg (fun l => List.map (costX B C) l) (list_two hl)
  rw [costX_eq B C p, e]
  have h0 := cost_b B C (rd_T34 p.f7 0)
  have h1 := cost_b B C (rd_T34 p.f7 1)
  have h2 := clip_b (ownI B C p)
  unfold totI
  simp only [List.cons_append, List.nil_append, sumI]
  rw [clip_id h0.1 h0.2, clip_id h1.1 h1.2]
  unfold mn clipI mx mn at *
  (repeat' split) <;> omega
def acS (p : S34) : Nat → Int
  | 0 => 0
  | 1 => (rd_T34 p.f7 0).f3
  | _ => p.f3
def acM (B C : List Int) (p : S34) : Nat → Int
  | 0 => 0
  | 1 => costX B C (rd_T34 p.f7 0)
  | _ => mn 1000000000000 (costX B C (rd_T34 p.f7 0) + costX B C (rd_T34 p.f7 1))
def acN (p : S34) : Nat → Int
  | 0 => 1
  | 1 => 1 + nodesX (rd_T34 p.f7 0)
  | _ => 1 + nodesX (rd_T34 p.f7 0) + nodesX (rd_T34 p.f7 1)
theorem acM_b (B C : List Int) (p : S34) (i : Nat) : 0 ≤ acM B C p i ∧ acM B C p i ≤ 1000000000000 := by
  have h0 := cost_b B C (rd_T34 p.f7 0)
  have h1 := cost_b B C (rd_T34 p.f7 1)
  unfold acM
  split
  · omega
  · omega
  · unfold mn
    split <;> omega
theorem nodesX_b (p : S34) : 1 ≤ nodesX p ∧ nodesX p ≤ 1000 := by
  have := szP_pos p
  unfold nodesX
  omega
/- What one round of the law meets. -/
theorem parts_step {nT : Nat} {core : Int} {L : List S46} {T : List Int} {p : S34} (B C : List Int) (h : rightP nT core L T p = true) (i : Nat) (hi : i < p.f7.length) :
    rightP nT core L T p.f7[i] = true ∧ (Go.bits .and .i64 p.f7[i].f3 (acS p i) != 0) = false ∧ Go.bits .or .i64 (acS p i) p.f7[i].f3 = acS p (i + 1) ∧ binB p.f7[i] = true ∧
    wrap64 (acM B C p i + costX B C p.f7[i]) = acM B C p i + costX B C p.f7[i] ∧ (if acM B C p i + costX B C p.f7[i] < 1000000000000 then acM B C p i + costX B C p.f7[i] else 1000000000000) = acM B C p (i + 1) ∧ wrap64 (acN p i + nodesX p.f7[i]) = acN p (i + 1) := by
  have hl : p.f7.length = 2 := by
    obtain ⟨_, ⟨_, h2, _⟩ | ⟨_, h0, _⟩⟩ := node_ways (right_node h).2.2.2.2
    · exact h2
    · omega
  obtain ⟨hx, hy, h1, h2, h3⟩ := parts_law h hl
  obtain ⟨c1, c4, _, _, hnx⟩ := right_node hx
  obtain ⟨_, _, _, _, hny⟩ := right_node hy
  obtain ⟨x0, x1⟩ := node_set c1 c4 _ hnx
  obtain ⟨y0, y1⟩ := node_set c1 c4 _ hny
  obtain ⟨n, hc, _, hn4, h16, _⟩ := pow_core c1 c4
  rw [hc] at x1 y1
  have bx := cost_b B C (rd_T34 p.f7 0)
  have by_ := cost_b B C (rd_T34 p.f7 1)
  have nx := nodesX_b (rd_T34 p.f7 0)
  have ny := nodesX_b (rd_T34 p.f7 1)
  have h01 : i = 0 ∨ i = 1 := by omega
  have e := rdl_get hi
  rcases h01 with rfl | rfl
  · rw [e]
    refine ⟨hx, ?_, ?_, node_bin _ hnx, ?_, ?_, ?_⟩
    · obtain ⟨m, hm⟩ := Int.eq_ofNat_of_zero_le (Int.le_of_lt x0)
      show (Go.bits .and .i64 (rd_T34 p.f7 0).f3 0 != 0) = false
      rw [hm]
      have := (bits63 m 0 (by omega) (by decide)).1
      simp at this
      exact bne_eq_false_iff_eq.2 this
    · obtain ⟨m, hm⟩ := Int.eq_ofNat_of_zero_le (Int.le_of_lt x0)
      show Go.bits .or .i64 0 (rd_T34 p.f7 0).f3 = (rd_T34 p.f7 0).f3
      rw [hm]
      have := (bits63 0 m (by decide) (by omega)).2
      simp at this
      exact this
    · show wrap64 (0 + costX B C (rd_T34 p.f7 0)) = 0 + costX B C (rd_T34 p.f7 0)
      exact w64_ (by omega) (by omega)
    · show (if 0 + costX B C (rd_T34 p.f7 0) < 1000000000000 then 0 + costX B C (rd_T34 p.f7 0) else 1000000000000) = costX B C (rd_T34 p.f7 0)
      split <;> omega
    · show wrap64 (1 + nodesX (rd_T34 p.f7 0)) = 1 + nodesX (rd_T34 p.f7 0)
      exact w64_ (by omega) (by omega)
  · rw [e]
    refine ⟨hy, ?_, ?_, node_bin _ hny, ?_, ?_, ?_⟩
    · obtain ⟨m, hm⟩ := Int.eq_ofNat_of_zero_le (Int.le_of_lt x0)
      obtain ⟨k, hk⟩ := Int.eq_ofNat_of_zero_le (Int.le_of_lt y0)
      show (Go.bits .and .i64 (rd_T34 p.f7 1).f3 (rd_T34 p.f7 0).f3 != 0) = false
      rw [hm, hk] at h1 ⊢
      rw [(bits63 m k (by omega) (by omega)).1] at h1
      rw [(bits63 k m (by omega) (by omega)).1, Nat.and_comm]
      exact bne_eq_false_iff_eq.2 h1
    · exact h2.symm
    · show wrap64 (costX B C (rd_T34 p.f7 0) + costX B C (rd_T34 p.f7 1)) = _
      exact w64_ (by omega) (by omega)
    · rfl
    · show wrap64 (1 + nodesX (rd_T34 p.f7 0) + nodesX (rd_T34 p.f7 1)) = _
      exact w64_ (by omega) (by omega)
theorem parts_end {nT : Nat} {core : Int} {L : List S46} {T : List Int} {p : S34} (B C : List Int) (h : rightP nT core L T p = true) :
    (((p.f7.length : Int) == 0) = true ∨ ((p.f7.length : Int) == 0) = false ∧ (acS p p.f7.length == p.f3) = true) ∧ decide (p.f3 > 0) = true ∧ decide (p.f3 < wrap64 (2 ^ core.toNat)) = true ∧ decide (costX B C p ≥ acM B C p p.f7.length) = true ∧ (nodesX p == acN p p.f7.length) = true ∧ decide (nodesX p ≤ 20) = true := by
  obtain ⟨c1, c4, _, h20, hn⟩ := right_node h
  obtain ⟨s0, s1⟩ := node_set c1 c4 _ hn
  obtain ⟨n, hc, _, hn4, h16, _⟩ := pow_core c1 c4
  have hw : wrap64 ((2 : Int) ^ core.toNat) = 2 ^ core.toNat := by rw [hc]; exact w64_ (by omega) (by omega)
  have hb := cost_b B C p
  obtain ⟨_, ⟨_, h2, _⟩ | ⟨_, h0, _⟩⟩ := node_ways hn
  · obtain ⟨_, _, _, _, h3⟩ := parts_law h h2
    have hc2 := cost_two (B := B) (C := C) h2
    rw [h2]
    refine ⟨Or.inr ⟨rfl, ?_⟩, decide_eq_true s0, decide_eq_true (by rw [hw]; exact s1), decide_eq_true hc2, ?_, decide_eq_true h20⟩
    · exact beq_iff_eq.2 rfl
    · exact beq_iff_eq.2 h3
  · rw [h0]
    refine ⟨Or.inl rfl, decide_eq_true s0, decide_eq_true (by rw [hw]; exact s1), decide_eq_true (show costX B C p ≥ 0 by omega), ?_, decide_eq_true h20⟩
    refine beq_iff_eq.2 ?_
    have hz : p.f7 = [] := List.eq_nil_of_length_eq_zero h0
    show nodesX p = 1
    unfold nodesX
    rw [szP_eq, hz]
    rfl
set_option maxRecDepth 8000 in
set_option maxHeartbeats 16000000 in
theorem parts_row (W : World) (b : BV) (L : List S46) (At : Option Addr) (ct : Nat) (T : List Int) (p : S34) (A : Option Addr) (c : Nat) (Ab : Option Addr) (cb : Nat) (B : List Int) (Ac : Option Addr) (cc : Nat) (C : List Int) (hn : b.n4 = L.length) (hL : k46.C W b.A4 b.n4 L) (hT : (Kd.int .i64).C W At T.length T) (hct : T.length ≤ ct) (wT : (∀ y ∈ T, (Lit.int .i64 y).wf = true) ∧ T.length * 8 ≤ 140737488351232 ∧ T.length ≤ maxLen) (hC : k34.C W A p.f7.length p.f7) (wp : numsP I64 p)
    (hB : (Kd.int .i64).C W Ab B.length B) (hcb : B.length ≤ cb) (wB : (∀ y ∈ B, (Lit.int .i64 y).wf = true) ∧ B.length * 8 ≤ 140737488351232 ∧ B.length ≤ maxLen) (hCc : (Kd.int .i64).C W Ac C.length C) (hcc : C.length ≤ cc) (wC : (∀ y ∈ C, (Lit.int .i64 y).wf = true) ∧ C.length * 8 ≤ 140737488351232 ∧ C.length ≤ maxLen) :
    Calls Tryd.prog 4 #[b.enc, .slice At T.length ct, encP p A c, .slice Ab B.length cb, .slice Ac C.length cc] W fun e_ w' => e_ = .returned (.bool true) ∧ Below W.heap.size W w' := by
  have HN := Aside0.mk hn
  have HLc := Aside0.mk hL
  have HT := Aside0.mk hT
  have HC := Aside0.mk hC
  have HB_ := Aside0.mk hB
  have HC_ := Aside0.mk hCc
  clear hn hL hT hct wT hC wp hB hcb wB hCc hcc wC
  have hu34 := Tryd.underlying34
  have hu26 := Tryd.underlying26
  have HRP : Aside0 (∀ (x : S34) (A8 : Option Addr) (c8 : Nat) (r : Bool), k34.C W A8 x.f7.length x.f7 → rightP b.n0 b.core L T x = r → ∀ w', Below W.heap.size W w' → Calls Tryd.prog 14 #[b.enc, .slice At T.length ct, encP x A8 c8] w' fun e_ w'' => e_ = .returned (.bool r) ∧ Below w'.heap.size w' w'') := ⟨fun x A8 c8 r hx hr w' hb => by rw [← hr]; exact right14 b L At ct T x A8 c8 w' HN.out (Kd.C_below HLc.out hb) (Kd.C_below HT.out hb) (Kd.C_below hx hb)⟩
  obtain ⟨r, hr⟩ : ∃ r, r = rightP b.n0 b.core L T p := ⟨_, rfl⟩
  have H14 := Aside0.mk (HRP.out p A c r HC.out hr.symm)
  unfold BV.enc at HRP H14 ⊢
  rcases r with _ | _
  · clear hr
    go_enter Tryd.func4, Tryd.ntmps4
    go_wp2_with (first | ((with_reducible refine gate_dst (N := 5) rfl ?_); refine box_event ?hg (N := 5) ?hd (cs := b.cells) (t := 26) ?hr ?_; (case hd => rfl); (case hg => rfl); (case hr => unfold BV.cells; first | (go_simp; done) | (go_simp; rfl)); intro gb hg1 w1 hbox hb; have BB1 := Aside0.mk hbox; have HB1 := Aside0.mk hb; clear hbox hb hg1) | ((with_reducible refine gate_dst (N := 7) rfl ?_); refine box_event ?hg (N := 7) ?hd (cs := cellsP p (.slice A p.f7.length c)) (t := 34) ?hr ?_; (case hd => rfl); (case hg => rfl); (case hr => unfold cellsP encP; first | (go_simp; done) | (go_simp; rfl)); intro gp hg1 w2 hbox hb; have BP2 := Aside0.mk hbox; have HB2 := Aside0.mk (bst HB1.out hb); have BB2 := Aside0.mk ((hb.block gb (blk_lt BB1.out)).trans BB1.out); clear hbox hb hg1) | (go_at_call 9; refine (examples9 _).mono ?_; rintro e_ w3 ⟨rfl, hb3⟩; have HB3 := Aside0.mk (bst HB2.out hb3); have BB3 := Aside0.mk ((hb3.block gb (blk_lt BB2.out)).trans BB2.out); have BP3 := Aside0.mk ((hb3.block gp (blk_lt BP2.out)).trans BP2.out); clear hb3; have k0 := (blk_cell BP3.out 0).trans (rfl : _ = some (Value.int .i64 p.f0)); have k1 := (blk_cell BP3.out 1).trans (rfl : _ = some (Value.int .i64 p.f1)); have k2 := (blk_cell BP3.out 2).trans (rfl : _ = some (Value.int .i64 p.f2)); have k3 := (blk_cell BP3.out 3).trans (rfl : _ = some (Value.int .i64 p.f3)); have k4 := (blk_cell BP3.out 4).trans (rfl : _ = some (Value.bool p.f4)); have k5 := (blk_cell BP3.out 5).trans (rfl : _ = some (Value.int .i64 p.f5)); have k6 := (blk_cell BP3.out 6).trans (rfl : _ = some (Value.int .i64 p.f6)); have k7 := (blk_cell BP3.out 7).trans (rfl : _ = some (Value.slice A p.f7.length c)); have b0 := (blk_cell BB3.out 0).trans (rfl : _ = some (Value.slice b.A0 b.n0 b.c0)); have b1 := (blk_cell BB3.out 1).trans (rfl : _ = some (Value.int .i64 b.core)); have b2 := (blk_cell BB3.out 2).trans (rfl : _ = some (Value.slice b.A2 b.n2 b.c2)); have b3 := (blk_cell BB3.out 3).trans (rfl : _ = some (Value.slice b.A3 b.n3 b.c3)); have b4 := (blk_cell BB3.out 4).trans (rfl : _ = some (Value.slice b.A4 b.n4 b.c4)); have b5 := (blk_cell BB3.out 5).trans (rfl : _ = some (Value.slice b.A5 b.n5 b.c5)); have b6 := (blk_cell BB3.out 6).trans (rfl : _ = some (Value.slice b.A6 b.n6 b.c6)); have b7 := (blk_cell BB3.out 7).trans (rfl : _ = some (Value.bool b.g7)); have b8 := (blk_cell BB3.out 8).trans (rfl : _ = some (Value.slice b.A8 b.n8 b.c8)); have b9 := (blk_cell BB3.out 9).trans (rfl : _ = some (Value.slice b.A9 b.n9 b.c9)); have b10 := (blk_cell BB3.out 10).trans (rfl : _ = some (Value.bool b.d10))) | (go_at_call 14; refine (H14.out _ HB3.out).mono ?_; rintro e_ w4 ⟨rfl, hb4⟩; have HB4 := Aside0.mk (bst HB3.out hb4); have BP4 := Aside0.mk ((hb4.block gp (blk_lt BP3.out)).trans BP3.out); have BB4 := Aside0.mk ((hb4.block gb (blk_lt BB3.out)).trans BB3.out); clear hb4 k0 k1 k2 k3 k4 k5 k6 k7 b0 b1 b2 b3 b4 b5 b6 b7 b8 b9 b10))
    go_ret
    exact ⟨rfl, HB4.out⟩
  · have HR := Aside0.mk hr.symm
    clear hr
    go_enter Tryd.func4, Tryd.ntmps4
    go_wp2_with (first | ((with_reducible refine gate_dst (N := 5) rfl ?_); refine box_event ?hg (N := 5) ?hd (cs := b.cells) (t := 26) ?hr ?_; (case hd => rfl); (case hg => rfl); (case hr => unfold BV.cells; first | (go_simp; done) | (go_simp; rfl)); intro gb hg1 w1 hbox hb; have BB1 := Aside0.mk hbox; have HB1 := Aside0.mk hb; clear hbox hb hg1) | ((with_reducible refine gate_dst (N := 7) rfl ?_); refine box_event ?hg (N := 7) ?hd (cs := cellsP p (.slice A p.f7.length c)) (t := 34) ?hr ?_; (case hd => rfl); (case hg => rfl); (case hr => unfold cellsP encP; first | (go_simp; done) | (go_simp; rfl)); intro gp hg1 w2 hbox hb; have BP2 := Aside0.mk hbox; have HB2 := Aside0.mk (bst HB1.out hb); have BB2 := Aside0.mk ((hb.block gb (blk_lt BB1.out)).trans BB1.out); clear hbox hb hg1) | (go_at_call 9; refine (examples9 _).mono ?_; rintro e_ w3 ⟨rfl, hb3⟩; have HB3 := Aside0.mk (bst HB2.out hb3); have BB3 := Aside0.mk ((hb3.block gb (blk_lt BB2.out)).trans BB2.out); have BP3 := Aside0.mk ((hb3.block gp (blk_lt BP2.out)).trans BP2.out); clear hb3; have k0 := (blk_cell BP3.out 0).trans (rfl : _ = some (Value.int .i64 p.f0)); have k1 := (blk_cell BP3.out 1).trans (rfl : _ = some (Value.int .i64 p.f1)); have k2 := (blk_cell BP3.out 2).trans (rfl : _ = some (Value.int .i64 p.f2)); have k3 := (blk_cell BP3.out 3).trans (rfl : _ = some (Value.int .i64 p.f3)); have k4 := (blk_cell BP3.out 4).trans (rfl : _ = some (Value.bool p.f4)); have k5 := (blk_cell BP3.out 5).trans (rfl : _ = some (Value.int .i64 p.f5)); have k6 := (blk_cell BP3.out 6).trans (rfl : _ = some (Value.int .i64 p.f6)); have k7 := (blk_cell BP3.out 7).trans (rfl : _ = some (Value.slice A p.f7.length c)); have b0 := (blk_cell BB3.out 0).trans (rfl : _ = some (Value.slice b.A0 b.n0 b.c0)); have b1 := (blk_cell BB3.out 1).trans (rfl : _ = some (Value.int .i64 b.core)); have b2 := (blk_cell BB3.out 2).trans (rfl : _ = some (Value.slice b.A2 b.n2 b.c2)); have b3 := (blk_cell BB3.out 3).trans (rfl : _ = some (Value.slice b.A3 b.n3 b.c3)); have b4 := (blk_cell BB3.out 4).trans (rfl : _ = some (Value.slice b.A4 b.n4 b.c4)); have b5 := (blk_cell BB3.out 5).trans (rfl : _ = some (Value.slice b.A5 b.n5 b.c5)); have b6 := (blk_cell BB3.out 6).trans (rfl : _ = some (Value.slice b.A6 b.n6 b.c6)); have b7 := (blk_cell BB3.out 7).trans (rfl : _ = some (Value.bool b.g7)); have b8 := (blk_cell BB3.out 8).trans (rfl : _ = some (Value.slice b.A8 b.n8 b.c8)); have b9 := (blk_cell BB3.out 9).trans (rfl : _ = some (Value.slice b.A9 b.n9 b.c9)); have b10 := (blk_cell BB3.out 10).trans (rfl : _ = some (Value.bool b.d10))) | (go_at_call 14; refine (H14.out _ HB3.out).mono ?_; rintro e_ w4 ⟨rfl, hb4⟩; have HB4 := Aside0.mk (bst HB3.out hb4); have BP4 := Aside0.mk ((hb4.block gp (blk_lt BP3.out)).trans BP3.out); have BB4 := Aside0.mk ((hb4.block gb (blk_lt BB3.out)).trans BB3.out); clear hb4 k0 k1 k2 k3 k4 k5 k6 k7 b0 b1 b2 b3 b4 b5 b6 b7 b8 b9 b10))
    go_loopw [12, 13, 14, 15] (fun s12 s13 s14 s15 wr => ∃ i : Nat, i ≤ p.f7.length ∧ s15 = .int .i64 (i : Int) ∧ s12 = .int .i64 (acS p i) ∧ s13 = .int .i64 (acM B C p i) ∧ s14 = .int .i64 (acN p i) ∧ Aside0 (Below W.heap.size W wr) ∧ Aside0 (wr.heap[gb]? = some (.cells b.cells 26 (0, 0))) ∧ Aside0 (wr.heap[gp]? = some (.cells (cellsP p (.slice A p.f7.length c)) 34 (0, 0)))) (fun s12 s13 s14 s15 _ => p.f7.length - (intOf s15).toNat)
    case atStart => exact ⟨0, Nat.zero_le _, rfl, rfl, rfl, rfl, HB4, BB4, BP4⟩
    case round =>
      obtain ⟨i, hi, rfl, rfl, rfl, rfl, HB5, BB5, BP5⟩ := hrel
      obtain ⟨w5, hw5⟩ : ∃ x, x = wr := ⟨_, rfl⟩
      subst hw5
      have k7 := (blk_cell BP5.out 7).trans (rfl : _ = some (Value.slice A p.f7.length c))
      by_cases hlt : i < p.f7.length
      · have hin : (i : Int) < (p.f7.length : Int) := by omega
        have HST := Aside0.mk (parts_step B C HR.out i hlt)
        have hwi : wrap64 ((i : Int) + 1) = (i : Int) + 1 := w64_ (by omega) (by have := Kd.C_max HC.out; omega)
        have hrd : rd_T34 p.f7 (i : Int) = p.f7[i] := (rdl_get hlt).symm
        obtain ⟨ad, A8, c8, e0, x0, x1, x2, x3, x4, x5, x6, x7, l8, g8⟩ := at_T34 (Kd.C_below HC.out HB5.out) (i : Int) (by omega) hin
        obtain ⟨ad0, A80, c80, e00, _, _, _, _, _, _, _, y8, l80, g80⟩ := at_T34 HC.out (i : Int) (by omega) hin
        have hA8 : A80 = A8 ∧ c80 = c8 := by
          rw [e0] at e00
          injection e00 with e00
          subst e00
          have := (cells_later HB5.out y8).symm.trans x7
          injection this with this
          injection this with h1 _ h2
          exact ⟨h1, h2⟩
        obtain ⟨rfl, rfl⟩ := hA8
        subst e0
        have HG8 := Aside0.mk g80
        clear g80 g8 y8 e00 l80 l8
        rw [hrd] at x0 x1 x2 x3 x4 x5 x6 x7 HG8
        rw [Int.toNat_natCast] at x0 x1 x2 x3 x4 x5 x6 x7
        clear hrd
        generalize p.f7[i] = e at *
        obtain ⟨h1, q2, h3, h4, h5, h6, h7⟩ := HST.out
        have HE14 := Aside0.mk (HRP.out e A80 c80 true HG8.out h1)
        have HE15 : Aside0 (∀ w', Below W.heap.size W w' → Calls Tryd.prog 15 #[encP e A80 c80, .slice Ab B.length cb, .slice Ac C.length cc] w' fun e_ w'' => e_ = .returned (.int .i64 (costX B C e)) ∧ Below w'.heap.size w' w'') := ⟨fun w' hb => cost15 e A80 c80 Ab cb B Ac cc C w' h4 (Kd.C_below HB_.out hb) (Kd.C_below HC_.out hb) (Kd.C_below HG8.out hb)⟩
        have HE16 : Aside0 (∀ w', Below W.heap.size W w' → Calls Tryd.prog 16 #[encP e A80 c80] w' fun e_ w'' => e_ = .returned (.int .i64 (nodesX e)) ∧ Below w'.heap.size w' w'') := ⟨fun w' hb => nodes16 e A80 c80 w' (Kd.C_below HG8.out hb)⟩
        have E3 := Aside0.mk h3
        have E5 := Aside0.mk h5
        have E6 := Aside0.mk h6
        have E7 := Aside0.mk h7
        clear h1 h3 h4 h5 h6 h7 HST
        generalize hS : acS p i = aS at *
        generalize hM : acM B C p i = aM at *
        generalize hNn : acN p i = aN at *
        clear hS hM hNn
        generalize hS : acS p (i + 1) = aS1 at *
        generalize hM : acM B C p (i + 1) = aM1 at *
        generalize hNn : acN p (i + 1) = aN1 at *
        have EQ := Aside0.mk (And.intro hS (And.intro hM hNn))
        clear hS hM hNn
        generalize costX B C e = ce at *
        generalize nodesX e = ne at *
        go_wp2_with (first | ((with_reducible refine gate_dst (N := 16) rfl ?_); refine box_event ?hg (N := 16) ?hd (cs := zeroP) (t := 34) ?hr ?_; (case hd => rfl); (case hg => rfl); (case hr => unfold zeroP; first | (go_simp; done) | (go_simp; rfl)); intro gx hg1 w6 hbox hb; have HGX := Aside0.mk hbox; have HB6 := Aside0.mk (bst HB5.out hb); have BB6 := Aside0.mk ((hb.block gb (blk_lt BB5.out)).trans BB5.out); have BP6 := Aside0.mk ((hb.block gp (blk_lt BP5.out)).trans BP5.out); have HNX : Aside0 (gb ≠ gx ∧ gp ≠ gx ∧ W.heap.size ≤ gx) := ⟨by have := blk_lt BB5.out; have := blk_lt BP5.out; have := HB5.out.size; rw [hg1]; omega⟩; clear hbox hb hg1) | ((with_reducible refine gate_store (t := 34) (p := 16) rfl ?_); refine row_event rfl 34 _ _ rfl gx (cellsP e (.slice A80 e.f7.length c80)) rfl rfl 34 zeroP HGX.out (by kernel_rfl) (by kernel_rfl) (by kernel_rfl) ?_; intro w7 hx hb hf; have BX7 := Aside0.mk hx; have HB7 : Aside0 (Below W.heap.size W w7) := ⟨HB6.out.trans (hb.mono HNX.out.2.2)⟩; have BB7 := Aside0.mk ((hf gb HNX.out.1).trans BB6.out); have BP7 := Aside0.mk ((hf gp HNX.out.2.1).trans BP6.out); clear hx hb hf k7 x0 x1 x2 x3 x4 x5 x6 x7; have k0 := (blk_cell BX7.out 0).trans (rfl : _ = some (Value.int .i64 e.f0)); have k1 := (blk_cell BX7.out 1).trans (rfl : _ = some (Value.int .i64 e.f1)); have k2 := (blk_cell BX7.out 2).trans (rfl : _ = some (Value.int .i64 e.f2)); have k3 := (blk_cell BX7.out 3).trans (rfl : _ = some (Value.int .i64 e.f3)); have k4 := (blk_cell BX7.out 4).trans (rfl : _ = some (Value.bool e.f4)); have k5 := (blk_cell BX7.out 5).trans (rfl : _ = some (Value.int .i64 e.f5)); have k6 := (blk_cell BX7.out 6).trans (rfl : _ = some (Value.int .i64 e.f6)); have k7 := (blk_cell BX7.out 7).trans (rfl : _ = some (Value.slice A80 e.f7.length c80)); have b0 := (blk_cell BB7.out 0).trans (rfl : _ = some (Value.slice b.A0 b.n0 b.c0)); have b1 := (blk_cell BB7.out 1).trans (rfl : _ = some (Value.int .i64 b.core)); have b2 := (blk_cell BB7.out 2).trans (rfl : _ = some (Value.slice b.A2 b.n2 b.c2)); have b3 := (blk_cell BB7.out 3).trans (rfl : _ = some (Value.slice b.A3 b.n3 b.c3)); have b4 := (blk_cell BB7.out 4).trans (rfl : _ = some (Value.slice b.A4 b.n4 b.c4)); have b5 := (blk_cell BB7.out 5).trans (rfl : _ = some (Value.slice b.A5 b.n5 b.c5)); have b6 := (blk_cell BB7.out 6).trans (rfl : _ = some (Value.slice b.A6 b.n6 b.c6)); have b7 := (blk_cell BB7.out 7).trans (rfl : _ = some (Value.bool b.g7)); have b8 := (blk_cell BB7.out 8).trans (rfl : _ = some (Value.slice b.A8 b.n8 b.c8)); have b9 := (blk_cell BB7.out 9).trans (rfl : _ = some (Value.slice b.A9 b.n9 b.c9)); have b10 := (blk_cell BB7.out 10).trans (rfl : _ = some (Value.bool b.d10))) | (go_at_call 14; refine (HE14.out _ HB7.out).mono ?_; rintro e_ w8 ⟨rfl, hb8⟩; have HB8 := Aside0.mk (bst HB7.out hb8); have BB8 := Aside0.mk ((hb8.block gb (blk_lt BB7.out)).trans BB7.out); have BP8 := Aside0.mk ((hb8.block gp (blk_lt BP7.out)).trans BP7.out); have BX8 := Aside0.mk ((hb8.block gx (blk_lt BX7.out)).trans BX7.out); clear hb8 k0 k1 k2 k3 k4 k5 k6 k7 b0 b1 b2 b3 b4 b5 b6 b7 b8 b9 b10; have k0 := (blk_cell BX8.out 0).trans (rfl : _ = some (Value.int .i64 e.f0)); have k1 := (blk_cell BX8.out 1).trans (rfl : _ = some (Value.int .i64 e.f1)); have k2 := (blk_cell BX8.out 2).trans (rfl : _ = some (Value.int .i64 e.f2)); have k3 := (blk_cell BX8.out 3).trans (rfl : _ = some (Value.int .i64 e.f3)); have k4 := (blk_cell BX8.out 4).trans (rfl : _ = some (Value.bool e.f4)); have k5 := (blk_cell BX8.out 5).trans (rfl : _ = some (Value.int .i64 e.f5)); have k6 := (blk_cell BX8.out 6).trans (rfl : _ = some (Value.int .i64 e.f6)); have k7 := (blk_cell BX8.out 7).trans (rfl : _ = some (Value.slice A80 e.f7.length c80))) | (go_at_call 15; refine (HE15.out _ HB8.out).mono ?_; rintro e_ w8b ⟨rfl, hb8b⟩; have HB8b := Aside0.mk (bst HB8.out hb8b); have BB8b := Aside0.mk ((hb8b.block gb (blk_lt BB8.out)).trans BB8.out); have BP8b := Aside0.mk ((hb8b.block gp (blk_lt BP8.out)).trans BP8.out); have BX8b := Aside0.mk ((hb8b.block gx (blk_lt BX8.out)).trans BX8.out); clear hb8b k0 k1 k2 k3 k4 k5 k6 k7; have h5 := E5.out; have k0 := (blk_cell BX8b.out 0).trans (rfl : _ = some (Value.int .i64 e.f0)); have k1 := (blk_cell BX8b.out 1).trans (rfl : _ = some (Value.int .i64 e.f1)); have k2 := (blk_cell BX8b.out 2).trans (rfl : _ = some (Value.int .i64 e.f2)); have k3 := (blk_cell BX8b.out 3).trans (rfl : _ = some (Value.int .i64 e.f3)); have k4 := (blk_cell BX8b.out 4).trans (rfl : _ = some (Value.bool e.f4)); have k5 := (blk_cell BX8b.out 5).trans (rfl : _ = some (Value.int .i64 e.f5)); have k6 := (blk_cell BX8b.out 6).trans (rfl : _ = some (Value.int .i64 e.f6)); have k7 := (blk_cell BX8b.out 7).trans (rfl : _ = some (Value.slice A80 e.f7.length c80))) | (go_at_call 16; refine (HE16.out _ HB8b.out).mono ?_; rintro e_ w9 ⟨rfl, hb9⟩; have HB9 := Aside0.mk (bst HB8b.out hb9); have BB9 := Aside0.mk ((hb9.block gb (blk_lt BB8b.out)).trans BB8b.out); have BP9 := Aside0.mk ((hb9.block gp (blk_lt BP8b.out)).trans BP8b.out); clear hb9 k0 k1 k2 k3 k4 k5 k6 k7 h5))
        go_roundw
        case rel => exact ⟨i + 1, by omega, by go_num, by rw [EQ.out.1, ← E3.out], by rw [EQ.out.2.1, ← E6.out], by rw [EQ.out.2.2, ← E7.out], HB9, BB9, BP9⟩
        case measure => first | exact meas_ hlt | (rw [hwi]; exact meas_ hlt)
      · have hle : p.f7.length ≤ i := by omega
        obtain rfl : i = p.f7.length := by omega
        have HEE := Aside0.mk (parts_end B C HR.out)
        have HBN := Aside0.mk (node_bin p (right_node HR.out).2.2.2.2)
        have H15 : Aside0 (∀ w', Below W.heap.size W w' → Calls Tryd.prog 15 #[encP p A c, .slice Ab B.length cb, .slice Ac C.length cc] w' fun e_ w'' => e_ = .returned (.int .i64 (costX B C p)) ∧ Below w'.heap.size w' w'') := ⟨fun w' hb => cost15 p A c Ab cb B Ac cc C w' HBN.out (Kd.C_below HB_.out hb) (Kd.C_below HC_.out hb) (Kd.C_below HC.out hb)⟩
        have H16 : Aside0 (∀ w', Below W.heap.size W w' → Calls Tryd.prog 16 #[encP p A c] w' fun e_ w'' => e_ = .returned (.int .i64 (nodesX p)) ∧ Below w'.heap.size w' w'') := ⟨fun w' hb => nodes16 p A c w' (Kd.C_below HC.out hb)⟩
        obtain ⟨hz, p1, p2, p3, p4, p5⟩ := HEE.out
        have hc0 : decide (0 ≤ b.core) = true := decide_eq_true (by have := (right_node HR.out).1; omega)
        have hc1 : ¬ b.core < 0 := by have := (right_node HR.out).1; omega
        have hmn : min b.core.toNat 64 = b.core.toNat := by have := (right_node HR.out).1; have := (right_node HR.out).2.1; omega
        clear HEE HRP H14 HBN
        generalize acS p p.f7.length = aS at *
        generalize acM B C p p.f7.length = aM at *
        generalize acN p p.f7.length = aN at *
        generalize costX B C p = ce at *
        generalize nodesX p = ne at *
        go_wp2_with fail
        have m0_ : Aside0 (w5.drew.cell? ⟨gp, 0, none⟩ = some (Value.int .i64 p.f0)) := ⟨(blk_cell BP5.out 0).trans rfl⟩
        have m1_ : Aside0 (w5.drew.cell? ⟨gp, 1, none⟩ = some (Value.int .i64 p.f1)) := ⟨(blk_cell BP5.out 1).trans rfl⟩
        have m2_ : Aside0 (w5.drew.cell? ⟨gp, 2, none⟩ = some (Value.int .i64 p.f2)) := ⟨(blk_cell BP5.out 2).trans rfl⟩
        have m3_ : Aside0 (w5.drew.cell? ⟨gp, 3, none⟩ = some (Value.int .i64 p.f3)) := ⟨(blk_cell BP5.out 3).trans rfl⟩
        have m4_ : Aside0 (w5.drew.cell? ⟨gp, 4, none⟩ = some (Value.bool p.f4)) := ⟨(blk_cell BP5.out 4).trans rfl⟩
        have m5_ : Aside0 (w5.drew.cell? ⟨gp, 5, none⟩ = some (Value.int .i64 p.f5)) := ⟨(blk_cell BP5.out 5).trans rfl⟩
        have m6_ : Aside0 (w5.drew.cell? ⟨gp, 6, none⟩ = some (Value.int .i64 p.f6)) := ⟨(blk_cell BP5.out 6).trans rfl⟩
        have m7_ : Aside0 (w5.drew.cell? ⟨gp, 7, none⟩ = some (Value.slice A p.f7.length c)) := ⟨(blk_cell BP5.out 7).trans rfl⟩
        have m8_ : Aside0 (w5.drew.cell? ⟨gb, 1, none⟩ = some (.int .i64 b.core)) := ⟨(blk_cell BB5.out 1).trans rfl⟩
        clear k7
        rcases hz with hz | ⟨hz, hy⟩
        · have hz1 : ((p.f7.length : Int) == 0) = true := hz
          refine start_ (n := 46) (S := fun w' => w'.cell? ⟨gp, 0, none⟩ = some (.int .i64 p.f0) ∧ w'.cell? ⟨gp, 1, none⟩ = some (.int .i64 p.f1) ∧ w'.cell? ⟨gp, 2, none⟩ = some (.int .i64 p.f2) ∧ w'.cell? ⟨gp, 3, none⟩ = some (.int .i64 p.f3) ∧ w'.cell? ⟨gp, 4, none⟩ = some (.bool p.f4) ∧ w'.cell? ⟨gp, 5, none⟩ = some (.int .i64 p.f5) ∧ w'.cell? ⟨gp, 6, none⟩ = some (.int .i64 p.f6) ∧ w'.cell? ⟨gp, 7, none⟩ = some (.slice A p.f7.length c) ∧ w'.cell? ⟨gb, 1, none⟩ = some (.int .i64 b.core)) (ds := []) #[false, false, false, false, false, false, false, false, false, false, false, false, false, false, false, false, false, false, false, false, false, false, false, false, false, false, false, false, false, false, false, false, false, false, false, false, false, false, false, false, false, false, false, false, false, false] (by kernel_rfl) rfl rfl ⟨m0_.out, m1_.out, m2_.out, m3_.out, m4_.out, m5_.out, m6_.out, m7_.out, m8_.out⟩ (fun hHeld => ?_)
          refine pure_ (i := 0) (N := some 65) (v := ?_) (a' := ?_) #[true, false, false, false, false, false, false, false, false, false, false, false, false, false, false, false, false, false, false, false, false, false, false, false, false, false, false, false, false, false, false, false, false, false, false, false, false, false, false, false, false, false, false, false, false, false] rfl rfl (by kernel_rfl) (fun _ _ _ h => h) (Or.inl ⟨by rfl, ?_⟩) ?_ ?_
          rotate_left
          · intro w'
            go_simp
            with_reducible rfl
          rotate_left
          · simp only [Act.put, List.setIfInBounds_toArray, List.set_cons_zero, List.set_cons_succ, i64_w, i32_w]
            rfl
          refine pure_ (i := 1) (N := some 66) (v := ?_) (a' := ?_) #[true, true, false, false, false, false, false, false, false, false, false, false, false, false, false, false, false, false, false, false, false, false, false, false, false, false, false, false, false, false, false, false, false, false, false, false, false, false, false, false, false, false, false, false, false, false] rfl rfl (by kernel_rfl) (fun _ _ _ h => h) (Or.inl ⟨by rfl, ?_⟩) ?_ ?_
          rotate_left
          · intro w'
            go_simp
            with_reducible rfl
          rotate_left
          · simp only [Act.put, List.setIfInBounds_toArray, List.set_cons_zero, List.set_cons_succ, i64_w, i32_w]
            rfl
          refine pure_ (i := 2) (N := some 67) (v := ?_) (a' := ?_) #[true, true, true, false, false, false, false, false, false, false, false, false, false, false, false, false, false, false, false, false, false, false, false, false, false, false, false, false, false, false, false, false, false, false, false, false, false, false, false, false, false, false, false, false, false, false] rfl rfl (by kernel_rfl) (fun _ _ _ h => h) (Or.inl ⟨by rfl, ?_⟩) ?_ ?_
          rotate_left
          · intro w'
            go_simp
            with_reducible rfl
          rotate_left
          · simp only [Act.put, List.setIfInBounds_toArray, List.set_cons_zero, List.set_cons_succ, i64_w, i32_w]
            rfl
          refine take_ (i := 3) (N := some 68) (v := ?_) (a' := ?_) #[true, true, true, true, false, false, false, false, false, false, false, false, false, false, false, false, false, false, false, false, false, false, false, false, false, false, false, false, false, false, false, false, false, false, false, false, false, false, false, false, false, false, false, false, false, false] rfl rfl (by kernel_rfl) (fun _ _ _ h => h) (Or.inl ⟨by rfl, ?_⟩) hHeld ?_ ?_
          rotate_left
          · rintro w' ⟨s0, s1, s2, s3, s4, s5, s6, s7, s8⟩
            go_simp
            with_reducible rfl
          rotate_left
          · simp only [Act.put, List.setIfInBounds_toArray, List.set_cons_zero, List.set_cons_succ, i64_w, i32_w]
            rfl
          refine pure_ (i := 4) (N := some 69) (v := ?_) (a' := ?_) #[true, true, true, true, true, false, false, false, false, false, false, false, false, false, false, false, false, false, false, false, false, false, false, false, false, false, false, false, false, false, false, false, false, false, false, false, false, false, false, false, false, false, false, false, false, false] rfl rfl (by kernel_rfl) (fun _ _ _ h => h) (Or.inl ⟨by rfl, ?_⟩) ?_ ?_
          rotate_left
          · intro w'
            go_simp
            with_reducible rfl
          rotate_left
          · simp only [Act.put, List.setIfInBounds_toArray, List.set_cons_zero, List.set_cons_succ, i64_w, i32_w]
            rfl
          refine pure_ (i := 5) (N := some 70) (v := ?_) (a' := ?_) #[true, true, true, true, true, true, false, false, false, false, false, false, false, false, false, false, false, false, false, false, false, false, false, false, false, false, false, false, false, false, false, false, false, false, false, false, false, false, false, false, false, false, false, false, false, false] rfl rfl (by kernel_rfl) (fun _ _ _ h => h) (Or.inl ⟨by rfl, ?_⟩) ?_ ?_
          rotate_left
          · intro w'
            go_simp
            with_reducible rfl
          rotate_left
          · simp only [Act.put, List.setIfInBounds_toArray, List.set_cons_zero, List.set_cons_succ, i64_w, i32_w]
            rfl
          refine pure_ (i := 6) (N := some 71) (v := ?_) (a' := ?_) #[true, true, true, true, true, true, true, false, false, false, false, false, false, false, false, false, false, false, false, false, false, false, false, false, false, false, false, false, false, false, false, false, false, false, false, false, false, false, false, false, false, false, false, false, false, false] rfl rfl (by kernel_rfl) (fun _ _ _ h => h) (Or.inl ⟨by rfl, ?_⟩) ?_ ?_
          rotate_left
          · intro w'
            go_simp
            with_reducible rfl
          rotate_left
          · simp only [Act.put, List.setIfInBounds_toArray, List.set_cons_zero, List.set_cons_succ, i64_w, i32_w]
            rfl
          refine pure_ (i := 7) (N := some 72) (v := undef) (a' := ?_) #[true, true, true, true, true, true, true, true, false, false, false, false, false, false, false, false, false, false, false, false, false, false, false, false, false, false, false, false, false, false, false, false, false, false, false, false, false, false, false, false, false, false, false, false, false, false] rfl rfl (by kernel_rfl) (fun _ _ _ h => h) (Or.inr ⟨by rfl, rfl⟩) ?_ ?_
          rotate_left
          · simp only [Act.put, List.setIfInBounds_toArray, List.set_cons_zero, List.set_cons_succ, i64_w, i32_w]
            rfl
          refine pure_ (i := 8) (N := some 73) (v := undef) (a' := ?_) #[true, true, true, true, true, true, true, true, true, false, false, false, false, false, false, false, false, false, false, false, false, false, false, false, false, false, false, false, false, false, false, false, false, false, false, false, false, false, false, false, false, false, false, false, false, false] rfl rfl (by kernel_rfl) (fun _ _ _ h => h) (Or.inr ⟨by rfl, rfl⟩) ?_ ?_
          rotate_left
          · simp only [Act.put, List.setIfInBounds_toArray, List.set_cons_zero, List.set_cons_succ, i64_w, i32_w]
            rfl
          refine pure_ (i := 9) (N := some 74) (v := undef) (a' := ?_) #[true, true, true, true, true, true, true, true, true, true, false, false, false, false, false, false, false, false, false, false, false, false, false, false, false, false, false, false, false, false, false, false, false, false, false, false, false, false, false, false, false, false, false, false, false, false] rfl rfl (by kernel_rfl) (fun _ _ _ h => h) (Or.inr ⟨by rfl, rfl⟩) ?_ ?_
          rotate_left
          · simp only [Act.put, List.setIfInBounds_toArray, List.set_cons_zero, List.set_cons_succ, i64_w, i32_w]
            rfl
          refine pure_ (i := 10) (N := some 75) (v := undef) (a' := ?_) #[true, true, true, true, true, true, true, true, true, true, true, false, false, false, false, false, false, false, false, false, false, false, false, false, false, false, false, false, false, false, false, false, false, false, false, false, false, false, false, false, false, false, false, false, false, false] rfl rfl (by kernel_rfl) (fun _ _ _ h => h) (Or.inr ⟨by rfl, rfl⟩) ?_ ?_
          rotate_left
          · simp only [Act.put, List.setIfInBounds_toArray, List.set_cons_zero, List.set_cons_succ, i64_w, i32_w]
            rfl
          refine pure_ (i := 11) (N := some 76) (v := ?_) (a' := ?_) #[true, true, true, true, true, true, true, true, true, true, true, true, false, false, false, false, false, false, false, false, false, false, false, false, false, false, false, false, false, false, false, false, false, false, false, false, false, false, false, false, false, false, false, false, false, false] rfl rfl (by kernel_rfl) (fun _ _ _ h => h) (Or.inl ⟨by rfl, ?_⟩) ?_ ?_
          rotate_left
          · intro w'
            go_simp
            with_reducible rfl
          rotate_left
          · simp only [Act.put, List.setIfInBounds_toArray, List.set_cons_zero, List.set_cons_succ, i64_w, i32_w]
            rfl
          refine pure_ (i := 12) (N := some 77) (v := ?_) (a' := ?_) #[true, true, true, true, true, true, true, true, true, true, true, true, true, false, false, false, false, false, false, false, false, false, false, false, false, false, false, false, false, false, false, false, false, false, false, false, false, false, false, false, false, false, false, false, false, false] rfl rfl (by kernel_rfl) (fun _ _ _ h => h) (Or.inl ⟨by rfl, ?_⟩) ?_ ?_
          rotate_left
          · intro w'
            go_simp
            with_reducible rfl
          rotate_left
          · simp only [Act.put, List.setIfInBounds_toArray, List.set_cons_zero, List.set_cons_succ, i64_w, i32_w]
            rfl
          refine pure_ (i := 13) (N := some 78) (v := ?_) (a' := ?_) #[true, true, true, true, true, true, true, true, true, true, true, true, true, true, false, false, false, false, false, false, false, false, false, false, false, false, false, false, false, false, false, false, false, false, false, false, false, false, false, false, false, false, false, false, false, false] rfl rfl (by kernel_rfl) (fun _ _ _ h => h) (Or.inl ⟨by rfl, ?_⟩) ?_ ?_
          rotate_left
          · intro w'
            go_simp
            with_reducible rfl
          rotate_left
          · simp only [Act.put, List.setIfInBounds_toArray, List.set_cons_zero, List.set_cons_succ, i64_w, i32_w]
            rfl
          refine pure_ (i := 14) (N := some 79) (v := ?_) (a' := ?_) #[true, true, true, true, true, true, true, true, true, true, true, true, true, true, true, false, false, false, false, false, false, false, false, false, false, false, false, false, false, false, false, false, false, false, false, false, false, false, false, false, false, false, false, false, false, false] rfl rfl (by kernel_rfl) (fun _ _ _ h => h) (Or.inl ⟨by rfl, ?_⟩) ?_ ?_
          rotate_left
          · intro w'
            go_simp
            with_reducible rfl
          rotate_left
          · simp only [Act.put, List.setIfInBounds_toArray, List.set_cons_zero, List.set_cons_succ, i64_w, i32_w]
            rfl
          refine take_ (i := 15) (N := some 80) (v := ?_) (a' := ?_) #[true, true, true, true, true, true, true, true, true, true, true, true, true, true, true, true, false, false, false, false, false, false, false, false, false, false, false, false, false, false, false, false, false, false, false, false, false, false, false, false, false, false, false, false, false, false] rfl rfl (by kernel_rfl) (fun _ _ _ h => h) (Or.inl ⟨by rfl, ?_⟩) hHeld ?_ ?_
          rotate_left
          · rintro w' ⟨s0, s1, s2, s3, s4, s5, s6, s7, s8⟩
            go_simp
            with_reducible rfl
          rotate_left
          · simp only [Act.put, List.setIfInBounds_toArray, List.set_cons_zero, List.set_cons_succ, i64_w, i32_w]
            rfl
          refine pure_ (i := 16) (N := some 81) (v := ?_) (a' := ?_) #[true, true, true, true, true, true, true, true, true, true, true, true, true, true, true, true, true, false, false, false, false, false, false, false, false, false, false, false, false, false, false, false, false, false, false, false, false, false, false, false, false, false, false, false, false, false] rfl rfl (by kernel_rfl) (fun _ _ _ h => h) (Or.inl ⟨by rfl, ?_⟩) ?_ ?_
          rotate_left
          · intro w'
            go_simp
            with_reducible rfl
          rotate_left
          · simp only [Act.put, List.setIfInBounds_toArray, List.set_cons_zero, List.set_cons_succ, i64_w, i32_w]
            rfl
          refine pure_ (i := 17) (N := some 82) (v := ?_) (a' := ?_) #[true, true, true, true, true, true, true, true, true, true, true, true, true, true, true, true, true, true, false, false, false, false, false, false, false, false, false, false, false, false, false, false, false, false, false, false, false, false, false, false, false, false, false, false, false, false] rfl rfl (by kernel_rfl) (fun _ _ _ h => h) (Or.inl ⟨by rfl, ?_⟩) ?_ ?_
          rotate_left
          · intro w'
            go_simp
            with_reducible rfl
          rotate_left
          · simp only [Act.put, List.setIfInBounds_toArray, List.set_cons_zero, List.set_cons_succ, i64_w, i32_w]
            rfl
          refine pure_ (i := 18) (N := some 83) (v := ?_) (a' := ?_) #[true, true, true, true, true, true, true, true, true, true, true, true, true, true, true, true, true, true, true, false, false, false, false, false, false, false, false, false, false, false, false, false, false, false, false, false, false, false, false, false, false, false, false, false, false, false] rfl rfl (by kernel_rfl) (fun _ _ _ h => h) (Or.inl ⟨by rfl, ?_⟩) ?_ ?_
          rotate_left
          · intro w'
            go_simp
            with_reducible rfl
          rotate_left
          · simp only [Act.put, List.setIfInBounds_toArray, List.set_cons_zero, List.set_cons_succ, i64_w, i32_w]
            rfl
          refine pure_ (i := 19) (N := some 84) (v := ?_) (a' := ?_) #[true, true, true, true, true, true, true, true, true, true, true, true, true, true, true, true, true, true, true, true, false, false, false, false, false, false, false, false, false, false, false, false, false, false, false, false, false, false, false, false, false, false, false, false, false, false] rfl rfl (by kernel_rfl) (fun _ _ _ h => h) (Or.inl ⟨by rfl, ?_⟩) ?_ ?_
          rotate_left
          · intro w'
            go_simp
            with_reducible rfl
          rotate_left
          · simp only [Act.put, List.setIfInBounds_toArray, List.set_cons_zero, List.set_cons_succ, i64_w, i32_w]
            rfl
          refine pure_ (i := 21) (N := some 86) (v := ?_) (a' := ?_) #[true, true, true, true, true, true, true, true, true, true, true, true, true, true, true, true, true, true, true, true, false, true, false, false, false, false, false, false, false, false, false, false, false, false, false, false, false, false, false, false, false, false, false, false, false, false] rfl rfl (by kernel_rfl) (fun _ _ _ h => h) (Or.inl ⟨by rfl, ?_⟩) ?_ ?_
          rotate_left
          · intro w'
            go_simp
            with_reducible rfl
          rotate_left
          · simp only [Act.put, List.setIfInBounds_toArray, List.set_cons_zero, List.set_cons_succ, i64_w, i32_w]
            rfl
          refine take_ (i := 20) (N := some 85) (v := ?_) (a' := ?_) #[true, true, true, true, true, true, true, true, true, true, true, true, true, true, true, true, true, true, true, true, true, true, false, false, false, false, false, false, false, false, false, false, false, false, false, false, false, false, false, false, false, false, false, false, false, false] rfl rfl (by kernel_rfl) (fun _ _ _ h => h) (Or.inl ⟨by rfl, ?_⟩) hHeld ?_ ?_
          rotate_left
          · rintro w' ⟨s0, s1, s2, s3, s4, s5, s6, s7, s8⟩
            go_simp
            with_reducible rfl
          rotate_left
          · simp only [Act.put, List.setIfInBounds_toArray, List.set_cons_zero, List.set_cons_succ, i64_w, i32_w]
            rfl
          refine take_ (i := 22) (N := some 87) (v := ?_) (a' := ?_) #[true, true, true, true, true, true, true, true, true, true, true, true, true, true, true, true, true, true, true, true, true, true, true, false, false, false, false, false, false, false, false, false, false, false, false, false, false, false, false, false, false, false, false, false, false, false] rfl rfl (by kernel_rfl) (fun _ _ _ h => h) (Or.inl ⟨by rfl, ?_⟩) hHeld ?_ ?_
          rotate_left
          · rintro w' ⟨s0, s1, s2, s3, s4, s5, s6, s7, s8⟩
            go_simp
            with_reducible rfl
          rotate_left
          · simp only [Act.put, List.setIfInBounds_toArray, List.set_cons_zero, List.set_cons_succ, i64_w, i32_w]
            rfl
          refine pure_ (i := 23) (N := some 88) (v := ?_) (a' := ?_) #[true, true, true, true, true, true, true, true, true, true, true, true, true, true, true, true, true, true, true, true, true, true, true, true, false, false, false, false, false, false, false, false, false, false, false, false, false, false, false, false, false, false, false, false, false, false] rfl rfl (by kernel_rfl) (fun _ _ _ h => h) (Or.inl ⟨by rfl, ?_⟩) ?_ ?_
          rotate_left
          · intro w'
            go_simp
            with_reducible rfl
          rotate_left
          · simp only [Act.put, List.setIfInBounds_toArray, List.set_cons_zero, List.set_cons_succ, i64_w, i32_w]
            rfl
          refine pure_ (i := 24) (N := some 89) (v := ?_) (a' := ?_) #[true, true, true, true, true, true, true, true, true, true, true, true, true, true, true, true, true, true, true, true, true, true, true, true, true, false, false, false, false, false, false, false, false, false, false, false, false, false, false, false, false, false, false, false, false, false] rfl rfl (by kernel_rfl) (fun _ _ _ h => h) (Or.inl ⟨by rfl, ?_⟩) ?_ ?_
          rotate_left
          · intro w'
            go_simp
            with_reducible rfl
          rotate_left
          · simp only [Act.put, List.setIfInBounds_toArray, List.set_cons_zero, List.set_cons_succ, i64_w, i32_w]
            rfl
          refine pure_ (i := 25) (N := some 90) (v := ?_) (a' := ?_) #[true, true, true, true, true, true, true, true, true, true, true, true, true, true, true, true, true, true, true, true, true, true, true, true, true, true, false, false, false, false, false, false, false, false, false, false, false, false, false, false, false, false, false, false, false, false] rfl rfl (by kernel_rfl) (fun _ _ _ h => h) (Or.inl ⟨by rfl, ?_⟩) ?_ ?_
          rotate_left
          · intro w'
            go_simp
            with_reducible rfl
          rotate_left
          · simp only [Act.put, List.setIfInBounds_toArray, List.set_cons_zero, List.set_cons_succ, i64_w, i32_w]
            rfl
          refine pure_ (i := 26) (N := some 91) (v := ?_) (a' := ?_) #[true, true, true, true, true, true, true, true, true, true, true, true, true, true, true, true, true, true, true, true, true, true, true, true, true, true, true, false, false, false, false, false, false, false, false, false, false, false, false, false, false, false, false, false, false, false] rfl rfl (by kernel_rfl) (fun _ _ _ h => h) (Or.inl ⟨by rfl, ?_⟩) ?_ ?_
          rotate_left
          · intro w'
            go_simp
            with_reducible rfl
          rotate_left
          · simp only [Act.put, List.setIfInBounds_toArray, List.set_cons_zero, List.set_cons_succ, i64_w, i32_w]
            rfl
          refine pure_ (i := 28) (N := some 93) (v := ?_) (a' := ?_) #[true, true, true, true, true, true, true, true, true, true, true, true, true, true, true, true, true, true, true, true, true, true, true, true, true, true, true, false, true, false, false, false, false, false, false, false, false, false, false, false, false, false, false, false, false, false] rfl rfl (by kernel_rfl) (fun _ _ _ h => h) (Or.inl ⟨by rfl, ?_⟩) ?_ ?_
          rotate_left
          · intro w'
            go_simp
            with_reducible rfl
          rotate_left
          · simp only [Act.put, List.setIfInBounds_toArray, List.set_cons_zero, List.set_cons_succ, i64_w, i32_w]
            rfl
          refine pure_ (i := 29) (N := some 94) (v := ?_) (a' := ?_) #[true, true, true, true, true, true, true, true, true, true, true, true, true, true, true, true, true, true, true, true, true, true, true, true, true, true, true, false, true, true, false, false, false, false, false, false, false, false, false, false, false, false, false, false, false, false] rfl rfl (by kernel_rfl) (fun _ _ _ h => h) (Or.inl ⟨by rfl, ?_⟩) ?_ ?_
          rotate_left
          · intro w'
            go_simp
            with_reducible rfl
          rotate_left
          · simp only [Act.put, List.setIfInBounds_toArray, List.set_cons_zero, List.set_cons_succ, i64_w, i32_w]
            rfl
          refine pure_ (i := 31) (N := some 96) (v := ?_) (a' := ?_) #[true, true, true, true, true, true, true, true, true, true, true, true, true, true, true, true, true, true, true, true, true, true, true, true, true, true, true, false, true, true, false, true, false, false, false, false, false, false, false, false, false, false, false, false, false, false] rfl rfl (by kernel_rfl) (fun _ _ _ h => h) (Or.inl ⟨by rfl, ?_⟩) ?_ ?_
          rotate_left
          · intro w'
            go_simp
            with_reducible rfl
          rotate_left
          · simp only [Act.put, List.setIfInBounds_toArray, List.set_cons_zero, List.set_cons_succ, i64_w, i32_w]
            rfl
          refine take_ (i := 27) (N := some 92) (v := ?_) (a' := ?_) #[true, true, true, true, true, true, true, true, true, true, true, true, true, true, true, true, true, true, true, true, true, true, true, true, true, true, true, true, true, true, false, true, false, false, false, false, false, false, false, false, false, false, false, false, false, false] rfl rfl (by kernel_rfl) (fun _ _ _ h => h) (Or.inl ⟨by rfl, ?_⟩) hHeld ?_ ?_
          rotate_left
          · rintro w' ⟨s0, s1, s2, s3, s4, s5, s6, s7, s8⟩
            go_simp
            with_reducible rfl
          rotate_left
          · simp only [Act.put, List.setIfInBounds_toArray, List.set_cons_zero, List.set_cons_succ, i64_w, i32_w]
            rfl
          refine one_ (i := 30) (N := some 95) #[true, true, true, true, true, true, true, true, true, true, true, true, true, true, true, true, true, true, true, true, true, true, true, true, true, true, true, true, true, true, true, true, false, false, false, false, false, false, false, false, false, false, false, false, false, false] rfl rfl (by kernel_rfl) (by decide) (fun K hK => ?_)
          refine goes_ Tryd.func15 (by kernel_rfl) rfl #[encP p A c, .slice Ab B.length cb, .slice Ac C.length cc] (by rfl) rfl rfl (by simp only [List.map_toArray, List.map_cons, List.map_nil]; rfl) ?_
          with_reducible refine (H15.out _ (below_drew HB5.out)).mono ?_
          rintro e_ wa ⟨rfl, hba⟩
          refine ⟨_, rfl, ?_⟩
          refine hK.out _ _ ⟨cells_later hba hHeld.1, cells_later hba hHeld.2.1, cells_later hba hHeld.2.2.1, cells_later hba hHeld.2.2.2.1, cells_later hba hHeld.2.2.2.2.1, cells_later hba hHeld.2.2.2.2.2.1, cells_later hba hHeld.2.2.2.2.2.2.1, cells_later hba hHeld.2.2.2.2.2.2.2.1, cells_later hba hHeld.2.2.2.2.2.2.2.2⟩ (fun hHeld => ?_)
          clear hK K
          refine norm_ (a' := ?_) ?_ ?_
          rotate_left
          · show Act.put _ (some 95) _ = _
            simp only [Act.put, List.setIfInBounds_toArray, List.set_cons_zero, List.set_cons_succ, i64_w, i32_w]
            rfl
          refine pure_ (i := 32) (N := some 97) (v := ?_) (a' := ?_) #[true, true, true, true, true, true, true, true, true, true, true, true, true, true, true, true, true, true, true, true, true, true, true, true, true, true, true, true, true, true, true, true, true, false, false, false, false, false, false, false, false, false, false, false, false, false] rfl rfl (by kernel_rfl) (fun _ _ _ h => h) (Or.inl ⟨by rfl, ?_⟩) ?_ ?_
          rotate_left
          · intro w'
            go_simp
            with_reducible rfl
          rotate_left
          · simp only [Act.put, List.setIfInBounds_toArray, List.set_cons_zero, List.set_cons_succ, i64_w, i32_w]
            rfl
          refine pure_ (i := 33) (N := some 98) (v := ?_) (a' := ?_) #[true, true, true, true, true, true, true, true, true, true, true, true, true, true, true, true, true, true, true, true, true, true, true, true, true, true, true, true, true, true, true, true, true, true, false, false, false, false, false, false, false, false, false, false, false, false] rfl rfl (by kernel_rfl) (fun _ _ _ h => h) (Or.inl ⟨by rfl, ?_⟩) ?_ ?_
          rotate_left
          · intro w'
            go_simp
            with_reducible rfl
          rotate_left
          · simp only [Act.put, List.setIfInBounds_toArray, List.set_cons_zero, List.set_cons_succ, i64_w, i32_w]
            rfl
          refine pure_ (i := 34) (N := some 99) (v := ?_) (a' := ?_) #[true, true, true, true, true, true, true, true, true, true, true, true, true, true, true, true, true, true, true, true, true, true, true, true, true, true, true, true, true, true, true, true, true, true, true, false, false, false, false, false, false, false, false, false, false, false] rfl rfl (by kernel_rfl) (fun _ _ _ h => h) (Or.inl ⟨by rfl, ?_⟩) ?_ ?_
          rotate_left
          · intro w'
            go_simp
            with_reducible rfl
          rotate_left
          · simp only [Act.put, List.setIfInBounds_toArray, List.set_cons_zero, List.set_cons_succ, i64_w, i32_w]
            rfl
          refine pure_ (i := 37) (N := some 102) (v := ?_) (a' := ?_) #[true, true, true, true, true, true, true, true, true, true, true, true, true, true, true, true, true, true, true, true, true, true, true, true, true, true, true, true, true, true, true, true, true, true, true, false, false, true, false, false, false, false, false, false, false, false] rfl rfl (by kernel_rfl) (fun _ _ _ h => h) (Or.inl ⟨by rfl, ?_⟩) ?_ ?_
          rotate_left
          · intro w'
            go_simp
            with_reducible rfl
          rotate_left
          · simp only [Act.put, List.setIfInBounds_toArray, List.set_cons_zero, List.set_cons_succ, i64_w, i32_w]
            rfl
          refine take_ (i := 35) (N := some 100) (v := ?_) (a' := ?_) #[true, true, true, true, true, true, true, true, true, true, true, true, true, true, true, true, true, true, true, true, true, true, true, true, true, true, true, true, true, true, true, true, true, true, true, true, false, true, false, false, false, false, false, false, false, false] rfl rfl (by kernel_rfl) (fun _ _ _ h => h) (Or.inl ⟨by rfl, ?_⟩) hHeld ?_ ?_
          rotate_left
          · rintro w' ⟨s0, s1, s2, s3, s4, s5, s6, s7, s8⟩
            go_simp
            with_reducible rfl
          rotate_left
          · simp only [Act.put, List.setIfInBounds_toArray, List.set_cons_zero, List.set_cons_succ, i64_w, i32_w]
            rfl
          refine one_ (i := 36) (N := some 101) #[true, true, true, true, true, true, true, true, true, true, true, true, true, true, true, true, true, true, true, true, true, true, true, true, true, true, true, true, true, true, true, true, true, true, true, true, true, true, false, false, false, false, false, false, false, false] rfl rfl (by kernel_rfl) (by decide) (fun K hK => ?_)
          refine goes_ Tryd.func16 (by kernel_rfl) rfl #[encP p A c] (by rfl) rfl rfl (by simp only [List.map_toArray, List.map_cons, List.map_nil]; rfl) ?_
          with_reducible refine (H16.out _ (bst (below_drew HB5.out) hba)).mono ?_
          rintro e_ wb ⟨rfl, hbb⟩
          refine ⟨_, rfl, ?_⟩
          refine hK.out _ _ ⟨cells_later hbb hHeld.1, cells_later hbb hHeld.2.1, cells_later hbb hHeld.2.2.1, cells_later hbb hHeld.2.2.2.1, cells_later hbb hHeld.2.2.2.2.1, cells_later hbb hHeld.2.2.2.2.2.1, cells_later hbb hHeld.2.2.2.2.2.2.1, cells_later hbb hHeld.2.2.2.2.2.2.2.1, cells_later hbb hHeld.2.2.2.2.2.2.2.2⟩ (fun hHeld => ?_)
          clear hK K
          refine norm_ (a' := ?_) ?_ ?_
          rotate_left
          · show Act.put _ (some 101) _ = _
            simp only [Act.put, List.setIfInBounds_toArray, List.set_cons_zero, List.set_cons_succ, i64_w, i32_w]
            rfl
          refine pure_ (i := 38) (N := some 103) (v := ?_) (a' := ?_) #[true, true, true, true, true, true, true, true, true, true, true, true, true, true, true, true, true, true, true, true, true, true, true, true, true, true, true, true, true, true, true, true, true, true, true, true, true, true, true, false, false, false, false, false, false, false] rfl rfl (by kernel_rfl) (fun _ _ _ h => h) (Or.inl ⟨by rfl, ?_⟩) ?_ ?_
          rotate_left
          · intro w'
            go_simp
            with_reducible rfl
          rotate_left
          · simp only [Act.put, List.setIfInBounds_toArray, List.set_cons_zero, List.set_cons_succ, i64_w, i32_w]
            rfl
          refine pure_ (i := 39) (N := some 104) (v := ?_) (a' := ?_) #[true, true, true, true, true, true, true, true, true, true, true, true, true, true, true, true, true, true, true, true, true, true, true, true, true, true, true, true, true, true, true, true, true, true, true, true, true, true, true, true, false, false, false, false, false, false] rfl rfl (by kernel_rfl) (fun _ _ _ h => h) (Or.inl ⟨by rfl, ?_⟩) ?_ ?_
          rotate_left
          · intro w'
            go_simp
            with_reducible rfl
          rotate_left
          · simp only [Act.put, List.setIfInBounds_toArray, List.set_cons_zero, List.set_cons_succ, i64_w, i32_w]
            rfl
          refine pure_ (i := 40) (N := some 105) (v := ?_) (a' := ?_) #[true, true, true, true, true, true, true, true, true, true, true, true, true, true, true, true, true, true, true, true, true, true, true, true, true, true, true, true, true, true, true, true, true, true, true, true, true, true, true, true, true, false, false, false, false, false] rfl rfl (by kernel_rfl) (fun _ _ _ h => h) (Or.inl ⟨by rfl, ?_⟩) ?_ ?_
          rotate_left
          · intro w'
            go_simp
            with_reducible rfl
          rotate_left
          · simp only [Act.put, List.setIfInBounds_toArray, List.set_cons_zero, List.set_cons_succ, i64_w, i32_w]
            rfl
          refine take_ (i := 41) (N := some 106) (v := ?_) (a' := ?_) #[true, true, true, true, true, true, true, true, true, true, true, true, true, true, true, true, true, true, true, true, true, true, true, true, true, true, true, true, true, true, true, true, true, true, true, true, true, true, true, true, true, true, false, false, false, false] rfl rfl (by kernel_rfl) (fun _ _ _ h => h) (Or.inl ⟨by rfl, ?_⟩) hHeld ?_ ?_
          rotate_left
          · rintro w' ⟨s0, s1, s2, s3, s4, s5, s6, s7, s8⟩
            go_simp
            with_reducible rfl
          rotate_left
          · simp only [Act.put, List.setIfInBounds_toArray, List.set_cons_zero, List.set_cons_succ, i64_w, i32_w]
            rfl
          refine one_ (i := 42) (N := some 107) #[true, true, true, true, true, true, true, true, true, true, true, true, true, true, true, true, true, true, true, true, true, true, true, true, true, true, true, true, true, true, true, true, true, true, true, true, true, true, true, true, true, true, true, false, false, false] rfl rfl (by kernel_rfl) (by decide) (fun K hK => ?_)
          refine goes_ Tryd.func16 (by kernel_rfl) rfl #[encP p A c] (by rfl) rfl rfl (by simp only [List.map_toArray, List.map_cons, List.map_nil]; rfl) ?_
          with_reducible refine (H16.out _ (bst (bst (below_drew HB5.out) hba) hbb)).mono ?_
          rintro e_ wd ⟨rfl, hbd⟩
          refine ⟨_, rfl, ?_⟩
          refine hK.out _ _ ⟨cells_later hbd hHeld.1, cells_later hbd hHeld.2.1, cells_later hbd hHeld.2.2.1, cells_later hbd hHeld.2.2.2.1, cells_later hbd hHeld.2.2.2.2.1, cells_later hbd hHeld.2.2.2.2.2.1, cells_later hbd hHeld.2.2.2.2.2.2.1, cells_later hbd hHeld.2.2.2.2.2.2.2.1, cells_later hbd hHeld.2.2.2.2.2.2.2.2⟩ (fun hHeld => ?_)
          clear hK K
          refine norm_ (a' := ?_) ?_ ?_
          rotate_left
          · show Act.put _ (some 107) _ = _
            simp only [Act.put, List.setIfInBounds_toArray, List.set_cons_zero, List.set_cons_succ, i64_w, i32_w]
            rfl
          refine pure_ (i := 43) (N := some 108) (v := ?_) (a' := ?_) #[true, true, true, true, true, true, true, true, true, true, true, true, true, true, true, true, true, true, true, true, true, true, true, true, true, true, true, true, true, true, true, true, true, true, true, true, true, true, true, true, true, true, true, true, false, false] rfl rfl (by kernel_rfl) (fun _ _ _ h => h) (Or.inl ⟨by rfl, ?_⟩) ?_ ?_
          rotate_left
          · intro w'
            go_simp
            with_reducible rfl
          rotate_left
          · simp only [Act.put, List.setIfInBounds_toArray, List.set_cons_zero, List.set_cons_succ, i64_w, i32_w]
            rfl
          refine pure_ (i := 44) (N := some 109) (v := ?_) (a' := ?_) #[true, true, true, true, true, true, true, true, true, true, true, true, true, true, true, true, true, true, true, true, true, true, true, true, true, true, true, true, true, true, true, true, true, true, true, true, true, true, true, true, true, true, true, true, true, false] rfl rfl (by kernel_rfl) (fun _ _ _ h => h) (Or.inl ⟨by rfl, ?_⟩) ?_ ?_
          rotate_left
          · intro w'
            go_simp
            with_reducible rfl
          rotate_left
          · simp only [Act.put, List.setIfInBounds_toArray, List.set_cons_zero, List.set_cons_succ, i64_w, i32_w]
            rfl
          refine pure_ (i := 45) (N := some 10) (v := ?_) (a' := ?_) #[true, true, true, true, true, true, true, true, true, true, true, true, true, true, true, true, true, true, true, true, true, true, true, true, true, true, true, true, true, true, true, true, true, true, true, true, true, true, true, true, true, true, true, true, true, true] rfl rfl (by kernel_rfl) (fun _ _ _ h => h) (Or.inl ⟨by rfl, ?_⟩) ?_ ?_
          rotate_left
          · intro w'
            go_simp
            with_reducible rfl
          rotate_left
          · simp only [Act.put, List.setIfInBounds_toArray, List.set_cons_zero, List.set_cons_succ, i64_w, i32_w]
            rfl
          refine done_ (by kernel_rfl) ?_
          have HBe := Aside0.mk (bst (bst (bst (below_drew HB5.out) hba) hbb) hbd)
          clear hba hbb hbd
          go_wp2_with fail
          go_ret
          exact ⟨rfl, HBe.out⟩
        · have hz1 : ((p.f7.length : Int) == 0) = false := hz
          refine start_ (n := 46) (S := fun w' => w'.cell? ⟨gp, 0, none⟩ = some (.int .i64 p.f0) ∧ w'.cell? ⟨gp, 1, none⟩ = some (.int .i64 p.f1) ∧ w'.cell? ⟨gp, 2, none⟩ = some (.int .i64 p.f2) ∧ w'.cell? ⟨gp, 3, none⟩ = some (.int .i64 p.f3) ∧ w'.cell? ⟨gp, 4, none⟩ = some (.bool p.f4) ∧ w'.cell? ⟨gp, 5, none⟩ = some (.int .i64 p.f5) ∧ w'.cell? ⟨gp, 6, none⟩ = some (.int .i64 p.f6) ∧ w'.cell? ⟨gp, 7, none⟩ = some (.slice A p.f7.length c) ∧ w'.cell? ⟨gb, 1, none⟩ = some (.int .i64 b.core)) (ds := []) #[false, false, false, false, false, false, false, false, false, false, false, false, false, false, false, false, false, false, false, false, false, false, false, false, false, false, false, false, false, false, false, false, false, false, false, false, false, false, false, false, false, false, false, false, false, false] (by kernel_rfl) rfl rfl ⟨m0_.out, m1_.out, m2_.out, m3_.out, m4_.out, m5_.out, m6_.out, m7_.out, m8_.out⟩ (fun hHeld => ?_)
          refine pure_ (i := 0) (N := some 65) (v := ?_) (a' := ?_) #[true, false, false, false, false, false, false, false, false, false, false, false, false, false, false, false, false, false, false, false, false, false, false, false, false, false, false, false, false, false, false, false, false, false, false, false, false, false, false, false, false, false, false, false, false, false] rfl rfl (by kernel_rfl) (fun _ _ _ h => h) (Or.inl ⟨by rfl, ?_⟩) ?_ ?_
          rotate_left
          · intro w'
            go_simp
            with_reducible rfl
          rotate_left
          · simp only [Act.put, List.setIfInBounds_toArray, List.set_cons_zero, List.set_cons_succ, i64_w, i32_w]
            rfl
          refine pure_ (i := 1) (N := some 66) (v := ?_) (a' := ?_) #[true, true, false, false, false, false, false, false, false, false, false, false, false, false, false, false, false, false, false, false, false, false, false, false, false, false, false, false, false, false, false, false, false, false, false, false, false, false, false, false, false, false, false, false, false, false] rfl rfl (by kernel_rfl) (fun _ _ _ h => h) (Or.inl ⟨by rfl, ?_⟩) ?_ ?_
          rotate_left
          · intro w'
            go_simp
            with_reducible rfl
          rotate_left
          · simp only [Act.put, List.setIfInBounds_toArray, List.set_cons_zero, List.set_cons_succ, i64_w, i32_w]
            rfl
          refine pure_ (i := 2) (N := some 67) (v := ?_) (a' := ?_) #[true, true, true, false, false, false, false, false, false, false, false, false, false, false, false, false, false, false, false, false, false, false, false, false, false, false, false, false, false, false, false, false, false, false, false, false, false, false, false, false, false, false, false, false, false, false] rfl rfl (by kernel_rfl) (fun _ _ _ h => h) (Or.inl ⟨by rfl, ?_⟩) ?_ ?_
          rotate_left
          · intro w'
            go_simp
            with_reducible rfl
          rotate_left
          · simp only [Act.put, List.setIfInBounds_toArray, List.set_cons_zero, List.set_cons_succ, i64_w, i32_w]
            rfl
          refine take_ (i := 3) (N := some 68) (v := ?_) (a' := ?_) #[true, true, true, true, false, false, false, false, false, false, false, false, false, false, false, false, false, false, false, false, false, false, false, false, false, false, false, false, false, false, false, false, false, false, false, false, false, false, false, false, false, false, false, false, false, false] rfl rfl (by kernel_rfl) (fun _ _ _ h => h) (Or.inl ⟨by rfl, ?_⟩) hHeld ?_ ?_
          rotate_left
          · rintro w' ⟨s0, s1, s2, s3, s4, s5, s6, s7, s8⟩
            go_simp
            with_reducible rfl
          rotate_left
          · simp only [Act.put, List.setIfInBounds_toArray, List.set_cons_zero, List.set_cons_succ, i64_w, i32_w]
            rfl
          refine pure_ (i := 4) (N := some 69) (v := ?_) (a' := ?_) #[true, true, true, true, true, false, false, false, false, false, false, false, false, false, false, false, false, false, false, false, false, false, false, false, false, false, false, false, false, false, false, false, false, false, false, false, false, false, false, false, false, false, false, false, false, false] rfl rfl (by kernel_rfl) (fun _ _ _ h => h) (Or.inl ⟨by rfl, ?_⟩) ?_ ?_
          rotate_left
          · intro w'
            go_simp
            with_reducible rfl
          rotate_left
          · simp only [Act.put, List.setIfInBounds_toArray, List.set_cons_zero, List.set_cons_succ, i64_w, i32_w]
            rfl
          refine pure_ (i := 5) (N := some 70) (v := ?_) (a' := ?_) #[true, true, true, true, true, true, false, false, false, false, false, false, false, false, false, false, false, false, false, false, false, false, false, false, false, false, false, false, false, false, false, false, false, false, false, false, false, false, false, false, false, false, false, false, false, false] rfl rfl (by kernel_rfl) (fun _ _ _ h => h) (Or.inl ⟨by rfl, ?_⟩) ?_ ?_
          rotate_left
          · intro w'
            go_simp
            with_reducible rfl
          rotate_left
          · simp only [Act.put, List.setIfInBounds_toArray, List.set_cons_zero, List.set_cons_succ, i64_w, i32_w]
            rfl
          refine pure_ (i := 6) (N := some 71) (v := ?_) (a' := ?_) #[true, true, true, true, true, true, true, false, false, false, false, false, false, false, false, false, false, false, false, false, false, false, false, false, false, false, false, false, false, false, false, false, false, false, false, false, false, false, false, false, false, false, false, false, false, false] rfl rfl (by kernel_rfl) (fun _ _ _ h => h) (Or.inl ⟨by rfl, ?_⟩) ?_ ?_
          rotate_left
          · intro w'
            go_simp
            with_reducible rfl
          rotate_left
          · simp only [Act.put, List.setIfInBounds_toArray, List.set_cons_zero, List.set_cons_succ, i64_w, i32_w]
            rfl
          refine pure_ (i := 7) (N := some 72) (v := ?_) (a' := ?_) #[true, true, true, true, true, true, true, true, false, false, false, false, false, false, false, false, false, false, false, false, false, false, false, false, false, false, false, false, false, false, false, false, false, false, false, false, false, false, false, false, false, false, false, false, false, false] rfl rfl (by kernel_rfl) (fun _ _ _ h => h) (Or.inl ⟨by rfl, ?_⟩) ?_ ?_
          rotate_left
          · intro w'
            go_simp
            with_reducible rfl
          rotate_left
          · simp only [Act.put, List.setIfInBounds_toArray, List.set_cons_zero, List.set_cons_succ, i64_w, i32_w]
            rfl
          refine pure_ (i := 8) (N := some 73) (v := ?_) (a' := ?_) #[true, true, true, true, true, true, true, true, true, false, false, false, false, false, false, false, false, false, false, false, false, false, false, false, false, false, false, false, false, false, false, false, false, false, false, false, false, false, false, false, false, false, false, false, false, false] rfl rfl (by kernel_rfl) (fun _ _ _ h => h) (Or.inl ⟨by rfl, ?_⟩) ?_ ?_
          rotate_left
          · intro w'
            go_simp
            with_reducible rfl
          rotate_left
          · simp only [Act.put, List.setIfInBounds_toArray, List.set_cons_zero, List.set_cons_succ, i64_w, i32_w]
            rfl
          refine take_ (i := 9) (N := some 74) (v := ?_) (a' := ?_) #[true, true, true, true, true, true, true, true, true, true, false, false, false, false, false, false, false, false, false, false, false, false, false, false, false, false, false, false, false, false, false, false, false, false, false, false, false, false, false, false, false, false, false, false, false, false] rfl rfl (by kernel_rfl) (fun _ _ _ h => h) (Or.inl ⟨by rfl, ?_⟩) hHeld ?_ ?_
          rotate_left
          · rintro w' ⟨s0, s1, s2, s3, s4, s5, s6, s7, s8⟩
            go_simp
            with_reducible rfl
          rotate_left
          · simp only [Act.put, List.setIfInBounds_toArray, List.set_cons_zero, List.set_cons_succ, i64_w, i32_w]
            rfl
          refine pure_ (i := 10) (N := some 75) (v := ?_) (a' := ?_) #[true, true, true, true, true, true, true, true, true, true, true, false, false, false, false, false, false, false, false, false, false, false, false, false, false, false, false, false, false, false, false, false, false, false, false, false, false, false, false, false, false, false, false, false, false, false] rfl rfl (by kernel_rfl) (fun _ _ _ h => h) (Or.inl ⟨by rfl, ?_⟩) ?_ ?_
          rotate_left
          · intro w'
            go_simp
            with_reducible rfl
          rotate_left
          · simp only [Act.put, List.setIfInBounds_toArray, List.set_cons_zero, List.set_cons_succ, i64_w, i32_w]
            rfl
          refine pure_ (i := 11) (N := some 76) (v := ?_) (a' := ?_) #[true, true, true, true, true, true, true, true, true, true, true, true, false, false, false, false, false, false, false, false, false, false, false, false, false, false, false, false, false, false, false, false, false, false, false, false, false, false, false, false, false, false, false, false, false, false] rfl rfl (by kernel_rfl) (fun _ _ _ h => h) (Or.inl ⟨by rfl, ?_⟩) ?_ ?_
          rotate_left
          · intro w'
            go_simp
            with_reducible rfl
          rotate_left
          · simp only [Act.put, List.setIfInBounds_toArray, List.set_cons_zero, List.set_cons_succ, i64_w, i32_w]
            rfl
          refine pure_ (i := 12) (N := some 77) (v := ?_) (a' := ?_) #[true, true, true, true, true, true, true, true, true, true, true, true, true, false, false, false, false, false, false, false, false, false, false, false, false, false, false, false, false, false, false, false, false, false, false, false, false, false, false, false, false, false, false, false, false, false] rfl rfl (by kernel_rfl) (fun _ _ _ h => h) (Or.inl ⟨by rfl, ?_⟩) ?_ ?_
          rotate_left
          · intro w'
            go_simp
            with_reducible rfl
          rotate_left
          · simp only [Act.put, List.setIfInBounds_toArray, List.set_cons_zero, List.set_cons_succ, i64_w, i32_w]
            rfl
          refine pure_ (i := 13) (N := some 78) (v := ?_) (a' := ?_) #[true, true, true, true, true, true, true, true, true, true, true, true, true, true, false, false, false, false, false, false, false, false, false, false, false, false, false, false, false, false, false, false, false, false, false, false, false, false, false, false, false, false, false, false, false, false] rfl rfl (by kernel_rfl) (fun _ _ _ h => h) (Or.inl ⟨by rfl, ?_⟩) ?_ ?_
          rotate_left
          · intro w'
            go_simp
            with_reducible rfl
          rotate_left
          · simp only [Act.put, List.setIfInBounds_toArray, List.set_cons_zero, List.set_cons_succ, i64_w, i32_w]
            rfl
          refine pure_ (i := 14) (N := some 79) (v := ?_) (a' := ?_) #[true, true, true, true, true, true, true, true, true, true, true, true, true, true, true, false, false, false, false, false, false, false, false, false, false, false, false, false, false, false, false, false, false, false, false, false, false, false, false, false, false, false, false, false, false, false] rfl rfl (by kernel_rfl) (fun _ _ _ h => h) (Or.inl ⟨by rfl, ?_⟩) ?_ ?_
          rotate_left
          · intro w'
            go_simp
            with_reducible rfl
          rotate_left
          · simp only [Act.put, List.setIfInBounds_toArray, List.set_cons_zero, List.set_cons_succ, i64_w, i32_w]
            rfl
          refine take_ (i := 15) (N := some 80) (v := ?_) (a' := ?_) #[true, true, true, true, true, true, true, true, true, true, true, true, true, true, true, true, false, false, false, false, false, false, false, false, false, false, false, false, false, false, false, false, false, false, false, false, false, false, false, false, false, false, false, false, false, false] rfl rfl (by kernel_rfl) (fun _ _ _ h => h) (Or.inl ⟨by rfl, ?_⟩) hHeld ?_ ?_
          rotate_left
          · rintro w' ⟨s0, s1, s2, s3, s4, s5, s6, s7, s8⟩
            go_simp
            with_reducible rfl
          rotate_left
          · simp only [Act.put, List.setIfInBounds_toArray, List.set_cons_zero, List.set_cons_succ, i64_w, i32_w]
            rfl
          refine pure_ (i := 16) (N := some 81) (v := ?_) (a' := ?_) #[true, true, true, true, true, true, true, true, true, true, true, true, true, true, true, true, true, false, false, false, false, false, false, false, false, false, false, false, false, false, false, false, false, false, false, false, false, false, false, false, false, false, false, false, false, false] rfl rfl (by kernel_rfl) (fun _ _ _ h => h) (Or.inl ⟨by rfl, ?_⟩) ?_ ?_
          rotate_left
          · intro w'
            go_simp
            with_reducible rfl
          rotate_left
          · simp only [Act.put, List.setIfInBounds_toArray, List.set_cons_zero, List.set_cons_succ, i64_w, i32_w]
            rfl
          refine pure_ (i := 17) (N := some 82) (v := ?_) (a' := ?_) #[true, true, true, true, true, true, true, true, true, true, true, true, true, true, true, true, true, true, false, false, false, false, false, false, false, false, false, false, false, false, false, false, false, false, false, false, false, false, false, false, false, false, false, false, false, false] rfl rfl (by kernel_rfl) (fun _ _ _ h => h) (Or.inl ⟨by rfl, ?_⟩) ?_ ?_
          rotate_left
          · intro w'
            go_simp
            with_reducible rfl
          rotate_left
          · simp only [Act.put, List.setIfInBounds_toArray, List.set_cons_zero, List.set_cons_succ, i64_w, i32_w]
            rfl
          refine pure_ (i := 18) (N := some 83) (v := ?_) (a' := ?_) #[true, true, true, true, true, true, true, true, true, true, true, true, true, true, true, true, true, true, true, false, false, false, false, false, false, false, false, false, false, false, false, false, false, false, false, false, false, false, false, false, false, false, false, false, false, false] rfl rfl (by kernel_rfl) (fun _ _ _ h => h) (Or.inl ⟨by rfl, ?_⟩) ?_ ?_
          rotate_left
          · intro w'
            go_simp
            with_reducible rfl
          rotate_left
          · simp only [Act.put, List.setIfInBounds_toArray, List.set_cons_zero, List.set_cons_succ, i64_w, i32_w]
            rfl
          refine pure_ (i := 19) (N := some 84) (v := ?_) (a' := ?_) #[true, true, true, true, true, true, true, true, true, true, true, true, true, true, true, true, true, true, true, true, false, false, false, false, false, false, false, false, false, false, false, false, false, false, false, false, false, false, false, false, false, false, false, false, false, false] rfl rfl (by kernel_rfl) (fun _ _ _ h => h) (Or.inl ⟨by rfl, ?_⟩) ?_ ?_
          rotate_left
          · intro w'
            go_simp
            with_reducible rfl
          rotate_left
          · simp only [Act.put, List.setIfInBounds_toArray, List.set_cons_zero, List.set_cons_succ, i64_w, i32_w]
            rfl
          refine pure_ (i := 21) (N := some 86) (v := ?_) (a' := ?_) #[true, true, true, true, true, true, true, true, true, true, true, true, true, true, true, true, true, true, true, true, false, true, false, false, false, false, false, false, false, false, false, false, false, false, false, false, false, false, false, false, false, false, false, false, false, false] rfl rfl (by kernel_rfl) (fun _ _ _ h => h) (Or.inl ⟨by rfl, ?_⟩) ?_ ?_
          rotate_left
          · intro w'
            go_simp
            with_reducible rfl
          rotate_left
          · simp only [Act.put, List.setIfInBounds_toArray, List.set_cons_zero, List.set_cons_succ, i64_w, i32_w]
            rfl
          refine take_ (i := 20) (N := some 85) (v := ?_) (a' := ?_) #[true, true, true, true, true, true, true, true, true, true, true, true, true, true, true, true, true, true, true, true, true, true, false, false, false, false, false, false, false, false, false, false, false, false, false, false, false, false, false, false, false, false, false, false, false, false] rfl rfl (by kernel_rfl) (fun _ _ _ h => h) (Or.inl ⟨by rfl, ?_⟩) hHeld ?_ ?_
          rotate_left
          · rintro w' ⟨s0, s1, s2, s3, s4, s5, s6, s7, s8⟩
            go_simp
            with_reducible rfl
          rotate_left
          · simp only [Act.put, List.setIfInBounds_toArray, List.set_cons_zero, List.set_cons_succ, i64_w, i32_w]
            rfl
          refine take_ (i := 22) (N := some 87) (v := ?_) (a' := ?_) #[true, true, true, true, true, true, true, true, true, true, true, true, true, true, true, true, true, true, true, true, true, true, true, false, false, false, false, false, false, false, false, false, false, false, false, false, false, false, false, false, false, false, false, false, false, false] rfl rfl (by kernel_rfl) (fun _ _ _ h => h) (Or.inl ⟨by rfl, ?_⟩) hHeld ?_ ?_
          rotate_left
          · rintro w' ⟨s0, s1, s2, s3, s4, s5, s6, s7, s8⟩
            go_simp
            with_reducible rfl
          rotate_left
          · simp only [Act.put, List.setIfInBounds_toArray, List.set_cons_zero, List.set_cons_succ, i64_w, i32_w]
            rfl
          refine pure_ (i := 23) (N := some 88) (v := ?_) (a' := ?_) #[true, true, true, true, true, true, true, true, true, true, true, true, true, true, true, true, true, true, true, true, true, true, true, true, false, false, false, false, false, false, false, false, false, false, false, false, false, false, false, false, false, false, false, false, false, false] rfl rfl (by kernel_rfl) (fun _ _ _ h => h) (Or.inl ⟨by rfl, ?_⟩) ?_ ?_
          rotate_left
          · intro w'
            go_simp
            with_reducible rfl
          rotate_left
          · simp only [Act.put, List.setIfInBounds_toArray, List.set_cons_zero, List.set_cons_succ, i64_w, i32_w]
            rfl
          refine pure_ (i := 24) (N := some 89) (v := ?_) (a' := ?_) #[true, true, true, true, true, true, true, true, true, true, true, true, true, true, true, true, true, true, true, true, true, true, true, true, true, false, false, false, false, false, false, false, false, false, false, false, false, false, false, false, false, false, false, false, false, false] rfl rfl (by kernel_rfl) (fun _ _ _ h => h) (Or.inl ⟨by rfl, ?_⟩) ?_ ?_
          rotate_left
          · intro w'
            go_simp
            with_reducible rfl
          rotate_left
          · simp only [Act.put, List.setIfInBounds_toArray, List.set_cons_zero, List.set_cons_succ, i64_w, i32_w]
            rfl
          refine pure_ (i := 25) (N := some 90) (v := ?_) (a' := ?_) #[true, true, true, true, true, true, true, true, true, true, true, true, true, true, true, true, true, true, true, true, true, true, true, true, true, true, false, false, false, false, false, false, false, false, false, false, false, false, false, false, false, false, false, false, false, false] rfl rfl (by kernel_rfl) (fun _ _ _ h => h) (Or.inl ⟨by rfl, ?_⟩) ?_ ?_
          rotate_left
          · intro w'
            go_simp
            with_reducible rfl
          rotate_left
          · simp only [Act.put, List.setIfInBounds_toArray, List.set_cons_zero, List.set_cons_succ, i64_w, i32_w]
            rfl
          refine pure_ (i := 26) (N := some 91) (v := ?_) (a' := ?_) #[true, true, true, true, true, true, true, true, true, true, true, true, true, true, true, true, true, true, true, true, true, true, true, true, true, true, true, false, false, false, false, false, false, false, false, false, false, false, false, false, false, false, false, false, false, false] rfl rfl (by kernel_rfl) (fun _ _ _ h => h) (Or.inl ⟨by rfl, ?_⟩) ?_ ?_
          rotate_left
          · intro w'
            go_simp
            with_reducible rfl
          rotate_left
          · simp only [Act.put, List.setIfInBounds_toArray, List.set_cons_zero, List.set_cons_succ, i64_w, i32_w]
            rfl
          refine pure_ (i := 28) (N := some 93) (v := ?_) (a' := ?_) #[true, true, true, true, true, true, true, true, true, true, true, true, true, true, true, true, true, true, true, true, true, true, true, true, true, true, true, false, true, false, false, false, false, false, false, false, false, false, false, false, false, false, false, false, false, false] rfl rfl (by kernel_rfl) (fun _ _ _ h => h) (Or.inl ⟨by rfl, ?_⟩) ?_ ?_
          rotate_left
          · intro w'
            go_simp
            with_reducible rfl
          rotate_left
          · simp only [Act.put, List.setIfInBounds_toArray, List.set_cons_zero, List.set_cons_succ, i64_w, i32_w]
            rfl
          refine pure_ (i := 29) (N := some 94) (v := ?_) (a' := ?_) #[true, true, true, true, true, true, true, true, true, true, true, true, true, true, true, true, true, true, true, true, true, true, true, true, true, true, true, false, true, true, false, false, false, false, false, false, false, false, false, false, false, false, false, false, false, false] rfl rfl (by kernel_rfl) (fun _ _ _ h => h) (Or.inl ⟨by rfl, ?_⟩) ?_ ?_
          rotate_left
          · intro w'
            go_simp
            with_reducible rfl
          rotate_left
          · simp only [Act.put, List.setIfInBounds_toArray, List.set_cons_zero, List.set_cons_succ, i64_w, i32_w]
            rfl
          refine pure_ (i := 31) (N := some 96) (v := ?_) (a' := ?_) #[true, true, true, true, true, true, true, true, true, true, true, true, true, true, true, true, true, true, true, true, true, true, true, true, true, true, true, false, true, true, false, true, false, false, false, false, false, false, false, false, false, false, false, false, false, false] rfl rfl (by kernel_rfl) (fun _ _ _ h => h) (Or.inl ⟨by rfl, ?_⟩) ?_ ?_
          rotate_left
          · intro w'
            go_simp
            with_reducible rfl
          rotate_left
          · simp only [Act.put, List.setIfInBounds_toArray, List.set_cons_zero, List.set_cons_succ, i64_w, i32_w]
            rfl
          refine take_ (i := 27) (N := some 92) (v := ?_) (a' := ?_) #[true, true, true, true, true, true, true, true, true, true, true, true, true, true, true, true, true, true, true, true, true, true, true, true, true, true, true, true, true, true, false, true, false, false, false, false, false, false, false, false, false, false, false, false, false, false] rfl rfl (by kernel_rfl) (fun _ _ _ h => h) (Or.inl ⟨by rfl, ?_⟩) hHeld ?_ ?_
          rotate_left
          · rintro w' ⟨s0, s1, s2, s3, s4, s5, s6, s7, s8⟩
            go_simp
            with_reducible rfl
          rotate_left
          · simp only [Act.put, List.setIfInBounds_toArray, List.set_cons_zero, List.set_cons_succ, i64_w, i32_w]
            rfl
          refine one_ (i := 30) (N := some 95) #[true, true, true, true, true, true, true, true, true, true, true, true, true, true, true, true, true, true, true, true, true, true, true, true, true, true, true, true, true, true, true, true, false, false, false, false, false, false, false, false, false, false, false, false, false, false] rfl rfl (by kernel_rfl) (by decide) (fun K hK => ?_)
          refine goes_ Tryd.func15 (by kernel_rfl) rfl #[encP p A c, .slice Ab B.length cb, .slice Ac C.length cc] (by rfl) rfl rfl (by simp only [List.map_toArray, List.map_cons, List.map_nil]; rfl) ?_
          with_reducible refine (H15.out _ (below_drew HB5.out)).mono ?_
          rintro e_ wa ⟨rfl, hba⟩
          refine ⟨_, rfl, ?_⟩
          refine hK.out _ _ ⟨cells_later hba hHeld.1, cells_later hba hHeld.2.1, cells_later hba hHeld.2.2.1, cells_later hba hHeld.2.2.2.1, cells_later hba hHeld.2.2.2.2.1, cells_later hba hHeld.2.2.2.2.2.1, cells_later hba hHeld.2.2.2.2.2.2.1, cells_later hba hHeld.2.2.2.2.2.2.2.1, cells_later hba hHeld.2.2.2.2.2.2.2.2⟩ (fun hHeld => ?_)
          clear hK K
          refine norm_ (a' := ?_) ?_ ?_
          rotate_left
          · show Act.put _ (some 95) _ = _
            simp only [Act.put, List.setIfInBounds_toArray, List.set_cons_zero, List.set_cons_succ, i64_w, i32_w]
            rfl
          refine pure_ (i := 32) (N := some 97) (v := ?_) (a' := ?_) #[true, true, true, true, true, true, true, true, true, true, true, true, true, true, true, true, true, true, true, true, true, true, true, true, true, true, true, true, true, true, true, true, true, false, false, false, false, false, false, false, false, false, false, false, false, false] rfl rfl (by kernel_rfl) (fun _ _ _ h => h) (Or.inl ⟨by rfl, ?_⟩) ?_ ?_
          rotate_left
          · intro w'
            go_simp
            with_reducible rfl
          rotate_left
          · simp only [Act.put, List.setIfInBounds_toArray, List.set_cons_zero, List.set_cons_succ, i64_w, i32_w]
            rfl
          refine pure_ (i := 33) (N := some 98) (v := ?_) (a' := ?_) #[true, true, true, true, true, true, true, true, true, true, true, true, true, true, true, true, true, true, true, true, true, true, true, true, true, true, true, true, true, true, true, true, true, true, false, false, false, false, false, false, false, false, false, false, false, false] rfl rfl (by kernel_rfl) (fun _ _ _ h => h) (Or.inl ⟨by rfl, ?_⟩) ?_ ?_
          rotate_left
          · intro w'
            go_simp
            with_reducible rfl
          rotate_left
          · simp only [Act.put, List.setIfInBounds_toArray, List.set_cons_zero, List.set_cons_succ, i64_w, i32_w]
            rfl
          refine pure_ (i := 34) (N := some 99) (v := ?_) (a' := ?_) #[true, true, true, true, true, true, true, true, true, true, true, true, true, true, true, true, true, true, true, true, true, true, true, true, true, true, true, true, true, true, true, true, true, true, true, false, false, false, false, false, false, false, false, false, false, false] rfl rfl (by kernel_rfl) (fun _ _ _ h => h) (Or.inl ⟨by rfl, ?_⟩) ?_ ?_
          rotate_left
          · intro w'
            go_simp
            with_reducible rfl
          rotate_left
          · simp only [Act.put, List.setIfInBounds_toArray, List.set_cons_zero, List.set_cons_succ, i64_w, i32_w]
            rfl
          refine pure_ (i := 37) (N := some 102) (v := ?_) (a' := ?_) #[true, true, true, true, true, true, true, true, true, true, true, true, true, true, true, true, true, true, true, true, true, true, true, true, true, true, true, true, true, true, true, true, true, true, true, false, false, true, false, false, false, false, false, false, false, false] rfl rfl (by kernel_rfl) (fun _ _ _ h => h) (Or.inl ⟨by rfl, ?_⟩) ?_ ?_
          rotate_left
          · intro w'
            go_simp
            with_reducible rfl
          rotate_left
          · simp only [Act.put, List.setIfInBounds_toArray, List.set_cons_zero, List.set_cons_succ, i64_w, i32_w]
            rfl
          refine take_ (i := 35) (N := some 100) (v := ?_) (a' := ?_) #[true, true, true, true, true, true, true, true, true, true, true, true, true, true, true, true, true, true, true, true, true, true, true, true, true, true, true, true, true, true, true, true, true, true, true, true, false, true, false, false, false, false, false, false, false, false] rfl rfl (by kernel_rfl) (fun _ _ _ h => h) (Or.inl ⟨by rfl, ?_⟩) hHeld ?_ ?_
          rotate_left
          · rintro w' ⟨s0, s1, s2, s3, s4, s5, s6, s7, s8⟩
            go_simp
            with_reducible rfl
          rotate_left
          · simp only [Act.put, List.setIfInBounds_toArray, List.set_cons_zero, List.set_cons_succ, i64_w, i32_w]
            rfl
          refine one_ (i := 36) (N := some 101) #[true, true, true, true, true, true, true, true, true, true, true, true, true, true, true, true, true, true, true, true, true, true, true, true, true, true, true, true, true, true, true, true, true, true, true, true, true, true, false, false, false, false, false, false, false, false] rfl rfl (by kernel_rfl) (by decide) (fun K hK => ?_)
          refine goes_ Tryd.func16 (by kernel_rfl) rfl #[encP p A c] (by rfl) rfl rfl (by simp only [List.map_toArray, List.map_cons, List.map_nil]; rfl) ?_
          with_reducible refine (H16.out _ (bst (below_drew HB5.out) hba)).mono ?_
          rintro e_ wb ⟨rfl, hbb⟩
          refine ⟨_, rfl, ?_⟩
          refine hK.out _ _ ⟨cells_later hbb hHeld.1, cells_later hbb hHeld.2.1, cells_later hbb hHeld.2.2.1, cells_later hbb hHeld.2.2.2.1, cells_later hbb hHeld.2.2.2.2.1, cells_later hbb hHeld.2.2.2.2.2.1, cells_later hbb hHeld.2.2.2.2.2.2.1, cells_later hbb hHeld.2.2.2.2.2.2.2.1, cells_later hbb hHeld.2.2.2.2.2.2.2.2⟩ (fun hHeld => ?_)
          clear hK K
          refine norm_ (a' := ?_) ?_ ?_
          rotate_left
          · show Act.put _ (some 101) _ = _
            simp only [Act.put, List.setIfInBounds_toArray, List.set_cons_zero, List.set_cons_succ, i64_w, i32_w]
            rfl
          refine pure_ (i := 38) (N := some 103) (v := ?_) (a' := ?_) #[true, true, true, true, true, true, true, true, true, true, true, true, true, true, true, true, true, true, true, true, true, true, true, true, true, true, true, true, true, true, true, true, true, true, true, true, true, true, true, false, false, false, false, false, false, false] rfl rfl (by kernel_rfl) (fun _ _ _ h => h) (Or.inl ⟨by rfl, ?_⟩) ?_ ?_
          rotate_left
          · intro w'
            go_simp
            with_reducible rfl
          rotate_left
          · simp only [Act.put, List.setIfInBounds_toArray, List.set_cons_zero, List.set_cons_succ, i64_w, i32_w]
            rfl
          refine pure_ (i := 39) (N := some 104) (v := ?_) (a' := ?_) #[true, true, true, true, true, true, true, true, true, true, true, true, true, true, true, true, true, true, true, true, true, true, true, true, true, true, true, true, true, true, true, true, true, true, true, true, true, true, true, true, false, false, false, false, false, false] rfl rfl (by kernel_rfl) (fun _ _ _ h => h) (Or.inl ⟨by rfl, ?_⟩) ?_ ?_
          rotate_left
          · intro w'
            go_simp
            with_reducible rfl
          rotate_left
          · simp only [Act.put, List.setIfInBounds_toArray, List.set_cons_zero, List.set_cons_succ, i64_w, i32_w]
            rfl
          refine pure_ (i := 40) (N := some 105) (v := ?_) (a' := ?_) #[true, true, true, true, true, true, true, true, true, true, true, true, true, true, true, true, true, true, true, true, true, true, true, true, true, true, true, true, true, true, true, true, true, true, true, true, true, true, true, true, true, false, false, false, false, false] rfl rfl (by kernel_rfl) (fun _ _ _ h => h) (Or.inl ⟨by rfl, ?_⟩) ?_ ?_
          rotate_left
          · intro w'
            go_simp
            with_reducible rfl
          rotate_left
          · simp only [Act.put, List.setIfInBounds_toArray, List.set_cons_zero, List.set_cons_succ, i64_w, i32_w]
            rfl
          refine take_ (i := 41) (N := some 106) (v := ?_) (a' := ?_) #[true, true, true, true, true, true, true, true, true, true, true, true, true, true, true, true, true, true, true, true, true, true, true, true, true, true, true, true, true, true, true, true, true, true, true, true, true, true, true, true, true, true, false, false, false, false] rfl rfl (by kernel_rfl) (fun _ _ _ h => h) (Or.inl ⟨by rfl, ?_⟩) hHeld ?_ ?_
          rotate_left
          · rintro w' ⟨s0, s1, s2, s3, s4, s5, s6, s7, s8⟩
            go_simp
            with_reducible rfl
          rotate_left
          · simp only [Act.put, List.setIfInBounds_toArray, List.set_cons_zero, List.set_cons_succ, i64_w, i32_w]
            rfl
          refine one_ (i := 42) (N := some 107) #[true, true, true, true, true, true, true, true, true, true, true, true, true, true, true, true, true, true, true, true, true, true, true, true, true, true, true, true, true, true, true, true, true, true, true, true, true, true, true, true, true, true, true, false, false, false] rfl rfl (by kernel_rfl) (by decide) (fun K hK => ?_)
          refine goes_ Tryd.func16 (by kernel_rfl) rfl #[encP p A c] (by rfl) rfl rfl (by simp only [List.map_toArray, List.map_cons, List.map_nil]; rfl) ?_
          with_reducible refine (H16.out _ (bst (bst (below_drew HB5.out) hba) hbb)).mono ?_
          rintro e_ wd ⟨rfl, hbd⟩
          refine ⟨_, rfl, ?_⟩
          refine hK.out _ _ ⟨cells_later hbd hHeld.1, cells_later hbd hHeld.2.1, cells_later hbd hHeld.2.2.1, cells_later hbd hHeld.2.2.2.1, cells_later hbd hHeld.2.2.2.2.1, cells_later hbd hHeld.2.2.2.2.2.1, cells_later hbd hHeld.2.2.2.2.2.2.1, cells_later hbd hHeld.2.2.2.2.2.2.2.1, cells_later hbd hHeld.2.2.2.2.2.2.2.2⟩ (fun hHeld => ?_)
          clear hK K
          refine norm_ (a' := ?_) ?_ ?_
          rotate_left
          · show Act.put _ (some 107) _ = _
            simp only [Act.put, List.setIfInBounds_toArray, List.set_cons_zero, List.set_cons_succ, i64_w, i32_w]
            rfl
          refine pure_ (i := 43) (N := some 108) (v := ?_) (a' := ?_) #[true, true, true, true, true, true, true, true, true, true, true, true, true, true, true, true, true, true, true, true, true, true, true, true, true, true, true, true, true, true, true, true, true, true, true, true, true, true, true, true, true, true, true, true, false, false] rfl rfl (by kernel_rfl) (fun _ _ _ h => h) (Or.inl ⟨by rfl, ?_⟩) ?_ ?_
          rotate_left
          · intro w'
            go_simp
            with_reducible rfl
          rotate_left
          · simp only [Act.put, List.setIfInBounds_toArray, List.set_cons_zero, List.set_cons_succ, i64_w, i32_w]
            rfl
          refine pure_ (i := 44) (N := some 109) (v := ?_) (a' := ?_) #[true, true, true, true, true, true, true, true, true, true, true, true, true, true, true, true, true, true, true, true, true, true, true, true, true, true, true, true, true, true, true, true, true, true, true, true, true, true, true, true, true, true, true, true, true, false] rfl rfl (by kernel_rfl) (fun _ _ _ h => h) (Or.inl ⟨by rfl, ?_⟩) ?_ ?_
          rotate_left
          · intro w'
            go_simp
            with_reducible rfl
          rotate_left
          · simp only [Act.put, List.setIfInBounds_toArray, List.set_cons_zero, List.set_cons_succ, i64_w, i32_w]
            rfl
          refine pure_ (i := 45) (N := some 10) (v := ?_) (a' := ?_) #[true, true, true, true, true, true, true, true, true, true, true, true, true, true, true, true, true, true, true, true, true, true, true, true, true, true, true, true, true, true, true, true, true, true, true, true, true, true, true, true, true, true, true, true, true, true] rfl rfl (by kernel_rfl) (fun _ _ _ h => h) (Or.inl ⟨by rfl, ?_⟩) ?_ ?_
          rotate_left
          · intro w'
            go_simp
            with_reducible rfl
          rotate_left
          · simp only [Act.put, List.setIfInBounds_toArray, List.set_cons_zero, List.set_cons_succ, i64_w, i32_w]
            rfl
          refine done_ (by kernel_rfl) ?_
          have HBe := Aside0.mk (bst (bst (bst (below_drew HB5.out) hba) hbb) hbd)
          clear hba hbb hbd
          go_wp2_with fail
          go_ret
          exact ⟨rfl, HBe.out⟩

end Go.Proofs.YtmnjaihalajhcaaDoor.QPlanConds
