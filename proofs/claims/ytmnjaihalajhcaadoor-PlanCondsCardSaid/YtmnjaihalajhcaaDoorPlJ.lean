import Derived.Test.YtmnjaihalajhcaaDoorPlI
/- Plan: walks by hand; the conditions stand in each theorem. -/
namespace Go.Proofs.YtmnjaihalajhcaaDoor.QPlanConds
open Go.RowKit Go.Proofs.YtmnjaihalajhcaaDoorW.PrintWords Go.Proofs.YtmnjaihalajhcaaDoorW.PrintLast Go.Proofs.YtmnjaihalajhcaaDoorW.PrintMore
attribute [local go_sem] max2_int min2_int max_two min_two max_three min_three max_four min_four
set_option linter.unusedVariables false
set_option linter.unusedSimpArgs false
theorem goesV_ {P : Program} {ops : Array Oper} {Q : Exit → Act → World → Prop} {oi : Oper} {N : Option Tmp} {a : Act} {w : World} {K : Act → World → Prop} {f : FuncId} {fn : Func} {xs : Array Operand} {ts : Array TypeId} (hf : P.funcs[f]? = some fn) (hname : (fn.name == "runtime.NumGoroutine") = false) (hb : fn.body.isSome = true) (args : Array Value)
    (hw : Region.wanted oi (yielded ops a.tmps) = true) (hN : oi.dst = N) {t : Tmp} {cb : Array Value} (hop : oi.op = .call { callee := .value (.tmp t), args := xs, argTypes := ts }) (hv : a.eval (.tmp t) = .func (.func f) #[] cb) (hargs : xs.map a.eval ++ cb = args)
    (h : Calls P f args w fun e w' => ∃ v, e = .returned v ∧ K (a.put N v) w') : if Region.wanted oi (yielded ops a.tmps) = true then Oper.wp P oi a w K Q else K (a.put N undef) w := by
  refine call_ f args hw hN ?_ h
  have he := enters_ hf hname hb args w
  unfold execOp
  simp [hop, resolve, Deferred.ofValue, invoke, hv, hargs, he]
theorem bst {w w1 w2 : World} (h : Below w.heap.size w w1) (h' : Below w1.heap.size w1 w2) : Below w.heap.size w w2 := h.trans (h'.mono h.size)
theorem two34 {w : World} {A : Option Addr} {l : List S34} (hl : l.length = 2) (h : k34.C w A l.length l) : ∃ ad A0 c0 A1 c1, A = some ad ∧ ((w.cell? ad = some (.int .i64 (rd_T34 l 0).f0) ∧ w.cell? ⟨ad.block, ad.off + 1, none⟩ = some (.int .i64 (rd_T34 l 0).f1) ∧ w.cell? ⟨ad.block, ad.off + 2, none⟩ = some (.int .i64 (rd_T34 l 0).f2) ∧ w.cell? ⟨ad.block, ad.off + 3, none⟩ = some (.int .i64 (rd_T34 l 0).f3) ∧ w.cell? ⟨ad.block, ad.off + 4, none⟩ = some (.bool (rd_T34 l 0).f4) ∧ w.cell? ⟨ad.block, ad.off + 5, none⟩ = some (.int .i64 (rd_T34 l 0).f5) ∧ w.cell? ⟨ad.block, ad.off + 6, none⟩ = some (.int .i64 (rd_T34 l 0).f6) ∧ w.cell? ⟨ad.block, ad.off + 7, none⟩ = some (.slice A0 (rd_T34 l 0).f7.length c0) ∧ w.cell? ⟨ad.block, ad.off + 8, none⟩ = some (.int .i64 (rd_T34 l 1).f0) ∧ w.cell? ⟨ad.block, ad.off + 8 + 1, none⟩ = some (.int .i64 (rd_T34 l 1).f1) ∧ w.cell? ⟨ad.block, ad.off + 8 + 2, none⟩ = some (.int .i64 (rd_T34 l 1).f2) ∧ w.cell? ⟨ad.block, ad.off + 8 + 3, none⟩ = some (.int .i64 (rd_T34 l 1).f3) ∧ w.cell? ⟨ad.block, ad.off + 8 + 4, none⟩ = some (.bool (rd_T34 l 1).f4) ∧ w.cell? ⟨ad.block, ad.off + 8 + 5, none⟩ = some (.int .i64 (rd_T34 l 1).f5) ∧ w.cell? ⟨ad.block, ad.off + 8 + 6, none⟩ = some (.int .i64 (rd_T34 l 1).f6) ∧ w.cell? ⟨ad.block, ad.off + 8 + 7, none⟩ = some (.slice A1 (rd_T34 l 1).f7.length c1)) ∧ (k34.C w A0 (rd_T34 l 0).f7.length (rd_T34 l 0).f7 ∧ k34.C w A1 (rd_T34 l 1).f7.length (rd_T34 l 1).f7)) := by
  obtain ⟨ad, A0, c0, e0, x0, x1, x2, x3, x4, x5, x6, x7, l0, g0⟩ := at_T34 h 0 (by omega) (by omega)
  obtain ⟨ad', A1, c1, e1, y0, y1, y2, y3, y4, y5, y6, y7, l1, g1⟩ := at_T34 h 1 (by omega) (by omega)
  rw [e0] at e1
  injection e1 with e1
  subst e1
  refine ⟨ad, A0, c0, A1, c1, e0, ⟨?_, g0, g1⟩⟩
  exact ⟨x0, x1, x2, x3, x4, x5, x6, x7, y0, y1, y2, y3, y4, y5, y6, y7⟩
theorem list_two {l : List S34} (hl : l.length = 2) : l = [rd_T34 l 0, rd_T34 l 1] := by
  match l, hl with
  | [x, y], _ => rfl
theorem mem_two {l : List S34} (hl : l.length = 2) : rd_T34 l 0 ∈ l ∧ rd_T34 l 1 ∈ l := by
  match l, hl with
  | [x, y], _ => exact ⟨List.mem_cons_self, List.mem_cons_of_mem _ List.mem_cons_self⟩
/- May a node stand so? -/
def badB (p : S34) : Bool := if p.f4 = true then (if joinB p = true then decide (p.f5 > p.f6) else true) else (if p.f5 = 0 then p.f6 != 0 else true)
def twoB (p : S34) : List Bool → Bool
  | [x, y] => if p.f1 = 0 then (if x = true then y else false) else false
  | _ => false
theorem twoB_ne {p : S34} {l : List Bool} (h : l.length ≠ 2) : twoB p l = false := by
  match l, h with
  | [], _ => rfl
  | [_], _ => rfl
  | [_, _], h => exact absurd rfl h
  | _ :: _ :: _ :: _, _ => rfl
def condB (L : List S46) (p : S34) : Bool := if p.f0 = 3 then p.f2 == 0 else joinsX L p.f2 (rd_T34 p.f7 0).f3 (rd_T34 p.f7 1).f3
def setB (p : S34) : Bool := if Go.bits .and .i64 (rd_T34 p.f7 0).f3 (rd_T34 p.f7 1).f3 = 0 then p.f3 == Go.bits .or .i64 (rd_T34 p.f7 0).f3 (rd_T34 p.f7 1).f3 else false
def tableB (core : Int) (p : S34) : Bool := if p.f1 ≥ 0 then (if p.f1 < core then p.f3 == wrap64 (2 ^ p.f1.toNat) else false) else false
def tempB (core : Int) (T : List Int) (p : S34) : Bool := if p.f3 ≥ 1 then (if p.f3 / 2 ^ core.toNat = 0 then (if p.f1 = 0 then (if p.f2 = 0 then hasX T p.f3 else false) else false) else false) else false
def nodeF (core : Int) (L : List S46) (T : List Int) (p : S34) (l : List Bool) : Bool :=
  if badB p = true then false
  else if joinB p = true then (if twoB p l = true then (if condB L p = true then setB p else false) else false)
  else if p.f7.length ≠ 0 then false
  else if p.f0 = 1 then (if tableB core p = true then p.f2 == 0 else false)
  else if p.f0 = 2 then (if tableB core p = true then (looksO L p.f2 p.f1).isSome else false)
  else if p.f0 = 6 then tempB core T p
  else false
def nodeX (core : Int) (L : List S46) (T : List Int) : S34 → Bool := foldP (nodeF core L T)
theorem nodeX_eq (core : Int) (L : List S46) (T : List Int) (p : S34) : nodeX core L T p = nodeF core L T p (p.f7.map (nodeX core L T)) := foldP_eq _ p
/- The world of the walk: the walk itself, the block, the lists made before. -/
structure Er (w0 w : World) (g gb gt : Nat) (b : BV) (L : List S46) (At : Option Addr) (T : List Int) (ct : Nat) : Prop where
  low : Below w0.heap.size w0 w
  hG : w.heap[g]? = some (.cells #[.func (.func 27) #[] #[pt g, pt gb, pt gt]] 55 (0, 0))
  hB : w.heap[gb]? = some (.cells b.cells 26 (0, 0))
  hT : w.heap[gt]? = some (.cells #[.slice At T.length ct] 22 (0, 0))
  n4 : b.n4 = L.length
  hL : k46.C w0 b.A4 b.n4 L
  hTs : (Kd.int .i64).C w0 At T.length T
  c1 : 1 ≤ b.core
  c4 : b.core ≤ 4
theorem Er.below {w0 w w' : World} {g gb gt : Nat} {b : BV} {L : List S46} {At : Option Addr} {T : List Int} {ct : Nat} (h : Er w0 w g gb gt b L At T ct) (hb : Below w.heap.size w w') : Er w0 w' g gb gt b L At T ct :=
  ⟨h.low.trans (hb.mono h.low.size), (hb.block g (blk_lt h.hG)).trans h.hG, (hb.block gb (blk_lt h.hB)).trans h.hB, (hb.block gt (blk_lt h.hT)).trans h.hT, h.n4, h.hL, h.hTs, h.c1, h.c4⟩
def Cr (b : BV) (L : List S46) (T : List Int) (p : S34) : Prop := ∀ (w0 w : World) (g gb gt : Nat) (At : Option Addr) (ct : Nat) (A : Option Addr) (c : Nat), Er w0 w g gb gt b L At T ct → k34.C w0 A p.f7.length p.f7 →
  Calls Tryd.prog 27 #[encP p A c, pt g, pt gb, pt gt] w fun e_ w' => e_ = .returned (.bool (nodeX b.core L T p)) ∧ Below w.heap.size w w'
theorem join28_ {p : S34} {A : Option Addr} {c : Nat} {r : Bool} (h : joinB p = r) (w : World) : Calls Tryd.prog 28 #[encP p A c] w fun e_ w' => e_ = .returned (.bool r) ∧ Below w.heap.size w w' := by
  rw [← h]
  exact join28 p A c w
set_option maxRecDepth 8000 in
set_option maxHeartbeats 32000000 in
theorem node27 (b : BV) (L : List S46) (T : List Int) : ∀ p, Cr b L T p := by
  refine ind34 ?_
  intro p ih w0 w g gb gt At ct A c hE hC
  have HE := Aside0.mk hE
  have HC := Aside0.mk hC
  have HIH := Aside0.mk ih
  clear hE hC ih
  have hu34 := Tryd.underlying34
  have hu26 := Tryd.underlying26
  obtain ⟨NX, hNX⟩ : ∃ r, r = nodeX b.core L T p := ⟨_, rfl⟩
  have HNX : Aside0 (NX = nodeF b.core L T p (p.f7.map (nodeX b.core L T))) := ⟨by rw [hNX, nodeX_eq]⟩
  rw [← hNX]
  clear hNX
  go_enter Tryd.func27, Tryd.ntmps27
  go_upto_region 1 with (((with_reducible refine gate_dst (N := 4) rfl ?_); refine box_event ?hg (N := 4) ?hd (cs := cellsP p (.slice A p.f7.length c)) (t := 34) ?hr ?_; (case hd => rfl); (case hg => rfl); (case hr => unfold cellsP encP; first | (go_simp; done) | (go_simp; rfl)); intro gp hg1 w1 hbox hb; have BK := Aside0.mk hbox; have HB := Aside0.mk hb; have k0 := (blk_cell BK.out 0).trans (rfl : _ = some (Value.int .i64 p.f0)); have k1 := (blk_cell BK.out 1).trans (rfl : _ = some (Value.int .i64 p.f1)); have k2 := (blk_cell BK.out 2).trans (rfl : _ = some (Value.int .i64 p.f2)); have k3 := (blk_cell BK.out 3).trans (rfl : _ = some (Value.int .i64 p.f3)); have k4 := (blk_cell BK.out 4).trans (rfl : _ = some (Value.bool p.f4)); have k5 := (blk_cell BK.out 5).trans (rfl : _ = some (Value.int .i64 p.f5)); have k6 := (blk_cell BK.out 6).trans (rfl : _ = some (Value.int .i64 p.f6)); have k7 := (blk_cell BK.out 7).trans (rfl : _ = some (Value.slice A p.f7.length c)); clear hbox hb hg1))
  go_cut [39] (fun s39 wx => ∃ bb : Bool, s39 = .bool bb ∧ Aside0 (badB p = bb) ∧ Aside0 (Below w1.heap.size w1 wx))
  case first =>
    as_aux_lemma =>
      rcases Bool.eq_false_or_eq_true p.f4 with q4 | q4
      · rw [q4] at k4
        rcases Bool.eq_false_or_eq_true (joinB p) with qj | qj
        · have HJ := Aside0.mk (join28_ (A := A) (c := c) qj)
          unfold encP at HJ
          rw [q4] at HJ
          rcases Bool.eq_false_or_eq_true (decide (p.f5 > p.f6)) with q5 | q5
          · have HBd : Aside0 (badB p = true) := ⟨by unfold badB; rw [if_pos q4, if_pos qj, q5]⟩
            clear qj
            go_wp2_with ((go_at_call 28; refine (HJ.out _).mono ?_; rintro e_ w2 ⟨rfl, hb⟩; have HB2 := Aside0.mk hb; have BK2 := Aside0.mk ((hb.block gp (blk_lt BK.out)).trans BK.out); clear hb k0 k1 k2 k3 k4 k5 k6 k7; have k0 := (blk_cell BK2.out 0).trans (rfl : _ = some (Value.int .i64 p.f0)); have k1 := (blk_cell BK2.out 1).trans (rfl : _ = some (Value.int .i64 p.f1)); have k2 := (blk_cell BK2.out 2).trans (rfl : _ = some (Value.int .i64 p.f2)); have k3 := (blk_cell BK2.out 3).trans (rfl : _ = some (Value.int .i64 p.f3)); have k4 := (blk_cell BK2.out 4).trans (rfl : _ = some (Value.bool p.f4)); rw [q4] at k4; have k5 := (blk_cell BK2.out 5).trans (rfl : _ = some (Value.int .i64 p.f5)); have k6 := (blk_cell BK2.out 6).trans (rfl : _ = some (Value.int .i64 p.f6)); have k7 := (blk_cell BK2.out 7).trans (rfl : _ = some (Value.slice A p.f7.length c))))
            go_meet
            exact ⟨_, rfl, HBd, HB2⟩
          · have HBd : Aside0 (badB p = false) := ⟨by unfold badB; rw [if_pos q4, if_pos qj, q5]⟩
            clear qj
            go_wp2_with ((go_at_call 28; refine (HJ.out _).mono ?_; rintro e_ w2 ⟨rfl, hb⟩; have HB2 := Aside0.mk hb; have BK2 := Aside0.mk ((hb.block gp (blk_lt BK.out)).trans BK.out); clear hb k0 k1 k2 k3 k4 k5 k6 k7; have k0 := (blk_cell BK2.out 0).trans (rfl : _ = some (Value.int .i64 p.f0)); have k1 := (blk_cell BK2.out 1).trans (rfl : _ = some (Value.int .i64 p.f1)); have k2 := (blk_cell BK2.out 2).trans (rfl : _ = some (Value.int .i64 p.f2)); have k3 := (blk_cell BK2.out 3).trans (rfl : _ = some (Value.int .i64 p.f3)); have k4 := (blk_cell BK2.out 4).trans (rfl : _ = some (Value.bool p.f4)); rw [q4] at k4; have k5 := (blk_cell BK2.out 5).trans (rfl : _ = some (Value.int .i64 p.f5)); have k6 := (blk_cell BK2.out 6).trans (rfl : _ = some (Value.int .i64 p.f6)); have k7 := (blk_cell BK2.out 7).trans (rfl : _ = some (Value.slice A p.f7.length c))))
            go_meet
            exact ⟨_, rfl, HBd, HB2⟩
        · have HJ := Aside0.mk (join28_ (A := A) (c := c) qj)
          unfold encP at HJ
          rw [q4] at HJ
          have HBd : Aside0 (badB p = true) := ⟨by unfold badB; rw [if_pos q4, if_neg (by rw [qj]; decide)]⟩
          clear qj
          go_wp2_with ((go_at_call 28; refine (HJ.out _).mono ?_; rintro e_ w2 ⟨rfl, hb⟩; have HB2 := Aside0.mk hb; have BK2 := Aside0.mk ((hb.block gp (blk_lt BK.out)).trans BK.out); clear hb k0 k1 k2 k3 k4 k5 k6 k7; have k0 := (blk_cell BK2.out 0).trans (rfl : _ = some (Value.int .i64 p.f0)); have k1 := (blk_cell BK2.out 1).trans (rfl : _ = some (Value.int .i64 p.f1)); have k2 := (blk_cell BK2.out 2).trans (rfl : _ = some (Value.int .i64 p.f2)); have k3 := (blk_cell BK2.out 3).trans (rfl : _ = some (Value.int .i64 p.f3)); have k4 := (blk_cell BK2.out 4).trans (rfl : _ = some (Value.bool p.f4)); rw [q4] at k4; have k5 := (blk_cell BK2.out 5).trans (rfl : _ = some (Value.int .i64 p.f5)); have k6 := (blk_cell BK2.out 6).trans (rfl : _ = some (Value.int .i64 p.f6)); have k7 := (blk_cell BK2.out 7).trans (rfl : _ = some (Value.slice A p.f7.length c))))
          go_meet
          exact ⟨_, rfl, HBd, HB2⟩
      · rw [q4] at k4
        rcases Bool.eq_false_or_eq_true (p.f5 != 0) with q5 | q5
        · have HBd : Aside0 (badB p = true) := ⟨by unfold badB; rw [if_neg (by rw [q4]; decide), if_neg (bne_iff_ne.1 q5)]⟩
          go_wp2_with fail
          go_meet
          exact ⟨_, rfl, HBd, ⟨Below.refl _ _⟩⟩
        · have HBd : Aside0 (badB p = (p.f6 != 0)) := ⟨by unfold badB; rw [if_neg (by rw [q4]; decide), if_pos (by simpa using q5)]⟩
          go_wp2_with fail
          go_meet
          exact ⟨_, rfl, HBd, ⟨Below.refl _ _⟩⟩
  case rest =>
  obtain ⟨bb, rfl, HBD, HW⟩ := hcut
  obtain ⟨w2, hw2⟩ : ∃ x, x = wc := ⟨_, rfl⟩
  subst hw2
  have BK2 := Aside0.mk ((HW.out.block gp (blk_lt BK.out)).trans BK.out)
  have HB2 := Aside0.mk (bst HB.out HW.out)
  clear k0 k1 k2 k3 k4 k5 k6 k7
  have k0 := (blk_cell BK2.out 0).trans (rfl : _ = some (Value.int .i64 p.f0))
  have k1 := (blk_cell BK2.out 1).trans (rfl : _ = some (Value.int .i64 p.f1))
  have k2 := (blk_cell BK2.out 2).trans (rfl : _ = some (Value.int .i64 p.f2))
  have k3 := (blk_cell BK2.out 3).trans (rfl : _ = some (Value.int .i64 p.f3))
  have k4 := (blk_cell BK2.out 4).trans (rfl : _ = some (Value.bool p.f4))
  have k5 := (blk_cell BK2.out 5).trans (rfl : _ = some (Value.int .i64 p.f5))
  have k6 := (blk_cell BK2.out 6).trans (rfl : _ = some (Value.int .i64 p.f6))
  have k7 := (blk_cell BK2.out 7).trans (rfl : _ = some (Value.slice A p.f7.length c))
  rcases Bool.eq_false_or_eq_true bb with qb | qb <;> subst qb <;> have qb := HBD.out <;> clear HBD <;> replace qb := Aside0.mk qb
  · have HN : Aside0 (NX = false) := ⟨by rw [HNX.out]; unfold nodeF; rw [if_pos qb.out]⟩
    go_wp2
    go_ret
    rw [HN.out]
    exact ⟨rfl, HB2.out⟩
  · have HNB : Aside0 (NX = if joinB p = true then (if twoB p (p.f7.map (nodeX b.core L T)) = true then (if condB L p = true then setB p else false) else false)
        else if p.f7.length ≠ 0 then false
        else if p.f0 = 1 then (if tableB b.core p = true then p.f2 == 0 else false)
        else if p.f0 = 2 then (if tableB b.core p = true then (looksO L p.f2 p.f1).isSome else false)
        else if p.f0 = 6 then tempB b.core T p
        else false) := ⟨by rw [HNX.out]; unfold nodeF; rw [if_neg (by rw [qb.out]; decide)]⟩
    rcases Bool.eq_false_or_eq_true (joinB p) with qj | qj
    · have HJ := Aside0.mk (join28_ (A := A) (c := c) qj)
      have HNJ : Aside0 (NX = if twoB p (p.f7.map (nodeX b.core L T)) = true then (if condB L p = true then setB p else false) else false) := ⟨by rw [HNB.out, if_pos qj]⟩
      clear qj
      go_upto_region 4 with (go_at_call 28; refine (HJ.out _).mono ?_; rintro e_ w3 ⟨rfl, hb3⟩; have HB3 := Aside0.mk (bst HB2.out hb3); have BK3 := Aside0.mk ((hb3.block gp (blk_lt BK2.out)).trans BK2.out); have HE3 := Aside0.mk ((HE.out.below HB2.out).below hb3); clear hb3 k0 k1 k2 k3 k4 k5 k6 k7)
      by_cases h2 : p.f7.length = 2
      · have hlen : ((p.f7.length : Int) != 2) = false := by rw [h2]; rfl
        have HL2 := Aside0.mk h2
        have hl0 : 0 < p.f7.length := by rw [h2]; decide
        have hl1 : (1 : Int) < (p.f7.length : Int) := by rw [h2]; decide
        obtain ⟨ad, A0, c0, A1, c1, hA, hT, hC0, hC1⟩ := two34 h2 HC.out
        subst hA
        have HTW : Aside0 (twoB p (p.f7.map (nodeX b.core L T)) = if p.f1 = 0 then (if nodeX b.core L T (rd_T34 p.f7 0) = true then nodeX b.core L T (rd_T34 p.f7 1) else false) else false) := ⟨congrArg (fun l => twoB p (l.map (nodeX b.core L T))) (list_two h2)⟩
        have HCD : Aside0 (condB L p = if p.f0 = 3 then p.f2 == 0 else joinsX L p.f2 (rd_T34 p.f7 0).f3 (rd_T34 p.f7 1).f3) := ⟨rfl⟩
        have HSB : Aside0 (setB p = if Go.bits .and .i64 (rd_T34 p.f7 0).f3 (rd_T34 p.f7 1).f3 = 0 then p.f3 == Go.bits .or .i64 (rd_T34 p.f7 0).f3 (rd_T34 p.f7 1).f3 else false) := ⟨rfl⟩
        have HI0 := Aside0.mk (HIH.out _ (mem_two h2).1)
        have HI1 := Aside0.mk (HIH.out _ (mem_two h2).2)
        have HC0 := Aside0.mk hC0
        have HC1 := Aside0.mk hC1
        have HL3 : Aside0 (Below w0.heap.size w0 w3.drew) := ⟨below_drew HE3.out.low⟩
        have HB3d : Aside0 (Below w.heap.size w w3.drew) := ⟨below_drew HB3.out⟩
        have m0_ : Aside0 (w3.drew.cell? ⟨gp, 7, none⟩ = some (.slice (some ad) p.f7.length c)) := ⟨(blk_cell (blk_drew BK3.out) 7).trans rfl⟩
        have m1_ : Aside0 (w3.drew.cell? ⟨gp, 1, none⟩ = some (.int .i64 p.f1)) := ⟨(blk_cell (blk_drew BK3.out) 1).trans rfl⟩
        have m2_ : Aside0 (w3.drew.cell? ⟨g, 0, none⟩ = some (.func (.func 27) #[] #[pt g, pt gb, pt gt])) := ⟨(blk_cell (blk_drew HE3.out.hG) 0).trans rfl⟩
        obtain ⟨z0_, z1_, z2_, z3_, z4_, z5_, z6_, z7_, z8_, z9_, z10_, z11_, z12_, z13_, z14_, z15_⟩ := hT
        have m3_ := Aside0.mk (cells_later HL3.out z0_)
        have m4_ := Aside0.mk (cells_later HL3.out z1_)
        have m5_ := Aside0.mk (cells_later HL3.out z2_)
        have m6_ := Aside0.mk (cells_later HL3.out z3_)
        have m7_ := Aside0.mk (cells_later HL3.out z4_)
        have m8_ := Aside0.mk (cells_later HL3.out z5_)
        have m9_ := Aside0.mk (cells_later HL3.out z6_)
        have m10_ := Aside0.mk (cells_later HL3.out z7_)
        have m11_ := Aside0.mk (cells_later HL3.out z8_)
        have m12_ := Aside0.mk (cells_later HL3.out z9_)
        have m13_ := Aside0.mk (cells_later HL3.out z10_)
        have m14_ := Aside0.mk (cells_later HL3.out z11_)
        have m15_ := Aside0.mk (cells_later HL3.out z12_)
        have m16_ := Aside0.mk (cells_later HL3.out z13_)
        have m17_ := Aside0.mk (cells_later HL3.out z14_)
        have m18_ := Aside0.mk (cells_later HL3.out z15_)
        clear z0_ z1_ z2_ z3_ z4_ z5_ z6_ z7_ z8_ z9_ z10_ z11_ z12_ z13_ z14_ z15_ hC0 hC1 h2
        generalize rd_T34 p.f7 0 = x at *
        generalize rd_T34 p.f7 1 = y at *
        rcases Bool.eq_false_or_eq_true (p.f1 != 0) with q1 | q1
        · have HN : Aside0 (NX = false) := ⟨by rw [HNJ.out, HTW.out, if_neg (bne_iff_ne.1 q1)]; rfl⟩
          refine start_ (n := 27) (S := fun w' => w'.cell? ⟨gp, 7, none⟩ = some (.slice (some ad) p.f7.length c) ∧ w'.cell? ⟨gp, 1, none⟩ = some (.int .i64 p.f1)) (ds := []) #[false, false, false, false, false, false, false, false, false, false, false, false, false, false, false, false, false, false, false, false, false, false, false, false, false, false, false] (by kernel_rfl) rfl rfl ⟨m0_.out, m1_.out⟩ (fun hHeld => ?_)
          refine pure_ (i := 0) (N := some 42) (v := ?_) (a' := ?_) #[true, false, false, false, false, false, false, false, false, false, false, false, false, false, false, false, false, false, false, false, false, false, false, false, false, false, false] rfl rfl (by kernel_rfl) (fun _ _ _ h => h) (Or.inl ⟨by rfl, ?_⟩) ?_ ?_
          rotate_left
          · intro w'
            go_simp
            with_reducible rfl
          rotate_left
          · simp only [Act.put, List.setIfInBounds_toArray, List.set_cons_zero, List.set_cons_succ, i64_w, i32_w]
            rfl
          refine take_ (i := 1) (N := some 43) (v := ?_) (a' := ?_) #[true, true, false, false, false, false, false, false, false, false, false, false, false, false, false, false, false, false, false, false, false, false, false, false, false, false, false] rfl rfl (by kernel_rfl) (fun _ _ _ h => h) (Or.inl ⟨by rfl, ?_⟩) hHeld ?_ ?_
          rotate_left
          · rintro w' ⟨s0, s1⟩
            go_simp
            with_reducible rfl
          rotate_left
          · simp only [Act.put, List.setIfInBounds_toArray, List.set_cons_zero, List.set_cons_succ, i64_w, i32_w]
            rfl
          refine pure_ (i := 2) (N := some 44) (v := ?_) (a' := ?_) #[true, true, true, false, false, false, false, false, false, false, false, false, false, false, false, false, false, false, false, false, false, false, false, false, false, false, false] rfl rfl (by kernel_rfl) (fun _ _ _ h => h) (Or.inl ⟨by rfl, ?_⟩) ?_ ?_
          rotate_left
          · intro w'
            go_simp
            with_reducible rfl
          rotate_left
          · simp only [Act.put, List.setIfInBounds_toArray, List.set_cons_zero, List.set_cons_succ, i64_w, i32_w]
            rfl
          refine pure_ (i := 3) (N := some 45) (v := ?_) (a' := ?_) #[true, true, true, true, false, false, false, false, false, false, false, false, false, false, false, false, false, false, false, false, false, false, false, false, false, false, false] rfl rfl (by kernel_rfl) (fun _ _ _ h => h) (Or.inl ⟨by rfl, ?_⟩) ?_ ?_
          rotate_left
          · intro w'
            go_simp
            with_reducible rfl
          rotate_left
          · simp only [Act.put, List.setIfInBounds_toArray, List.set_cons_zero, List.set_cons_succ, i64_w, i32_w]
            rfl
          refine pure_ (i := 4) (N := some 46) (v := ?_) (a' := ?_) #[true, true, true, true, true, false, false, false, false, false, false, false, false, false, false, false, false, false, false, false, false, false, false, false, false, false, false] rfl rfl (by kernel_rfl) (fun _ _ _ h => h) (Or.inl ⟨by rfl, ?_⟩) ?_ ?_
          rotate_left
          · intro w'
            go_simp
            with_reducible rfl
          rotate_left
          · simp only [Act.put, List.setIfInBounds_toArray, List.set_cons_zero, List.set_cons_succ, i64_w, i32_w]
            rfl
          refine pure_ (i := 5) (N := some 47) (v := ?_) (a' := ?_) #[true, true, true, true, true, true, false, false, false, false, false, false, false, false, false, false, false, false, false, false, false, false, false, false, false, false, false] rfl rfl (by kernel_rfl) (fun _ _ _ h => h) (Or.inl ⟨by rfl, ?_⟩) ?_ ?_
          rotate_left
          · intro w'
            go_simp
            with_reducible rfl
          rotate_left
          · simp only [Act.put, List.setIfInBounds_toArray, List.set_cons_zero, List.set_cons_succ, i64_w, i32_w]
            rfl
          refine take_ (i := 6) (N := some 48) (v := ?_) (a' := ?_) #[true, true, true, true, true, true, true, false, false, false, false, false, false, false, false, false, false, false, false, false, false, false, false, false, false, false, false] rfl rfl (by kernel_rfl) (fun _ _ _ h => h) (Or.inl ⟨by rfl, ?_⟩) hHeld ?_ ?_
          rotate_left
          · rintro w' ⟨s0, s1⟩
            go_simp
            with_reducible rfl
          rotate_left
          · simp only [Act.put, List.setIfInBounds_toArray, List.set_cons_zero, List.set_cons_succ, i64_w, i32_w]
            rfl
          refine pure_ (i := 7) (N := some 49) (v := ?_) (a' := ?_) #[true, true, true, true, true, true, true, true, false, false, false, false, false, false, false, false, false, false, false, false, false, false, false, false, false, false, false] rfl rfl (by kernel_rfl) (fun _ _ _ h => h) (Or.inl ⟨by rfl, ?_⟩) ?_ ?_
          rotate_left
          · intro w'
            go_simp
            with_reducible rfl
          rotate_left
          · simp only [Act.put, List.setIfInBounds_toArray, List.set_cons_zero, List.set_cons_succ, i64_w, i32_w]
            rfl
          refine pure_ (i := 8) (N := some 50) (v := ?_) (a' := ?_) #[true, true, true, true, true, true, true, true, true, false, false, false, false, false, false, false, false, false, false, false, false, false, false, false, false, false, false] rfl rfl (by kernel_rfl) (fun _ _ _ h => h) (Or.inl ⟨by rfl, ?_⟩) ?_ ?_
          rotate_left
          · intro w'
            go_simp
            with_reducible rfl
          rotate_left
          · simp only [Act.put, List.setIfInBounds_toArray, List.set_cons_zero, List.set_cons_succ, i64_w, i32_w]
            rfl
          refine pure_ (i := 9) (N := some 51) (v := ?_) (a' := ?_) #[true, true, true, true, true, true, true, true, true, true, false, false, false, false, false, false, false, false, false, false, false, false, false, false, false, false, false] rfl rfl (by kernel_rfl) (fun _ _ _ h => h) (Or.inl ⟨by rfl, ?_⟩) ?_ ?_
          rotate_left
          · intro w'
            go_simp
            with_reducible rfl
          rotate_left
          · simp only [Act.put, List.setIfInBounds_toArray, List.set_cons_zero, List.set_cons_succ, i64_w, i32_w]
            rfl
          refine pure_ (i := 10) (N := some 52) (v := undef) (a' := ?_) #[true, true, true, true, true, true, true, true, true, true, true, false, false, false, false, false, false, false, false, false, false, false, false, false, false, false, false] rfl rfl (by kernel_rfl) (fun _ _ _ h => h) (Or.inr ⟨by rfl, rfl⟩) ?_ ?_
          rotate_left
          · simp only [Act.put, List.setIfInBounds_toArray, List.set_cons_zero, List.set_cons_succ, i64_w, i32_w]
            rfl
          refine pure_ (i := 11) (N := some 53) (v := undef) (a' := ?_) #[true, true, true, true, true, true, true, true, true, true, true, true, false, false, false, false, false, false, false, false, false, false, false, false, false, false, false] rfl rfl (by kernel_rfl) (fun _ _ _ h => h) (Or.inr ⟨by rfl, rfl⟩) ?_ ?_
          rotate_left
          · simp only [Act.put, List.setIfInBounds_toArray, List.set_cons_zero, List.set_cons_succ, i64_w, i32_w]
            rfl
          refine pure_ (i := 12) (N := some 54) (v := undef) (a' := ?_) #[true, true, true, true, true, true, true, true, true, true, true, true, true, false, false, false, false, false, false, false, false, false, false, false, false, false, false] rfl rfl (by kernel_rfl) (fun _ _ _ h => h) (Or.inr ⟨by rfl, rfl⟩) ?_ ?_
          rotate_left
          · simp only [Act.put, List.setIfInBounds_toArray, List.set_cons_zero, List.set_cons_succ, i64_w, i32_w]
            rfl
          refine pure_ (i := 13) (N := some 55) (v := undef) (a' := ?_) #[true, true, true, true, true, true, true, true, true, true, true, true, true, true, false, false, false, false, false, false, false, false, false, false, false, false, false] rfl rfl (by kernel_rfl) (fun _ _ _ h => h) (Or.inr ⟨by rfl, rfl⟩) ?_ ?_
          rotate_left
          · simp only [Act.put, List.setIfInBounds_toArray, List.set_cons_zero, List.set_cons_succ, i64_w, i32_w]
            rfl
          refine pure_ (i := 14) (N := some 56) (v := undef) (a' := ?_) #[true, true, true, true, true, true, true, true, true, true, true, true, true, true, true, false, false, false, false, false, false, false, false, false, false, false, false] rfl rfl (by kernel_rfl) (fun _ _ _ h => h) (Or.inr ⟨by rfl, rfl⟩) ?_ ?_
          rotate_left
          · simp only [Act.put, List.setIfInBounds_toArray, List.set_cons_zero, List.set_cons_succ, i64_w, i32_w]
            rfl
          refine pure_ (i := 15) (N := some 57) (v := undef) (a' := ?_) #[true, true, true, true, true, true, true, true, true, true, true, true, true, true, true, true, false, false, false, false, false, false, false, false, false, false, false] rfl rfl (by kernel_rfl) (fun _ _ _ h => h) (Or.inr ⟨by rfl, rfl⟩) ?_ ?_
          rotate_left
          · simp only [Act.put, List.setIfInBounds_toArray, List.set_cons_zero, List.set_cons_succ, i64_w, i32_w]
            rfl
          refine pure_ (i := 16) (N := some 58) (v := undef) (a' := ?_) #[true, true, true, true, true, true, true, true, true, true, true, true, true, true, true, true, true, false, false, false, false, false, false, false, false, false, false] rfl rfl (by kernel_rfl) (fun _ _ _ h => h) (Or.inr ⟨by rfl, rfl⟩) ?_ ?_
          rotate_left
          · simp only [Act.put, List.setIfInBounds_toArray, List.set_cons_zero, List.set_cons_succ, i64_w, i32_w]
            rfl
          refine pure_ (i := 17) (N := some 59) (v := ?_) (a' := ?_) #[true, true, true, true, true, true, true, true, true, true, true, true, true, true, true, true, true, true, false, false, false, false, false, false, false, false, false] rfl rfl (by kernel_rfl) (fun _ _ _ h => h) (Or.inl ⟨by rfl, ?_⟩) ?_ ?_
          rotate_left
          · intro w'
            go_simp
            with_reducible rfl
          rotate_left
          · simp only [Act.put, List.setIfInBounds_toArray, List.set_cons_zero, List.set_cons_succ, i64_w, i32_w]
            rfl
          refine pure_ (i := 18) (N := some 60) (v := ?_) (a' := ?_) #[true, true, true, true, true, true, true, true, true, true, true, true, true, true, true, true, true, true, true, false, false, false, false, false, false, false, false] rfl rfl (by kernel_rfl) (fun _ _ _ h => h) (Or.inl ⟨by rfl, ?_⟩) ?_ ?_
          rotate_left
          · intro w'
            go_simp
            with_reducible rfl
          rotate_left
          · simp only [Act.put, List.setIfInBounds_toArray, List.set_cons_zero, List.set_cons_succ, i64_w, i32_w]
            rfl
          refine pure_ (i := 19) (N := some 61) (v := undef) (a' := ?_) #[true, true, true, true, true, true, true, true, true, true, true, true, true, true, true, true, true, true, true, true, false, false, false, false, false, false, false] rfl rfl (by kernel_rfl) (fun _ _ _ h => h) (Or.inr ⟨by rfl, rfl⟩) ?_ ?_
          rotate_left
          · simp only [Act.put, List.setIfInBounds_toArray, List.set_cons_zero, List.set_cons_succ, i64_w, i32_w]
            rfl
          refine pure_ (i := 20) (N := some 62) (v := undef) (a' := ?_) #[true, true, true, true, true, true, true, true, true, true, true, true, true, true, true, true, true, true, true, true, true, false, false, false, false, false, false] rfl rfl (by kernel_rfl) (fun _ _ _ h => h) (Or.inr ⟨by rfl, rfl⟩) ?_ ?_
          rotate_left
          · simp only [Act.put, List.setIfInBounds_toArray, List.set_cons_zero, List.set_cons_succ, i64_w, i32_w]
            rfl
          refine pure_ (i := 21) (N := some 63) (v := undef) (a' := ?_) #[true, true, true, true, true, true, true, true, true, true, true, true, true, true, true, true, true, true, true, true, true, true, false, false, false, false, false] rfl rfl (by kernel_rfl) (fun _ _ _ h => h) (Or.inr ⟨by rfl, rfl⟩) ?_ ?_
          rotate_left
          · simp only [Act.put, List.setIfInBounds_toArray, List.set_cons_zero, List.set_cons_succ, i64_w, i32_w]
            rfl
          refine pure_ (i := 22) (N := some 64) (v := undef) (a' := ?_) #[true, true, true, true, true, true, true, true, true, true, true, true, true, true, true, true, true, true, true, true, true, true, true, false, false, false, false] rfl rfl (by kernel_rfl) (fun _ _ _ h => h) (Or.inr ⟨by rfl, rfl⟩) ?_ ?_
          rotate_left
          · simp only [Act.put, List.setIfInBounds_toArray, List.set_cons_zero, List.set_cons_succ, i64_w, i32_w]
            rfl
          refine pure_ (i := 23) (N := some 65) (v := undef) (a' := ?_) #[true, true, true, true, true, true, true, true, true, true, true, true, true, true, true, true, true, true, true, true, true, true, true, true, false, false, false] rfl rfl (by kernel_rfl) (fun _ _ _ h => h) (Or.inr ⟨by rfl, rfl⟩) ?_ ?_
          rotate_left
          · simp only [Act.put, List.setIfInBounds_toArray, List.set_cons_zero, List.set_cons_succ, i64_w, i32_w]
            rfl
          refine pure_ (i := 24) (N := some 66) (v := undef) (a' := ?_) #[true, true, true, true, true, true, true, true, true, true, true, true, true, true, true, true, true, true, true, true, true, true, true, true, true, false, false] rfl rfl (by kernel_rfl) (fun _ _ _ h => h) (Or.inr ⟨by rfl, rfl⟩) ?_ ?_
          rotate_left
          · simp only [Act.put, List.setIfInBounds_toArray, List.set_cons_zero, List.set_cons_succ, i64_w, i32_w]
            rfl
          refine pure_ (i := 25) (N := some 67) (v := undef) (a' := ?_) #[true, true, true, true, true, true, true, true, true, true, true, true, true, true, true, true, true, true, true, true, true, true, true, true, true, true, false] rfl rfl (by kernel_rfl) (fun _ _ _ h => h) (Or.inr ⟨by rfl, rfl⟩) ?_ ?_
          rotate_left
          · simp only [Act.put, List.setIfInBounds_toArray, List.set_cons_zero, List.set_cons_succ, i64_w, i32_w]
            rfl
          refine pure_ (i := 26) (N := some 68) (v := ?_) (a' := ?_) #[true, true, true, true, true, true, true, true, true, true, true, true, true, true, true, true, true, true, true, true, true, true, true, true, true, true, true] rfl rfl (by kernel_rfl) (fun _ _ _ h => h) (Or.inl ⟨by rfl, ?_⟩) ?_ ?_
          rotate_left
          · intro w'
            go_simp
            with_reducible rfl
          rotate_left
          · simp only [Act.put, List.setIfInBounds_toArray, List.set_cons_zero, List.set_cons_succ, i64_w, i32_w]
            rfl
          refine done_ (by kernel_rfl) ?_
          go_wp2
          go_ret
          rw [HN.out]
          exact ⟨rfl, HB3d.out⟩
        · have HTW1 : Aside0 (twoB p (p.f7.map (nodeX b.core L T)) = if nodeX b.core L T x = true then nodeX b.core L T y else false) := ⟨by rw [HTW.out, if_pos (by simpa using q1)]⟩
          have HDR := Aside0.mk (HE3.out.below (below_drew (Below.refl w3.heap.size w3)))
          obtain ⟨n0, hn0⟩ : ∃ v, v = nodeX b.core L T x := ⟨_, rfl⟩
          obtain ⟨n1, hn1⟩ : ∃ v, v = nodeX b.core L T y := ⟨_, rfl⟩
          have HX0 : Aside0 (∀ w', Below w3.drew.heap.size w3.drew w' → Calls Tryd.prog 27 #[encP x A0 c0, pt g, pt gb, pt gt] w' fun e_ w'' => e_ = .returned (.bool n0) ∧ Below w'.heap.size w' w'') := ⟨fun w' hb => by rw [hn0]; exact HI0.out w0 w' g gb gt At ct A0 c0 (HDR.out.below hb) HC0.out⟩
          have HX1 : Aside0 (∀ w', Below w3.drew.heap.size w3.drew w' → Calls Tryd.prog 27 #[encP y A1 c1, pt g, pt gb, pt gt] w' fun e_ w'' => e_ = .returned (.bool n1) ∧ Below w'.heap.size w' w'') := ⟨fun w' hb => by rw [hn1]; exact HI1.out w0 w' g gb gt At ct A1 c1 (HDR.out.below hb) HC1.out⟩
          rw [← hn0, ← hn1] at HTW1
          clear hn0 hn1 HI0 HI1 HTW
          rcases n0 with _ | _
          · have HN : Aside0 (NX = false) := ⟨by rw [HNJ.out, HTW1.out]; rfl⟩
            refine start_ (n := 27) (S := fun w' => w'.cell? ⟨gp, 7, none⟩ = some (.slice (some ad) p.f7.length c) ∧ w'.cell? ⟨gp, 1, none⟩ = some (.int .i64 p.f1) ∧ w'.cell? ⟨g, 0, none⟩ = some (.func (.func 27) #[] #[pt g, pt gb, pt gt]) ∧ w'.cell? ad = some (.int .i64 x.f0) ∧ w'.cell? ⟨ad.block, ad.off + 1, none⟩ = some (.int .i64 x.f1) ∧ w'.cell? ⟨ad.block, ad.off + 2, none⟩ = some (.int .i64 x.f2) ∧ w'.cell? ⟨ad.block, ad.off + 3, none⟩ = some (.int .i64 x.f3) ∧ w'.cell? ⟨ad.block, ad.off + 4, none⟩ = some (.bool x.f4) ∧ w'.cell? ⟨ad.block, ad.off + 5, none⟩ = some (.int .i64 x.f5) ∧ w'.cell? ⟨ad.block, ad.off + 6, none⟩ = some (.int .i64 x.f6) ∧ w'.cell? ⟨ad.block, ad.off + 7, none⟩ = some (.slice A0 x.f7.length c0) ∧ w'.cell? ⟨ad.block, ad.off + 8, none⟩ = some (.int .i64 y.f0) ∧ w'.cell? ⟨ad.block, ad.off + 8 + 1, none⟩ = some (.int .i64 y.f1) ∧ w'.cell? ⟨ad.block, ad.off + 8 + 2, none⟩ = some (.int .i64 y.f2) ∧ w'.cell? ⟨ad.block, ad.off + 8 + 3, none⟩ = some (.int .i64 y.f3) ∧ w'.cell? ⟨ad.block, ad.off + 8 + 4, none⟩ = some (.bool y.f4) ∧ w'.cell? ⟨ad.block, ad.off + 8 + 5, none⟩ = some (.int .i64 y.f5) ∧ w'.cell? ⟨ad.block, ad.off + 8 + 6, none⟩ = some (.int .i64 y.f6) ∧ w'.cell? ⟨ad.block, ad.off + 8 + 7, none⟩ = some (.slice A1 y.f7.length c1)) (ds := []) #[false, false, false, false, false, false, false, false, false, false, false, false, false, false, false, false, false, false, false, false, false, false, false, false, false, false, false] (by kernel_rfl) rfl rfl ⟨m0_.out, m1_.out, m2_.out, m3_.out, m4_.out, m5_.out, m6_.out, m7_.out, m8_.out, m9_.out, m10_.out, m11_.out, m12_.out, m13_.out, m14_.out, m15_.out, m16_.out, m17_.out, m18_.out⟩ (fun hHeld => ?_)
            refine pure_ (i := 0) (N := some 42) (v := ?_) (a' := ?_) #[true, false, false, false, false, false, false, false, false, false, false, false, false, false, false, false, false, false, false, false, false, false, false, false, false, false, false] rfl rfl (by kernel_rfl) (fun _ _ _ h => h) (Or.inl ⟨by rfl, ?_⟩) ?_ ?_
            rotate_left
            · intro w'
              go_simp
              with_reducible rfl
            rotate_left
            · simp only [Act.put, List.setIfInBounds_toArray, List.set_cons_zero, List.set_cons_succ, i64_w, i32_w]
              rfl
            refine take_ (i := 1) (N := some 43) (v := ?_) (a' := ?_) #[true, true, false, false, false, false, false, false, false, false, false, false, false, false, false, false, false, false, false, false, false, false, false, false, false, false, false] rfl rfl (by kernel_rfl) (fun _ _ _ h => h) (Or.inl ⟨by rfl, ?_⟩) hHeld ?_ ?_
            rotate_left
            · rintro w' ⟨s0, s1, s2, s3, s4, s5, s6, s7, s8, s9, s10, s11, s12, s13, s14, s15, s16, s17, s18⟩
              go_simp
              with_reducible rfl
            rotate_left
            · simp only [Act.put, List.setIfInBounds_toArray, List.set_cons_zero, List.set_cons_succ, i64_w, i32_w]
              rfl
            refine pure_ (i := 2) (N := some 44) (v := ?_) (a' := ?_) #[true, true, true, false, false, false, false, false, false, false, false, false, false, false, false, false, false, false, false, false, false, false, false, false, false, false, false] rfl rfl (by kernel_rfl) (fun _ _ _ h => h) (Or.inl ⟨by rfl, ?_⟩) ?_ ?_
            rotate_left
            · intro w'
              go_simp
              with_reducible rfl
            rotate_left
            · simp only [Act.put, List.setIfInBounds_toArray, List.set_cons_zero, List.set_cons_succ, i64_w, i32_w]
              rfl
            refine pure_ (i := 3) (N := some 45) (v := ?_) (a' := ?_) #[true, true, true, true, false, false, false, false, false, false, false, false, false, false, false, false, false, false, false, false, false, false, false, false, false, false, false] rfl rfl (by kernel_rfl) (fun _ _ _ h => h) (Or.inl ⟨by rfl, ?_⟩) ?_ ?_
            rotate_left
            · intro w'
              go_simp
              with_reducible rfl
            rotate_left
            · simp only [Act.put, List.setIfInBounds_toArray, List.set_cons_zero, List.set_cons_succ, i64_w, i32_w]
              rfl
            refine pure_ (i := 4) (N := some 46) (v := ?_) (a' := ?_) #[true, true, true, true, true, false, false, false, false, false, false, false, false, false, false, false, false, false, false, false, false, false, false, false, false, false, false] rfl rfl (by kernel_rfl) (fun _ _ _ h => h) (Or.inl ⟨by rfl, ?_⟩) ?_ ?_
            rotate_left
            · intro w'
              go_simp
              with_reducible rfl
            rotate_left
            · simp only [Act.put, List.setIfInBounds_toArray, List.set_cons_zero, List.set_cons_succ, i64_w, i32_w]
              rfl
            refine pure_ (i := 5) (N := some 47) (v := ?_) (a' := ?_) #[true, true, true, true, true, true, false, false, false, false, false, false, false, false, false, false, false, false, false, false, false, false, false, false, false, false, false] rfl rfl (by kernel_rfl) (fun _ _ _ h => h) (Or.inl ⟨by rfl, ?_⟩) ?_ ?_
            rotate_left
            · intro w'
              go_simp
              with_reducible rfl
            rotate_left
            · simp only [Act.put, List.setIfInBounds_toArray, List.set_cons_zero, List.set_cons_succ, i64_w, i32_w]
              rfl
            refine take_ (i := 6) (N := some 48) (v := ?_) (a' := ?_) #[true, true, true, true, true, true, true, false, false, false, false, false, false, false, false, false, false, false, false, false, false, false, false, false, false, false, false] rfl rfl (by kernel_rfl) (fun _ _ _ h => h) (Or.inl ⟨by rfl, ?_⟩) hHeld ?_ ?_
            rotate_left
            · rintro w' ⟨s0, s1, s2, s3, s4, s5, s6, s7, s8, s9, s10, s11, s12, s13, s14, s15, s16, s17, s18⟩
              go_simp
              with_reducible rfl
            rotate_left
            · simp only [Act.put, List.setIfInBounds_toArray, List.set_cons_zero, List.set_cons_succ, i64_w, i32_w]
              rfl
            refine pure_ (i := 7) (N := some 49) (v := ?_) (a' := ?_) #[true, true, true, true, true, true, true, true, false, false, false, false, false, false, false, false, false, false, false, false, false, false, false, false, false, false, false] rfl rfl (by kernel_rfl) (fun _ _ _ h => h) (Or.inl ⟨by rfl, ?_⟩) ?_ ?_
            rotate_left
            · intro w'
              go_simp
              with_reducible rfl
            rotate_left
            · simp only [Act.put, List.setIfInBounds_toArray, List.set_cons_zero, List.set_cons_succ, i64_w, i32_w]
              rfl
            refine pure_ (i := 8) (N := some 50) (v := ?_) (a' := ?_) #[true, true, true, true, true, true, true, true, true, false, false, false, false, false, false, false, false, false, false, false, false, false, false, false, false, false, false] rfl rfl (by kernel_rfl) (fun _ _ _ h => h) (Or.inl ⟨by rfl, ?_⟩) ?_ ?_
            rotate_left
            · intro w'
              go_simp
              with_reducible rfl
            rotate_left
            · simp only [Act.put, List.setIfInBounds_toArray, List.set_cons_zero, List.set_cons_succ, i64_w, i32_w]
              rfl
            refine pure_ (i := 9) (N := some 51) (v := ?_) (a' := ?_) #[true, true, true, true, true, true, true, true, true, true, false, false, false, false, false, false, false, false, false, false, false, false, false, false, false, false, false] rfl rfl (by kernel_rfl) (fun _ _ _ h => h) (Or.inl ⟨by rfl, ?_⟩) ?_ ?_
            rotate_left
            · intro w'
              go_simp
              with_reducible rfl
            rotate_left
            · simp only [Act.put, List.setIfInBounds_toArray, List.set_cons_zero, List.set_cons_succ, i64_w, i32_w]
              rfl
            refine pure_ (i := 11) (N := some 53) (v := ?_) (a' := ?_) #[true, true, true, true, true, true, true, true, true, true, false, true, false, false, false, false, false, false, false, false, false, false, false, false, false, false, false] rfl rfl (by kernel_rfl) (fun _ _ _ h => h) (Or.inl ⟨by rfl, ?_⟩) ?_ ?_
            rotate_left
            · intro w'
              go_simp
              with_reducible rfl
            rotate_left
            · simp only [Act.put, List.setIfInBounds_toArray, List.set_cons_zero, List.set_cons_succ, i64_w, i32_w]
              rfl
            refine take_ (i := 10) (N := some 52) (v := ?_) (a' := ?_) #[true, true, true, true, true, true, true, true, true, true, true, true, false, false, false, false, false, false, false, false, false, false, false, false, false, false, false] rfl rfl (by kernel_rfl) (fun _ _ _ h => h) (Or.inl ⟨by rfl, ?_⟩) hHeld ?_ ?_
            rotate_left
            · rintro w' ⟨s0, s1, s2, s3, s4, s5, s6, s7, s8, s9, s10, s11, s12, s13, s14, s15, s16, s17, s18⟩
              go_simp
              with_reducible rfl
            rotate_left
            · simp only [Act.put, List.setIfInBounds_toArray, List.set_cons_zero, List.set_cons_succ, i64_w, i32_w]
              rfl
            refine take_ (i := 12) (N := some 54) (v := ?_) (a' := ?_) #[true, true, true, true, true, true, true, true, true, true, true, true, true, false, false, false, false, false, false, false, false, false, false, false, false, false, false] rfl rfl (by kernel_rfl) (fun _ _ _ h => h) (Or.inl ⟨by rfl, ?_⟩) hHeld ?_ ?_
            rotate_left
            · rintro w' ⟨s0, s1, s2, s3, s4, s5, s6, s7, s8, s9, s10, s11, s12, s13, s14, s15, s16, s17, s18⟩
              go_simp
              with_reducible rfl
            rotate_left
            · simp only [Act.put, List.setIfInBounds_toArray, List.set_cons_zero, List.set_cons_succ, i64_w, i32_w]
              rfl
            refine pure_ (i := 13) (N := some 55) (v := ?_) (a' := ?_) #[true, true, true, true, true, true, true, true, true, true, true, true, true, true, false, false, false, false, false, false, false, false, false, false, false, false, false] rfl rfl (by kernel_rfl) (fun _ _ _ h => h) (Or.inl ⟨by rfl, ?_⟩) ?_ ?_
            rotate_left
            · intro w'
              go_simp
              with_reducible rfl
            rotate_left
            · simp only [Act.put, List.setIfInBounds_toArray, List.set_cons_zero, List.set_cons_succ, i64_w, i32_w]
              rfl
            refine take_ (i := 14) (N := some 56) (v := ?_) (a' := ?_) #[true, true, true, true, true, true, true, true, true, true, true, true, true, true, true, false, false, false, false, false, false, false, false, false, false, false, false] rfl rfl (by kernel_rfl) (fun _ _ _ h => h) (Or.inl ⟨by rfl, ?_⟩) hHeld ?_ ?_
            rotate_left
            · rintro w' ⟨s0, s1, s2, s3, s4, s5, s6, s7, s8, s9, s10, s11, s12, s13, s14, s15, s16, s17, s18⟩
              go_simp
              with_reducible rfl
            rotate_left
            · simp only [Act.put, List.setIfInBounds_toArray, List.set_cons_zero, List.set_cons_succ, i64_w, i32_w]
              rfl
            refine one_ (i := 15) (N := some 57) #[true, true, true, true, true, true, true, true, true, true, true, true, true, true, true, true, false, false, false, false, false, false, false, false, false, false, false] rfl rfl (by kernel_rfl) (by decide) (fun K hK => ?_)
            refine goesV_ Tryd.func27 (by kernel_rfl) rfl #[encP x A0 c0, pt g, pt gb, pt gt] (by rfl) rfl (t := 52) (cb := #[pt g, pt gb, pt gt]) rfl (by rfl) ?_ ?_
            · first | rfl | (simp only [List.map_toArray, List.map_cons, List.map_nil]; rfl)
            with_reducible refine (HX0.out _ (Below.refl _ _)).mono ?_
            rintro e_ w6 ⟨rfl, hb6⟩
            refine ⟨_, rfl, ?_⟩
            refine hK.out _ _ ⟨cells_later hb6 hHeld.1, cells_later hb6 hHeld.2.1, cells_later hb6 hHeld.2.2.1, cells_later hb6 hHeld.2.2.2.1, cells_later hb6 hHeld.2.2.2.2.1, cells_later hb6 hHeld.2.2.2.2.2.1, cells_later hb6 hHeld.2.2.2.2.2.2.1, cells_later hb6 hHeld.2.2.2.2.2.2.2.1, cells_later hb6 hHeld.2.2.2.2.2.2.2.2.1, cells_later hb6 hHeld.2.2.2.2.2.2.2.2.2.1, cells_later hb6 hHeld.2.2.2.2.2.2.2.2.2.2.1, cells_later hb6 hHeld.2.2.2.2.2.2.2.2.2.2.2.1, cells_later hb6 hHeld.2.2.2.2.2.2.2.2.2.2.2.2.1, cells_later hb6 hHeld.2.2.2.2.2.2.2.2.2.2.2.2.2.1, cells_later hb6 hHeld.2.2.2.2.2.2.2.2.2.2.2.2.2.2.1, cells_later hb6 hHeld.2.2.2.2.2.2.2.2.2.2.2.2.2.2.2.1, cells_later hb6 hHeld.2.2.2.2.2.2.2.2.2.2.2.2.2.2.2.2.1, cells_later hb6 hHeld.2.2.2.2.2.2.2.2.2.2.2.2.2.2.2.2.2.1, cells_later hb6 hHeld.2.2.2.2.2.2.2.2.2.2.2.2.2.2.2.2.2.2⟩ (fun hHeld => ?_)
            clear hK K
            refine norm_ (a' := ?_) ?_ ?_
            rotate_left
            · show Act.put _ (some 57) _ = _
              simp only [Act.put, List.setIfInBounds_toArray, List.set_cons_zero, List.set_cons_succ, i64_w, i32_w]
              rfl
            refine pure_ (i := 16) (N := some 58) (v := ?_) (a' := ?_) #[true, true, true, true, true, true, true, true, true, true, true, true, true, true, true, true, true, false, false, false, false, false, false, false, false, false, false] rfl rfl (by kernel_rfl) (fun _ _ _ h => h) (Or.inl ⟨by rfl, ?_⟩) ?_ ?_
            rotate_left
            · intro w'
              go_simp
              with_reducible rfl
            rotate_left
            · simp only [Act.put, List.setIfInBounds_toArray, List.set_cons_zero, List.set_cons_succ, i64_w, i32_w]
              rfl
            refine pure_ (i := 17) (N := some 59) (v := ?_) (a' := ?_) #[true, true, true, true, true, true, true, true, true, true, true, true, true, true, true, true, true, true, false, false, false, false, false, false, false, false, false] rfl rfl (by kernel_rfl) (fun _ _ _ h => h) (Or.inl ⟨by rfl, ?_⟩) ?_ ?_
            rotate_left
            · intro w'
              go_simp
              with_reducible rfl
            rotate_left
            · simp only [Act.put, List.setIfInBounds_toArray, List.set_cons_zero, List.set_cons_succ, i64_w, i32_w]
              rfl
            refine pure_ (i := 18) (N := some 60) (v := ?_) (a' := ?_) #[true, true, true, true, true, true, true, true, true, true, true, true, true, true, true, true, true, true, true, false, false, false, false, false, false, false, false] rfl rfl (by kernel_rfl) (fun _ _ _ h => h) (Or.inl ⟨by rfl, ?_⟩) ?_ ?_
            rotate_left
            · intro w'
              go_simp
              with_reducible rfl
            rotate_left
            · simp only [Act.put, List.setIfInBounds_toArray, List.set_cons_zero, List.set_cons_succ, i64_w, i32_w]
              rfl
            refine pure_ (i := 19) (N := some 61) (v := undef) (a' := ?_) #[true, true, true, true, true, true, true, true, true, true, true, true, true, true, true, true, true, true, true, true, false, false, false, false, false, false, false] rfl rfl (by kernel_rfl) (fun _ _ _ h => h) (Or.inr ⟨by rfl, rfl⟩) ?_ ?_
            rotate_left
            · simp only [Act.put, List.setIfInBounds_toArray, List.set_cons_zero, List.set_cons_succ, i64_w, i32_w]
              rfl
            refine pure_ (i := 20) (N := some 62) (v := undef) (a' := ?_) #[true, true, true, true, true, true, true, true, true, true, true, true, true, true, true, true, true, true, true, true, true, false, false, false, false, false, false] rfl rfl (by kernel_rfl) (fun _ _ _ h => h) (Or.inr ⟨by rfl, rfl⟩) ?_ ?_
            rotate_left
            · simp only [Act.put, List.setIfInBounds_toArray, List.set_cons_zero, List.set_cons_succ, i64_w, i32_w]
              rfl
            refine pure_ (i := 21) (N := some 63) (v := undef) (a' := ?_) #[true, true, true, true, true, true, true, true, true, true, true, true, true, true, true, true, true, true, true, true, true, true, false, false, false, false, false] rfl rfl (by kernel_rfl) (fun _ _ _ h => h) (Or.inr ⟨by rfl, rfl⟩) ?_ ?_
            rotate_left
            · simp only [Act.put, List.setIfInBounds_toArray, List.set_cons_zero, List.set_cons_succ, i64_w, i32_w]
              rfl
            refine pure_ (i := 22) (N := some 64) (v := undef) (a' := ?_) #[true, true, true, true, true, true, true, true, true, true, true, true, true, true, true, true, true, true, true, true, true, true, true, false, false, false, false] rfl rfl (by kernel_rfl) (fun _ _ _ h => h) (Or.inr ⟨by rfl, rfl⟩) ?_ ?_
            rotate_left
            · simp only [Act.put, List.setIfInBounds_toArray, List.set_cons_zero, List.set_cons_succ, i64_w, i32_w]
              rfl
            refine pure_ (i := 23) (N := some 65) (v := undef) (a' := ?_) #[true, true, true, true, true, true, true, true, true, true, true, true, true, true, true, true, true, true, true, true, true, true, true, true, false, false, false] rfl rfl (by kernel_rfl) (fun _ _ _ h => h) (Or.inr ⟨by rfl, rfl⟩) ?_ ?_
            rotate_left
            · simp only [Act.put, List.setIfInBounds_toArray, List.set_cons_zero, List.set_cons_succ, i64_w, i32_w]
              rfl
            refine pure_ (i := 24) (N := some 66) (v := undef) (a' := ?_) #[true, true, true, true, true, true, true, true, true, true, true, true, true, true, true, true, true, true, true, true, true, true, true, true, true, false, false] rfl rfl (by kernel_rfl) (fun _ _ _ h => h) (Or.inr ⟨by rfl, rfl⟩) ?_ ?_
            rotate_left
            · simp only [Act.put, List.setIfInBounds_toArray, List.set_cons_zero, List.set_cons_succ, i64_w, i32_w]
              rfl
            refine pure_ (i := 25) (N := some 67) (v := undef) (a' := ?_) #[true, true, true, true, true, true, true, true, true, true, true, true, true, true, true, true, true, true, true, true, true, true, true, true, true, true, false] rfl rfl (by kernel_rfl) (fun _ _ _ h => h) (Or.inr ⟨by rfl, rfl⟩) ?_ ?_
            rotate_left
            · simp only [Act.put, List.setIfInBounds_toArray, List.set_cons_zero, List.set_cons_succ, i64_w, i32_w]
              rfl
            refine pure_ (i := 26) (N := some 68) (v := ?_) (a' := ?_) #[true, true, true, true, true, true, true, true, true, true, true, true, true, true, true, true, true, true, true, true, true, true, true, true, true, true, true] rfl rfl (by kernel_rfl) (fun _ _ _ h => h) (Or.inl ⟨by rfl, ?_⟩) ?_ ?_
            rotate_left
            · intro w'
              go_simp
              with_reducible rfl
            rotate_left
            · simp only [Act.put, List.setIfInBounds_toArray, List.set_cons_zero, List.set_cons_succ, i64_w, i32_w]
              rfl
            refine done_ (by kernel_rfl) ?_
            go_wp2
            go_ret
            rw [HN.out]
            exact ⟨rfl, bst HB3d.out hb6⟩
          · rcases n1 with _ | _
            · have HN : Aside0 (NX = false) := ⟨by rw [HNJ.out, HTW1.out]; rfl⟩
              refine start_ (n := 27) (S := fun w' => w'.cell? ⟨gp, 7, none⟩ = some (.slice (some ad) p.f7.length c) ∧ w'.cell? ⟨gp, 1, none⟩ = some (.int .i64 p.f1) ∧ w'.cell? ⟨g, 0, none⟩ = some (.func (.func 27) #[] #[pt g, pt gb, pt gt]) ∧ w'.cell? ad = some (.int .i64 x.f0) ∧ w'.cell? ⟨ad.block, ad.off + 1, none⟩ = some (.int .i64 x.f1) ∧ w'.cell? ⟨ad.block, ad.off + 2, none⟩ = some (.int .i64 x.f2) ∧ w'.cell? ⟨ad.block, ad.off + 3, none⟩ = some (.int .i64 x.f3) ∧ w'.cell? ⟨ad.block, ad.off + 4, none⟩ = some (.bool x.f4) ∧ w'.cell? ⟨ad.block, ad.off + 5, none⟩ = some (.int .i64 x.f5) ∧ w'.cell? ⟨ad.block, ad.off + 6, none⟩ = some (.int .i64 x.f6) ∧ w'.cell? ⟨ad.block, ad.off + 7, none⟩ = some (.slice A0 x.f7.length c0) ∧ w'.cell? ⟨ad.block, ad.off + 8, none⟩ = some (.int .i64 y.f0) ∧ w'.cell? ⟨ad.block, ad.off + 8 + 1, none⟩ = some (.int .i64 y.f1) ∧ w'.cell? ⟨ad.block, ad.off + 8 + 2, none⟩ = some (.int .i64 y.f2) ∧ w'.cell? ⟨ad.block, ad.off + 8 + 3, none⟩ = some (.int .i64 y.f3) ∧ w'.cell? ⟨ad.block, ad.off + 8 + 4, none⟩ = some (.bool y.f4) ∧ w'.cell? ⟨ad.block, ad.off + 8 + 5, none⟩ = some (.int .i64 y.f5) ∧ w'.cell? ⟨ad.block, ad.off + 8 + 6, none⟩ = some (.int .i64 y.f6) ∧ w'.cell? ⟨ad.block, ad.off + 8 + 7, none⟩ = some (.slice A1 y.f7.length c1)) (ds := []) #[false, false, false, false, false, false, false, false, false, false, false, false, false, false, false, false, false, false, false, false, false, false, false, false, false, false, false] (by kernel_rfl) rfl rfl ⟨m0_.out, m1_.out, m2_.out, m3_.out, m4_.out, m5_.out, m6_.out, m7_.out, m8_.out, m9_.out, m10_.out, m11_.out, m12_.out, m13_.out, m14_.out, m15_.out, m16_.out, m17_.out, m18_.out⟩ (fun hHeld => ?_)
              refine pure_ (i := 0) (N := some 42) (v := ?_) (a' := ?_) #[true, false, false, false, false, false, false, false, false, false, false, false, false, false, false, false, false, false, false, false, false, false, false, false, false, false, false] rfl rfl (by kernel_rfl) (fun _ _ _ h => h) (Or.inl ⟨by rfl, ?_⟩) ?_ ?_
              rotate_left
              · intro w'
                go_simp
                with_reducible rfl
              rotate_left
              · simp only [Act.put, List.setIfInBounds_toArray, List.set_cons_zero, List.set_cons_succ, i64_w, i32_w]
                rfl
              refine take_ (i := 1) (N := some 43) (v := ?_) (a' := ?_) #[true, true, false, false, false, false, false, false, false, false, false, false, false, false, false, false, false, false, false, false, false, false, false, false, false, false, false] rfl rfl (by kernel_rfl) (fun _ _ _ h => h) (Or.inl ⟨by rfl, ?_⟩) hHeld ?_ ?_
              rotate_left
              · rintro w' ⟨s0, s1, s2, s3, s4, s5, s6, s7, s8, s9, s10, s11, s12, s13, s14, s15, s16, s17, s18⟩
                go_simp
                with_reducible rfl
              rotate_left
              · simp only [Act.put, List.setIfInBounds_toArray, List.set_cons_zero, List.set_cons_succ, i64_w, i32_w]
                rfl
              refine pure_ (i := 2) (N := some 44) (v := ?_) (a' := ?_) #[true, true, true, false, false, false, false, false, false, false, false, false, false, false, false, false, false, false, false, false, false, false, false, false, false, false, false] rfl rfl (by kernel_rfl) (fun _ _ _ h => h) (Or.inl ⟨by rfl, ?_⟩) ?_ ?_
              rotate_left
              · intro w'
                go_simp
                with_reducible rfl
              rotate_left
              · simp only [Act.put, List.setIfInBounds_toArray, List.set_cons_zero, List.set_cons_succ, i64_w, i32_w]
                rfl
              refine pure_ (i := 3) (N := some 45) (v := ?_) (a' := ?_) #[true, true, true, true, false, false, false, false, false, false, false, false, false, false, false, false, false, false, false, false, false, false, false, false, false, false, false] rfl rfl (by kernel_rfl) (fun _ _ _ h => h) (Or.inl ⟨by rfl, ?_⟩) ?_ ?_
              rotate_left
              · intro w'
                go_simp
                with_reducible rfl
              rotate_left
              · simp only [Act.put, List.setIfInBounds_toArray, List.set_cons_zero, List.set_cons_succ, i64_w, i32_w]
                rfl
              refine pure_ (i := 4) (N := some 46) (v := ?_) (a' := ?_) #[true, true, true, true, true, false, false, false, false, false, false, false, false, false, false, false, false, false, false, false, false, false, false, false, false, false, false] rfl rfl (by kernel_rfl) (fun _ _ _ h => h) (Or.inl ⟨by rfl, ?_⟩) ?_ ?_
              rotate_left
              · intro w'
                go_simp
                with_reducible rfl
              rotate_left
              · simp only [Act.put, List.setIfInBounds_toArray, List.set_cons_zero, List.set_cons_succ, i64_w, i32_w]
                rfl
              refine pure_ (i := 5) (N := some 47) (v := ?_) (a' := ?_) #[true, true, true, true, true, true, false, false, false, false, false, false, false, false, false, false, false, false, false, false, false, false, false, false, false, false, false] rfl rfl (by kernel_rfl) (fun _ _ _ h => h) (Or.inl ⟨by rfl, ?_⟩) ?_ ?_
              rotate_left
              · intro w'
                go_simp
                with_reducible rfl
              rotate_left
              · simp only [Act.put, List.setIfInBounds_toArray, List.set_cons_zero, List.set_cons_succ, i64_w, i32_w]
                rfl
              refine take_ (i := 6) (N := some 48) (v := ?_) (a' := ?_) #[true, true, true, true, true, true, true, false, false, false, false, false, false, false, false, false, false, false, false, false, false, false, false, false, false, false, false] rfl rfl (by kernel_rfl) (fun _ _ _ h => h) (Or.inl ⟨by rfl, ?_⟩) hHeld ?_ ?_
              rotate_left
              · rintro w' ⟨s0, s1, s2, s3, s4, s5, s6, s7, s8, s9, s10, s11, s12, s13, s14, s15, s16, s17, s18⟩
                go_simp
                with_reducible rfl
              rotate_left
              · simp only [Act.put, List.setIfInBounds_toArray, List.set_cons_zero, List.set_cons_succ, i64_w, i32_w]
                rfl
              refine pure_ (i := 7) (N := some 49) (v := ?_) (a' := ?_) #[true, true, true, true, true, true, true, true, false, false, false, false, false, false, false, false, false, false, false, false, false, false, false, false, false, false, false] rfl rfl (by kernel_rfl) (fun _ _ _ h => h) (Or.inl ⟨by rfl, ?_⟩) ?_ ?_
              rotate_left
              · intro w'
                go_simp
                with_reducible rfl
              rotate_left
              · simp only [Act.put, List.setIfInBounds_toArray, List.set_cons_zero, List.set_cons_succ, i64_w, i32_w]
                rfl
              refine pure_ (i := 8) (N := some 50) (v := ?_) (a' := ?_) #[true, true, true, true, true, true, true, true, true, false, false, false, false, false, false, false, false, false, false, false, false, false, false, false, false, false, false] rfl rfl (by kernel_rfl) (fun _ _ _ h => h) (Or.inl ⟨by rfl, ?_⟩) ?_ ?_
              rotate_left
              · intro w'
                go_simp
                with_reducible rfl
              rotate_left
              · simp only [Act.put, List.setIfInBounds_toArray, List.set_cons_zero, List.set_cons_succ, i64_w, i32_w]
                rfl
              refine pure_ (i := 9) (N := some 51) (v := ?_) (a' := ?_) #[true, true, true, true, true, true, true, true, true, true, false, false, false, false, false, false, false, false, false, false, false, false, false, false, false, false, false] rfl rfl (by kernel_rfl) (fun _ _ _ h => h) (Or.inl ⟨by rfl, ?_⟩) ?_ ?_
              rotate_left
              · intro w'
                go_simp
                with_reducible rfl
              rotate_left
              · simp only [Act.put, List.setIfInBounds_toArray, List.set_cons_zero, List.set_cons_succ, i64_w, i32_w]
                rfl
              refine pure_ (i := 11) (N := some 53) (v := ?_) (a' := ?_) #[true, true, true, true, true, true, true, true, true, true, false, true, false, false, false, false, false, false, false, false, false, false, false, false, false, false, false] rfl rfl (by kernel_rfl) (fun _ _ _ h => h) (Or.inl ⟨by rfl, ?_⟩) ?_ ?_
              rotate_left
              · intro w'
                go_simp
                with_reducible rfl
              rotate_left
              · simp only [Act.put, List.setIfInBounds_toArray, List.set_cons_zero, List.set_cons_succ, i64_w, i32_w]
                rfl
              refine take_ (i := 10) (N := some 52) (v := ?_) (a' := ?_) #[true, true, true, true, true, true, true, true, true, true, true, true, false, false, false, false, false, false, false, false, false, false, false, false, false, false, false] rfl rfl (by kernel_rfl) (fun _ _ _ h => h) (Or.inl ⟨by rfl, ?_⟩) hHeld ?_ ?_
              rotate_left
              · rintro w' ⟨s0, s1, s2, s3, s4, s5, s6, s7, s8, s9, s10, s11, s12, s13, s14, s15, s16, s17, s18⟩
                go_simp
                with_reducible rfl
              rotate_left
              · simp only [Act.put, List.setIfInBounds_toArray, List.set_cons_zero, List.set_cons_succ, i64_w, i32_w]
                rfl
              refine take_ (i := 12) (N := some 54) (v := ?_) (a' := ?_) #[true, true, true, true, true, true, true, true, true, true, true, true, true, false, false, false, false, false, false, false, false, false, false, false, false, false, false] rfl rfl (by kernel_rfl) (fun _ _ _ h => h) (Or.inl ⟨by rfl, ?_⟩) hHeld ?_ ?_
              rotate_left
              · rintro w' ⟨s0, s1, s2, s3, s4, s5, s6, s7, s8, s9, s10, s11, s12, s13, s14, s15, s16, s17, s18⟩
                go_simp
                with_reducible rfl
              rotate_left
              · simp only [Act.put, List.setIfInBounds_toArray, List.set_cons_zero, List.set_cons_succ, i64_w, i32_w]
                rfl
              refine pure_ (i := 13) (N := some 55) (v := ?_) (a' := ?_) #[true, true, true, true, true, true, true, true, true, true, true, true, true, true, false, false, false, false, false, false, false, false, false, false, false, false, false] rfl rfl (by kernel_rfl) (fun _ _ _ h => h) (Or.inl ⟨by rfl, ?_⟩) ?_ ?_
              rotate_left
              · intro w'
                go_simp
                with_reducible rfl
              rotate_left
              · simp only [Act.put, List.setIfInBounds_toArray, List.set_cons_zero, List.set_cons_succ, i64_w, i32_w]
                rfl
              refine take_ (i := 14) (N := some 56) (v := ?_) (a' := ?_) #[true, true, true, true, true, true, true, true, true, true, true, true, true, true, true, false, false, false, false, false, false, false, false, false, false, false, false] rfl rfl (by kernel_rfl) (fun _ _ _ h => h) (Or.inl ⟨by rfl, ?_⟩) hHeld ?_ ?_
              rotate_left
              · rintro w' ⟨s0, s1, s2, s3, s4, s5, s6, s7, s8, s9, s10, s11, s12, s13, s14, s15, s16, s17, s18⟩
                go_simp
                with_reducible rfl
              rotate_left
              · simp only [Act.put, List.setIfInBounds_toArray, List.set_cons_zero, List.set_cons_succ, i64_w, i32_w]
                rfl
              refine one_ (i := 15) (N := some 57) #[true, true, true, true, true, true, true, true, true, true, true, true, true, true, true, true, false, false, false, false, false, false, false, false, false, false, false] rfl rfl (by kernel_rfl) (by decide) (fun K hK => ?_)
              refine goesV_ Tryd.func27 (by kernel_rfl) rfl #[encP x A0 c0, pt g, pt gb, pt gt] (by rfl) rfl (t := 52) (cb := #[pt g, pt gb, pt gt]) rfl (by rfl) ?_ ?_
              · first | rfl | (simp only [List.map_toArray, List.map_cons, List.map_nil]; rfl)
              with_reducible refine (HX0.out _ (Below.refl _ _)).mono ?_
              rintro e_ w6 ⟨rfl, hb6⟩
              refine ⟨_, rfl, ?_⟩
              refine hK.out _ _ ⟨cells_later hb6 hHeld.1, cells_later hb6 hHeld.2.1, cells_later hb6 hHeld.2.2.1, cells_later hb6 hHeld.2.2.2.1, cells_later hb6 hHeld.2.2.2.2.1, cells_later hb6 hHeld.2.2.2.2.2.1, cells_later hb6 hHeld.2.2.2.2.2.2.1, cells_later hb6 hHeld.2.2.2.2.2.2.2.1, cells_later hb6 hHeld.2.2.2.2.2.2.2.2.1, cells_later hb6 hHeld.2.2.2.2.2.2.2.2.2.1, cells_later hb6 hHeld.2.2.2.2.2.2.2.2.2.2.1, cells_later hb6 hHeld.2.2.2.2.2.2.2.2.2.2.2.1, cells_later hb6 hHeld.2.2.2.2.2.2.2.2.2.2.2.2.1, cells_later hb6 hHeld.2.2.2.2.2.2.2.2.2.2.2.2.2.1, cells_later hb6 hHeld.2.2.2.2.2.2.2.2.2.2.2.2.2.2.1, cells_later hb6 hHeld.2.2.2.2.2.2.2.2.2.2.2.2.2.2.2.1, cells_later hb6 hHeld.2.2.2.2.2.2.2.2.2.2.2.2.2.2.2.2.1, cells_later hb6 hHeld.2.2.2.2.2.2.2.2.2.2.2.2.2.2.2.2.2.1, cells_later hb6 hHeld.2.2.2.2.2.2.2.2.2.2.2.2.2.2.2.2.2.2⟩ (fun hHeld => ?_)
              clear hK K
              refine norm_ (a' := ?_) ?_ ?_
              rotate_left
              · show Act.put _ (some 57) _ = _
                simp only [Act.put, List.setIfInBounds_toArray, List.set_cons_zero, List.set_cons_succ, i64_w, i32_w]
                rfl
              refine pure_ (i := 16) (N := some 58) (v := ?_) (a' := ?_) #[true, true, true, true, true, true, true, true, true, true, true, true, true, true, true, true, true, false, false, false, false, false, false, false, false, false, false] rfl rfl (by kernel_rfl) (fun _ _ _ h => h) (Or.inl ⟨by rfl, ?_⟩) ?_ ?_
              rotate_left
              · intro w'
                go_simp
                with_reducible rfl
              rotate_left
              · simp only [Act.put, List.setIfInBounds_toArray, List.set_cons_zero, List.set_cons_succ, i64_w, i32_w]
                rfl
              refine pure_ (i := 17) (N := some 59) (v := ?_) (a' := ?_) #[true, true, true, true, true, true, true, true, true, true, true, true, true, true, true, true, true, true, false, false, false, false, false, false, false, false, false] rfl rfl (by kernel_rfl) (fun _ _ _ h => h) (Or.inl ⟨by rfl, ?_⟩) ?_ ?_
              rotate_left
              · intro w'
                go_simp
                with_reducible rfl
              rotate_left
              · simp only [Act.put, List.setIfInBounds_toArray, List.set_cons_zero, List.set_cons_succ, i64_w, i32_w]
                rfl
              refine pure_ (i := 18) (N := some 60) (v := ?_) (a' := ?_) #[true, true, true, true, true, true, true, true, true, true, true, true, true, true, true, true, true, true, true, false, false, false, false, false, false, false, false] rfl rfl (by kernel_rfl) (fun _ _ _ h => h) (Or.inl ⟨by rfl, ?_⟩) ?_ ?_
              rotate_left
              · intro w'
                go_simp
                with_reducible rfl
              rotate_left
              · simp only [Act.put, List.setIfInBounds_toArray, List.set_cons_zero, List.set_cons_succ, i64_w, i32_w]
                rfl
              refine pure_ (i := 20) (N := some 62) (v := ?_) (a' := ?_) #[true, true, true, true, true, true, true, true, true, true, true, true, true, true, true, true, true, true, true, false, true, false, false, false, false, false, false] rfl rfl (by kernel_rfl) (fun _ _ _ h => h) (Or.inl ⟨by rfl, ?_⟩) ?_ ?_
              rotate_left
              · intro w'
                go_simp
                with_reducible rfl
              rotate_left
              · simp only [Act.put, List.setIfInBounds_toArray, List.set_cons_zero, List.set_cons_succ, i64_w, i32_w]
                rfl
              refine take_ (i := 19) (N := some 61) (v := ?_) (a' := ?_) #[true, true, true, true, true, true, true, true, true, true, true, true, true, true, true, true, true, true, true, true, true, false, false, false, false, false, false] rfl rfl (by kernel_rfl) (fun _ _ _ h => h) (Or.inl ⟨by rfl, ?_⟩) hHeld ?_ ?_
              rotate_left
              · rintro w' ⟨s0, s1, s2, s3, s4, s5, s6, s7, s8, s9, s10, s11, s12, s13, s14, s15, s16, s17, s18⟩
                go_simp
                with_reducible rfl
              rotate_left
              · simp only [Act.put, List.setIfInBounds_toArray, List.set_cons_zero, List.set_cons_succ, i64_w, i32_w]
                rfl
              refine take_ (i := 21) (N := some 63) (v := ?_) (a' := ?_) #[true, true, true, true, true, true, true, true, true, true, true, true, true, true, true, true, true, true, true, true, true, true, false, false, false, false, false] rfl rfl (by kernel_rfl) (fun _ _ _ h => h) (Or.inl ⟨by rfl, ?_⟩) hHeld ?_ ?_
              rotate_left
              · rintro w' ⟨s0, s1, s2, s3, s4, s5, s6, s7, s8, s9, s10, s11, s12, s13, s14, s15, s16, s17, s18⟩
                go_simp
                with_reducible rfl
              rotate_left
              · simp only [Act.put, List.setIfInBounds_toArray, List.set_cons_zero, List.set_cons_succ, i64_w, i32_w]
                rfl
              refine pure_ (i := 22) (N := some 64) (v := ?_) (a' := ?_) #[true, true, true, true, true, true, true, true, true, true, true, true, true, true, true, true, true, true, true, true, true, true, true, false, false, false, false] rfl rfl (by kernel_rfl) (fun _ _ _ h => h) (Or.inl ⟨by rfl, ?_⟩) ?_ ?_
              rotate_left
              · intro w'
                go_simp
                with_reducible rfl
              rotate_left
              · simp only [Act.put, List.setIfInBounds_toArray, List.set_cons_zero, List.set_cons_succ, i64_w, i32_w]
                rfl
              refine take_ (i := 23) (N := some 65) (v := ?_) (a' := ?_) #[true, true, true, true, true, true, true, true, true, true, true, true, true, true, true, true, true, true, true, true, true, true, true, true, false, false, false] rfl rfl (by kernel_rfl) (fun _ _ _ h => h) (Or.inl ⟨by rfl, ?_⟩) hHeld ?_ ?_
              rotate_left
              · rintro w' ⟨s0, s1, s2, s3, s4, s5, s6, s7, s8, s9, s10, s11, s12, s13, s14, s15, s16, s17, s18⟩
                go_simp
                with_reducible rfl
              rotate_left
              · simp only [Act.put, List.setIfInBounds_toArray, List.set_cons_zero, List.set_cons_succ, i64_w, i32_w]
                rfl
              refine one_ (i := 24) (N := some 66) #[true, true, true, true, true, true, true, true, true, true, true, true, true, true, true, true, true, true, true, true, true, true, true, true, true, false, false] rfl rfl (by kernel_rfl) (by decide) (fun K hK => ?_)
              refine goesV_ Tryd.func27 (by kernel_rfl) rfl #[encP y A1 c1, pt g, pt gb, pt gt] (by rfl) rfl (t := 61) (cb := #[pt g, pt gb, pt gt]) rfl (by rfl) ?_ ?_
              · first | rfl | (simp only [List.map_toArray, List.map_cons, List.map_nil]; rfl)
              with_reducible refine (HX1.out _ hb6).mono ?_
              rintro e_ w7 ⟨rfl, hb7⟩
              refine ⟨_, rfl, ?_⟩
              refine hK.out _ _ ⟨cells_later hb7 hHeld.1, cells_later hb7 hHeld.2.1, cells_later hb7 hHeld.2.2.1, cells_later hb7 hHeld.2.2.2.1, cells_later hb7 hHeld.2.2.2.2.1, cells_later hb7 hHeld.2.2.2.2.2.1, cells_later hb7 hHeld.2.2.2.2.2.2.1, cells_later hb7 hHeld.2.2.2.2.2.2.2.1, cells_later hb7 hHeld.2.2.2.2.2.2.2.2.1, cells_later hb7 hHeld.2.2.2.2.2.2.2.2.2.1, cells_later hb7 hHeld.2.2.2.2.2.2.2.2.2.2.1, cells_later hb7 hHeld.2.2.2.2.2.2.2.2.2.2.2.1, cells_later hb7 hHeld.2.2.2.2.2.2.2.2.2.2.2.2.1, cells_later hb7 hHeld.2.2.2.2.2.2.2.2.2.2.2.2.2.1, cells_later hb7 hHeld.2.2.2.2.2.2.2.2.2.2.2.2.2.2.1, cells_later hb7 hHeld.2.2.2.2.2.2.2.2.2.2.2.2.2.2.2.1, cells_later hb7 hHeld.2.2.2.2.2.2.2.2.2.2.2.2.2.2.2.2.1, cells_later hb7 hHeld.2.2.2.2.2.2.2.2.2.2.2.2.2.2.2.2.2.1, cells_later hb7 hHeld.2.2.2.2.2.2.2.2.2.2.2.2.2.2.2.2.2.2⟩ (fun hHeld => ?_)
              clear hK K
              refine norm_ (a' := ?_) ?_ ?_
              rotate_left
              · show Act.put _ (some 66) _ = _
                simp only [Act.put, List.setIfInBounds_toArray, List.set_cons_zero, List.set_cons_succ, i64_w, i32_w]
                rfl
              refine pure_ (i := 25) (N := some 67) (v := ?_) (a' := ?_) #[true, true, true, true, true, true, true, true, true, true, true, true, true, true, true, true, true, true, true, true, true, true, true, true, true, true, false] rfl rfl (by kernel_rfl) (fun _ _ _ h => h) (Or.inl ⟨by rfl, ?_⟩) ?_ ?_
              rotate_left
              · intro w'
                go_simp
                with_reducible rfl
              rotate_left
              · simp only [Act.put, List.setIfInBounds_toArray, List.set_cons_zero, List.set_cons_succ, i64_w, i32_w]
                rfl
              refine pure_ (i := 26) (N := some 68) (v := ?_) (a' := ?_) #[true, true, true, true, true, true, true, true, true, true, true, true, true, true, true, true, true, true, true, true, true, true, true, true, true, true, true] rfl rfl (by kernel_rfl) (fun _ _ _ h => h) (Or.inl ⟨by rfl, ?_⟩) ?_ ?_
              rotate_left
              · intro w'
                go_simp
                with_reducible rfl
              rotate_left
              · simp only [Act.put, List.setIfInBounds_toArray, List.set_cons_zero, List.set_cons_succ, i64_w, i32_w]
                rfl
              refine done_ (by kernel_rfl) ?_
              go_wp2
              go_ret
              rw [HN.out]
              exact ⟨rfl, bst (bst HB3d.out hb6) (hb7.mono (Nat.le_refl _))⟩
            · have HNK : Aside0 (NX = if condB L p = true then setB p else false) := ⟨by rw [HNJ.out, HTW1.out]; rfl⟩
              refine start_ (n := 27) (S := fun w' => w'.cell? ⟨gp, 7, none⟩ = some (.slice (some ad) p.f7.length c) ∧ w'.cell? ⟨gp, 1, none⟩ = some (.int .i64 p.f1) ∧ w'.cell? ⟨g, 0, none⟩ = some (.func (.func 27) #[] #[pt g, pt gb, pt gt]) ∧ w'.cell? ad = some (.int .i64 x.f0) ∧ w'.cell? ⟨ad.block, ad.off + 1, none⟩ = some (.int .i64 x.f1) ∧ w'.cell? ⟨ad.block, ad.off + 2, none⟩ = some (.int .i64 x.f2) ∧ w'.cell? ⟨ad.block, ad.off + 3, none⟩ = some (.int .i64 x.f3) ∧ w'.cell? ⟨ad.block, ad.off + 4, none⟩ = some (.bool x.f4) ∧ w'.cell? ⟨ad.block, ad.off + 5, none⟩ = some (.int .i64 x.f5) ∧ w'.cell? ⟨ad.block, ad.off + 6, none⟩ = some (.int .i64 x.f6) ∧ w'.cell? ⟨ad.block, ad.off + 7, none⟩ = some (.slice A0 x.f7.length c0) ∧ w'.cell? ⟨ad.block, ad.off + 8, none⟩ = some (.int .i64 y.f0) ∧ w'.cell? ⟨ad.block, ad.off + 8 + 1, none⟩ = some (.int .i64 y.f1) ∧ w'.cell? ⟨ad.block, ad.off + 8 + 2, none⟩ = some (.int .i64 y.f2) ∧ w'.cell? ⟨ad.block, ad.off + 8 + 3, none⟩ = some (.int .i64 y.f3) ∧ w'.cell? ⟨ad.block, ad.off + 8 + 4, none⟩ = some (.bool y.f4) ∧ w'.cell? ⟨ad.block, ad.off + 8 + 5, none⟩ = some (.int .i64 y.f5) ∧ w'.cell? ⟨ad.block, ad.off + 8 + 6, none⟩ = some (.int .i64 y.f6) ∧ w'.cell? ⟨ad.block, ad.off + 8 + 7, none⟩ = some (.slice A1 y.f7.length c1)) (ds := []) #[false, false, false, false, false, false, false, false, false, false, false, false, false, false, false, false, false, false, false, false, false, false, false, false, false, false, false] (by kernel_rfl) rfl rfl ⟨m0_.out, m1_.out, m2_.out, m3_.out, m4_.out, m5_.out, m6_.out, m7_.out, m8_.out, m9_.out, m10_.out, m11_.out, m12_.out, m13_.out, m14_.out, m15_.out, m16_.out, m17_.out, m18_.out⟩ (fun hHeld => ?_)
              refine pure_ (i := 0) (N := some 42) (v := ?_) (a' := ?_) #[true, false, false, false, false, false, false, false, false, false, false, false, false, false, false, false, false, false, false, false, false, false, false, false, false, false, false] rfl rfl (by kernel_rfl) (fun _ _ _ h => h) (Or.inl ⟨by rfl, ?_⟩) ?_ ?_
              rotate_left
              · intro w'
                go_simp
                with_reducible rfl
              rotate_left
              · simp only [Act.put, List.setIfInBounds_toArray, List.set_cons_zero, List.set_cons_succ, i64_w, i32_w]
                rfl
              refine take_ (i := 1) (N := some 43) (v := ?_) (a' := ?_) #[true, true, false, false, false, false, false, false, false, false, false, false, false, false, false, false, false, false, false, false, false, false, false, false, false, false, false] rfl rfl (by kernel_rfl) (fun _ _ _ h => h) (Or.inl ⟨by rfl, ?_⟩) hHeld ?_ ?_
              rotate_left
              · rintro w' ⟨s0, s1, s2, s3, s4, s5, s6, s7, s8, s9, s10, s11, s12, s13, s14, s15, s16, s17, s18⟩
                go_simp
                with_reducible rfl
              rotate_left
              · simp only [Act.put, List.setIfInBounds_toArray, List.set_cons_zero, List.set_cons_succ, i64_w, i32_w]
                rfl
              refine pure_ (i := 2) (N := some 44) (v := ?_) (a' := ?_) #[true, true, true, false, false, false, false, false, false, false, false, false, false, false, false, false, false, false, false, false, false, false, false, false, false, false, false] rfl rfl (by kernel_rfl) (fun _ _ _ h => h) (Or.inl ⟨by rfl, ?_⟩) ?_ ?_
              rotate_left
              · intro w'
                go_simp
                with_reducible rfl
              rotate_left
              · simp only [Act.put, List.setIfInBounds_toArray, List.set_cons_zero, List.set_cons_succ, i64_w, i32_w]
                rfl
              refine pure_ (i := 3) (N := some 45) (v := ?_) (a' := ?_) #[true, true, true, true, false, false, false, false, false, false, false, false, false, false, false, false, false, false, false, false, false, false, false, false, false, false, false] rfl rfl (by kernel_rfl) (fun _ _ _ h => h) (Or.inl ⟨by rfl, ?_⟩) ?_ ?_
              rotate_left
              · intro w'
                go_simp
                with_reducible rfl
              rotate_left
              · simp only [Act.put, List.setIfInBounds_toArray, List.set_cons_zero, List.set_cons_succ, i64_w, i32_w]
                rfl
              refine pure_ (i := 4) (N := some 46) (v := ?_) (a' := ?_) #[true, true, true, true, true, false, false, false, false, false, false, false, false, false, false, false, false, false, false, false, false, false, false, false, false, false, false] rfl rfl (by kernel_rfl) (fun _ _ _ h => h) (Or.inl ⟨by rfl, ?_⟩) ?_ ?_
              rotate_left
              · intro w'
                go_simp
                with_reducible rfl
              rotate_left
              · simp only [Act.put, List.setIfInBounds_toArray, List.set_cons_zero, List.set_cons_succ, i64_w, i32_w]
                rfl
              refine pure_ (i := 5) (N := some 47) (v := ?_) (a' := ?_) #[true, true, true, true, true, true, false, false, false, false, false, false, false, false, false, false, false, false, false, false, false, false, false, false, false, false, false] rfl rfl (by kernel_rfl) (fun _ _ _ h => h) (Or.inl ⟨by rfl, ?_⟩) ?_ ?_
              rotate_left
              · intro w'
                go_simp
                with_reducible rfl
              rotate_left
              · simp only [Act.put, List.setIfInBounds_toArray, List.set_cons_zero, List.set_cons_succ, i64_w, i32_w]
                rfl
              refine take_ (i := 6) (N := some 48) (v := ?_) (a' := ?_) #[true, true, true, true, true, true, true, false, false, false, false, false, false, false, false, false, false, false, false, false, false, false, false, false, false, false, false] rfl rfl (by kernel_rfl) (fun _ _ _ h => h) (Or.inl ⟨by rfl, ?_⟩) hHeld ?_ ?_
              rotate_left
              · rintro w' ⟨s0, s1, s2, s3, s4, s5, s6, s7, s8, s9, s10, s11, s12, s13, s14, s15, s16, s17, s18⟩
                go_simp
                with_reducible rfl
              rotate_left
              · simp only [Act.put, List.setIfInBounds_toArray, List.set_cons_zero, List.set_cons_succ, i64_w, i32_w]
                rfl
              refine pure_ (i := 7) (N := some 49) (v := ?_) (a' := ?_) #[true, true, true, true, true, true, true, true, false, false, false, false, false, false, false, false, false, false, false, false, false, false, false, false, false, false, false] rfl rfl (by kernel_rfl) (fun _ _ _ h => h) (Or.inl ⟨by rfl, ?_⟩) ?_ ?_
              rotate_left
              · intro w'
                go_simp
                with_reducible rfl
              rotate_left
              · simp only [Act.put, List.setIfInBounds_toArray, List.set_cons_zero, List.set_cons_succ, i64_w, i32_w]
                rfl
              refine pure_ (i := 8) (N := some 50) (v := ?_) (a' := ?_) #[true, true, true, true, true, true, true, true, true, false, false, false, false, false, false, false, false, false, false, false, false, false, false, false, false, false, false] rfl rfl (by kernel_rfl) (fun _ _ _ h => h) (Or.inl ⟨by rfl, ?_⟩) ?_ ?_
              rotate_left
              · intro w'
                go_simp
                with_reducible rfl
              rotate_left
              · simp only [Act.put, List.setIfInBounds_toArray, List.set_cons_zero, List.set_cons_succ, i64_w, i32_w]
                rfl
              refine pure_ (i := 9) (N := some 51) (v := ?_) (a' := ?_) #[true, true, true, true, true, true, true, true, true, true, false, false, false, false, false, false, false, false, false, false, false, false, false, false, false, false, false] rfl rfl (by kernel_rfl) (fun _ _ _ h => h) (Or.inl ⟨by rfl, ?_⟩) ?_ ?_
              rotate_left
              · intro w'
                go_simp
                with_reducible rfl
              rotate_left
              · simp only [Act.put, List.setIfInBounds_toArray, List.set_cons_zero, List.set_cons_succ, i64_w, i32_w]
                rfl
              refine pure_ (i := 11) (N := some 53) (v := ?_) (a' := ?_) #[true, true, true, true, true, true, true, true, true, true, false, true, false, false, false, false, false, false, false, false, false, false, false, false, false, false, false] rfl rfl (by kernel_rfl) (fun _ _ _ h => h) (Or.inl ⟨by rfl, ?_⟩) ?_ ?_
              rotate_left
              · intro w'
                go_simp
                with_reducible rfl
              rotate_left
              · simp only [Act.put, List.setIfInBounds_toArray, List.set_cons_zero, List.set_cons_succ, i64_w, i32_w]
                rfl
              refine take_ (i := 10) (N := some 52) (v := ?_) (a' := ?_) #[true, true, true, true, true, true, true, true, true, true, true, true, false, false, false, false, false, false, false, false, false, false, false, false, false, false, false] rfl rfl (by kernel_rfl) (fun _ _ _ h => h) (Or.inl ⟨by rfl, ?_⟩) hHeld ?_ ?_
              rotate_left
              · rintro w' ⟨s0, s1, s2, s3, s4, s5, s6, s7, s8, s9, s10, s11, s12, s13, s14, s15, s16, s17, s18⟩
                go_simp
                with_reducible rfl
              rotate_left
              · simp only [Act.put, List.setIfInBounds_toArray, List.set_cons_zero, List.set_cons_succ, i64_w, i32_w]
                rfl
              refine take_ (i := 12) (N := some 54) (v := ?_) (a' := ?_) #[true, true, true, true, true, true, true, true, true, true, true, true, true, false, false, false, false, false, false, false, false, false, false, false, false, false, false] rfl rfl (by kernel_rfl) (fun _ _ _ h => h) (Or.inl ⟨by rfl, ?_⟩) hHeld ?_ ?_
              rotate_left
              · rintro w' ⟨s0, s1, s2, s3, s4, s5, s6, s7, s8, s9, s10, s11, s12, s13, s14, s15, s16, s17, s18⟩
                go_simp
                with_reducible rfl
              rotate_left
              · simp only [Act.put, List.setIfInBounds_toArray, List.set_cons_zero, List.set_cons_succ, i64_w, i32_w]
                rfl
              refine pure_ (i := 13) (N := some 55) (v := ?_) (a' := ?_) #[true, true, true, true, true, true, true, true, true, true, true, true, true, true, false, false, false, false, false, false, false, false, false, false, false, false, false] rfl rfl (by kernel_rfl) (fun _ _ _ h => h) (Or.inl ⟨by rfl, ?_⟩) ?_ ?_
              rotate_left
              · intro w'
                go_simp
                with_reducible rfl
              rotate_left
              · simp only [Act.put, List.setIfInBounds_toArray, List.set_cons_zero, List.set_cons_succ, i64_w, i32_w]
                rfl
              refine take_ (i := 14) (N := some 56) (v := ?_) (a' := ?_) #[true, true, true, true, true, true, true, true, true, true, true, true, true, true, true, false, false, false, false, false, false, false, false, false, false, false, false] rfl rfl (by kernel_rfl) (fun _ _ _ h => h) (Or.inl ⟨by rfl, ?_⟩) hHeld ?_ ?_
              rotate_left
              · rintro w' ⟨s0, s1, s2, s3, s4, s5, s6, s7, s8, s9, s10, s11, s12, s13, s14, s15, s16, s17, s18⟩
                go_simp
                with_reducible rfl
              rotate_left
              · simp only [Act.put, List.setIfInBounds_toArray, List.set_cons_zero, List.set_cons_succ, i64_w, i32_w]
                rfl
              refine one_ (i := 15) (N := some 57) #[true, true, true, true, true, true, true, true, true, true, true, true, true, true, true, true, false, false, false, false, false, false, false, false, false, false, false] rfl rfl (by kernel_rfl) (by decide) (fun K hK => ?_)
              refine goesV_ Tryd.func27 (by kernel_rfl) rfl #[encP x A0 c0, pt g, pt gb, pt gt] (by rfl) rfl (t := 52) (cb := #[pt g, pt gb, pt gt]) rfl (by rfl) ?_ ?_
              · first | rfl | (simp only [List.map_toArray, List.map_cons, List.map_nil]; rfl)
              with_reducible refine (HX0.out _ (Below.refl _ _)).mono ?_
              rintro e_ w6 ⟨rfl, hb6⟩
              refine ⟨_, rfl, ?_⟩
              refine hK.out _ _ ⟨cells_later hb6 hHeld.1, cells_later hb6 hHeld.2.1, cells_later hb6 hHeld.2.2.1, cells_later hb6 hHeld.2.2.2.1, cells_later hb6 hHeld.2.2.2.2.1, cells_later hb6 hHeld.2.2.2.2.2.1, cells_later hb6 hHeld.2.2.2.2.2.2.1, cells_later hb6 hHeld.2.2.2.2.2.2.2.1, cells_later hb6 hHeld.2.2.2.2.2.2.2.2.1, cells_later hb6 hHeld.2.2.2.2.2.2.2.2.2.1, cells_later hb6 hHeld.2.2.2.2.2.2.2.2.2.2.1, cells_later hb6 hHeld.2.2.2.2.2.2.2.2.2.2.2.1, cells_later hb6 hHeld.2.2.2.2.2.2.2.2.2.2.2.2.1, cells_later hb6 hHeld.2.2.2.2.2.2.2.2.2.2.2.2.2.1, cells_later hb6 hHeld.2.2.2.2.2.2.2.2.2.2.2.2.2.2.1, cells_later hb6 hHeld.2.2.2.2.2.2.2.2.2.2.2.2.2.2.2.1, cells_later hb6 hHeld.2.2.2.2.2.2.2.2.2.2.2.2.2.2.2.2.1, cells_later hb6 hHeld.2.2.2.2.2.2.2.2.2.2.2.2.2.2.2.2.2.1, cells_later hb6 hHeld.2.2.2.2.2.2.2.2.2.2.2.2.2.2.2.2.2.2⟩ (fun hHeld => ?_)
              clear hK K
              refine norm_ (a' := ?_) ?_ ?_
              rotate_left
              · show Act.put _ (some 57) _ = _
                simp only [Act.put, List.setIfInBounds_toArray, List.set_cons_zero, List.set_cons_succ, i64_w, i32_w]
                rfl
              refine pure_ (i := 16) (N := some 58) (v := ?_) (a' := ?_) #[true, true, true, true, true, true, true, true, true, true, true, true, true, true, true, true, true, false, false, false, false, false, false, false, false, false, false] rfl rfl (by kernel_rfl) (fun _ _ _ h => h) (Or.inl ⟨by rfl, ?_⟩) ?_ ?_
              rotate_left
              · intro w'
                go_simp
                with_reducible rfl
              rotate_left
              · simp only [Act.put, List.setIfInBounds_toArray, List.set_cons_zero, List.set_cons_succ, i64_w, i32_w]
                rfl
              refine pure_ (i := 17) (N := some 59) (v := ?_) (a' := ?_) #[true, true, true, true, true, true, true, true, true, true, true, true, true, true, true, true, true, true, false, false, false, false, false, false, false, false, false] rfl rfl (by kernel_rfl) (fun _ _ _ h => h) (Or.inl ⟨by rfl, ?_⟩) ?_ ?_
              rotate_left
              · intro w'
                go_simp
                with_reducible rfl
              rotate_left
              · simp only [Act.put, List.setIfInBounds_toArray, List.set_cons_zero, List.set_cons_succ, i64_w, i32_w]
                rfl
              refine pure_ (i := 18) (N := some 60) (v := ?_) (a' := ?_) #[true, true, true, true, true, true, true, true, true, true, true, true, true, true, true, true, true, true, true, false, false, false, false, false, false, false, false] rfl rfl (by kernel_rfl) (fun _ _ _ h => h) (Or.inl ⟨by rfl, ?_⟩) ?_ ?_
              rotate_left
              · intro w'
                go_simp
                with_reducible rfl
              rotate_left
              · simp only [Act.put, List.setIfInBounds_toArray, List.set_cons_zero, List.set_cons_succ, i64_w, i32_w]
                rfl
              refine pure_ (i := 20) (N := some 62) (v := ?_) (a' := ?_) #[true, true, true, true, true, true, true, true, true, true, true, true, true, true, true, true, true, true, true, false, true, false, false, false, false, false, false] rfl rfl (by kernel_rfl) (fun _ _ _ h => h) (Or.inl ⟨by rfl, ?_⟩) ?_ ?_
              rotate_left
              · intro w'
                go_simp
                with_reducible rfl
              rotate_left
              · simp only [Act.put, List.setIfInBounds_toArray, List.set_cons_zero, List.set_cons_succ, i64_w, i32_w]
                rfl
              refine take_ (i := 19) (N := some 61) (v := ?_) (a' := ?_) #[true, true, true, true, true, true, true, true, true, true, true, true, true, true, true, true, true, true, true, true, true, false, false, false, false, false, false] rfl rfl (by kernel_rfl) (fun _ _ _ h => h) (Or.inl ⟨by rfl, ?_⟩) hHeld ?_ ?_
              rotate_left
              · rintro w' ⟨s0, s1, s2, s3, s4, s5, s6, s7, s8, s9, s10, s11, s12, s13, s14, s15, s16, s17, s18⟩
                go_simp
                with_reducible rfl
              rotate_left
              · simp only [Act.put, List.setIfInBounds_toArray, List.set_cons_zero, List.set_cons_succ, i64_w, i32_w]
                rfl
              refine take_ (i := 21) (N := some 63) (v := ?_) (a' := ?_) #[true, true, true, true, true, true, true, true, true, true, true, true, true, true, true, true, true, true, true, true, true, true, false, false, false, false, false] rfl rfl (by kernel_rfl) (fun _ _ _ h => h) (Or.inl ⟨by rfl, ?_⟩) hHeld ?_ ?_
              rotate_left
              · rintro w' ⟨s0, s1, s2, s3, s4, s5, s6, s7, s8, s9, s10, s11, s12, s13, s14, s15, s16, s17, s18⟩
                go_simp
                with_reducible rfl
              rotate_left
              · simp only [Act.put, List.setIfInBounds_toArray, List.set_cons_zero, List.set_cons_succ, i64_w, i32_w]
                rfl
              refine pure_ (i := 22) (N := some 64) (v := ?_) (a' := ?_) #[true, true, true, true, true, true, true, true, true, true, true, true, true, true, true, true, true, true, true, true, true, true, true, false, false, false, false] rfl rfl (by kernel_rfl) (fun _ _ _ h => h) (Or.inl ⟨by rfl, ?_⟩) ?_ ?_
              rotate_left
              · intro w'
                go_simp
                with_reducible rfl
              rotate_left
              · simp only [Act.put, List.setIfInBounds_toArray, List.set_cons_zero, List.set_cons_succ, i64_w, i32_w]
                rfl
              refine take_ (i := 23) (N := some 65) (v := ?_) (a' := ?_) #[true, true, true, true, true, true, true, true, true, true, true, true, true, true, true, true, true, true, true, true, true, true, true, true, false, false, false] rfl rfl (by kernel_rfl) (fun _ _ _ h => h) (Or.inl ⟨by rfl, ?_⟩) hHeld ?_ ?_
              rotate_left
              · rintro w' ⟨s0, s1, s2, s3, s4, s5, s6, s7, s8, s9, s10, s11, s12, s13, s14, s15, s16, s17, s18⟩
                go_simp
                with_reducible rfl
              rotate_left
              · simp only [Act.put, List.setIfInBounds_toArray, List.set_cons_zero, List.set_cons_succ, i64_w, i32_w]
                rfl
              refine one_ (i := 24) (N := some 66) #[true, true, true, true, true, true, true, true, true, true, true, true, true, true, true, true, true, true, true, true, true, true, true, true, true, false, false] rfl rfl (by kernel_rfl) (by decide) (fun K hK => ?_)
              refine goesV_ Tryd.func27 (by kernel_rfl) rfl #[encP y A1 c1, pt g, pt gb, pt gt] (by rfl) rfl (t := 61) (cb := #[pt g, pt gb, pt gt]) rfl (by rfl) ?_ ?_
              · first | rfl | (simp only [List.map_toArray, List.map_cons, List.map_nil]; rfl)
              with_reducible refine (HX1.out _ hb6).mono ?_
              rintro e_ w7 ⟨rfl, hb7⟩
              refine ⟨_, rfl, ?_⟩
              refine hK.out _ _ ⟨cells_later hb7 hHeld.1, cells_later hb7 hHeld.2.1, cells_later hb7 hHeld.2.2.1, cells_later hb7 hHeld.2.2.2.1, cells_later hb7 hHeld.2.2.2.2.1, cells_later hb7 hHeld.2.2.2.2.2.1, cells_later hb7 hHeld.2.2.2.2.2.2.1, cells_later hb7 hHeld.2.2.2.2.2.2.2.1, cells_later hb7 hHeld.2.2.2.2.2.2.2.2.1, cells_later hb7 hHeld.2.2.2.2.2.2.2.2.2.1, cells_later hb7 hHeld.2.2.2.2.2.2.2.2.2.2.1, cells_later hb7 hHeld.2.2.2.2.2.2.2.2.2.2.2.1, cells_later hb7 hHeld.2.2.2.2.2.2.2.2.2.2.2.2.1, cells_later hb7 hHeld.2.2.2.2.2.2.2.2.2.2.2.2.2.1, cells_later hb7 hHeld.2.2.2.2.2.2.2.2.2.2.2.2.2.2.1, cells_later hb7 hHeld.2.2.2.2.2.2.2.2.2.2.2.2.2.2.2.1, cells_later hb7 hHeld.2.2.2.2.2.2.2.2.2.2.2.2.2.2.2.2.1, cells_later hb7 hHeld.2.2.2.2.2.2.2.2.2.2.2.2.2.2.2.2.2.1, cells_later hb7 hHeld.2.2.2.2.2.2.2.2.2.2.2.2.2.2.2.2.2.2⟩ (fun hHeld => ?_)
              clear hK K
              refine norm_ (a' := ?_) ?_ ?_
              rotate_left
              · show Act.put _ (some 66) _ = _
                simp only [Act.put, List.setIfInBounds_toArray, List.set_cons_zero, List.set_cons_succ, i64_w, i32_w]
                rfl
              refine pure_ (i := 25) (N := some 67) (v := ?_) (a' := ?_) #[true, true, true, true, true, true, true, true, true, true, true, true, true, true, true, true, true, true, true, true, true, true, true, true, true, true, false] rfl rfl (by kernel_rfl) (fun _ _ _ h => h) (Or.inl ⟨by rfl, ?_⟩) ?_ ?_
              rotate_left
              · intro w'
                go_simp
                with_reducible rfl
              rotate_left
              · simp only [Act.put, List.setIfInBounds_toArray, List.set_cons_zero, List.set_cons_succ, i64_w, i32_w]
                rfl
              refine pure_ (i := 26) (N := some 68) (v := ?_) (a' := ?_) #[true, true, true, true, true, true, true, true, true, true, true, true, true, true, true, true, true, true, true, true, true, true, true, true, true, true, true] rfl rfl (by kernel_rfl) (fun _ _ _ h => h) (Or.inl ⟨by rfl, ?_⟩) ?_ ?_
              rotate_left
              · intro w'
                go_simp
                with_reducible rfl
              rotate_left
              · simp only [Act.put, List.setIfInBounds_toArray, List.set_cons_zero, List.set_cons_succ, i64_w, i32_w]
                rfl
              refine done_ (by kernel_rfl) ?_
              have HB7 := Aside0.mk (bst (bst HB3d.out hb6) hb7)
              have HD7 := Aside0.mk ((below_drew (Below.refl w3.heap.size w3)).trans (bst hb6 hb7))
              have BK7 := Aside0.mk ((HD7.out.block gp (blk_lt BK3.out)).trans BK3.out)
              have HE7 := Aside0.mk (HE3.out.below HD7.out)
              have hy7 := cells_later hb7 (cells_later hb6 m6_.out)
              have hy15 := cells_later hb7 (cells_later hb6 m14_.out)
              clear hb6 hb7 hHeld m0_ m1_ m2_ m3_ m4_ m5_ m6_ m7_ m8_ m9_ m10_ m11_ m12_ m13_ m14_ m15_ m16_ m17_ m18_
              have k0 := (blk_cell BK7.out 0).trans (rfl : _ = some (Value.int .i64 p.f0))
              have k1 := (blk_cell BK7.out 1).trans (rfl : _ = some (Value.int .i64 p.f1))
              have k2 := (blk_cell BK7.out 2).trans (rfl : _ = some (Value.int .i64 p.f2))
              have k3 := (blk_cell BK7.out 3).trans (rfl : _ = some (Value.int .i64 p.f3))
              have k4 := (blk_cell BK7.out 4).trans (rfl : _ = some (Value.bool p.f4))
              have k5 := (blk_cell BK7.out 5).trans (rfl : _ = some (Value.int .i64 p.f5))
              have k6 := (blk_cell BK7.out 6).trans (rfl : _ = some (Value.int .i64 p.f6))
              have k7 := (blk_cell BK7.out 7).trans (rfl : _ = some (Value.slice (some ad) p.f7.length c))
              go_upto_region 6 with fail
              go_quiet (fail)
              have HD8 := Aside0.mk (pw_below_drewN (Below.refl w7.heap.size w7) nq)
              have HB8 := Aside0.mk (bst HB7.out HD8.out)
              have BK8 := Aside0.mk ((HD8.out.block gp (blk_lt BK7.out)).trans BK7.out)
              have HE8 := Aside0.mk (HE7.out.below HD8.out)
              clear k0 k1 k2 k3 k4 k5 k6 k7 hy7 hy15
              generalize w7.drewN nq = w8 at *
              have k0 := (blk_cell BK8.out 0).trans (rfl : _ = some (Value.int .i64 p.f0))
              have k1 := (blk_cell BK8.out 1).trans (rfl : _ = some (Value.int .i64 p.f1))
              have k2 := (blk_cell BK8.out 2).trans (rfl : _ = some (Value.int .i64 p.f2))
              have k3 := (blk_cell BK8.out 3).trans (rfl : _ = some (Value.int .i64 p.f3))
              have k4 := (blk_cell BK8.out 4).trans (rfl : _ = some (Value.bool p.f4))
              have k5 := (blk_cell BK8.out 5).trans (rfl : _ = some (Value.int .i64 p.f5))
              have k6 := (blk_cell BK8.out 6).trans (rfl : _ = some (Value.int .i64 p.f6))
              have k7 := (blk_cell BK8.out 7).trans (rfl : _ = some (Value.slice (some ad) p.f7.length c))
              have b0 := (blk_cell HE8.out.hB 0).trans (rfl : _ = some (Value.slice b.A0 b.n0 b.c0))
              have b1 := (blk_cell HE8.out.hB 1).trans (rfl : _ = some (Value.int .i64 b.core))
              have b2 := (blk_cell HE8.out.hB 2).trans (rfl : _ = some (Value.slice b.A2 b.n2 b.c2))
              have b3 := (blk_cell HE8.out.hB 3).trans (rfl : _ = some (Value.slice b.A3 b.n3 b.c3))
              have b4 := (blk_cell HE8.out.hB 4).trans (rfl : _ = some (Value.slice b.A4 b.n4 b.c4))
              have b5 := (blk_cell HE8.out.hB 5).trans (rfl : _ = some (Value.slice b.A5 b.n5 b.c5))
              have b6 := (blk_cell HE8.out.hB 6).trans (rfl : _ = some (Value.slice b.A6 b.n6 b.c6))
              have b7 := (blk_cell HE8.out.hB 7).trans (rfl : _ = some (Value.bool b.g7))
              have b8 := (blk_cell HE8.out.hB 8).trans (rfl : _ = some (Value.slice b.A8 b.n8 b.c8))
              have b9 := (blk_cell HE8.out.hB 9).trans (rfl : _ = some (Value.slice b.A9 b.n9 b.c9))
              have b10 := (blk_cell HE8.out.hB 10).trans (rfl : _ = some (Value.bool b.d10))
              rcases Bool.eq_false_or_eq_true (p.f0 == 3) with q3 | q3
              · have HCD3 : Aside0 (condB L p = (p.f2 == 0)) := ⟨by rw [HCD.out, if_pos (by simpa using q3)]⟩
                have q3n : (p.f0 != 3) = false := by simpa using q3
                rcases Bool.eq_false_or_eq_true (p.f2 != 0) with q2 | q2
                · have HN : Aside0 (NX = false) := ⟨by rw [HNK.out, HCD3.out, if_neg (by simpa using q2)]⟩
                  go_wp2
                  go_ret
                  rw [HN.out]
                  exact ⟨rfl, HB8.out⟩
                · have HNS : Aside0 (NX = setB p) := ⟨by rw [HNK.out, HCD3.out, if_pos (by simpa using q2)]⟩
                  rcases Bool.eq_false_or_eq_true (Go.bits .and .i64 x.f3 y.f3 == 0) with qa | qa
                  · have HN : Aside0 (NX = (p.f3 == Go.bits .or .i64 x.f3 y.f3)) := ⟨by rw [HNS.out, HSB.out, if_pos (by simpa using qa)]⟩
                    go_wp2
                    go_ret
                    rw [HN.out]
                    exact ⟨rfl, HB8.out⟩
                  · have HN : Aside0 (NX = false) := ⟨by rw [HNS.out, HSB.out, if_neg (by simpa using qa)]⟩
                    go_wp2
                    go_ret
                    rw [HN.out]
                    exact ⟨rfl, HB8.out⟩
              · have q3n : (p.f0 != 3) = true := by simpa using q3
                have HCD3 : Aside0 (condB L p = joinsX L p.f2 x.f3 y.f3) := ⟨by rw [HCD.out, if_neg (by simpa using q3)]⟩
                obtain ⟨jb, hjb⟩ : ∃ v, v = joinsX L p.f2 x.f3 y.f3 := ⟨_, rfl⟩
                have HJ12 : Aside0 (Calls Tryd.prog 12 #[b.enc, .int .i64 p.f2, .int .i64 x.f3, .int .i64 y.f3] w8 fun e_ w' => e_ = .returned (.bool jb) ∧ Below w8.heap.size w8 w') := ⟨by rw [hjb]; exact joins12 b L p.f2 x.f3 y.f3 w8 HE8.out.n4 (Kd.C_below HE8.out.hL HE8.out.low)⟩
                rw [← hjb] at HCD3
                clear hjb
                rcases jb with _ | _
                · have HN : Aside0 (NX = false) := ⟨by rw [HNK.out, HCD3.out]; rfl⟩
                  go_wp2_with (go_at_call 12; refine HJ12.out.mono ?_; rintro e_ w9 ⟨rfl, hb9⟩; have HB9 := Aside0.mk (bst HB8.out hb9); have BK9 := Aside0.mk ((hb9.block gp (blk_lt BK8.out)).trans BK8.out); clear hb9 HJ12 k0 k1 k2 k3 k4 k5 k6 k7 b0 b1 b2 b3 b4 b5 b6 b7 b8 b9 b10; have k0 := (blk_cell BK9.out 0).trans (rfl : _ = some (Value.int .i64 p.f0)); have k1 := (blk_cell BK9.out 1).trans (rfl : _ = some (Value.int .i64 p.f1)); have k2 := (blk_cell BK9.out 2).trans (rfl : _ = some (Value.int .i64 p.f2)); have k3 := (blk_cell BK9.out 3).trans (rfl : _ = some (Value.int .i64 p.f3)); have k4 := (blk_cell BK9.out 4).trans (rfl : _ = some (Value.bool p.f4)); have k5 := (blk_cell BK9.out 5).trans (rfl : _ = some (Value.int .i64 p.f5)); have k6 := (blk_cell BK9.out 6).trans (rfl : _ = some (Value.int .i64 p.f6)); have k7 := (blk_cell BK9.out 7).trans (rfl : _ = some (Value.slice (some ad) p.f7.length c)))
                  go_ret
                  rw [HN.out]
                  exact ⟨rfl, HB9.out⟩
                · have HNS : Aside0 (NX = setB p) := ⟨by rw [HNK.out, HCD3.out]; rfl⟩
                  rcases Bool.eq_false_or_eq_true (Go.bits .and .i64 x.f3 y.f3 == 0) with qa | qa
                  · have HN : Aside0 (NX = (p.f3 == Go.bits .or .i64 x.f3 y.f3)) := ⟨by rw [HNS.out, HSB.out, if_pos (by simpa using qa)]⟩
                    go_wp2_with (go_at_call 12; refine HJ12.out.mono ?_; rintro e_ w9 ⟨rfl, hb9⟩; have HB9 := Aside0.mk (bst HB8.out hb9); have BK9 := Aside0.mk ((hb9.block gp (blk_lt BK8.out)).trans BK8.out); clear hb9 HJ12 k0 k1 k2 k3 k4 k5 k6 k7 b0 b1 b2 b3 b4 b5 b6 b7 b8 b9 b10; have k0 := (blk_cell BK9.out 0).trans (rfl : _ = some (Value.int .i64 p.f0)); have k1 := (blk_cell BK9.out 1).trans (rfl : _ = some (Value.int .i64 p.f1)); have k2 := (blk_cell BK9.out 2).trans (rfl : _ = some (Value.int .i64 p.f2)); have k3 := (blk_cell BK9.out 3).trans (rfl : _ = some (Value.int .i64 p.f3)); have k4 := (blk_cell BK9.out 4).trans (rfl : _ = some (Value.bool p.f4)); have k5 := (blk_cell BK9.out 5).trans (rfl : _ = some (Value.int .i64 p.f5)); have k6 := (blk_cell BK9.out 6).trans (rfl : _ = some (Value.int .i64 p.f6)); have k7 := (blk_cell BK9.out 7).trans (rfl : _ = some (Value.slice (some ad) p.f7.length c)))
                    go_ret
                    rw [HN.out]
                    exact ⟨rfl, HB9.out⟩
                  · have HN : Aside0 (NX = false) := ⟨by rw [HNS.out, HSB.out, if_neg (by simpa using qa)]⟩
                    go_wp2_with (go_at_call 12; refine HJ12.out.mono ?_; rintro e_ w9 ⟨rfl, hb9⟩; have HB9 := Aside0.mk (bst HB8.out hb9); have BK9 := Aside0.mk ((hb9.block gp (blk_lt BK8.out)).trans BK8.out); clear hb9 HJ12 k0 k1 k2 k3 k4 k5 k6 k7 b0 b1 b2 b3 b4 b5 b6 b7 b8 b9 b10; have k0 := (blk_cell BK9.out 0).trans (rfl : _ = some (Value.int .i64 p.f0)); have k1 := (blk_cell BK9.out 1).trans (rfl : _ = some (Value.int .i64 p.f1)); have k2 := (blk_cell BK9.out 2).trans (rfl : _ = some (Value.int .i64 p.f2)); have k3 := (blk_cell BK9.out 3).trans (rfl : _ = some (Value.int .i64 p.f3)); have k4 := (blk_cell BK9.out 4).trans (rfl : _ = some (Value.bool p.f4)); have k5 := (blk_cell BK9.out 5).trans (rfl : _ = some (Value.int .i64 p.f5)); have k6 := (blk_cell BK9.out 6).trans (rfl : _ = some (Value.int .i64 p.f6)); have k7 := (blk_cell BK9.out 7).trans (rfl : _ = some (Value.slice (some ad) p.f7.length c)))
                    go_ret
                    rw [HN.out]
                    exact ⟨rfl, HB9.out⟩
      · have hlen : ((p.f7.length : Int) != 2) = true := by simpa using (show ¬ ((p.f7.length : Int) = 2) by omega)
        have HN : Aside0 (NX = false) := ⟨by rw [HNJ.out, twoB_ne (by simpa using h2)]; rfl⟩
        have HB3d : Aside0 (Below w.heap.size w w3.drew) := ⟨below_drew HB3.out⟩
        have m0_ : Aside0 (w3.drew.cell? ⟨gp, 7, none⟩ = some (.slice A p.f7.length c)) := ⟨(blk_cell (blk_drew BK3.out) 7).trans rfl⟩
        have m1_ : Aside0 (w3.drew.cell? ⟨gp, 1, none⟩ = some (.int .i64 p.f1)) := ⟨(blk_cell (blk_drew BK3.out) 1).trans rfl⟩
        clear h2
        refine start_ (n := 27) (S := fun w' => w'.cell? ⟨gp, 7, none⟩ = some (.slice A p.f7.length c) ∧ w'.cell? ⟨gp, 1, none⟩ = some (.int .i64 p.f1)) (ds := []) #[false, false, false, false, false, false, false, false, false, false, false, false, false, false, false, false, false, false, false, false, false, false, false, false, false, false, false] (by kernel_rfl) rfl rfl ⟨m0_.out, m1_.out⟩ (fun hHeld => ?_)
        refine pure_ (i := 0) (N := some 42) (v := ?_) (a' := ?_) #[true, false, false, false, false, false, false, false, false, false, false, false, false, false, false, false, false, false, false, false, false, false, false, false, false, false, false] rfl rfl (by kernel_rfl) (fun _ _ _ h => h) (Or.inl ⟨by rfl, ?_⟩) ?_ ?_
        rotate_left
        · intro w'
          go_simp
          with_reducible rfl
        rotate_left
        · simp only [Act.put, List.setIfInBounds_toArray, List.set_cons_zero, List.set_cons_succ, i64_w, i32_w]
          rfl
        refine take_ (i := 1) (N := some 43) (v := ?_) (a' := ?_) #[true, true, false, false, false, false, false, false, false, false, false, false, false, false, false, false, false, false, false, false, false, false, false, false, false, false, false] rfl rfl (by kernel_rfl) (fun _ _ _ h => h) (Or.inl ⟨by rfl, ?_⟩) hHeld ?_ ?_
        rotate_left
        · rintro w' ⟨s0, s1⟩
          go_simp
          with_reducible rfl
        rotate_left
        · simp only [Act.put, List.setIfInBounds_toArray, List.set_cons_zero, List.set_cons_succ, i64_w, i32_w]
          rfl
        refine pure_ (i := 2) (N := some 44) (v := ?_) (a' := ?_) #[true, true, true, false, false, false, false, false, false, false, false, false, false, false, false, false, false, false, false, false, false, false, false, false, false, false, false] rfl rfl (by kernel_rfl) (fun _ _ _ h => h) (Or.inl ⟨by rfl, ?_⟩) ?_ ?_
        rotate_left
        · intro w'
          go_simp
          with_reducible rfl
        rotate_left
        · simp only [Act.put, List.setIfInBounds_toArray, List.set_cons_zero, List.set_cons_succ, i64_w, i32_w]
          rfl
        refine pure_ (i := 3) (N := some 45) (v := ?_) (a' := ?_) #[true, true, true, true, false, false, false, false, false, false, false, false, false, false, false, false, false, false, false, false, false, false, false, false, false, false, false] rfl rfl (by kernel_rfl) (fun _ _ _ h => h) (Or.inl ⟨by rfl, ?_⟩) ?_ ?_
        rotate_left
        · intro w'
          go_simp
          with_reducible rfl
        rotate_left
        · simp only [Act.put, List.setIfInBounds_toArray, List.set_cons_zero, List.set_cons_succ, i64_w, i32_w]
          rfl
        refine pure_ (i := 4) (N := some 46) (v := ?_) (a' := ?_) #[true, true, true, true, true, false, false, false, false, false, false, false, false, false, false, false, false, false, false, false, false, false, false, false, false, false, false] rfl rfl (by kernel_rfl) (fun _ _ _ h => h) (Or.inl ⟨by rfl, ?_⟩) ?_ ?_
        rotate_left
        · intro w'
          go_simp
          with_reducible rfl
        rotate_left
        · simp only [Act.put, List.setIfInBounds_toArray, List.set_cons_zero, List.set_cons_succ, i64_w, i32_w]
          rfl
        refine pure_ (i := 5) (N := some 47) (v := undef) (a' := ?_) #[true, true, true, true, true, true, false, false, false, false, false, false, false, false, false, false, false, false, false, false, false, false, false, false, false, false, false] rfl rfl (by kernel_rfl) (fun _ _ _ h => h) (Or.inr ⟨by rfl, rfl⟩) ?_ ?_
        rotate_left
        · simp only [Act.put, List.setIfInBounds_toArray, List.set_cons_zero, List.set_cons_succ, i64_w, i32_w]
          rfl
        refine pure_ (i := 6) (N := some 48) (v := undef) (a' := ?_) #[true, true, true, true, true, true, true, false, false, false, false, false, false, false, false, false, false, false, false, false, false, false, false, false, false, false, false] rfl rfl (by kernel_rfl) (fun _ _ _ h => h) (Or.inr ⟨by rfl, rfl⟩) ?_ ?_
        rotate_left
        · simp only [Act.put, List.setIfInBounds_toArray, List.set_cons_zero, List.set_cons_succ, i64_w, i32_w]
          rfl
        refine pure_ (i := 7) (N := some 49) (v := undef) (a' := ?_) #[true, true, true, true, true, true, true, true, false, false, false, false, false, false, false, false, false, false, false, false, false, false, false, false, false, false, false] rfl rfl (by kernel_rfl) (fun _ _ _ h => h) (Or.inr ⟨by rfl, rfl⟩) ?_ ?_
        rotate_left
        · simp only [Act.put, List.setIfInBounds_toArray, List.set_cons_zero, List.set_cons_succ, i64_w, i32_w]
          rfl
        refine pure_ (i := 8) (N := some 50) (v := ?_) (a' := ?_) #[true, true, true, true, true, true, true, true, true, false, false, false, false, false, false, false, false, false, false, false, false, false, false, false, false, false, false] rfl rfl (by kernel_rfl) (fun _ _ _ h => h) (Or.inl ⟨by rfl, ?_⟩) ?_ ?_
        rotate_left
        · intro w'
          go_simp
          with_reducible rfl
        rotate_left
        · simp only [Act.put, List.setIfInBounds_toArray, List.set_cons_zero, List.set_cons_succ, i64_w, i32_w]
          rfl
        refine pure_ (i := 9) (N := some 51) (v := ?_) (a' := ?_) #[true, true, true, true, true, true, true, true, true, true, false, false, false, false, false, false, false, false, false, false, false, false, false, false, false, false, false] rfl rfl (by kernel_rfl) (fun _ _ _ h => h) (Or.inl ⟨by rfl, ?_⟩) ?_ ?_
        rotate_left
        · intro w'
          go_simp
          with_reducible rfl
        rotate_left
        · simp only [Act.put, List.setIfInBounds_toArray, List.set_cons_zero, List.set_cons_succ, i64_w, i32_w]
          rfl
        refine pure_ (i := 10) (N := some 52) (v := undef) (a' := ?_) #[true, true, true, true, true, true, true, true, true, true, true, false, false, false, false, false, false, false, false, false, false, false, false, false, false, false, false] rfl rfl (by kernel_rfl) (fun _ _ _ h => h) (Or.inr ⟨by rfl, rfl⟩) ?_ ?_
        rotate_left
        · simp only [Act.put, List.setIfInBounds_toArray, List.set_cons_zero, List.set_cons_succ, i64_w, i32_w]
          rfl
        refine pure_ (i := 11) (N := some 53) (v := undef) (a' := ?_) #[true, true, true, true, true, true, true, true, true, true, true, true, false, false, false, false, false, false, false, false, false, false, false, false, false, false, false] rfl rfl (by kernel_rfl) (fun _ _ _ h => h) (Or.inr ⟨by rfl, rfl⟩) ?_ ?_
        rotate_left
        · simp only [Act.put, List.setIfInBounds_toArray, List.set_cons_zero, List.set_cons_succ, i64_w, i32_w]
          rfl
        refine pure_ (i := 12) (N := some 54) (v := undef) (a' := ?_) #[true, true, true, true, true, true, true, true, true, true, true, true, true, false, false, false, false, false, false, false, false, false, false, false, false, false, false] rfl rfl (by kernel_rfl) (fun _ _ _ h => h) (Or.inr ⟨by rfl, rfl⟩) ?_ ?_
        rotate_left
        · simp only [Act.put, List.setIfInBounds_toArray, List.set_cons_zero, List.set_cons_succ, i64_w, i32_w]
          rfl
        refine pure_ (i := 13) (N := some 55) (v := undef) (a' := ?_) #[true, true, true, true, true, true, true, true, true, true, true, true, true, true, false, false, false, false, false, false, false, false, false, false, false, false, false] rfl rfl (by kernel_rfl) (fun _ _ _ h => h) (Or.inr ⟨by rfl, rfl⟩) ?_ ?_
        rotate_left
        · simp only [Act.put, List.setIfInBounds_toArray, List.set_cons_zero, List.set_cons_succ, i64_w, i32_w]
          rfl
        refine pure_ (i := 14) (N := some 56) (v := undef) (a' := ?_) #[true, true, true, true, true, true, true, true, true, true, true, true, true, true, true, false, false, false, false, false, false, false, false, false, false, false, false] rfl rfl (by kernel_rfl) (fun _ _ _ h => h) (Or.inr ⟨by rfl, rfl⟩) ?_ ?_
        rotate_left
        · simp only [Act.put, List.setIfInBounds_toArray, List.set_cons_zero, List.set_cons_succ, i64_w, i32_w]
          rfl
        refine pure_ (i := 15) (N := some 57) (v := undef) (a' := ?_) #[true, true, true, true, true, true, true, true, true, true, true, true, true, true, true, true, false, false, false, false, false, false, false, false, false, false, false] rfl rfl (by kernel_rfl) (fun _ _ _ h => h) (Or.inr ⟨by rfl, rfl⟩) ?_ ?_
        rotate_left
        · simp only [Act.put, List.setIfInBounds_toArray, List.set_cons_zero, List.set_cons_succ, i64_w, i32_w]
          rfl
        refine pure_ (i := 16) (N := some 58) (v := undef) (a' := ?_) #[true, true, true, true, true, true, true, true, true, true, true, true, true, true, true, true, true, false, false, false, false, false, false, false, false, false, false] rfl rfl (by kernel_rfl) (fun _ _ _ h => h) (Or.inr ⟨by rfl, rfl⟩) ?_ ?_
        rotate_left
        · simp only [Act.put, List.setIfInBounds_toArray, List.set_cons_zero, List.set_cons_succ, i64_w, i32_w]
          rfl
        refine pure_ (i := 17) (N := some 59) (v := ?_) (a' := ?_) #[true, true, true, true, true, true, true, true, true, true, true, true, true, true, true, true, true, true, false, false, false, false, false, false, false, false, false] rfl rfl (by kernel_rfl) (fun _ _ _ h => h) (Or.inl ⟨by rfl, ?_⟩) ?_ ?_
        rotate_left
        · intro w'
          go_simp
          with_reducible rfl
        rotate_left
        · simp only [Act.put, List.setIfInBounds_toArray, List.set_cons_zero, List.set_cons_succ, i64_w, i32_w]
          rfl
        refine pure_ (i := 18) (N := some 60) (v := ?_) (a' := ?_) #[true, true, true, true, true, true, true, true, true, true, true, true, true, true, true, true, true, true, true, false, false, false, false, false, false, false, false] rfl rfl (by kernel_rfl) (fun _ _ _ h => h) (Or.inl ⟨by rfl, ?_⟩) ?_ ?_
        rotate_left
        · intro w'
          go_simp
          with_reducible rfl
        rotate_left
        · simp only [Act.put, List.setIfInBounds_toArray, List.set_cons_zero, List.set_cons_succ, i64_w, i32_w]
          rfl
        refine pure_ (i := 19) (N := some 61) (v := undef) (a' := ?_) #[true, true, true, true, true, true, true, true, true, true, true, true, true, true, true, true, true, true, true, true, false, false, false, false, false, false, false] rfl rfl (by kernel_rfl) (fun _ _ _ h => h) (Or.inr ⟨by rfl, rfl⟩) ?_ ?_
        rotate_left
        · simp only [Act.put, List.setIfInBounds_toArray, List.set_cons_zero, List.set_cons_succ, i64_w, i32_w]
          rfl
        refine pure_ (i := 20) (N := some 62) (v := undef) (a' := ?_) #[true, true, true, true, true, true, true, true, true, true, true, true, true, true, true, true, true, true, true, true, true, false, false, false, false, false, false] rfl rfl (by kernel_rfl) (fun _ _ _ h => h) (Or.inr ⟨by rfl, rfl⟩) ?_ ?_
        rotate_left
        · simp only [Act.put, List.setIfInBounds_toArray, List.set_cons_zero, List.set_cons_succ, i64_w, i32_w]
          rfl
        refine pure_ (i := 21) (N := some 63) (v := undef) (a' := ?_) #[true, true, true, true, true, true, true, true, true, true, true, true, true, true, true, true, true, true, true, true, true, true, false, false, false, false, false] rfl rfl (by kernel_rfl) (fun _ _ _ h => h) (Or.inr ⟨by rfl, rfl⟩) ?_ ?_
        rotate_left
        · simp only [Act.put, List.setIfInBounds_toArray, List.set_cons_zero, List.set_cons_succ, i64_w, i32_w]
          rfl
        refine pure_ (i := 22) (N := some 64) (v := undef) (a' := ?_) #[true, true, true, true, true, true, true, true, true, true, true, true, true, true, true, true, true, true, true, true, true, true, true, false, false, false, false] rfl rfl (by kernel_rfl) (fun _ _ _ h => h) (Or.inr ⟨by rfl, rfl⟩) ?_ ?_
        rotate_left
        · simp only [Act.put, List.setIfInBounds_toArray, List.set_cons_zero, List.set_cons_succ, i64_w, i32_w]
          rfl
        refine pure_ (i := 23) (N := some 65) (v := undef) (a' := ?_) #[true, true, true, true, true, true, true, true, true, true, true, true, true, true, true, true, true, true, true, true, true, true, true, true, false, false, false] rfl rfl (by kernel_rfl) (fun _ _ _ h => h) (Or.inr ⟨by rfl, rfl⟩) ?_ ?_
        rotate_left
        · simp only [Act.put, List.setIfInBounds_toArray, List.set_cons_zero, List.set_cons_succ, i64_w, i32_w]
          rfl
        refine pure_ (i := 24) (N := some 66) (v := undef) (a' := ?_) #[true, true, true, true, true, true, true, true, true, true, true, true, true, true, true, true, true, true, true, true, true, true, true, true, true, false, false] rfl rfl (by kernel_rfl) (fun _ _ _ h => h) (Or.inr ⟨by rfl, rfl⟩) ?_ ?_
        rotate_left
        · simp only [Act.put, List.setIfInBounds_toArray, List.set_cons_zero, List.set_cons_succ, i64_w, i32_w]
          rfl
        refine pure_ (i := 25) (N := some 67) (v := undef) (a' := ?_) #[true, true, true, true, true, true, true, true, true, true, true, true, true, true, true, true, true, true, true, true, true, true, true, true, true, true, false] rfl rfl (by kernel_rfl) (fun _ _ _ h => h) (Or.inr ⟨by rfl, rfl⟩) ?_ ?_
        rotate_left
        · simp only [Act.put, List.setIfInBounds_toArray, List.set_cons_zero, List.set_cons_succ, i64_w, i32_w]
          rfl
        refine pure_ (i := 26) (N := some 68) (v := ?_) (a' := ?_) #[true, true, true, true, true, true, true, true, true, true, true, true, true, true, true, true, true, true, true, true, true, true, true, true, true, true, true] rfl rfl (by kernel_rfl) (fun _ _ _ h => h) (Or.inl ⟨by rfl, ?_⟩) ?_ ?_
        rotate_left
        · intro w'
          go_simp
          with_reducible rfl
        rotate_left
        · simp only [Act.put, List.setIfInBounds_toArray, List.set_cons_zero, List.set_cons_succ, i64_w, i32_w]
          rfl
        refine done_ (by kernel_rfl) ?_
        go_wp2
        go_ret
        rw [HN.out]
        exact ⟨rfl, HB3d.out⟩
    · have HJ := Aside0.mk (join28_ (A := A) (c := c) qj)
      have HNJ : Aside0 (NX = if p.f7.length ≠ 0 then false
        else if p.f0 = 1 then (if tableB b.core p = true then p.f2 == 0 else false)
        else if p.f0 = 2 then (if tableB b.core p = true then (looksO L p.f2 p.f1).isSome else false)
        else if p.f0 = 6 then tempB b.core T p
        else false) := ⟨by rw [HNB.out, if_neg (by rw [qj]; decide)]⟩
      clear qj
      go_upto_region 10 with (go_at_call 28; refine (HJ.out _).mono ?_; rintro e_ w3 ⟨rfl, hb3⟩; have HB3 := Aside0.mk (bst HB2.out hb3); have BK3 := Aside0.mk ((hb3.block gp (blk_lt BK2.out)).trans BK2.out); have HE3 := Aside0.mk ((HE.out.below HB2.out).below hb3); clear hb3 k0 k1 k2 k3 k4 k5 k6 k7)
      have HCO := Aside0.mk (And.intro HE3.out.c1 HE3.out.c4)
      have k0 := (blk_cell BK3.out 0).trans (rfl : _ = some (Value.int .i64 p.f0))
      have k1 := (blk_cell BK3.out 1).trans (rfl : _ = some (Value.int .i64 p.f1))
      have k2 := (blk_cell BK3.out 2).trans (rfl : _ = some (Value.int .i64 p.f2))
      have k3 := (blk_cell BK3.out 3).trans (rfl : _ = some (Value.int .i64 p.f3))
      have k4 := (blk_cell BK3.out 4).trans (rfl : _ = some (Value.bool p.f4))
      have k5 := (blk_cell BK3.out 5).trans (rfl : _ = some (Value.int .i64 p.f5))
      have k6 := (blk_cell BK3.out 6).trans (rfl : _ = some (Value.int .i64 p.f6))
      have k7 := (blk_cell BK3.out 7).trans (rfl : _ = some (Value.slice A p.f7.length c))
      have b0 := (blk_cell HE3.out.hB 0).trans (rfl : _ = some (Value.slice b.A0 b.n0 b.c0))
      have b1 := (blk_cell HE3.out.hB 1).trans (rfl : _ = some (Value.int .i64 b.core))
      have b2 := (blk_cell HE3.out.hB 2).trans (rfl : _ = some (Value.slice b.A2 b.n2 b.c2))
      have b3 := (blk_cell HE3.out.hB 3).trans (rfl : _ = some (Value.slice b.A3 b.n3 b.c3))
      have b4 := (blk_cell HE3.out.hB 4).trans (rfl : _ = some (Value.slice b.A4 b.n4 b.c4))
      have b5 := (blk_cell HE3.out.hB 5).trans (rfl : _ = some (Value.slice b.A5 b.n5 b.c5))
      have b6 := (blk_cell HE3.out.hB 6).trans (rfl : _ = some (Value.slice b.A6 b.n6 b.c6))
      have b7 := (blk_cell HE3.out.hB 7).trans (rfl : _ = some (Value.bool b.g7))
      have b8 := (blk_cell HE3.out.hB 8).trans (rfl : _ = some (Value.slice b.A8 b.n8 b.c8))
      have b9 := (blk_cell HE3.out.hB 9).trans (rfl : _ = some (Value.slice b.A9 b.n9 b.c9))
      have b10 := (blk_cell HE3.out.hB 10).trans (rfl : _ = some (Value.bool b.d10))
      go_cut [8] (fun s8 wx => ∃ tt : Bool, s8 = .bool tt ∧ Aside0 (tableB b.core p = tt) ∧ Aside0 (Below w3.heap.size w3 wx))
      case first =>
        as_aux_lemma =>
          rcases Bool.eq_false_or_eq_true (decide (p.f1 ≥ 0)) with q1 | q1
          · have h1 := of_decide_eq_true q1
            rcases Bool.eq_false_or_eq_true (decide (p.f1 < b.core)) with q2 | q2
            · have HT : Aside0 (tableB b.core p = (p.f3 == wrap64 (2 ^ p.f1.toNat))) := ⟨by unfold tableB; rw [if_pos h1, if_pos (of_decide_eq_true q2)]⟩
              have h0b : decide (0 ≤ p.f1) = true := q1
              have h0n : ¬ p.f1 < 0 := by omega
              have hmn : min p.f1.toNat 64 = p.f1.toNat := by have := HCO.out; have := of_decide_eq_true q2; omega
              go_quiet (fail)
              go_wp2_with fail
              go_meet
              exact ⟨_, rfl, HT, ⟨pw_below_drewN (Below.refl _ _) nq⟩⟩
            · have HT : Aside0 (tableB b.core p = false) := ⟨by unfold tableB; rw [if_pos h1, if_neg (of_decide_eq_false q2)]⟩
              go_quiet (fail)
              go_wp2_with fail
              go_meet
              exact ⟨_, rfl, HT, ⟨pw_below_drewN (Below.refl _ _) nq⟩⟩
          · have HT : Aside0 (tableB b.core p = false) := ⟨by unfold tableB; rw [if_neg (of_decide_eq_false q1)]⟩
            go_quiet (fail)
            go_wp2_with fail
            go_meet
            exact ⟨_, rfl, HT, ⟨pw_below_drewN (Below.refl _ _) nq⟩⟩
      case rest =>
      obtain ⟨tt, rfl, HTT, HW4⟩ := hcut
      obtain ⟨w4, hw4⟩ : ∃ x, x = wc := ⟨_, rfl⟩
      subst hw4
      have HB4 := Aside0.mk (bst HB3.out HW4.out)
      have BK4 := Aside0.mk ((HW4.out.block gp (blk_lt BK3.out)).trans BK3.out)
      have HE4 := Aside0.mk (HE3.out.below HW4.out)
      clear k0 k1 k2 k3 k4 k5 k6 k7 b0 b1 b2 b3 b4 b5 b6 b7 b8 b9 b10
      have k0 := (blk_cell BK4.out 0).trans (rfl : _ = some (Value.int .i64 p.f0))
      have k1 := (blk_cell BK4.out 1).trans (rfl : _ = some (Value.int .i64 p.f1))
      have k2 := (blk_cell BK4.out 2).trans (rfl : _ = some (Value.int .i64 p.f2))
      have k3 := (blk_cell BK4.out 3).trans (rfl : _ = some (Value.int .i64 p.f3))
      have k4 := (blk_cell BK4.out 4).trans (rfl : _ = some (Value.bool p.f4))
      have k5 := (blk_cell BK4.out 5).trans (rfl : _ = some (Value.int .i64 p.f5))
      have k6 := (blk_cell BK4.out 6).trans (rfl : _ = some (Value.int .i64 p.f6))
      have k7 := (blk_cell BK4.out 7).trans (rfl : _ = some (Value.slice A p.f7.length c))
      have b0 := (blk_cell HE4.out.hB 0).trans (rfl : _ = some (Value.slice b.A0 b.n0 b.c0))
      have b1 := (blk_cell HE4.out.hB 1).trans (rfl : _ = some (Value.int .i64 b.core))
      have b2 := (blk_cell HE4.out.hB 2).trans (rfl : _ = some (Value.slice b.A2 b.n2 b.c2))
      have b3 := (blk_cell HE4.out.hB 3).trans (rfl : _ = some (Value.slice b.A3 b.n3 b.c3))
      have b4 := (blk_cell HE4.out.hB 4).trans (rfl : _ = some (Value.slice b.A4 b.n4 b.c4))
      have b5 := (blk_cell HE4.out.hB 5).trans (rfl : _ = some (Value.slice b.A5 b.n5 b.c5))
      have b6 := (blk_cell HE4.out.hB 6).trans (rfl : _ = some (Value.slice b.A6 b.n6 b.c6))
      have b7 := (blk_cell HE4.out.hB 7).trans (rfl : _ = some (Value.bool b.g7))
      have b8 := (blk_cell HE4.out.hB 8).trans (rfl : _ = some (Value.slice b.A8 b.n8 b.c8))
      have b9 := (blk_cell HE4.out.hB 9).trans (rfl : _ = some (Value.slice b.A9 b.n9 b.c9))
      have b10 := (blk_cell HE4.out.hB 10).trans (rfl : _ = some (Value.bool b.d10))
      have hct := (blk_cell HE4.out.hT 0).trans (rfl : _ = some (Value.slice At T.length ct))
      rcases Bool.eq_false_or_eq_true ((p.f7.length : Int) == 0) with ql | ql
      · have hl : p.f7.length = 0 := by have := beq_iff_eq.1 ql; omega
        have HNL : Aside0 (NX = if p.f0 = 1 then (if tableB b.core p = true then p.f2 == 0 else false)
          else if p.f0 = 2 then (if tableB b.core p = true then (looksO L p.f2 p.f1).isSome else false)
          else if p.f0 = 6 then tempB b.core T p
          else false) := ⟨by rw [HNJ.out, if_neg (by omega)]⟩
        clear hl
        rcases Bool.eq_false_or_eq_true (p.f0 == 1) with q1 | q1
        · rcases tt with _ | _
          · have HN : Aside0 (NX = false) := ⟨by rw [HNL.out, if_pos (by simpa using q1), HTT.out]; rfl⟩
            go_wp2
            go_ret
            rw [HN.out]
            exact ⟨rfl, HB4.out⟩
          · have HN : Aside0 (NX = (p.f2 == 0)) := ⟨by rw [HNL.out, if_pos (by simpa using q1), HTT.out]; rfl⟩
            go_wp2
            go_ret
            rw [HN.out]
            exact ⟨rfl, HB4.out⟩
        · have HN1 : Aside0 (NX = if p.f0 = 2 then (if tableB b.core p = true then (looksO L p.f2 p.f1).isSome else false)
            else if p.f0 = 6 then tempB b.core T p
            else false) := ⟨by rw [HNL.out, if_neg (by simpa using q1)]⟩
          rcases Bool.eq_false_or_eq_true (p.f0 == 2) with q2 | q2
          · have HL10 : Aside0 (Calls Tryd.prog 10 #[b.enc, .int .i64 p.f2, .int .i64 p.f1] w4 fun e_ w' => e_ = .returned (.tuple #[.int .i64 ((looksO L p.f2 p.f1).getD 0), .bool (looksO L p.f2 p.f1).isSome]) ∧ Below w4.heap.size w4 w') := ⟨looks10 b L p.f2 p.f1 w4 HE4.out.n4 (Kd.C_below HE4.out.hL HE4.out.low)⟩
            rcases tt with _ | _
            · have HN : Aside0 (NX = false) := ⟨by rw [HN1.out, if_pos (by simpa using q2), HTT.out]; rfl⟩
              go_wp2_with (go_at_call 10; refine HL10.out.mono ?_; rintro e_ w5 ⟨rfl, hb5⟩; have HB5 := Aside0.mk (bst HB4.out hb5); have BK5 := Aside0.mk ((hb5.block gp (blk_lt BK4.out)).trans BK4.out); clear hb5 HL10 k0 k1 k2 k3 k4 k5 k6 k7 b0 b1 b2 b3 b4 b5 b6 b7 b8 b9 b10; have k0 := (blk_cell BK5.out 0).trans (rfl : _ = some (Value.int .i64 p.f0)); have k1 := (blk_cell BK5.out 1).trans (rfl : _ = some (Value.int .i64 p.f1)); have k2 := (blk_cell BK5.out 2).trans (rfl : _ = some (Value.int .i64 p.f2)); have k3 := (blk_cell BK5.out 3).trans (rfl : _ = some (Value.int .i64 p.f3)); have k4 := (blk_cell BK5.out 4).trans (rfl : _ = some (Value.bool p.f4)); have k5 := (blk_cell BK5.out 5).trans (rfl : _ = some (Value.int .i64 p.f5)); have k6 := (blk_cell BK5.out 6).trans (rfl : _ = some (Value.int .i64 p.f6)); have k7 := (blk_cell BK5.out 7).trans (rfl : _ = some (Value.slice A p.f7.length c)))
              go_ret
              rw [HN.out]
              exact ⟨rfl, HB5.out⟩
            · have HN : Aside0 (NX = (looksO L p.f2 p.f1).isSome) := ⟨by rw [HN1.out, if_pos (by simpa using q2), HTT.out]; rfl⟩
              generalize (looksO L p.f2 p.f1).getD 0 = la at *
              generalize (looksO L p.f2 p.f1).isSome = lb at *
              go_wp2_with (go_at_call 10; refine HL10.out.mono ?_; rintro e_ w5 ⟨rfl, hb5⟩; have HB5 := Aside0.mk (bst HB4.out hb5); have BK5 := Aside0.mk ((hb5.block gp (blk_lt BK4.out)).trans BK4.out); clear hb5 HL10 k0 k1 k2 k3 k4 k5 k6 k7 b0 b1 b2 b3 b4 b5 b6 b7 b8 b9 b10; have k0 := (blk_cell BK5.out 0).trans (rfl : _ = some (Value.int .i64 p.f0)); have k1 := (blk_cell BK5.out 1).trans (rfl : _ = some (Value.int .i64 p.f1)); have k2 := (blk_cell BK5.out 2).trans (rfl : _ = some (Value.int .i64 p.f2)); have k3 := (blk_cell BK5.out 3).trans (rfl : _ = some (Value.int .i64 p.f3)); have k4 := (blk_cell BK5.out 4).trans (rfl : _ = some (Value.bool p.f4)); have k5 := (blk_cell BK5.out 5).trans (rfl : _ = some (Value.int .i64 p.f5)); have k6 := (blk_cell BK5.out 6).trans (rfl : _ = some (Value.int .i64 p.f6)); have k7 := (blk_cell BK5.out 7).trans (rfl : _ = some (Value.slice A p.f7.length c)))
              go_ret
              rw [HN.out]
              exact ⟨rfl, HB5.out⟩
          · have HN2 : Aside0 (NX = if p.f0 = 6 then tempB b.core T p else false) := ⟨by rw [HN1.out, if_neg (by simpa using q2)]⟩
            rcases Bool.eq_false_or_eq_true (p.f0 == 6) with q6 | q6
            · have HN6 : Aside0 (NX = tempB b.core T p) := ⟨by rw [HN2.out, if_pos (by simpa using q6)]⟩
              have hc0 : decide (0 ≤ b.core) = true := decide_eq_true (by have := HCO.out; omega)
              have hc1 : ¬ b.core < 0 := by have := HCO.out; omega
              have hmn : min b.core.toNat 64 = b.core.toNat := by have := HCO.out; omega
              rcases Bool.eq_false_or_eq_true (decide (p.f3 ≥ 1)) with r1 | r1
              · rcases Bool.eq_false_or_eq_true (p.f3 / 2 ^ b.core.toNat == 0) with r2 | r2
                · rcases Bool.eq_false_or_eq_true (p.f1 == 0) with r3 | r3
                  · rcases Bool.eq_false_or_eq_true (p.f2 == 0) with r4 | r4
                    · have HN : Aside0 (NX = hasX T p.f3) := ⟨by rw [HN6.out]; unfold tempB; rw [if_pos (of_decide_eq_true r1), if_pos (by simpa using r2), if_pos (by simpa using r3), if_pos (by simpa using r4)]⟩
                      have H29 : Aside0 (Calls Tryd.prog 29 #[.slice At T.length ct, .int .i64 p.f3] w4 fun e_ w' => e_ = .returned (.bool (hasX T p.f3)) ∧ Below w4.heap.size w4 w') := ⟨contains29 At ct T p.f3 w4 (Kd.C_below HE4.out.hTs HE4.out.low)⟩
                      generalize hasX T p.f3 = hx at *
                      go_wp2_with (go_at_call 29; refine H29.out.mono ?_; rintro e_ w5 ⟨rfl, hb5⟩; have HB5 := Aside0.mk (bst HB4.out hb5); clear hb5)
                      go_ret
                      rw [HN.out]
                      exact ⟨rfl, HB5.out⟩
                    · have HN : Aside0 (NX = false) := ⟨by rw [HN6.out]; unfold tempB; rw [if_pos (of_decide_eq_true r1), if_pos (by simpa using r2), if_pos (by simpa using r3), if_neg (by simpa using r4)]⟩
                      go_wp2
                      go_ret
                      rw [HN.out]
                      exact ⟨rfl, HB4.out⟩
                  · have HN : Aside0 (NX = false) := ⟨by rw [HN6.out]; unfold tempB; rw [if_pos (of_decide_eq_true r1), if_pos (by simpa using r2), if_neg (by simpa using r3)]⟩
                    go_wp2
                    go_ret
                    rw [HN.out]
                    exact ⟨rfl, HB4.out⟩
                · have HN : Aside0 (NX = false) := ⟨by rw [HN6.out]; unfold tempB; rw [if_pos (of_decide_eq_true r1), if_neg (by simpa using r2)]⟩
                  go_wp2
                  go_ret
                  rw [HN.out]
                  exact ⟨rfl, HB4.out⟩
              · have HN : Aside0 (NX = false) := ⟨by rw [HN6.out]; unfold tempB; rw [if_neg (of_decide_eq_false r1)]⟩
                go_wp2
                go_ret
                rw [HN.out]
                exact ⟨rfl, HB4.out⟩
            · have HN : Aside0 (NX = false) := ⟨by rw [HN2.out, if_neg (by simpa using q6)]⟩
              go_wp2
              go_ret
              rw [HN.out]
              exact ⟨rfl, HB4.out⟩
      · have hl : p.f7.length ≠ 0 := by have := beq_eq_false_iff_ne.1 ql; omega
        have HN : Aside0 (NX = false) := ⟨by rw [HNJ.out, if_pos hl]⟩
        clear hl
        rcases Bool.eq_false_or_eq_true (p.f0 == 1) with q1 | q1
        · go_wp2
          go_ret
          rw [HN.out]
          exact ⟨rfl, HB4.out⟩
        · rcases Bool.eq_false_or_eq_true (p.f0 == 2) with q2 | q2
          · have HL10 : Aside0 (Calls Tryd.prog 10 #[b.enc, .int .i64 p.f2, .int .i64 p.f1] w4 fun e_ w' => e_ = .returned (.tuple #[.int .i64 ((looksO L p.f2 p.f1).getD 0), .bool (looksO L p.f2 p.f1).isSome]) ∧ Below w4.heap.size w4 w') := ⟨looks10 b L p.f2 p.f1 w4 HE4.out.n4 (Kd.C_below HE4.out.hL HE4.out.low)⟩
            go_wp2_with (go_at_call 10; refine HL10.out.mono ?_; rintro e_ w5 ⟨rfl, hb5⟩; have HB5 := Aside0.mk (bst HB4.out hb5); have BK5 := Aside0.mk ((hb5.block gp (blk_lt BK4.out)).trans BK4.out); clear hb5 HL10 k0 k1 k2 k3 k4 k5 k6 k7 b0 b1 b2 b3 b4 b5 b6 b7 b8 b9 b10; have k0 := (blk_cell BK5.out 0).trans (rfl : _ = some (Value.int .i64 p.f0)); have k1 := (blk_cell BK5.out 1).trans (rfl : _ = some (Value.int .i64 p.f1)); have k2 := (blk_cell BK5.out 2).trans (rfl : _ = some (Value.int .i64 p.f2)); have k3 := (blk_cell BK5.out 3).trans (rfl : _ = some (Value.int .i64 p.f3)); have k4 := (blk_cell BK5.out 4).trans (rfl : _ = some (Value.bool p.f4)); have k5 := (blk_cell BK5.out 5).trans (rfl : _ = some (Value.int .i64 p.f5)); have k6 := (blk_cell BK5.out 6).trans (rfl : _ = some (Value.int .i64 p.f6)); have k7 := (blk_cell BK5.out 7).trans (rfl : _ = some (Value.slice A p.f7.length c)))
            go_ret
            rw [HN.out]
            exact ⟨rfl, HB5.out⟩
          · rcases Bool.eq_false_or_eq_true (p.f0 == 6) with q6 | q6
            · go_wp2
              go_ret
              rw [HN.out]
              exact ⟨rfl, HB4.out⟩
            · go_wp2
              go_ret
              rw [HN.out]
              exact ⟨rfl, HB4.out⟩

end Go.Proofs.YtmnjaihalajhcaaDoor.QPlanConds
