import Derived.Test.YtmnjaihalajhcaaDoorPlD
/- Plan: walks by hand; the conditions stand in each theorem. -/
namespace Go.Proofs.YtmnjaihalajhcaaDoor.QPlanConds
open Go.RowKit Go.Proofs.YtmnjaihalajhcaaDoorW.PrintWords Go.Proofs.YtmnjaihalajhcaaDoorW.PrintLast Go.Proofs.YtmnjaihalajhcaaDoorW.PrintMore
attribute [local go_sem] max2_int min2_int max_two min_two max_three min_three max_four min_four
set_option linter.unusedVariables false
set_option linter.unusedSimpArgs false
theorem exec_store_row {P : Program} {o : Oper} {ev : Operand → Value} {w : World} (ty : TypeId) (x y : Operand) (ho : o.op = .store ty x y)
    (g : Nat) (cells : Array Value) (hx : ev x = .pointer (some ⟨g, 0, none⟩)) (hy : ev y = .agg cells)
    (t : TypeId) (old : Array Value) (hg : w.heap[g]? = some (.cells old t (0, 0))) (hi : (P.info? ty).map (·.size) = some cells.size)
    (hold : old.size = cells.size) (h1 : cells.all (·.oneCell') = true) : (execOp ev o).run P w = .ok .skip (w.setRow g cells) := by
  unfold execOp
  simp only [ho, hx, hy, Instr.storeAt, Instr.sureAddr, Sem.run_bind, Sem.run_pure, Result.andThen_ok, run_storeVar_row w g t ty old cells hg hi hold h1]
theorem below_row {w0 w : World} {g : Nat} {cs : Array Value} {B : Nat} (h : Below B w0 w) (hg : B ≤ g) : Below B w0 (w.setRow g cs) :=
  h.trans ⟨rfl, rfl, rfl, by simp [World.setRow], fun k hk => setRow_other w g cs k (by omega)⟩
/- A block's parts as they lie in memory. -/
structure BV where
  A0 : Option Addr
  n0 : Nat
  c0 : Nat
  core : Int
  A2 : Option Addr
  n2 : Nat
  c2 : Nat
  A3 : Option Addr
  n3 : Nat
  c3 : Nat
  A4 : Option Addr
  n4 : Nat
  c4 : Nat
  A5 : Option Addr
  n5 : Nat
  c5 : Nat
  A6 : Option Addr
  n6 : Nat
  c6 : Nat
  g7 : Bool
  A8 : Option Addr
  n8 : Nat
  c8 : Nat
  A9 : Option Addr
  n9 : Nat
  c9 : Nat
  d10 : Bool
def BV.cells (b : BV) : Array Value := #[.slice b.A0 b.n0 b.c0, .int .i64 b.core, .slice b.A2 b.n2 b.c2, .slice b.A3 b.n3 b.c3, .slice b.A4 b.n4 b.c4, .slice b.A5 b.n5 b.c5, .slice b.A6 b.n6 b.c6, .bool b.g7, .slice b.A8 b.n8 b.c8, .slice b.A9 b.n9 b.c9, .bool b.d10]
def BV.enc (b : BV) : Value := .agg #[.slice b.A0 b.n0 b.c0, .int .i64 b.core, .slice b.A2 b.n2 b.c2, .slice b.A3 b.n3 b.c3, .slice b.A4 b.n4 b.c4, .slice b.A5 b.n5 b.c5, .slice b.A6 b.n6 b.c6, .bool b.g7, .slice b.A8 b.n8 b.c8, .slice b.A9 b.n9 b.c9, .bool b.d10]
theorem trivC46 {w : World} : Kd.C k46 w none 0 ([] : List S46) := (Kd.R_reads' (Kd.R_nil k46 46 w 0 (fun _ => True))).2.2
def zeroC : Array Value := #[.int .i64 0, .int .i64 0, .int .i64 0, .string (⟨#[]⟩ : ByteArray), .int .i64 0, .int .i64 0, .int .i64 0, .string (⟨#[]⟩ : ByteArray), .slice none 0 0]
/- What 'equality' tells of a list of conditions. -/
def eqX (L : List S46) (i : Int) : Option S46 := if 0 ≤ i ∧ i < (L.length : Int) ∧ (rd_T46 L i).f0 = 9 ∧ rightX (rd_T46 L i) = true then some (rd_T46 L i) else none
set_option maxRecDepth 8000 in
set_option maxHeartbeats 4000000 in
theorem eq22 (b : BV) (L : List S46) (i : Int) (w : World) (hn : b.n4 = L.length) (hC : k46.C w b.A4 b.n4 L) :
    Calls Tryd.prog 22 #[b.enc, .int .i64 i] w fun e_ w' => (∃ (x : S46) (A8 : Option Addr) (c8 : Nat), e_ = .returned (.tuple #[encE x A8 c8, .bool (eqX L i).isSome]) ∧ (∀ y, eqX L i = some y → y = x) ∧ k46.C w A8 x.f6.length x.f6 ∧ x.f6.length ≤ c8) ∧ Below w.heap.size w w' := by
  have hu26 := Tryd.underlying26
  have hu46 := Tryd.underlying46
  by_cases h1 : i < 0 ∨ (L.length : Int) ≤ i
  · have HE : Aside0 (eqX L i = none) := ⟨by unfold eqX; rw [if_neg (by omega)]⟩
    clear hC
    obtain h1 | h1 := h1
    all_goals
      unfold BV.enc
      rw [hn]
      go_enter Tryd.func22, Tryd.ntmps22
      go_wp2_with (first | ((with_reducible refine gate_dst (N := 2) rfl ?_); refine box_event ?hg (N := 2) ?hd (cs := b.cells) (t := 26) ?hr ?_; (case hd => rfl); (case hg => rfl); (case hr => unfold BV.cells; rw [hn]; first | (go_simp; done) | (go_simp; rfl)); intro gb hg1 w1 hbox hb; have BK := Aside0.mk hbox; have HB := Aside0.mk hb; have hb4 := (blk_cell BK.out 4).trans (rfl : _ = some (Value.slice b.A4 b.n4 b.c4)); rw [hn] at hb4; clear hbox hb hg1) | ((with_reducible refine gate_dst (N := 4) rfl ?_); refine box_event ?hg (N := 4) ?hd (cs := zeroC) (t := 46) ?hr ?_; (case hd => rfl); (case hg => rfl); (case hr => unfold zeroC; first | (go_simp; done) | (go_simp; rfl)); intro gr hg1 w2 hbox hb; have HR := Aside0.mk hbox; have HB2 := Aside0.mk (HB.out.trans (hb.mono HB.out.size)); have HG : Aside0 (w.heap.size ≤ gr) := ⟨by rw [hg1]; exact HB.out.size⟩; have hb4 := (blk_cell ((hb.block gb (blk_lt BK.out)).trans BK.out) 4).trans (rfl : _ = some (Value.slice b.A4 b.n4 b.c4)); rw [hn] at hb4; clear hbox hb hg1) | ((with_reducible refine gate_dst (N := 16) rfl ?_); refine build_event rfl (N := 16) rfl 46 _ rfl zeroC (by kernel_rfl) ?_) | ((with_reducible refine gate_store (t := 46) (p := 4) rfl ?_); refine row_event rfl 46 _ _ rfl gr zeroC rfl rfl 46 zeroC HR.out (by kernel_rfl) (by kernel_rfl) (by kernel_rfl) ?_; intro w5 hx hb hf; have HR5 := Aside0.mk hx; have HB5 : Aside0 (Below w.heap.size w w5) := ⟨HB2.out.trans (hb.mono HG.out)⟩; clear hx hb hf))
      have hd0 := (blk_cell HR5.out 0).trans (rfl : _ = some (Value.int .i64 0))
      have hd1 := (blk_cell HR5.out 1).trans (rfl : _ = some (Value.int .i64 0))
      have hd2 := (blk_cell HR5.out 2).trans (rfl : _ = some (Value.int .i64 0))
      have hd3 := (blk_cell HR5.out 3).trans (rfl : _ = some (Value.string (⟨#[]⟩ : ByteArray)))
      have hd4 := (blk_cell HR5.out 4).trans (rfl : _ = some (Value.int .i64 0))
      have hd5 := (blk_cell HR5.out 5).trans (rfl : _ = some (Value.int .i64 0))
      have hd6 := (blk_cell HR5.out 6).trans (rfl : _ = some (Value.int .i64 0))
      have hd7 := (blk_cell HR5.out 7).trans (rfl : _ = some (Value.string (⟨#[]⟩ : ByteArray)))
      have hd8 := (blk_cell HR5.out 8).trans (rfl : _ = some (Value.slice none 0 0))
      refine bodyPost_ret (v := .tuple #[.agg zeroC, .bool false]) (by unfold zeroC; simp [results, Tryd.results22, go_sem, hd0, hd1, hd2, hd3, hd4, hd5, hd6, hd7, hd8]) rfl ⟨⟨z46, none, 0, by rw [HE.out]; rfl, fun y h => (by rw [HE.out] at h; cases h), trivC46, Nat.le_refl _⟩, HB5.out⟩
  · have h0 : 0 ≤ i := by omega
    have hl : i < (L.length : Int) := by omega
    have hlt0 : decide (i < 0) = false := decide_eq_false (by omega)
    have hge0 : decide (i ≥ (L.length : Int)) = false := decide_eq_false (by omega)
    rw [hn] at hC
    obtain ⟨ad, A8, c8, e0, x0, x1, x2, x3, x4, x5, x6, x7, x8, l8, g8⟩ := at_T46 hC i h0 hl
    have HE : Aside0 ((rd_T46 L i).f0 = 9 → rightX (rd_T46 L i) = true → eqX L i = some (rd_T46 L i)) := ⟨fun h h' => by unfold eqX; rw [if_pos ⟨h0, hl, h, h'⟩]⟩
    have HE1 : Aside0 ((rd_T46 L i).f0 ≠ 9 → eqX L i = none) := ⟨fun h => by unfold eqX; rw [if_neg (fun q => h q.2.2.1)]⟩
    have HE2 : Aside0 (rightX (rd_T46 L i) = false → eqX L i = none) := ⟨fun h => by unfold eqX; rw [if_neg (fun q => by rw [h] at q; cases q.2.2.2)]⟩
    have HC8 := Aside0.mk g8
    have HL8 := Aside0.mk l8
    have HC := Aside0.mk hC
    clear hC g8 l8
    generalize rd_T46 L i = x at *
    unfold BV.enc
    rw [hn, e0]
    by_cases o9 : x.f0 = 9
    · have o9b : (x.f0 == 9) = true := beq_iff_eq.2 o9
      have HO := Aside0.mk o9
      clear o9 h1
      go_enter Tryd.func22, Tryd.ntmps22
      go_wp2_with (first | ((with_reducible refine gate_dst (N := 2) rfl ?_); refine box_event ?hg (N := 2) ?hd (cs := b.cells) (t := 26) ?hr ?_; (case hd => rfl); (case hg => rfl); (case hr => unfold BV.cells; rw [hn, e0]; first | (go_simp; done) | (go_simp; rfl)); intro gb hg1 w1 hbox hb; have BK := Aside0.mk hbox; have HB := Aside0.mk hb; have hb4 := (blk_cell BK.out 4).trans (rfl : _ = some (Value.slice b.A4 b.n4 b.c4)); rw [hn, e0] at hb4; clear hbox hb hg1) | ((with_reducible refine gate_dst (N := 4) rfl ?_); refine box_event ?hg (N := 4) ?hd (cs := zeroC) (t := 46) ?hr ?_; (case hd => rfl); (case hg => rfl); (case hr => unfold zeroC; first | (go_simp; done) | (go_simp; rfl)); intro gr hg1 w2 hbox hb; have HR := Aside0.mk hbox; have HB2 := Aside0.mk (HB.out.trans (hb.mono HB.out.size)); have HGW : Aside0 (w.heap.size ≤ gr) := ⟨by rw [hg1]; exact HB.out.size⟩; have hb4 := (blk_cell ((hb.block gb (blk_lt BK.out)).trans BK.out) 4).trans (rfl : _ = some (Value.slice b.A4 b.n4 b.c4)); rw [hn, e0] at hb4; have y0 := cells_later HB2.out x0; have y1 := cells_later HB2.out x1; have y2 := cells_later HB2.out x2; have y3 := cells_later HB2.out x3; have y4 := cells_later HB2.out x4; have y5 := cells_later HB2.out x5; have y6 := cells_later HB2.out x6; have y7 := cells_later HB2.out x7; have y8 := cells_later HB2.out x8; clear hbox hb hg1) | ((with_reducible refine gate_dst (N := 6) rfl ?_); refine box_event ?hg (N := 6) ?hd (cs := zeroC) (t := 46) ?hr ?_; (case hd => rfl); (case hg => rfl); (case hr => unfold zeroC; first | (go_simp; done) | (go_simp; rfl)); intro ge hg1 w3 hbox hb; have HGE := Aside0.mk hbox; have HB3 := Aside0.mk (HB2.out.trans (hb.mono HB2.out.size)); have HGEW : Aside0 (w.heap.size ≤ ge ∧ gr ≠ ge) := ⟨by rw [hg1]; exact ⟨HB2.out.size, by have := blk_lt HR.out; omega⟩⟩; have HR3 := Aside0.mk ((hb.block gr (blk_lt HR.out)).trans HR.out); clear hbox hb hg1) | ((with_reducible refine gate_store (t := 46) (p := 6) rfl ?_); refine row_event rfl 46 _ _ rfl ge (cellsE x (.slice A8 x.f6.length c8)) rfl rfl 46 zeroC HGE.out (by kernel_rfl) (by kernel_rfl) (by kernel_rfl) ?_; intro w6_ hx hb hf; have HGE6 := Aside0.mk hx; have HB6 : Aside0 (Below w.heap.size w w6_) := ⟨HB3.out.trans (hb.mono HGEW.out.1)⟩; have HGR1 := Aside0.mk ((hf gr HGEW.out.2).trans HR3.out); clear hx hb hf))
      clear x0 x1 x2 x3 x4 x5 x6 x7 x8
      have m0_ : Aside0 (w6_.drew.cell? ⟨ge, 0, none⟩ = some (Value.int .i64 x.f0)) := ⟨(blk_cell (blk_drew HGE6.out) 0).trans rfl⟩
      have m1_ : Aside0 (w6_.drew.cell? ⟨ge, 1, none⟩ = some (Value.int .i64 x.f1.f0)) := ⟨(blk_cell (blk_drew HGE6.out) 1).trans rfl⟩
      have m2_ : Aside0 (w6_.drew.cell? ⟨ge, 2, none⟩ = some (Value.int .i64 x.f1.f1)) := ⟨(blk_cell (blk_drew HGE6.out) 2).trans rfl⟩
      have m3_ : Aside0 (w6_.drew.cell? ⟨ge, 3, none⟩ = some (Value.string x.f1.f2)) := ⟨(blk_cell (blk_drew HGE6.out) 3).trans rfl⟩
      have m4_ : Aside0 (w6_.drew.cell? ⟨ge, 4, none⟩ = some (Value.int .i64 x.f2)) := ⟨(blk_cell (blk_drew HGE6.out) 4).trans rfl⟩
      have m5_ : Aside0 (w6_.drew.cell? ⟨ge, 5, none⟩ = some (Value.int .i64 x.f3)) := ⟨(blk_cell (blk_drew HGE6.out) 5).trans rfl⟩
      have m6_ : Aside0 (w6_.drew.cell? ⟨ge, 6, none⟩ = some (Value.int .i64 x.f4)) := ⟨(blk_cell (blk_drew HGE6.out) 6).trans rfl⟩
      have m7_ : Aside0 (w6_.drew.cell? ⟨ge, 7, none⟩ = some (Value.string x.f5)) := ⟨(blk_cell (blk_drew HGE6.out) 7).trans rfl⟩
      have m8_ : Aside0 (w6_.drew.cell? ⟨ge, 8, none⟩ = some (Value.slice A8 x.f6.length c8)) := ⟨(blk_cell (blk_drew HGE6.out) 8).trans rfl⟩
      have HGR0 := Aside0.mk (blk_drew HGR1.out)
      have HCx : Aside0 (k46.C w6_.drew A8 x.f6.length x.f6) := ⟨Kd.C_below HC8.out (below_drew HB6.out)⟩
      refine start_ (n := 10) (S := fun w' => w'.cell? ⟨ge, 0, none⟩ = some (.int .i64 x.f0) ∧ w'.cell? ⟨ge, 1, none⟩ = some (.int .i64 x.f1.f0) ∧ w'.cell? ⟨ge, 2, none⟩ = some (.int .i64 x.f1.f1) ∧ w'.cell? ⟨ge, 3, none⟩ = some (.string x.f1.f2) ∧ w'.cell? ⟨ge, 4, none⟩ = some (.int .i64 x.f2) ∧ w'.cell? ⟨ge, 5, none⟩ = some (.int .i64 x.f3) ∧ w'.cell? ⟨ge, 6, none⟩ = some (.int .i64 x.f4) ∧ w'.cell? ⟨ge, 7, none⟩ = some (.string x.f5) ∧ w'.cell? ⟨ge, 8, none⟩ = some (.slice A8 x.f6.length c8)) (ds := [8]) #[false, false, false, false, false, false, false, false, false, false] (by kernel_rfl) rfl rfl ⟨m0_.out, m1_.out, m2_.out, m3_.out, m4_.out, m5_.out, m6_.out, m7_.out, m8_.out⟩ (fun hHeld => ?_)
      refine pure_ (i := 1) (N := some 23) (v := ?_) (a' := ?_) #[false, true, false, false, false, false, false, false, false, false] rfl rfl (by kernel_rfl) (fun _ _ _ h => h) (Or.inl ⟨by rfl, ?_⟩) ?_ ?_
      rotate_left
      · intro w'
        go_simp
        with_reducible rfl
      rotate_left
      · simp only [Act.put, List.setIfInBounds_toArray, List.set_cons_zero, List.set_cons_succ, i64_w, i32_w]
        rfl
      refine take_ (i := 0) (N := some 22) (v := ?_) (a' := ?_) #[true, true, false, false, false, false, false, false, false, false] rfl rfl (by kernel_rfl) (fun _ _ _ h => h) (Or.inl ⟨by rfl, ?_⟩) hHeld ?_ ?_
      rotate_left
      · rintro w' ⟨s0, s1, s2, s3, s4, s5, s6, s7, s8⟩
        go_simp
        with_reducible rfl
      rotate_left
      · simp only [Act.put, List.setIfInBounds_toArray, List.set_cons_zero, List.set_cons_succ, i64_w, i32_w]
        rfl
      refine take_ (i := 2) (N := some 24) (v := ?_) (a' := ?_) #[true, true, true, false, false, false, false, false, false, false] rfl rfl (by kernel_rfl) (fun _ _ _ h => h) (Or.inl ⟨by rfl, ?_⟩) hHeld ?_ ?_
      rotate_left
      · rintro w' ⟨s0, s1, s2, s3, s4, s5, s6, s7, s8⟩
        go_simp
        with_reducible rfl
      rotate_left
      · simp only [Act.put, List.setIfInBounds_toArray, List.set_cons_zero, List.set_cons_succ, i64_w, i32_w]
        rfl
      refine pure_ (i := 3) (N := some 25) (v := ?_) (a' := ?_) #[true, true, true, true, false, false, false, false, false, false] rfl rfl (by kernel_rfl) (fun _ _ _ h => h) (Or.inl ⟨by rfl, ?_⟩) ?_ ?_
      rotate_left
      · intro w'
        go_simp
        with_reducible rfl
      rotate_left
      · simp only [Act.put, List.setIfInBounds_toArray, List.set_cons_zero, List.set_cons_succ, i64_w, i32_w]
        rfl
      refine pure_ (i := 4) (N := some 26) (v := ?_) (a' := ?_) #[true, true, true, true, true, false, false, false, false, false] rfl rfl (by kernel_rfl) (fun _ _ _ h => h) (Or.inl ⟨by rfl, ?_⟩) ?_ ?_
      rotate_left
      · intro w'
        go_simp
        with_reducible rfl
      rotate_left
      · simp only [Act.put, List.setIfInBounds_toArray, List.set_cons_zero, List.set_cons_succ, i64_w, i32_w]
        rfl
      refine take_ (i := 5) (N := some 27) (v := ?_) (a' := ?_) #[true, true, true, true, true, true, false, false, false, false] rfl rfl (by kernel_rfl) (fun _ _ _ h => h) (Or.inl ⟨by rfl, ?_⟩) hHeld ?_ ?_
      rotate_left
      · rintro w' ⟨s0, s1, s2, s3, s4, s5, s6, s7, s8⟩
        go_simp
        with_reducible rfl
      rotate_left
      · simp only [Act.put, List.setIfInBounds_toArray, List.set_cons_zero, List.set_cons_succ, i64_w, i32_w]
        rfl
      refine one_ (i := 6) (N := some 28) #[true, true, true, true, true, true, true, false, false, false] rfl rfl (by kernel_rfl) (by decide) (fun K hK => ?_)
      refine goes_ Tryd.func46 (by kernel_rfl) rfl #[encE x A8 c8] (by rfl) rfl rfl (by simp only [List.map_toArray, List.map_cons, List.map_nil]; rfl) ?_
      with_reducible refine (right46 x A8 c8 _ HCx.out).mono ?_
      rintro e_ w6 ⟨rfl, hb6⟩
      refine ⟨_, rfl, ?_⟩
      refine hK.out _ _ ⟨cells_later hb6 hHeld.1, cells_later hb6 hHeld.2.1, cells_later hb6 hHeld.2.2.1, cells_later hb6 hHeld.2.2.2.1, cells_later hb6 hHeld.2.2.2.2.1, cells_later hb6 hHeld.2.2.2.2.2.1, cells_later hb6 hHeld.2.2.2.2.2.2.1, cells_later hb6 hHeld.2.2.2.2.2.2.2.1, cells_later hb6 hHeld.2.2.2.2.2.2.2.2⟩ (fun hHeld => ?_)
      clear hK K
      refine norm_ (a' := ?_) ?_ ?_
      rotate_left
      · show Act.put _ (some 28) _ = _
        simp only [Act.put, List.setIfInBounds_toArray, List.set_cons_zero, List.set_cons_succ, i64_w, i32_w]
        rfl
      refine pure_ (i := 7) (N := some 29) (v := ?_) (a' := ?_) #[true, true, true, true, true, true, true, true, false, false] rfl rfl (by kernel_rfl) (fun _ _ _ h => h) (Or.inl ⟨by rfl, ?_⟩) ?_ ?_
      rotate_left
      · intro w'
        go_simp
        with_reducible rfl
      rotate_left
      · simp only [Act.put, List.setIfInBounds_toArray, List.set_cons_zero, List.set_cons_succ, i64_w, i32_w]
        rfl
      refine last_ (i := 8) (N := none) #[true, true, true, true, true, true, true, true, true, false] rfl rfl (by kernel_rfl) (by decide) (fun K hK => ?_)
      have HGR := Aside0.mk ((hb6.block gr (blk_lt HGR0.out)).trans HGR0.out)
      refine skip_ (by rfl) rfl (exec_store_row 46 _ _ rfl gr (cellsE x (.slice A8 x.f6.length c8)) rfl rfl 46 zeroC HGR.out (by kernel_rfl) (by kernel_rfl) (by kernel_rfl)) ?_
      refine hK.out _ _ ?_
      clear hK K
      refine pure_ (i := 9) (N := some 5) (v := ?_) (a' := ?_) #[true, true, true, true, true, true, true, true, true, true] rfl rfl (by kernel_rfl) (fun _ _ _ h => h) (Or.inl ⟨by rfl, ?_⟩) ?_ ?_
      rotate_left
      · intro w'
        go_simp
        with_reducible rfl
      rotate_left
      · simp only [Act.put, List.setIfInBounds_toArray, List.set_cons_zero, List.set_cons_succ, i64_w, i32_w]
        rfl
      refine done_ (by kernel_rfl) ?_
      have hx_ := setRow_heap w6 gr zeroC (cellsE x (.slice A8 x.f6.length c8)) 46 (0, 0) HGR.out
      have HX := Aside0.mk hx_
      have HBE : Aside0 (Below w.heap.size w (w6.setRow gr (cellsE x (.slice A8 x.f6.length c8)))) := ⟨below_row ((below_drew HB6.out).trans (hb6.mono (below_drew HB6.out).size)) HGW.out⟩
      generalize w6.setRow gr (cellsE x (.slice A8 x.f6.length c8)) = w7 at *
      have f0 := (blk_cell HX.out 0).trans (rfl : _ = some (Value.int .i64 x.f0))
      have f1 := (blk_cell HX.out 1).trans (rfl : _ = some (Value.int .i64 x.f1.f0))
      have f2 := (blk_cell HX.out 2).trans (rfl : _ = some (Value.int .i64 x.f1.f1))
      have f3 := (blk_cell HX.out 3).trans (rfl : _ = some (Value.string x.f1.f2))
      have f4 := (blk_cell HX.out 4).trans (rfl : _ = some (Value.int .i64 x.f2))
      have f5 := (blk_cell HX.out 5).trans (rfl : _ = some (Value.int .i64 x.f3))
      have f6 := (blk_cell HX.out 6).trans (rfl : _ = some (Value.int .i64 x.f4))
      have f7 := (blk_cell HX.out 7).trans (rfl : _ = some (Value.string x.f5))
      have f8 := (blk_cell HX.out 8).trans (rfl : _ = some (Value.slice A8 x.f6.length c8))
      go_wp2
      refine bodyPost_ret (v := .tuple #[encE x A8 c8, .bool (rightX x)]) (by unfold encE; simp [results, Tryd.results22, go_sem, f0, f1, f2, f3, f4, f5, f6, f7, f8]) rfl ⟨⟨x, A8, c8, ?_, fun y h => ?_, HC8.out, HL8.out⟩, HBE.out⟩
      · rcases Bool.eq_false_or_eq_true (rightX x) with hr | hr
        · rw [HE.out HO.out hr, hr]; rfl
        · rw [HE2.out hr, hr]; rfl
      · rcases Bool.eq_false_or_eq_true (rightX x) with hr | hr
        · rw [HE.out HO.out hr] at h; injection h with h; exact h.symm
        · rw [HE2.out hr] at h; cases h
    · have o9b : (x.f0 == 9) = false := beq_eq_false_iff_ne.2 o9
      have HO := Aside0.mk o9
      clear o9 h1
      go_enter Tryd.func22, Tryd.ntmps22
      go_wp2_with (first | ((with_reducible refine gate_dst (N := 2) rfl ?_); refine box_event ?hg (N := 2) ?hd (cs := b.cells) (t := 26) ?hr ?_; (case hd => rfl); (case hg => rfl); (case hr => unfold BV.cells; rw [hn, e0]; first | (go_simp; done) | (go_simp; rfl)); intro gb hg1 w1 hbox hb; have BK := Aside0.mk hbox; have HB := Aside0.mk hb; have hb4 := (blk_cell BK.out 4).trans (rfl : _ = some (Value.slice b.A4 b.n4 b.c4)); rw [hn, e0] at hb4; clear hbox hb hg1) | ((with_reducible refine gate_dst (N := 4) rfl ?_); refine box_event ?hg (N := 4) ?hd (cs := zeroC) (t := 46) ?hr ?_; (case hd => rfl); (case hg => rfl); (case hr => unfold zeroC; first | (go_simp; done) | (go_simp; rfl)); intro gr hg1 w2 hbox hb; have HR := Aside0.mk hbox; have HB2 := Aside0.mk (HB.out.trans (hb.mono HB.out.size)); have HGW : Aside0 (w.heap.size ≤ gr) := ⟨by rw [hg1]; exact HB.out.size⟩; have hb4 := (blk_cell ((hb.block gb (blk_lt BK.out)).trans BK.out) 4).trans (rfl : _ = some (Value.slice b.A4 b.n4 b.c4)); rw [hn, e0] at hb4; have y0 := cells_later HB2.out x0; have y1 := cells_later HB2.out x1; have y2 := cells_later HB2.out x2; have y3 := cells_later HB2.out x3; have y4 := cells_later HB2.out x4; have y5 := cells_later HB2.out x5; have y6 := cells_later HB2.out x6; have y7 := cells_later HB2.out x7; have y8 := cells_later HB2.out x8; clear hbox hb hg1) | ((with_reducible refine gate_dst (N := 6) rfl ?_); refine box_event ?hg (N := 6) ?hd (cs := zeroC) (t := 46) ?hr ?_; (case hd => rfl); (case hg => rfl); (case hr => unfold zeroC; first | (go_simp; done) | (go_simp; rfl)); intro ge hg1 w3 hbox hb; have HGE := Aside0.mk hbox; have HB3 := Aside0.mk (HB2.out.trans (hb.mono HB2.out.size)); have HGEW : Aside0 (w.heap.size ≤ ge ∧ gr ≠ ge) := ⟨by rw [hg1]; exact ⟨HB2.out.size, by have := blk_lt HR.out; omega⟩⟩; have HR3 := Aside0.mk ((hb.block gr (blk_lt HR.out)).trans HR.out); clear hbox hb hg1) | ((with_reducible refine gate_store (t := 46) (p := 6) rfl ?_); refine row_event rfl 46 _ _ rfl ge (cellsE x (.slice A8 x.f6.length c8)) rfl rfl 46 zeroC HGE.out (by kernel_rfl) (by kernel_rfl) (by kernel_rfl) ?_; intro w6_ hx hb hf; have HGE6 := Aside0.mk hx; have HB6 : Aside0 (Below w.heap.size w w6_) := ⟨HB3.out.trans (hb.mono HGEW.out.1)⟩; have HGR1 := Aside0.mk ((hf gr HGEW.out.2).trans HR3.out); clear hx hb hf))
      clear x0 x1 x2 x3 x4 x5 x6 x7 x8
      have m0_ : Aside0 (w6_.drew.cell? ⟨ge, 0, none⟩ = some (Value.int .i64 x.f0)) := ⟨(blk_cell (blk_drew HGE6.out) 0).trans rfl⟩
      have m1_ : Aside0 (w6_.drew.cell? ⟨ge, 1, none⟩ = some (Value.int .i64 x.f1.f0)) := ⟨(blk_cell (blk_drew HGE6.out) 1).trans rfl⟩
      have m2_ : Aside0 (w6_.drew.cell? ⟨ge, 2, none⟩ = some (Value.int .i64 x.f1.f1)) := ⟨(blk_cell (blk_drew HGE6.out) 2).trans rfl⟩
      have m3_ : Aside0 (w6_.drew.cell? ⟨ge, 3, none⟩ = some (Value.string x.f1.f2)) := ⟨(blk_cell (blk_drew HGE6.out) 3).trans rfl⟩
      have m4_ : Aside0 (w6_.drew.cell? ⟨ge, 4, none⟩ = some (Value.int .i64 x.f2)) := ⟨(blk_cell (blk_drew HGE6.out) 4).trans rfl⟩
      have m5_ : Aside0 (w6_.drew.cell? ⟨ge, 5, none⟩ = some (Value.int .i64 x.f3)) := ⟨(blk_cell (blk_drew HGE6.out) 5).trans rfl⟩
      have m6_ : Aside0 (w6_.drew.cell? ⟨ge, 6, none⟩ = some (Value.int .i64 x.f4)) := ⟨(blk_cell (blk_drew HGE6.out) 6).trans rfl⟩
      have m7_ : Aside0 (w6_.drew.cell? ⟨ge, 7, none⟩ = some (Value.string x.f5)) := ⟨(blk_cell (blk_drew HGE6.out) 7).trans rfl⟩
      have m8_ : Aside0 (w6_.drew.cell? ⟨ge, 8, none⟩ = some (Value.slice A8 x.f6.length c8)) := ⟨(blk_cell (blk_drew HGE6.out) 8).trans rfl⟩
      have HGR0 := Aside0.mk (blk_drew HGR1.out)
      have HCx : Aside0 (k46.C w6_.drew A8 x.f6.length x.f6) := ⟨Kd.C_below HC8.out (below_drew HB6.out)⟩
      refine start_ (n := 10) (S := fun w' => w'.cell? ⟨ge, 0, none⟩ = some (.int .i64 x.f0) ∧ w'.cell? ⟨ge, 1, none⟩ = some (.int .i64 x.f1.f0) ∧ w'.cell? ⟨ge, 2, none⟩ = some (.int .i64 x.f1.f1) ∧ w'.cell? ⟨ge, 3, none⟩ = some (.string x.f1.f2) ∧ w'.cell? ⟨ge, 4, none⟩ = some (.int .i64 x.f2) ∧ w'.cell? ⟨ge, 5, none⟩ = some (.int .i64 x.f3) ∧ w'.cell? ⟨ge, 6, none⟩ = some (.int .i64 x.f4) ∧ w'.cell? ⟨ge, 7, none⟩ = some (.string x.f5) ∧ w'.cell? ⟨ge, 8, none⟩ = some (.slice A8 x.f6.length c8)) (ds := [8]) #[false, false, false, false, false, false, false, false, false, false] (by kernel_rfl) rfl rfl ⟨m0_.out, m1_.out, m2_.out, m3_.out, m4_.out, m5_.out, m6_.out, m7_.out, m8_.out⟩ (fun hHeld => ?_)
      refine pure_ (i := 1) (N := some 23) (v := ?_) (a' := ?_) #[false, true, false, false, false, false, false, false, false, false] rfl rfl (by kernel_rfl) (fun _ _ _ h => h) (Or.inl ⟨by rfl, ?_⟩) ?_ ?_
      rotate_left
      · intro w'
        go_simp
        with_reducible rfl
      rotate_left
      · simp only [Act.put, List.setIfInBounds_toArray, List.set_cons_zero, List.set_cons_succ, i64_w, i32_w]
        rfl
      refine take_ (i := 0) (N := some 22) (v := ?_) (a' := ?_) #[true, true, false, false, false, false, false, false, false, false] rfl rfl (by kernel_rfl) (fun _ _ _ h => h) (Or.inl ⟨by rfl, ?_⟩) hHeld ?_ ?_
      rotate_left
      · rintro w' ⟨s0, s1, s2, s3, s4, s5, s6, s7, s8⟩
        go_simp
        with_reducible rfl
      rotate_left
      · simp only [Act.put, List.setIfInBounds_toArray, List.set_cons_zero, List.set_cons_succ, i64_w, i32_w]
        rfl
      refine take_ (i := 2) (N := some 24) (v := ?_) (a' := ?_) #[true, true, true, false, false, false, false, false, false, false] rfl rfl (by kernel_rfl) (fun _ _ _ h => h) (Or.inl ⟨by rfl, ?_⟩) hHeld ?_ ?_
      rotate_left
      · rintro w' ⟨s0, s1, s2, s3, s4, s5, s6, s7, s8⟩
        go_simp
        with_reducible rfl
      rotate_left
      · simp only [Act.put, List.setIfInBounds_toArray, List.set_cons_zero, List.set_cons_succ, i64_w, i32_w]
        rfl
      refine pure_ (i := 3) (N := some 25) (v := ?_) (a' := ?_) #[true, true, true, true, false, false, false, false, false, false] rfl rfl (by kernel_rfl) (fun _ _ _ h => h) (Or.inl ⟨by rfl, ?_⟩) ?_ ?_
      rotate_left
      · intro w'
        go_simp
        with_reducible rfl
      rotate_left
      · simp only [Act.put, List.setIfInBounds_toArray, List.set_cons_zero, List.set_cons_succ, i64_w, i32_w]
        rfl
      refine pure_ (i := 4) (N := some 26) (v := ?_) (a' := ?_) #[true, true, true, true, true, false, false, false, false, false] rfl rfl (by kernel_rfl) (fun _ _ _ h => h) (Or.inl ⟨by rfl, ?_⟩) ?_ ?_
      rotate_left
      · intro w'
        go_simp
        with_reducible rfl
      rotate_left
      · simp only [Act.put, List.setIfInBounds_toArray, List.set_cons_zero, List.set_cons_succ, i64_w, i32_w]
        rfl
      refine pure_ (i := 5) (N := some 27) (v := undef) (a' := ?_) #[true, true, true, true, true, true, false, false, false, false] rfl rfl (by kernel_rfl) (fun _ _ _ h => h) (Or.inr ⟨by rfl, rfl⟩) ?_ ?_
      rotate_left
      · simp only [Act.put, List.setIfInBounds_toArray, List.set_cons_zero, List.set_cons_succ, i64_w, i32_w]
        rfl
      refine pure_ (i := 6) (N := some 28) (v := undef) (a' := ?_) #[true, true, true, true, true, true, true, false, false, false] rfl rfl (by kernel_rfl) (fun _ _ _ h => h) (Or.inr ⟨by rfl, rfl⟩) ?_ ?_
      rotate_left
      · simp only [Act.put, List.setIfInBounds_toArray, List.set_cons_zero, List.set_cons_succ, i64_w, i32_w]
        rfl
      refine pure_ (i := 7) (N := some 29) (v := ?_) (a' := ?_) #[true, true, true, true, true, true, true, true, false, false] rfl rfl (by kernel_rfl) (fun _ _ _ h => h) (Or.inl ⟨by rfl, ?_⟩) ?_ ?_
      rotate_left
      · intro w'
        go_simp
        with_reducible rfl
      rotate_left
      · simp only [Act.put, List.setIfInBounds_toArray, List.set_cons_zero, List.set_cons_succ, i64_w, i32_w]
        rfl
      refine last_ (i := 8) (N := none) #[true, true, true, true, true, true, true, true, true, false] rfl rfl (by kernel_rfl) (by decide) (fun K hK => ?_)
      have HGR := HGR0
      refine skip_ (by rfl) rfl (exec_store_row 46 _ _ rfl gr (cellsE x (.slice A8 x.f6.length c8)) rfl rfl 46 zeroC HGR.out (by kernel_rfl) (by kernel_rfl) (by kernel_rfl)) ?_
      refine hK.out _ _ ?_
      clear hK K
      refine pure_ (i := 9) (N := some 5) (v := ?_) (a' := ?_) #[true, true, true, true, true, true, true, true, true, true] rfl rfl (by kernel_rfl) (fun _ _ _ h => h) (Or.inl ⟨by rfl, ?_⟩) ?_ ?_
      rotate_left
      · intro w'
        go_simp
        with_reducible rfl
      rotate_left
      · simp only [Act.put, List.setIfInBounds_toArray, List.set_cons_zero, List.set_cons_succ, i64_w, i32_w]
        rfl
      refine done_ (by kernel_rfl) ?_
      have hx_ := setRow_heap w6_.drew gr zeroC (cellsE x (.slice A8 x.f6.length c8)) 46 (0, 0) HGR.out
      have HX := Aside0.mk hx_
      have HBE : Aside0 (Below w.heap.size w (w6_.drew.setRow gr (cellsE x (.slice A8 x.f6.length c8)))) := ⟨below_row (below_drew HB6.out) HGW.out⟩
      generalize w6_.drew.setRow gr (cellsE x (.slice A8 x.f6.length c8)) = w7 at *
      have f0 := (blk_cell HX.out 0).trans (rfl : _ = some (Value.int .i64 x.f0))
      have f1 := (blk_cell HX.out 1).trans (rfl : _ = some (Value.int .i64 x.f1.f0))
      have f2 := (blk_cell HX.out 2).trans (rfl : _ = some (Value.int .i64 x.f1.f1))
      have f3 := (blk_cell HX.out 3).trans (rfl : _ = some (Value.string x.f1.f2))
      have f4 := (blk_cell HX.out 4).trans (rfl : _ = some (Value.int .i64 x.f2))
      have f5 := (blk_cell HX.out 5).trans (rfl : _ = some (Value.int .i64 x.f3))
      have f6 := (blk_cell HX.out 6).trans (rfl : _ = some (Value.int .i64 x.f4))
      have f7 := (blk_cell HX.out 7).trans (rfl : _ = some (Value.string x.f5))
      have f8 := (blk_cell HX.out 8).trans (rfl : _ = some (Value.slice A8 x.f6.length c8))
      go_wp2
      refine bodyPost_ret (v := .tuple #[encE x A8 c8, .bool false]) (by unfold encE; simp [results, Tryd.results22, go_sem, f0, f1, f2, f3, f4, f5, f6, f7, f8]) rfl ⟨⟨x, A8, c8, by rw [HE1.out HO.out]; rfl, fun y h => (by rw [HE1.out HO.out] at h; cases h), HC8.out, HL8.out⟩, HBE.out⟩

end Go.Proofs.YtmnjaihalajhcaaDoor.QPlanConds
