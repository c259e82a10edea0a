import Derived.Test.YtmnjaihalajhcaaDoorQPlanCondsx0
/- Plan: walks by hand; the conditions stand in each theorem. -/
namespace Go.Proofs.YtmnjaihalajhcaaDoor.QPlanConds
open Go.RowKit Go.Proofs.YtmnjaihalajhcaaDoorW.PrintWords Go.Proofs.YtmnjaihalajhcaaDoorW.PrintLast Go.Proofs.YtmnjaihalajhcaaDoorW.PrintMore
attribute [local go_sem] max2_int min2_int max_two min_two max_three min_three max_four min_four
set_option linter.unusedVariables false
set_option linter.unusedSimpArgs false
section
variable {P : Program} {ops : Array Oper} {rest : List Oper} {o : Oper} {a : Act} {Q : Exit → Act → World → Prop}
/- A value put together, by its cells; a block written whole. -/
theorem build_event {W : World} (hg : o.guard = none) {N : Tmp} (_hd : o.dst = some N) (t : TypeId) (parts : Array (Nat × Operand)) (ho : o.op = .build t parts) (cells : Array Value)
    (hc : P.built t (parts.map fun (i, x) => (i, a.eval x)).toList = some cells)
    (h : wpList P ops Q rest (a.put o.dst (.agg cells)) W) : wpList P ops Q (o :: rest) a W :=
  wpList_build hg t parts ho (by rw [hc]; rfl) (by rw [hc]; exact h)
theorem setRow_other (w : World) (g : Nat) (cs : Array Value) (k : Nat) (h : k ≠ g) : (w.setRow g cs).heap[k]? = w.heap[k]? := by
  unfold World.setRow
  simp only [Array.getElem?_modify]
  rw [if_neg (fun e => h e.symm)]
theorem row_event {W : World} (hgd : o.guard = none) (ty : TypeId) (x y : Operand) (ho : o.op = .store ty x y)
    (g : Nat) (cells : Array Value) (hx : a.eval x = .pointer (some ⟨g, 0, none⟩)) (hy : a.eval y = .agg cells)
    (t : TypeId) (old : Array Value) (hg : W.heap[g]? = some (.cells old t (0, 0))) (hi : (P.info? ty).map (·.size) = some cells.size)
    (hold : old.size = cells.size) (h1 : cells.all (·.oneCell') = true)
    (h : ∀ w1, w1.heap[g]? = some (.cells cells t (0, 0)) → Below g W w1 → (∀ k, k ≠ g → w1.heap[k]? = W.heap[k]?) → wpList P ops Q rest (a.put o.dst undef) w1) : wpList P ops Q (o :: rest) a W :=
  wpList_store_row hgd ty x y ho g cells hx hy t old hg hi hold h1 (h _ (setRow_heap W g old cells t _ hg) ⟨rfl, rfl, rfl, by simp [World.setRow], fun k hk => setRow_other W g cells k (by omega)⟩ (fun k hk => setRow_other W g cells k hk))
end
theorem eqA44 (d : Nat) (w : World) (x0 y0 : Int) (x1 y1 : Int) (x2 y2 : ByteArray) :
    (Op.equalIn (d + 2) 44 (.agg #[.int .i64 x0, .int .i64 x1, .string x2]) (.agg #[.int .i64 y0, .int .i64 y1, .string y2])).run Tryd.prog w = .ok (x0 == y0 && (x1 == y1 && (x2.toList == y2.toList))) w := by
  refine eqA_of Tryd.underlying44 (by kernel_rfl) ?_
  refine eqf_cons (by rfl) (by go_simp; rfl) (by go_simp; rfl) (by go_simp) ?_
  refine eqf_cons (by rfl) (by go_simp; rfl) (by go_simp; rfl) (by go_simp) ?_
  exact eqf_last (by rfl) (by go_simp; rfl) (by go_simp; rfl) (by go_simp)
theorem cells_later {w w1 : World} {p : Addr} {v : Value} (hb : Below w.heap.size w w1) (h : w.cell? p = some v) : w1.cell? p = some v := (hb.cell (World.block_lt_of_cell? w _ h)).trans h
theorem cell_al {W : World} {o : Obj} {p : Addr} {v : Value} (h : W.cell? p = some v) : (W.alloc o).cell? p = some v := cells_later (below_alloc (Below.refl _ _) _) h
/- What stood there stands, but for the blocks of which T is true. -/
structure Kp (w w' : World) (T : Nat → Prop) : Prop where
  os : w'.os = w.os
  tape : w'.tape = w.tape
  output : w'.output = w.output
  size : w.heap.size ≤ w'.heap.size
  far : ∀ j, j < w.heap.size → ¬ T j → w'.heap[j]? = w.heap[j]?
theorem Kp.trans {a b c : World} {T U : Nat → Prop} (h : Kp a b T) (h' : Kp b c U) (hu : ∀ j, j < a.heap.size → U j → T j) : Kp a c T :=
  ⟨h'.os.trans h.os, h'.tape.trans h.tape, h'.output.trans h.output, Nat.le_trans h.size h'.size, fun j hj ht => (h'.far j (Nat.lt_of_lt_of_le hj h.size) (fun hU => ht (hu j hj hU))).trans (h.far j hj ht)⟩
theorem Kp.below {w w' : World} {T : Nat → Prop} (h : Below w.heap.size w w') : Kp w w' T := ⟨h.os, h.tape, h.output, h.size, fun j hj _ => h.block j hj⟩
theorem Kp.bel {w w' : World} {T : Nat → Prop} (h : Kp w w' T) {b : Nat} (hb : b ≤ w.heap.size) (ht : ∀ j, j < b → ¬ T j) : Below b w w' := ⟨h.os, h.tape, h.output, h.size, fun j hj => h.far j (Nat.lt_of_lt_of_le hj hb) (ht j hj)⟩
def wantsI (op : Int) : Int := if op < 1 then -1 else if op ≥ 19 then -1 else if op < 4 then 0 else if op = 8 then 1 else if op < 17 then 2 else 1
def expr_wants.f (a0 : Int) : Option (Int) := some (wantsI a0)
def wantsA : Array Value := #[.int .i64 0, .int .i64 0, .int .i64 0, .int .i64 0, .int .i64 2, .int .i64 2, .int .i64 2, .int .i64 2, .int .i64 1, .int .i64 2, .int .i64 2, .int .i64 2, .int .i64 2, .int .i64 2, .int .i64 2, .int .i64 2, .int .i64 2, .int .i64 1, .int .i64 1]
theorem wantsA_at : ∀ k : Nat, 1 ≤ k → k < 19 → wantsA[k]? = some (.int .i64 (wantsI (k : Int))) := by
  intro k h1 h2
  have : k = 1 ∨ k = 2 ∨ k = 3 ∨ k = 4 ∨ k = 5 ∨ k = 6 ∨ k = 7 ∨ k = 8 ∨ k = 9 ∨ k = 10 ∨ k = 11 ∨ k = 12 ∨ k = 13 ∨ k = 14 ∨ k = 15 ∨ k = 16 ∨ k = 17 ∨ k = 18 := by omega
  rcases this with rfl | rfl | rfl | rfl | rfl | rfl | rfl | rfl | rfl | rfl | rfl | rfl | rfl | rfl | rfl | rfl | rfl | rfl <;> rfl
def zeros19 : Array Value := #[.int .i64 0, .int .i64 0, .int .i64 0, .int .i64 0, .int .i64 0, .int .i64 0, .int .i64 0, .int .i64 0, .int .i64 0, .int .i64 0, .int .i64 0, .int .i64 0, .int .i64 0, .int .i64 0, .int .i64 0, .int .i64 0, .int .i64 0, .int .i64 0, .int .i64 0]
set_option maxRecDepth 100000 in
set_option maxHeartbeats 4000000 in
theorem expr_wants.calls (a0 : Int) (r : Int) (w : World) (h : expr_wants.f a0 = some r) :
    Calls Tryd.prog 72 #[.int .i64 a0] w fun e w' => e = .returned (.int .i64 r) ∧ Below w.heap.size w w' := by
  obtain rfl := Option.some.inj h
  clear h
  by_cases h1 : a0 < 1
  · have hv : wantsI a0 = -1 := by unfold wantsI; rw [if_pos h1]
    rw [hv]
    clear hv
    go_enter Tryd.func72, Tryd.ntmps72
    go_wp2_with (first | ((with_reducible refine gate_dst (N := 4) rfl ?_); refine build_event rfl (N := 4) rfl 98 _ rfl wantsA (by kernel_rfl) ?_) | ((with_reducible refine gate_dst (N := 3) rfl ?_); refine box_event ?hg (N := 3) ?hd (cs := zeros19) (t := 98) ?hr ?_; (case hd => rfl); (case hg => rfl); (case hr => first | (unfold zeros19; go_simp; done) | (unfold zeros19; go_simp; rfl)); intro g hg1 w3 hbox hb; have BK := Aside0.mk hbox; have HB := Aside0.mk hb; have HG := Aside0.mk hg1; clear hbox hb hg1) | ((with_reducible refine gate_store (t := 98) (p := 3) rfl ?_); (refine row_event rfl 98 _ _ rfl g wantsA rfl rfl 98 zeros19 BK.out (by kernel_rfl) (by kernel_rfl) (by kernel_rfl) ?_); intro w4 hx hb hf; have BK := Aside0.mk hx; have HB2 := Aside0.mk (HB.out.trans (hb.mono (by rw [HG.out]; exact Nat.le_refl _))); clear hx hb hf))
    go_ret
    exact ⟨rfl, HB2.out⟩
  · by_cases h2 : a0 ≥ 19
    · have hv : wantsI a0 = -1 := by unfold wantsI; rw [if_neg h1, if_pos h2]
      rw [hv]
      clear hv
      go_enter Tryd.func72, Tryd.ntmps72
      go_wp2_with (first | ((with_reducible refine gate_dst (N := 4) rfl ?_); refine build_event rfl (N := 4) rfl 98 _ rfl wantsA (by kernel_rfl) ?_) | ((with_reducible refine gate_dst (N := 3) rfl ?_); refine box_event ?hg (N := 3) ?hd (cs := zeros19) (t := 98) ?hr ?_; (case hd => rfl); (case hg => rfl); (case hr => first | (unfold zeros19; go_simp; done) | (unfold zeros19; go_simp; rfl)); intro g hg1 w3 hbox hb; have BK := Aside0.mk hbox; have HB := Aside0.mk hb; have HG := Aside0.mk hg1; clear hbox hb hg1) | ((with_reducible refine gate_store (t := 98) (p := 3) rfl ?_); (refine row_event rfl 98 _ _ rfl g wantsA rfl rfl 98 zeros19 BK.out (by kernel_rfl) (by kernel_rfl) (by kernel_rfl) ?_); intro w4 hx hb hf; have BK := Aside0.mk hx; have HB2 := Aside0.mk (HB.out.trans (hb.mono (by rw [HG.out]; exact Nat.le_refl _))); clear hx hb hf))
      go_ret
      exact ⟨rfl, HB2.out⟩
    · obtain ⟨k, rfl⟩ := Int.eq_ofNat_of_zero_le (show 0 ≤ a0 by omega)
      have hk1 : 1 ≤ k := by omega
      have hk2 : k < 19 := by omega
      have hA := wantsA_at k hk1 hk2
      have HA := Aside0.mk hA
      clear hA
      go_enter Tryd.func72, Tryd.ntmps72
      go_wp2_with (first | ((with_reducible refine gate_dst (N := 4) rfl ?_); refine build_event rfl (N := 4) rfl 98 _ rfl wantsA (by kernel_rfl) ?_) | ((with_reducible refine gate_dst (N := 3) rfl ?_); refine box_event ?hg (N := 3) ?hd (cs := zeros19) (t := 98) ?hr ?_; (case hd => rfl); (case hg => rfl); (case hr => first | (unfold zeros19; go_simp; done) | (unfold zeros19; go_simp; rfl)); intro g hg1 w3 hbox hb; have BK := Aside0.mk hbox; have HB := Aside0.mk hb; have HG := Aside0.mk hg1; clear hbox hb hg1) | ((with_reducible refine gate_store (t := 98) (p := 3) rfl ?_); (refine row_event rfl 98 _ _ rfl g wantsA rfl rfl 98 zeros19 BK.out (by kernel_rfl) (by kernel_rfl) (by kernel_rfl) ?_); intro w4 hx hb hf; have BK := Aside0.mk hx; have HB2 := Aside0.mk (HB.out.trans (hb.mono (by rw [HG.out]; exact Nat.le_refl _))); have hc := (blk_cell BK.out k).trans HA.out; clear hx hb hf))
      go_ret
      exact ⟨rfl, HB2.out⟩

end Go.Proofs.YtmnjaihalajhcaaDoor.QPlanConds
