import Derived.Test.YtkogfjphpklioaaStF
/- Store: walks by hand; the conditions stand in each theorem. -/
namespace Go.Proofs.Ytkogfjphpklioaa.QStoreNames
open Go.RowKit Go.Proofs.YtkogfjphpklioaaW.PrintWords Go.Proofs.YtkogfjphpklioaaW.PrintLast Go.Proofs.YtkogfjphpklioaaW.PrintMore
attribute [local go_sem] max2_int min2_int max_two min_two max_three min_three max_four min_four
set_option linter.unusedVariables false
set_option linter.unusedSimpArgs false
def nilT : S33 := ⟨⟨#[]⟩, [], []⟩
def atB (l : List S33) (i : Int) : S33 := if 0 ≤ i then l.getD i.toNat nilT else nilT
theorem atB_in {l : List S33} (k : Nat) (h : k < l.length) : atB l (k : Int) = l[k] := by
  unfold atB
  rw [if_pos (by omega), Int.toNat_natCast, List.getD_eq_getElem?_getD, List.getElem?_eq_getElem h]
  rfl
theorem atB_out {l : List S33} {i : Int} (h : i < 0 ∨ (l.length : Int) ≤ i) : atB l i = nilT := by
  unfold atB
  split
  · rw [List.getD_eq_getElem?_getD, List.getElem?_eq_none (by omega)]
    rfl
  · rfl
theorem trivC38 {w : World} : Kd.C k38 w none 0 ([] : List S38) := (Kd.R_reads' (Kd.R_nil k38 38 w 0 (fun _ => True))).2.2
theorem trivC3 {w : World} : (Kd.slice 36 k36).C w none 0 ([] : List (List S36)) := (Kd.R_reads' (Kd.R_nil (Kd.slice 36 k36) 34 w 0 (fun _ => True))).2.2
set_option maxHeartbeats 4000000 in
theorem store_at (g : Nat) (A : Option Addr) (c : Nat) (mv : Value) (l : List S33) (i : Int) (w : World) (hg : w.heap[g]? = some (.cells #[.slice A l.length c, mv] 68 (0, 0))) (hr : Kd.C k33 w A l.length l) (hl : l.length ≤ 4611686018427387904) :
    Calls Try.prog 35 #[.pointer (some ⟨g, 0, none⟩), .int .i64 i] w fun e w' => (∃ A1 c1 A2 c2, e = .returned (.agg #[.string (atB l i).f0, .slice A1 (atB l i).f1.length c1, .slice A2 (atB l i).f2.length c2]) ∧ (atB l i).f1.length ≤ c1 ∧ k38.C w A1 (atB l i).f1.length (atB l i).f1 ∧ (atB l i).f2.length ≤ c2 ∧ (Kd.slice 36 k36).C w A2 (atB l i).f2.length (atB l i).f2) ∧ Below w.heap.size w w' := by
  have HG := Aside0.mk hg
  have HR := Aside0.mk hr
  clear hr
  by_cases hz : i < 0
  · have HU := Aside0.mk (atB_out (l := l) (.inl hz))
    clear hg
    go_enter Try.func35, Try.ntmps35
    go_wp2_with ((with_reducible refine gate_dst (N := 4) rfl ?_); (try (refine gate_guard (by rfl) ?_; dsimp only)); refine box_event ?hg (N := 4) ?hd (cs := #[.string (⟨#[]⟩ : ByteArray), .slice none 0 0, .slice none 0 0]) (t := 33) ?hr ?_; (case hd => rfl); (case hg => rfl); (case hr => first | (go_simp; done) | (go_simp; rfl)); intro gb hgb w1 hbox hb; have HX1 := Aside0.mk hbox; have GE1 := Aside0.mk ((by rw [hgb]; exact Nat.le_refl _) : w.heap.size ≤ gb); have HB1 := Aside0.mk hb; have hg1 := (hb.block _ (blk_lt HG.out)).trans HG.out; have hz0 : w1.cell? ⟨gb, 0, none⟩ = some (.string (⟨#[]⟩ : ByteArray)) := (blk_cell HX1.out 0).trans rfl; have hz1 : w1.cell? ⟨gb, 1, none⟩ = some (.slice none 0 0) := (blk_cell HX1.out 1).trans rfl; have hz2 : w1.cell? ⟨gb, 2, none⟩ = some (.slice none 0 0) := (blk_cell HX1.out 2).trans rfl; have hf0 := blk_frozen HX1.out 0; have hf1 := blk_frozen HX1.out 1; have hf2 := blk_frozen HX1.out 2; have hq0 : w1.cell? ⟨g, 0, none⟩ = some (.slice A l.length c) := (blk_cell hg1 0).trans rfl; clear hb hbox hgb hg1)
    have HX4 : Aside0 ((((w1.setCell ⟨gb, 0, none⟩ (Value.string (⟨#[]⟩ : ByteArray))).setCell ⟨gb, 1, none⟩ (Value.slice none 0 0)).setCell ⟨gb, 2, none⟩ (Value.slice none 0 0)).heap[gb]? = some (.cells #[Value.string (⟨#[]⟩ : ByteArray), Value.slice none 0 0, Value.slice none 0 0] 33 (0, 0))) := ⟨blk_set (blk_set (blk_set HX1.out 0 _) 1 _) 2 _⟩
    have HB4 : Aside0 (Below w.heap.size w (((w1.setCell ⟨gb, 0, none⟩ (Value.string (⟨#[]⟩ : ByteArray))).setCell ⟨gb, 1, none⟩ (Value.slice none 0 0)).setCell ⟨gb, 2, none⟩ (Value.slice none 0 0))) := ⟨below_set (below_set (below_set HB1.out GE1.out) GE1.out) GE1.out⟩
    generalize ((w1.setCell ⟨gb, 0, none⟩ (Value.string (⟨#[]⟩ : ByteArray))).setCell ⟨gb, 1, none⟩ (Value.slice none 0 0)).setCell ⟨gb, 2, none⟩ (Value.slice none 0 0) = w4 at *
    have hy0 : w4.cell? ⟨gb, 0, none⟩ = some (Value.string (⟨#[]⟩ : ByteArray)) := (blk_cell HX4.out 0).trans rfl
    have hy1 : w4.cell? ⟨gb, 1, none⟩ = some (Value.slice none 0 0) := (blk_cell HX4.out 1).trans rfl
    have hy2 : w4.cell? ⟨gb, 2, none⟩ = some (Value.slice none 0 0) := (blk_cell HX4.out 2).trans rfl
    refine bodyPost_ret (v := .agg #[Value.string (⟨#[]⟩ : ByteArray), Value.slice none 0 0, Value.slice none 0 0]) (by simp [results, Try.results35, go_sem, hy0, hy1, hy2]) rfl ⟨by rw [HU.out]; exact ⟨none, 0, none, 0, rfl, Nat.le_refl _, trivC38, Nat.le_refl _, trivC3⟩, HB4.out⟩
  · obtain ⟨k, rfl⟩ := Int.eq_ofNat_of_zero_le (by omega : 0 ≤ i)
    by_cases hlt : k < l.length
    · obtain ⟨ad, A1, c1, A2, c2, e, hx0, hx1, hx2, hc1, hC1, hc2, hC2⟩ := at33 HR.out k hlt
      cases e
      have HU := Aside0.mk (atB_in k hlt)
      have HC := Aside0.mk (And.intro hc1 (And.intro hC1 (And.intro hc2 hC2)))
      have HQ0 := Aside0.mk hx0
      have HQ1 := Aside0.mk hx1
      have HQ2 := Aside0.mk hx2
      clear hc1 hC1 hc2 hC2 hg hx0 hx1 hx2
      generalize l[k] = t at *
      go_enter Try.func35, Try.ntmps35
      go_wp2_with ((with_reducible refine gate_dst (N := 4) rfl ?_); (try (refine gate_guard (by rfl) ?_; dsimp only)); refine box_event ?hg (N := 4) ?hd (cs := #[.string (⟨#[]⟩ : ByteArray), .slice none 0 0, .slice none 0 0]) (t := 33) ?hr ?_; (case hd => rfl); (case hg => rfl); (case hr => first | (go_simp; done) | (go_simp; rfl)); intro gb hgb w1 hbox hb; have HX1 := Aside0.mk hbox; have GE1 := Aside0.mk ((by rw [hgb]; exact Nat.le_refl _) : w.heap.size ≤ gb); have HB1 := Aside0.mk hb; have hg1 := (hb.block _ (blk_lt HG.out)).trans HG.out; have hz0 : w1.cell? ⟨gb, 0, none⟩ = some (.string (⟨#[]⟩ : ByteArray)) := (blk_cell HX1.out 0).trans rfl; have hz1 : w1.cell? ⟨gb, 1, none⟩ = some (.slice none 0 0) := (blk_cell HX1.out 1).trans rfl; have hz2 : w1.cell? ⟨gb, 2, none⟩ = some (.slice none 0 0) := (blk_cell HX1.out 2).trans rfl; have hf0 := blk_frozen HX1.out 0; have hf1 := blk_frozen HX1.out 1; have hf2 := blk_frozen HX1.out 2; have hq0 : w1.cell? ⟨g, 0, none⟩ = some (.slice (some ad) l.length c) := (blk_cell hg1 0).trans rfl; have hx0 := (HB1.out.cell (World.block_lt_of_cell? w _ HQ0.out)).trans HQ0.out; have hx1 := (HB1.out.cell (World.block_lt_of_cell? w _ HQ1.out)).trans HQ1.out; have hx2 := (HB1.out.cell (World.block_lt_of_cell? w _ HQ2.out)).trans HQ2.out; clear hb hbox hgb hg1)
      have HX4 : Aside0 ((((w1.setCell ⟨gb, 0, none⟩ (Value.string t.f0)).setCell ⟨gb, 1, none⟩ (Value.slice A1 t.f1.length c1)).setCell ⟨gb, 2, none⟩ (Value.slice A2 t.f2.length c2)).heap[gb]? = some (.cells #[Value.string t.f0, Value.slice A1 t.f1.length c1, Value.slice A2 t.f2.length c2] 33 (0, 0))) := ⟨blk_set (blk_set (blk_set HX1.out 0 _) 1 _) 2 _⟩
      have HB4 : Aside0 (Below w.heap.size w (((w1.setCell ⟨gb, 0, none⟩ (Value.string t.f0)).setCell ⟨gb, 1, none⟩ (Value.slice A1 t.f1.length c1)).setCell ⟨gb, 2, none⟩ (Value.slice A2 t.f2.length c2))) := ⟨below_set (below_set (below_set HB1.out GE1.out) GE1.out) GE1.out⟩
      generalize ((w1.setCell ⟨gb, 0, none⟩ (Value.string t.f0)).setCell ⟨gb, 1, none⟩ (Value.slice A1 t.f1.length c1)).setCell ⟨gb, 2, none⟩ (Value.slice A2 t.f2.length c2) = w4 at *
      have hy0 : w4.cell? ⟨gb, 0, none⟩ = some (Value.string t.f0) := (blk_cell HX4.out 0).trans rfl
      have hy1 : w4.cell? ⟨gb, 1, none⟩ = some (Value.slice A1 t.f1.length c1) := (blk_cell HX4.out 1).trans rfl
      have hy2 : w4.cell? ⟨gb, 2, none⟩ = some (Value.slice A2 t.f2.length c2) := (blk_cell HX4.out 2).trans rfl
      refine bodyPost_ret (v := .agg #[Value.string t.f0, Value.slice A1 t.f1.length c1, Value.slice A2 t.f2.length c2]) (by simp [results, Try.results35, go_sem, hy0, hy1, hy2]) rfl ⟨by rw [HU.out]; exact ⟨A1, c1, A2, c2, rfl, HC.out⟩, HB4.out⟩
    · have HU := Aside0.mk (atB_out (l := l) (i := (k : Int)) (.inr (by omega)))
      clear hg
      go_enter Try.func35, Try.ntmps35
      go_wp2_with ((with_reducible refine gate_dst (N := 4) rfl ?_); (try (refine gate_guard (by rfl) ?_; dsimp only)); refine box_event ?hg (N := 4) ?hd (cs := #[.string (⟨#[]⟩ : ByteArray), .slice none 0 0, .slice none 0 0]) (t := 33) ?hr ?_; (case hd => rfl); (case hg => rfl); (case hr => first | (go_simp; done) | (go_simp; rfl)); intro gb hgb w1 hbox hb; have HX1 := Aside0.mk hbox; have GE1 := Aside0.mk ((by rw [hgb]; exact Nat.le_refl _) : w.heap.size ≤ gb); have HB1 := Aside0.mk hb; have hg1 := (hb.block _ (blk_lt HG.out)).trans HG.out; have hz0 : w1.cell? ⟨gb, 0, none⟩ = some (.string (⟨#[]⟩ : ByteArray)) := (blk_cell HX1.out 0).trans rfl; have hz1 : w1.cell? ⟨gb, 1, none⟩ = some (.slice none 0 0) := (blk_cell HX1.out 1).trans rfl; have hz2 : w1.cell? ⟨gb, 2, none⟩ = some (.slice none 0 0) := (blk_cell HX1.out 2).trans rfl; have hf0 := blk_frozen HX1.out 0; have hf1 := blk_frozen HX1.out 1; have hf2 := blk_frozen HX1.out 2; have hq0 : w1.cell? ⟨g, 0, none⟩ = some (.slice A l.length c) := (blk_cell hg1 0).trans rfl; clear hb hbox hgb hg1)
      have HX4 : Aside0 ((((w1.setCell ⟨gb, 0, none⟩ (Value.string (⟨#[]⟩ : ByteArray))).setCell ⟨gb, 1, none⟩ (Value.slice none 0 0)).setCell ⟨gb, 2, none⟩ (Value.slice none 0 0)).heap[gb]? = some (.cells #[Value.string (⟨#[]⟩ : ByteArray), Value.slice none 0 0, Value.slice none 0 0] 33 (0, 0))) := ⟨blk_set (blk_set (blk_set HX1.out 0 _) 1 _) 2 _⟩
      have HB4 : Aside0 (Below w.heap.size w (((w1.setCell ⟨gb, 0, none⟩ (Value.string (⟨#[]⟩ : ByteArray))).setCell ⟨gb, 1, none⟩ (Value.slice none 0 0)).setCell ⟨gb, 2, none⟩ (Value.slice none 0 0))) := ⟨below_set (below_set (below_set HB1.out GE1.out) GE1.out) GE1.out⟩
      generalize ((w1.setCell ⟨gb, 0, none⟩ (Value.string (⟨#[]⟩ : ByteArray))).setCell ⟨gb, 1, none⟩ (Value.slice none 0 0)).setCell ⟨gb, 2, none⟩ (Value.slice none 0 0) = w4 at *
      have hy0 : w4.cell? ⟨gb, 0, none⟩ = some (Value.string (⟨#[]⟩ : ByteArray)) := (blk_cell HX4.out 0).trans rfl
      have hy1 : w4.cell? ⟨gb, 1, none⟩ = some (Value.slice none 0 0) := (blk_cell HX4.out 1).trans rfl
      have hy2 : w4.cell? ⟨gb, 2, none⟩ = some (Value.slice none 0 0) := (blk_cell HX4.out 2).trans rfl
      refine bodyPost_ret (v := .agg #[Value.string (⟨#[]⟩ : ByteArray), Value.slice none 0 0, Value.slice none 0 0]) (by simp [results, Try.results35, go_sem, hy0, hy1, hy2]) rfl ⟨by rw [HU.out]; exact ⟨none, 0, none, 0, rfl, Nat.le_refl _, trivC38, Nat.le_refl _, trivC3⟩, HB4.out⟩

end Go.Proofs.Ytkogfjphpklioaa.QStoreNames
