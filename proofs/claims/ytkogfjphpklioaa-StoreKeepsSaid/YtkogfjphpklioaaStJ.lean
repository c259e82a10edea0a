import Derived.Test.YtkogfjphpklioaaStI
/- Store: walks by hand; the conditions stand in each theorem. -/
namespace Go.Proofs.Ytkogfjphpklioaa.QStoreNames
open Go.RowKit Go.Proofs.YtkogfjphpklioaaW.PrintWords Go.Proofs.YtkogfjphpklioaaW.PrintLast Go.Proofs.YtkogfjphpklioaaW.PrintMore
attribute [local go_sem] max2_int min2_int max_two min_two max_three min_three max_four min_four
set_option linter.unusedVariables false
set_option linter.unusedSimpArgs false
set_option maxHeartbeats 4000000 in
theorem store_Row_no (g : Nat) (A : Option Addr) (c : Nat) (mv : Value) (l : List S33) (i n : Int) (w : World) (hg : w.heap[g]? = some (.cells #[.slice A l.length c, mv] 68 (0, 0))) (hr : Kd.C k33 w A l.length l) (hl : l.length ≤ 4611686018427387904) (hn : n < 0 ∨ ((atB l i).f2.length : Int) ≤ n) :
    Calls Try.prog 17 #[.pointer (some ⟨g, 0, none⟩), .int .i64 i, .int .i64 n] w fun e w' => e = .returned (.tuple #[.slice none 0 0, .bool false]) ∧ Below w.heap.size w w' := by
  have HM := Aside0.mk (store_Many g A c mv l i w hg hr hl)
  clear hg hr
  generalize atB l i = t at *
  by_cases hz : n < 0
  · clear hn
    go_enter Try.func17, Try.ntmps17
    go_wp2
    refine bodyPost_ret (v := .tuple #[.slice none 0 0, .bool false]) (by simp [results, Try.results17, go_sem]) rfl ⟨rfl, Below.refl _ _⟩
  · have hq : (t.f2.length : Int) ≤ n := by omega
    clear hn
    go_enter Try.func17, Try.ntmps17
    go_wp2_with (go_at_call 15; refine HM.out.mono ?_; rintro e w1 ⟨rfl, hb⟩; have HB := Aside0.mk hb; clear hb)
    refine bodyPost_ret (v := .tuple #[.slice none 0 0, .bool false]) (by simp [results, Try.results17, go_sem]) rfl ⟨rfl, HB.out⟩
set_option maxHeartbeats 4000000 in
theorem store_Row (g : Nat) (A : Option Addr) (c : Nat) (mv : Value) (l : List S33) (k m : Nat) (w : World) (hg : w.heap[g]? = some (.cells #[.slice A l.length c, mv] 68 (0, 0))) (hr : Kd.C k33 w A l.length l) (hl : l.length ≤ 4611686018427387904) (hk : k < l.length) (hm : m < l[k].f2.length) (hrl : l[k].f2[m].length < 4398046511104) :
    Calls Try.prog 17 #[.pointer (some ⟨g, 0, none⟩), .int .i64 k, .int .i64 m] w fun e w' => ∃ v0_ : Value, e = .returned (.tuple #[v0_, .bool true]) ∧ Kd.R k36 36 w' w.heap.size (fun _ => True) v0_ l[k].f2[m] ∧ Below w.heap.size w w' := by
  have HM := Aside0.mk (store_Many g A c mv l k w hg hr hl)
  rw [atB_in k hk] at HM
  have HG := Aside0.mk hg
  obtain ⟨ad, A1, c1, A2, c2, e, hx0, hx1, hx2, hc1, hC1, hc2, hC2⟩ := at33 hr k hk
  cases e
  have HX2 := Aside0.mk hx2
  clear hx0 hx1 hx2 hC1 hc1 hg hr
  generalize l[k] = t at *
  obtain ⟨ad2, A0, c0, e, hy, hlc, hC⟩ := atL3 hC2 m hm
  cases e
  have HY := Aside0.mk hy
  have HC := Aside0.mk hC
  clear hy hC hC2
  generalize t.f2[m] = r at *
  go_enter Try.func17, Try.ntmps17
  go_wp2_with (first | (go_at_call 15; refine HM.out.mono ?_; rintro e w1 ⟨rfl, hb⟩; have HB := Aside0.mk hb; have hq0 : w1.cell? ⟨g, 0, none⟩ = some (.slice (some ad) l.length c) := (blk_cell ((hb.block _ (blk_lt HG.out)).trans HG.out) 0).trans rfl; have hx2 := (hb.cell (World.block_lt_of_cell? w _ HX2.out)).trans HX2.out; have hy := (hb.cell (World.block_lt_of_cell? w _ HY.out)).trans HY.out; clear hb) | (go_at_call 36; refine (clone36 A0 c0 r _ (Kd.C_below HC.out HB.out) hlc hrl).mono ?_; rintro e w2 ⟨v2, rfl, hR, hb⟩; have HR2 := Aside0.mk (Kd.R_lower hR HB.out.size); have HB2 := Aside0.mk (below_step HB.out hb); clear hR hb))
  refine bodyPost_ret (v := .tuple #[v2, .bool true]) (by simp [results, Try.results17, go_sem]) rfl ⟨_, rfl, HR2.out, HB2.out⟩

end Go.Proofs.Ytkogfjphpklioaa.QStoreNames
