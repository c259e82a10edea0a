import Derived.Test.YtkogfjphpklioaaStG
/- Store: walks by hand; the conditions stand in each theorem. -/
namespace Go.Proofs.Ytkogfjphpklioaa.QStoreNames
open Go.RowKit Go.Proofs.YtkogfjphpklioaaW.PrintWords Go.Proofs.YtkogfjphpklioaaW.PrintLast Go.Proofs.YtkogfjphpklioaaW.PrintMore
attribute [local go_sem] max2_int min2_int max_two min_two max_three min_three max_four min_four
set_option linter.unusedVariables false
set_option linter.unusedSimpArgs false
theorem fld1 (a b c : Value) (h1 : a.oneCell' = true) (h2 : b.oneCell' = true) (h3 : c.oneCell' = true) (w : World) : (Instr.field 33 (.agg #[a, b, c]) 1).run Try.prog w = .ok b w := by
  have hu := run_underlying Try.underlying33
  simp [Instr.field, go_sem, asAgg]
theorem fld2 (a b c : Value) (h1 : a.oneCell' = true) (h2 : b.oneCell' = true) (h3 : c.oneCell' = true) (w : World) : (Instr.field 33 (.agg #[a, b, c]) 2).run Try.prog w = .ok c w := by
  have hu := run_underlying Try.underlying33
  simp [Instr.field, go_sem, asAgg]
set_option maxHeartbeats 4000000 in
theorem store_Many (g : Nat) (A : Option Addr) (c : Nat) (mv : Value) (l : List S33) (i : Int) (w : World) (hg : w.heap[g]? = some (.cells #[.slice A l.length c, mv] 68 (0, 0))) (hr : Kd.C k33 w A l.length l) (hl : l.length ≤ 4611686018427387904) :
    Calls Try.prog 15 #[.pointer (some ⟨g, 0, none⟩), .int .i64 i] w fun e w' => e = .returned (.int .i64 ((atB l i).f2.length : Nat)) ∧ Below w.heap.size w w' := by
  have HA := Aside0.mk (store_at g A c mv l i w hg hr hl)
  clear hg hr
  go_enter Try.func15, Try.ntmps15
  go_wp2_with (go_at_call 35; refine HA.out.mono ?_; rintro e w1 ⟨⟨A1, c1, A2, c2, rfl, h1, h2, h3, h4⟩, hb⟩; have HB := Aside0.mk hb; have hf := fld2 (.string (atB l i).f0) (.slice A1 (atB l i).f1.length c1) (.slice A2 (atB l i).f2.length c2) rfl rfl rfl; clear hb h1 h2 h3 h4)
  go_ret
  exact ⟨rfl, HB.out⟩
set_option maxHeartbeats 4000000 in
theorem store_Cols (g : Nat) (A : Option Addr) (c : Nat) (mv : Value) (l : List S33) (i : Int) (w : World) (hg : w.heap[g]? = some (.cells #[.slice A l.length c, mv] 68 (0, 0))) (hr : Kd.C k33 w A l.length l) (hl : l.length ≤ 4611686018427387904) (hc : (atB l i).f1.length < 4398046511104) :
    Calls Try.prog 16 #[.pointer (some ⟨g, 0, none⟩), .int .i64 i] w fun e w' => ∃ v0_ : Value, e = .returned (v0_) ∧ Kd.R k38 38 w' w.heap.size (fun _ => True) v0_ (atB l i).f1 ∧ Below w.heap.size w w' := by
  have HA := Aside0.mk (store_at g A c mv l i w hg hr hl)
  clear hg hr
  generalize atB l i = t at *
  go_enter Try.func16, Try.ntmps16
  go_wp2_with (first | (go_at_call 35; refine HA.out.mono ?_; rintro e w1 ⟨⟨A1, c1, A2, c2, rfl, h1, h2, h3, h4⟩, hb⟩; have HB := Aside0.mk hb; have hf := fld1 (.string t.f0) (.slice A1 t.f1.length c1) (.slice A2 t.f2.length c2) rfl rfl rfl; have H12 := Aside0.mk (And.intro h1 h2); clear hb h1 h2 h3 h4) | (go_at_call 31; refine (clone38 A1 c1 t.f1 _ (Kd.C_below H12.out.2 HB.out) H12.out.1 hc).mono ?_; rintro e w2 ⟨v2, rfl, hR, hb⟩; have HR2 := Aside0.mk (Kd.R_lower hR HB.out.size); have HB2 := Aside0.mk (below_step HB.out hb); clear hR hb))
  go_ret
  exact ⟨_, rfl, HR2.out, HB2.out⟩
theorem str_eq_dec (a b : ByteArray) : (a.toList == b.toList) = decide (a = b) := by
  by_cases h : a = b
  · subst h; simp
  · rw [decide_eq_false h]
    have : a.toList ≠ b.toList := fun e => h (by
      rw [Lib.toList_data, Lib.toList_data] at e
      exact ByteArray.ext (Array.toList_inj.1 e))
    simpa using this
def findB (l : List S33) (nm : ByteArray) : Int := fI (fun t => decide (t.f0 = nm)) l
theorem clo34 (g : Nat) (nm : ByteArray) (t : S33) (v1 v2 : Value) (w : World) (h1 : v1.oneCell' = true) (h2 : v2.oneCell' = true) (hn : w.heap[g]? = some (.cells #[.string nm] 9 (0, 0))) :
    Calls Try.prog 34 #[.agg #[.string t.f0, v1, v2], .pointer (some ⟨g, 0, none⟩)] w fun e w' => e = .returned (.bool (decide (t.f0 = nm))) ∧ Below w.heap.size w w' := by
  have HN := Aside0.mk hn
  have hlt := blk_lt hn
  have hc0 : (w.alloc (.cells #[.string t.f0, v1, v2] 33)).cell? ⟨g, 0, none⟩ = some (.string nm) := (blk_cell (((below_alloc (Below.refl w.heap.size w) (.cells #[.string t.f0, v1, v2] 33)).block _ hlt).trans hn) 0).trans rfl
  have HB0 : Aside0 (Below w.heap.size w (w.alloc (.cells #[.string t.f0, v1, v2] 33))) := ⟨below_alloc (Below.refl _ _) _⟩
  clear hn
  go_enter Try.func34, Try.ntmps34
  go_wp2
  go_ret
  exact ⟨by rw [← str_eq_dec]; rfl, HB0.out⟩

end Go.Proofs.Ytkogfjphpklioaa.QStoreNames
