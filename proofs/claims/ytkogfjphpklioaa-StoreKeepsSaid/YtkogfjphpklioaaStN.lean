import Derived.Test.YtkogfjphpklioaaStM
import Derived.Test.YtkogfjphpklioaaWRepsOne
import Derived.Test.YtkogfjphpklioaaWEqStruct
/- Store: walks by hand; the conditions stand in each theorem. -/
namespace Go.Proofs.Ytkogfjphpklioaa.QStoreNames
open Go.RowKit Go.Proofs.YtkogfjphpklioaaW.PrintWords Go.Proofs.YtkogfjphpklioaaW.PrintLast Go.Proofs.YtkogfjphpklioaaW.PrintMore
attribute [local go_sem] max2_int min2_int max_two min_two max_three min_three max_four min_four
set_option linter.unusedVariables false
set_option linter.unusedSimpArgs false
theorem C_lit {α : Type} (d : Kd α) (e : Nat) (W : World) (xs : List α) (inner : List Value) (hrep : Reps (d.K W) d.sz xs inner) (hm : xs.length ≤ 9223372036854775807) {n : Nat} (hn : n = W.heap.size) : d.C (W.alloc (.cells inner.toArray e)) (some ⟨n, 0, none⟩) xs.length xs := by
  subst hn
  refine ⟨rfl, hm, fun _ => ⟨_, rfl, fun j p hj => ⟨_, ?_, d.K_below (below_alloc (Below.refl _ _) _) (hrep.2 j p hj), fun i u hu => ?_⟩⟩⟩
  · exact d.K_len (hrep.2 j p hj)
  · have h1 := blk_cell (blk_new W (.cells inner.toArray e)) (0 + (j * d.sz + i))
    have h2 : i < d.sz := by
      have := (List.getElem?_eq_some_iff.1 hu).1
      rw [d.K_len (hrep.2 j p hj)] at this
      exact this
    rw [List.getElem?_take_of_lt h2, List.getElem?_drop] at hu
    rw [add_at]
    refine h1.trans ?_
    rw [Nat.zero_add, List.getElem?_toArray]
    exact hu
def exL : List S33 := [⟨⟨#[116]⟩, [⟨⟨#[97]⟩, 1⟩], [[⟨1, 1, ⟨#[]⟩⟩], [⟨0, 0, ⟨#[]⟩⟩]]⟩]
theorem exC (w : World) : Kd.C k33 (((((w.alloc (.cells #[.string ⟨#[97]⟩, .int .i64 1] 38)).alloc (.cells #[.int .i64 1, .int .i64 1, .string ⟨#[]⟩] 36)).alloc (.cells #[.int .i64 0, .int .i64 0, .string ⟨#[]⟩] 36)).alloc (.cells #[.slice (some ⟨w.heap.size + 1, 0, none⟩) 1 1, .slice (some ⟨w.heap.size + 1 + 1, 0, none⟩) 1 1] 34)).alloc (.cells #[.string ⟨#[116]⟩, .slice (some ⟨w.heap.size, 0, none⟩) 1 1, .slice (some ⟨w.heap.size + 1 + 1 + 1, 0, none⟩) 2 2] 33)) (some ⟨w.heap.size + 1 + 1 + 1 + 1, 0, none⟩) exL.length exL := by
  have s1 : w.heap.size + 1 = (w.alloc (.cells #[.string ⟨#[97]⟩, .int .i64 1] 38)).heap.size := by simp
  have s2 : w.heap.size + 1 + 1 = ((w.alloc (.cells #[.string ⟨#[97]⟩, .int .i64 1] 38)).alloc (.cells #[.int .i64 1, .int .i64 1, .string ⟨#[]⟩] 36)).heap.size := by simp
  have s3 : w.heap.size + 1 + 1 + 1 = (((w.alloc (.cells #[.string ⟨#[97]⟩, .int .i64 1] 38)).alloc (.cells #[.int .i64 1, .int .i64 1, .string ⟨#[]⟩] 36)).alloc (.cells #[.int .i64 0, .int .i64 0, .string ⟨#[]⟩] 36)).heap.size := by simp
  have s4 : w.heap.size + 1 + 1 + 1 + 1 = ((((w.alloc (.cells #[.string ⟨#[97]⟩, .int .i64 1] 38)).alloc (.cells #[.int .i64 1, .int .i64 1, .string ⟨#[]⟩] 36)).alloc (.cells #[.int .i64 0, .int .i64 0, .string ⟨#[]⟩] 36)).alloc (.cells #[.slice (some ⟨w.heap.size + 1, 0, none⟩) 1 1, .slice (some ⟨w.heap.size + 1 + 1, 0, none⟩) 1 1] 34)).heap.size := by simp
  have b1 : Below w.heap.size w (w.alloc (.cells #[.string ⟨#[97]⟩, .int .i64 1] 38)) := below_alloc (Below.refl _ _) _
  have b2 : Below (w.alloc (.cells #[.string ⟨#[97]⟩, .int .i64 1] 38)).heap.size (w.alloc (.cells #[.string ⟨#[97]⟩, .int .i64 1] 38)) ((w.alloc (.cells #[.string ⟨#[97]⟩, .int .i64 1] 38)).alloc (.cells #[.int .i64 1, .int .i64 1, .string ⟨#[]⟩] 36)) := below_alloc (Below.refl _ _) _
  have b3 : Below ((w.alloc (.cells #[.string ⟨#[97]⟩, .int .i64 1] 38)).alloc (.cells #[.int .i64 1, .int .i64 1, .string ⟨#[]⟩] 36)).heap.size ((w.alloc (.cells #[.string ⟨#[97]⟩, .int .i64 1] 38)).alloc (.cells #[.int .i64 1, .int .i64 1, .string ⟨#[]⟩] 36)) (((w.alloc (.cells #[.string ⟨#[97]⟩, .int .i64 1] 38)).alloc (.cells #[.int .i64 1, .int .i64 1, .string ⟨#[]⟩] 36)).alloc (.cells #[.int .i64 0, .int .i64 0, .string ⟨#[]⟩] 36)) := below_alloc (Below.refl _ _) _
  have b4 : Below (((w.alloc (.cells #[.string ⟨#[97]⟩, .int .i64 1] 38)).alloc (.cells #[.int .i64 1, .int .i64 1, .string ⟨#[]⟩] 36)).alloc (.cells #[.int .i64 0, .int .i64 0, .string ⟨#[]⟩] 36)).heap.size (((w.alloc (.cells #[.string ⟨#[97]⟩, .int .i64 1] 38)).alloc (.cells #[.int .i64 1, .int .i64 1, .string ⟨#[]⟩] 36)).alloc (.cells #[.int .i64 0, .int .i64 0, .string ⟨#[]⟩] 36)) ((((w.alloc (.cells #[.string ⟨#[97]⟩, .int .i64 1] 38)).alloc (.cells #[.int .i64 1, .int .i64 1, .string ⟨#[]⟩] 36)).alloc (.cells #[.int .i64 0, .int .i64 0, .string ⟨#[]⟩] 36)).alloc (.cells #[.slice (some ⟨w.heap.size + 1, 0, none⟩) 1 1, .slice (some ⟨w.heap.size + 1 + 1, 0, none⟩) 1 1] 34)) := below_alloc (Below.refl _ _) _
  have b5 : Below ((((w.alloc (.cells #[.string ⟨#[97]⟩, .int .i64 1] 38)).alloc (.cells #[.int .i64 1, .int .i64 1, .string ⟨#[]⟩] 36)).alloc (.cells #[.int .i64 0, .int .i64 0, .string ⟨#[]⟩] 36)).alloc (.cells #[.slice (some ⟨w.heap.size + 1, 0, none⟩) 1 1, .slice (some ⟨w.heap.size + 1 + 1, 0, none⟩) 1 1] 34)).heap.size ((((w.alloc (.cells #[.string ⟨#[97]⟩, .int .i64 1] 38)).alloc (.cells #[.int .i64 1, .int .i64 1, .string ⟨#[]⟩] 36)).alloc (.cells #[.int .i64 0, .int .i64 0, .string ⟨#[]⟩] 36)).alloc (.cells #[.slice (some ⟨w.heap.size + 1, 0, none⟩) 1 1, .slice (some ⟨w.heap.size + 1 + 1, 0, none⟩) 1 1] 34)) (((((w.alloc (.cells #[.string ⟨#[97]⟩, .int .i64 1] 38)).alloc (.cells #[.int .i64 1, .int .i64 1, .string ⟨#[]⟩] 36)).alloc (.cells #[.int .i64 0, .int .i64 0, .string ⟨#[]⟩] 36)).alloc (.cells #[.slice (some ⟨w.heap.size + 1, 0, none⟩) 1 1, .slice (some ⟨w.heap.size + 1 + 1, 0, none⟩) 1 1] 34)).alloc (.cells #[.string ⟨#[116]⟩, .slice (some ⟨w.heap.size, 0, none⟩) 1 1, .slice (some ⟨w.heap.size + 1 + 1 + 1, 0, none⟩) 2 2] 33)) := below_alloc (Below.refl _ _) _
  have c1 : Kd.C k38 (w.alloc (.cells #[.string ⟨#[97]⟩, .int .i64 1] 38)) (some ⟨w.heap.size, 0, none⟩) 1 [⟨⟨#[97]⟩, 1⟩] := C_lit k38 38 w [⟨⟨#[97]⟩, 1⟩] _ (Reps.c2 (k38_mk _ _) (Reps.none _ _)) (by decide) rfl
  have c2 : Kd.C k36 ((w.alloc (.cells #[.string ⟨#[97]⟩, .int .i64 1] 38)).alloc (.cells #[.int .i64 1, .int .i64 1, .string ⟨#[]⟩] 36)) (some ⟨w.heap.size + 1, 0, none⟩) 1 [⟨1, 1, ⟨#[]⟩⟩] := C_lit k36 36 _ [⟨1, 1, ⟨#[]⟩⟩] _ (Reps.c3 (k36_mk _ _) (Reps.none _ _)) (by decide) s1
  have c3 : Kd.C k36 (((w.alloc (.cells #[.string ⟨#[97]⟩, .int .i64 1] 38)).alloc (.cells #[.int .i64 1, .int .i64 1, .string ⟨#[]⟩] 36)).alloc (.cells #[.int .i64 0, .int .i64 0, .string ⟨#[]⟩] 36)) (some ⟨w.heap.size + 1 + 1, 0, none⟩) 1 [⟨0, 0, ⟨#[]⟩⟩] := C_lit k36 36 _ [⟨0, 0, ⟨#[]⟩⟩] _ (Reps.c3 (k36_mk _ _) (Reps.none _ _)) (by decide) s2
  have c4 : Kd.C (Kd.slice 36 k36) ((((w.alloc (.cells #[.string ⟨#[97]⟩, .int .i64 1] 38)).alloc (.cells #[.int .i64 1, .int .i64 1, .string ⟨#[]⟩] 36)).alloc (.cells #[.int .i64 0, .int .i64 0, .string ⟨#[]⟩] 36)).alloc (.cells #[.slice (some ⟨w.heap.size + 1, 0, none⟩) 1 1, .slice (some ⟨w.heap.size + 1 + 1, 0, none⟩) 1 1] 34)) (some ⟨w.heap.size + 1 + 1 + 1, 0, none⟩) 2 [[⟨1, 1, ⟨#[]⟩⟩], [⟨0, 0, ⟨#[]⟩⟩]] := C_lit (Kd.slice 36 k36) 34 _ [[⟨1, 1, ⟨#[]⟩⟩], [⟨0, 0, ⟨#[]⟩⟩]] _ (Reps.one ⟨_, _, rfl, Nat.le_refl _, Kd.C_below c2 b3⟩ (Reps.one ⟨_, _, rfl, Nat.le_refl _, c3⟩ (Reps.none _ _))) (by decide) s3
  exact C_lit k33 33 _ exL _ (Reps.c3 (k33_mk _ ⟨⟨#[116]⟩, [⟨⟨#[97]⟩, 1⟩], [[⟨1, 1, ⟨#[]⟩⟩], [⟨0, 0, ⟨#[]⟩⟩]]⟩ (Nat.le_refl _) (Kd.C_below (Kd.C_below (Kd.C_below c1 b2) b3) b4) (Nat.le_refl _) c4) (Reps.none _ _)) (by decide) s4
theorem exBelow (w : World) : Below w.heap.size w (((((w.alloc (.cells #[.string ⟨#[97]⟩, .int .i64 1] 38)).alloc (.cells #[.int .i64 1, .int .i64 1, .string ⟨#[]⟩] 36)).alloc (.cells #[.int .i64 0, .int .i64 0, .string ⟨#[]⟩] 36)).alloc (.cells #[.slice (some ⟨w.heap.size + 1, 0, none⟩) 1 1, .slice (some ⟨w.heap.size + 1 + 1, 0, none⟩) 1 1] 34)).alloc (.cells #[.string ⟨#[116]⟩, .slice (some ⟨w.heap.size, 0, none⟩) 1 1, .slice (some ⟨w.heap.size + 1 + 1 + 1, 0, none⟩) 2 2] 33)) := below_alloc (below_alloc (below_alloc (below_alloc (below_alloc (Below.refl _ _) _) _) _) _) _
theorem exRight : rightB exL = true := by kernel_rfl
theorem exFind : findB exL ⟨#[117]⟩ = -1 := by kernel_rfl
theorem exSelect : nameB ⟨#[115, 101, 108, 101, 99, 116]⟩ = false := by kernel_rfl
theorem exA1 : nameB ⟨#[97, 95, 49]⟩ = true := by kernel_rfl
theorem exOk : ∀ t ∈ exL, okT t := by
  intro t ht
  have : t = ⟨⟨#[116]⟩, [⟨⟨#[97]⟩, 1⟩], [[⟨1, 1, ⟨#[]⟩⟩], [⟨0, 0, ⟨#[]⟩⟩]]⟩ := List.mem_singleton.1 ht
  subst this
  unfold okT maxLen
  simp
  decide
theorem ex_Open (w : World) (hw : ShB w) : Calls Try.prog 13 #[.slice (some ⟨w.heap.size + 1 + 1 + 1 + 1, 0, none⟩) 1 1] (((((w.alloc (.cells #[.string ⟨#[97]⟩, .int .i64 1] 38)).alloc (.cells #[.int .i64 1, .int .i64 1, .string ⟨#[]⟩] 36)).alloc (.cells #[.int .i64 0, .int .i64 0, .string ⟨#[]⟩] 36)).alloc (.cells #[.slice (some ⟨w.heap.size + 1, 0, none⟩) 1 1, .slice (some ⟨w.heap.size + 1 + 1, 0, none⟩) 1 1] 34)).alloc (.cells #[.string ⟨#[116]⟩, .slice (some ⟨w.heap.size, 0, none⟩) 1 1, .slice (some ⟨w.heap.size + 1 + 1 + 1, 0, none⟩) 2 2] 33)) fun e w' => ∃ g A c mv, e = .returned (.tuple #[.pointer (some ⟨g, 0, none⟩), .int .i64 0]) ∧ w'.heap[g]? = some (.cells #[.slice A 1 c, mv] 68 (0, 0)) ∧ Kd.C k33 w' A 1 exL ∧ Below w.heap.size w w' := by
  have h := store_Open _ 1 exL _ (exC w) (hw.on (exBelow w)) (by decide) exOk exRight
  refine Calls.mono h ?_
  rintro e w1 ⟨g, v, mv, rfl, hge, hg, hR, hb⟩
  obtain ⟨A, c, rfl, _, hC⟩ := Kd.R_reads hR
  exact ⟨g, A, c, mv, rfl, hg, hC, below_step (exBelow w) hb⟩
theorem ex_Row (g : Nat) (A : Option Addr) (c : Nat) (mv : Value) (w : World) (hg : w.heap[g]? = some (.cells #[.slice A 1 c, mv] 68 (0, 0))) (hC : Kd.C k33 w A 1 exL) :
    Calls Try.prog 17 #[.pointer (some ⟨g, 0, none⟩), .int .i64 0, .int .i64 1] w fun e w' => ∃ g2 c2, e = .returned (.tuple #[.slice (some ⟨g2, 0, none⟩) 1 c2, .bool true]) ∧ w'.cell? ⟨g2, 0, none⟩ = some (.int .i64 0) ∧ w'.cell? ⟨g2, 1, none⟩ = some (.int .i64 0) ∧ w'.cell? ⟨g2, 2, none⟩ = some (.string ⟨#[]⟩) ∧ Below w.heap.size w w' := by
  have h := store_Row g A c mv exL 0 1 w hg hC (by decide) (by decide) (by decide) (by decide)
  refine Calls.mono h ?_
  rintro e w1 ⟨v, rfl, hR, hb⟩
  have hR2 : Kd.R k36 36 w1 w.heap.size (fun _ => True) v [⟨0, 0, ⟨#[]⟩⟩] := hR
  obtain ⟨A2, c2, e2, _, hC2⟩ := Kd.R_reads hR2
  obtain ⟨ad, ea, x0, x1, x2⟩ := at36 (l := [⟨0, 0, ⟨#[]⟩⟩]) hC2 0 (by decide)
  obtain ⟨_, inner, ho, _⟩ := hR2
  rcases ho.2 with ⟨h1, _⟩ | ⟨g2, cap, cur, h1, _⟩
  · rw [e2, ea] at h1
    cases h1
  · rw [e2, ea] at h1
    injection h1 with h1 _ _
    injection h1 with h1
    subst h1
    rw [add_at] at x0 x1 x2
    subst e2
    subst ea
    exact ⟨g2, c2, rfl, x0, x1, x2, hb⟩
theorem ex_Many (g : Nat) (A : Option Addr) (c : Nat) (mv : Value) (w : World) (hg : w.heap[g]? = some (.cells #[.slice A 1 c, mv] 68 (0, 0))) (hC : Kd.C k33 w A 1 exL) : Calls Try.prog 15 #[.pointer (some ⟨g, 0, none⟩), .int .i64 0] w fun e w' => e = .returned (.int .i64 2) ∧ Below w.heap.size w w' := store_Many g A c mv exL 0 w hg hC (by decide)
theorem ex_Find (g : Nat) (A : Option Addr) (c : Nat) (mv : Value) (w : World) (hg : w.heap[g]? = some (.cells #[.slice A 1 c, mv] 68 (0, 0))) (hC : Kd.C k33 w A 1 exL) : Calls Try.prog 14 #[.pointer (some ⟨g, 0, none⟩), .string ⟨#[117]⟩] w fun e w' => e = .returned (.int .i64 (-1)) ∧ Below w.heap.size w w' := by
  have h := store_Find g A c mv exL ⟨#[117]⟩ w hg hC (by decide)
  rw [exFind] at h
  exact h
theorem ex_select (w : World) (hw : ShB w) : Calls Try.prog 9 #[.string ⟨#[115, 101, 108, 101, 99, 116]⟩] w fun e w' => e = .returned (.bool false) ∧ Below w.heap.size w w' := by
  have h := store_Name ⟨#[115, 101, 108, 101, 99, 116]⟩ w hw (by decide)
  rw [exSelect] at h
  exact h
theorem ex_a1 (w : World) (hw : ShB w) : Calls Try.prog 9 #[.string ⟨#[97, 95, 49]⟩] w fun e w' => e = .returned (.bool true) ∧ Below w.heap.size w w' := by
  have h := store_Name ⟨#[97, 95, 49]⟩ w hw (by decide)
  rw [exA1] at h
  exact h
set_option maxRecDepth 8000 in
set_option maxHeartbeats 2000000 in
theorem examples_true (w : World) (hw : ShB w) : Calls Try.prog 8 #[] w fun e w' => e = .returned (.bool true) ∧ Below w.heap.size w w' := by
  have HX := Aside0.mk (ex_Open w hw)
  have HW := Aside0.mk hw
  clear hw
  go_enter Try.func8, Try.ntmps8
  go_wp2_with (first | (go_at_call 13; refine HX.out.mono ?_; rintro e w1 ⟨g, A, c, mv, rfl, hg, hC, hb⟩; have HG := Aside0.mk hg; have HC := Aside0.mk hC; have HB := Aside0.mk hb; clear hg hC hb) | (go_at_call 17; refine (ex_Row g A c mv _ HG.out HC.out).mono ?_; rintro e w2 ⟨g2, c2, rfl, x0, x1, x2, hb⟩; have HG2 := Aside0.mk ((hb.block _ (blk_lt HG.out)).trans HG.out); have HC2 := Aside0.mk (Kd.C_below HC.out hb); have HB2 := Aside0.mk (below_step HB.out hb); have X0 := Aside0.mk x0; have X1 := Aside0.mk x1; have X2 := Aside0.mk x2; clear hb x0 x1 x2) | (go_at_call 15; refine (ex_Many g A c mv _ HG2.out HC2.out).mono ?_; rintro e w3 ⟨rfl, hb⟩; have HG3 := Aside0.mk ((hb.block _ (blk_lt HG2.out)).trans HG2.out); have HC3 := Aside0.mk (Kd.C_below HC2.out hb); have HB3 := Aside0.mk (below_step HB2.out hb); have x0 := cells_later hb X0.out; have x1 := cells_later hb X1.out; have x2 := cells_later hb X2.out; clear hb X0 X1 X2) | (go_at_call 14; refine (ex_Find g A c mv _ HG3.out HC3.out).mono ?_; rintro e w4 ⟨rfl, hb⟩; have HB4 := Aside0.mk (below_step HB3.out hb); have HW4 := Aside0.mk (HW.out.on HB4.out); clear hb) | (go_at_call 9; refine (ex_select _ HW4.out).mono ?_; rintro e w5 ⟨rfl, hb⟩; have HB5 := Aside0.mk (below_step HB4.out hb); have HW5 := Aside0.mk (HW.out.on HB5.out); clear hb HW4) | (go_at_call 9; refine (ex_a1 _ HW5.out).mono ?_; rintro e w6 ⟨rfl, hb⟩; have HB6 := Aside0.mk (below_step HB5.out hb); clear hb))
  go_ret
  exact ⟨rfl, HB6.out⟩

end Go.Proofs.Ytkogfjphpklioaa.QStoreNames
