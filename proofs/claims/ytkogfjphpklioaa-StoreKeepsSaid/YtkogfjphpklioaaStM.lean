import Derived.Test.YtkogfjphpklioaaStL
import Derived.Deep.RegionHeld3
/- Store: walks by hand; the conditions stand in each theorem. -/
namespace Go.Proofs.Ytkogfjphpklioaa.QStoreNames
open Go.RowKit Go.Proofs.YtkogfjphpklioaaW.PrintWords Go.Proofs.YtkogfjphpklioaaW.PrintLast Go.Proofs.YtkogfjphpklioaaW.PrintMore
attribute [local go_sem] max2_int min2_int max_two min_two max_three min_three max_four min_four
set_option linter.unusedVariables false
set_option linter.unusedSimpArgs false
theorem cells_later {w w1 : World} {p : Addr} {v : Value} (hb : Below w.heap.size w w1) (h : w.cell? p = some v) : w1.cell? p = some v := (hb.cell (World.block_lt_of_cell? w _ h)).trans h
theorem cells_a0 {W : World} {o : Obj} {p : Addr} {v : Value} (h : W.cell? p = some v) : (W.alloc o).cell? p = some v := cells_later (below_alloc (Below.refl _ _) _) h
theorem tableB_sizes {t : S33} (h : tableB t = true) : t.f1.length ≤ 6 ∧ t.f2.length ≤ 20 ∧ ∀ r ∈ t.f2, r.length ≤ 6 := by
  unfold tableB at h
  simp only [Bool.and_eq_true, decide_eq_true_eq] at h
  obtain ⟨⟨⟨⟨⟨h1, h2⟩, h3⟩, h4⟩, h5⟩, h6⟩ := h
  refine ⟨h2, h3, fun r hr => ?_⟩
  have h7 := List.all_eq_true.1 h6 r hr
  unfold rowB at h7
  simp only [Bool.and_eq_true, decide_eq_true_eq] at h7
  omega
theorem rightB_sizes {l : List S33} (h : rightB l = true) : l.length ≤ 8 ∧ ∀ t ∈ l, t.f1.length ≤ 6 ∧ t.f2.length ≤ 20 ∧ ∀ r ∈ t.f2, r.length ≤ 6 := by
  unfold rightB at h
  simp only [Bool.and_eq_true, decide_eq_true_eq] at h
  exact ⟨h.1.1, fun t ht => tableB_sizes (List.all_eq_true.1 h.2 t ht)⟩
theorem open_row {w W3 w4 w5 : World} {g : Nat} {mv v v1 v2 : Value} {xs : List S33} {t : S33} (hG : W3.heap[g]? = some (.cells #[v, mv] 68 (0, 0))) (hV : Kd.R k33 33 W3 w.heap.size (fun k_ => k_ ≠ g) v xs) (hB : Below w.heap.size w W3)
    (hR4 : Kd.R k38 38 w4 W3.drew.heap.size (fun _ => True) v1 t.f1) (hb4 : Below W3.drew.heap.size W3.drew w4) (hR5 : Kd.R (Kd.slice 36 k36) 34 w5 w4.heap.size (fun _ => True) v2 t.f2) (hb5 : Below w4.heap.size w4 w5) :
    k33.M w5 w.heap.size (fun k_ => k_ ≠ g ∧ some k_ ≠ v.ownBlock) t [.string t.f0, v1, v2] ∧ Kd.R k33 33 w5 w.heap.size (fun k_ => k_ ≠ g) v xs ∧ Below w.heap.size w w5 ∧ g < w5.heap.size ∧ w5.heap[g]? = some (.cells #[v, mv] 68 (0, 0)) := by
  have h3 : w.heap.size ≤ W3.heap.size := hB.size
  have h4 : W3.heap.size ≤ w4.heap.size := hb4.size
  have h5 : w4.heap.size ≤ w5.heap.size := hb5.size
  have hg : g < W3.heap.size := blk_lt hG
  have hb3 : Below W3.heap.size W3 w4 := ⟨hb4.os, hb4.tape, hb4.output, hb4.size, hb4.block⟩
  have hb35 : Below W3.heap.size W3 w5 := ⟨hb5.os.trans hb3.os, hb5.tape.trans hb3.tape, hb5.output.trans hb3.output, by omega, fun j hj => (hb5.block j (by omega)).trans (hb3.block j hj)⟩
  have hlt : ∀ k, v.ownBlock = some k → k < W3.heap.size := fun k hk => ((Kd.R_bound hV).1 k hk).2.2.1
  refine ⟨k33_mkM _ _ _ _ ?_ ?_, Kd.R_below hV hb35, ⟨hb35.os.trans hB.os, hb35.tape.trans hB.tape, hb35.output.trans hB.output, by omega, fun j hj => (hb35.block j (by omega)).trans (hB.block j hj)⟩, by omega, (hb35.block g hg).trans hG⟩
  · refine Kd.R_mono (Kd.R_lower (Kd.R_below (Kd.R_bound hR4) hb5) h3) (fun k hk => ?_)
    have h6 : W3.heap.size ≤ k := hk.2.1
    exact ⟨by omega, fun e => by have := hlt k e.symm; omega⟩
  · refine Kd.R_mono (Kd.R_lower (Kd.R_bound hR5) (by omega)) (fun k hk => ?_)
    have h6 : w4.heap.size ≤ k := hk.2.1
    exact ⟨by omega, fun e => by have := hlt k e.symm; omega⟩
theorem open_put {w w6 : World} {g : Nat} {mv v v6 : Value} {xs : List S33} (hg : w.heap.size ≤ g) (hG : w6.heap[g]? = some (.cells #[v, mv] 68 (0, 0))) (hV : Kd.R k33 33 w6 w.heap.size (fun k_ => k_ ≠ g) v6 xs) (hB : Below w.heap.size w w6) :
    (w6.setCell ⟨g, 0, none⟩ v6).heap[g]? = some (.cells #[v6, mv] 68 (0, 0)) ∧ Kd.R k33 33 (w6.setCell ⟨g, 0, none⟩ v6) w.heap.size (fun k_ => k_ ≠ g) v6 xs ∧ Below w.heap.size w (w6.setCell ⟨g, 0, none⟩ v6) :=
  ⟨(blk_set hG 0 v6).trans rfl, Kd.R_far (p := ⟨g, 0, none⟩) hV (fun _ hk => hk) v6, below_set hB hg⟩
set_option maxRecDepth 8000 in
set_option maxHeartbeats 8000000 in
theorem store_Open (A : Option Addr) (c : Nat) (l : List S33) (w : World) (hr : Kd.C k33 w A l.length l) (hw : ShB w) (hl0 : l.length ≤ 4611686018427387904) (ho : ∀ t ∈ l, okT t) (hn : rightB l = true) :
    Calls Try.prog 13 #[.slice A l.length c] w fun e w' => ∃ g v mv, e = .returned (.tuple #[.pointer (some ⟨g, 0, none⟩), .int .i64 0]) ∧ w.heap.size ≤ g ∧ w'.heap[g]? = some (.cells #[v, mv] 68 (0, 0)) ∧ Kd.R k33 33 w' w.heap.size (fun k_ => k_ ≠ g) v l ∧ Below w.heap.size w w' := by
  have HM := Aside0.mk (store_Right A c l w hr hw hl0 ho)
  rw [hn] at HM
  have HR := Aside0.mk hr
  have hl := (rightB_sizes hn).1
  have HO : Aside0 (∀ t ∈ l, t.f1.length < 4398046511104 ∧ t.f2.length ≤ 4398046511104 ∧ ∀ r ∈ t.f2, r.length < 4398046511104) := ⟨fun t ht => by obtain ⟨h1, h2, h3⟩ := (rightB_sizes hn).2 t ht; exact ⟨by omega, by omega, fun r hr => by have := h3 r hr; omega⟩⟩
  clear hr hw ho hn
  go_enter Try.func13, Try.ntmps13
  go_wp2_with (go_at_call 11; refine HM.out.mono ?_; rintro e w1 ⟨rfl, hb⟩; have HB := Aside0.mk hb; clear hb)
  have HX2 : Aside0 ((w1.alloc (Obj.cells #[Value.slice none 0 0, Value.map none] 68)).heap[w1.heap.size]? = some (.cells #[.slice none 0 0, .map none] 68 (0, 0))) := ⟨blk_new w1 _⟩
  have HB2 : Aside0 (Below w.heap.size w (w1.alloc (Obj.cells #[Value.slice none 0 0, Value.map none] 68))) := ⟨below_alloc HB.out _⟩
  have GE : Aside0 (w.heap.size ≤ w1.heap.size) := ⟨HB.out.size⟩
  generalize w1.alloc (Obj.cells #[Value.slice none 0 0, Value.map none] 68) = w2 at *
  generalize w1.heap.size = g at *
  clear HM HB
  go_loopw [14] (fun s14 wr => ∃ (k : Nat) (v : Value), k ≤ l.length ∧ s14 = .int .i64 k ∧ Aside0 (wr.heap[g]? = some (.cells #[v, .map none] 68 (0, 0))) ∧ Aside0 (Kd.R k33 33 wr w.heap.size (fun k_ => k_ ≠ g) v (l.take k)) ∧ Aside0 (Below w.heap.size w wr)) (fun s14 _ => l.length - (intOf s14).toNat)
  case atStart => exact ⟨0, _, Nat.zero_le _, rfl, HX2, ⟨Kd.R_nil _ _ _ _ _⟩, HB2⟩
  case round =>
    clear HX2 HB2
    obtain ⟨k, v, hk, rfl, HG, HV, HB⟩ := hrel
    by_cases hlt : k < l.length
    · obtain ⟨ad, A1, c1, A2, c2, e, hx0, hx1, hx2, hc1, hC1, hc2, hC2⟩ := at33 (Kd.C_below HR.out HB.out) k hlt
      cases e
      obtain ⟨hl1, hl2, hl3⟩ := HO.out _ (List.getElem_mem hlt)
      have HT := Aside0.mk (List.take_succ_eq_append_getElem hlt)
      have n4_ : Aside0 ((l.take k).length ≤ 8) := ⟨by rw [List.length_take]; omega⟩
      have HC1 := Aside0.mk hC1
      have HC2 := Aside0.mk hC2
      clear hC1 hC2
      have hI33 := info33
      generalize l[k] = t at *
      go_wp2
      have n0_ : Aside0 ((wr.alloc (.cells #[.string t.f0, .slice A1 t.f1.length c1, .slice A2 t.f2.length c2] 33)).heap[g]? = some (.cells #[v, .map none] 68 (0, 0))) := ⟨((below_alloc (Below.refl _ _) _).block g (blk_lt HG.out)).trans HG.out⟩
      have n1_ : Aside0 ((wr.alloc (.cells #[.string t.f0, .slice A1 t.f1.length c1, .slice A2 t.f2.length c2] 33)).heap[wr.heap.size]? = some (.cells #[.string t.f0, .slice A1 t.f1.length c1, .slice A2 t.f2.length c2] 33 (0, 0))) := ⟨blk_new _ _⟩
      have n2_ := Aside0.mk (Kd.R_alloc HV.out (.cells #[.string t.f0, .slice A1 t.f1.length c1, .slice A2 t.f2.length c2] 33))
      have n3_ : Aside0 (Below w.heap.size w (wr.alloc (.cells #[.string t.f0, .slice A1 t.f1.length c1, .slice A2 t.f2.length c2] 33))) := ⟨below_alloc HB.out _⟩
      replace HC1 : Aside0 (Kd.C k38 (wr.alloc (.cells #[.string t.f0, .slice A1 t.f1.length c1, .slice A2 t.f2.length c2] 33)).drew A1 t.f1.length t.f1) := ⟨Kd.C_below HC1.out (below_drew1 (below_alloc (Below.refl _ _) _))⟩
      replace HC2 : Aside0 (Kd.C (Kd.slice 36 k36) (wr.alloc (.cells #[.string t.f0, .slice A1 t.f1.length c1, .slice A2 t.f2.length c2] 33)).drew A2 t.f2.length t.f2) := ⟨Kd.C_below HC2.out (below_drew1 (below_alloc (Below.refl _ _) _))⟩
      generalize wr.alloc (.cells #[.string t.f0, .slice A1 t.f1.length c1, .slice A2 t.f2.length c2] 33) = W3 at *
      generalize wr.heap.size = b at *
      generalize l.take k = xs at *
      refine start_ (n := 19) (S := fun w' => w'.cell? ⟨g, 0, none⟩ = some v ∧ w'.cell? ⟨b, 0, none⟩ = some (.string t.f0) ∧ w'.cell? ⟨b, 1, none⟩ = some (.slice A1 t.f1.length c1) ∧ w'.cell? ⟨b, 2, none⟩ = some (.slice A2 t.f2.length c2)) (ds := [15, 18]) #[false, false, false, false, false, false, false, false, false, false, false, false, false, false, false, false, false, false, false] (by kernel_rfl) rfl rfl ⟨(blk_cell (blk_drew n0_.out) 0).trans rfl, (blk_cell (blk_drew n1_.out) 0).trans rfl, (blk_cell (blk_drew n1_.out) 1).trans rfl, (blk_cell (blk_drew n1_.out) 2).trans rfl⟩ (fun hHeld => ?_)
      refine pure_ (i := 0) (N := some 18) (v := ?_) (a' := ?_) #[true, false, false, false, false, false, false, false, false, false, false, false, false, false, false, false, false, false, false] rfl rfl (by kernel_rfl) (fun _ _ _ h => h) (Or.inl ⟨by rfl, ?_⟩) ?_ ?_
      rotate_left
      · intro w'
        go_simp
        with_reducible rfl
      rotate_left
      · simp only [Act.put, List.setIfInBounds_toArray, List.set_cons_zero, List.set_cons_succ, i64_w, i32_w]
        rfl
      refine pure_ (i := 1) (N := some 19) (v := ?_) (a' := ?_) #[true, true, false, false, false, false, false, false, false, false, false, false, false, false, false, false, false, false, false] rfl rfl (by kernel_rfl) (fun _ _ _ h => h) (Or.inl ⟨by rfl, ?_⟩) ?_ ?_
      rotate_left
      · intro w'
        go_simp
        with_reducible rfl
      rotate_left
      · simp only [Act.put, List.setIfInBounds_toArray, List.set_cons_zero, List.set_cons_succ, i64_w, i32_w]
        rfl
      refine pure_ (i := 2) (N := some 20) (v := ?_) (a' := ?_) #[true, true, true, false, false, false, false, false, false, false, false, false, false, false, false, false, false, false, false] rfl rfl (by kernel_rfl) (fun _ _ _ h => h) (Or.inl ⟨by rfl, ?_⟩) ?_ ?_
      rotate_left
      · intro w'
        go_simp
        with_reducible rfl
      rotate_left
      · simp only [Act.put, List.setIfInBounds_toArray, List.set_cons_zero, List.set_cons_succ, i64_w, i32_w]
        rfl
      refine pure_ (i := 3) (N := some 21) (v := ?_) (a' := ?_) #[true, true, true, true, false, false, false, false, false, false, false, false, false, false, false, false, false, false, false] rfl rfl (by kernel_rfl) (fun _ _ _ h => h) (Or.inl ⟨by rfl, ?_⟩) ?_ ?_
      rotate_left
      · intro w'
        go_simp
        with_reducible rfl
      rotate_left
      · simp only [Act.put, List.setIfInBounds_toArray, List.set_cons_zero, List.set_cons_succ, i64_w, i32_w]
        rfl
      refine pure_ (i := 5) (N := some 23) (v := ?_) (a' := ?_) #[true, true, true, true, false, true, false, false, false, false, false, false, false, false, false, false, false, false, false] rfl rfl (by kernel_rfl) (fun _ _ _ h => h) (Or.inl ⟨by rfl, ?_⟩) ?_ ?_
      rotate_left
      · intro w'
        go_simp
        with_reducible rfl
      rotate_left
      · simp only [Act.put, List.setIfInBounds_toArray, List.set_cons_zero, List.set_cons_succ, i64_w, i32_w]
        rfl
      refine pure_ (i := 7) (N := some 25) (v := ?_) (a' := ?_) #[true, true, true, true, false, true, false, true, false, false, false, false, false, false, false, false, false, false, false] rfl rfl (by kernel_rfl) (fun _ _ _ h => h) (Or.inl ⟨by rfl, ?_⟩) ?_ ?_
      rotate_left
      · intro w'
        go_simp
        with_reducible rfl
      rotate_left
      · simp only [Act.put, List.setIfInBounds_toArray, List.set_cons_zero, List.set_cons_succ, i64_w, i32_w]
        rfl
      refine pure_ (i := 10) (N := some 28) (v := ?_) (a' := ?_) #[true, true, true, true, false, true, false, true, false, false, true, false, false, false, false, false, false, false, false] rfl rfl (by kernel_rfl) (fun _ _ _ h => h) (Or.inl ⟨by rfl, ?_⟩) ?_ ?_
      rotate_left
      · intro w'
        go_simp
        with_reducible rfl
      rotate_left
      · simp only [Act.put, List.setIfInBounds_toArray, List.set_cons_zero, List.set_cons_succ, i64_w, i32_w]
        rfl
      refine take_ (i := 4) (N := some 22) (v := ?_) (a' := ?_) #[true, true, true, true, true, true, false, true, false, false, true, false, false, false, false, false, false, false, false] rfl rfl (by kernel_rfl) (fun _ _ _ h => h) (Or.inl ⟨by rfl, ?_⟩) hHeld ?_ ?_
      rotate_left
      · rintro w' ⟨s0, s1, s2, s3⟩
        go_simp
        with_reducible rfl
      rotate_left
      · simp only [Act.put, List.setIfInBounds_toArray, List.set_cons_zero, List.set_cons_succ, i64_w, i32_w]
        rfl
      refine take_ (i := 6) (N := some 24) (v := ?_) (a' := ?_) #[true, true, true, true, true, true, true, true, false, false, true, false, false, false, false, false, false, false, false] rfl rfl (by kernel_rfl) (fun _ _ _ h => h) (Or.inl ⟨by rfl, ?_⟩) hHeld ?_ ?_
      rotate_left
      · rintro w' ⟨s0, s1, s2, s3⟩
        go_simp
        with_reducible rfl
      rotate_left
      · simp only [Act.put, List.setIfInBounds_toArray, List.set_cons_zero, List.set_cons_succ, i64_w, i32_w]
        rfl
      refine take_ (i := 8) (N := some 26) (v := ?_) (a' := ?_) #[true, true, true, true, true, true, true, true, true, false, true, false, false, false, false, false, false, false, false] rfl rfl (by kernel_rfl) (fun _ _ _ h => h) (Or.inl ⟨by rfl, ?_⟩) hHeld ?_ ?_
      rotate_left
      · rintro w' ⟨s0, s1, s2, s3⟩
        go_simp
        with_reducible rfl
      rotate_left
      · simp only [Act.put, List.setIfInBounds_toArray, List.set_cons_zero, List.set_cons_succ, i64_w, i32_w]
        rfl
      refine take_ (i := 11) (N := some 29) (v := ?_) (a' := ?_) #[true, true, true, true, true, true, true, true, true, false, true, true, false, false, false, false, false, false, false] rfl rfl (by kernel_rfl) (fun _ _ _ h => h) (Or.inl ⟨by rfl, ?_⟩) hHeld ?_ ?_
      rotate_left
      · rintro w' ⟨s0, s1, s2, s3⟩
        go_simp
        with_reducible rfl
      rotate_left
      · simp only [Act.put, List.setIfInBounds_toArray, List.set_cons_zero, List.set_cons_succ, i64_w, i32_w]
        rfl
      refine one_ (i := 9) (N := some 27) #[true, true, true, true, true, true, true, true, true, true, true, true, false, false, false, false, false, false, false] rfl rfl (by kernel_rfl) (by decide) (fun K hK => ?_)
      refine goes_ Try.func31 (by kernel_rfl) rfl #[.slice A1 t.f1.length c1] (by rfl) rfl rfl (by simp only [List.map_toArray, List.map_cons, List.map_nil]; rfl) ?_
      with_reducible refine (clone38 A1 c1 t.f1 _ HC1.out hc1 hl1).mono ?_
      rintro e w4 ⟨v1, rfl, hR4, hb4⟩
      refine ⟨_, rfl, ?_⟩
      obtain ⟨A4, c4, e4⟩ := Kd.R_slice hR4
      subst e4
      refine hK.out _ _ ⟨cells_later hb4 hHeld.1, cells_later hb4 hHeld.2.1, cells_later hb4 hHeld.2.2.1, cells_later hb4 hHeld.2.2.2⟩ (fun hHeld => ?_)
      clear hK K
      refine norm_ (a' := ?_) ?_ ?_
      rotate_left
      · show Act.put _ (some 27) _ = _
        simp only [Act.put, List.setIfInBounds_toArray, List.set_cons_zero, List.set_cons_succ, i64_w, i32_w]
        rfl
      refine one_ (i := 12) (N := some 30) #[true, true, true, true, true, true, true, true, true, true, true, true, true, false, false, false, false, false, false] rfl rfl (by kernel_rfl) (by decide) (fun K hK => ?_)
      refine goes_ Try.func32 (by kernel_rfl) rfl #[.slice A2 t.f2.length c2] (by rfl) rfl rfl (by simp only [List.map_toArray, List.map_cons, List.map_nil]; rfl) ?_
      with_reducible refine (rows32 A2 c2 t.f2 _ (Kd.C_below HC2.out hb4) hc2 hl2 hl3).mono ?_
      rintro e w5 ⟨v2, rfl, hR5, hb5⟩
      refine ⟨_, rfl, ?_⟩
      obtain ⟨A5, c5, e5⟩ := Kd.R_slice hR5
      subst e5
      refine hK.out _ _ ⟨cells_later hb5 hHeld.1, cells_later hb5 hHeld.2.1, cells_later hb5 hHeld.2.2.1, cells_later hb5 hHeld.2.2.2⟩ (fun hHeld => ?_)
      clear hK K
      refine norm_ (a' := ?_) ?_ ?_
      rotate_left
      · show Act.put _ (some 30) _ = _
        simp only [Act.put, List.setIfInBounds_toArray, List.set_cons_zero, List.set_cons_succ, i64_w, i32_w]
        rfl
      refine pure_ (i := 13) (N := some 31) (v := ?_) (a' := ?_) #[true, true, true, true, true, true, true, true, true, true, true, true, true, true, false, false, false, false, false] rfl rfl (by kernel_rfl) (fun _ _ _ h => h) (Or.inl ⟨by rfl, ?_⟩) ?_ ?_
      rotate_left
      · intro w'
        go_simp
        with_reducible rfl
      rotate_left
      · simp only [Act.put, List.setIfInBounds_toArray, List.set_cons_zero, List.set_cons_succ, i64_w, i32_w]
        rfl
      refine one_ (i := 14) (N := some 32) #[true, true, true, true, true, true, true, true, true, true, true, true, true, true, true, false, false, false, false] rfl rfl (by kernel_rfl) (by decide) (fun K hK => ?_)
      have hOR := open_row n0_.out n2_.out n3_.out hR4 hb4 hR5 hb5
      have hM5 := hOR.1
      have hV5 := hOR.2.1
      have hB5 := hOR.2.2.1
      have hg5 := hOR.2.2.2.1
      have hG5 := hOR.2.2.2.2
      clear hOR
      refine value_ (w1 := ?_) (v := ?_) (by rfl) rfl ?_ ?_
      rotate_left 2
      · go_simp
        constructor
        · rfl
        · rfl
      refine hK.out _ _ ⟨cells_a0 hHeld.1, cells_a0 hHeld.2.1, cells_a0 hHeld.2.2.1, cells_a0 hHeld.2.2.2⟩ (fun hHeld => ?_)
      clear hK K
      refine norm_ (a' := ?_) ?_ ?_
      rotate_left
      · show Act.put _ (some 32) _ = _
        simp only [Act.put, List.setIfInBounds_toArray, List.set_cons_zero, List.set_cons_succ, i64_w, i32_w]
        rfl
      refine last_ (i := 15) (N := some 33) #[true, true, true, true, true, true, true, true, true, true, true, true, true, true, true, true, false, false, false] rfl rfl (by kernel_rfl) (by decide) (fun K hK => ?_)
      refine Kd.R_append_step k33 (w0 := w) w.heap.size (by rfl) (.tmp 22) (.tmp 32) 22 33 (.agg #[.string (⟨#[]⟩ : ByteArray), .slice none 0 0, .slice none 0 0]) 64 (by rfl) Try.underlying22 info33 rfl (by decide) (by decide) v xs t [.string t.f0, .slice A4 t.f1.length c4, .slice A5 t.f2.length c5] (fun k_ => k_ ≠ g) (fun k_ => k_ ≠ g ∧ some k_ ≠ v.ownBlock) (by rfl) (by rfl) hM5 (fun k_ hk_ => hk_) ?aF hV5 hB5 hB5.size ?aL ?_
      (case aF => exact fun k_ hk_ => by have h9 : w5.heap.size ≤ k_ := hk_; omega)
      (case aL => have := n4_.out; omega)
      intro v6 w6 hV6 hB6 hg6 hat6
      obtain ⟨A6, c6, e6⟩ := Kd.R_slice hV6
      subst e6
      have g6 : w6.heap[g]? = some (.cells #[v, .map none] 68 (0, 0)) := (hg6.block g hg5 (fun e => hV5.1 g e.symm rfl)).trans hG5
      refine hK.out _ _ ?_
      clear hK K
      refine norm_ (a' := ?_) ?_ ?_
      rotate_left
      · show Act.put _ (some 33) _ = _
        simp only [Act.put, List.setIfInBounds_toArray, List.set_cons_zero, List.set_cons_succ, i64_w, i32_w]
        rfl
      refine pure_ (i := 16) (N := some 34) (v := ?_) (a' := ?_) #[true, true, true, true, true, true, true, true, true, true, true, true, true, true, true, true, true, false, false] rfl rfl (by kernel_rfl) (fun _ _ _ h => h) (Or.inl ⟨by rfl, ?_⟩) ?_ ?_
      rotate_left
      · intro w'
        go_simp
        with_reducible rfl
      rotate_left
      · simp only [Act.put, List.setIfInBounds_toArray, List.set_cons_zero, List.set_cons_succ, i64_w, i32_w]
        rfl
      refine pure_ (i := 17) (N := some 35) (v := ?_) (a' := ?_) #[true, true, true, true, true, true, true, true, true, true, true, true, true, true, true, true, true, true, false] rfl rfl (by kernel_rfl) (fun _ _ _ h => h) (Or.inl ⟨by rfl, ?_⟩) ?_ ?_
      rotate_left
      · intro w'
        go_simp
        with_reducible rfl
      rotate_left
      · simp only [Act.put, List.setIfInBounds_toArray, List.set_cons_zero, List.set_cons_succ, i64_w, i32_w]
        rfl
      refine last_ (i := 18) (N := none) #[true, true, true, true, true, true, true, true, true, true, true, true, true, true, true, true, true, true, true] rfl rfl (by kernel_rfl) (by decide) (fun K hK => ?_)
      have hs20 := (blk_cell g6 0).trans rfl
      have hfs20 := blk_frozen g6 0
      refine skip_ (w1 := ?_) (by rfl) rfl ?_ ?_
      rotate_left
      · go_simp
        rfl
      refine hK.out _ _ ?_
      clear hK K
      refine done_ (by kernel_rfl) ?_
      simp only [List.length_append, List.length_cons, List.length_nil, Nat.zero_add] at hV6
      have hq := open_put GE.out g6 hV6 hB6
      have q0 := hq.1
      have q1 := hq.2.1
      have q2 := hq.2.2
      clear hq
      have Q0 := Aside0.mk q0
      have Q1 := Aside0.mk q1
      have Q2 := Aside0.mk q2
      clear q0 q1 q2 hV6 hB6 g6 hg6 hat6
      go_wp2
      go_roundw
      case rel => exact ⟨k + 1, _, by omega, by go_num, Q0, ⟨by rw [HT.out]; exact Q1.out⟩, Q2⟩
      case measure => simp [intOf]; omega
    · have HE : Aside0 (l.take k = l) := ⟨List.take_of_length_le (by omega)⟩
      rw [HE.out] at HV
      go_wp2
      refine bodyPost_ret (v := .tuple #[.pointer (some ⟨g, 0, none⟩), .int .i64 0]) (by simp [results, Try.results13, go_sem]) rfl ⟨g, v, _, rfl, GE.out, HG.out, by first | exact HV.out | (rw [HE.out]; exact HV.out), HB.out⟩

end Go.Proofs.Ytkogfjphpklioaa.QStoreNames
