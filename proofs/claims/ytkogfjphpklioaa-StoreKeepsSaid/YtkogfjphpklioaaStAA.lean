import Derived.Test.YtkogfjphpklioaaStZ
/- Store: walks by hand; the conditions stand in each theorem. -/
namespace Go.Proofs.Ytkogfjphpklioaa.QStoreNames
open Go.RowKit Go.Proofs.YtkogfjphpklioaaW.PrintWords Go.Proofs.YtkogfjphpklioaaW.PrintLast Go.Proofs.YtkogfjphpklioaaW.PrintMore
attribute [local go_sem] max2_int min2_int max_two min_two max_three min_three max_four min_four
set_option linter.unusedVariables false
set_option linter.unusedSimpArgs false
/- What a store keeps: the block g, the map's block (b0 on), the lists that are kept (their blocks in P). -/
def KF (w : World) (b0 : Nat) (P : Nat → Prop) (f : ByteArray → Option Value) (F : ByteArray → Option (List (List Int))) : Prop :=
  ∀ s, (F s = none ∧ f s = none) ∨ ∃ L v, F s = some L ∧ f s = some v ∧ Kd.R (Kd.slice 3 kI) 53 w b0 P v L
structure Kst (w : World) (g b0 n : Nat) (a : Value) (P : Nat → Prop) (F : ByteArray → Option (List (List Int))) : Prop where
  out : (w.heap[g]? = some (.cells #[a, .map none] 68 (0, 0)) ∧ ∀ s, F s = none) ∨ ∃ B f, w.heap[g]? = some (.cells #[a, .map (some B)] 68 (0, 0)) ∧ b0 ≤ B ∧ MapV w B n f ∧ KF w b0 P f F
  low : b0 ≤ g
theorem mapv_obj {w : World} {B n : Nat} {f : ByteArray → Option Value} (h : MapV w B n f) : ∃ es clock, w.heap[B]? = some (.map es clock) := by
  obtain ⟨D, ⟨es, clock, h1, _⟩, _⟩ := h
  exact ⟨es, clock, h1⟩
theorem kf_move {w w' : World} {b0 : Nat} {P : Nat → Prop} {f : ByteArray → Option Value} {F : ByteArray → Option (List (List Int))} (h : KF w b0 P f F) (hm : ∀ k, P k → k < w.heap.size → (∃ q, (q = 53 ∨ q = 3) ∧ ∃ cells, w.heap[k]? = some (.cells cells q (0, 0))) → w'.heap[k]? = w.heap[k]?) : KF w' b0 P f F := by
  intro s
  rcases h s with h1 | ⟨L, v, h1, h2, h3⟩
  · exact .inl h1
  · refine .inr ⟨L, v, h1, h2, Kd.R_mono (Kd.R_move (Kd.R_bound h3) (fun k hk => hm k hk.1 hk.2.2.1 ?_)) (fun _ hk => hk.1)⟩
    obtain ⟨q, hq, hc⟩ := hk.2.2.2
    refine ⟨q, ?_, hc⟩
    have h4 : (53 :: (Kd.slice 3 kI).E) = [53, 3] := rfl
    rw [h4] at hq
    simpa using hq
theorem Kst.lt {w : World} {g b0 n : Nat} {a : Value} {P : Nat → Prop} {F : ByteArray → Option (List (List Int))} (h : Kst w g b0 n a P F) : g < w.heap.size := by
  rcases h.out with ⟨h1, _⟩ | ⟨B, f, h1, _⟩ <;> exact blk_lt h1
theorem Kst.below {w w' : World} {g b0 n : Nat} {a : Value} {P : Nat → Prop} {F : ByteArray → Option (List (List Int))} (h : Kst w g b0 n a P F) (hb : Below w.heap.size w w') : Kst w' g b0 n a P F := by
  refine ⟨?_, h.low⟩
  rcases h.out with ⟨h1, h2⟩ | ⟨B, f, h1, h2, h3, h4⟩
  · exact .inl ⟨(hb.block g (blk_lt h1)).trans h1, h2⟩
  · exact .inr ⟨B, f, (hb.block g (blk_lt h1)).trans h1, h2, mapv_far h3 (hb.block B (mapv_lt h3)), kf_move h4 (fun k _ hk _ => hb.block k hk)⟩
theorem Kst.bound {w : World} {g b0 n : Nat} {a : Value} {P : Nat → Prop} {F : ByteArray → Option (List (List Int))} (h : Kst w g b0 n a P F) : Kst w g b0 n a (fun k => P k ∧ k < w.heap.size) F := by
  refine ⟨?_, h.low⟩
  rcases h.out with h1 | ⟨B, f, h1, h2, h3, h4⟩
  · exact .inl h1
  · refine .inr ⟨B, f, h1, h2, h3, fun s => ?_⟩
    rcases h4 s with h5 | ⟨L, v, h5, h6, h7⟩
    · exact .inl h5
    · exact .inr ⟨L, v, h5, h6, Kd.R_mono (Kd.R_bound h7) (fun k hk => ⟨hk.1, hk.2.2.1⟩)⟩
theorem Kst.set {w : World} {g b0 n p o : Nat} {a : Value} {P : Nat → Prop} {F : ByteArray → Option (List (List Int))} (h : Kst w g b0 n a P F) (hp : ¬ P p) (hg : p ≠ g) {ty m : Nat} (ha : Alive w p ty m) (u : Value) : Kst (w.setCell ⟨p, o, none⟩ u) g b0 n a P F := by
  refine ⟨?_, h.low⟩
  have hfar : ∀ j, j ≠ p → (w.setCell ⟨p, o, none⟩ u).heap[j]? = w.heap[j]? := fun j hj => Below.heap_setCell w ⟨p, o, none⟩ u j hj
  rcases h.out with ⟨h1, h2⟩ | ⟨B, f, h1, h2, h3, h4⟩
  · exact .inl ⟨(hfar g (Ne.symm hg)).trans h1, h2⟩
  · have hB : B ≠ p := by
      rintro rfl
      obtain ⟨es, clock, e1⟩ := mapv_obj h3
      obtain ⟨cells, e2, _⟩ := ha
      rw [e1] at e2
      cases e2
    exact .inr ⟨B, f, (hfar g (Ne.symm hg)).trans h1, h2, mapv_far h3 (hfar B hB), kf_move h4 (fun k hk _ _ => hfar k (fun e => hp (e ▸ hk)))⟩
/-- Behind a put: the new map, the lists as they were, and the new one. -/
theorem Kst.put {w w' : World} {g b0 n B : Nat} {a v : Value} {P : Nat → Prop} {f : ByteArray → Option Value} {F : ByteArray → Option (List (List Int))} {s : ByteArray} {L : List (List Int)} (hlow : b0 ≤ g) (hf : KF w b0 P f F) (hv : Kd.R (Kd.slice 3 kI) 53 w b0 P v L)
    (h1 : w'.heap[g]? = some (.cells #[a, .map (some B)] 68 (0, 0))) (hB : b0 ≤ B) (hm : MapV w' B n (updV f s v)) (hfar : ∀ j, j < w.heap.size → (∃ q, (q = 53 ∨ q = 3) ∧ ∃ cells, w.heap[j]? = some (.cells cells q (0, 0))) → w'.heap[j]? = w.heap[j]?) :
    Kst w' g b0 n a P (fun t => if t = s then some L else F t) := by
  refine ⟨.inr ⟨B, updV f s v, h1, hB, hm, ?_⟩, hlow⟩
  have h2 : KF w' b0 P f F := kf_move hf (fun k _ hk hq => hfar k hk hq)
  intro t
  by_cases e : t = s
  · have h3 : KF w b0 P (fun _ => some v) (fun _ => some L) := fun _ => .inr ⟨L, v, rfl, rfl, hv⟩
    have h4 : KF w' b0 P (fun _ => some v) (fun _ => some L) := kf_move h3 (fun k _ hk hq => hfar k hk hq)
    rcases h4 t with ⟨h5, _⟩ | ⟨L', v', h5, h6, h7⟩
    · cases h5
    · refine .inr ⟨L', v', ?_, ?_, h7⟩
      · simp only [e, if_pos]; exact h5
      · unfold updV; simp only [e, if_pos]; exact h6
  · rcases h2 t with ⟨h5, h6⟩ | ⟨L', v', h5, h6, h7⟩
    · refine .inl ⟨?_, ?_⟩
      · simp only [e, if_false]; exact h5
      · unfold updV; simp only [e, if_false]; exact h6
    · refine .inr ⟨L', v', ?_, ?_, h7⟩
      · simp only [e, if_false]; exact h5
      · unfold updV; simp only [e, if_false]; exact h6
theorem mapv_mono {w : World} {B n n' : Nat} {f : ByteArray → Option Value} (h : MapV w B n f) (hn : n ≤ n') : MapV w B n' f := by
  obtain ⟨D, ho, hf⟩ := h
  exact ⟨D, ho.mono hn, hf⟩
structure Kf (w w' : World) (g b0 : Nat) : Prop where
  bel : Below b0 w w'
  far : ∀ j, j ≠ g → (∃ q cells, w.heap[j]? = some (.cells cells q (0, 0))) → w'.heap[j]? = w.heap[j]?
theorem keep_end {w w1 : World} {g b0 n : Nat} {a : Value} {P : Nat → Prop} {F : ByteArray → Option (List (List Int))} {s : ByteArray} {L : List (List Int)} {v : Value} (hk : Kst w g b0 n a P F) (hs : s.size ≤ maxLen) (hn : n < maxLen) (hb0 : b0 ≤ w.heap.size)
    (hR : Kd.R (Kd.slice 3 kI) 53 w1 w.drew.heap.size (fun _ => True) v L) (hb : Below w.drew.heap.size w.drew w1) :
    Calls Try.prog 37 #[.pointer (some ⟨g, 1, none⟩), .string s, v] w1 fun e w' => e = .returned (.tuple #[]) ∧ Kst w' g b0 (n + 1) a (fun k => P k ∨ w.heap.size ≤ k) (fun t => if t = s then some L else F t) ∧ Kf w w' g b0 := by
  have hb1 : Below w.heap.size w w1 := ⟨hb.os, hb.tape, hb.output, hb.size, hb.block⟩
  have hR1 : Kd.R (Kd.slice 3 kI) 53 w1 b0 (fun k => P k ∨ w.heap.size ≤ k) v L := Kd.R_mono (Kd.R_lower (Kd.R_bound hR) hb0) (fun k hk => .inr hk.2.1)
  have hg := hk.lt
  rcases hk.out with ⟨h1, h2⟩ | ⟨B, f, h1, h2, h3, h4⟩
  · refine (put_nil g a s v w1 ((hb1.block g hg).trans h1) hs).mono ?_
    rintro e w' ⟨rfl, ⟨B, p1, p2, p3, p4⟩, hkp⟩
    have hf0 : KF w1 b0 (fun k => P k ∨ w.heap.size ≤ k) (fun _ => none) F := fun t => .inl ⟨h2 t, rfl⟩
    have hsz := hb1.size
    refine ⟨rfl, Kst.put hk.low hf0 hR1 p1 (by omega) (mapv_mono p4 (by omega)) (fun j hj hq => ?_), ⟨hkp.os.trans hb1.os, hkp.tape.trans hb1.tape, hkp.output.trans hb1.output, Nat.le_trans hb1.size hkp.size, fun j hj => ?_⟩, fun j hj hq => ?_⟩
    · refine hkp.far j hj ?_ (by simp)
      rintro rfl
      obtain ⟨q, hq, cells, hc⟩ := hq
      rw [(hb1.block j hg).trans h1] at hc
      injection hc with hc
      injection hc with _ hc
      rw [← hc] at hq
      exact absurd hq (by decide)
    · have hj2 : j < w.heap.size := by omega
      exact (hkp.far j (by omega) (by have := hk.low; omega) (by simp)).trans (hb1.block j hj2)
    · obtain ⟨q, cells, hc⟩ := hq
      have hj2 := blk_lt hc
      exact (hkp.far j (by omega) hj (by simp)).trans (hb1.block j hj2)
  · have hB := mapv_lt h3
    obtain ⟨es, clock, hob⟩ := mapv_obj h3
    refine (put_some g B n a s v f w1 ((hb1.block g hg).trans h1) (mapv_far h3 (hb1.block B hB)) hn hs).mono ?_
    rintro e w' ⟨rfl, ⟨p1, p4⟩, hkp⟩
    have hf0 : KF w1 b0 (fun k => P k ∨ w.heap.size ≤ k) f F := by
      have h5 := kf_move (w' := w1) h4 (fun k _ hk _ => hb1.block k hk)
      intro t
      rcases h5 t with h6 | ⟨L', v', h6, h7, h8⟩
      · exact .inl h6
      · exact .inr ⟨L', v', h6, h7, Kd.R_mono h8 (fun k hk => .inl hk)⟩
    have hsz := hb1.size
    refine ⟨rfl, Kst.put hk.low hf0 hR1 p1 h2 p4 (fun j hj hq => ?_), ⟨hkp.os.trans hb1.os, hkp.tape.trans hb1.tape, hkp.output.trans hb1.output, Nat.le_trans hb1.size hkp.size, fun j hj => ?_⟩, fun j hj hq => ?_⟩
    · obtain ⟨q, hq, cells, hc⟩ := hq
      refine hkp.far j hj ?_ ?_
      · rintro rfl
        rw [(hb1.block j hg).trans h1] at hc
        injection hc with hc
        injection hc with _ hc
        rw [← hc] at hq
        exact absurd hq (by decide)
      · intro e
        injection e with e
        subst e
        rw [(hb1.block j hB).trans hob] at hc
        cases hc
    · have hj2 : j < w.heap.size := by omega
      exact (hkp.far j (by omega) (by have := hk.low; omega) (fun e => by injection e; omega)).trans (hb1.block j hj2)
    · obtain ⟨q, cells, hc⟩ := hq
      have hj2 := blk_lt hc
      refine (hkp.far j (by omega) hj ?_).trans (hb1.block j hj2)
      intro e
      injection e with e
      subst e
      rw [hob] at hc
      cases hc
set_option maxRecDepth 8000 in
set_option maxHeartbeats 4000000 in
theorem store_Keep (w : World) (g b0 n : Nat) (a : Value) (P : Nat → Prop) (F : ByteArray → Option (List (List Int))) (s : ByteArray) (A : Option Addr) (c : Nat) (L : List (List Int)) (hk : Kst w g b0 n a P F) (hs : s.size ≤ maxLen) (hn : n < maxLen) (hb0 : b0 ≤ w.heap.size)
    (hr : (Kd.slice 3 kI).C w A L.length L) (hc : L.length ≤ c) (hl1 : L.length ≤ 4398046511104) (hl2 : ∀ r ∈ L, r.length < 17592186044416) :
    Calls Try.prog 20 #[.pointer (some ⟨g, 0, none⟩), .string s, .slice A L.length c] w fun e w' => e = .returned (.tuple #[]) ∧ Kst w' g b0 (n + 1) a (fun k => P k ∨ w.heap.size ≤ k) (fun t => if t = s then some L else F t) ∧ Kf w w' g b0 := by
  have HC := Aside0.mk hr
  have HX := Aside0.mk (fun v w1 hR hb => keep_end (s := s) (L := L) (v := v) (w1 := w1) hk hs hn hb0 hR hb)
  clear hk hr
  go_enter Try.func20, Try.ntmps20
  go_wp2
  refine start_ (n := 7) (S := fun w' => True) (ds := []) #[false, false, false, false, false, false, false] (by kernel_rfl) rfl rfl trivial (fun hHeld => ?_)
  refine pure_ (i := 0) (N := some 6) (v := ?_) (a' := ?_) #[true, false, false, false, false, false, false] rfl rfl (by kernel_rfl) (fun _ _ _ h => h) (Or.inl ⟨by rfl, ?_⟩) ?_ ?_
  rotate_left
  · intro w'
    go_simp
    with_reducible rfl
  rotate_left
  · simp only [Act.put, List.setIfInBounds_toArray, List.set_cons_zero, List.set_cons_succ, i64_w, i32_w]
    rfl
  refine pure_ (i := 1) (N := some 7) (v := ?_) (a' := ?_) #[true, true, false, false, false, false, false] rfl rfl (by kernel_rfl) (fun _ _ _ h => h) (Or.inl ⟨by rfl, ?_⟩) ?_ ?_
  rotate_left
  · intro w'
    go_simp
    with_reducible rfl
  rotate_left
  · simp only [Act.put, List.setIfInBounds_toArray, List.set_cons_zero, List.set_cons_succ, i64_w, i32_w]
    rfl
  refine pure_ (i := 2) (N := some 8) (v := ?_) (a' := ?_) #[true, true, true, false, false, false, false] rfl rfl (by kernel_rfl) (fun _ _ _ h => h) (Or.inl ⟨by rfl, ?_⟩) ?_ ?_
  rotate_left
  · intro w'
    go_simp
    with_reducible rfl
  rotate_left
  · simp only [Act.put, List.setIfInBounds_toArray, List.set_cons_zero, List.set_cons_succ, i64_w, i32_w]
    rfl
  refine pure_ (i := 3) (N := some 9) (v := ?_) (a' := ?_) #[true, true, true, true, false, false, false] rfl rfl (by kernel_rfl) (fun _ _ _ h => h) (Or.inl ⟨by rfl, ?_⟩) ?_ ?_
  rotate_left
  · intro w'
    go_simp
    with_reducible rfl
  rotate_left
  · simp only [Act.put, List.setIfInBounds_toArray, List.set_cons_zero, List.set_cons_succ, i64_w, i32_w]
    rfl
  refine pure_ (i := 4) (N := some 10) (v := ?_) (a' := ?_) #[true, true, true, true, true, false, false] rfl rfl (by kernel_rfl) (fun _ _ _ h => h) (Or.inl ⟨by rfl, ?_⟩) ?_ ?_
  rotate_left
  · intro w'
    go_simp
    with_reducible rfl
  rotate_left
  · simp only [Act.put, List.setIfInBounds_toArray, List.set_cons_zero, List.set_cons_succ, i64_w, i32_w]
    rfl
  refine one_ (i := 5) (N := some 11) #[true, true, true, true, true, true, false] rfl rfl (by kernel_rfl) (by decide) (fun K hK => ?_)
  refine goes_ Try.func38 (by kernel_rfl) rfl #[.slice A L.length c] (by rfl) rfl rfl (by simp only [List.map_toArray, List.map_cons, List.map_nil]; rfl) ?_
  with_reducible refine (rows38 A c L _ (Kd.C_below HC.out (below_drew (Below.refl _ _))) hc hl1 hl2).mono ?_
  rintro e w1 ⟨v, rfl, hR, hb⟩
  refine ⟨_, rfl, ?_⟩
  have HQ := Aside0.mk (HX.out v w1 hR hb)
  obtain ⟨A5, c5, e5⟩ := Kd.R_slice hR
  subst e5
  refine hK.out _ _ trivial (fun hHeld => ?_)
  clear hK K
  refine norm_ (a' := ?_) ?_ ?_
  rotate_left
  · show Act.put _ (some 11) _ = _
    simp only [Act.put, List.setIfInBounds_toArray, List.set_cons_zero, List.set_cons_succ, i64_w, i32_w]
    rfl
  refine one_ (i := 6) (N := some 12) #[true, true, true, true, true, true, true] rfl rfl (by kernel_rfl) (by decide) (fun K hK => ?_)
  refine goes_ Try.func37 (by kernel_rfl) rfl #[.pointer (some ⟨g, 1, none⟩), .string s, .slice A5 L.length c5] (by rfl) rfl rfl (by simp only [List.map_toArray, List.map_cons, List.map_nil]; rfl) ?_
  with_reducible refine (HQ.out).mono ?_
  rintro e w2 ⟨rfl, hKe⟩
  refine ⟨_, rfl, ?_⟩
  refine hK.out _ _ trivial (fun hHeld => ?_)
  clear hK K
  refine norm_ (a' := ?_) ?_ ?_
  rotate_left
  · show Act.put _ (some 12) _ = _
    simp only [Act.put, List.setIfInBounds_toArray, List.set_cons_zero, List.set_cons_succ, i64_w, i32_w]
    rfl
  refine done_ (by kernel_rfl) ?_
  go_wp2_with fail
  first | go_end0 | (simp only [Exit.inBlock, Exit.then]; refine bodyPost_ret (results_none rfl _ _ _) rfl ?_) | refine bodyPost_ret (results_none rfl _ _ _) rfl ?_
  exact ⟨rfl, hKe⟩
set_option maxRecDepth 8000 in
set_option maxHeartbeats 4000000 in
theorem store_Kept (w : World) (g b0 n : Nat) (a : Value) (P : Nat → Prop) (F : ByteArray → Option (List (List Int))) (s : ByteArray) (hk : Kst w g b0 n a P F) (hs : s.size ≤ maxLen) (hF : ∀ L, F s = some L → L.length ≤ 4398046511104 ∧ ∀ r ∈ L, r.length < 17592186044416) :
    Calls Try.prog 21 #[.pointer (some ⟨g, 0, none⟩), .string s] w fun e w' => ∃ v : Value, e = .returned (.tuple #[v, .bool (F s).isSome]) ∧ Kd.R (Kd.slice 3 kI) 53 w' w.heap.size (fun _ => True) v ((F s).getD []) ∧ Below w.heap.size w w' := by
  have HG : Aside0 (∃ A c, Calls Try.prog 39 #[.pointer (some ⟨g, 1, none⟩), .string s] w (fun e w' => e = .returned (.tuple #[.slice A ((F s).getD []).length c, .bool (F s).isSome]) ∧ w' = w) ∧ (Kd.slice 3 kI).C w A ((F s).getD []).length ((F s).getD []) ∧ ((F s).getD []).length ≤ c) := ⟨by
    rcases hk.out with ⟨h1, h2⟩ | ⟨B, f, h1, h2, h3, h4⟩
    · rw [h2 s]
      exact ⟨none, 0, get_none g a s w h1 hs, ⟨rfl, by decide, fun hp => absurd hp (by decide)⟩, Nat.le_refl _⟩
    · have hc := get_some g B n a s f w h1 h3 hs
      rcases h4 s with ⟨h5, h6⟩ | ⟨L, v, h5, h6, h7⟩
      · rw [h6] at hc
        rw [h5]
        exact ⟨none, 0, hc, ⟨rfl, by decide, fun hp => absurd hp (by decide)⟩, Nat.le_refl _⟩
      · rw [h6] at hc
        rw [h5]
        obtain ⟨A, c, rfl, hc1, hc2⟩ := Kd.R_reads h7
        exact ⟨A, c, hc, hc2, hc1⟩⟩
  have hb : ((F s).getD []).length ≤ 4398046511104 ∧ ∀ r ∈ (F s).getD [], r.length < 17592186044416 := by
    cases hq : F s with
    | none => exact ⟨by decide, fun r hr => by cases hr⟩
    | some L => exact hF L hq
  obtain ⟨A, c, hcall, hC, hcc⟩ := HG.out
  have HC := Aside0.mk hcall
  have HCC := Aside0.mk hC
  have HBB := Aside0.mk hb
  clear HG hk hF hcall hC hb
  generalize (F s).getD [] = L at *
  generalize (F s).isSome = y at *
  go_enter Try.func21, Try.ntmps21
  go_wp2_with (first | (go_at_call 39; refine HC.out.mono ?_; rintro e w1 ⟨rfl, rfl⟩) | (go_at_call 38; refine (rows38 A c L _ HCC.out hcc HBB.out.1 HBB.out.2).mono ?_; rintro e w2 ⟨v2, rfl, hR, hb⟩; have HR := Aside0.mk hR; have HB := Aside0.mk hb; clear hR hb))
  refine bodyPost_ret (v := .tuple #[v2, .bool y]) (by simp [results, Try.results21, go_sem]) rfl ⟨v2, rfl, HR.out, HB.out⟩
set_option maxRecDepth 8000 in
set_option maxHeartbeats 4000000 in
theorem store_Open_nil (w : World) (hw : ShB w) :
    Calls Try.prog 13 #[.slice none 0 0] w fun e w' => ∃ g, e = .returned (.tuple #[.pointer (some ⟨g, 0, none⟩), .int .i64 0]) ∧ w.heap.size ≤ g ∧ w'.heap[g]? = some (.cells #[.slice none 0 0, .map none] 68 (0, 0)) ∧ Below w.heap.size w w' := by
  have HM : Aside0 (Calls Try.prog 11 #[.slice none 0 0] w fun e w' => e = .returned (.bool true) ∧ Below w.heap.size w w') := ⟨store_Right none 0 [] w ⟨rfl, by decide, fun hp => absurd hp (by decide)⟩ hw (by decide) (fun t ht => by cases ht)⟩
  clear hw
  go_enter Try.func13, Try.ntmps13
  go_wp2_with (go_at_call 11; refine HM.out.mono ?_; rintro e w1 ⟨rfl, hb⟩; have HB := Aside0.mk hb; clear hb)
  have HX2 : Aside0 ((w1.alloc (Obj.cells #[Value.slice none 0 0, Value.map none] 68)).heap[w1.heap.size]? = some (.cells #[.slice none 0 0, .map none] 68 (0, 0))) := ⟨blk_new w1 _⟩
  have HB2 : Aside0 (Below w.heap.size w (w1.alloc (Obj.cells #[Value.slice none 0 0, Value.map none] 68))) := ⟨below_alloc HB.out _⟩
  have GE : Aside0 (w.heap.size ≤ w1.heap.size) := ⟨HB.out.size⟩
  generalize w1.alloc (Obj.cells #[Value.slice none 0 0, Value.map none] 68) = w2 at *
  generalize w1.heap.size = g at *
  clear HM HB
  go_loopw [14] (fun s14 wr => s14 = .int .i64 0 ∧ Aside0 (wr = w2)) (fun s14 _ => 0)
  case atStart => exact ⟨rfl, ⟨by first | trivial | rfl⟩⟩
  case round =>
    obtain ⟨rfl, ⟨rfl⟩⟩ := hrel
    go_wp2
    refine bodyPost_ret (v := .tuple #[.pointer (some ⟨g, 0, none⟩), .int .i64 0]) (by simp [results, Try.results13, go_sem]) rfl ⟨g, rfl, GE.out, HX2.out, HB2.out⟩
def keepF (S : List ByteArray) (L : List (List Int)) : Nat → ByteArray → Option (List (List Int))
  | 0 => fun _ => none
  | k + 1 => fun t => if t = S.getD k ⟨#[]⟩ then some [L.getD k [], []] else keepF S L k t
theorem kst_new {w : World} {g b0 : Nat} {a : Value} (h : w.heap[g]? = some (.cells #[a, .map none] 68 (0, 0))) (hb : b0 ≤ g) : Kst w g b0 0 a (fun _ => False) (fun _ => none) := ⟨.inl ⟨h, fun _ => rfl⟩, hb⟩

end Go.Proofs.Ytkogfjphpklioaa.QStoreNames
