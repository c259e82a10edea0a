import Derived.Test.YtpkhdljlhdomlaaIxB
/- Index: walks by hand; the conditions stand in each theorem. -/
namespace Go.Proofs.Ytpkhdljlhdomlaa.QIndexFinds
open Go.RowKit Go.Proofs.YtpkhdljlhdomlaaW.PrintWords Go.Proofs.YtpkhdljlhdomlaaW.PrintLast Go.Proofs.YtpkhdljlhdomlaaW.PrintMore
attribute [local go_sem] max2_int min2_int max_two min_two max_three min_three max_four min_four
set_option linter.unusedVariables false
set_option linter.unusedSimpArgs false
def lab (own : Nat → Tg) (b : Nat) (t : Tg) : Nat → Tg := fun j => if b ≤ j then t else own j
theorem lab_old {own : Nat → Tg} {b : Nat} {t : Tg} {j : Nat} (h : j < b) : lab own b t j = own j := if_neg (by omega)
theorem lab_new {own : Nat → Tg} {b : Nat} {t : Tg} {j : Nat} (h : b ≤ j) : lab own b t j = t := if_pos h
def updL (F : S24 → List Int) (k : S24) (l : List Int) : S24 → List Int := fun t => if t = k then l else F t
theorem cells_later {w w1 : World} {p : Addr} {v : Value} (hb : Below w.heap.size w w1) (h : w.cell? p = some v) : w1.cell? p = some v := (hb.cell (World.block_lt_of_cell? w _ h)).trans h
theorem cell_al {W : World} {o : Obj} {p : Addr} {v : Value} (h : W.cell? p = some v) : (W.alloc o).cell? p = some v := cells_later (below_alloc (Below.refl _ _) _) h
theorem Bks.own_lt {w : World} {b0 B n : Nat} {own : Nat → Tg} {F : S24 → List Int} (h : Bks w b0 B n own F) (k : S24) (W3 : World) (own2 : Nat → Tg) (ho : ∀ j, j < w.heap.size → own2 j = own j) (hm : ∀ j, j < w.heap.size → W3.heap[j]? = w.heap[j]?) :
    ∃ f v0, MapV W3 B n f ∧ KF W3 b0 own2 f F ∧ (f k).getD (.slice none 0 0) = v0 ∧ kI.R 3 W3 b0 (fun j => own2 j = .key k) v0 (F k) ∧ (∀ q, v0.ownBlock = some q → q < w.heap.size) := by
  obtain ⟨⟨f, h1, h2⟩, h3⟩ := h
  have h4 := h2.move (w' := W3) (own' := own2) (fun j hj k hk => (ho j hj).trans hk) (fun j hj _ => hm j hj)
  refine ⟨f, _, mapv_far h1 (hm B (mapv_lt h1)), h4, rfl, ?_⟩
  have h6 := h2 k
  rcases h4 k with ⟨e1, e2⟩ | ⟨v, e1, e4, e3⟩
  · rw [e1, e2]; exact ⟨Kd.R_nil _ _ _ _ _, fun q hq => by simp [Value.ownBlock] at hq⟩
  · rw [e1]
    refine ⟨e3, ?_⟩
    rcases h6 with ⟨e5, _⟩ | ⟨v', e5, _, e6⟩
    · rw [e1] at e5; cases e5
    · rw [e1] at e5
      injection e5 with e5
      subst e5
      exact Kd.R_lt e6
theorem put_done {w W3 w4 w5 : World} {b0 B n : Nat} {own own2 : Nat → Tg} {F : S24 → List Int} {f : S24 → Option Value} {k : S24} {i : Int} {v0 v : Value} (hB : B < w.heap.size) (hown : own B = .mp) (ho : ∀ j, j < w.heap.size → own2 j = own j) (h24 : ∀ j, w.heap.size ≤ j → own2 j = .key k) (hb3 : Below w.heap.size w W3)
    (hk : KF W3 b0 own2 f F) (hv0 : kI.R 3 W3 b0 (fun j => own2 j = .key k) v0 (F k)) (hR : kI.R 3 w4 b0 (fun j => own2 j = .key k) v (F k ++ [i])) (hg : W3.drew.grownBy w4 v0.ownBlock) (hm : MapV w5 B (n + 1) (updV f k v)) (ht : w4.mapTurned w5 B) :
    Bks w5 b0 B (n + 1) own2 (updL F k (F k ++ [i])) ∧ Kp w w5 (fun j => own j = .mp ∨ own j = .key k) := by
  have hg5 := ht.grown
  have hsz3 := hb3.size
  have hg4 : W3.grownBy w4 v0.ownBlock := ⟨hg.os, hg.tape, hg.output, hg.size, fun j hj hn => hg.block j hj hn⟩
  have hB3 : own2 B = .mp := (ho B hB).trans hown
  have hvk : ∀ j, v0.ownBlock = some j → own2 j = .key k := fun j hj => hv0.1 j hj
  have hs4 := hg4.size
  refine ⟨⟨⟨_, hm, fun t => ?_⟩, hB3⟩, ?_⟩
  · unfold updV updL
    by_cases e : t = k
    · subst e
      refine .inr ⟨v, if_pos rfl, by rw [if_pos rfl]; simp, ?_⟩
      rw [if_pos rfl]
      exact Kd.R_step hR (fun j hj hlt => hg5.block j hlt (fun e => by injection e with e; rw [e, hB3] at hj; cases hj))
    · rw [if_neg e, if_neg e]
      rcases hk t with h | ⟨u, h1, h2, h3⟩
      · exact .inl h
      · refine .inr ⟨u, h1, h2, Kd.R_step h3 (fun j hj hlt => ?_)⟩
        refine (hg5.block j (by omega) (fun e => by injection e with e; rw [e, hB3] at hj; cases hj)).trans (hg4.block j hlt (fun e2 => ?_))
        have := hvk j e2.symm
        rw [hj] at this
        injection this with this
        exact e this
  · refine ⟨(hg5.os.trans hg4.os).trans hb3.os, (hg5.tape.trans hg4.tape).trans hb3.tape, (hg5.output.trans hg4.output).trans hb3.output, Nat.le_trans hsz3 (Nat.le_trans hs4 hg5.size), fun j hj hn => ?_⟩
    refine (hg5.block j (by omega) (fun e => hn (.inl (by injection e with e; rw [e]; exact hown)))).trans ((hg4.block j (by omega) (fun e => hn (.inr ((ho j hj).symm.trans (hvk j e.symm))))).trans (hb3.block j hj))
set_option maxRecDepth 8000 in
set_option maxHeartbeats 4000000 in
theorem put24 (w : World) (b0 B n : Nat) (own : Nat → Tg) (F : S24 → List Int) (k : S24) (i : Int) (hm : Bks w b0 B n own F) (hk : okS k) (hn : n < maxLen) (hl : (F k).length < 1099511627776) (hb0 : b0 ≤ w.heap.size) :
    Calls Try.prog 15 #[.map (some B), encV k, .int .i64 i] w fun e w' => e = .returned (.tuple #[]) ∧ Bks w' b0 B (n + 1) (lab own w.heap.size (.key k)) (updL F k (F k ++ [i])) ∧ Kp w w' (fun j => own j = .mp ∨ own j = .key k) := by
  have HM := Aside0.mk hm
  clear hm
  unfold encV
  go_enter Try.func15, Try.ntmps15
  go_wp2
  obtain ⟨W3, hW3⟩ : ∃ W3, W3 = w.alloc (.cells #[.int .i64 k.f0, .int .i64 k.f1, .string k.f2] 24) := ⟨_, rfl⟩
  obtain ⟨bk, hbk⟩ : ∃ bk, bk = w.heap.size := ⟨_, rfl⟩
  obtain ⟨own2, hown2⟩ : ∃ own2, own2 = lab own w.heap.size (.key k) := ⟨_, rfl⟩
  have hb3 : Below w.heap.size w W3 := by rw [hW3]; exact below_alloc (Below.refl _ _) _
  have n0_ : Aside0 (W3.heap[bk]? = some (.cells #[.int .i64 k.f0, .int .i64 k.f1, .string k.f2] 24 (0, 0))) := ⟨by rw [hW3, hbk]; exact blk_new w _⟩
  have hsz3 : W3.heap.size = w.heap.size + 1 := by rw [hW3]; simp
  have hlo : ∀ j, j < w.heap.size → own2 j = own j := fun j hj => by rw [hown2]; exact lab_old hj
  have hhi : ∀ j, w.heap.size ≤ j → own2 j = .key k := fun j hj => by rw [hown2]; exact lab_new hj
  have hBl := HM.out.lt
  have hBt := HM.out.tag
  obtain ⟨f, v0, hf, hkf, hv0, hR0, hq0⟩ := HM.out.own_lt k W3 own2 hlo (fun j hj => hb3.block j hj)
  have n1_ : Aside0 (∀ w', w'.heap[B]? = W3.heap[B]? → (Instr.lookup 42 (.map (some B)) (.agg #[.int .i64 k.f0, .int .i64 k.f1, .string k.f2]) false).run Try.prog w' = .ok v0 w') := ⟨fun w' h => by rw [← hv0]; exact mapv_look (mapv_far hf h) k hk⟩
  have n2_ := Aside0.mk hR0
  have n3_ : Aside0 (B < W3.heap.size) := ⟨by omega⟩
  have n4_ : Aside0 (∀ j, W3.heap.size ≤ j → own2 j = .key k) := ⟨fun j hj => hhi j (by omega)⟩
  have n5_ : Aside0 (b0 ≤ W3.drew.heap.size) := ⟨by show b0 ≤ W3.heap.size; omega⟩
  have n6_ : Aside0 ((F k).length < 1099511627776) := ⟨hl⟩
  have n7_ : Aside0 (bk < W3.heap.size) := ⟨by omega⟩
  have n8_ : Aside0 (v0.ownBlock ≠ some bk) := ⟨fun e => by have := hq0 _ e; omega⟩
  have n9_ : Aside0 (¬ own2 B = .key k) := ⟨by rw [hlo B hBl, hBt]; intro h; cases h⟩
  have n10_ : Aside0 (∀ w4 v, w4.heap[B]? = W3.heap[B]? → ∃ w5, (Instr.mapUpdate 42 (.map (some B)) (.agg #[.int .i64 k.f0, .int .i64 k.f1, .string k.f2]) v).run Try.prog w4 = .ok () w5 ∧ MapV w5 B (n + 1) (updV f k v) ∧ w4.mapTurned w5 B) := ⟨fun w4 v h => mapv_put (mapv_far hf h) hn k hk v⟩
  have ND : Aside0 (∀ w4 w5 v, kI.R 3 w4 b0 (fun j => own2 j = .key k) v (F k ++ [i]) → W3.drew.grownBy w4 v0.ownBlock → MapV w5 B (n + 1) (updV f k v) → w4.mapTurned w5 B → Bks w5 b0 B (n + 1) (lab own w.heap.size (.key k)) (updL F k (F k ++ [i])) ∧ Kp w w5 (fun j => own j = .mp ∨ own j = .key k)) :=
    ⟨fun w4 w5 v h1 h2 h3 h4 => by rw [← hown2]; exact put_done hBl hBt hlo hhi hb3 hkf hR0 h1 h2 h3 h4⟩
  rw [← hW3, ← hbk]
  clear hkf hf hb3 hlo hhi hBt HM hR0 hv0 hq0 hown2 hbk hW3 hsz3 hBl hl hn hb0

  refine start_ (n := 9) (S := fun w' => w'.cell? ⟨bk, 0, none⟩ = some (.int .i64 k.f0) ∧ w'.cell? ⟨bk, 1, none⟩ = some (.int .i64 k.f1) ∧ w'.cell? ⟨bk, 2, none⟩ = some (.string k.f2) ∧ (Instr.lookup 42 (.map (some B)) (.agg #[.int .i64 k.f0, .int .i64 k.f1, .string k.f2]) false).run Try.prog w' = .ok v0 w') (ds := [8]) #[false, false, false, false, false, false, false, false, false] (by kernel_rfl) rfl rfl ⟨(blk_cell (blk_drew n0_.out) 0).trans rfl, (blk_cell (blk_drew n0_.out) 1).trans rfl, (blk_cell (blk_drew n0_.out) 2).trans rfl, n1_.out _ rfl⟩ (fun hHeld => ?_)
  refine pure_ (i := 0) (N := some 6) (v := ?_) (a' := ?_) #[true, false, false, false, false, false, false, false, false] rfl rfl (by kernel_rfl) (fun _ _ _ h => h) (Or.inl ⟨by rfl, ?_⟩) ?_ ?_
  rotate_left
  · intro w'
    go_simp
    with_reducible rfl
  rotate_left
  · simp only [Act.put, List.setIfInBounds_toArray, List.set_cons_zero, List.set_cons_succ, i64_w, i32_w]
    rfl
  refine pure_ (i := 2) (N := some 8) (v := ?_) (a' := ?_) #[true, false, true, false, false, false, false, false, false] rfl rfl (by kernel_rfl) (fun _ _ _ h => h) (Or.inl ⟨by rfl, ?_⟩) ?_ ?_
  rotate_left
  · intro w'
    go_simp
    with_reducible rfl
  rotate_left
  · simp only [Act.put, List.setIfInBounds_toArray, List.set_cons_zero, List.set_cons_succ, i64_w, i32_w]
    rfl
  refine pure_ (i := 5) (N := some 11) (v := ?_) (a' := ?_) #[true, false, true, false, false, true, false, false, false] rfl rfl (by kernel_rfl) (fun _ _ _ h => h) (Or.inl ⟨by rfl, ?_⟩) ?_ ?_
  rotate_left
  · intro w'
    go_simp
    with_reducible rfl
  rotate_left
  · simp only [Act.put, List.setIfInBounds_toArray, List.set_cons_zero, List.set_cons_succ, i64_w, i32_w]
    rfl
  refine take_ (i := 1) (N := some 7) (v := ?_) (a' := ?_) #[true, true, true, false, false, true, false, false, false] rfl rfl (by kernel_rfl) (fun _ _ _ h => h) (Or.inl ⟨by rfl, ?_⟩) hHeld ?_ ?_
  rotate_left
  · rintro w' ⟨s0, s1, s2, s3⟩
    go_simp
    with_reducible rfl
  rotate_left
  · simp only [Act.put, List.setIfInBounds_toArray, List.set_cons_zero, List.set_cons_succ, i64_w, i32_w]
    rfl
  refine take_ (i := 3) (N := some 9) (v := ?_) (a' := ?_) #[true, true, true, true, false, true, false, false, false] rfl rfl (by kernel_rfl) (fun _ _ _ h => h) (Or.inl ⟨by rfl, ?_⟩) hHeld ?_ ?_
  rotate_left
  · rintro w' ⟨s0, s1, s2, s3⟩
    go_simp
    with_reducible rfl
  rotate_left
  · simp only [Act.put, List.setIfInBounds_toArray, List.set_cons_zero, List.set_cons_succ, i64_w, i32_w]
    rfl
  refine take_ (i := 4) (N := some 10) (v := ?_) (a' := ?_) #[true, true, true, true, true, true, false, false, false] rfl rfl (by kernel_rfl) (fun _ _ _ h => h) (Or.inl ⟨by rfl, ?_⟩) hHeld ?_ ?_
  rotate_left
  · rintro w' ⟨s0, s1, s2, s3⟩
    go_simp
    with_reducible rfl
  rotate_left
  · simp only [Act.put, List.setIfInBounds_toArray, List.set_cons_zero, List.set_cons_succ, i64_w, i32_w]
    rfl
  refine one_ (i := 6) (N := some 12) #[true, true, true, true, true, true, true, false, false] rfl rfl (by kernel_rfl) (by decide) (fun K hK => ?_)
  refine value_ (w1 := ?_) (v := ?_) (by rfl) rfl ?_ ?_
  rotate_left 2
  · go_simp
    constructor
    · rfl
    · rfl
  refine hK.out _ _ ⟨cell_al hHeld.1, cell_al hHeld.2.1, cell_al hHeld.2.2.1, n1_.out _ (Below.heap_alloc W3.drew _ B n3_.out)⟩ (fun hHeld => ?_)
  clear hK K
  refine norm_ (a' := ?_) ?_ ?_
  rotate_left
  · show Act.put _ (some 12) _ = _
    simp only [Act.put, List.setIfInBounds_toArray, List.set_cons_zero, List.set_cons_succ, i64_w, i32_w]
    rfl
  refine one_ (i := 7) (N := some 13) #[true, true, true, true, true, true, true, true, false] rfl rfl (by kernel_rfl) (by decide) (fun K hK => ?_)
  refine Kd.R_append_step kI (w0 := W3.drew) b0 (by rfl) (.tmp 10) (.tmp 12) 31 3 (.int .i64 0) 8 (by rfl) Try.underlying31 info3 rfl (by decide) (by decide) v0 (F k) i [.int .i64 i] (fun k_ => own2 k_ = .key k) (fun _ => False) (by rfl) (by rfl) ?aP (fun _ hk => hk.elim) ?aF (Kd.R_drew n2_.out) (Below.refl _ _) ?aS ?aL ?_
  (case aP => exact rfl)
  (case aF => exact fun k_ hk_ => n4_.out k_ hk_)
  (case aS => exact n5_.out)
  (case aL => have := n6_.out; omega)
  intro v13 w4 hq4 hb4 hg4 hat4
  have k4 : w4.heap[bk]? = some (.cells #[.int .i64 k.f0, .int .i64 k.f1, .string k.f2] 24 (0, 0)) := (hg4.block bk n7_.out (fun e => n8_.out e.symm)).trans n0_.out
  have m4 : w4.heap[B]? = W3.heap[B]? := hg4.block B n3_.out (fun e => n9_.out (n2_.out.1 _ e.symm))
  refine hK.out _ _ ⟨(blk_cell k4 0).trans rfl, (blk_cell k4 1).trans rfl, (blk_cell k4 2).trans rfl, n1_.out _ m4⟩ (fun hHeld => ?_)
  clear hK K
  refine norm_ (a' := ?_) ?_ ?_
  rotate_left
  · show Act.put _ (some 13) _ = _
    simp only [Act.put, List.setIfInBounds_toArray, List.set_cons_zero, List.set_cons_succ, i64_w, i32_w]
    rfl
  refine last_ (i := 8) (N := none) #[true, true, true, true, true, true, true, true, true] rfl rfl (by kernel_rfl) (by decide) (fun K hK => ?_)
  obtain ⟨w5, hr5, hm5, ht5⟩ := n10_.out w4 v13 m4
  refine skip_ (w1 := w5) (by rfl) rfl ?_ ?_
  · go_simp
  refine hK.out _ _ ?_
  clear hK K
  refine done_ (by kernel_rfl) ?_
  go_wp2
  first | go_end0 | (simp only [Exit.inBlock, Exit.then]; refine bodyPost_ret (results_none rfl _ _ _) rfl ?_) | refine bodyPost_ret (results_none rfl _ _ _) rfl ?_
  exact ⟨rfl, ND.out _ _ _ hq4 hg4 hm5 ht5⟩

end Go.Proofs.Ytpkhdljlhdomlaa.QIndexFinds
