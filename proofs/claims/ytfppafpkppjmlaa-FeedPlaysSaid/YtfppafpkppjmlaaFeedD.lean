import Derived.Test.YtfppafpkppjmlaaFeedC
/- Feed: walks of the feed's functions, by hand; the conditions stand in each theorem. -/
namespace Go.Proofs.Ytfppafpkppjmlaa.QFeedPlays
open Go.RowKit Go.Proofs.YtfppafpkppjmlaaW.PrintWords Go.Proofs.YtfppafpkppjmlaaW.PrintLast Go.Proofs.YtfppafpkppjmlaaW.PrintMore
attribute [local go_sem] max2_int min2_int max_two min_two max_three min_three max_four min_four
set_option linter.unusedVariables false
set_option linter.unusedSimpArgs false
def clipV (x : Int) : Int := mn (mx x 0) 1000000000000
theorem clipV_eq (x : Int) : clipV x = min (max x 0) 1000000000000 := by
  unfold clipV mn mx
  omega
theorem clip_wf (x : Int) : (Lit.int .i64 (clipV x)).wf = true := by
  rw [clipV_eq]
  have h : 0 ≤ min (max x 0) 1000000000000 ∧ min (max x 0) 1000000000000 ≤ 1000000000000 := by omega
  revert h
  generalize min (max x 0) 1000000000000 = y
  rintro ⟨h1, h2⟩
  have e1 : IntKind.i64.min = -9223372036854775808 := by decide
  have e2 : IntKind.i64.max = 9223372036854775807 := by decide
  simp [Lit.wf]
  omega
theorem Fd.put_step {W w3 w4 : World} {own : Nat → Prop} {g : Nat} {most : Int} {n : Nat} {L : List S35} {k : ByteArray} {x : Int} {B : Nat} {v v' : Value} {f : ByteArray → Option Int} (hb : Below W.heap.size W w3) (hg : own g) (hB : own B) (hv : ∀ b, v.ownBlock = some b → own b) (hf : ∀ s, f s = lookL L s) (hnd : (keysOf L).Nodup) (hkl : ∀ s ∈ keysOf L, s.size ≤ maxLen) (h0 : 0 ≤ most) (h50 : most ≤ 50) (hlen : (L.length : Int) ≤ most) (hwf : ∀ p ∈ L, (Lit.int .i64 p.f1).wf = true) (hx : (Lit.int .i64 x).wf = true) (hk : k.size ≤ maxLen)
    (hp : FeedAt w4 0 g B most (n + 1) v' (cutK most (putK (keysOf L) k)) (putF most (keysOf L) f k x)) (hm : Moved w3 w4 g B v v') : Fd w4 (fun j => own j ∨ W.heap.size ≤ j) g most (n + 1) (putL most L k x) ∧ Upd own W w4 := by
  rw [← keysOf_put most L k x] at hp
  have hs := hb.size
  refine ⟨⟨⟨B, v', _, hp, .inl hg, .inl hB, fun b hb' => ?_, fun s => putF_look most L hnd f hf k x s⟩, put_nodup most L hnd k x, fun s hs => ?_, h0, h50, put_len most L k x h0 hlen, fun p hp2 => ?_⟩, ?_⟩
  · rcases hm.own with e | e | ⟨c, e, hc⟩
    · rw [e] at hb'; cases hb'
    · exact .inl (hv b (e ▸ hb'))
    · rw [e] at hb'
      have := Option.some.inj hb'
      exact .inr (by omega)
  · rcases put_mem most L k x s hs with rfl | h
    · exact hk
    · exact hkl s h
  · have h2 : p ∈ restL L k x := by
      unfold putL at hp2
      split at hp2
      · exact List.mem_of_mem_drop hp2
      · exact hp2
    unfold restL at h2
    rcases List.mem_append.1 h2 with h3 | h3
    · exact hwf p (List.mem_filter.1 h3).1
    · have : p = ⟨k, x⟩ := by simpa using h3
      rw [this]
      exact hx
  · refine ⟨hm.os.trans hb.os, hm.tape.trans hb.tape, hm.output.trans hb.output, Nat.le_trans hb.size hm.size, fun j hj hn => ?_⟩
    refine (hm.far j (by omega) (fun e => hn (e ▸ hg)) (fun e => hn (e ▸ hB)) (fun e => hn (hv j e.symm))).trans (hb.block j hj)
set_option maxHeartbeats 4000000 in
theorem feed_Put (W : World) (own : Nat → Prop) (g : Nat) (most : Int) (n : Nat) (L : List S35) (k : ByteArray) (x : Int) (h : Fd W own g most n L) (hk : k.size ≤ maxLen) (hn : n < maxLen) :
    Calls Try.prog 15 #[.pointer (some ⟨g, 0, none⟩), .string k, .int .i64 x] W fun e w' => e = .returned (.tuple #[]) ∧ Fd w' (fun j => own j ∨ W.heap.size ≤ j) g most (n + 1) (putL most L k (clipV x)) ∧ Upd own W w' := by
  obtain ⟨⟨B, v, f, h1, h2, h3, h4, h5⟩, hnd, hkl, h0, h50, hlen, hwf⟩ := h
  have HN : Aside0 (∀ w3, Below W.drew.heap.size W.drew w3 → (Calls Try.prog 19 #[.pointer (some ⟨g, 0, none⟩), .string k, .int .i64 (clipV x)] w3 fun e w' => e = .returned (.tuple #[]) ∧ ∃ v', FeedAt w' 0 g B most (n + 1) v' (cutK most (putK (keysOf L) k)) (putF most (keysOf L) f k (clipV x)) ∧ Moved w3 w' g B v v') ∧ Below W.heap.size W w3) := ⟨fun w3 hb => by
    have hb2 : Below W.heap.size W w3 := ⟨hb.os, hb.tape, hb.output, hb.size, hb.block⟩
    have hg := blk_lt h1.blk
    refine ⟨feed_put w3 0 g B most n v (keysOf L) f k (clipV x) ⟨(hb2.block g hg).trans h1.blk, map_far h1.map (hb2.block B h1.ltB), Kd.Q_below h1.keys hb2, h1.ne, h1.base⟩ hk (clip_wf x) hn (by simp only [keysOf, List.length_map]; omega) hkl h0 hnd (fun s => by rw [h5 s, look_any]), hb2⟩⟩
  have HE : Aside0 (∀ w3 w4 v', Below W.heap.size W w3 → FeedAt w4 0 g B most (n + 1) v' (cutK most (putK (keysOf L) k)) (putF most (keysOf L) f k (clipV x)) → Moved w3 w4 g B v v' → Fd w4 (fun j => own j ∨ W.heap.size ≤ j) g most (n + 1) (putL most L k (clipV x)) ∧ Upd own W w4) := ⟨fun w3 w4 v' hb hp hm => Fd.put_step hb h2 h3 h4 h5 hnd hkl h0 h50 hlen hwf (clip_wf x) hk hp hm⟩
  clear h1 h2 h3 h4 h5 hnd hkl h0 h50 hlen hwf
  go_enter Try.func15, Try.ntmps15
  go_wp2
  refine start_ (n := 7) (S := fun w' => True) (ds := []) #[false, false, false, false, false, false, false] (by kernel_rfl) rfl rfl trivial (fun hHeld => ?_)
  refine pure_ (i := 0) (N := some 6) (v := ?_) (a' := ?_) #[true, false, false, false, false, false, false] rfl rfl (by kernel_rfl) (fun _ _ _ h => h) (Or.inl ⟨by rfl, ?_⟩) ?_ ?_
  rotate_left
  · intro w'
    go_simp
    with_reducible rfl
  rotate_left
  · simp only [Act.put, List.setIfInBounds_toArray, List.set_cons_zero, List.set_cons_succ, i64_w, i32_w]
    rfl
  refine pure_ (i := 1) (N := some 7) (v := ?_) (a' := ?_) #[true, true, false, false, false, false, false] rfl rfl (by kernel_rfl) (fun _ _ _ h => h) (Or.inl ⟨by rfl, ?_⟩) ?_ ?_
  rotate_left
  · intro w'
    go_simp
    with_reducible rfl
  rotate_left
  · simp only [Act.put, List.setIfInBounds_toArray, List.set_cons_zero, List.set_cons_succ, i64_w, i32_w]
    rfl
  refine pure_ (i := 2) (N := some 8) (v := ?_) (a' := ?_) #[true, true, true, false, false, false, false] rfl rfl (by kernel_rfl) (fun _ _ _ h => h) (Or.inl ⟨by rfl, ?_⟩) ?_ ?_
  rotate_left
  · intro w'
    go_simp
    with_reducible rfl
  rotate_left
  · simp only [Act.put, List.setIfInBounds_toArray, List.set_cons_zero, List.set_cons_succ, i64_w, i32_w]
    rfl
  refine pure_ (i := 3) (N := some 9) (v := ?_) (a' := ?_) #[true, true, true, true, false, false, false] rfl rfl (by kernel_rfl) (fun _ _ _ h => h) (Or.inl ⟨by rfl, ?_⟩) ?_ ?_
  rotate_left
  · intro w'
    go_simp
    with_reducible rfl
  rotate_left
  · simp only [Act.put, List.setIfInBounds_toArray, List.set_cons_zero, List.set_cons_succ, i64_w, i32_w]
    rfl
  refine pure_ (i := 4) (N := some 10) (v := ?_) (a' := ?_) #[true, true, true, true, true, false, false] rfl rfl (by kernel_rfl) (fun _ _ _ h => h) (Or.inl ⟨by rfl, ?_⟩) ?_ ?_
  rotate_left
  · intro w'
    go_simp
    with_reducible rfl
  rotate_left
  · simp only [Act.put, List.setIfInBounds_toArray, List.set_cons_zero, List.set_cons_succ, i64_w, i32_w]
    rfl
  refine one_ (i := 5) (N := some 11) #[true, true, true, true, true, true, false] rfl rfl (by kernel_rfl) (by decide) (fun K hK => ?_)
  refine goes_ Try.func20 (by kernel_rfl) rfl #[.int .i64 x] (by rfl) rfl rfl (by simp only [List.map_toArray, List.map_cons, List.map_nil]; rfl) ?_
  with_reducible refine (hist_Clip.calls x _ _ rfl).mono ?_
  rintro e w3 ⟨rfl, hb⟩
  refine ⟨_, rfl, ?_⟩
  refine hK.out _ _ trivial (fun hHeld => ?_)
  clear hK K
  refine norm_ (a' := ?_) ?_ ?_
  rotate_left
  · show Act.put _ (some 11) _ = _
    simp only [Act.put, List.setIfInBounds_toArray, List.set_cons_zero, List.set_cons_succ, i64_w, i32_w]
    rfl
  refine one_ (i := 6) (N := some 12) #[true, true, true, true, true, true, true] rfl rfl (by kernel_rfl) (by decide) (fun K hK => ?_)
  obtain ⟨h3, h3f⟩ := HN.out w3 hb
  refine goes_ Try.func19 (by kernel_rfl) rfl #[.pointer (some ⟨g, 0, none⟩), .string k, .int .i64 (clipV x)] (by rfl) rfl rfl (by simp only [List.map_toArray, List.map_cons, List.map_nil]; rfl) ?_
  with_reducible refine (h3).mono ?_
  rintro e w4 ⟨rfl, hp⟩
  refine ⟨_, rfl, ?_⟩
  refine hK.out _ _ trivial (fun hHeld => ?_)
  clear hK K
  refine norm_ (a' := ?_) ?_ ?_
  rotate_left
  · show Act.put _ (some 12) _ = _
    simp only [Act.put, List.setIfInBounds_toArray, List.set_cons_zero, List.set_cons_succ, i64_w, i32_w]
    rfl
  refine done_ (by kernel_rfl) ?_
  obtain ⟨v', hp1, hp2⟩ := hp
  first | go_end0 | (simp only [Exit.inBlock, Exit.then]; refine bodyPost_ret (results_none rfl _ _ _) rfl ?_) | refine bodyPost_ret (results_none rfl _ _ _) rfl ?_
  exact ⟨rfl, HE.out _ _ _ h3f hp1 hp2⟩

end Go.Proofs.Ytfppafpkppjmlaa.QFeedPlays
