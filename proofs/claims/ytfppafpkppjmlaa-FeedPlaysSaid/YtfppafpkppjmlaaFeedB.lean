import Derived.Test.YtfppafpkppjmlaaFeedA
/- Feed: walks of the feed's functions, by hand; the conditions stand in each theorem. -/
namespace Go.Proofs.Ytfppafpkppjmlaa.QFeedPlays
open Go.RowKit Go.Proofs.YtfppafpkppjmlaaW.PrintWords Go.Proofs.YtfppafpkppjmlaaW.PrintLast Go.Proofs.YtfppafpkppjmlaaW.PrintMore
attribute [local go_sem] max2_int min2_int max_two min_two max_three min_three max_four min_four
set_option linter.unusedVariables false
set_option linter.unusedSimpArgs false
theorem feed_done {W W5 W6 : World} {b0 g B : Nat} {most : Int} {n : Nat} {v0 v5 v7 : Value} {ks : List ByteArray} {f : ByteArray → Option Int} (hne : g ≠ B) (hbase : b0 ≤ g ∧ b0 ≤ B) (g6 : W6.heap[g]? = some (.cells #[.int .i64 most, .map (some B), v5] 48 (0, 0))) (M6 : MapAt W6 B n f) (B6 : ∀ j, j ≠ B → W6.heap[j]? = W5.heap[j]?)
    (S6 : W6.os = W5.os ∧ W6.tape = W5.tape ∧ W6.output = W5.output ∧ W6.heap.size = W5.heap.size) (hq : Kd.Q Kd.string 9 W5 b0 (fun k => k ≠ g ∧ k ≠ B) v7 ks) (hm : Moved W W5 g B v0 v5) (ho : v7.ownBlock = v5.ownBlock) :
    FeedAt (W6.setCell ⟨g, 2, none⟩ v7) b0 g B most n v7 ks f ∧ Moved W (W6.setCell ⟨g, 2, none⟩ v7) g B v0 v7 :=
  ⟨{ blk := blk_put g6 2 _ rfl
     map := map_far M6 (Below.heap_setCell _ _ _ _ hne.symm)
     keys := Kd.Q_move hq (fun j hj => (Below.heap_setCell _ _ _ _ hj.1).trans (B6 j hj.2))
     ne := hne
     base := hbase },
   { os := S6.1.trans hm.os
     tape := S6.2.1.trans hm.tape
     output := S6.2.2.1.trans hm.output
     size := by have := hm.size; have := S6.2.2.2; simp; omega
     far := fun j hj h1 h2 h3 => (Below.heap_setCell _ _ _ _ h1).trans ((B6 j h2).trans (hm.far j hj h1 h2 h3))
     own := by rw [ho]; exact hm.own }⟩
theorem feed_stay {W W5 : World} {b0 g B : Nat} {most : Int} {n : Nat} {v0 v5 : Value} {ks : List ByteArray} {f : ByteArray → Option Int} (m : Nat) (hne : g ≠ B) (hbase : b0 ≤ g ∧ b0 ≤ B) (g5 : W5.heap[g]? = some (.cells #[.int .i64 most, .map (some B), v5] 48 (0, 0))) (M5 : MapAt W5 B n f)
    (hq : Kd.Q Kd.string 9 W5 b0 (fun k => k ≠ g ∧ k ≠ B) v5 ks) (hm : Moved W W5 g B v0 v5) :
    FeedAt (W5.drewN m) b0 g B most n v5 ks f ∧ Moved W (W5.drewN m) g B v0 v5 :=
  ⟨{ blk := g5, map := map_far M5 rfl, keys := Kd.Q_drewN hq m, ne := hne, base := hbase },
   { os := hm.os, tape := hm.tape, output := hm.output, size := hm.size, far := hm.far, own := hm.own }⟩
set_option maxHeartbeats 4000000 in
theorem feed_put (W : World) (b0 g B : Nat) (most : Int) (n : Nat) (v : Value) (ks : List ByteArray) (f : ByteArray → Option Int) (k : ByteArray) (x : Int) (h : FeedAt W b0 g B most n v ks f) (hk : k.size ≤ maxLen) (hx : (Lit.int .i64 x).wf = true) (hn : n < maxLen) (hl : ks.length ≤ 1000) (hkl : ∀ s ∈ ks, s.size ≤ maxLen) (hm : 0 ≤ most)
    (hnd : ks.Nodup) (hf : ∀ s, (f s).isSome = ks.any (keyIs s)) :
    Calls Try.prog 19 #[.pointer (some ⟨g, 0, none⟩), .string k, .int .i64 x] W fun e w' => e = .returned (.tuple #[]) ∧ ∃ v', FeedAt w' b0 g B most (n + 1) v' (cutK most (putK ks k)) (putF most ks f k x) ∧ Moved W w' g B v v' := by
  have hmf : ∀ (fn : Fn) (first cap : Array Value) (w : World), (Instr.makeFunc fn first cap).run Try.prog w = .ok (.func fn first cap) w := fun _ _ _ _ => rfl
  have HF := Aside0.mk h
  have HFS := Aside0.mk hf
  have HND := Aside0.mk hnd
  have HKL := Aside0.mk hkl
  clear h hf hnd hkl
  have hbs : ∃ b, (f k).isSome = b := ⟨_, rfl⟩
  obtain ⟨b, hb⟩ := hbs
  have hgl := blk_lt HF.out.blk
  have hBl := HF.out.ltB
  have hc0 : (W.alloc (.cells #[.string k] 9)).cell? ⟨g, 0, none⟩ = some (.int .i64 most) := (blk_cell (blk_alloc HF.out.blk _) 0).trans rfl
  have hc1 : (W.alloc (.cells #[.string k] 9)).cell? ⟨g, 1, none⟩ = some (.map (some B)) := (blk_cell (blk_alloc HF.out.blk _) 1).trans rfl
  have hc2 : (W.alloc (.cells #[.string k] 9)).cell? ⟨g, 2, none⟩ = some v := (blk_cell (blk_alloc HF.out.blk _) 2).trans rfl
  have hck : (W.alloc (.cells #[.string k] 9)).cell? ⟨W.heap.size, 0, none⟩ = some (.string k) := (blk_cell (blk_new W _) 0).trans rfl
  have hlook : ∀ m, (Instr.lookup 44 (.map (some B)) (.string k) true).run Try.prog ((W.alloc (.cells #[.string k] 9)).drewN m) = .ok (.tuple #[.int .i64 ((f k).getD 0), .bool b]) ((W.alloc (.cells #[.string k] 9)).drewN m) := fun m => by rw [← hb]; exact map_ok (map_far (w2 := (W.alloc (.cells #[.string k] 9)).drewN m) HF.out.map (Below.heap_alloc W _ B HF.out.ltB)) k hk
  have hany : ks.any (keyIs k) = b := (HFS.out k).symm.trans hb
  have HB := Aside0.mk hany
  clear hany hb
  go_enter Try.func19, Try.ntmps19
  go_wp2
  generalize hw1 : W.alloc (.cells #[.string k] 9) = W1 at *
  have HW1 := Aside0.mk hw1
  clear hw1
  go_quiet (fail)
  cases b with
  | true =>
    obtain ⟨hlt, hone, hfil⟩ := one_key HND.out k HB.out
    have hpos : 0 < ks.length := by omega
    obtain ⟨blk, off, cap, cur, rfl, hb0, ⟨hbg, hbB⟩, hh, hc, hm2, hs, ht⟩ := keys_open HF.out.keys hpos
    have hkb : W.heap.size ≠ blk := by have := blk_lt hh; omega
    have hrow : KeyStep (W1.drewN nq) (W1.drewN nq) blk off ks.length (off + cap) (fun p => ks.getD p ⟨#[]⟩) := ⟨rfl, rfl, rfl, rfl, fun _ _ => rfl, cur, by rw [← HW1.out]; exact blk_alloc hh _, hs, ht⟩
    have HD := Aside0.mk (feed_delete (W1.drewN nq) W.heap.size blk off cap (off + cap) k ks (ks.findIdx (keyIs k)) hlt (by omega) hc (by omega) hck hkb (by unfold idxK; rw [if_pos HB.out]) hone hrow)
    have HFI := Aside0.mk hfil
    clear hrow hone hfil ht
    go_wp2_with (go_at_call 21; refine HD.out.mono ?_; rintro e w2 ⟨rfl, hks⟩; have HKS := Aside0.mk hks; have hg0 : w2.cell? ⟨g, 2, none⟩ = some (.slice (some ⟨blk, off, none⟩) ks.length cap) := (World.cell?_of_block (w := W1.drewN nq) (hks.far g hbg.symm)).trans hc2; have hf0 : w2.frozen? ⟨g, 2, none⟩ = false := (World.frozen?_of_block (w := W1.drewN nq) (hks.far g hbg.symm)).trans (by rw [← HW1.out]; exact blk_frozen (blk_alloc HF.out.blk _) 2); clear hks)
    have n0_ : Aside0 ((w2.setCell ⟨g, 2, none⟩ (.slice (some ⟨blk, off, none⟩) (ks.length - 1) cap)).heap[g]? = some (.cells #[.int .i64 most, .map (some B), .slice (some ⟨blk, off, none⟩) (ks.length - 1) cap] 48 (0, 0))) := ⟨blk_put ((HKS.out.far g hbg.symm).trans (by rw [← HW1.out]; exact blk_alloc HF.out.blk _)) 2 _ rfl⟩
    have n1_ : Aside0 (MapAt (w2.setCell ⟨g, 2, none⟩ (.slice (some ⟨blk, off, none⟩) (ks.length - 1) cap)) B n f) := ⟨map_far HF.out.map ((Below.heap_setCell _ _ _ _ HF.out.ne.symm).trans ((HKS.out.far B hbB.symm).trans (by rw [← HW1.out]; exact Below.heap_alloc W _ B hBl)))⟩
    have n2_ : Aside0 (Kd.Q Kd.string 9 (w2.setCell ⟨g, 2, none⟩ (.slice (some ⟨blk, off, none⟩) (ks.length - 1) cap)) b0 (fun k_ => k_ ≠ g ∧ k_ ≠ B) (.slice (some ⟨blk, off, none⟩) (ks.length - 1) cap) (ks.filter (fun x => !keyIs k x))) := ⟨by
      rw [HFI.out]
      have hle : (ks.eraseIdx (ks.findIdx (keyIs k))).length = ks.length - 1 := by rw [List.length_eraseIdx, if_pos hlt]
      obtain ⟨cur2, q1, q2, q3⟩ := HKS.out.blk
      have q4 : (w2.setCell ⟨g, 2, none⟩ (.slice (some ⟨blk, off, none⟩) (ks.length - 1) cap)).heap[blk]? = some (.cells cur2 9 (0, 0)) := (Below.heap_setCell _ _ _ _ hbg).trans q1
      by_cases z : ks.length - 1 = 0
      · have e0 : ks.eraseIdx (ks.findIdx (keyIs k)) = [] := List.eq_nil_of_length_eq_zero (by omega)
        rw [e0, z]
        rw [z] at q4
        exact keys_mk0 hb0 ⟨hbg, hbB⟩ q4 hm2 q2
      · rw [← hle] at q3 q4 ⊢
        exact keys_mk (by omega) hb0 ⟨hbg, hbB⟩ q4 (by omega) hm2 q2 q3⟩
    have n3_ : Aside0 ((w2.setCell ⟨g, 2, none⟩ (.slice (some ⟨blk, off, none⟩) (ks.length - 1) cap)).heap[W.heap.size]? = some (.cells #[.string k] 9 (0, 0))) := ⟨(Below.heap_setCell _ _ _ _ (Nat.ne_of_gt hgl)).trans ((HKS.out.far _ hkb).trans (by rw [← HW1.out]; exact blk_new W _))⟩
    have n4_ : Aside0 ((w2.setCell ⟨g, 2, none⟩ (.slice (some ⟨blk, off, none⟩) (ks.length - 1) cap)).heap.size = W.heap.size + 1) := ⟨by
      have := HKS.out.size
      have e := HW1.out
      simp only [← e] at this
      simpa using this⟩
    have n5_ : Aside0 (Moved W (w2.setCell ⟨g, 2, none⟩ (.slice (some ⟨blk, off, none⟩) (ks.length - 1) cap)) g B (.slice (some ⟨blk, off, none⟩) ks.length cap) (.slice (some ⟨blk, off, none⟩) (ks.length - 1) cap)) := ⟨{
      os := HKS.out.os.trans (by rw [← HW1.out]; rfl)
      tape := HKS.out.tape.trans (by rw [← HW1.out]; rfl)
      output := HKS.out.output.trans (by rw [← HW1.out]; rfl)
      size := by have := n4_.out; omega
      far := fun j hj h1 h2 h3 => (Below.heap_setCell _ _ _ _ h1).trans ((HKS.out.far j (fun e => h3 (by simp [Value.ownBlock, e]))).trans (by rw [← HW1.out]; exact Below.heap_alloc W _ j hj))
      own := .inr (.inl (by simp [Value.ownBlock])) }⟩
    have n6_ : Aside0 (some W.heap.size ≠ (Value.slice (some ⟨blk, off, none⟩) (ks.length - 1) cap).ownBlock) := ⟨fun e => hkb (by simpa [Value.ownBlock] using e)⟩
    clear HD HFI HKS hg0 hf0 hlook hc0 hc1 hc2 hck
    generalize hv1 : (Value.slice (some ⟨blk, off, none⟩) (ks.length - 1) cap) = v1 at *
    generalize hw3 : w2.setCell ⟨g, 2, none⟩ v1 = W3 at *
    clear hv1 hw3
    have HLF : Aside0 ((ks.filter (fun x => !keyIs k x)).length ≤ 1000) := ⟨Nat.le_trans (List.length_filter_le _ _) hl⟩
    refine start_ (n := 20) (S := fun w' => w'.cell? ⟨g, 1, none⟩ = some (.map (some B)) ∧ w'.cell? ⟨g, 2, none⟩ = some v1 ∧ w'.cell? ⟨W.heap.size, 0, none⟩ = some (.string k)) (ds := [14, 16, 19]) #[false, false, false, false, false, false, false, false, false, false, false, false, false, false, false, false, false, false, false, false] (by kernel_rfl) rfl rfl ⟨(blk_cell (blk_drew n0_.out) 1).trans rfl, (blk_cell (blk_drew n0_.out) 2).trans rfl, (blk_cell (blk_drew n3_.out) 0).trans rfl⟩ (fun hHeld => ?_)
    refine pure_ (i := 0) (N := some 27) (v := ?_) (a' := ?_) #[true, false, false, false, false, false, false, false, false, false, false, false, false, false, false, false, false, false, false, false] rfl rfl (by kernel_rfl) (fun _ _ _ h => h) (Or.inl ⟨by rfl, ?_⟩) ?_ ?_
    rotate_left
    · intro w'
      go_simp
      with_reducible rfl
    rotate_left
    · simp only [Act.put, List.setIfInBounds_toArray, List.set_cons_zero, List.set_cons_succ, i64_w, i32_w]
      rfl
    refine pure_ (i := 1) (N := some 28) (v := ?_) (a' := ?_) #[true, true, false, false, false, false, false, false, false, false, false, false, false, false, false, false, false, false, false, false] rfl rfl (by kernel_rfl) (fun _ _ _ h => h) (Or.inl ⟨by rfl, ?_⟩) ?_ ?_
    rotate_left
    · intro w'
      go_simp
      with_reducible rfl
    rotate_left
    · simp only [Act.put, List.setIfInBounds_toArray, List.set_cons_zero, List.set_cons_succ, i64_w, i32_w]
      rfl
    refine pure_ (i := 2) (N := some 29) (v := ?_) (a' := ?_) #[true, true, true, false, false, false, false, false, false, false, false, false, false, false, false, false, false, false, false, false] rfl rfl (by kernel_rfl) (fun _ _ _ h => h) (Or.inl ⟨by rfl, ?_⟩) ?_ ?_
    rotate_left
    · intro w'
      go_simp
      with_reducible rfl
    rotate_left
    · simp only [Act.put, List.setIfInBounds_toArray, List.set_cons_zero, List.set_cons_succ, i64_w, i32_w]
      rfl
    refine pure_ (i := 5) (N := some 32) (v := ?_) (a' := ?_) #[true, true, true, false, false, true, false, false, false, false, false, false, false, false, false, false, false, false, false, false] rfl rfl (by kernel_rfl) (fun _ _ _ h => h) (Or.inl ⟨by rfl, ?_⟩) ?_ ?_
    rotate_left
    · intro w'
      go_simp
      with_reducible rfl
    rotate_left
    · simp only [Act.put, List.setIfInBounds_toArray, List.set_cons_zero, List.set_cons_succ, i64_w, i32_w]
      rfl
    refine pure_ (i := 6) (N := some 33) (v := ?_) (a' := ?_) #[true, true, true, false, false, true, true, false, false, false, false, false, false, false, false, false, false, false, false, false] rfl rfl (by kernel_rfl) (fun _ _ _ h => h) (Or.inl ⟨by rfl, ?_⟩) ?_ ?_
    rotate_left
    · intro w'
      go_simp
      with_reducible rfl
    rotate_left
    · simp only [Act.put, List.setIfInBounds_toArray, List.set_cons_zero, List.set_cons_succ, i64_w, i32_w]
      rfl
    refine pure_ (i := 7) (N := some 34) (v := ?_) (a' := ?_) #[true, true, true, false, false, true, true, true, false, false, false, false, false, false, false, false, false, false, false, false] rfl rfl (by kernel_rfl) (fun _ _ _ h => h) (Or.inl ⟨by rfl, ?_⟩) ?_ ?_
    rotate_left
    · intro w'
      go_simp
      with_reducible rfl
    rotate_left
    · simp only [Act.put, List.setIfInBounds_toArray, List.set_cons_zero, List.set_cons_succ, i64_w, i32_w]
      rfl
    refine pure_ (i := 8) (N := some 35) (v := ?_) (a' := ?_) #[true, true, true, false, false, true, true, true, true, false, false, false, false, false, false, false, false, false, false, false] rfl rfl (by kernel_rfl) (fun _ _ _ h => h) (Or.inl ⟨by rfl, ?_⟩) ?_ ?_
    rotate_left
    · intro w'
      go_simp
      with_reducible rfl
    rotate_left
    · simp only [Act.put, List.setIfInBounds_toArray, List.set_cons_zero, List.set_cons_succ, i64_w, i32_w]
      rfl
    refine pure_ (i := 9) (N := some 36) (v := ?_) (a' := ?_) #[true, true, true, false, false, true, true, true, true, true, false, false, false, false, false, false, false, false, false, false] rfl rfl (by kernel_rfl) (fun _ _ _ h => h) (Or.inl ⟨by rfl, ?_⟩) ?_ ?_
    rotate_left
    · intro w'
      go_simp
      with_reducible rfl
    rotate_left
    · simp only [Act.put, List.setIfInBounds_toArray, List.set_cons_zero, List.set_cons_succ, i64_w, i32_w]
      rfl
    refine take_ (i := 3) (N := some 30) (v := ?_) (a' := ?_) #[true, true, true, true, false, true, true, true, true, true, false, false, false, false, false, false, false, false, false, false] rfl rfl (by kernel_rfl) (fun _ _ _ h => h) (Or.inl ⟨by rfl, ?_⟩) hHeld ?_ ?_
    rotate_left
    · rintro w' ⟨s0, s1, s2⟩
      go_simp
      with_reducible rfl
    rotate_left
    · simp only [Act.put, List.setIfInBounds_toArray, List.set_cons_zero, List.set_cons_succ, i64_w, i32_w]
      rfl
    refine take_ (i := 4) (N := some 31) (v := ?_) (a' := ?_) #[true, true, true, true, true, true, true, true, true, true, false, false, false, false, false, false, false, false, false, false] rfl rfl (by kernel_rfl) (fun _ _ _ h => h) (Or.inl ⟨by rfl, ?_⟩) hHeld ?_ ?_
    rotate_left
    · rintro w' ⟨s0, s1, s2⟩
      go_simp
      with_reducible rfl
    rotate_left
    · simp only [Act.put, List.setIfInBounds_toArray, List.set_cons_zero, List.set_cons_succ, i64_w, i32_w]
      rfl
    refine take_ (i := 10) (N := some 37) (v := ?_) (a' := ?_) #[true, true, true, true, true, true, true, true, true, true, true, false, false, false, false, false, false, false, false, false] rfl rfl (by kernel_rfl) (fun _ _ _ h => h) (Or.inl ⟨by rfl, ?_⟩) hHeld ?_ ?_
    rotate_left
    · rintro w' ⟨s0, s1, s2⟩
      go_simp
      with_reducible rfl
    rotate_left
    · simp only [Act.put, List.setIfInBounds_toArray, List.set_cons_zero, List.set_cons_succ, i64_w, i32_w]
      rfl
    refine take_ (i := 11) (N := some 38) (v := ?_) (a' := ?_) #[true, true, true, true, true, true, true, true, true, true, true, true, false, false, false, false, false, false, false, false] rfl rfl (by kernel_rfl) (fun _ _ _ h => h) (Or.inl ⟨by rfl, ?_⟩) hHeld ?_ ?_
    rotate_left
    · rintro w' ⟨s0, s1, s2⟩
      go_simp
      with_reducible rfl
    rotate_left
    · simp only [Act.put, List.setIfInBounds_toArray, List.set_cons_zero, List.set_cons_succ, i64_w, i32_w]
      rfl
    refine one_ (i := 12) (N := some 39) #[true, true, true, true, true, true, true, true, true, true, true, true, true, false, false, false, false, false, false, false] rfl rfl (by kernel_rfl) (by decide) (fun K hK => ?_)
    refine value_ (w1 := ?_) (v := ?_) (by rfl) rfl ?_ ?_
    rotate_left 2
    · go_simp
      constructor
      · rfl
      · rfl
    refine hK.out _ _ ⟨cell_al hHeld.1, cell_al hHeld.2.1, cell_al hHeld.2.2⟩ (fun hHeld => ?_)
    clear hK K
    refine norm_ (a' := ?_) ?_ ?_
    rotate_left
    · show Act.put _ (some 39) _ = _
      simp only [Act.put, List.setIfInBounds_toArray, List.set_cons_zero, List.set_cons_succ, i64_w, i32_w]
      rfl
    refine one_ (i := 13) (N := some 40) #[true, true, true, true, true, true, true, true, true, true, true, true, true, true, false, false, false, false, false, false] rfl rfl (by kernel_rfl) (by decide) (fun K hK => ?_)
    refine Kd.Q_append_step Kd.string (w0 := W3.drew) b0 (by rfl) (.tmp 37) (.tmp 39) 42 9 (.string (⟨#[]⟩ : ByteArray)) 16 (by rfl) Try.underlying42 infoS rfl (by decide) (by decide) v1 (ks.filter (fun x => !keyIs k x)) k [.string k] (fun k_ => k_ ≠ g ∧ k_ ≠ B) (fun _ => False) (by rfl) (by rfl) ?aP (fun _ hk => hk.elim) ?aF (Kd.Q_drew n2_.out) (Below.refl _ _) ?aS ?aL ?_
    (case aP => exact rfl)
    (case aF => exact fun k_ hk_ => by have h9 : W3.heap.size ≤ k_ := hk_; have := n4_.out; omega)
    (case aS => show b0 ≤ W3.heap.size; have := n4_.out; have := HF.out.base; omega)
    (case aL => have := HLF.out; omega)
    intro v40 w4 hq4 hb4 hg4 hat4
    obtain ⟨A40, c40, e40, _⟩ := Kd.Q_slice hq4
    subst e40
    have g4 : w4.heap[g]? = some (.cells #[.int .i64 most, .map (some B), v1] 48 (0, 0)) := (hg4.block g (by have := n4_.out; show g < W3.heap.size; omega) (Kd.Q_away n2_.out (fun _ hk => hk.1))).trans n0_.out
    have k4 : w4.heap[W.heap.size]? = some (.cells #[.string k] 9 (0, 0)) := (hg4.block W.heap.size (by have := n4_.out; show W.heap.size < W3.heap.size; omega) n6_.out).trans n3_.out
    have m4 : w4.heap[B]? = W3.heap[B]? := hg4.block B (by have := n4_.out; show B < W3.heap.size; omega) (Kd.Q_away n2_.out (fun _ hk => hk.2))
    refine hK.out _ _ ⟨(blk_cell g4 1).trans rfl, (blk_cell g4 2).trans rfl, (blk_cell k4 0).trans rfl⟩ (fun hHeld => ?_)
    clear hK K
    refine norm_ (a' := ?_) ?_ ?_
    rotate_left
    · show Act.put _ (some 40) _ = _
      simp only [Act.put, List.setIfInBounds_toArray, List.set_cons_zero, List.set_cons_succ, i64_w, i32_w]
      rfl
    refine last_ (i := 14) (N := some 41) #[true, true, true, true, true, true, true, true, true, true, true, true, true, true, true, false, false, false, false, false] rfl rfl (by kernel_rfl) (by decide) (fun K hK => ?_)
    obtain ⟨v0, st, o1, hr14, hn14⟩ := map_entry (map_far n1_.out m4) hn k hk
    refine value_ (w1 := Go.ChangeMaps.setBlock w4 B o1) (v := .tuple #[v0, .int .i64 (st : Int)]) (by rfl) rfl ?_ ?_
    · go_simp
    refine hK.out _ _ ?_
    clear hK K
    refine norm_ (a' := ?_) ?_ ?_
    rotate_left
    · show Act.put _ (some 41) _ = _
      simp only [Act.put, List.setIfInBounds_toArray, List.set_cons_zero, List.set_cons_succ, i64_w, i32_w]
      rfl
    refine pure_ (i := 15) (N := some 42) (v := ?_) (a' := ?_) #[true, true, true, true, true, true, true, true, true, true, true, true, true, true, true, true, false, false, false, false] rfl rfl (by kernel_rfl) (fun _ _ _ h => h) (Or.inl ⟨by rfl, ?_⟩) ?_ ?_
    rotate_left
    · intro w'
      go_simp
      with_reducible rfl
    rotate_left
    · simp only [Act.put, List.setIfInBounds_toArray, List.set_cons_zero, List.set_cons_succ, i64_w, i32_w]
      rfl
    refine last_ (i := 16) (N := none) #[true, true, true, true, true, true, true, true, true, true, true, true, true, true, true, true, true, false, false, false] rfl rfl (by kernel_rfl) (by decide) (fun K hK => ?_)
    obtain ⟨o2, hr16, hm16⟩ := hn14 (Go.ChangeMaps.setBlock w4 B o1) x hx (sb_same (by have := hg4.size; have := n4_.out; have h9 : W3.heap.size ≤ w4.heap.size := hg4.size; omega) o1)
    refine skip_ (w1 := Go.ChangeMaps.setBlock (Go.ChangeMaps.setBlock w4 B o1) B o2) (by rfl) rfl ?_ ?_
    · go_simp
    refine hK.out _ _ ?_
    clear hK K
    refine pure_ (i := 17) (N := some 43) (v := ?_) (a' := ?_) #[true, true, true, true, true, true, true, true, true, true, true, true, true, true, true, true, true, true, false, false] rfl rfl (by kernel_rfl) (fun _ _ _ h => h) (Or.inl ⟨by rfl, ?_⟩) ?_ ?_
    rotate_left
    · intro w'
      go_simp
      with_reducible rfl
    rotate_left
    · simp only [Act.put, List.setIfInBounds_toArray, List.set_cons_zero, List.set_cons_succ, i64_w, i32_w]
      rfl
    refine pure_ (i := 18) (N := some 44) (v := ?_) (a' := ?_) #[true, true, true, true, true, true, true, true, true, true, true, true, true, true, true, true, true, true, true, false] rfl rfl (by kernel_rfl) (fun _ _ _ h => h) (Or.inl ⟨by rfl, ?_⟩) ?_ ?_
    rotate_left
    · intro w'
      go_simp
      with_reducible rfl
    rotate_left
    · simp only [Act.put, List.setIfInBounds_toArray, List.set_cons_zero, List.set_cons_succ, i64_w, i32_w]
      rfl
    refine last_ (i := 19) (N := none) #[true, true, true, true, true, true, true, true, true, true, true, true, true, true, true, true, true, true, true, true] rfl rfl (by kernel_rfl) (by decide) (fun K hK => ?_)
    have g5 : (Go.ChangeMaps.setBlock (Go.ChangeMaps.setBlock w4 B o1) B o2).heap[g]? = some (.cells #[.int .i64 most, .map (some B), v1] 48 (0, 0)) := (sb_other HF.out.ne _).trans ((sb_other HF.out.ne _).trans g4)
    have hs20 := (blk_cell g5 2).trans rfl
    have hfs20 := blk_frozen g5 2
    refine skip_ (w1 := ?_) (by rfl) rfl ?_ ?_
    rotate_left
    · go_simp
      rfl
    refine hK.out _ _ ?_
    clear hK K
    refine done_ (by kernel_rfl) ?_
    go_wp2
    generalize hL : ks.filter (fun x => !keyIs k x) = L at *
    have hB4 : B < w4.heap.size := by have h9 : W3.heap.size ≤ w4.heap.size := hg4.size; have := n4_.out; omega
    have n7_ : Aside0 (((Go.ChangeMaps.setBlock (Go.ChangeMaps.setBlock w4 B o1) B o2).setCell ⟨g, 2, none⟩ (.slice A40 (L.length + 1) c40)).heap[g]? = some (.cells #[.int .i64 most, .map (some B), .slice A40 (L.length + 1) c40] 48 (0, 0))) := ⟨blk_put g5 2 _ rfl⟩
    have n8_ : Aside0 (MapAt ((Go.ChangeMaps.setBlock (Go.ChangeMaps.setBlock w4 B o1) B o2).setCell ⟨g, 2, none⟩ (.slice A40 (L.length + 1) c40)) B (n + 1) (updF f k (some x))) := ⟨map_far hm16 (Below.heap_setCell _ _ _ _ HF.out.ne.symm)⟩
    have n9_ : Aside0 (Kd.Q Kd.string 9 ((Go.ChangeMaps.setBlock (Go.ChangeMaps.setBlock w4 B o1) B o2).setCell ⟨g, 2, none⟩ (.slice A40 (L.length + 1) c40)) b0 (fun k_ => k_ ≠ g ∧ k_ ≠ B) (.slice A40 (L.length + 1) c40) (L ++ [k])) := ⟨by
      have e : (L ++ [k]).length = L.length + 1 := by simp
      rw [e] at hq4
      exact Kd.Q_move hq4 (fun j hj => (Below.heap_setCell _ _ _ _ hj.1).trans ((sb_other hj.2 _).trans (sb_other hj.2 _)))⟩
    have n10_ : Aside0 (Moved W ((Go.ChangeMaps.setBlock (Go.ChangeMaps.setBlock w4 B o1) B o2).setCell ⟨g, 2, none⟩ (.slice A40 (L.length + 1) c40)) g B (.slice (some ⟨blk, off, none⟩) ks.length cap) (.slice A40 (L.length + 1) c40)) := ⟨{
      os := hg4.os.trans n5_.out.os
      tape := hg4.tape.trans n5_.out.tape
      output := hg4.output.trans n5_.out.output
      size := by
        have h9 : W3.heap.size ≤ w4.heap.size := hg4.size
        have := n5_.out.size
        simp [Go.ChangeMaps.setBlock]
        omega
      far := fun j hj h1 h2 h3 => by
        have hv1 : some j ≠ v1.ownBlock := by
          rcases n5_.out.own with e | e | ⟨b, e, hb⟩
          · rw [e]; simp
          · rw [e]; exact h3
          · rw [e]; intro q; have := Option.some.inj q; omega
        exact (Below.heap_setCell _ _ _ _ h1).trans ((sb_other h2 _).trans ((sb_other h2 _).trans ((hg4.block j (by have := n4_.out; show j < W3.heap.size; omega) hv1).trans (n5_.out.far j hj h1 h2 h3))))
      own := by
        have e : (Value.slice A40 (L.length + 1) c40).ownBlock = (Value.slice A40 (L ++ [k]).length c40).ownBlock := by simp [Value.ownBlock]
        rw [e]
        rcases hat4 with q | ⟨b, q, hb⟩
        · rw [q]; exact n5_.out.own
        · exact .inr (.inr ⟨b, q, by have h9 : W3.heap.size ≤ b := hb; have := n4_.out; omega⟩) }⟩
    clear g5 hs20 hfs20 hm16 hn14 hr14 hr16 g4 k4 m4 hq4 hb4 hg4 hat4
    generalize hw5 : (Go.ChangeMaps.setBlock (Go.ChangeMaps.setBlock w4 B o1) B o2).setCell ⟨g, 2, none⟩ (.slice A40 (L.length + 1) c40) = W5 at *
    clear hw5 n0_ n1_ n2_ n3_ n4_ n5_ n6_
    have p0 : W5.cell? ⟨g, 0, none⟩ = some (.int .i64 most) := (blk_cell n7_.out 0).trans rfl
    have p1 : W5.cell? ⟨g, 1, none⟩ = some (.map (some B)) := (blk_cell n7_.out 1).trans rfl
    have p2 : W5.cell? ⟨g, 2, none⟩ = some (.slice A40 (L.length + 1) c40) := (blk_cell n7_.out 2).trans rfl
    have pf2 := blk_frozen n7_.out 2
    by_cases hcut : most < ((L.length + 1 : Nat) : Int)
    · have hcb : decide (most < (L.length : Int) + 1) = true := decide_eq_true (by omega)
      go_quiet (fail)
      go_wp2
      obtain ⟨blk1, off1, cap1, cur1, e1, hb1, ⟨hbg1, hbB1⟩, hh1, hc1, hm1, hs1, ht1⟩ := keys_open n9_.out (by simp)
      injection e1 with ea eb ec
      subst ea
      subst ec
      clear eb
      obtain ⟨K0, hK0⟩ : ∃ K0, K0 = (L ++ [k]).headD ⟨#[]⟩ := ⟨_, rfl⟩
      have p3 : W5.cell? ⟨blk1, off1, none⟩ = some (.string K0) := (blk_cell hh1 off1).trans (by
        have := ht1 0 (by simp)
        rw [Nat.add_zero] at this
        rw [this, hK0]
        cases L <;> rfl)
      have hk0 : K0.size ≤ maxLen := by
        rw [hK0, ← hL]
        cases hq : ks.filter (fun x => !keyIs k x) with
        | nil => exact hk
        | cons s0 r0 =>
          have : s0 ∈ ks.filter (fun x => !keyIs k x) := by rw [hq]; exact List.mem_cons_self
          exact HKL.out s0 (List.mem_filter.1 this).1
      have HK0 := Aside0.mk hk0
      have HKE := Aside0.mk hK0
      clear hk0 hK0
      have hd0 := fun ty => map_drop (map_far (w2 := W5.drewN (nq + 1)) n8_.out rfl) K0 HK0.out ty
      obtain ⟨o3, hr30, hm30⟩ := hd0 0
      clear hd0 hs1 ht1
      refine start_ (n := 11) (S := fun w' => w'.cell? ⟨g, 1, none⟩ = some (.map (some B)) ∧ w'.cell? ⟨g, 2, none⟩ = some (.slice (some ⟨blk1, off1, none⟩) (L.length + 1) c40) ∧ w'.cell? ⟨blk1, off1, none⟩ = some (.string K0)) (ds := [10]) #[false, false, false, false, false, false, false, false, false, false, false] (by kernel_rfl) rfl rfl ⟨p1, p2, p3⟩ (fun hHeld => ?_)
      refine pure_ (i := 0) (N := some 55) (v := ?_) (a' := ?_) #[true, false, false, false, false, false, false, false, false, false, false] rfl rfl (by kernel_rfl) (fun _ _ _ h => h) (Or.inl ⟨by rfl, ?_⟩) ?_ ?_
      rotate_left
      · intro w'
        go_simp
        with_reducible rfl
      rotate_left
      · simp only [Act.put, List.setIfInBounds_toArray, List.set_cons_zero, List.set_cons_succ, i64_w, i32_w]
        rfl
      refine pure_ (i := 1) (N := some 56) (v := ?_) (a' := ?_) #[true, true, false, false, false, false, false, false, false, false, false] rfl rfl (by kernel_rfl) (fun _ _ _ h => h) (Or.inl ⟨by rfl, ?_⟩) ?_ ?_
      rotate_left
      · intro w'
        go_simp
        with_reducible rfl
      rotate_left
      · simp only [Act.put, List.setIfInBounds_toArray, List.set_cons_zero, List.set_cons_succ, i64_w, i32_w]
        rfl
      refine pure_ (i := 2) (N := some 57) (v := ?_) (a' := ?_) #[true, true, true, false, false, false, false, false, false, false, false] rfl rfl (by kernel_rfl) (fun _ _ _ h => h) (Or.inl ⟨by rfl, ?_⟩) ?_ ?_
      rotate_left
      · intro w'
        go_simp
        with_reducible rfl
      rotate_left
      · simp only [Act.put, List.setIfInBounds_toArray, List.set_cons_zero, List.set_cons_succ, i64_w, i32_w]
        rfl
      refine pure_ (i := 4) (N := some 59) (v := ?_) (a' := ?_) #[true, true, true, false, true, false, false, false, false, false, false] rfl rfl (by kernel_rfl) (fun _ _ _ h => h) (Or.inl ⟨by rfl, ?_⟩) ?_ ?_
      rotate_left
      · intro w'
        go_simp
        with_reducible rfl
      rotate_left
      · simp only [Act.put, List.setIfInBounds_toArray, List.set_cons_zero, List.set_cons_succ, i64_w, i32_w]
        rfl
      refine pure_ (i := 5) (N := some 60) (v := ?_) (a' := ?_) #[true, true, true, false, true, true, false, false, false, false, false] rfl rfl (by kernel_rfl) (fun _ _ _ h => h) (Or.inl ⟨by rfl, ?_⟩) ?_ ?_
      rotate_left
      · intro w'
        go_simp
        with_reducible rfl
      rotate_left
      · simp only [Act.put, List.setIfInBounds_toArray, List.set_cons_zero, List.set_cons_succ, i64_w, i32_w]
        rfl
      refine pure_ (i := 6) (N := some 61) (v := ?_) (a' := ?_) #[true, true, true, false, true, true, true, false, false, false, false] rfl rfl (by kernel_rfl) (fun _ _ _ h => h) (Or.inl ⟨by rfl, ?_⟩) ?_ ?_
      rotate_left
      · intro w'
        go_simp
        with_reducible rfl
      rotate_left
      · simp only [Act.put, List.setIfInBounds_toArray, List.set_cons_zero, List.set_cons_succ, i64_w, i32_w]
        rfl
      refine take_ (i := 3) (N := some 58) (v := ?_) (a' := ?_) #[true, true, true, true, true, true, true, false, false, false, false] rfl rfl (by kernel_rfl) (fun _ _ _ h => h) (Or.inl ⟨by rfl, ?_⟩) hHeld ?_ ?_
      rotate_left
      · rintro w' ⟨s0, s1, s2⟩
        go_simp
        with_reducible rfl
      rotate_left
      · simp only [Act.put, List.setIfInBounds_toArray, List.set_cons_zero, List.set_cons_succ, i64_w, i32_w]
        rfl
      refine take_ (i := 7) (N := some 62) (v := ?_) (a' := ?_) #[true, true, true, true, true, true, true, true, false, false, false] rfl rfl (by kernel_rfl) (fun _ _ _ h => h) (Or.inl ⟨by rfl, ?_⟩) hHeld ?_ ?_
      rotate_left
      · rintro w' ⟨s0, s1, s2⟩
        go_simp
        with_reducible rfl
      rotate_left
      · simp only [Act.put, List.setIfInBounds_toArray, List.set_cons_zero, List.set_cons_succ, i64_w, i32_w]
        rfl
      refine pure_ (i := 8) (N := some 63) (v := ?_) (a' := ?_) #[true, true, true, true, true, true, true, true, true, false, false] rfl rfl (by kernel_rfl) (fun _ _ _ h => h) (Or.inl ⟨by rfl, ?_⟩) ?_ ?_
      rotate_left
      · intro w'
        go_simp
        with_reducible rfl
      rotate_left
      · simp only [Act.put, List.setIfInBounds_toArray, List.set_cons_zero, List.set_cons_succ, i64_w, i32_w]
        rfl
      refine take_ (i := 9) (N := some 64) (v := ?_) (a' := ?_) #[true, true, true, true, true, true, true, true, true, true, false] rfl rfl (by kernel_rfl) (fun _ _ _ h => h) (Or.inl ⟨by rfl, ?_⟩) hHeld ?_ ?_
      rotate_left
      · rintro w' ⟨s0, s1, s2⟩
        go_simp
        with_reducible rfl
      rotate_left
      · simp only [Act.put, List.setIfInBounds_toArray, List.set_cons_zero, List.set_cons_succ, i64_w, i32_w]
        rfl
      refine last_ (i := 10) (N := none) #[true, true, true, true, true, true, true, true, true, true, true] rfl rfl (by kernel_rfl) (by decide) (fun K hK => ?_)
      refine value_ (w1 := Go.ChangeMaps.setBlock (W5.drewN (nq + 1)) B o3) (v := .tuple #[]) (by rfl) rfl ?_ ?_
      · go_simp
      refine hK.out _ _ ?_
      clear hK K
      refine done_ (by kernel_rfl) ?_
      have g6 : (Go.ChangeMaps.setBlock (W5.drewN (nq + 1)) B o3).heap[g]? = some (.cells #[.int .i64 most, .map (some B), .slice (some ⟨blk1, off1, none⟩) (L.length + 1) c40] 48 (0, 0)) := (sb_other HF.out.ne _).trans n7_.out
      have b6 : ∀ j, j ≠ B → (Go.ChangeMaps.setBlock (W5.drewN (nq + 1)) B o3).heap[j]? = W5.heap[j]? := fun j hj => sb_other hj _
      have s6 : (Go.ChangeMaps.setBlock (W5.drewN (nq + 1)) B o3).os = W5.os ∧ (Go.ChangeMaps.setBlock (W5.drewN (nq + 1)) B o3).tape = W5.tape ∧ (Go.ChangeMaps.setBlock (W5.drewN (nq + 1)) B o3).output = W5.output ∧ (Go.ChangeMaps.setBlock (W5.drewN (nq + 1)) B o3).heap.size = W5.heap.size := ⟨rfl, rfl, rfl, by simp [Go.ChangeMaps.setBlock]⟩
      have M6 := Aside0.mk hm30
      have B6 := Aside0.mk b6
      have S6 := Aside0.mk s6
      clear hm30 hr30 b6 s6 p0 p1 p2 p3 pf2 hHeld
      generalize hw6 : Go.ChangeMaps.setBlock (W5.drewN (nq + 1)) B o3 = W6 at *
      clear hw6
      have q2 := (blk_cell g6 2).trans rfl
      have qf2 := blk_frozen g6 2
      have hcp : L.length + 1 ≤ c40 := by simpa using hc1
      have DQ := Aside0.mk (Kd.Q_drop (k := 1) n9_.out (by simp))
      have EK : cutK most (putK ks k) = (L ++ [k]).drop 1 := by unfold cutK putK; rw [hL, if_pos (by simpa using hcut)]
      have EF : putF most ks f k x = updF (updF f k (some x)) K0 none := by unfold putF putK; rw [hL, if_pos (by simpa using hcut), ← HKE.out]
      have FK := Aside0.mk EK
      have FF := Aside0.mk EF
      clear EK EF
      by_cases hc41 : c40 = 1
      · have hL0 : L.length = 0 := by omega
        have DQ1 := DQ.out
        rw [if_pos hc41, hc41] at DQ1
        have DQ2 := Aside0.mk DQ1
        clear DQ1 DQ hL0
        go_wp2
        first | go_end0 | (simp only [Exit.inBlock, Exit.then]; refine bodyPost_ret (results_none rfl _ _ _) rfl ?_) | refine bodyPost_ret (results_none rfl _ _ _) rfl ?_
        rw [FK.out, FF.out]
        exact ⟨rfl, _, feed_done HF.out.ne HF.out.base g6 M6.out B6.out S6.out DQ2.out n10_.out (by simp [Value.ownBlock])⟩
      · have DQ1 := DQ.out
        rw [if_neg hc41] at DQ1
        have DQ2 := Aside0.mk DQ1
        clear DQ1 DQ
        go_wp2
        first | go_end0 | (simp only [Exit.inBlock, Exit.then]; refine bodyPost_ret (results_none rfl _ _ _) rfl ?_) | refine bodyPost_ret (results_none rfl _ _ _) rfl ?_
        rw [FK.out, FF.out]
        exact ⟨rfl, _, feed_done HF.out.ne HF.out.base g6 M6.out B6.out S6.out DQ2.out n10_.out (by simp [Value.ownBlock, Addr.add])⟩
    · have hcb : decide (most < (L.length : Int) + 1) = false := decide_eq_false (by omega)
      go_quiet (fail)
      go_wp2
      first | go_end0 | (simp only [Exit.inBlock, Exit.then]; refine bodyPost_ret (results_none rfl _ _ _) rfl ?_) | refine bodyPost_ret (results_none rfl _ _ _) rfl ?_
      have EK : cutK most (putK ks k) = L ++ [k] := by unfold cutK putK; rw [hL, if_neg (by simpa using hcut)]
      have EF : putF most ks f k x = updF f k (some x) := by unfold putF putK; rw [hL, if_neg (by simpa using hcut)]
      rw [EK, EF]
      exact ⟨rfl, _, feed_stay nq HF.out.ne HF.out.base n7_.out n8_.out n9_.out n10_.out⟩
  | false =>
    go_wp2
    have n0_ : Aside0 ((W1.drewN nq).heap[g]? = some (.cells #[.int .i64 most, .map (some B), v] 48 (0, 0))) := ⟨by rw [← HW1.out]; exact blk_alloc HF.out.blk _⟩
    have n1_ : Aside0 (MapAt (W1.drewN nq) B n f) := ⟨map_far HF.out.map (by rw [← HW1.out]; exact Below.heap_alloc W _ B hBl)⟩
    have n2_ : Aside0 (Kd.Q Kd.string 9 (W1.drewN nq) b0 (fun k_ => k_ ≠ g ∧ k_ ≠ B) v (ks.filter (fun x => !keyIs k x))) := ⟨by rw [no_key k (by rw [HB.out]; decide), ← HW1.out]; exact Kd.Q_drewN (Kd.Q_alloc HF.out.keys _) _⟩
    have n3_ : Aside0 ((W1.drewN nq).heap[W.heap.size]? = some (.cells #[.string k] 9 (0, 0))) := ⟨by rw [← HW1.out]; exact blk_new W _⟩
    have n4_ : Aside0 ((W1.drewN nq).heap.size = W.heap.size + 1) := ⟨by rw [← HW1.out]; simp⟩
    have n5_ : Aside0 (Moved W (W1.drewN nq) g B v v) := ⟨{
      os := by rw [← HW1.out]; rfl
      tape := by rw [← HW1.out]; rfl
      output := by rw [← HW1.out]; rfl
      size := by have := n4_.out; omega
      far := fun j hj _ _ _ => by rw [← HW1.out]; exact Below.heap_alloc W _ j hj
      own := .inr (.inl rfl) }⟩
    clear hlook hc0 hc1 hc2 hck
    have n6_ : Aside0 (some W.heap.size ≠ v.ownBlock) := ⟨fun e => by have := Kd.Q_lt HF.out.keys _ e.symm; omega⟩
    generalize hw3 : W1.drewN nq = W3 at *
    have HLF : Aside0 ((ks.filter (fun x => !keyIs k x)).length ≤ 1000) := ⟨Nat.le_trans (List.length_filter_le _ _) hl⟩
    refine start_ (n := 20) (S := fun w' => w'.cell? ⟨g, 1, none⟩ = some (.map (some B)) ∧ w'.cell? ⟨g, 2, none⟩ = some v ∧ w'.cell? ⟨W.heap.size, 0, none⟩ = some (.string k)) (ds := [14, 16, 19]) #[false, false, false, false, false, false, false, false, false, false, false, false, false, false, false, false, false, false, false, false] (by kernel_rfl) rfl rfl ⟨(blk_cell (blk_drew n0_.out) 1).trans rfl, (blk_cell (blk_drew n0_.out) 2).trans rfl, (blk_cell (blk_drew n3_.out) 0).trans rfl⟩ (fun hHeld => ?_)
    refine pure_ (i := 0) (N := some 27) (v := ?_) (a' := ?_) #[true, false, false, false, false, false, false, false, false, false, false, false, false, false, false, false, false, false, false, false] rfl rfl (by kernel_rfl) (fun _ _ _ h => h) (Or.inl ⟨by rfl, ?_⟩) ?_ ?_
    rotate_left
    · intro w'
      go_simp
      with_reducible rfl
    rotate_left
    · simp only [Act.put, List.setIfInBounds_toArray, List.set_cons_zero, List.set_cons_succ, i64_w, i32_w]
      rfl
    refine pure_ (i := 1) (N := some 28) (v := ?_) (a' := ?_) #[true, true, false, false, false, false, false, false, false, false, false, false, false, false, false, false, false, false, false, false] rfl rfl (by kernel_rfl) (fun _ _ _ h => h) (Or.inl ⟨by rfl, ?_⟩) ?_ ?_
    rotate_left
    · intro w'
      go_simp
      with_reducible rfl
    rotate_left
    · simp only [Act.put, List.setIfInBounds_toArray, List.set_cons_zero, List.set_cons_succ, i64_w, i32_w]
      rfl
    refine pure_ (i := 2) (N := some 29) (v := ?_) (a' := ?_) #[true, true, true, false, false, false, false, false, false, false, false, false, false, false, false, false, false, false, false, false] rfl rfl (by kernel_rfl) (fun _ _ _ h => h) (Or.inl ⟨by rfl, ?_⟩) ?_ ?_
    rotate_left
    · intro w'
      go_simp
      with_reducible rfl
    rotate_left
    · simp only [Act.put, List.setIfInBounds_toArray, List.set_cons_zero, List.set_cons_succ, i64_w, i32_w]
      rfl
    refine pure_ (i := 5) (N := some 32) (v := ?_) (a' := ?_) #[true, true, true, false, false, true, false, false, false, false, false, false, false, false, false, false, false, false, false, false] rfl rfl (by kernel_rfl) (fun _ _ _ h => h) (Or.inl ⟨by rfl, ?_⟩) ?_ ?_
    rotate_left
    · intro w'
      go_simp
      with_reducible rfl
    rotate_left
    · simp only [Act.put, List.setIfInBounds_toArray, List.set_cons_zero, List.set_cons_succ, i64_w, i32_w]
      rfl
    refine pure_ (i := 6) (N := some 33) (v := ?_) (a' := ?_) #[true, true, true, false, false, true, true, false, false, false, false, false, false, false, false, false, false, false, false, false] rfl rfl (by kernel_rfl) (fun _ _ _ h => h) (Or.inl ⟨by rfl, ?_⟩) ?_ ?_
    rotate_left
    · intro w'
      go_simp
      with_reducible rfl
    rotate_left
    · simp only [Act.put, List.setIfInBounds_toArray, List.set_cons_zero, List.set_cons_succ, i64_w, i32_w]
      rfl
    refine pure_ (i := 7) (N := some 34) (v := ?_) (a' := ?_) #[true, true, true, false, false, true, true, true, false, false, false, false, false, false, false, false, false, false, false, false] rfl rfl (by kernel_rfl) (fun _ _ _ h => h) (Or.inl ⟨by rfl, ?_⟩) ?_ ?_
    rotate_left
    · intro w'
      go_simp
      with_reducible rfl
    rotate_left
    · simp only [Act.put, List.setIfInBounds_toArray, List.set_cons_zero, List.set_cons_succ, i64_w, i32_w]
      rfl
    refine pure_ (i := 8) (N := some 35) (v := ?_) (a' := ?_) #[true, true, true, false, false, true, true, true, true, false, false, false, false, false, false, false, false, false, false, false] rfl rfl (by kernel_rfl) (fun _ _ _ h => h) (Or.inl ⟨by rfl, ?_⟩) ?_ ?_
    rotate_left
    · intro w'
      go_simp
      with_reducible rfl
    rotate_left
    · simp only [Act.put, List.setIfInBounds_toArray, List.set_cons_zero, List.set_cons_succ, i64_w, i32_w]
      rfl
    refine pure_ (i := 9) (N := some 36) (v := ?_) (a' := ?_) #[true, true, true, false, false, true, true, true, true, true, false, false, false, false, false, false, false, false, false, false] rfl rfl (by kernel_rfl) (fun _ _ _ h => h) (Or.inl ⟨by rfl, ?_⟩) ?_ ?_
    rotate_left
    · intro w'
      go_simp
      with_reducible rfl
    rotate_left
    · simp only [Act.put, List.setIfInBounds_toArray, List.set_cons_zero, List.set_cons_succ, i64_w, i32_w]
      rfl
    refine take_ (i := 3) (N := some 30) (v := ?_) (a' := ?_) #[true, true, true, true, false, true, true, true, true, true, false, false, false, false, false, false, false, false, false, false] rfl rfl (by kernel_rfl) (fun _ _ _ h => h) (Or.inl ⟨by rfl, ?_⟩) hHeld ?_ ?_
    rotate_left
    · rintro w' ⟨s0, s1, s2⟩
      go_simp
      with_reducible rfl
    rotate_left
    · simp only [Act.put, List.setIfInBounds_toArray, List.set_cons_zero, List.set_cons_succ, i64_w, i32_w]
      rfl
    refine take_ (i := 4) (N := some 31) (v := ?_) (a' := ?_) #[true, true, true, true, true, true, true, true, true, true, false, false, false, false, false, false, false, false, false, false] rfl rfl (by kernel_rfl) (fun _ _ _ h => h) (Or.inl ⟨by rfl, ?_⟩) hHeld ?_ ?_
    rotate_left
    · rintro w' ⟨s0, s1, s2⟩
      go_simp
      with_reducible rfl
    rotate_left
    · simp only [Act.put, List.setIfInBounds_toArray, List.set_cons_zero, List.set_cons_succ, i64_w, i32_w]
      rfl
    refine take_ (i := 10) (N := some 37) (v := ?_) (a' := ?_) #[true, true, true, true, true, true, true, true, true, true, true, false, false, false, false, false, false, false, false, false] rfl rfl (by kernel_rfl) (fun _ _ _ h => h) (Or.inl ⟨by rfl, ?_⟩) hHeld ?_ ?_
    rotate_left
    · rintro w' ⟨s0, s1, s2⟩
      go_simp
      with_reducible rfl
    rotate_left
    · simp only [Act.put, List.setIfInBounds_toArray, List.set_cons_zero, List.set_cons_succ, i64_w, i32_w]
      rfl
    refine take_ (i := 11) (N := some 38) (v := ?_) (a' := ?_) #[true, true, true, true, true, true, true, true, true, true, true, true, false, false, false, false, false, false, false, false] rfl rfl (by kernel_rfl) (fun _ _ _ h => h) (Or.inl ⟨by rfl, ?_⟩) hHeld ?_ ?_
    rotate_left
    · rintro w' ⟨s0, s1, s2⟩
      go_simp
      with_reducible rfl
    rotate_left
    · simp only [Act.put, List.setIfInBounds_toArray, List.set_cons_zero, List.set_cons_succ, i64_w, i32_w]
      rfl
    refine one_ (i := 12) (N := some 39) #[true, true, true, true, true, true, true, true, true, true, true, true, true, false, false, false, false, false, false, false] rfl rfl (by kernel_rfl) (by decide) (fun K hK => ?_)
    refine value_ (w1 := ?_) (v := ?_) (by rfl) rfl ?_ ?_
    rotate_left 2
    · go_simp
      constructor
      · rfl
      · rfl
    refine hK.out _ _ ⟨cell_al hHeld.1, cell_al hHeld.2.1, cell_al hHeld.2.2⟩ (fun hHeld => ?_)
    clear hK K
    refine norm_ (a' := ?_) ?_ ?_
    rotate_left
    · show Act.put _ (some 39) _ = _
      simp only [Act.put, List.setIfInBounds_toArray, List.set_cons_zero, List.set_cons_succ, i64_w, i32_w]
      rfl
    refine one_ (i := 13) (N := some 40) #[true, true, true, true, true, true, true, true, true, true, true, true, true, true, false, false, false, false, false, false] rfl rfl (by kernel_rfl) (by decide) (fun K hK => ?_)
    refine Kd.Q_append_step Kd.string (w0 := W3.drew) b0 (by rfl) (.tmp 37) (.tmp 39) 42 9 (.string (⟨#[]⟩ : ByteArray)) 16 (by rfl) Try.underlying42 infoS rfl (by decide) (by decide) v (ks.filter (fun x => !keyIs k x)) k [.string k] (fun k_ => k_ ≠ g ∧ k_ ≠ B) (fun _ => False) (by rfl) (by rfl) ?aP (fun _ hk => hk.elim) ?aF (Kd.Q_drew n2_.out) (Below.refl _ _) ?aS ?aL ?_
    (case aP => exact rfl)
    (case aF => exact fun k_ hk_ => by have h9 : W3.heap.size ≤ k_ := hk_; have := n4_.out; omega)
    (case aS => show b0 ≤ W3.heap.size; have := n4_.out; have := HF.out.base; omega)
    (case aL => have := HLF.out; omega)
    intro v40 w4 hq4 hb4 hg4 hat4
    obtain ⟨A40, c40, e40, _⟩ := Kd.Q_slice hq4
    subst e40
    have g4 : w4.heap[g]? = some (.cells #[.int .i64 most, .map (some B), v] 48 (0, 0)) := (hg4.block g (by have := n4_.out; show g < W3.heap.size; omega) (Kd.Q_away n2_.out (fun _ hk => hk.1))).trans n0_.out
    have k4 : w4.heap[W.heap.size]? = some (.cells #[.string k] 9 (0, 0)) := (hg4.block W.heap.size (by have := n4_.out; show W.heap.size < W3.heap.size; omega) n6_.out).trans n3_.out
    have m4 : w4.heap[B]? = W3.heap[B]? := hg4.block B (by have := n4_.out; show B < W3.heap.size; omega) (Kd.Q_away n2_.out (fun _ hk => hk.2))
    refine hK.out _ _ ⟨(blk_cell g4 1).trans rfl, (blk_cell g4 2).trans rfl, (blk_cell k4 0).trans rfl⟩ (fun hHeld => ?_)
    clear hK K
    refine norm_ (a' := ?_) ?_ ?_
    rotate_left
    · show Act.put _ (some 40) _ = _
      simp only [Act.put, List.setIfInBounds_toArray, List.set_cons_zero, List.set_cons_succ, i64_w, i32_w]
      rfl
    refine last_ (i := 14) (N := some 41) #[true, true, true, true, true, true, true, true, true, true, true, true, true, true, true, false, false, false, false, false] rfl rfl (by kernel_rfl) (by decide) (fun K hK => ?_)
    obtain ⟨v0, st, o1, hr14, hn14⟩ := map_entry (map_far n1_.out m4) hn k hk
    refine value_ (w1 := Go.ChangeMaps.setBlock w4 B o1) (v := .tuple #[v0, .int .i64 (st : Int)]) (by rfl) rfl ?_ ?_
    · go_simp
    refine hK.out _ _ ?_
    clear hK K
    refine norm_ (a' := ?_) ?_ ?_
    rotate_left
    · show Act.put _ (some 41) _ = _
      simp only [Act.put, List.setIfInBounds_toArray, List.set_cons_zero, List.set_cons_succ, i64_w, i32_w]
      rfl
    refine pure_ (i := 15) (N := some 42) (v := ?_) (a' := ?_) #[true, true, true, true, true, true, true, true, true, true, true, true, true, true, true, true, false, false, false, false] rfl rfl (by kernel_rfl) (fun _ _ _ h => h) (Or.inl ⟨by rfl, ?_⟩) ?_ ?_
    rotate_left
    · intro w'
      go_simp
      with_reducible rfl
    rotate_left
    · simp only [Act.put, List.setIfInBounds_toArray, List.set_cons_zero, List.set_cons_succ, i64_w, i32_w]
      rfl
    refine last_ (i := 16) (N := none) #[true, true, true, true, true, true, true, true, true, true, true, true, true, true, true, true, true, false, false, false] rfl rfl (by kernel_rfl) (by decide) (fun K hK => ?_)
    obtain ⟨o2, hr16, hm16⟩ := hn14 (Go.ChangeMaps.setBlock w4 B o1) x hx (sb_same (by have := hg4.size; have := n4_.out; have h9 : W3.heap.size ≤ w4.heap.size := hg4.size; omega) o1)
    refine skip_ (w1 := Go.ChangeMaps.setBlock (Go.ChangeMaps.setBlock w4 B o1) B o2) (by rfl) rfl ?_ ?_
    · go_simp
    refine hK.out _ _ ?_
    clear hK K
    refine pure_ (i := 17) (N := some 43) (v := ?_) (a' := ?_) #[true, true, true, true, true, true, true, true, true, true, true, true, true, true, true, true, true, true, false, false] rfl rfl (by kernel_rfl) (fun _ _ _ h => h) (Or.inl ⟨by rfl, ?_⟩) ?_ ?_
    rotate_left
    · intro w'
      go_simp
      with_reducible rfl
    rotate_left
    · simp only [Act.put, List.setIfInBounds_toArray, List.set_cons_zero, List.set_cons_succ, i64_w, i32_w]
      rfl
    refine pure_ (i := 18) (N := some 44) (v := ?_) (a' := ?_) #[true, true, true, true, true, true, true, true, true, true, true, true, true, true, true, true, true, true, true, false] rfl rfl (by kernel_rfl) (fun _ _ _ h => h) (Or.inl ⟨by rfl, ?_⟩) ?_ ?_
    rotate_left
    · intro w'
      go_simp
      with_reducible rfl
    rotate_left
    · simp only [Act.put, List.setIfInBounds_toArray, List.set_cons_zero, List.set_cons_succ, i64_w, i32_w]
      rfl
    refine last_ (i := 19) (N := none) #[true, true, true, true, true, true, true, true, true, true, true, true, true, true, true, true, true, true, true, true] rfl rfl (by kernel_rfl) (by decide) (fun K hK => ?_)
    have g5 : (Go.ChangeMaps.setBlock (Go.ChangeMaps.setBlock w4 B o1) B o2).heap[g]? = some (.cells #[.int .i64 most, .map (some B), v] 48 (0, 0)) := (sb_other HF.out.ne _).trans ((sb_other HF.out.ne _).trans g4)
    have hs20 := (blk_cell g5 2).trans rfl
    have hfs20 := blk_frozen g5 2
    refine skip_ (w1 := ?_) (by rfl) rfl ?_ ?_
    rotate_left
    · go_simp
      rfl
    refine hK.out _ _ ?_
    clear hK K
    refine done_ (by kernel_rfl) ?_
    go_wp2
    generalize hL : ks.filter (fun x => !keyIs k x) = L at *
    have hB4 : B < w4.heap.size := by have h9 : W3.heap.size ≤ w4.heap.size := hg4.size; have := n4_.out; omega
    have n7_ : Aside0 (((Go.ChangeMaps.setBlock (Go.ChangeMaps.setBlock w4 B o1) B o2).setCell ⟨g, 2, none⟩ (.slice A40 (L.length + 1) c40)).heap[g]? = some (.cells #[.int .i64 most, .map (some B), .slice A40 (L.length + 1) c40] 48 (0, 0))) := ⟨blk_put g5 2 _ rfl⟩
    have n8_ : Aside0 (MapAt ((Go.ChangeMaps.setBlock (Go.ChangeMaps.setBlock w4 B o1) B o2).setCell ⟨g, 2, none⟩ (.slice A40 (L.length + 1) c40)) B (n + 1) (updF f k (some x))) := ⟨map_far hm16 (Below.heap_setCell _ _ _ _ HF.out.ne.symm)⟩
    have n9_ : Aside0 (Kd.Q Kd.string 9 ((Go.ChangeMaps.setBlock (Go.ChangeMaps.setBlock w4 B o1) B o2).setCell ⟨g, 2, none⟩ (.slice A40 (L.length + 1) c40)) b0 (fun k_ => k_ ≠ g ∧ k_ ≠ B) (.slice A40 (L.length + 1) c40) (L ++ [k])) := ⟨by
      have e : (L ++ [k]).length = L.length + 1 := by simp
      rw [e] at hq4
      exact Kd.Q_move hq4 (fun j hj => (Below.heap_setCell _ _ _ _ hj.1).trans ((sb_other hj.2 _).trans (sb_other hj.2 _)))⟩
    have n10_ : Aside0 (Moved W ((Go.ChangeMaps.setBlock (Go.ChangeMaps.setBlock w4 B o1) B o2).setCell ⟨g, 2, none⟩ (.slice A40 (L.length + 1) c40)) g B v (.slice A40 (L.length + 1) c40)) := ⟨{
      os := hg4.os.trans n5_.out.os
      tape := hg4.tape.trans n5_.out.tape
      output := hg4.output.trans n5_.out.output
      size := by
        have h9 : W3.heap.size ≤ w4.heap.size := hg4.size
        have := n5_.out.size
        simp [Go.ChangeMaps.setBlock]
        omega
      far := fun j hj h1 h2 h3 => by
        have hv1 : some j ≠ v.ownBlock := by
          rcases n5_.out.own with e | e | ⟨b, e, hb⟩
          · rw [e]; simp
          · rw [e]; exact h3
          · rw [e]; intro q; have := Option.some.inj q; omega
        exact (Below.heap_setCell _ _ _ _ h1).trans ((sb_other h2 _).trans ((sb_other h2 _).trans ((hg4.block j (by have := n4_.out; show j < W3.heap.size; omega) hv1).trans (n5_.out.far j hj h1 h2 h3))))
      own := by
        have e : (Value.slice A40 (L.length + 1) c40).ownBlock = (Value.slice A40 (L ++ [k]).length c40).ownBlock := by simp [Value.ownBlock]
        rw [e]
        rcases hat4 with q | ⟨b, q, hb⟩
        · rw [q]; exact n5_.out.own
        · exact .inr (.inr ⟨b, q, by have h9 : W3.heap.size ≤ b := hb; have := n4_.out; omega⟩) }⟩
    clear g5 hs20 hfs20 hm16 hn14 hr14 hr16 g4 k4 m4 hq4 hb4 hg4 hat4
    generalize hw5 : (Go.ChangeMaps.setBlock (Go.ChangeMaps.setBlock w4 B o1) B o2).setCell ⟨g, 2, none⟩ (.slice A40 (L.length + 1) c40) = W5 at *
    clear hw5 n0_ n1_ n2_ n3_ n4_ n5_ n6_
    have p0 : W5.cell? ⟨g, 0, none⟩ = some (.int .i64 most) := (blk_cell n7_.out 0).trans rfl
    have p1 : W5.cell? ⟨g, 1, none⟩ = some (.map (some B)) := (blk_cell n7_.out 1).trans rfl
    have p2 : W5.cell? ⟨g, 2, none⟩ = some (.slice A40 (L.length + 1) c40) := (blk_cell n7_.out 2).trans rfl
    have pf2 := blk_frozen n7_.out 2
    by_cases hcut : most < ((L.length + 1 : Nat) : Int)
    · have hcb : decide (most < (L.length : Int) + 1) = true := decide_eq_true (by omega)
      go_quiet (fail)
      go_wp2
      obtain ⟨blk1, off1, cap1, cur1, e1, hb1, ⟨hbg1, hbB1⟩, hh1, hc1, hm1, hs1, ht1⟩ := keys_open n9_.out (by simp)
      injection e1 with ea eb ec
      subst ea
      subst ec
      clear eb
      obtain ⟨K0, hK0⟩ : ∃ K0, K0 = (L ++ [k]).headD ⟨#[]⟩ := ⟨_, rfl⟩
      have p3 : W5.cell? ⟨blk1, off1, none⟩ = some (.string K0) := (blk_cell hh1 off1).trans (by
        have := ht1 0 (by simp)
        rw [Nat.add_zero] at this
        rw [this, hK0]
        cases L <;> rfl)
      have hk0 : K0.size ≤ maxLen := by
        rw [hK0, ← hL]
        cases hq : ks.filter (fun x => !keyIs k x) with
        | nil => exact hk
        | cons s0 r0 =>
          have : s0 ∈ ks.filter (fun x => !keyIs k x) := by rw [hq]; exact List.mem_cons_self
          exact HKL.out s0 (List.mem_filter.1 this).1
      have HK0 := Aside0.mk hk0
      have HKE := Aside0.mk hK0
      clear hk0 hK0
      have hd0 := fun ty => map_drop (map_far (w2 := W5.drewN (nq + 1)) n8_.out rfl) K0 HK0.out ty
      obtain ⟨o3, hr30, hm30⟩ := hd0 0
      clear hd0 hs1 ht1
      refine start_ (n := 11) (S := fun w' => w'.cell? ⟨g, 1, none⟩ = some (.map (some B)) ∧ w'.cell? ⟨g, 2, none⟩ = some (.slice (some ⟨blk1, off1, none⟩) (L.length + 1) c40) ∧ w'.cell? ⟨blk1, off1, none⟩ = some (.string K0)) (ds := [10]) #[false, false, false, false, false, false, false, false, false, false, false] (by kernel_rfl) rfl rfl ⟨p1, p2, p3⟩ (fun hHeld => ?_)
      refine pure_ (i := 0) (N := some 55) (v := ?_) (a' := ?_) #[true, false, false, false, false, false, false, false, false, false, false] rfl rfl (by kernel_rfl) (fun _ _ _ h => h) (Or.inl ⟨by rfl, ?_⟩) ?_ ?_
      rotate_left
      · intro w'
        go_simp
        with_reducible rfl
      rotate_left
      · simp only [Act.put, List.setIfInBounds_toArray, List.set_cons_zero, List.set_cons_succ, i64_w, i32_w]
        rfl
      refine pure_ (i := 1) (N := some 56) (v := ?_) (a' := ?_) #[true, true, false, false, false, false, false, false, false, false, false] rfl rfl (by kernel_rfl) (fun _ _ _ h => h) (Or.inl ⟨by rfl, ?_⟩) ?_ ?_
      rotate_left
      · intro w'
        go_simp
        with_reducible rfl
      rotate_left
      · simp only [Act.put, List.setIfInBounds_toArray, List.set_cons_zero, List.set_cons_succ, i64_w, i32_w]
        rfl
      refine pure_ (i := 2) (N := some 57) (v := ?_) (a' := ?_) #[true, true, true, false, false, false, false, false, false, false, false] rfl rfl (by kernel_rfl) (fun _ _ _ h => h) (Or.inl ⟨by rfl, ?_⟩) ?_ ?_
      rotate_left
      · intro w'
        go_simp
        with_reducible rfl
      rotate_left
      · simp only [Act.put, List.setIfInBounds_toArray, List.set_cons_zero, List.set_cons_succ, i64_w, i32_w]
        rfl
      refine pure_ (i := 4) (N := some 59) (v := ?_) (a' := ?_) #[true, true, true, false, true, false, false, false, false, false, false] rfl rfl (by kernel_rfl) (fun _ _ _ h => h) (Or.inl ⟨by rfl, ?_⟩) ?_ ?_
      rotate_left
      · intro w'
        go_simp
        with_reducible rfl
      rotate_left
      · simp only [Act.put, List.setIfInBounds_toArray, List.set_cons_zero, List.set_cons_succ, i64_w, i32_w]
        rfl
      refine pure_ (i := 5) (N := some 60) (v := ?_) (a' := ?_) #[true, true, true, false, true, true, false, false, false, false, false] rfl rfl (by kernel_rfl) (fun _ _ _ h => h) (Or.inl ⟨by rfl, ?_⟩) ?_ ?_
      rotate_left
      · intro w'
        go_simp
        with_reducible rfl
      rotate_left
      · simp only [Act.put, List.setIfInBounds_toArray, List.set_cons_zero, List.set_cons_succ, i64_w, i32_w]
        rfl
      refine pure_ (i := 6) (N := some 61) (v := ?_) (a' := ?_) #[true, true, true, false, true, true, true, false, false, false, false] rfl rfl (by kernel_rfl) (fun _ _ _ h => h) (Or.inl ⟨by rfl, ?_⟩) ?_ ?_
      rotate_left
      · intro w'
        go_simp
        with_reducible rfl
      rotate_left
      · simp only [Act.put, List.setIfInBounds_toArray, List.set_cons_zero, List.set_cons_succ, i64_w, i32_w]
        rfl
      refine take_ (i := 3) (N := some 58) (v := ?_) (a' := ?_) #[true, true, true, true, true, true, true, false, false, false, false] rfl rfl (by kernel_rfl) (fun _ _ _ h => h) (Or.inl ⟨by rfl, ?_⟩) hHeld ?_ ?_
      rotate_left
      · rintro w' ⟨s0, s1, s2⟩
        go_simp
        with_reducible rfl
      rotate_left
      · simp only [Act.put, List.setIfInBounds_toArray, List.set_cons_zero, List.set_cons_succ, i64_w, i32_w]
        rfl
      refine take_ (i := 7) (N := some 62) (v := ?_) (a' := ?_) #[true, true, true, true, true, true, true, true, false, false, false] rfl rfl (by kernel_rfl) (fun _ _ _ h => h) (Or.inl ⟨by rfl, ?_⟩) hHeld ?_ ?_
      rotate_left
      · rintro w' ⟨s0, s1, s2⟩
        go_simp
        with_reducible rfl
      rotate_left
      · simp only [Act.put, List.setIfInBounds_toArray, List.set_cons_zero, List.set_cons_succ, i64_w, i32_w]
        rfl
      refine pure_ (i := 8) (N := some 63) (v := ?_) (a' := ?_) #[true, true, true, true, true, true, true, true, true, false, false] rfl rfl (by kernel_rfl) (fun _ _ _ h => h) (Or.inl ⟨by rfl, ?_⟩) ?_ ?_
      rotate_left
      · intro w'
        go_simp
        with_reducible rfl
      rotate_left
      · simp only [Act.put, List.setIfInBounds_toArray, List.set_cons_zero, List.set_cons_succ, i64_w, i32_w]
        rfl
      refine take_ (i := 9) (N := some 64) (v := ?_) (a' := ?_) #[true, true, true, true, true, true, true, true, true, true, false] rfl rfl (by kernel_rfl) (fun _ _ _ h => h) (Or.inl ⟨by rfl, ?_⟩) hHeld ?_ ?_
      rotate_left
      · rintro w' ⟨s0, s1, s2⟩
        go_simp
        with_reducible rfl
      rotate_left
      · simp only [Act.put, List.setIfInBounds_toArray, List.set_cons_zero, List.set_cons_succ, i64_w, i32_w]
        rfl
      refine last_ (i := 10) (N := none) #[true, true, true, true, true, true, true, true, true, true, true] rfl rfl (by kernel_rfl) (by decide) (fun K hK => ?_)
      refine value_ (w1 := Go.ChangeMaps.setBlock (W5.drewN (nq + 1)) B o3) (v := .tuple #[]) (by rfl) rfl ?_ ?_
      · go_simp
      refine hK.out _ _ ?_
      clear hK K
      refine done_ (by kernel_rfl) ?_
      have g6 : (Go.ChangeMaps.setBlock (W5.drewN (nq + 1)) B o3).heap[g]? = some (.cells #[.int .i64 most, .map (some B), .slice (some ⟨blk1, off1, none⟩) (L.length + 1) c40] 48 (0, 0)) := (sb_other HF.out.ne _).trans n7_.out
      have b6 : ∀ j, j ≠ B → (Go.ChangeMaps.setBlock (W5.drewN (nq + 1)) B o3).heap[j]? = W5.heap[j]? := fun j hj => sb_other hj _
      have s6 : (Go.ChangeMaps.setBlock (W5.drewN (nq + 1)) B o3).os = W5.os ∧ (Go.ChangeMaps.setBlock (W5.drewN (nq + 1)) B o3).tape = W5.tape ∧ (Go.ChangeMaps.setBlock (W5.drewN (nq + 1)) B o3).output = W5.output ∧ (Go.ChangeMaps.setBlock (W5.drewN (nq + 1)) B o3).heap.size = W5.heap.size := ⟨rfl, rfl, rfl, by simp [Go.ChangeMaps.setBlock]⟩
      have M6 := Aside0.mk hm30
      have B6 := Aside0.mk b6
      have S6 := Aside0.mk s6
      clear hm30 hr30 b6 s6 p0 p1 p2 p3 pf2 hHeld
      generalize hw6 : Go.ChangeMaps.setBlock (W5.drewN (nq + 1)) B o3 = W6 at *
      clear hw6
      have q2 := (blk_cell g6 2).trans rfl
      have qf2 := blk_frozen g6 2
      have hcp : L.length + 1 ≤ c40 := by simpa using hc1
      have DQ := Aside0.mk (Kd.Q_drop (k := 1) n9_.out (by simp))
      have EK : cutK most (putK ks k) = (L ++ [k]).drop 1 := by unfold cutK putK; rw [hL, if_pos (by simpa using hcut)]
      have EF : putF most ks f k x = updF (updF f k (some x)) K0 none := by unfold putF putK; rw [hL, if_pos (by simpa using hcut), ← HKE.out]
      have FK := Aside0.mk EK
      have FF := Aside0.mk EF
      clear EK EF
      by_cases hc41 : c40 = 1
      · have hL0 : L.length = 0 := by omega
        have DQ1 := DQ.out
        rw [if_pos hc41, hc41] at DQ1
        have DQ2 := Aside0.mk DQ1
        clear DQ1 DQ hL0
        go_wp2
        first | go_end0 | (simp only [Exit.inBlock, Exit.then]; refine bodyPost_ret (results_none rfl _ _ _) rfl ?_) | refine bodyPost_ret (results_none rfl _ _ _) rfl ?_
        rw [FK.out, FF.out]
        exact ⟨rfl, _, feed_done HF.out.ne HF.out.base g6 M6.out B6.out S6.out DQ2.out n10_.out (by simp [Value.ownBlock])⟩
      · have DQ1 := DQ.out
        rw [if_neg hc41] at DQ1
        have DQ2 := Aside0.mk DQ1
        clear DQ1 DQ
        go_wp2
        first | go_end0 | (simp only [Exit.inBlock, Exit.then]; refine bodyPost_ret (results_none rfl _ _ _) rfl ?_) | refine bodyPost_ret (results_none rfl _ _ _) rfl ?_
        rw [FK.out, FF.out]
        exact ⟨rfl, _, feed_done HF.out.ne HF.out.base g6 M6.out B6.out S6.out DQ2.out n10_.out (by simp [Value.ownBlock, Addr.add])⟩
    · have hcb : decide (most < (L.length : Int) + 1) = false := decide_eq_false (by omega)
      go_quiet (fail)
      go_wp2
      first | go_end0 | (simp only [Exit.inBlock, Exit.then]; refine bodyPost_ret (results_none rfl _ _ _) rfl ?_) | refine bodyPost_ret (results_none rfl _ _ _) rfl ?_
      have EK : cutK most (putK ks k) = L ++ [k] := by unfold cutK putK; rw [hL, if_neg (by simpa using hcut)]
      have EF : putF most ks f k x = updF f k (some x) := by unfold putF putK; rw [hL, if_neg (by simpa using hcut)]
      rw [EK, EF]
      exact ⟨rfl, _, feed_stay nq HF.out.ne HF.out.base n7_.out n8_.out n9_.out n10_.out⟩

end Go.Proofs.Ytfppafpkppjmlaa.QFeedPlays
