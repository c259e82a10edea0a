import Derived.Test.YtpkhdljlhdomlaaIxG
/- Index: walks by hand; the conditions stand in each theorem. -/
namespace Go.Proofs.Ytpkhdljlhdomlaa.QIndexFinds
open Go.RowKit Go.Proofs.YtpkhdljlhdomlaaW.PrintWords Go.Proofs.YtpkhdljlhdomlaaW.PrintLast Go.Proofs.YtpkhdljlhdomlaaW.PrintMore
attribute [local go_sem] max2_int min2_int max_two min_two max_three min_three max_four min_four
set_option linter.unusedVariables false
set_option linter.unusedSimpArgs false
theorem srt_nil (L : List S24) (h : L.length = 0) : Srt L [] := ⟨by rw [h]; exact List.Perm.refl _, List.Pairwise.nil⟩
theorem Srt.len {L : List S24} {S : List Int} (h : Srt L S) : S.length = L.length := by rw [h.1.length_eq, places_len]
theorem Ix0.sorted {w w2 w' : World} {b0 g B n : Nat} {own : Nat → Tg} {vl vs : Value} {L : List S24} {S S' : List Int} {F : S24 → List Int} (hx : Ix0 w b0 g B n own vl vs L S F) (hb : Below w.heap.size w w2) (hR : kI.R 3 w' b0 (fun j => own j = .ps ∧ j < w.heap.size) vs S') (hg : w2.grownBy w' vs.ownBlock) :
    Ix0 w' b0 g B n own vl vs L S' F ∧ Kp w w' (fun j => own j = .ps) := by
  have hvs : ∀ j, vs.ownBlock = some j → own j = .ps := hx.rs.1
  have hk : Kp w w' (fun j => own j = .ps) := (Kp.below (T := fun j => own j = .ps) hb).trans (Kp.of_grown (T := fun j => own j = .ps) hg hvs) (fun _ _ h => h)
  refine ⟨⟨(hk.far g (blk_lt hx.blk) (fun h => by rw [hx.tg] at h; cases h)).trans hx.blk, ?_, Kd.R_mono hR (fun _ h => h.1), hx.bk.move (fun _ _ => rfl) (fun j hj hm => hk.far j hj (fun h => by rcases hm with hm | ⟨k, hm⟩ <;> (rw [hm] at h; cases h))), hx.tg, hx.lo, hx.low⟩, hk⟩
  have h5 : k24.R 24 w b0 (fun j => own j = .vs ∧ j < w.heap.size) vl L := Kd.R_mono (Kd.R_bound hx.rl) (fun j hj => ⟨hj.1, hj.2.2.1⟩)
  exact Kd.R_mono (Kd.R_step h5 (fun j hj hlt => hk.far j hlt (fun h => by rw [hj.1] at h; cases h))) (fun j hj => hj.1)
set_option maxRecDepth 8000 in
set_option maxHeartbeats 4000000 in
theorem by16 (w1 : World) (b0 g B m p : Nat) (own : Nat → Tg) (vl vs : Value) (L : List S24) (F : S24 → List Int) (hx : Ix0 w1 b0 g B m own vl vs L (places L.length) F) (hp : w1.heap[p]? = some (.cells #[.pointer (some ⟨g, 0, none⟩)] 27 (0, 0))) (hop : own p = .no) (hl : L.length ≤ 1000) :
    Calls Try.prog 16 #[vs, .func (.func 17) #[] #[.pointer (some ⟨p, 0, none⟩)], .func (.func 11) #[] #[]] w1 fun e w' => e = .returned (.tuple #[]) ∧ ∃ S, Srt L S ∧ Ix0 w' b0 g B m own vl vs L S F ∧ Kp w1 w' (fun j => own j = .ps) := by
  have hb2 : Below w1.heap.size w1 ((w1.alloc (.cells #[.func (.func 17) #[] #[.pointer (some ⟨p, 0, none⟩)]] 40)).alloc (.cells #[.func (.func 11) #[] #[]] 36)) := below_alloc (below_alloc (Below.refl _ _) _) _
  have hsz : (w1.alloc (.cells #[.func (.func 17) #[] #[.pointer (some ⟨p, 0, none⟩)]] 40)).heap.size = w1.heap.size + 1 := by simp
  have hM : Aside0 (Calls Try.prog 25 #[vs, .func (.func 26) #[] #[.pointer (some ⟨w1.heap.size + 1, 0, none⟩), .pointer (some ⟨w1.heap.size, 0, none⟩)]] ((w1.alloc (.cells #[.func (.func 17) #[] #[.pointer (some ⟨p, 0, none⟩)]] 40)).alloc (.cells #[.func (.func 11) #[] #[]] 36)) fun e w' => e = .returned (.tuple #[]) ∧ ∃ S, Srt L S ∧ Ix0 w' b0 g B m own vl vs L S F ∧ Kp w1 w' (fun j => own j = .ps)) := ⟨by
    have hRs : kI.R 3 w1 b0 (fun j => own j = .ps ∧ j < w1.heap.size) vs (places L.length) := Kd.R_mono (Kd.R_bound hx.rs) (fun j hj => ⟨hj.1, hj.2.2.1⟩)
    by_cases h0 : L.length = 0
    · obtain ⟨A, c, e⟩ := Kd.R_slice hx.rs
      have hpl : (places L.length).length = 0 := by rw [places_len, h0]
      rw [hpl] at e
      subst e
      refine (ssf_zero A c _ _).mono ?_
      rintro e w' ⟨rfl, rfl⟩
      have hR0 : kI.R 3 ((w1.alloc (.cells #[.func (.func 17) #[] #[.pointer (some ⟨p, 0, none⟩)]] 40)).alloc (.cells #[.func (.func 11) #[] #[]] 36)) b0 (fun j => own j = .ps ∧ j < w1.heap.size) (.slice A 0 c) [] := by
        have : places L.length = [] := List.eq_nil_of_length_eq_zero hpl
        rw [this] at hRs
        exact Kd.R_below hRs hb2
      exact ⟨rfl, [], srt_nil L h0, (hx.sorted hb2 hR0 ⟨rfl, rfl, rfl, Nat.le_refl _, fun _ _ _ => rfl⟩)⟩
    · obtain ⟨gl, cap, e, hgl⟩ := Kd.R_form hx.rl (by omega)
      subst e
      have hCl : k24.C w1 (some ⟨gl, 0, none⟩) L.length L := (Kd.R_reads' hx.rl).2.2
      have hogl : own gl = .vs := hx.rl.1 gl rfl
      refine (ssf_ints _ b0 (fun j => own j = .ps ∧ j < w1.heap.size) vs w1.heap.size (w1.heap.size + 1) p g ⟨gl, 0, none⟩ L.length cap vs (.map (some B)) L (by omega) (by omega) ⟨?_, ?_, (hb2.block p (blk_lt hp)).trans hp, (hb2.block g (blk_lt hx.blk)).trans hx.blk, Kd.C_below hCl hb2⟩ (Kd.R_below hRs hb2) (fun h => by omega) (fun h => by omega) (fun h => by rw [hop] at h; cases h.1) (fun h => by rw [hx.tg] at h; cases h.1) (fun h => by rw [show own gl = .vs from hogl] at h; cases h.1) rfl).mono ?_
      · have := blk_new (w1.alloc (.cells #[.func (.func 17) #[] #[.pointer (some ⟨p, 0, none⟩)]] 40)) (.cells #[.func (.func 11) #[] #[]] 36)
        rw [hsz] at this
        exact this
      · exact (Below.heap_alloc _ _ _ (by rw [hsz]; omega)).trans (blk_new w1 _)
      rintro e w' ⟨rfl, S, h6, h7, h8⟩
      exact ⟨rfl, S, h6, hx.sorted hb2 h7 h8⟩⟩
  clear hx hp hop hb2
  go_enter Try.func16, Try.ntmps16
  go_wp2_with (go_at_call 25; refine hM.out.mono ?_; rintro e w9 ⟨rfl, h9⟩; have H9 := Aside0.mk h9; clear h9 hM)
  first | go_end0 | (simp only [Exit.inBlock, Exit.then]; refine bodyPost_ret (results_none rfl _ _ _) rfl ?_) | refine bodyPost_ret (results_none rfl _ _ _) rfl ?_
  exact ⟨rfl, H9.out⟩
/- An index of L. -/
structure Ix (w : World) (b0 g : Nat) (L : List S24) : Prop where
  out : ∃ B n own vl vs S, Ix0 w b0 g B n own vl vs L S (bkt L) ∧ Srt L S
  len : L.length ≤ 1000
  ok : ∀ x ∈ L, okS x
theorem Ix.below {w w' : World} {b0 g : Nat} {L : List S24} (h : Ix w b0 g L) (hb : Below w.heap.size w w') : Ix w' b0 g L := by
  obtain ⟨⟨B, n, own, vl, vs, S, h1, h2⟩, h3, h4⟩ := h
  exact ⟨⟨B, n, own, vl, vs, S, ⟨(hb.block g (blk_lt h1.blk)).trans h1.blk, Kd.R_below h1.rl hb, Kd.R_below h1.rs hb, h1.bk.move (fun _ _ => rfl) (fun j hj _ => hb.block j hj), h1.tg, h1.lo, h1.low⟩, h2⟩, h3, h4⟩

end Go.Proofs.Ytpkhdljlhdomlaa.QIndexFinds
