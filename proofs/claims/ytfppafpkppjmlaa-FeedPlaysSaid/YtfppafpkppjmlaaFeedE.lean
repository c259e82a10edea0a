import Derived.Test.YtfppafpkppjmlaaFeedD
/- Feed: walks of the feed's functions, by hand; the conditions stand in each theorem. -/
namespace Go.Proofs.Ytfppafpkppjmlaa.QFeedPlays
open Go.RowKit Go.Proofs.YtfppafpkppjmlaaW.PrintWords Go.Proofs.YtfppafpkppjmlaaW.PrintLast Go.Proofs.YtfppafpkppjmlaaW.PrintMore
attribute [local go_sem] max2_int min2_int max_two min_two max_three min_three max_four min_four
set_option linter.unusedVariables false
set_option linter.unusedSimpArgs false
theorem feed_New (W : World) (c : Int) :
    Calls Try.prog 8 #[.int .i64 c] W fun e w' => ∃ g : Nat, e = .returned (.pointer (some ⟨g, 0, none⟩)) ∧ Fd w' (fun j => W.heap.size ≤ j) g (mn (mx c 0) 50) 0 [] ∧ Below W.heap.size W w' := by
  have hr : 0 ≤ mn (mx c 0) 50 ∧ mn (mx c 0) 50 ≤ 50 := by unfold mn mx; omega
  obtain ⟨j1, hj1⟩ : ∃ j_ : Int, (mx c 0) = j_ := ⟨_, rfl⟩
  rw [hj1] at hr ⊢
  have hj1_ : (if c < 0 then 0 else c) = j1 := hj1
  obtain ⟨j2, hj2⟩ : ∃ j_ : Int, (mn j1 50) = j_ := ⟨_, rfl⟩
  rw [hj2] at hr ⊢
  have hj2_ : (if 50 < j1 then 50 else j1) = j2 := hj2
  have HM : Aside0 (0 ≤ j2 ∧ j2 ≤ 50) := ⟨hr⟩
  clear hr
  have hmk : (Instr.makeMap 44 none).run Try.prog W = .ok (.map (some W.heap.size)) (W.alloc (.map #[] 0)) := rfl
  go_enter Try.func8, Try.ntmps8
  go_wp2_with (first | ((with_reducible refine gate_dst (N := 9) rfl ?_); refine box_event ?hg (N := 9) ?hd (cs := #[.int .i64 j2, .map (some W.heap.size), .slice none 0 0]) (t := 48) ?hr ?_; (case hd => rfl); (case hg => rfl); (case hr => first | (go_simp; done) | (go_simp; rfl)); intro g hg w4 hbox hb; have BK := Aside0.mk hbox; have HG := Aside0.mk hg; have HB := Aside0.mk hb; clear hbox hg hb))
  go_ret
  have hs : (W.alloc (.map #[] 0)).heap.size = W.heap.size + 1 := by simp
  have hg := HG.out
  have hb2 : Below W.heap.size W w4 := (below_alloc (Below.refl W.heap.size W) (.map #[] 0)).trans (HB.out.mono (by omega))
  refine ⟨g, rfl, ⟨⟨W.heap.size, .slice none 0 0, fun _ => none, ⟨BK.out, map_far (map_new W) (HB.out.block _ (by omega)), Kd.Q_nil _ _ _ _ _, by omega, by omega⟩, by omega, Nat.le_refl _, fun b hb => by simp [Value.ownBlock] at hb, fun s => rfl⟩, by simp [keysOf], by simp [keysOf], HM.out.1, HM.out.2, by have := HM.out.1; simpa using this, by simp⟩, hb2⟩
theorem feed_Get (W : World) (own : Nat → Prop) (g : Nat) (most : Int) (n : Nat) (L : List S35) (k : ByteArray) (h : Fd W own g most n L) (hk : k.size ≤ maxLen) :
    Calls Try.prog 16 #[.pointer (some ⟨g, 0, none⟩), .string k] W fun e w' => e = .returned (.tuple #[.int .i64 ((lookL L k).getD 0), .bool (lookL L k).isSome]) ∧ w' = W := by
  obtain ⟨⟨B, v, f, h1, h2, h3, h4, h5⟩, -⟩ := h
  have hc1 : W.cell? ⟨g, 1, none⟩ = some (.map (some B)) := (blk_cell h1.blk 1).trans rfl
  have hl := map_ok h1.map k hk
  rw [h5 k] at hl
  clear h1 h5
  go_enter Try.func16, Try.ntmps16
  go_wp2
  refine bodyPost_ret (v := .tuple #[.int .i64 ((lookL L k).getD 0), .bool (lookL L k).isSome]) (by simp [results, Try.results16, go_sem]) rfl ?_
  exact ⟨rfl, rfl⟩
theorem feed_Len (W : World) (own : Nat → Prop) (g : Nat) (most : Int) (n : Nat) (L : List S35) (h : Fd W own g most n L) :
    Calls Try.prog 12 #[.pointer (some ⟨g, 0, none⟩)] W fun e w' => e = .returned (.int .i64 (L.length : Int)) ∧ w' = W := by
  obtain ⟨⟨B, v, f, h1, h2, h3, h4, h5⟩, -⟩ := h
  obtain ⟨A, c, e, _⟩ := Kd.Q_slice h1.keys
  have hc2 : W.cell? ⟨g, 2, none⟩ = some v := (blk_cell h1.blk 2).trans rfl
  have he : (keysOf L).length = L.length := by simp [keysOf]
  rw [he] at e
  subst e
  clear h1 h5
  go_enter Try.func12, Try.ntmps12
  go_wp2
  go_ret
  exact ⟨rfl, rfl⟩
theorem Fd.bound {w : World} {own : Nat → Prop} {g : Nat} {most : Int} {n : Nat} {L : List S35} (h : Fd w own g most n L) : Fd w (fun j => own j ∧ j < w.heap.size) g most n L := by
  obtain ⟨⟨B, v, f, h1, h2, h3, h4, h5⟩, h6⟩ := h
  exact ⟨⟨B, v, f, h1, ⟨h2, blk_lt h1.blk⟩, ⟨h3, h1.ltB⟩, fun b hb => ⟨h4 b hb, Kd.Q_lt h1.keys _ hb⟩, h5⟩, h6⟩
theorem Upd.below {own : Nat → Prop} {w w1 : World} (h : Upd own w w1) {b : Nat} (hb : b ≤ w.heap.size) (ho : ∀ j, own j → b ≤ j) : Below b w w1 := ⟨h.os, h.tape, h.output, h.size, fun j hj => h.far j (by omega) (fun hq => by have := ho j hq; omega)⟩
theorem Upd.of_below {own : Nat → Prop} {w w1 : World} (h : Below w.heap.size w w1) : Upd own w w1 := ⟨h.os, h.tape, h.output, h.size, fun j hj _ => h.block j hj⟩
theorem Upd.refl (own : Nat → Prop) (w : World) : Upd own w w := ⟨rfl, rfl, rfl, Nat.le_refl _, fun _ _ _ => rfl⟩
theorem Upd.trans {own own1 : Nat → Prop} {w w1 w2 : World} (h : Upd own w w1) (h2 : Upd own1 w1 w2) (ho : ∀ j, j < w.heap.size → own1 j → own j) : Upd own w w2 := ⟨h2.os.trans h.os, h2.tape.trans h.tape, h2.output.trans h.output, Nat.le_trans h.size h2.size, fun j hj hn => (h2.far j (by have := h.size; omega) (fun hq => hn (ho j hj hq))).trans (h.far j hj hn)⟩
def putsL (most : Int) (L : List S35) (l : List S35) : List S35 := l.foldl (fun L p => putL most L p.f0 (clipV p.f1)) L

end Go.Proofs.Ytfppafpkppjmlaa.QFeedPlays
