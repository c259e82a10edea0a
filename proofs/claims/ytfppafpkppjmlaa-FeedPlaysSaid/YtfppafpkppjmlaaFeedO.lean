import Derived.Test.YtfppafpkppjmlaaFeedN
/- Feed: walks of the feed's functions, by hand; the conditions stand in each theorem. -/
namespace Go.Proofs.Ytfppafpkppjmlaa.QFeedPlays
open Go.RowKit Go.Proofs.YtfppafpkppjmlaaW.PrintWords Go.Proofs.YtfppafpkppjmlaaW.PrintLast Go.Proofs.YtfppafpkppjmlaaW.PrintMore
attribute [local go_sem] max2_int min2_int max_two min_two max_three min_three max_four min_four
set_option linter.unusedVariables false
set_option linter.unusedSimpArgs false
/- The document's own feed in memory. -/
def RefAt (w : World) (own : Nat → Prop) (g : Nat) (most : Int) (L : List S35) : Prop :=
  ∃ A c, w.heap[g]? = some (.cells #[.int .i64 most, .slice A L.length c] 39 (0, 0)) ∧ own g ∧ L.length ≤ c ∧ Kd.Q k35 35 w 0 (fun j => own j ∧ j ≠ g) (.slice A L.length c) L
theorem RefAt.far {w w1 : World} {own own1 : Nat → Prop} {g : Nat} {most : Int} {L : List S35} (h : RefAt w own g most L) (ho : ∀ j, own j → own1 j) (hf : ∀ j, own j → j < w.heap.size → w1.heap[j]? = w.heap[j]?) : RefAt w1 own1 g most L := by
  obtain ⟨A, c, h1, h2, h3, h4⟩ := h
  exact ⟨A, c, (hf g h2 (blk_lt h1)).trans h1, ho _ h2, h3, Kd.Q_mono (Kd.Q_step h4 (fun k hk hlt => hf k hk.1 hlt)) (fun k hk => ⟨ho _ hk.1, hk.2⟩)⟩
theorem RefAt.bound {w : World} {own : Nat → Prop} {g : Nat} {most : Int} {L : List S35} (h : RefAt w own g most L) : RefAt w (fun j => own j ∧ j < w.heap.size) g most L := by
  obtain ⟨A, c, h1, h2, h3, h4⟩ := h
  exact ⟨A, c, h1, ⟨h2, blk_lt h1⟩, h3, Kd.Q_mono (Kd.Q_bound h4) (fun k hk => ⟨⟨hk.1.1, hk.2.2.1⟩, hk.1.2⟩)⟩
theorem ref_New (W : World) (c : Int) :
    Calls Try.prog 13 #[.int .i64 c] W fun e w' => ∃ g : Nat, e = .returned (.pointer (some ⟨g, 0, none⟩)) ∧ RefAt w' (fun j => W.heap.size ≤ j) g (capN c) [] ∧ Below W.heap.size W w' := by
  obtain ⟨j1, hj1⟩ : ∃ j_ : Int, (mx c 0) = j_ := ⟨_, rfl⟩
  have hj1_ : (if c < 0 then 0 else c) = j1 := hj1
  have hj2_ : (if 50 < j1 then 50 else j1) = (capN c : Int) := by rw [← cap_eq, hj1]; rfl
  generalize capN c = cn at *
  clear hj1
  go_enter Try.func13, Try.ntmps13
  go_wp2_with (first | ((with_reducible refine gate_dst (N := 7) rfl ?_); refine box_event ?hg (N := 7) ?hd (cs := #[.int .i64 cn, .slice none 0 0]) (t := 39) ?hr ?_; (case hd => rfl); (case hg => rfl); (case hr => first | (go_simp; done) | (go_simp; rfl)); intro g hg w4 hbox hb; have BK := Aside0.mk hbox; have HG := Aside0.mk hg; have HB := Aside0.mk hb; clear hbox hg hb))
  go_ret
  have hg := HG.out
  exact ⟨g, rfl, ⟨none, 0, BK.out, Nat.le_of_eq hg.symm, Nat.le_refl _, Kd.Q_nil _ _ _ _ _⟩, HB.out⟩
theorem find_take {l : List S35} {p : S35 → Bool} (m : Nat) (hm : m < l.length) (h : (l.take m).find? p = none) : (p l[m] = true → l.find? p = some l[m]) ∧ (p l[m] = false → (l.take (m + 1)).find? p = none) := by
  constructor
  · intro hp
    have e : l.find? p = ((l.take m).find? p).or ((l.drop m).find? p) := by rw [← List.find?_append, List.take_append_drop]
    rw [e, h, List.drop_eq_getElem_cons hm, List.find?_cons, hp]
    rfl
  · intro hp
    rw [List.take_succ_eq_append_getElem hm, List.find?_append, h]
    simp [hp]
set_option maxHeartbeats 4000000 in
theorem ref_Get (W : World) (own : Nat → Prop) (g : Nat) (most : Int) (L : List S35) (k : ByteArray) (h : RefAt W own g most L) (hl : L.length ≤ 1000) :
    Calls Try.prog 17 #[.pointer (some ⟨g, 0, none⟩), .string k] W fun e w' => e = .returned (.tuple #[.int .i64 ((lookL L k).getD 0), .bool (lookL L k).isSome]) ∧ w' = W := by
  obtain ⟨A, c, h1, h2, h3, h4⟩ := h
  have HQ := Aside0.mk (Kd.Q_reads' h4).2.2
  have hc1 : W.cell? ⟨g, 1, none⟩ = some (.slice A L.length c) := (blk_cell h1 1).trans rfl
  clear h1 h2 h4
  go_enter Try.func17, Try.ntmps17
  go_wp2
  go_loopw [6] (fun i wr => ∃ m : Nat, m ≤ L.length ∧ i = .int .i64 m ∧ Aside0 ((L.take m).find? (fun p => keyIs k p.f0) = none) ∧ wr = W) (fun i _ => L.length - (intOf i).toNat)
  case atStart => exact ⟨0, Nat.zero_le _, rfl, ⟨rfl⟩, rfl⟩
  case round =>
    obtain ⟨m, hm, rfl, HA, rfl⟩ := hrel
    by_cases hlt : m < L.length
    · obtain ⟨ad, e, hx0, hx1⟩ := at_35 HQ.out m hlt
      cases e
      have HF := Aside0.mk (find_take m hlt HA.out)
      generalize L[m] = p at *
      cases hk : keyIs k p.f0 with
      | true =>
        have hb2 : (p.f0.toList == k.toList) = true := hk
        have HL : Aside0 (lookL L k = some p.f1) := ⟨by unfold lookL; rw [HF.out.1 hk]; rfl⟩
        clear hk
        go_wp2
        refine bodyPost_ret (v := .tuple #[.int .i64 p.f1, .bool true]) (by simp [results, Try.results17, go_sem]) rfl ?_
        rw [HL.out]
        exact ⟨rfl, rfl⟩
      | false =>
        have hb2 : (p.f0.toList == k.toList) = false := hk
        have HN := Aside0.mk (HF.out.2 hk)
        clear hk
        go_wp2
        go_roundw
        case rel => exact ⟨m + 1, by omega, by go_num, HN, trivial⟩
        case measure => simp [intOf]; omega
    · have HA2 := HA.out
      rw [show m = L.length by omega, List.take_length] at HA2
      have HL : Aside0 (lookL L k = none) := ⟨by unfold lookL; rw [HA2]; rfl⟩
      clear HA2
      go_wp2
      refine bodyPost_ret (v := .tuple #[.int .i64 0, .bool false]) (by simp [results, Try.results17, go_sem]) rfl ?_
      rw [HL.out]
      exact ⟨rfl, rfl⟩

end Go.Proofs.Ytfppafpkppjmlaa.QFeedPlays
