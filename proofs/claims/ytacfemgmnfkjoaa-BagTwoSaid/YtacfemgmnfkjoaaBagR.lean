import Derived.Test.YtacfemgmnfkjoaaBagP
/- Bag: walks of the bag's functions, by hand; the conditions stand in each theorem. -/
namespace Go.Proofs.Ytacfemgmnfkjoaa.QBag
open Go.RowKit Go.Proofs.YtacfemgmnfkjoaaW.PrintWords Go.Proofs.YtacfemgmnfkjoaaW.PrintLast Go.Proofs.YtacfemgmnfkjoaaW.PrintMore
attribute [local go_sem] max2_int min2_int max_two min_two max_three min_three max_four min_four
set_option linter.unusedVariables false
set_option linter.unusedSimpArgs false
/- The document's own bag in memory: a list. -/
def RefB (w : World) (own : Nat → Prop) (g : Nat) (L : List ByteArray) : Prop :=
  ∃ A c, w.heap[g]? = some (.cells #[.slice A L.length c] 50 (0, 0)) ∧ own g ∧ L.length ≤ c ∧ Kd.R Kd.string 9 w 0 (fun j => own j ∧ j ≠ g) (.slice A L.length c) L ∧ ∀ s ∈ L, s.size ≤ maxLen
theorem RefB.far {w w1 : World} {own own1 : Nat → Prop} {g : Nat} {L : List ByteArray} (h : RefB w own g L) (ho : ∀ j, own j → own1 j) (hf : ∀ j, own j → j < w.heap.size → w1.heap[j]? = w.heap[j]?) : RefB w1 own1 g L := by
  obtain ⟨A, c, h1, h2, h3, h4, h5⟩ := h
  exact ⟨A, c, (hf g h2 (blk_lt h1)).trans h1, ho _ h2, h3, Kd.R_mono (Kd.R_step h4 (fun k hk hlt => hf k hk.1 hlt)) (fun k hk => ⟨ho _ hk.1, hk.2⟩), h5⟩
theorem RefB.bound {w : World} {own : Nat → Prop} {g : Nat} {L : List ByteArray} (h : RefB w own g L) : RefB w (fun j => own j ∧ j < w.heap.size) g L := by
  obtain ⟨A, c, h1, h2, h3, h4, h5⟩ := h
  exact ⟨A, c, h1, ⟨h2, blk_lt h1⟩, h3, Kd.R_mono (Kd.R_bound h4) (fun k hk => ⟨⟨hk.1.1, hk.2.2.1⟩, hk.1.2⟩), h5⟩
theorem RefB.on {w w1 : World} {own : Nat → Prop} {g : Nat} {L : List ByteArray} (h : RefB w own g L) (hb : Below w.heap.size w w1) : RefB w1 own g L := h.far (fun _ h => h) (fun j _ hlt => hb.block j hlt)
theorem RefB.by {w w1 : World} {own own2 : Nat → Prop} {g : Nat} {L : List ByteArray} (h : RefB w own g L) (hu : Upd own2 w w1) (ho : ∀ j, own j → j < w.heap.size → ¬ own2 j) : RefB w1 own g L := h.far (fun _ h => h) (fun j hj hlt => hu.far j hlt (ho j hj hlt))
def SortedB (L : List ByteArray) : Prop := L.Pairwise (fun a b => ¬ ltB b a)
theorem ltB_total (a b : ByteArray) : ltB a b ∨ a = b ∨ ltB b a := by
  by_cases h1 : ltB a b
  · exact .inl h1
  · by_cases h2 : ltB b a
    · exact .inr (.inr h2)
    · exact .inr (.inl (ba_eq.1 (List.le_antisymm (show a.data.toList ≤ b.data.toList from h2) (show b.data.toList ≤ a.data.toList from h1))))
theorem leS_eq (a b : ByteArray) : (Op.bytesLess a.toList b.toList || a.toList == b.toList) = !decide (ltB b a) := by
  rw [ltS, eqS]
  by_cases h : ltB b a
  · rw [decide_eq_true h, decide_eq_false (fun h2 => ltB_irrefl _ (ltB_trans h h2)), decide_eq_false (fun e => ltB_irrefl _ (e ▸ h))]
    rfl
  · rw [decide_eq_false h]
    rcases ltB_total a b with h2 | h2 | h2
    · rw [decide_eq_true h2]; rfl
    · rw [decide_eq_true h2, Bool.or_true]; rfl
    · exact absurd h2 h
theorem ins_sorted {L : List ByteArray} {s : ByteArray} {m : Nat} (hL : SortedB L) (h1 : ∀ x ∈ L.take m, ¬ ltB s x) (h2 : ∀ (h : m < L.length), ltB s L[m]) : SortedB (L.take m ++ [s] ++ L.drop m) := by
  have hsp : L = L.take m ++ L.drop m := (List.take_append_drop m L).symm
  unfold SortedB at hL ⊢
  rw [hsp, List.pairwise_append] at hL
  obtain ⟨p1, p2, p3⟩ := hL
  have h4 : ∀ y ∈ L.drop m, ¬ ltB y s := by
    intro y hy hlt
    by_cases hm : m < L.length
    · have h5 := h2 hm
      rw [List.drop_eq_getElem_cons hm] at p2 hy
      rcases List.mem_cons.1 hy with rfl | hy
      · exact ltB_irrefl _ (ltB_trans hlt h5)
      · exact (List.pairwise_cons.1 p2).1 y hy (ltB_trans hlt h5)
    · rw [List.drop_eq_nil_of_le (by omega)] at hy
      cases hy
  rw [List.append_assoc, List.pairwise_append]
  refine ⟨p1, ?_, ?_⟩
  · rw [List.singleton_append, List.pairwise_cons]
    exact ⟨h4, p2⟩
  · intro x hx y hy
    rw [List.singleton_append] at hy
    rcases List.mem_cons.1 hy with rfl | hy
    · exact h1 x hx
    · exact p3 x hx y hy
theorem ins_perm (L : List ByteArray) (s : ByteArray) (m : Nat) : (L.take m ++ [s] ++ L.drop m).Perm (L ++ [s]) := by
  rw [List.perm_iff_count]
  intro x
  have : L.count x = (L.take m).count x + (L.drop m).count x := by rw [← List.count_append, List.take_append_drop]
  simp only [List.count_append, this]
  omega
theorem M_str {w : World} {base : Nat} {ok : Nat → Prop} {x : ByteArray} {cs : List Value} (h : Kd.string.K w x cs) : Kd.string.M w base ok x cs := h
theorem ref_doneB {W w : World} {own : Nat → Prop} {g : Nat} {v0 : Value} {A : Option Addr} {n c : Nat} {R : List ByteArray} (hg : own g) (hgl : g < W.heap.size) (hbk : W.heap[g]? = some (.cells #[v0] 50 (0, 0))) (hq : Kd.R Kd.string 9 w W.heap.size (fun _ => True) (.slice A n c) R) (hb : Below W.heap.size W w) (hm : ∀ s ∈ R, s.size ≤ maxLen) :
    RefB (w.setCell ⟨g, 0, none⟩ (.slice A n c)) (fun j => own j ∨ W.heap.size ≤ j) g R ∧ Upd own W (w.setCell ⟨g, 0, none⟩ (.slice A n c)) := by
  obtain ⟨hn, hc, -⟩ := Kd.R_reads' hq
  subst hn
  have hw : w.heap[g]? = some (.cells #[v0] 50 (0, 0)) := (hb.block g hgl).trans hbk
  have hs := hb.size
  refine ⟨⟨A, c, blk_set hw 0 _, .inl hg, hc, ?_, hm⟩, ?_⟩
  · have h1 : Kd.R Kd.string 9 w W.heap.size (fun k => W.heap.size ≤ k) (.slice A R.length c) R := Kd.R_mono (Kd.R_bound hq) (fun k hk => hk.2.1)
    have h2 := Kd.R_far (p := ⟨g, 0, none⟩) h1 (fun k hk e => by have : k = g := e; omega) (.slice A R.length c)
    exact Kd.R_lower (Kd.R_mono h2 (fun k hk => ⟨.inr hk, by omega⟩)) (Nat.zero_le _)
  · exact ⟨hb.os, hb.tape, hb.output, by simpa using hs, fun j hj hn => (Below.heap_setCell w ⟨g, 0, none⟩ _ j (fun e => hn (by have : j = g := e; exact this ▸ hg))).trans (hb.block j hj)⟩
theorem infoS' : (Try.prog.info? 9).map (fun i => (i.zero, i.size, i.bytes)) = some (some (.string (⟨#[]⟩ : ByteArray)), Kd.string.sz, 16) := by kernel_rfl

end Go.Proofs.Ytacfemgmnfkjoaa.QBag
