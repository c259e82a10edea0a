import Derived.Test.YtacfemgmnfkjoaaBagE
/- Bag: walks of the bag's functions, by hand; the conditions stand in each theorem. -/
namespace Go.Proofs.Ytacfemgmnfkjoaa.QBag
open Go.RowKit Go.Proofs.YtacfemgmnfkjoaaW.PrintWords Go.Proofs.YtacfemgmnfkjoaaW.PrintLast Go.Proofs.YtacfemgmnfkjoaaW.PrintMore
attribute [local go_sem] max2_int min2_int max_two min_two max_three min_three max_four min_four
set_option linter.unusedVariables false
set_option linter.unusedSimpArgs false
open Go.Sort Go.Shelf in
theorem keys_end {W V w2 : World} {l : List ByteArray} {v : Value} {ss : List (List UInt8)} (hK : Kinds l ((ss.mergeSort (fun x y => decide (x ≤ y))).map toBA)) (hrow : w2.ownsRow V.heap.size 9 1 v ss.length ((ss.mergeSort (fun x y => decide (x ≤ y))).map Go.Proofs.encStr)) (hV : Below W.heap.size W V) (hb : Below V.heap.size V w2) :
    ∃ A c ks, v = .slice A ks.length c ∧ ks.length ≤ c ∧ Kd.C Kd.string w2 A ks.length ks ∧ Kinds l ks ∧ Below W.heap.size W w2 := by
  have hl : ((ss.mergeSort (fun x y => decide (x ≤ y))).map toBA).length = ss.length := by simp
  have he : (ss.mergeSort (fun x y => decide (x ≤ y))).map Go.Proofs.encStr = strs ((ss.mergeSort (fun x y => decide (x ≤ y))).map toBA) := by unfold strs; rw [List.map_map]; rfl
  rw [he, ← hl] at hrow
  obtain ⟨A, c, e, hc, hC⟩ := Kd.Q_reads (Q_strs hrow)
  exact ⟨A, c, _, e, hc, hC, hK, below_on hV hb⟩
open Go.Sort Go.Shelf in
set_option maxHeartbeats 1000000 in
theorem bag_keys (W : World) (own : Nat → Prop) (g n : Nat) (l : List ByteArray) (h : Bg W own g n l) (hn : n * 16 ≤ 140737488355328) :
    Calls Try.prog 30 #[.pointer (some ⟨g, 0, none⟩)] W fun e w' => ∃ A c ks, e = .returned (.slice A ks.length c) ∧ ks.length ≤ c ∧ Kd.C Kd.string w' A ks.length ks ∧ Kinds l ks ∧ Below W.heap.size W w' := by
  obtain ⟨mv, h1, _, h3, _⟩ := h
  have hc0 : W.cell? ⟨g, 0, none⟩ = some mv := (blk_cell h1 0).trans rfl
  refine (callsIn_wide (n := 6)).1 ?_
  have hfK : Fence.wide.fn 38 := trivial
  have hfS : Fence.wide.fn 37 := trivial
  rcases h3 with ⟨rfl, rfl⟩ | ⟨B, rfl, _, _, D, hown, hf⟩
  · clear h1
    refine callsIn_of_wp Try.func30 rfl trivial ?_ rfl
    simp only [Try.ntmps30, List.size_toArray, List.length_cons, List.length_nil, Nat.reduceAdd, Nat.reduceSub, Array.replicate_succ, Array.replicate_zero, List.push_toArray, List.append_toArray, List.nil_append, List.cons_append]
    gi_wp2_with (first
      | (gi_at_call 38; refine (bk_maps_Keys _ _).mono ?_; rintro e w' ⟨rfl, rfl⟩)
      | (gi_at_call 37; refine (bk_Sorted_nil W).mono ?_; rintro e w2 ⟨v, ss, rfl, hS, hrow, hnil, hb⟩; subst hS; have HE := Aside0.mk (keys_end (l := []) (kinds_nil (by simp)) hrow (below_alloc (Below.refl _ _) _) hb); clear hrow hb hnil))
    obtain ⟨A, c, ks, rfl, h1, h2, h3, h4⟩ := HE.out
    go_ret
    exact ⟨A, c, ks, rfl, h1, h2, h3, h4⟩
  · have hsz := hown.size_le
    obtain ⟨k1, k2⟩ := strKeys_ok hown
    have HK := Aside0.mk (fun (ss : List (List UInt8)) (hp : ss.Perm (strKeys D)) => kinds_of (l := l) k1 k2 (fun s => (hf s).1) hp)
    have HS : Aside0 (Maps.size D ≤ maxLen ∧ Maps.size D * 16 ≤ 140737488355328) := ⟨by unfold maxLen; omega, by omega⟩
    have HO := Aside0.mk hown
    clear h1 hf hown hsz k1 k2
    refine callsIn_of_wp Try.func30 rfl trivial ?_ rfl
    simp only [Try.ntmps30, List.size_toArray, List.length_cons, List.length_nil, Nat.reduceAdd, Nat.reduceSub, Array.replicate_succ, Array.replicate_zero, List.push_toArray, List.append_toArray, List.nil_append, List.cons_append]
    gi_wp2_with (first
      | (gi_at_call 38; refine (bk_maps_Keys _ _).mono ?_; rintro e w' ⟨rfl, rfl⟩)
      | (gi_at_call 37; refine (bk_Sorted_keys B n D (plainElem Try.prog 3) W HO.out HS.out.1 HS.out.2).mono ?_; rintro e w2 ⟨v, ss, rfl, hS, hrow, hnil, hb⟩; have HE := Aside0.mk (keys_end (HK.out ss hS) hrow (below_alloc (Below.refl _ _) _) hb); clear hrow hb hnil hS))
    obtain ⟨A, c, ks, rfl, h1, h2, h3, h4⟩ := HE.out
    go_ret
    exact ⟨A, c, ks, rfl, h1, h2, h3, h4⟩
theorem bag_Kinds (W : World) (own : Nat → Prop) (g n : Nat) (l : List ByteArray) (h : Bg W own g n l) (hn : n * 16 ≤ 140737488355328) :
    Calls Try.prog 11 #[.pointer (some ⟨g, 0, none⟩)] W fun e w' => ∃ A c ks, e = .returned (.slice A ks.length c) ∧ ks.length ≤ c ∧ Kd.C Kd.string w' A ks.length ks ∧ Kinds l ks ∧ Below W.heap.size W w' := by
  have HN := Aside0.mk (bag_keys W own g n l h hn)
  clear h
  go_enter Try.func11, Try.ntmps11
  go_wp2_with (go_at_call 30; refine HN.out.mono ?_; rintro e w1 ⟨A, c, ks, rfl, h1, h2, h3, h4⟩; have HE := Aside0.mk (And.intro h1 (And.intro h2 (And.intro h3 h4))); clear h1 h2 h3 h4)
  go_ret
  exact ⟨A, c, ks, rfl, HE.out⟩

end Go.Proofs.Ytacfemgmnfkjoaa.QBag
