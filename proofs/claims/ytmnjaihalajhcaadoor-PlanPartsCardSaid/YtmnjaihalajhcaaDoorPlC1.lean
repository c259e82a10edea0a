import Derived.Test.YtmnjaihalajhcaaDoorPlS
/- Plan: walks by hand; the conditions stand in each theorem. -/
namespace Go.Proofs.YtmnjaihalajhcaaDoor.QPlanConds
open Go.RowKit Go.Proofs.YtmnjaihalajhcaaDoorW.PrintWords Go.Proofs.YtmnjaihalajhcaaDoorW.PrintLast Go.Proofs.YtmnjaihalajhcaaDoorW.PrintMore
attribute [local go_sem] max2_int min2_int max_two min_two max_three min_three max_four min_four
set_option linter.unusedVariables false
set_option linter.unusedSimpArgs false
/- With more rows nothing costs less. -/
def PGe (l m : List Int) : Prop := l.length = m.length ∧ ∀ i (h : i < l.length) (h' : i < m.length), l[i] ≤ m[i]
theorem PGe.refl (l : List Int) : PGe l l := ⟨rfl, fun _ _ _ => Int.le_refl _⟩
theorem PGe.at_ {l m : List Int} (h : PGe l m) (i : Int) : atI l i ≤ atI m i := by
  unfold atI
  rw [h.1]
  split
  · exact Int.le_refl _
  · split
    · exact Int.le_refl _
    · rename_i h0 h1
      obtain ⟨n, rfl⟩ := Int.eq_ofNat_of_zero_le (show 0 ≤ i by omega)
      have hm : n < m.length := by omega
      have hl : n < l.length := by have := h.1; omega
      rw [Int.toNat_natCast, List.getD_eq_getElem?_getD, List.getD_eq_getElem?_getD, List.getElem?_eq_getElem hl, List.getElem?_eq_getElem hm]
      exact h.2 n hl hm
theorem PGe.set {l m : List Int} (h : PGe l m) (k : Nat) (v : Int) (hv : ∀ h' : k < m.length, m[k] ≤ v) : PGe l (m.set k v) := by
  refine ⟨by rw [List.length_set]; exact h.1, fun i hi hi' => ?_⟩
  rw [List.length_set] at hi'
  rw [List.getElem_set]
  split
  · rename_i e
    subst e
    exact Int.le_trans (h.2 k hi hi') (hv hi')
  · exact h.2 i hi hi'
theorem le2_map (f g : S34 → Int) : ∀ l : List S34, (∀ x ∈ l, f x ≤ g x) → ∀ a b : Int, a ≤ b → Le2 (l.map f ++ [a]) (l.map g ++ [b])
  | [], _, a, b, h => by simp [Le2, h]
  | x :: l, hx, a, b, h => by
    have h1 := hx x List.mem_cons_self
    have h2 := le2_map f g l (fun y hy => hx y (List.mem_cons_of_mem _ hy)) a b h
    simp [Le2, h1]
    exact h2
theorem own_mono {B B' C C' : List Int} (hB : ∀ i, atI B i ≤ atI B' i) (hC : ∀ i, atI C i ≤ atI C' i) (p : S34) : ownI B C p ≤ ownI B' C' p := by
  have h0 : in0 C p ≤ in0 C' p := by unfold in0; split; exact hC _; exact Int.le_refl _
  have h1 : in1 C p ≤ in1 C' p := by unfold in1; split; exact hC _; exact Int.le_refl _
  have ho := hC p.f3
  have hb := hB p.f1
  unfold ownI
  split
  · exact tot_mono (by simp [Le2, hb])
  split
  · exact tot_mono (by simp [Le2, ho])
  split
  · exact tot_mono (by simp [Le2, h0, ho, mul_mono h0 h1])
  split
  · exact tot_mono (by simp [Le2, h0, h1, ho])
  split
  · exact tot_mono (by simp [Le2, h0, h1, ho, sortI_mono h0, sortI_mono h1])
  split
  · exact clip_mono ho
  · exact Int.le_refl _
theorem cost_mono {B B' C C' : List Int} (hB : ∀ i, atI B i ≤ atI B' i) (hC : ∀ i, atI C i ≤ atI C' i) : ∀ p : S34, costX B C p ≤ costX B' C' p := by
  refine ind34 ?_
  intro p ih
  rw [costX_eq, costX_eq]
  exact tot_mono (le2_map _ _ _ ih _ _ (own_mono hB hC p))
theorem cost_b (B C : List Int) (p : S34) : 0 ≤ costX B C p ∧ costX B C p ≤ 1000000000000 := by
  rw [costX_eq]
  exact tot_b _
/- A right plan has two inputs at most. -/
theorem node_bin {core : Int} {L : List S46} {T : List Int} : ∀ p : S34, nodeX core L T p = true → binB p = true := by
  refine ind34 ?_
  intro p ih h
  rw [binB_eq]
  obtain ⟨_, ⟨_, hl, _, hx, hy, _⟩ | ⟨_, hl, _⟩⟩ := node_ways h
  · have hz := list_two hl
    have e : (p.f7.map binB).all id = ([rd_T34 p.f7 0, rd_T34 p.f7 1].map binB).all id := congrArg (fun l => (List.map binB l).all id) hz
    rw [hl, e]
    simp [ih _ (mem_two hl).1 hx, ih _ (mem_two hl).2 hy]
  · have hz : p.f7 = [] := List.eq_nil_of_length_eq_zero hl
    rw [hz]
    rfl

end Go.Proofs.YtmnjaihalajhcaaDoor.QPlanConds
