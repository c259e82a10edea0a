import Derived.Test.YtpkhdljlhdomlaaIxP
/- Index: walks by hand; the conditions stand in each theorem. -/
namespace Go.Proofs.Ytpkhdljlhdomlaa.QIndexFinds
open Go.RowKit Go.Proofs.YtpkhdljlhdomlaaW.PrintWords Go.Proofs.YtpkhdljlhdomlaaW.PrintLast Go.Proofs.YtpkhdljlhdomlaaW.PrintMore
attribute [local go_sem] max2_int min2_int max_two min_two max_three min_three max_four min_four
set_option linter.unusedVariables false
set_option linter.unusedSimpArgs false
theorem slice_event {P : Program} {ops : Array Oper} {rest : List Oper} {o : Oper} {a : Act} {Q : Exit → Act → World → Prop} {W : World} (hgd : o.guard = none) {N : Tmp} (_hd : o.dst = some N) {cs : Array Value} {t : TypeId} {n : Nat}
    (hrun : (execOp a.eval o).run P W = .ok (.value (.slice (some ⟨W.heap.size, 0, none⟩) n n)) (W.alloc (.cells cs t (0, 0))))
    (h : ∀ g, g = W.heap.size → ∀ w1, w1.heap[g]? = some (.cells cs t (0, 0)) → Below W.heap.size W w1 → wpList P ops Q rest (a.put o.dst (.slice (some ⟨g, 0, none⟩) n n)) w1) : wpList P ops Q (o :: rest) a W :=
  Kd.event_run hgd hrun (h _ rfl _ (blk_new W _) (below_alloc (Below.refl _ _) _))
theorem C_of_blk {α : Type} (d : Kd α) (e : Nat) (w : World) (g : Nat) (xs : List α) (inner : List Value) (hrep : Reps (d.K w) d.sz xs inner) (hm : xs.length ≤ 9223372036854775807) (hb : w.heap[g]? = some (.cells inner.toArray e (0, 0))) : d.C w (some ⟨g, 0, none⟩) xs.length xs := by
  refine ⟨rfl, hm, fun _ => ⟨_, rfl, fun j p hj => ⟨_, ?_, hrep.2 j p hj, fun i u hu => ?_⟩⟩⟩
  · exact d.K_len (hrep.2 j p hj)
  · have h1 := blk_cell hb (0 + (j * d.sz + i))
    have h2 : i < d.sz := by
      have := (List.getElem?_eq_some_iff.1 hu).1
      rw [List.length_take] at this
      omega
    rw [List.getElem?_take, if_pos h2, List.getElem?_drop] at hu
    rw [List.getElem?_toArray, Nat.zero_add, hu] at h1
    have e : (⟨g, 0, none⟩ : Addr).add (j * d.sz + i) = ⟨g, j * d.sz + i, none⟩ := by
      unfold Addr.add
      split
      · rename_i h; rw [h]
      · simp
    rw [e]
    exact h1
theorem numbers_l0 (a b : List Int) (hl : a.length = b.length) (hm : a.length ≤ 4611686018427387904) : ∀ (m i : Nat), i + m = a.length → Ev (fun k => weathercocklaw06_numbers.l0 k a b (i : Int)) (decide (a.drop i = b.drop i)) := by
  intro m
  induction m with
  | zero =>
    intro i hi
    refine Ev.step (fun k => rfl) ?_
    simp only [weathercocklaw06_numbers.l0]
    refine ev_neg (by omega) ?_
    rw [List.drop_of_length_le (by omega), List.drop_of_length_le (by omega)]
    exact Ev.now true
  | succ m ih =>
    intro i hi
    refine Ev.step (fun k => rfl) ?_
    simp only [weathercocklaw06_numbers.l0]
    refine ev_pos (by omega) (ev_pos (by omega) (ev_pos (by omega) ?_))
    rw [rd_mem a i (by omega), rd_mem b i (by omega), List.drop_eq_getElem_cons (by omega : i < a.length), List.drop_eq_getElem_cons (by omega : i < b.length)]
    by_cases h : a[i]'(by omega) = b[i]'(by omega)
    · refine ev_pos h ?_
      rw [w64 (by omega) (by omega)]
      have h2 := ih (i + 1) (by omega)
      have e : decide (a[i]'(by omega) :: a.drop (i + 1) = b[i]'(by omega) :: b.drop (i + 1)) = decide (a.drop (i + 1) = b.drop (i + 1)) := by
        rw [decide_eq_decide]
        exact ⟨fun h' => by injection h', fun h' => by rw [h, h']⟩
      rw [e]
      exact h2
    · refine ev_neg h ?_
      have e : decide (a[i]'(by omega) :: a.drop (i + 1) = b[i]'(by omega) :: b.drop (i + 1)) = false := decide_eq_false (fun h' => h (by injection h'))
      rw [e]
      exact Ev.now false
theorem numbers7 (A0 : Option Addr) (c0 : Nat) (l0 : List Int) (A1 : Option Addr) (c1 : Nat) (l1 : List Int) (w : World) (h0 : kI.C w A0 l0.length l0) (hc0 : l0.length ≤ c0) (h1 : kI.C w A1 l1.length l1) (hc1 : l1.length ≤ c1) (hm : l0.length ≤ 4611686018427387904) :
    Calls Try.prog 7 #[.slice A0 l0.length c0, .slice A1 l1.length c1] w fun e w' => e = .returned (.bool (decide (l0 = l1))) ∧ Below w.heap.size w w' := by
  have : ∃ k, weathercocklaw06_numbers.f k l0 l1 = some (decide (l0 = l1)) := by
    by_cases hl : l0.length = l1.length
    · obtain ⟨k, hk⟩ := (numbers_l0 l0 l1 hl hm l0.length 0 (by omega)).rounds
      refine ⟨k, ?_⟩
      unfold weathercocklaw06_numbers.f
      rw [if_pos (by omega)]
      simpa using hk
    · refine ⟨0, ?_⟩
      unfold weathercocklaw06_numbers.f
      rw [if_neg (by omega)]
      have : ¬ l0 = l1 := fun h => hl (by rw [h])
      simp [this]
  obtain ⟨k, hk⟩ := this
  refine (weathercocklaw06_numbers.calls k A0 c0 l0 A1 c1 l1 _ w h0 hc0 h1 hc1 hk).mono ?_
  rintro e w' ⟨rfl, hd⟩
  exact ⟨rfl, hd.below⟩
def exL : List S24 := [⟨1, 3, ⟨#[]⟩⟩, ⟨0, 0, ⟨#[]⟩⟩, ⟨1, 1, ⟨#[]⟩⟩, ⟨1, 3, ⟨#[]⟩⟩]
instance (L : List S24) (i j : Int) : Decidable (before L i j) := by unfold before; infer_instance
theorem ex_srt : Srt exL [1, 2, 0, 3] := by
  refine ⟨?_, ?_⟩
  · decide
  · decide +kernel
theorem ex_eq : bkt exL ⟨1, 3, ⟨#[]⟩⟩ = [0, 3] := by decide +kernel
theorem ex_range : rangeL exL [1, 2, 0, 3] [⟨1, 2, ⟨#[]⟩⟩] [] = [0, 3] := by decide +kernel
theorem ex_dst : dst exL = 2 := by decide +kernel

end Go.Proofs.Ytpkhdljlhdomlaa.QIndexFinds
