import Derived.Test.YtplmfnjijhppaaaRE
/- Row's sort, and the laws over it: walks by hand; the conditions stand in each theorem. -/
namespace Go.Proofs.Ytplmfnjijhppaaa.QRowSorts
open Go.RowKit Go.Proofs.YtplmfnjijhppaaaW.PrintWords Go.Proofs.YtplmfnjijhppaaaW.PrintLast Go.Proofs.YtplmfnjijhppaaaW.PrintMore
attribute [local go_sem] max2_int min2_int max_two min_two max_three min_three max_four min_four
set_option linter.unusedVariables false
set_option linter.unusedSimpArgs false
def nB (l : List (List S36)) : Nat := min l.length 100
theorem nB_if (l : List (List S36)) : (if (100 : Int) < (l.length : Int) then (100 : Int) else (l.length : Int)) = (nB l : Int) := by
  unfold nB
  split <;> omega
theorem C_nB {W : World} {A : Option Addr} {l : List (List S36)} (h : Kd.C (Kd.slice 36 k36) W A l.length l) : Kd.C (Kd.slice 36 k36) W A (nB l) (l.take (nB l)) := by
  have h := Kd.C_take h (m := nB l) (by unfold nB; omega)
  have e : (l.take (nB l)).length = nB l := by rw [List.length_take]; unfold nB; omega
  rw [e] at h
  exact h
theorem len_nB (l : List (List S36)) : (l.take (nB l)).length = nB l := by rw [List.length_take]; unfold nB; omega
structure Hdr where
  A : Option Addr
  n : Nat
  c : Nat
/- A row of rows, all of them from block B on, none of them the row of the rows itself: what a store into one of them asks, and leaves. -/
def OutOk (B g : Nat) (hd : Nat → Hdr) (n : Nat) (w : World) : Prop :=
  B ≤ g ∧ (∃ oc : Array Value, w.heap[g]? = some (.cells oc 22 (0, 0)) ∧ ∀ i, i < n → oc[i]? = some (.slice (hd i).A (hd i).n (hd i).c)) ∧
  ∀ i, i < n → (hd i).n ≤ (hd i).c ∧ (0 < (hd i).n → ∃ gi, (hd i).A = some ⟨gi, 0, none⟩ ∧ B ≤ gi ∧ gi ≠ g ∧ ∃ cc : Array Value, w.heap[gi]? = some (.cells cc 36 (0, 0)) ∧ (hd i).n * 3 ≤ cc.size)
theorem OutOk.far {B g n : Nat} {hd : Nat → Hdr} {w w' : World} (h : OutOk B g hd n w) (hb : ∀ k, B ≤ k → k < w.heap.size → w'.heap[k]? = w.heap[k]?) : OutOk B g hd n w' := by
  obtain ⟨h1, ⟨oc, h2, h3⟩, h4⟩ := h
  refine ⟨h1, ⟨oc, (hb g h1 (blk_lt h2)).trans h2, h3⟩, fun i hi => ⟨(h4 i hi).1, fun hp => ?_⟩⟩
  obtain ⟨gi, e1, e2, e3, cc, e4, e5⟩ := (h4 i hi).2 hp
  exact ⟨gi, e1, e2, e3, cc, (hb gi e2 (blk_lt e4)).trans e4, e5⟩
theorem OutOk.store {B g n : Nat} {hd : Nat → Hdr} {w : World} (h : OutOk B g hd n w) {gj o : Nat} {cj : Array Value} (hg : gj ≠ g) (hj : w.heap[gj]? = some (.cells cj 36 (0, 0))) (vs : List Value) (hfit : o + vs.length ≤ cj.size) : OutOk B g hd n (w.setCells gj o vs) := by
  obtain ⟨h1, ⟨oc, h2, h3⟩, h4⟩ := h
  refine ⟨h1, ⟨oc, (setCells_far vs o g (Ne.symm hg)).trans h2, h3⟩, fun i hi => ⟨(h4 i hi).1, fun hp => ?_⟩⟩
  obtain ⟨gi, e1, e2, e3, cc, e4, e5⟩ := (h4 i hi).2 hp
  by_cases e : gi = gj
  · subst e
    rw [hj] at e4
    injection e4 with e4
    injection e4 with e4
    subst e4
    obtain ⟨cur', q1, q2, _⟩ := setCells_row vs o w cj hj hfit
    exact ⟨gi, e1, e2, e3, cur', q1, by omega⟩
  · exact ⟨gi, e1, e2, e3, cc, (setCells_far vs o gi e).trans e4, e5⟩
theorem below_cells {w W : World} {g o : Nat} {vs : List Value} {B : Nat} (h : Below B w W) (hg : B ≤ g) : Below B w (W.setCells g o vs) := by
  obtain ⟨q1, q2, q3, q4⟩ := setCells_same g vs o W
  exact ⟨q1.trans h.os, q2.trans h.tape, q3.trans h.output, by rw [q4]; exact h.size, fun k hk => (setCells_far vs o k (by omega)).trans (h.block k hk)⟩
theorem out_of_R {w : World} {B : Nat} {v : Value} {l : List (List S36)} (h : Kd.R (Kd.slice 36 k36) 22 w B (fun _ => True) v l) (hl : 0 < l.length) : ∃ g cap hd, v = .slice (some ⟨g, 0, none⟩) l.length cap ∧ l.length ≤ cap ∧ OutOk B g hd l.length w ∧ ∀ i (h : i < l.length), (hd i).n = l[i].length := by
  obtain ⟨_, inner, ⟨ho1, ho2⟩, hr⟩ := h
  rcases ho2 with ⟨_, hn⟩ | ⟨g, cap, cur, rfl, hg, hh, hnc, hcm, hcs, ht⟩
  · omega
  have hsz : (Kd.slice 36 k36).sz = 1 := rfl
  rw [hsz, Nat.mul_one] at ho1 ht hcs
  have hM : ∀ j, ∃ q : Hdr, ∀ (hj : j < l.length), inner[j]? = some (.slice q.A q.n q.c) ∧ q.n = l[j].length ∧ q.n ≤ q.c ∧ (0 < q.n → ∃ gi, q.A = some ⟨gi, 0, none⟩ ∧ B ≤ gi ∧ gi ≠ g ∧ ∃ cc : Array Value, w.heap[gi]? = some (.cells cc 36 (0, 0)) ∧ q.n * 3 ≤ cc.size) := by
    intro j
    by_cases hj : j < l.length
    · obtain ⟨v', hv, hR'⟩ := hr.2 j l[j] (List.getElem?_eq_getElem hj)
      rw [hsz, Nat.mul_one] at hv
      have e : (inner.drop j).take 1 = [inner[j]'(by omega)] := by
        rw [List.drop_eq_getElem_cons (by omega)]
        rfl
      rw [e] at hv
      injection hv with hv
      obtain ⟨A, c, rfl, hc, _⟩ := Kd.R_reads hR'
      refine ⟨⟨A, l[j].length, c⟩, fun _ => ⟨by rw [List.getElem?_eq_getElem (by omega), hv], rfl, hc, fun hp => ?_⟩⟩
      obtain ⟨k0, inn, ⟨q1, q2⟩, _⟩ := hR'
      rcases q2 with ⟨_, hn⟩ | ⟨gi, cap', cc, e1, e2, e3, e4, _, e6, _⟩
      · have : 0 < l[j].length := hp
        omega
      · injection e1 with ea _ ec
        subst ea
        subst ec
        refine ⟨gi, rfl, e2, fun he => ?_, cc, e3, ?_⟩
        · exact (k0 gi rfl).2 (by rw [he]; rfl)
        · have e7 : k36.sz = 3 := rfl
          rw [e7] at e6
          show l[j].length * 3 ≤ cc.size
          omega
    · exact ⟨⟨none, 0, 0⟩, fun h => absurd h hj⟩
  obtain ⟨hd, hhd⟩ : ∃ hd : Nat → Hdr, ∀ j (hj : j < l.length), inner[j]? = some (.slice (hd j).A (hd j).n (hd j).c) ∧ (hd j).n = l[j].length ∧ (hd j).n ≤ (hd j).c ∧ (0 < (hd j).n → ∃ gi, (hd j).A = some ⟨gi, 0, none⟩ ∧ B ≤ gi ∧ gi ≠ g ∧ ∃ cc : Array Value, w.heap[gi]? = some (.cells cc 36 (0, 0)) ∧ (hd j).n * 3 ≤ cc.size) := ⟨fun j => (hM j).choose, fun j hj => (hM j).choose_spec hj⟩
  refine ⟨g, cap, hd, rfl, hnc, ⟨hg, ⟨cur, hh, fun i hi => ?_⟩, fun i hi => ?_⟩, fun i hi => (hhd i hi).2.1⟩
  · rw [← (hhd i hi).1, ← ht, List.getElem?_take, if_pos hi, Array.getElem?_toList]
  · exact (hhd i hi).2.2

end Go.Proofs.Ytplmfnjijhppaaa.QRowSorts
