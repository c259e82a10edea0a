import Derived.Test.YtfppafpkppjmlaaFeedB
/- Feed: walks of the feed's functions, by hand; the conditions stand in each theorem. -/
namespace Go.Proofs.Ytfppafpkppjmlaa.QFeedPlays
open Go.RowKit Go.Proofs.YtfppafpkppjmlaaW.PrintWords Go.Proofs.YtfppafpkppjmlaaW.PrintLast Go.Proofs.YtfppafpkppjmlaaW.PrintMore
attribute [local go_sem] max2_int min2_int max_two min_two max_three min_three max_four min_four
set_option linter.unusedVariables false
set_option linter.unusedSimpArgs false
/- The plain state of a feed: what is there, the oldest first. -/
def keysOf (L : List S35) : List ByteArray := L.map S35.f0
def lookL (L : List S35) (s : ByteArray) : Option Int := (L.find? (fun p => keyIs s p.f0)).map S35.f1
def restL (L : List S35) (k : ByteArray) (x : Int) : List S35 := L.filter (fun p => !keyIs k p.f0) ++ [⟨k, x⟩]
def putL (most : Int) (L : List S35) (k : ByteArray) (x : Int) : List S35 := if most < ((restL L k x).length : Int) then (restL L k x).drop 1 else restL L k x
theorem ba_eq {s t : ByteArray} : t.data.toList = s.data.toList ↔ t = s := by
  constructor
  · intro h
    cases s with
    | mk a => cases t with
      | mk b => simpa using h
  · rintro rfl
    rfl
theorem keyIs_self (k : ByteArray) : keyIs k k = true := (keyIs_iff k k).2 rfl
theorem keyIs_ne {k x : ByteArray} (h : x ≠ k) : keyIs k x = false := by
  cases hc : keyIs k x with
  | false => rfl
  | true => exact absurd ((keyIs_iff k x).1 hc) h
theorem keysOf_rest (L : List S35) (k : ByteArray) (x : Int) : keysOf (restL L k x) = putK (keysOf L) k := by
  unfold keysOf restL putK
  rw [List.map_append, List.filter_map]
  rfl
theorem keysOf_put (most : Int) (L : List S35) (k : ByteArray) (x : Int) : keysOf (putL most L k x) = cutK most (putK (keysOf L) k) := by
  unfold putL cutK
  rw [← keysOf_rest L k x]
  have e : (keysOf (restL L k x)).length = (restL L k x).length := by simp [keysOf]
  rw [e]
  by_cases c : most < ((restL L k x).length : Int)
  · rw [if_pos c, if_pos c]
    simp [keysOf]
  · rw [if_neg c, if_neg c]
theorem look_any (L : List S35) (s : ByteArray) : (lookL L s).isSome = (keysOf L).any (keyIs s) := by
  unfold lookL keysOf
  induction L with
  | nil => rfl
  | cons p L ih =>
    rw [List.find?_cons, List.map_cons, List.any_cons]
    cases hc : keyIs s p.f0 with
    | true => rfl
    | false => simpa using ih
theorem look_rest (L : List S35) (k : ByteArray) (x : Int) (s : ByteArray) : lookL (restL L k x) s = if s = k then some x else lookL L s := by
  unfold lookL restL
  by_cases c : s = k
  · subst c
    rw [if_pos rfl, List.find?_append]
    have : (L.filter (fun p => !keyIs s p.f0)).find? (fun p => keyIs s p.f0) = none := by
      rw [List.find?_eq_none]
      intro p hp
      have := (List.mem_filter.1 hp).2
      simpa using this
    rw [this]
    simp [keyIs_self]
  · rw [if_neg c, List.find?_append]
    have h2 : keyIs s k = false := keyIs_ne (fun e => c e.symm)
    have : (L.filter (fun p => !keyIs k p.f0)).find? (fun p => keyIs s p.f0) = L.find? (fun p => keyIs s p.f0) := by
      induction L with
      | nil => rfl
      | cons p L ih =>
        rw [List.filter_cons, List.find?_cons]
        cases hp : keyIs k p.f0 with
        | true =>
          have e := (keyIs_iff k p.f0).1 hp
          rw [e, h2]
          simpa using ih
        | false =>
          simp only [Bool.not_false, if_true]
          rw [List.find?_cons, ih]
    rw [this]
    simp [h2]
theorem look_tail (p : S35) (L : List S35) (hnd : (keysOf (p :: L)).Nodup) (s : ByteArray) : lookL L s = if s = p.f0 then none else lookL (p :: L) s := by
  by_cases c : s = p.f0
  · subst c
    rw [if_pos rfl]
    unfold lookL
    rw [Option.map_eq_none_iff, List.find?_eq_none]
    intro q hq hk
    have e := (keyIs_iff _ _).1 hk
    have := (List.nodup_cons.1 hnd).1
    exact this (List.mem_map.2 ⟨q, hq, e⟩)
  · rw [if_neg c]
    unfold lookL
    rw [List.find?_cons, keyIs_ne (fun e => c e.symm)]
theorem rest_nodup (L : List S35) (hnd : (keysOf L).Nodup) (k : ByteArray) (x : Int) : (keysOf (restL L k x)).Nodup := by
  rw [keysOf_rest]
  unfold putK
  rw [List.nodup_append]
  refine ⟨hnd.filter _, by simp, fun a ha b hb e => ?_⟩
  have hb' : b = k := by simpa using hb
  have := (List.mem_filter.1 ha).2
  rw [e, hb', keyIs_self] at this
  cases this
theorem put_nodup (most : Int) (L : List S35) (hnd : (keysOf L).Nodup) (k : ByteArray) (x : Int) : (keysOf (putL most L k x)).Nodup := by
  have h := rest_nodup L hnd k x
  unfold putL
  split
  · unfold keysOf at h ⊢
    rw [List.map_drop]
    exact h.sublist (List.drop_sublist _ _)
  · exact h
theorem putF_look (most : Int) (L : List S35) (hnd : (keysOf L).Nodup) (f : ByteArray → Option Int) (hf : ∀ s, f s = lookL L s) (k : ByteArray) (x : Int) (s : ByteArray) : putF most (keysOf L) f k x s = lookL (putL most L k x) s := by
  have h1 : updF f k (some x) s = lookL (restL L k x) s := by
    rw [look_rest]
    unfold updF
    by_cases c : s = k
    · rw [if_pos c, if_pos (ba_eq.2 c)]
    · rw [if_neg c, if_neg (fun e => c (ba_eq.1 e)), hf]
  have e : ((putK (keysOf L) k).length : Int) = ((restL L k x).length : Int) := by rw [← keysOf_rest L k x]; simp [keysOf]
  unfold putF putL
  rw [e]
  by_cases c : most < ((restL L k x).length : Int)
  · rw [if_pos c, if_pos c, ← keysOf_rest L k x]
    have hnd2 := rest_nodup L hnd k x
    cases hq : restL L k x with
    | nil => rw [hq] at h1 c; simp [restL] at hq
    | cons p r =>
      rw [hq] at hnd2 h1
      have := look_tail p r hnd2 s
      rw [List.drop_succ_cons, List.drop_zero, this]
      unfold updF at h1 ⊢
      by_cases c2 : s = p.f0
      · rw [if_pos c2, if_pos (ba_eq.2 (by simpa [keysOf] using c2))]
      · rw [if_neg c2, if_neg (fun e => c2 (by simpa [keysOf] using ba_eq.1 e)), ← h1]
  · rw [if_neg c, if_neg c]
    exact h1
theorem put_len (most : Int) (L : List S35) (k : ByteArray) (x : Int) (hm : 0 ≤ most) (hl : (L.length : Int) ≤ most) : ((putL most L k x).length : Int) ≤ most := by
  have h1 : (restL L k x).length ≤ L.length + 1 := by
    unfold restL
    rw [List.length_append]
    have := List.length_filter_le (fun p : S35 => !keyIs k p.f0) L
    simp only [List.length_singleton]
    omega
  unfold putL
  split
  · rw [List.length_drop]
    omega
  · omega
theorem put_mem (most : Int) (L : List S35) (k : ByteArray) (x : Int) (s : ByteArray) (h : s ∈ keysOf (putL most L k x)) : s = k ∨ s ∈ keysOf L := by
  have h2 : s ∈ keysOf (restL L k x) := by
    unfold putL at h
    split at h
    · unfold keysOf at h ⊢
      rw [List.map_drop] at h
      exact List.mem_of_mem_drop h
    · exact h
  rw [keysOf_rest] at h2
  unfold putK at h2
  rcases List.mem_append.1 h2 with h3 | h3
  · exact .inr (List.mem_filter.1 h3).1
  · exact .inl (by simpa using h3)
theorem look_at (L : List S35) (hnd : (keysOf L).Nodup) (i : Nat) (hi : i < L.length) : lookL L L[i].f0 = some L[i].f1 := by
  induction L generalizing i with
  | nil => simp at hi
  | cons p L ih =>
    cases i with
    | zero =>
      unfold lookL
      rw [List.find?_cons]
      simp [keyIs_self]
    | succ i =>
      have hi' : i < L.length := by simpa using hi
      have h := List.nodup_cons.1 hnd
      have h2 := ih h.2 i hi'
      have hne : L[i].f0 ≠ p.f0 := fun e => h.1 (List.mem_map.2 ⟨L[i], List.getElem_mem _, e⟩)
      rw [List.getElem_cons_succ]
      rw [look_tail p L hnd, if_neg hne] at h2
      exact h2
/- A feed in memory: only the blocks of 'own' are its. -/
def Fd (w : World) (own : Nat → Prop) (g : Nat) (most : Int) (n : Nat) (L : List S35) : Prop :=
  (∃ B v f, FeedAt w 0 g B most n v (keysOf L) f ∧ own g ∧ own B ∧ (∀ b, v.ownBlock = some b → own b) ∧ ∀ s, f s = lookL L s) ∧ (keysOf L).Nodup ∧ (∀ s ∈ keysOf L, s.size ≤ maxLen) ∧ 0 ≤ most ∧ most ≤ 50 ∧ (L.length : Int) ≤ most ∧ ∀ p ∈ L, (Lit.int .i64 p.f1).wf = true
structure Upd (own : Nat → Prop) (w w1 : World) : Prop where
  os : w1.os = w.os
  tape : w1.tape = w.tape
  output : w1.output = w.output
  size : w.heap.size ≤ w1.heap.size
  far : ∀ j, j < w.heap.size → ¬ own j → w1.heap[j]? = w.heap[j]?
theorem Fd.far {w w1 : World} {own own1 : Nat → Prop} {g : Nat} {most : Int} {n : Nat} {L : List S35} (h : Fd w own g most n L) (ho : ∀ j, own j → own1 j) (hf : ∀ j, own j → j < w.heap.size → w1.heap[j]? = w.heap[j]?) : Fd w1 own1 g most n L := by
  obtain ⟨⟨B, v, f, h1, h2, h3, h4, h5⟩, h6⟩ := h
  have hg := blk_lt h1.blk
  refine ⟨⟨B, v, f, ⟨(hf g h2 hg).trans h1.blk, map_far h1.map (hf B h3 h1.ltB), ?_, h1.ne, h1.base⟩, ho _ h2, ho _ h3, fun b hb => ho b (h4 b hb), h5⟩, h6⟩
  have hq : Kd.Q Kd.string 9 w 0 (fun k => k ≠ g ∧ k ≠ B) v (keysOf L) := h1.keys
  have hq2 : Kd.Q Kd.string 9 w 0 (fun k => (k ≠ g ∧ k ≠ B) ∧ own k) v (keysOf L) := ⟨fun k hk => ⟨hq.1 k hk, h4 k hk⟩, hq.2⟩
  have := Kd.Q_step hq2 (fun k hk hlt => hf k hk.2 hlt)
  exact ⟨fun k hk => (this.1 k hk).1, this.2⟩

end Go.Proofs.Ytfppafpkppjmlaa.QFeedPlays
