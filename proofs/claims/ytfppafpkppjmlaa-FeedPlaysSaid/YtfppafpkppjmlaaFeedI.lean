import Derived.Test.YtfppafpkppjmlaaFeedH
/- Feed: walks of the feed's functions, by hand; the conditions stand in each theorem. -/
namespace Go.Proofs.Ytfppafpkppjmlaa.QFeedPlays
open Go.RowKit Go.Proofs.YtfppafpkppjmlaaW.PrintWords Go.Proofs.YtfppafpkppjmlaaW.PrintLast Go.Proofs.YtfppafpkppjmlaaW.PrintMore
attribute [local go_sem] max2_int min2_int max_two min_two max_three min_three max_four min_four
set_option linter.unusedVariables false
set_option linter.unusedSimpArgs false
def allL (l : List S35) : List S35 := l.foldl (fun L p => restL L p.f0 (clipV p.f1)) []
theorem rest_len {L : List S35} (hnd : (keysOf L).Nodup) (k : ByteArray) (x : Int) : L.length ≤ (restL L k x).length ∧ (restL L k x).length ≤ L.length + 1 := by
  have e : (restL L k x).length = ((keysOf L).filter (fun s => !keyIs k s)).length + 1 := by
    have := congrArg List.length (keysOf_rest L k x)
    simpa [keysOf, putK] using this
  have e2 : (keysOf L).length = L.length := by simp [keysOf]
  by_cases c : (keysOf L).any (keyIs k) = true
  · obtain ⟨h1, _, h3⟩ := one_key hnd k c
    rw [h3, List.length_eraseIdx, if_pos h1] at e
    omega
  · rw [no_key k c] at e
    omega
theorem put_suffix (m : Nat) (U : List S35) (hnd : (keysOf U).Nodup) (k : ByteArray) (x : Int) : putL (m : Int) (U.drop (U.length - m)) k x = (restL U k x).drop ((restL U k x).length - m) := by
  have hU : U = U.take (U.length - m) ++ U.drop (U.length - m) := (List.take_append_drop _ _).symm
  have hr : restL U k x = (U.take (U.length - m)).filter (fun p => !keyIs k p.f0) ++ restL (U.drop (U.length - m)) k x := by
    unfold restL
    rw [← List.append_assoc, ← List.filter_append, List.take_append_drop]
  have hnS : (keysOf (U.drop (U.length - m))).Nodup := by
    unfold keysOf at hnd ⊢
    rw [List.map_drop]
    exact hnd.sublist (List.drop_sublist _ _)
  obtain ⟨h1, h2⟩ := rest_len hnS k x
  have hS : (U.drop (U.length - m)).length = U.length - (U.length - m) := List.length_drop
  have hX : ((U.take (U.length - m)).filter (fun p => !keyIs k p.f0)).length ≤ U.length - m := Nat.le_trans (List.length_filter_le _ _) (by rw [List.length_take]; omega)
  rw [hr]
  generalize (U.take (U.length - m)).filter (fun p => !keyIs k p.f0) = X at *
  unfold putL
  generalize restL (U.drop (U.length - m)) k x = R at *
  rw [List.length_append]
  by_cases c : (m : Int) < (R.length : Int)
  · rw [if_pos c, show X.length + R.length - m = X.length + 1 by omega, ← List.drop_drop, List.drop_left]
  · rw [if_neg c]
    by_cases c2 : R.length = m
    · rw [show X.length + R.length - m = X.length by omega, List.drop_left]
    · have : X = [] := List.eq_nil_of_length_eq_zero (by omega)
      subst this
      rw [show ([] : List S35).length + R.length - m = 0 by simp; omega]
      rfl
theorem all_nodup (l : List S35) : (keysOf (allL l)).Nodup := by
  unfold allL
  have : ∀ (l : List S35) (L : List S35), (keysOf L).Nodup → (keysOf (l.foldl (fun L p => restL L p.f0 (clipV p.f1)) L)).Nodup := by
    intro l
    induction l with
    | nil => intro L h; exact h
    | cons p l ih => intro L h; exact ih _ (rest_nodup L h _ _)
  exact this l [] (by simp [keysOf])
theorem puts_suffix (m : Nat) (l : List S35) : putsL (m : Int) [] l = (allL l).drop ((allL l).length - m) := by
  have H : ∀ (l U : List S35), (keysOf U).Nodup → putsL (m : Int) (U.drop (U.length - m)) l = (l.foldl (fun L p => restL L p.f0 (clipV p.f1)) U).drop ((l.foldl (fun L p => restL L p.f0 (clipV p.f1)) U).length - m) := by
    intro l
    induction l with
    | nil => intro U h; rfl
    | cons p l ih =>
      intro U h
      show putsL (m : Int) (putL (m : Int) (U.drop (U.length - m)) p.f0 (clipV p.f1)) l = _
      rw [put_suffix m U h]
      exact ih _ (rest_nodup U h _ _)
  have h2 := H l [] (by simp [keysOf])
  rw [List.drop_nil] at h2
  exact h2
theorem puts_room (m1 m2 : Nat) (h : m1 ≤ m2) (l : List S35) : (putsL (m1 : Int) [] l).length ≤ (putsL (m2 : Int) [] l).length ∧ (putsL (m2 : Int) [] l).drop ((putsL (m2 : Int) [] l).length - (putsL (m1 : Int) [] l).length) = putsL (m1 : Int) [] l := by
  rw [puts_suffix, puts_suffix, List.drop_drop, List.length_drop, List.length_drop]
  refine ⟨by omega, ?_⟩
  congr 1
  omega
theorem puts_len (m : Nat) (l : List S35) : (putsL (m : Int) [] l).length ≤ m := by
  rw [puts_suffix, List.length_drop]
  omega
def capN (c : Int) : Nat := (mn (mx c 0) 50).toNat
theorem cap_eq (c : Int) : mn (mx c 0) 50 = (capN c : Int) := by
  unfold capN mn mx
  omega
theorem cap_mono {a b : Int} (h : a ≤ b) : capN a ≤ capN b := by
  unfold capN mn mx
  omega
theorem cap_le (a : Int) : (capN a : Int) ≤ mx a 0 := by
  unfold capN mn mx
  omega
theorem feed_New_n (W : World) (c : Int) :
    Calls Try.prog 8 #[.int .i64 c] W fun e w' => ∃ g : Nat, e = .returned (.pointer (some ⟨g, 0, none⟩)) ∧ Fd w' (fun j => W.heap.size ≤ j ∧ j < w'.heap.size) g (capN c : Int) 0 [] ∧ Below W.heap.size W w' := by
  refine (feed_New W c).mono ?_
  rintro e w' ⟨g, rfl, h1, h2⟩
  rw [cap_eq] at h1
  exact ⟨g, rfl, h1.bound, h2⟩
theorem feed_Load_n (W : World) (own : Nat → Prop) (g : Nat) (most : Int) (n : Nat) (L : List S35) (A : Option Addr) (c k : Nat) (l : List S35) (hk0 : l.length = k) (h : Fd W own g most n L) (hl : ∀ w', Upd own W w' → Kd.C k35 w' A k l) (hc : k ≤ c) (hk : ∀ p ∈ l, p.f0.size ≤ maxLen) (hn : n + k < maxLen) :
    Calls Try.prog 9 #[.pointer (some ⟨g, 0, none⟩), .slice A k c] W fun e w' => e = .returned (.tuple #[]) ∧ Fd w' (fun j => (own j ∨ W.heap.size ≤ j) ∧ j < w'.heap.size) g most (n + k) (putsL most L l) ∧ Upd own W w' := by
  subst hk0
  refine (feed_Load W own g most n L A c l h hl hc hk hn).mono ?_
  rintro e w' ⟨rfl, h1, h2⟩
  exact ⟨rfl, h1.bound, h2⟩

end Go.Proofs.Ytfppafpkppjmlaa.QFeedPlays
