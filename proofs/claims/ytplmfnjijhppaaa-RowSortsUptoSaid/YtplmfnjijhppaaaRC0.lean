import Derived.Test.YtplmfnjijhppaaaQRowSortsx5
/- Row's sort, and the laws over it: walks by hand; the conditions stand in each theorem. -/
namespace Go.Proofs.Ytplmfnjijhppaaa.QRowSorts
open Go.RowKit Go.Proofs.YtplmfnjijhppaaaW.PrintWords Go.Proofs.YtplmfnjijhppaaaW.PrintLast Go.Proofs.YtplmfnjijhppaaaW.PrintMore
attribute [local go_sem] max2_int min2_int max_two min_two max_three min_three max_four min_four
set_option linter.unusedVariables false
set_option linter.unusedSimpArgs false
def lexL {α : Type} (c : α → α → Int) : List α → List α → Int
  | [], [] => 0
  | [], _ :: _ => -1
  | _ :: _, [] => 1
  | x :: a, y :: b => if c x y = 0 then lexL c a b else c x y
theorem lexL_rng {α : Type} {c : α → α → Int} (o : Ord3 c) : ∀ a b, -1 ≤ lexL c a b ∧ lexL c a b ≤ 1
  | [], [] => by simp [lexL]
  | [], _ :: _ => by simp [lexL]
  | _ :: _, [] => by simp [lexL]
  | x :: a, y :: b => by
    unfold lexL
    split
    · exact lexL_rng o a b
    · exact o.rng x y
theorem lexL_anti {α : Type} {c : α → α → Int} (o : Ord3 c) : ∀ a b, lexL c a b = -lexL c b a
  | [], [] => by simp [lexL]
  | [], _ :: _ => by simp [lexL]
  | _ :: _, [] => by simp [lexL]
  | x :: a, y :: b => by
    have h := o.anti x y
    have h' := lexL_anti o a b
    unfold lexL
    by_cases e : c x y = 0
    · rw [if_pos e, if_pos (by omega)]; exact h'
    · rw [if_neg e, if_neg (by omega)]; exact h
theorem lexL_eq0 {α : Type} {c : α → α → Int} (o : Ord3 c) : ∀ a b, lexL c a b = 0 ↔ a = b
  | [], [] => by simp [lexL]
  | [], _ :: _ => by simp [lexL]
  | _ :: _, [] => by simp [lexL]
  | x :: a, y :: b => by
    unfold lexL
    by_cases e : c x y = 0
    · rw [if_pos e, lexL_eq0 o a b, (o.eq0 x y).1 e]
      simp
    · rw [if_neg e]
      constructor
      · exact fun h => absurd h e
      · intro h
        injection h with h1 h2
        exact absurd ((o.eq0 x y).2 h1) e
theorem lexL_trans {α : Type} {c : α → α → Int} (o : Ord3 c) : ∀ a b d, lexL c a b ≤ 0 → lexL c b d ≤ 0 → lexL c a d ≤ 0
  | [], _, [], _, _ => by simp [lexL]
  | [], _, _ :: _, _, _ => by simp [lexL]
  | _ :: _, [], _, h, _ => by simp [lexL] at h
  | _ :: _, _ :: _, [], _, h => by simp [lexL] at h
  | x :: a, y :: b, z :: d, h1, h2 => by
    unfold lexL at h1 h2 ⊢
    by_cases e1 : c x y = 0
    · rw [if_pos e1] at h1
      have q1 := (o.eq0 _ _).1 e1
      rw [q1]
      by_cases e2 : c y z = 0
      · rw [if_pos e2] at h2 ⊢
        exact lexL_trans o a b d h1 h2
      · rw [if_neg e2] at h2 ⊢; exact h2
    · rw [if_neg e1] at h1
      have h1' : c x y < 0 := by omega
      have h2' : c y z ≤ 0 := by
        by_cases e2 : c y z = 0
        · omega
        · rw [if_neg e2] at h2; exact h2
      have := o.strict h1' h2'
      rw [if_neg (by omega)]; omega
theorem ordL {α : Type} {c : α → α → Int} (o : Ord3 c) : Ord3 (lexL c) := ⟨lexL_rng o, lexL_anti o, lexL_eq0 o, lexL_trans o⟩
theorem s36_ext {x y : S36} (h0 : x.f0 = y.f0) (h1 : x.f1 = y.f1) (h2 : x.f2 = y.f2) : x = y := by
  cases x; cases y; simp_all
theorem ba_eq {a b : ByteArray} (h : a.toList = b.toList) : a = b := by
  rw [ByteArray.toList_eq, ByteArray.toList_eq] at h
  cases a with
  | mk x => cases b with
    | mk y => simpa using h
def cVs (x y : S36) : Int := cV x.f0 x.f1 x.f2 y.f0 y.f1 y.f2
theorem ordVs : Ord3 cVs where
  rng a b := ordV.rng _ _
  anti a b := ordV.anti _ _
  eq0 a b := by
    have h := ordV.eq0 (a.f0, a.f1, a.f2.toList) (b.f0, b.f1, b.f2.toList)
    constructor
    · intro e
      have := h.1 e
      simp only [Prod.mk.injEq] at this
      exact s36_ext this.1 this.2.1 (ba_eq this.2.2)
    · rintro rfl
      exact h.2 rfl
  trans a b d := ordV.trans _ _ _
theorem cmpR_lex : ∀ a b, cmpR a b = lexL cVs a b
  | [], [] => rfl
  | [], _ :: _ => rfl
  | _ :: _, [] => rfl
  | x :: a, y :: b => by
    unfold cmpR lexL
    rw [cmpR_lex a b]
    rfl
theorem ordR : Ord3 cmpR := by
  have : cmpR = lexL cVs := funext fun a => funext fun b => cmpR_lex a b
  rw [this]
  exact ordL ordVs
/- The one rising list of the same rows. -/
def sortR (l : List (List S36)) : List (List S36) := l.mergeSort (fun x y => decide (cmpR x y ≤ 0))
theorem le_trans_R (a b c : List S36) : decide (cmpR a b ≤ 0) = true → decide (cmpR b c ≤ 0) = true → decide (cmpR a c ≤ 0) = true := by
  simp only [decide_eq_true_eq]
  exact ordR.trans a b c
theorem le_total_R (a b : List S36) : (decide (cmpR a b ≤ 0) || decide (cmpR b a ≤ 0)) = true := by
  have := ordR.anti a b
  simp only [Bool.or_eq_true, decide_eq_true_eq]
  omega
theorem sortR_perm (l : List (List S36)) : (sortR l).Perm l := List.mergeSort_perm _ _
theorem sortR_sorted (l : List (List S36)) : (sortR l).Pairwise (fun x y => cmpR x y ≤ 0) := by
  have h := List.pairwise_mergeSort (le := fun x y => decide (cmpR x y ≤ 0)) le_trans_R le_total_R l
  exact h.imp (fun h => of_decide_eq_true h)
theorem sortR_unique {l s : List (List S36)} (hp : s.Perm l) (hs : s.Pairwise (fun x y => cmpR x y ≤ 0)) : s = sortR l := by
  refine List.Perm.eq_of_pairwise (le := fun x y => cmpR x y ≤ 0) ?_ hs (sortR_sorted l) (hp.trans (sortR_perm l).symm)
  intro a b _ _ h1 h2
  have := ordR.anti a b
  exact (ordR.eq0 a b).1 (by omega)

end Go.Proofs.Ytplmfnjijhppaaa.QRowSorts
