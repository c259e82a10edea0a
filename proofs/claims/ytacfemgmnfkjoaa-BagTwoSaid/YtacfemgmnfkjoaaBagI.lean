import Derived.Test.YtacfemgmnfkjoaaBagH
import Derived.Sort.Walk0
/- Bag: walks of the bag's functions, by hand; the conditions stand in each theorem. -/
namespace Go.Proofs.Ytacfemgmnfkjoaa.QBag
open Go.RowKit Go.Proofs.YtacfemgmnfkjoaaW.PrintWords Go.Proofs.YtacfemgmnfkjoaaW.PrintLast Go.Proofs.YtacfemgmnfkjoaaW.PrintMore
attribute [local go_sem] max2_int min2_int max_two min_two max_three min_three max_four min_four
set_option linter.unusedVariables false
set_option linter.unusedSimpArgs false
instance decLtB (a b : ByteArray) : Decidable (ltB a b) := inferInstanceAs (Decidable (a.data.toList < b.data.toList))
theorem ltS {a b : ByteArray} : Op.bytesLess a.toList b.toList = decide (ltB a b) := by
  rw [Go.Proofs.bytesLess_eq, ByteArray.toList_eq, ByteArray.toList_eq]
  rfl
theorem eqS {a b : ByteArray} : (a.toList == b.toList) = decide (a = b) := by
  rw [ByteArray.toList_eq, ByteArray.toList_eq]
  by_cases h : a = b
  · subst h; simp
  · rw [decide_eq_false h, beq_eq_false_iff_ne]
    exact fun e => h (ba_eq.1 e)
theorem ltB_irrefl (a : ByteArray) : ¬ ltB a a := fun h => List.lt_irrefl _ h
theorem ltB_trans {a b c : ByteArray} (h : ltB a b) (h2 : ltB b c) : ltB a c := List.lt_trans h h2
theorem leS_false {a b : ByteArray} (h : ltB b a) : (Op.bytesLess a.toList b.toList || a.toList == b.toList) = false := by
  rw [ltS, eqS, decide_eq_false (fun h2 => ltB_irrefl _ (ltB_trans h h2)), decide_eq_false (fun e => ltB_irrefl _ (e ▸ h))]
  rfl
def cntSum (l ks : List ByteArray) : Nat := (ks.map (fun s => l.count s)).sum
theorem sum_add (ks : List ByteArray) (f g : ByteArray → Nat) : (ks.map (fun s => f s + g s)).sum = (ks.map f).sum + (ks.map g).sum := by
  induction ks with
  | nil => rfl
  | cons k ks ih => simp only [List.map_cons, List.sum_cons, ih]; omega
theorem sum_one (ks : List ByteArray) (a : ByteArray) : (ks.map (fun s => if a == s then 1 else 0)).sum = ks.count a := by
  induction ks with
  | nil => rfl
  | cons k ks ih =>
    rw [List.map_cons, List.sum_cons, ih, List.count_cons]
    by_cases h : a = k
    · subst h; simp; omega
    · have h2 : ¬ k = a := fun e => h e.symm
      simp [h, h2]
theorem cntSum_all {l ks : List ByteArray} (hnd : ks.Nodup) (hm : ∀ s ∈ l, s ∈ ks) : cntSum l ks = l.length := by
  induction l with
  | nil =>
    unfold cntSum
    have : ∀ ks : List ByteArray, (ks.map (fun s => ([] : List ByteArray).count s)).sum = 0 := by
      intro ks
      induction ks with
      | nil => rfl
      | cons k ks ih => simpa using ih
    exact this ks
  | cons a l ih =>
    have h1 := ih (fun s hs => hm s (List.mem_cons_of_mem _ hs))
    unfold cntSum at h1 ⊢
    have h2 : (ks.map (fun s => (a :: l).count s)).sum = (ks.map (fun s => l.count s + (if a == s then 1 else 0))).sum := by
      congr 1
      refine List.map_congr_left (fun s _ => ?_)
      rw [List.count_cons]
    rw [h2, sum_add, h1, sum_one, List.length_cons]
    have h3 : ks.count a = 1 := by
      have := List.nodup_iff_count.1 hnd a
      have := List.count_pos_iff.2 (hm a List.mem_cons_self)
      omega
    rw [h3]
theorem kinds_sum {l ks : List ByteArray} (h : Kinds l ks) : cntSum l ks = l.length := cntSum_all (kinds_nodup h) (fun s hs => (h.2 s).2 hs)
theorem cntSum_take (l ks : List ByteArray) (i : Nat) (hi : i < ks.length) : cntSum l (ks.take (i + 1)) = cntSum l (ks.take i) + l.count ks[i] := by
  unfold cntSum
  rw [List.take_succ_eq_append_getElem hi, List.map_append, List.sum_append]
  simp
theorem cntSum_le (l ks : List ByteArray) (i : Nat) : cntSum l (ks.take i) ≤ cntSum l ks := by
  unfold cntSum
  have e : ks = ks.take i ++ ks.drop i := (List.take_append_drop i ks).symm
  have : (ks.map (fun s => l.count s)).sum = ((ks.take i).map (fun s => l.count s)).sum + ((ks.drop i).map (fun s => l.count s)).sum := by
    rw [← List.sum_append, ← List.map_append, ← e]
  omega
def nD (l : List ByteArray) : Nat := min l.length 200
theorem nD_if (l : List ByteArray) : (if (200 : Int) < (l.length : Int) then (200 : Int) else (l.length : Int)) = (nD l : Int) := by
  unfold nD
  by_cases c : (200 : Int) < (l.length : Int)
  · rw [if_pos c]; omega
  · rw [if_neg c]; omega
theorem C_nD {W : World} {A : Option Addr} {l : List ByteArray} (h : Kd.C Kd.string W A l.length l) : Kd.C Kd.string W A (nD l) (l.take (nD l)) := by
  have h := Kd.C_take h (m := nD l) (by unfold nD; omega)
  have e : (l.take (nD l)).length = nD l := by rw [List.length_take]; unfold nD; omega
  rw [e] at h
  exact h
theorem len_nD (l : List ByteArray) : (l.take (nD l)).length = nD l := by rw [List.length_take]; unfold nD; omega

end Go.Proofs.Ytacfemgmnfkjoaa.QBag
