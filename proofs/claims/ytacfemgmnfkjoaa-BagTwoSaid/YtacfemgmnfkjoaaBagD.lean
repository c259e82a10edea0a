import Derived.Test.YtacfemgmnfkjoaaBagC
import Derived.Sort.KeysCollected
/- Bag: walks of the bag's functions, by hand; the conditions stand in each theorem. -/
namespace Go.Proofs.Ytacfemgmnfkjoaa.QBag
open Go.RowKit Go.Proofs.YtacfemgmnfkjoaaW.PrintWords Go.Proofs.YtacfemgmnfkjoaaW.PrintLast Go.Proofs.YtacfemgmnfkjoaaW.PrintMore
attribute [local go_sem] max2_int min2_int max_two min_two max_three min_three max_four min_four
set_option linter.unusedVariables false
set_option linter.unusedSimpArgs false
open Go.Sort in
theorem strKeys_ok {w : World} {B n : Nat} {D : DataW Unit} (h : w.ownsMap Try.prog 9 (plainElem Try.prog 3) B n D) : (strKeys D).Nodup ∧ ∀ x, x ∈ strKeys D ↔ Maps.has D (.string x) = true := by
  obtain ⟨es, hD, hp, hk⟩ := h.entries map_law
  obtain ⟨es2, hD2, hk2⟩ := h.keysOf
  rw [hD] at hD2
  injection hD2 with e
  subst e
  subst hD
  have hs : ∀ p ∈ es, p.1 = .string (strOf p.1) := fun p hp => by
    obtain ⟨v, hv⟩ := hk2 p hp
    obtain ⟨x, _, e, _⟩ := Maps.keyOf_str Try.underlying9 hv
    rw [e]
    rfl
  refine ⟨?_, fun x => ?_⟩
  · unfold strKeys
    rw [List.Nodup, List.pairwise_map]
    refine hp.imp_of_mem (fun {a b} ha hb hne e => hne ?_)
    rw [hs a ha, hs b hb, e]
  · unfold strKeys
    rw [Maps.has_eq, List.mem_map, List.any_eq_true]
    constructor
    · rintro ⟨p, hp, rfl⟩
      exact ⟨p, hp, by rw [← hs p hp]; exact WideAt.sameKey_self (hk p hp)⟩
    · rintro ⟨p, hp, hsk⟩
      have := WideAt.sameKey_eq hsk
      exact ⟨p, hp, by rw [this]; rfl⟩
/- The order of texts. -/
def ltB (a b : ByteArray) : Prop := a.data.toList < b.data.toList
theorem ltB_of {a b : ByteArray} (h : a.data.toList ≤ b.data.toList) (hne : a ≠ b) : ltB a b := by
  unfold ltB
  refine Decidable.byContradiction (fun hn => hne ?_)
  exact ba_eq.1 (List.le_antisymm h hn)
def strs (l : List ByteArray) : List Value := l.map Value.string
theorem Q_strs {w : World} {base : Nat} {v : Value} {ks : List ByteArray} (h : w.ownsRow base 9 1 v ks.length (strs ks)) : Kd.Q Kd.string 9 w base (fun _ => True) v ks := by
  refine ⟨fun _ _ => trivial, strs ks, q_of_own h, ?_⟩
  refine ⟨by simp [strs, Kd.string, Kd.scalar], fun j x hj => ?_⟩
  obtain ⟨hl, rfl⟩ := List.getElem?_eq_some_iff.1 hj
  show (List.drop (j * 1) (strs ks)).take 1 = [.string ks[j]]
  rw [Nat.mul_one, List.drop_eq_getElem_cons (by simpa [strs] using hl)]
  simp [strs]
def toBA (x : List UInt8) : ByteArray := ⟨x.toArray⟩
theorem toBA_list (x : List UInt8) : (toBA x).data.toList = x := by simp [toBA]
/- What is there, rising, each once. -/
def Kinds (l ks : List ByteArray) : Prop := ks.Pairwise ltB ∧ ∀ s, s ∈ ks ↔ s ∈ l
open Go.Sort in
theorem kinds_of {l : List ByteArray} {ss : List (List UInt8)} {D : DataW Unit} (hnd : (strKeys D).Nodup) (hm : ∀ x, x ∈ strKeys D ↔ Maps.has D (.string x) = true) (hf : ∀ s : ByteArray, Maps.has D (.string s.data.toList) = (cntF l s).isSome) (hp : ss.Perm (strKeys D)) : Kinds l ((ss.mergeSort (fun x y => decide (x ≤ y))).map toBA) := by
  have tr : ∀ a b c : List UInt8, decide (a ≤ b) = true → decide (b ≤ c) = true → decide (a ≤ c) = true := fun a b c h1 h2 => by simp only [decide_eq_true_eq] at *; exact List.le_trans h1 h2
  have tot : ∀ a b : List UInt8, (decide (a ≤ b) || decide (b ≤ a)) = true := fun a b => by simp only [Bool.or_eq_true, decide_eq_true_eq]; exact List.le_total a b
  have hs := List.pairwise_mergeSort tr tot ss
  have hperm := List.mergeSort_perm ss (fun x y : List UInt8 => decide (x ≤ y))
  have hnd2 : (ss.mergeSort (fun x y => decide (x ≤ y))).Nodup := (hperm.nodup_iff.2 (hp.nodup_iff.2 hnd))
  refine ⟨?_, fun s => ?_⟩
  · rw [List.pairwise_map]
    refine (hs.and hnd2).imp (fun {a b} h => ltB_of ?_ ?_)
    · rw [toBA_list, toBA_list]
      simpa using h.1
    · intro e
      have := congrArg (fun x : ByteArray => x.data.toList) e
      simp only [toBA_list] at this
      exact h.2 this
  · rw [List.mem_map]
    have h2 : ∀ x, x ∈ ss.mergeSort (fun x y => decide (x ≤ y)) ↔ Maps.has D (.string x) = true := fun x => (hperm.mem_iff.trans hp.mem_iff).trans (hm x)
    have h3 : s ∈ l ↔ Maps.has D (.string s.data.toList) = true := by
      rw [hf s]
      unfold cntF
      by_cases c : l.count s = 0
      · rw [if_pos c]
        simp [List.count_eq_zero.1 c]
      · rw [if_neg c]
        simp only [Option.isSome_some, iff_true]
        exact List.count_pos_iff.1 (by omega)
    constructor
    · rintro ⟨x, hx, rfl⟩
      rw [h3, toBA_list]
      exact (h2 x).1 hx
    · intro h
      exact ⟨s.data.toList, (h2 _).2 (h3.1 h), ba_eq.1 (toBA_list _)⟩
theorem kinds_nil {ks : List ByteArray} (h : ks = []) : Kinds [] ks := by
  subst h
  exact ⟨List.Pairwise.nil, fun s => Iff.rfl⟩
theorem kinds_le {l ks : List ByteArray} (h : Kinds l ks) : ks.length ≤ l.length := by
  obtain ⟨hp, hm⟩ := h
  have hnd : ks.Nodup := hp.imp (fun {a b} h e => by subst e; exact List.lt_irrefl _ h)
  have : ∀ (ks l : List ByteArray), ks.Nodup → (∀ s ∈ ks, s ∈ l) → ks.length ≤ l.length := by
    intro ks
    induction ks with
    | nil => intro l _ _; simp
    | cons k ks ih =>
      intro l hnd hm
      have hk := hm k (List.mem_cons_self)
      have h2 := List.nodup_cons.1 hnd
      have := ih (l.erase k) h2.2 (fun s hs => (List.mem_erase_of_ne (fun e => h2.1 (by rw [← e]; exact hs))).2 (hm s (List.mem_cons_of_mem _ hs)))
      rw [List.length_erase_of_mem hk] at this
      have := List.length_pos_of_mem hk
      simp only [List.length_cons]
      omega
  exact this ks l hnd (fun s hs => (hm s).1 hs)

end Go.Proofs.Ytacfemgmnfkjoaa.QBag
