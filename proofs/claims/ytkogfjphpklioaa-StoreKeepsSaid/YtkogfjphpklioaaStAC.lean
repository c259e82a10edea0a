import Derived.Test.YtkogfjphpklioaaStAA
import Derived.Test.YtkogfjphpklioaaStKK
import Derived.Sort.KeysCollected
import Derived.Maps.RangeWalk
/- Store: walks by hand; the conditions stand in each theorem. -/
namespace Go.Proofs.Ytkogfjphpklioaa.QStoreNames
open Go.RowKit Go.Proofs.YtkogfjphpklioaaW.PrintWords Go.Proofs.YtkogfjphpklioaaW.PrintLast Go.Proofs.YtkogfjphpklioaaW.PrintMore
attribute [local go_sem] max2_int min2_int max_two min_two max_three min_three max_four min_four
set_option linter.unusedVariables false
set_option linter.unusedSimpArgs false
open Go.Maps
theorem ba_eq {a b : ByteArray} : a.data.toList = b.data.toList ↔ a = b := ⟨fun h => ByteArray.ext (Array.toList_inj.1 h), fun h => by rw [h]⟩
open Go.Sort in
theorem strKeys_ok {w : World} {B n : Nat} {D : DataW Value} (h : w.ownsMap Try.prog 9 rdV B n D) : (strKeys D).Nodup ∧ ∀ x, x ∈ strKeys D ↔ Maps.has D (.string x) = true := by
  obtain ⟨es, hD, hp, hk⟩ := h.entries map_law
  obtain ⟨es2, hD2, hk2⟩ := h.keysOf
  rw [hD] at hD2
  injection hD2 with e
  subst e
  subst hD
  have hs : ∀ p ∈ es, p.1 = .string (strOf p.1) := fun p hp => by
    obtain ⟨v, hv⟩ := hk2 p hp
    obtain ⟨x, _, e, _⟩ := Maps.keyOf_str Try.underlying9 hv
    rw [e]
    rfl
  refine ⟨?_, fun x => ?_⟩
  · unfold strKeys
    rw [List.Nodup, List.pairwise_map]
    refine hp.imp_of_mem (fun {a b} ha hb hne e => hne ?_)
    rw [hs a ha, hs b hb, e]
  · unfold strKeys
    rw [Maps.has_eq, List.mem_map, List.any_eq_true]
    constructor
    · rintro ⟨p, hp, rfl⟩
      exact ⟨p, hp, by rw [← hs p hp]; exact WideAt.sameKey_self (hk p hp)⟩
    · rintro ⟨p, hp, hsk⟩
      have := WideAt.sameKey_eq hsk
      exact ⟨p, hp, by rw [this]; rfl⟩
/- The order of texts. -/
def ltB (a b : ByteArray) : Prop := a.data.toList < b.data.toList
theorem ltB_of {a b : ByteArray} (h : a.data.toList ≤ b.data.toList) (hne : a ≠ b) : ltB a b := by
  unfold ltB
  refine Decidable.byContradiction (fun hn => hne ?_)
  exact ba_eq.1 (List.le_antisymm h hn)
def strs (l : List ByteArray) : List Value := l.map Value.string
theorem Q_strs {w : World} {base : Nat} {v : Value} {ks : List ByteArray} (h : w.ownsRow base 9 1 v ks.length (strs ks)) : Kd.Q Kd.string 9 w base (fun _ => True) v ks := by
  refine ⟨fun _ _ => trivial, strs ks, q_of_own h, ?_⟩
  refine ⟨by simp [strs, Kd.string, Kd.scalar], fun j x hj => ?_⟩
  obtain ⟨hl, rfl⟩ := List.getElem?_eq_some_iff.1 hj
  show (List.drop (j * 1) (strs ks)).take 1 = [.string ks[j]]
  rw [Nat.mul_one, List.drop_eq_getElem_cons (by simpa [strs] using hl)]
  simp [strs]
def toBA (x : List UInt8) : ByteArray := ⟨x.toArray⟩
theorem toBA_list (x : List UInt8) : (toBA x).data.toList = x := by simp [toBA]
/- What is there, rising, each once. -/
def KindsF (F : ByteArray → Bool) (ks : List ByteArray) : Prop := ks.Pairwise ltB ∧ ∀ s, s ∈ ks ↔ F s = true
open Go.Sort in
theorem kinds_of {F : ByteArray → Bool} {ss : List (List UInt8)} {D : DataW Value} (hnd : (strKeys D).Nodup) (hm : ∀ x, x ∈ strKeys D ↔ Maps.has D (.string x) = true) (hf : ∀ s : ByteArray, Maps.has D (.string s.data.toList) = F s) (hp : ss.Perm (strKeys D)) : KindsF F ((ss.mergeSort (fun x y => decide (x ≤ y))).map toBA) := by
  have tr : ∀ a b c : List UInt8, decide (a ≤ b) = true → decide (b ≤ c) = true → decide (a ≤ c) = true := fun a b c h1 h2 => by simp only [decide_eq_true_eq] at *; exact List.le_trans h1 h2
  have tot : ∀ a b : List UInt8, (decide (a ≤ b) || decide (b ≤ a)) = true := fun a b => by simp only [Bool.or_eq_true, decide_eq_true_eq]; exact List.le_total a b
  have hs := List.pairwise_mergeSort tr tot ss
  have hperm := List.mergeSort_perm ss (fun x y : List UInt8 => decide (x ≤ y))
  have hnd2 : (ss.mergeSort (fun x y => decide (x ≤ y))).Nodup := (hperm.nodup_iff.2 (hp.nodup_iff.2 hnd))
  refine ⟨?_, fun s => ?_⟩
  · rw [List.pairwise_map]
    refine (hs.and hnd2).imp (fun {a b} h => ltB_of ?_ ?_)
    · rw [toBA_list, toBA_list]
      simpa using h.1
    · intro e
      have := congrArg (fun x : ByteArray => x.data.toList) e
      simp only [toBA_list] at this
      exact h.2 this
  · rw [List.mem_map]
    have h2 : ∀ x, x ∈ ss.mergeSort (fun x y => decide (x ≤ y)) ↔ Maps.has D (.string x) = true := fun x => (hperm.mem_iff.trans hp.mem_iff).trans (hm x)
    have h3 : F s = true ↔ Maps.has D (.string s.data.toList) = true := by rw [hf s]
    constructor
    · rintro ⟨x, hx, rfl⟩
      rw [h3, toBA_list]
      exact (h2 x).1 hx
    · intro h
      exact ⟨s.data.toList, (h2 _).2 (h3.1 h), ByteArray.ext (Array.toList_inj.1 (toBA_list _))⟩
open Go.Sort Go.Shelf in
theorem keys_end {W V w2 : World} {F : ByteArray → Bool} {v : Value} {ss : List (List UInt8)} (hK : KindsF F ((ss.mergeSort (fun x y => decide (x ≤ y))).map toBA)) (hrow : w2.ownsRow V.heap.size 9 1 v ss.length ((ss.mergeSort (fun x y => decide (x ≤ y))).map Go.Proofs.encStr)) (hV : Below W.heap.size W V) (hb : Below V.heap.size V w2) :
    ∃ A c ks, v = .slice A ks.length c ∧ ks.length = ss.length ∧ Kd.C Kd.string w2 A ks.length ks ∧ KindsF F ks ∧ Below W.heap.size W w2 := by
  have hl : ((ss.mergeSort (fun x y => decide (x ≤ y))).map toBA).length = ss.length := by simp
  have he : (ss.mergeSort (fun x y => decide (x ≤ y))).map Go.Proofs.encStr = strs ((ss.mergeSort (fun x y => decide (x ≤ y))).map toBA) := by unfold strs; rw [List.map_map]; rfl
  rw [he, ← hl] at hrow
  obtain ⟨A, c, e, hc, hC⟩ := Kd.Q_reads (Q_strs hrow)
  exact ⟨A, c, _, e, hl, hC, hK, below_step hV hb⟩
theorem kf_has {w : World} {b0 : Nat} {P : Nat → Prop} {f : ByteArray → Option Value} {F : ByteArray → Option (List (List Int))} (h : KF w b0 P f F) (s : ByteArray) : (f s).isSome = (F s).isSome := by
  rcases h s with ⟨h1, h2⟩ | ⟨L, v, h1, h2, _⟩ <;> rw [h1, h2] <;> rfl
open Go.Sort Go.Shelf in
set_option maxRecDepth 8000 in
set_option maxHeartbeats 2000000 in
theorem store_keys (W : World) (g b0 n : Nat) (a : Value) (P : Nat → Prop) (F : ByteArray → Option (List (List Int))) (h : Kst W g b0 n a P F) (hn : n * 16 ≤ 140737488355328) :
    Calls Try.prog 40 #[.pointer (some ⟨g, 1, none⟩)] W fun e w' => ∃ A c ks, e = .returned (.slice A ks.length c) ∧ ks.length ≤ n ∧ Kd.C Kd.string w' A ks.length ks ∧ KindsF (fun s => (F s).isSome) ks ∧ Below W.heap.size W w' := by
  refine (callsIn_wide (n := 6)).1 ?_
  have hfK : Fence.wide.fn 48 := trivial
  have hfS : Fence.wide.fn 47 := trivial
  rcases h.out with ⟨h1, hF⟩ | ⟨B, f, h1, _, ⟨D, hown, hf⟩, hKF⟩
  · have hc0 : W.cell? ⟨g, 1, none⟩ = some (.map none) := (blk_cell h1 1).trans rfl
    have HF : Aside0 (KindsF (fun s => (F s).isSome) []) := ⟨⟨List.Pairwise.nil, fun s => by simp [hF s]⟩⟩
    clear h1 h hF
    refine callsIn_of_wp Try.func40 rfl trivial ?_ rfl
    simp only [Try.ntmps40, List.size_toArray, List.length_cons, List.length_nil, Nat.reduceAdd, Nat.reduceSub, Array.replicate_succ, Array.replicate_zero, List.push_toArray, List.append_toArray, List.nil_append, List.cons_append]
    gi_wp2_with (first
      | (gi_at_call 48; refine (sk_maps_Keys _ _).mono ?_; rintro e w' ⟨rfl, rfl⟩)
      | (gi_at_call 47; refine (sk_Sorted_keys_nil W).mono ?_; rintro e w2 ⟨v, ss, rfl, hS, hrow, hnil, hb⟩; subst hS; have HE := Aside0.mk (keys_end (F := fun s => (F s).isSome) (by simpa using HF.out) hrow (below_alloc (Below.refl _ _) _) hb); clear hrow hb hnil))
    obtain ⟨A, c, ks, rfl, h1, h2, h3, h4⟩ := HE.out
    go_ret
    exact ⟨A, c, ks, rfl, by rw [h1]; exact Nat.zero_le _, h2, h3, h4⟩
  · have hc0 : W.cell? ⟨g, 1, none⟩ = some (.map (some B)) := (blk_cell h1 1).trans rfl
    have hsz := hown.size_le
    obtain ⟨k1, k2⟩ := strKeys_ok hown
    have HK := Aside0.mk (fun (ss : List (List UInt8)) (hp : ss.Perm (strKeys D)) => kinds_of (F := fun s => (F s).isSome) k1 k2 (fun s => (hf s).1.trans (kf_has hKF s)) hp)
    have HLN : Aside0 (∀ ss : List (List UInt8), ss.Perm (strKeys D) → ss.length ≤ n) := ⟨fun ss hp => by rw [hp.length_eq]; obtain ⟨es, hD, _⟩ := hown.entries map_law; rw [hD] at hsz ⊢; simpa [strKeys, Maps.size] using hsz⟩
    have HS : Aside0 (Maps.size D ≤ maxLen ∧ Maps.size D * 16 ≤ 140737488355328) := ⟨by unfold maxLen; omega, by omega⟩
    have HO := Aside0.mk hown
    clear h1 hf hown hsz k1 k2 hKF h
    refine callsIn_of_wp Try.func40 rfl trivial ?_ rfl
    simp only [Try.ntmps40, List.size_toArray, List.length_cons, List.length_nil, Nat.reduceAdd, Nat.reduceSub, Array.replicate_succ, Array.replicate_zero, List.push_toArray, List.append_toArray, List.nil_append, List.cons_append]
    gi_wp2_with (first
      | (gi_at_call 48; refine (sk_maps_Keys _ _).mono ?_; rintro e w' ⟨rfl, rfl⟩)
      | (gi_at_call 47; refine (sk_Sorted_keys B n D rdV W HO.out HS.out.1 HS.out.2).mono ?_; rintro e w2 ⟨v, ss, rfl, hS, hrow, hnil, hb⟩; have HE := Aside0.mk (keys_end (HK.out ss hS) hrow (below_alloc (Below.refl _ _) _) hb); have HN := HLN.out ss hS; clear hrow hb hnil hS))
    obtain ⟨A, c, ks, rfl, h1, h2, h3, h4⟩ := HE.out
    go_ret
    exact ⟨A, c, ks, rfl, by rw [h1]; exact HN, h2, h3, h4⟩
set_option maxRecDepth 8000 in
set_option maxHeartbeats 2000000 in
theorem store_Signs (W : World) (g b0 n : Nat) (a : Value) (P : Nat → Prop) (F : ByteArray → Option (List (List Int))) (h : Kst W g b0 n a P F) (hn : n * 16 ≤ 140737488355328) :
    Calls Try.prog 22 #[.pointer (some ⟨g, 0, none⟩)] W fun e w' => ∃ A c ks, e = .returned (.slice A ks.length c) ∧ ks.length ≤ n ∧ Kd.C Kd.string w' A ks.length ks ∧ KindsF (fun s => (F s).isSome) ks ∧ Below W.heap.size W w' := by
  have HN := Aside0.mk (store_keys W g b0 n a P F h hn)
  clear h
  go_enter Try.func22, Try.ntmps22
  go_wp2_with (go_at_call 40; refine HN.out.mono ?_; rintro e w1 ⟨A, c, ks, rfl, h1, h2, h3, h4⟩; have HE := Aside0.mk (And.intro h1 (And.intro h2 (And.intro h3 h4))); clear h1 h2 h3 h4)
  go_ret
  exact ⟨A, c, ks, rfl, HE.out⟩

end Go.Proofs.Ytkogfjphpklioaa.QStoreNames
