import Derived.Test.YtacfemgmnfkjoaaBagN
/- Bag: walks of the bag's functions, by hand; the conditions stand in each theorem. -/
namespace Go.Proofs.Ytacfemgmnfkjoaa.QBag
open Go.RowKit Go.Proofs.YtacfemgmnfkjoaaW.PrintWords Go.Proofs.YtacfemgmnfkjoaaW.PrintLast Go.Proofs.YtacfemgmnfkjoaaW.PrintMore
attribute [local go_sem] max2_int min2_int max_two min_two max_three min_three max_four min_four
set_option linter.unusedVariables false
set_option linter.unusedSimpArgs false
theorem perm_of {T R : List ByteArray} (h : ∀ s, T.count s ≤ R.count s) (hl : T.length = R.length) : T.Perm R := by
  induction T generalizing R with
  | nil =>
    have : R = [] := List.eq_nil_of_length_eq_zero (by simpa using hl.symm)
    rw [this]
  | cons x T ih =>
    have hx := h x
    rw [List.count_cons] at hx
    simp only [beq_self_eq_true, if_true] at hx
    have hm : x ∈ R := List.count_pos_iff.1 (by omega)
    have hlp := List.length_pos_of_mem hm
    have h2 := ih (R := R.erase x) (fun s => by
      have := h s
      rw [List.count_cons] at this
      rw [List.count_erase]
      by_cases c : (x == s) = true
      · rw [if_pos c] at this ⊢; omega
      · rw [if_neg c] at this ⊢; omega) (by rw [List.length_erase_of_mem hm]; simp only [List.length_cons] at hl; omega)
    exact (List.Perm.cons x h2).trans (List.perm_cons_erase hm).symm
def sameB (a b : List ByteArray) : Bool := decide (a.length = b.length) && withinB a b
theorem sameB_iff (a b : List ByteArray) : sameB a b = true ↔ a.Perm b := by
  unfold sameB
  rw [Bool.and_eq_true, decide_eq_true_iff, within_iff]
  exact ⟨fun h => perm_of h.2 h.1, fun h => ⟨h.length_eq, fun s => by rw [List.perm_iff_count.1 h s]; exact Nat.le_refl _⟩⟩
theorem sameB_two (a b : List ByteArray) : sameB a b = (withinB a b && withinB b a) := by
  rw [Bool.eq_iff_iff, sameB_iff, Bool.and_eq_true, within_iff, within_iff, List.perm_iff_count]
  exact ⟨fun h => ⟨fun s => Nat.le_of_eq (h s), fun s => Nat.le_of_eq (h s).symm⟩, fun h s => Nat.le_antisymm (h.1 s) (h.2 s)⟩
def lessL (a b : List ByteArray) : List ByteArray := b.foldl (fun l s => l.erase s) a
theorem lessL_count (b : List ByteArray) : ∀ (a : List ByteArray) (s : ByteArray), (lessL a b).count s = a.count s - b.count s := by
  induction b with
  | nil => intro a s; simp [lessL]
  | cons x b ih =>
    intro a s
    show (lessL (a.erase x) b).count s = _
    rw [ih, List.count_erase, List.count_cons]
    by_cases c : (x == s) = true
    · rw [if_pos c]; omega
    · rw [if_neg c]; omega
theorem lessL_len (a b : List ByteArray) : (lessL a b).length ≤ a.length := count_len (fun s => by rw [lessL_count]; omega)
theorem lessL_nil (a b : List ByteArray) : (decide ((lessL a b).length = 0)) = withinB a b := by
  rw [Bool.eq_iff_iff, decide_eq_true_iff, within_iff]
  constructor
  · intro h s
    have h2 := lessL_count b a s
    rw [List.eq_nil_of_length_eq_zero h] at h2
    simp at h2
    omega
  · intro h
    have : (lessL a b).Perm [] := List.perm_iff_count.2 (fun s => by rw [lessL_count]; have := h s; simp; omega)
    rw [this.eq_nil]
    rfl
theorem bag_Same_b (W : World) (oA oB : Nat → Prop) (ga gb na nb : Nat) (a b : List ByteArray) (hA : Bg W oA ga na a) (hB : Bg W oB gb nb b) :
    Calls Try.prog 26 #[.pointer (some ⟨ga, 0, none⟩), .pointer (some ⟨gb, 0, none⟩)] W fun e w' => e = .returned (.bool (sameB a b)) ∧ Below W.heap.size W w' := bag_Same W oA oB ga gb na nb a b hA hB
def nH (l : List ByteArray) : Nat := min l.length 100
theorem nH_if (l : List ByteArray) : (if (100 : Int) < (l.length : Int) then (100 : Int) else (l.length : Int)) = (nH l : Int) := by
  unfold nH
  by_cases c : (100 : Int) < (l.length : Int)
  · rw [if_pos c]; omega
  · rw [if_neg c]; omega
theorem C_nH {W : World} {A : Option Addr} {l : List ByteArray} (h : Kd.C Kd.string W A l.length l) : Kd.C Kd.string W A (nH l) (l.take (nH l)) := by
  have h := Kd.C_take h (m := nH l) (by unfold nH; omega)
  have e : (l.take (nH l)).length = nH l := by rw [List.length_take]; unfold nH; omega
  rw [e] at h
  exact h
theorem len_nH (l : List ByteArray) : (l.take (nH l)).length = nH l := by rw [List.length_take]; unfold nH; omega
set_option maxHeartbeats 16000000 in
set_option maxRecDepth 20000 in
theorem bag_LessLaw (W : World) (A1 : Option Addr) (c1 : Nat) (l : List ByteArray) (A2 : Option Addr) (c2 : Nat) (m : List ByteArray) (hr1 : Kd.C Kd.string W A1 l.length l) (hc1 : l.length ≤ c1) (hk1 : ∀ s ∈ l, s.size ≤ maxLen) (hr2 : Kd.C Kd.string W A2 m.length m) (hc2 : m.length ≤ c2) (hk2 : ∀ s ∈ m, s.size ≤ maxLen) :
    Calls Try.prog 8 #[.slice A1 l.length c1, .slice A2 m.length c2] W fun e w' => e = .returned (.bool true) ∧ Below W.heap.size W w' := by
  have HR_l : Aside0 (∀ w', Below W.heap.size W w' → Kd.C Kd.string w' A1 (nH l) (l.take (nH l))) := ⟨fun w' hb => C_nH (Kd.C_below hr1 hb)⟩
  have HLE_l := Aside0.mk (len_nH l)
  have hif_l := nH_if l
  have hn_l : nH l ≤ 100 := by unfold nH; omega
  have hnc_l : nH l ≤ c1 := by unfold nH; omega
  have HK_l : Aside0 (∀ s ∈ l.take (nH l), s.size ≤ maxLen) := ⟨fun s hs => hk1 s (List.mem_of_mem_take hs)⟩
  have HR_m : Aside0 (∀ w', Below W.heap.size W w' → Kd.C Kd.string w' A2 (nH m) (m.take (nH m))) := ⟨fun w' hb => C_nH (Kd.C_below hr2 hb)⟩
  have HLE_m := Aside0.mk (len_nH m)
  have hif_m := nH_if m
  have hn_m : nH m ≤ 100 := by unfold nH; omega
  have hnc_m : nH m ≤ c2 := by unfold nH; omega
  have HK_m : Aside0 (∀ s ∈ m.take (nH m), s.size ≤ maxLen) := ⟨fun s hs => hk2 s (List.mem_of_mem_take hs)⟩
  clear hr1 hk1 hr2 hk2
  generalize hlt : l.take (nH l) = ld at *
  clear hlt
  generalize nH l = nl at *
  generalize hlt : m.take (nH m) = md at *
  clear hlt
  generalize nH m = nm at *
  have hll := lessL_len ld md
  have hll2 := lessL_len ld (lessL ld md)
  have hle1 := HLE_l.out
  have hle2 := HLE_m.out
  have E1 : Aside0 (withinB (lessL ld (lessL ld md)) md = true) := ⟨(within_iff _ _).2 (fun s => by simp only [lessL_count]; omega)⟩
  have E2 : Aside0 (withinB (lessL ld md) ld = true) := ⟨(within_iff _ _).2 (fun s => by rw [lessL_count]; omega)⟩
  have E3 : Aside0 (sameB (lessL ld md ++ lessL ld (lessL ld md)) ld = true) := ⟨(sameB_iff _ _).2 (List.perm_iff_count.2 (fun s => by simp only [List.count_append, lessL_count]; omega))⟩
  obtain ⟨wv, hwv⟩ : ∃ wv, withinB ld md = wv := ⟨_, rfl⟩
  have E4 := Aside0.mk hwv
  have E5 : decide (((lessL ld md).length : Int) = 0) = wv := by
    rw [← hwv, ← lessL_nil]
    rw [decide_eq_decide]
    omega
  obtain ⟨ln, hln⟩ : ∃ ln, (lessL ld md).length = ln := ⟨_, rfl⟩
  have E6 := Aside0.mk hln
  rw [hln] at E5 hll
  rw [hle1] at hll hll2
  have HL1 := Aside0.mk hll
  have HL2 := Aside0.mk hll2
  have HEX : Aside0 (∀ R : List ByteArray, (∀ s, R.count s = (lessL ld md).count s + (lessL ld (lessL ld md)).count s) → R.length ≤ 1000) := ⟨fun R hR => by
    have := count_len (T := R) (R := lessL ld md ++ lessL ld (lessL ld md)) (fun s => by rw [hR, List.count_append]; exact Nat.le_refl _)
    rw [List.length_append] at this
    omega⟩
  clear hwv hln hll hll2
  rcases (show wv = true ∨ wv = false by cases wv <;> simp) with rfl | rfl
  · have hz : ln = 0 := by simpa using E5
    subst hz
    clear E5
    have HW := Aside0.mk (Below.refl W.heap.size W)
    go_enter Try.func8, Try.ntmps8
    have MK1 : Aside0 True := ⟨trivial⟩
    have MK3 : Aside0 True := ⟨trivial⟩
    have MK5 : Aside0 True := ⟨trivial⟩
    have MK6 : Aside0 True := ⟨trivial⟩
    go_wp2_with (first
      | (go_at_call 9; refine (bag_examples _).mono ?_; rintro e wz ⟨rfl, hb⟩; have HW := Aside0.mk (below_on HW.out hb); clear hb)
      | (go_at_call 10; have mk1 := MK1.out; refine (bag_Of_n _ A1 c1 nl ld HLE_l.out (HR_l.out _ HW.out) hnc_l HK_l.out (by omega)).mono ?_; rintro e wz ⟨g1, rfl, h1, hb⟩; have HW := Aside0.mk (below_on HW.out hb); have H1 := Aside0.mk h1; clear h1; clear hb; clear mk1 MK1)
      | (go_at_call 10; refine (bag_Of_n _ A2 c2 nm md HLE_m.out (HR_m.out _ HW.out) hnc_m HK_m.out (by omega)).mono ?_; rintro e wz ⟨g2, rfl, h1, hb⟩; have H1 := Aside0.mk (H1.out.on hb); have HW := Aside0.mk (below_on HW.out hb); have H2 := Aside0.mk h1; clear h1; clear hb)
      | (go_at_call 24; have mk3 := MK3.out; refine (bag_Less _ _ _ g1 g2 nl nm ld md (lessL ld md) H1.out H2.out (by omega) (by omega) (by have := HL1.out; have := E6.out; omega) (fun s => lessL_count md ld s)).mono ?_; rintro e wz ⟨g3, n3, rfl, h1, hn3, hb⟩; have H1 := Aside0.mk (H1.out.on hb); have H2 := Aside0.mk (H2.out.on hb); have HW := Aside0.mk (below_on HW.out hb); have H3 := Aside0.mk h1; clear h1; clear hb; clear mk3 MK3)
      | (go_at_call 24; refine (bag_Less _ _ _ g1 g3 nl n3 ld (lessL ld md) (lessL ld (lessL ld md)) H1.out H3.out (by omega) (by have := HL1.out; have := E6.out; have := HLE_l.out; have := HLE_m.out; omega) (by have := HL2.out; omega) (fun s => lessL_count _ ld s)).mono ?_; rintro e wz ⟨g4, n4, rfl, h1, hn4, hb⟩; have H1 := Aside0.mk (H1.out.on hb); have H2 := Aside0.mk (H2.out.on hb); have H3 := Aside0.mk (H3.out.on hb); have HW := Aside0.mk (below_on HW.out hb); have H4 := Aside0.mk h1; clear h1; clear hb)
      | (go_at_call 28; have mk5 := MK5.out; refine (bag_Within _ _ _ g4 g2 _ _ _ _ H4.out H2.out).mono ?_; rw [E1.out]; rintro e wz ⟨rfl, hb⟩; have H1 := Aside0.mk (H1.out.on hb); have H2 := Aside0.mk (H2.out.on hb); have H3 := Aside0.mk (H3.out.on hb); have H4 := Aside0.mk (H4.out.on hb); have HW := Aside0.mk (below_on HW.out hb); clear hb; clear mk5 MK5)
      | (go_at_call 28; have mk6 := MK6.out; refine (bag_Within _ _ _ g3 g1 _ _ _ _ H3.out H1.out).mono ?_; rw [E2.out]; rintro e wz ⟨rfl, hb⟩; have H1 := Aside0.mk (H1.out.on hb); have H2 := Aside0.mk (H2.out.on hb); have H3 := Aside0.mk (H3.out.on hb); have H4 := Aside0.mk (H4.out.on hb); have HW := Aside0.mk (below_on HW.out hb); clear hb; clear mk6 MK6)
      | (go_at_call 22; refine (bag_Both _ _ _ g3 g4 n3 n4 (lessL ld md) (lessL ld (lessL ld md)) (lessL ld md ++ lessL ld (lessL ld md)) H3.out H4.out (by have := HL1.out; have := E6.out; have := HLE_l.out; have := HLE_m.out; omega) (by have := HL1.out; have := HL2.out; have := E6.out; have := HLE_l.out; have := HLE_m.out; omega) (by have := HL1.out; have := HL2.out; have := E6.out; rw [List.length_append]; omega) (fun s => List.count_append)).mono ?_; rintro e wz ⟨g5, n5, rfl, h1, hn5, hb⟩; have H1 := Aside0.mk (H1.out.on hb); have H2 := Aside0.mk (H2.out.on hb); have H3 := Aside0.mk (H3.out.on hb); have H4 := Aside0.mk (H4.out.on hb); have HW := Aside0.mk (below_on HW.out hb); have H5 := Aside0.mk h1; clear h1; clear hb)
      | (go_at_call 26; refine (bag_Same_b _ _ _ g5 g1 _ _ _ _ H5.out H1.out).mono ?_; rw [E3.out]; rintro e wz ⟨rfl, hb⟩; have H1 := Aside0.mk (H1.out.on hb); have H2 := Aside0.mk (H2.out.on hb); have H3 := Aside0.mk (H3.out.on hb); have H4 := Aside0.mk (H4.out.on hb); have H5 := Aside0.mk (H5.out.on hb); have HW := Aside0.mk (below_on HW.out hb); clear hb)
      | (go_at_call 13; refine (bag_Len _ _ g3 _ _ H3.out).mono ?_; rw [E6.out]; rintro e wz ⟨rfl, rfl⟩)
      | (go_at_call 28; refine (bag_Within _ _ _ g1 g2 _ _ _ _ H1.out H2.out).mono ?_; rw [E4.out]; rintro e wz ⟨rfl, hb⟩; have H1 := Aside0.mk (H1.out.on hb); have H2 := Aside0.mk (H2.out.on hb); have H3 := Aside0.mk (H3.out.on hb); have H4 := Aside0.mk (H4.out.on hb); have H5 := Aside0.mk (H5.out.on hb); have HW := Aside0.mk (below_on HW.out hb); clear hb))
    go_ret
    exact ⟨rfl, HW.out⟩
  · have hz : ¬ (ln : Int) = 0 := by simpa using E5
    have hzb : ((ln : Int) == 0) = false := by simpa using hz
    clear E5 hz
    have HW := Aside0.mk (Below.refl W.heap.size W)
    go_enter Try.func8, Try.ntmps8
    have MK1 : Aside0 True := ⟨trivial⟩
    have MK3 : Aside0 True := ⟨trivial⟩
    have MK5 : Aside0 True := ⟨trivial⟩
    have MK6 : Aside0 True := ⟨trivial⟩
    go_wp2_with (first
      | (go_at_call 9; refine (bag_examples _).mono ?_; rintro e wz ⟨rfl, hb⟩; have HW := Aside0.mk (below_on HW.out hb); clear hb)
      | (go_at_call 10; have mk1 := MK1.out; refine (bag_Of_n _ A1 c1 nl ld HLE_l.out (HR_l.out _ HW.out) hnc_l HK_l.out (by omega)).mono ?_; rintro e wz ⟨g1, rfl, h1, hb⟩; have HW := Aside0.mk (below_on HW.out hb); have H1 := Aside0.mk h1; clear h1; clear hb; clear mk1 MK1)
      | (go_at_call 10; refine (bag_Of_n _ A2 c2 nm md HLE_m.out (HR_m.out _ HW.out) hnc_m HK_m.out (by omega)).mono ?_; rintro e wz ⟨g2, rfl, h1, hb⟩; have H1 := Aside0.mk (H1.out.on hb); have HW := Aside0.mk (below_on HW.out hb); have H2 := Aside0.mk h1; clear h1; clear hb)
      | (go_at_call 24; have mk3 := MK3.out; refine (bag_Less _ _ _ g1 g2 nl nm ld md (lessL ld md) H1.out H2.out (by omega) (by omega) (by have := HL1.out; have := E6.out; omega) (fun s => lessL_count md ld s)).mono ?_; rintro e wz ⟨g3, n3, rfl, h1, hn3, hb⟩; have H1 := Aside0.mk (H1.out.on hb); have H2 := Aside0.mk (H2.out.on hb); have HW := Aside0.mk (below_on HW.out hb); have H3 := Aside0.mk h1; clear h1; clear hb; clear mk3 MK3)
      | (go_at_call 24; refine (bag_Less _ _ _ g1 g3 nl n3 ld (lessL ld md) (lessL ld (lessL ld md)) H1.out H3.out (by omega) (by have := HL1.out; have := E6.out; have := HLE_l.out; have := HLE_m.out; omega) (by have := HL2.out; omega) (fun s => lessL_count _ ld s)).mono ?_; rintro e wz ⟨g4, n4, rfl, h1, hn4, hb⟩; have H1 := Aside0.mk (H1.out.on hb); have H2 := Aside0.mk (H2.out.on hb); have H3 := Aside0.mk (H3.out.on hb); have HW := Aside0.mk (below_on HW.out hb); have H4 := Aside0.mk h1; clear h1; clear hb)
      | (go_at_call 28; have mk5 := MK5.out; refine (bag_Within _ _ _ g4 g2 _ _ _ _ H4.out H2.out).mono ?_; rw [E1.out]; rintro e wz ⟨rfl, hb⟩; have H1 := Aside0.mk (H1.out.on hb); have H2 := Aside0.mk (H2.out.on hb); have H3 := Aside0.mk (H3.out.on hb); have H4 := Aside0.mk (H4.out.on hb); have HW := Aside0.mk (below_on HW.out hb); clear hb; clear mk5 MK5)
      | (go_at_call 28; have mk6 := MK6.out; refine (bag_Within _ _ _ g3 g1 _ _ _ _ H3.out H1.out).mono ?_; rw [E2.out]; rintro e wz ⟨rfl, hb⟩; have H1 := Aside0.mk (H1.out.on hb); have H2 := Aside0.mk (H2.out.on hb); have H3 := Aside0.mk (H3.out.on hb); have H4 := Aside0.mk (H4.out.on hb); have HW := Aside0.mk (below_on HW.out hb); clear hb; clear mk6 MK6)
      | (go_at_call 22; refine (bag_Both _ _ _ g3 g4 n3 n4 (lessL ld md) (lessL ld (lessL ld md)) (lessL ld md ++ lessL ld (lessL ld md)) H3.out H4.out (by have := HL1.out; have := E6.out; have := HLE_l.out; have := HLE_m.out; omega) (by have := HL1.out; have := HL2.out; have := E6.out; have := HLE_l.out; have := HLE_m.out; omega) (by have := HL1.out; have := HL2.out; have := E6.out; rw [List.length_append]; omega) (fun s => List.count_append)).mono ?_; rintro e wz ⟨g5, n5, rfl, h1, hn5, hb⟩; have H1 := Aside0.mk (H1.out.on hb); have H2 := Aside0.mk (H2.out.on hb); have H3 := Aside0.mk (H3.out.on hb); have H4 := Aside0.mk (H4.out.on hb); have HW := Aside0.mk (below_on HW.out hb); have H5 := Aside0.mk h1; clear h1; clear hb)
      | (go_at_call 26; refine (bag_Same_b _ _ _ g5 g1 _ _ _ _ H5.out H1.out).mono ?_; rw [E3.out]; rintro e wz ⟨rfl, hb⟩; have H1 := Aside0.mk (H1.out.on hb); have H2 := Aside0.mk (H2.out.on hb); have H3 := Aside0.mk (H3.out.on hb); have H4 := Aside0.mk (H4.out.on hb); have H5 := Aside0.mk (H5.out.on hb); have HW := Aside0.mk (below_on HW.out hb); clear hb)
      | (go_at_call 13; refine (bag_Len _ _ g3 _ _ H3.out).mono ?_; rw [E6.out]; rintro e wz ⟨rfl, rfl⟩)
      | (go_at_call 28; refine (bag_Within _ _ _ g1 g2 _ _ _ _ H1.out H2.out).mono ?_; rw [E4.out]; rintro e wz ⟨rfl, hb⟩; have H1 := Aside0.mk (H1.out.on hb); have H2 := Aside0.mk (H2.out.on hb); have H3 := Aside0.mk (H3.out.on hb); have H4 := Aside0.mk (H4.out.on hb); have H5 := Aside0.mk (H5.out.on hb); have HW := Aside0.mk (below_on HW.out hb); clear hb))
    go_ret
    exact ⟨rfl, HW.out⟩

end Go.Proofs.Ytacfemgmnfkjoaa.QBag
