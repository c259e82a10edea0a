import Derived.Test.YtacfemgmnfkjoaaBagZa
/- Bag: walks of the bag's functions, by hand; the conditions stand in each theorem. -/
namespace Go.Proofs.Ytacfemgmnfkjoaa.QBag
open Go.RowKit Go.Proofs.YtacfemgmnfkjoaaW.PrintWords Go.Proofs.YtacfemgmnfkjoaaW.PrintLast Go.Proofs.YtacfemgmnfkjoaaW.PrintMore
attribute [local go_sem] max2_int min2_int max_two min_two max_three min_three max_four min_four
set_option linter.unusedVariables false
set_option linter.unusedSimpArgs false
theorem withinB_perm {a a' b b' : List ByteArray} (h1 : a.Perm a') (h2 : b.Perm b') : withinB a b = withinB a' b' := by
  rw [Bool.eq_iff_iff, within_iff, within_iff]
  exact ⟨fun h s => by rw [← List.perm_iff_count.1 h1 s, ← List.perm_iff_count.1 h2 s]; exact h s, fun h s => by rw [List.perm_iff_count.1 h1 s, List.perm_iff_count.1 h2 s]; exact h s⟩
theorem sameB_perm {a a' b b' : List ByteArray} (h1 : a.Perm a') (h2 : b.Perm b') : sameB a b = sameB a' b' := by
  rw [sameB_two, sameB_two, withinB_perm h1 h2, withinB_perm h2 h1]
set_option maxHeartbeats 16000000 in
set_option maxRecDepth 20000 in
theorem bag_TwoLaw (W : World) (A1 : Option Addr) (c1 : Nat) (l : List ByteArray) (A2 : Option Addr) (c2 : Nat) (m : List ByteArray) (hr1 : Kd.C Kd.string W A1 l.length l) (hc1 : l.length ≤ c1) (hk1 : ∀ s ∈ l, s.size ≤ maxLen) (hr2 : Kd.C Kd.string W A2 m.length m) (hc2 : m.length ≤ c2) (hk2 : ∀ s ∈ m, s.size ≤ maxLen) :
    Calls Try.prog 6 #[.slice A1 l.length c1, .slice A2 m.length c2] W fun e w' => e = .returned (.bool true) ∧ Below W.heap.size W w' := by
  have HR_l : Aside0 (∀ w', Below W.heap.size W w' → Kd.C Kd.string w' A1 (nD l) (l.take (nD l))) := ⟨fun w' hb => C_nD (Kd.C_below hr1 hb)⟩
  have HLE_l := Aside0.mk (len_nD l)
  have hif_l := nD_if l
  have hn_l : nD l ≤ 200 := by unfold nD; omega
  have hnc_l : nD l ≤ c1 := by unfold nD; omega
  have HK_l : Aside0 (∀ s ∈ l.take (nD l), s.size ≤ maxLen) := ⟨fun s hs => hk1 s (List.mem_of_mem_take hs)⟩
  have HR_m : Aside0 (∀ w', Below W.heap.size W w' → Kd.C Kd.string w' A2 (nD m) (m.take (nD m))) := ⟨fun w' hb => C_nD (Kd.C_below hr2 hb)⟩
  have HLE_m := Aside0.mk (len_nD m)
  have hif_m := nD_if m
  have hn_m : nD m ≤ 200 := by unfold nD; omega
  have hnc_m : nD m ≤ c2 := by unfold nD; omega
  have HK_m : Aside0 (∀ s ∈ m.take (nD m), s.size ≤ maxLen) := ⟨fun s hs => hk2 s (List.mem_of_mem_take hs)⟩
  clear hr1 hk1 hr2 hk2
  generalize hlt : l.take (nD l) = ld at *
  clear hlt
  generalize nD l = nl at *
  generalize hlt : m.take (nD m) = md at *
  clear hlt
  generalize nD m = nm at *
  have hle1 := HLE_l.out
  have hle2 := HLE_m.out
  have HAPL : Aside0 ((ld ++ md).length = nl + nm) := ⟨by rw [List.length_append, hle1, hle2]⟩
  have hll := lessL_len ld md
  rw [hle1] at hll
  have HLL := Aside0.mk hll
  clear hll
  obtain ⟨sv, hsv⟩ : ∃ v, sameB ld md = v := ⟨_, rfl⟩
  obtain ⟨v1, hv1⟩ : ∃ v, withinB ld md = v := ⟨_, rfl⟩
  obtain ⟨v2, hv2⟩ : ∃ v, withinB md ld = v := ⟨_, rfl⟩
  have HSV := Aside0.mk hsv
  have HV1 := Aside0.mk hv1
  have HV2 := Aside0.mk hv2
  clear hsv hv1 hv2
  have HW := Aside0.mk (Below.refl W.heap.size W)
  go_enter Try.func6, Try.ntmps6
  have MK1 : Aside0 True := ⟨trivial⟩
  have MK3 : Aside0 True := ⟨trivial⟩
  have MK7 : Aside0 True := ⟨trivial⟩
  have MK10 : Aside0 True := ⟨trivial⟩
  have MK11 : Aside0 True := ⟨trivial⟩
  have MK15 : Aside0 True := ⟨trivial⟩
  have MK16 : Aside0 True := ⟨trivial⟩
  go_wp2_with (first
    | (go_at_call 9; refine (bag_examples _).mono ?_; rintro e wz ⟨rfl, hb⟩; have HW := Aside0.mk (below_on HW.out hb); clear hb)
    | (go_at_call 10; have mk1 := MK1.out; refine (bag_Of_n _ A1 c1 nl ld HLE_l.out (HR_l.out _ HW.out) hnc_l HK_l.out (by omega)).mono ?_; rintro e wz ⟨g1, rfl, h1, hb⟩; have HW := Aside0.mk (below_on HW.out hb); have H1 := Aside0.mk h1; clear h1; clear hb; clear mk1 MK1)
    | (go_at_call 10; refine (bag_Of_n _ A2 c2 nm md HLE_m.out (HR_m.out _ HW.out) hnc_m HK_m.out (by omega)).mono ?_; rintro e wz ⟨g2, rfl, h1, hb⟩; have H1 := Aside0.mk (H1.out.on hb); have HW := Aside0.mk (below_on HW.out hb); have H2 := Aside0.mk h1; clear h1; clear hb)
    | (go_at_call 14; have mk3 := MK3.out; refine (ref_OfB _ A1 c1 nl ld HLE_l.out (HR_l.out _ HW.out) hnc_l HK_l.out (by omega)).mono ?_; rintro e wz ⟨x1, L1, rfl, h1, hp, hs, hb⟩; have H1 := Aside0.mk (H1.out.on hb); have H2 := Aside0.mk (H2.out.on hb); have HW := Aside0.mk (below_on HW.out hb); have X1 := Aside0.mk h1; clear h1; have P1 := Aside0.mk hp; have S1 := Aside0.mk hs; clear hp hs; clear hb; clear mk3 MK3)
    | (go_at_call 14; refine (ref_OfB _ A2 c2 nm md HLE_m.out (HR_m.out _ HW.out) hnc_m HK_m.out (by omega)).mono ?_; rintro e wz ⟨x2, L2, rfl, h1, hp, hs, hb⟩; have H1 := Aside0.mk (H1.out.on hb); have H2 := Aside0.mk (H2.out.on hb); have X1 := Aside0.mk (X1.out.on hb); have HW := Aside0.mk (below_on HW.out hb); have X2 := Aside0.mk h1; clear h1; have P2 := Aside0.mk hp; have S2 := Aside0.mk hs; clear hp hs; clear hb)
    | (go_at_call 22; refine (bag_Both _ _ _ g1 g2 nl nm ld md (ld ++ md) H1.out H2.out (by omega) (by omega) (by have := HAPL.out; omega) (fun s => List.count_append)).mono ?_; rintro e wz ⟨g3, n3, rfl, h1, hn3, hb⟩; have H1 := Aside0.mk (H1.out.on hb); have H2 := Aside0.mk (H2.out.on hb); have X1 := Aside0.mk (X1.out.on hb); have X2 := Aside0.mk (X2.out.on hb); have HW := Aside0.mk (below_on HW.out hb); have H3 := Aside0.mk h1; clear h1; clear hb)
    | (go_at_call 23; refine (ref_BothB _ _ _ x1 x2 L1 L2 X1.out X2.out (by have := P1.out.length_eq; have := HLE_l.out; omega) (by have := P2.out.length_eq; have := HLE_m.out; omega)).mono ?_; rintro e wz ⟨x3, L3, rfl, h1, hp, hs, hb⟩; have H1 := Aside0.mk (H1.out.on hb); have H2 := Aside0.mk (H2.out.on hb); have X1 := Aside0.mk (X1.out.on hb); have X2 := Aside0.mk (X2.out.on hb); have H3 := Aside0.mk (H3.out.on hb); have HW := Aside0.mk (below_on HW.out hb); have X3 := Aside0.mk h1; clear h1; have P3 := Aside0.mk hp; have S3 := Aside0.mk hs; clear hp hs; clear hb)
    | (go_at_call 20; have mk7 := MK7.out; refine (law_same _ _ _ g3 x3 n3 (ld ++ md) L3 H3.out X3.out (P3.out.trans (List.Perm.append P1.out P2.out)) S3.out (by have := HAPL.out; omega) (by have h9 := (P3.out.trans (List.Perm.append P1.out P2.out)).length_eq; have := HAPL.out; omega)).mono ?_; rintro e wz ⟨rfl, hb⟩; have H1 := Aside0.mk (H1.out.on hb); have H2 := Aside0.mk (H2.out.on hb); have X1 := Aside0.mk (X1.out.on hb); have X2 := Aside0.mk (X2.out.on hb); have H3 := Aside0.mk (H3.out.on hb); have X3 := Aside0.mk (X3.out.on hb); have HW := Aside0.mk (below_on HW.out hb); clear hb; clear mk7 MK7)
    | (go_at_call 24; refine (bag_Less _ _ _ g1 g2 nl nm ld md (lessL ld md) H1.out H2.out (by omega) (by omega) (by have := HLL.out; omega) (fun s => lessL_count md ld s)).mono ?_; rintro e wz ⟨g4, n4, rfl, h1, hn4, hb⟩; have H1 := Aside0.mk (H1.out.on hb); have H2 := Aside0.mk (H2.out.on hb); have X1 := Aside0.mk (X1.out.on hb); have X2 := Aside0.mk (X2.out.on hb); have H3 := Aside0.mk (H3.out.on hb); have X3 := Aside0.mk (X3.out.on hb); have HW := Aside0.mk (below_on HW.out hb); have H4 := Aside0.mk h1; clear h1; clear hb)
    | (go_at_call 25; refine (ref_LessB _ _ _ x1 x2 L1 L2 X1.out X2.out (by have := P1.out.length_eq; have := HLE_l.out; omega) (by have := P2.out.length_eq; have := HLE_m.out; omega)).mono ?_; rintro e wz ⟨x4, L4, rfl, h1, hp, hs, hb⟩; have H1 := Aside0.mk (H1.out.on hb); have H2 := Aside0.mk (H2.out.on hb); have X1 := Aside0.mk (X1.out.on hb); have X2 := Aside0.mk (X2.out.on hb); have H3 := Aside0.mk (H3.out.on hb); have X3 := Aside0.mk (X3.out.on hb); have H4 := Aside0.mk (H4.out.on hb); have HW := Aside0.mk (below_on HW.out hb); have X4 := Aside0.mk h1; clear h1; have P4 := Aside0.mk hp; have S4 := Aside0.mk hs; clear hp hs; have P5 : Aside0 (L4.Perm (lessL ld md)) := ⟨P4.out.trans (List.perm_iff_count.2 (fun s => by rw [lessL_count, lessL_count, List.perm_iff_count.1 P1.out s, List.perm_iff_count.1 P2.out s]))⟩; clear hb)
    | (go_at_call 20; have mk10 := MK10.out; refine (law_same _ _ _ g4 x4 n4 (lessL ld md) L4 H4.out X4.out P5.out S4.out (by have := HLL.out; have := HLE_l.out; have := HLE_m.out; omega) (by have h9 := P5.out.length_eq; have := HLL.out; omega)).mono ?_; rintro e wz ⟨rfl, hb⟩; have H1 := Aside0.mk (H1.out.on hb); have H2 := Aside0.mk (H2.out.on hb); have X1 := Aside0.mk (X1.out.on hb); have X2 := Aside0.mk (X2.out.on hb); have H3 := Aside0.mk (H3.out.on hb); have X3 := Aside0.mk (X3.out.on hb); have H4 := Aside0.mk (H4.out.on hb); have X4 := Aside0.mk (X4.out.on hb); have HW := Aside0.mk (below_on HW.out hb); clear hb; clear mk10 MK10)
    | (go_at_call 20; have mk11 := MK11.out; refine (law_same _ _ _ g1 x1 nl ld L1 H1.out X1.out P1.out S1.out (by omega) (by have h9 := P1.out.length_eq; have := HLE_l.out; omega)).mono ?_; rintro e wz ⟨rfl, hb⟩; have H1 := Aside0.mk (H1.out.on hb); have H2 := Aside0.mk (H2.out.on hb); have X1 := Aside0.mk (X1.out.on hb); have X2 := Aside0.mk (X2.out.on hb); have H3 := Aside0.mk (H3.out.on hb); have X3 := Aside0.mk (X3.out.on hb); have H4 := Aside0.mk (H4.out.on hb); have X4 := Aside0.mk (X4.out.on hb); have HW := Aside0.mk (below_on HW.out hb); clear hb; clear mk11 MK11)
    | (go_at_call 20; refine (law_same _ _ _ g2 x2 nm md L2 H2.out X2.out P2.out S2.out (by omega) (by have h9 := P2.out.length_eq; have := HLE_m.out; omega)).mono ?_; rintro e wz ⟨rfl, hb⟩; have H1 := Aside0.mk (H1.out.on hb); have H2 := Aside0.mk (H2.out.on hb); have X1 := Aside0.mk (X1.out.on hb); have X2 := Aside0.mk (X2.out.on hb); have H3 := Aside0.mk (H3.out.on hb); have X3 := Aside0.mk (X3.out.on hb); have H4 := Aside0.mk (H4.out.on hb); have X4 := Aside0.mk (X4.out.on hb); have HW := Aside0.mk (below_on HW.out hb); clear hb)
    | (go_at_call 26; refine (bag_Same_b _ _ _ g1 g2 _ _ _ _ H1.out H2.out).mono ?_; rw [HSV.out]; rintro e wz ⟨rfl, hb⟩; have H1 := Aside0.mk (H1.out.on hb); have H2 := Aside0.mk (H2.out.on hb); have X1 := Aside0.mk (X1.out.on hb); have X2 := Aside0.mk (X2.out.on hb); have H3 := Aside0.mk (H3.out.on hb); have X3 := Aside0.mk (X3.out.on hb); have H4 := Aside0.mk (H4.out.on hb); have X4 := Aside0.mk (X4.out.on hb); have HW := Aside0.mk (below_on HW.out hb); clear hb)
    | (go_at_call 27; refine (ref_SameB _ _ _ x1 x2 L1 L2 X1.out X2.out S1.out S2.out (by have := P1.out.length_eq; have := HLE_l.out; omega) (by have := P2.out.length_eq; have := HLE_m.out; omega)).mono ?_; rw [sameB_perm P1.out P2.out, HSV.out]; rintro e wz ⟨rfl, hb⟩; have H1 := Aside0.mk (H1.out.on hb); have H2 := Aside0.mk (H2.out.on hb); have X1 := Aside0.mk (X1.out.on hb); have X2 := Aside0.mk (X2.out.on hb); have H3 := Aside0.mk (H3.out.on hb); have X3 := Aside0.mk (X3.out.on hb); have H4 := Aside0.mk (H4.out.on hb); have X4 := Aside0.mk (X4.out.on hb); have HW := Aside0.mk (below_on HW.out hb); clear hb)
    | (go_at_call 28; have mk15 := MK15.out; refine (bag_Within _ _ _ g1 g2 _ _ _ _ H1.out H2.out).mono ?_; rw [HV1.out]; rintro e wz ⟨rfl, hb⟩; have H1 := Aside0.mk (H1.out.on hb); have H2 := Aside0.mk (H2.out.on hb); have X1 := Aside0.mk (X1.out.on hb); have X2 := Aside0.mk (X2.out.on hb); have H3 := Aside0.mk (H3.out.on hb); have X3 := Aside0.mk (X3.out.on hb); have H4 := Aside0.mk (H4.out.on hb); have X4 := Aside0.mk (X4.out.on hb); have HW := Aside0.mk (below_on HW.out hb); clear hb; clear mk15 MK15)
    | (go_at_call 29; have mk16 := MK16.out; refine (ref_WithinB _ _ _ x1 x2 L1 L2 X1.out X2.out S1.out (by have := P1.out.length_eq; have := HLE_l.out; omega)).mono ?_; rw [withinB_perm P1.out P2.out, HV1.out]; rintro e wz ⟨rfl, hb⟩; have H1 := Aside0.mk (H1.out.on hb); have H2 := Aside0.mk (H2.out.on hb); have X1 := Aside0.mk (X1.out.on hb); have X2 := Aside0.mk (X2.out.on hb); have H3 := Aside0.mk (H3.out.on hb); have X3 := Aside0.mk (X3.out.on hb); have H4 := Aside0.mk (H4.out.on hb); have X4 := Aside0.mk (X4.out.on hb); have HW := Aside0.mk (below_on HW.out hb); clear hb; clear mk16 MK16)
    | (go_at_call 28; refine (bag_Within _ _ _ g2 g1 _ _ _ _ H2.out H1.out).mono ?_; rw [HV2.out]; rintro e wz ⟨rfl, hb⟩; have H1 := Aside0.mk (H1.out.on hb); have H2 := Aside0.mk (H2.out.on hb); have X1 := Aside0.mk (X1.out.on hb); have X2 := Aside0.mk (X2.out.on hb); have H3 := Aside0.mk (H3.out.on hb); have X3 := Aside0.mk (X3.out.on hb); have H4 := Aside0.mk (H4.out.on hb); have X4 := Aside0.mk (X4.out.on hb); have HW := Aside0.mk (below_on HW.out hb); clear hb)
    | (go_at_call 29; refine (ref_WithinB _ _ _ x2 x1 L2 L1 X2.out X1.out S2.out (by have := P2.out.length_eq; have := HLE_m.out; omega)).mono ?_; rw [withinB_perm P2.out P1.out, HV2.out]; rintro e wz ⟨rfl, hb⟩; have H1 := Aside0.mk (H1.out.on hb); have H2 := Aside0.mk (H2.out.on hb); have X1 := Aside0.mk (X1.out.on hb); have X2 := Aside0.mk (X2.out.on hb); have H3 := Aside0.mk (H3.out.on hb); have X3 := Aside0.mk (X3.out.on hb); have H4 := Aside0.mk (H4.out.on hb); have X4 := Aside0.mk (X4.out.on hb); have HW := Aside0.mk (below_on HW.out hb); clear hb))
  go_ret
  exact ⟨rfl, HW.out⟩

end Go.Proofs.Ytacfemgmnfkjoaa.QBag
