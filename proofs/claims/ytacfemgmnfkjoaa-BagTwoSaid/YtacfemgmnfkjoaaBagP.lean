import Derived.Test.YtacfemgmnfkjoaaBagO
/- Bag: walks of the bag's functions, by hand; the conditions stand in each theorem. -/
namespace Go.Proofs.Ytacfemgmnfkjoaa.QBag
open Go.RowKit Go.Proofs.YtacfemgmnfkjoaaW.PrintWords Go.Proofs.YtacfemgmnfkjoaaW.PrintLast Go.Proofs.YtacfemgmnfkjoaaW.PrintMore
attribute [local go_sem] max2_int min2_int max_two min_two max_three min_three max_four min_four
set_option linter.unusedVariables false
set_option linter.unusedSimpArgs false
theorem infoS : (Try.prog.info? 9).map (fun i => (i.zero, i.size, i.bytes)) = some (some (.string (⟨#[]⟩ : ByteArray)), 1, 16) := by kernel_rfl
theorem rev_step (l : List ByteArray) (k : Nat) (hk : k < l.length) : (l.drop k).reverse = (l.drop (k + 1)).reverse ++ [l[k]] := by
  rw [List.drop_eq_getElem_cons hk, List.reverse_cons]
set_option maxHeartbeats 16000000 in
set_option maxRecDepth 20000 in
theorem bag_BackLaw (W : World) (A1 : Option Addr) (c1 : Nat) (l : List ByteArray) (A2 : Option Addr) (c2 : Nat) (m : List ByteArray) (hr1 : Kd.C Kd.string W A1 l.length l) (hc1 : l.length ≤ c1) (hk1 : ∀ s ∈ l, s.size ≤ maxLen) (hr2 : Kd.C Kd.string W A2 m.length m) (hc2 : m.length ≤ c2) (hk2 : ∀ s ∈ m, s.size ≤ maxLen) :
    Calls Try.prog 7 #[.slice A1 l.length c1, .slice A2 m.length c2] W fun e w' => e = .returned (.bool true) ∧ Below W.heap.size W w' := by
  have HR_l : Aside0 (∀ w', Below W.heap.size W w' → Kd.C Kd.string w' A1 (nD l) (l.take (nD l))) := ⟨fun w' hb => C_nD (Kd.C_below hr1 hb)⟩
  have HLE_l := Aside0.mk (len_nD l)
  have hif_l := nD_if l
  have hn_l : nD l ≤ 200 := by unfold nD; omega
  have hnc_l : nD l ≤ c1 := by unfold nD; omega
  have HK_l : Aside0 (∀ s ∈ l.take (nD l), s.size ≤ maxLen) := ⟨fun s hs => hk1 s (List.mem_of_mem_take hs)⟩
  have HR_m : Aside0 (∀ w', Below W.heap.size W w' → Kd.C Kd.string w' A2 (nD m) (m.take (nD m))) := ⟨fun w' hb => C_nD (Kd.C_below hr2 hb)⟩
  have HLE_m := Aside0.mk (len_nD m)
  have hif_m := nD_if m
  have hn_m : nD m ≤ 200 := by unfold nD; omega
  have hnc_m : nD m ≤ c2 := by unfold nD; omega
  have HK_m : Aside0 (∀ s ∈ m.take (nD m), s.size ≤ maxLen) := ⟨fun s hs => hk2 s (List.mem_of_mem_take hs)⟩
  clear hr1 hk1 hr2 hk2
  generalize hlt : l.take (nD l) = ld at *
  clear hlt
  generalize nD l = nl at *
  generalize hlt : m.take (nD m) = md at *
  clear hlt
  generalize nD m = nm at *
  have hle1 := HLE_l.out
  have hle2 := HLE_m.out
  have HAPL : Aside0 ((ld ++ md).length = nl + nm) := ⟨by rw [List.length_append, hle1, hle2]⟩
  have E1 : Aside0 (sameB ld ld = true) := ⟨(sameB_iff _ _).2 (List.Perm.refl _)⟩
  have E2 : Aside0 (sameB ld ld.reverse = true) := ⟨(sameB_iff _ _).2 (List.reverse_perm ld).symm⟩
  have E3 : Aside0 (withinB ld (ld ++ md) = true) := ⟨(within_iff _ _).2 (fun s => by rw [List.count_append]; omega)⟩
  have E4 : Aside0 (sameB (ld ++ md) (md ++ ld) = true) := ⟨(sameB_iff _ _).2 List.perm_append_comm⟩
  have hsv := sameB_two ld md
  obtain ⟨v1, hv1⟩ : ∃ v1, withinB ld md = v1 := ⟨_, rfl⟩
  obtain ⟨v2, hv2⟩ : ∃ v2, withinB md ld = v2 := ⟨_, rfl⟩
  rw [hv1, hv2] at hsv
  have HV1 := Aside0.mk hv1
  have HV2 := Aside0.mk hv2
  have HSV := Aside0.mk hsv
  clear hv1 hv2 hsv
  have HW := Aside0.mk (Below.refl W.heap.size W)
  go_enter Try.func7, Try.ntmps7
  have MK1 : Aside0 True := ⟨trivial⟩
  go_wp2_with (first
    | (go_at_call 9; refine (bag_examples _).mono ?_; rintro e wz ⟨rfl, hb⟩; have HW := Aside0.mk (below_on HW.out hb); clear hb)
    | (go_at_call 10; have mk1 := MK1.out; refine (bag_Of_n _ A1 c1 nl ld HLE_l.out (HR_l.out _ HW.out) hnc_l HK_l.out (by omega)).mono ?_; rintro e wz ⟨g1, rfl, h1, hb⟩; have HW := Aside0.mk (below_on HW.out hb); have H1 := Aside0.mk h1; clear h1; clear hb; clear mk1 MK1)
    | (go_at_call 10; refine (bag_Of_n _ A2 c2 nm md HLE_m.out (HR_m.out _ HW.out) hnc_m HK_m.out (by omega)).mono ?_; rintro e wz ⟨g2, rfl, h1, hb⟩; have H1 := Aside0.mk (H1.out.on hb); have HW := Aside0.mk (below_on HW.out hb); have H2 := Aside0.mk h1; clear h1; clear hb)
    | (go_at_call 22; refine (bag_Both _ _ _ g1 g2 nl nm ld md (ld ++ md) H1.out H2.out (by omega) (by omega) (by have := HAPL.out; omega) (fun s => List.count_append)).mono ?_; rintro e wz ⟨g3, n3, rfl, h1, hn3, hb⟩; have H1 := Aside0.mk (H1.out.on hb); have H2 := Aside0.mk (H2.out.on hb); have HW := Aside0.mk (below_on HW.out hb); have H3 := Aside0.mk h1; clear h1; clear hb))
  have hn3 : n3 ≤ 1000 := by have := HAPL.out; omega
  go_loopw [9, 10] (fun s9 s10 wr => ∃ (k : Nat) (iv : Int) (v9 : Value), k ≤ nl ∧ s10 = .int .i64 iv ∧ iv = (k : Int) - 1 ∧ s9 = v9 ∧ Aside0 (Kd.Q Kd.string 9 wr wz.heap.size (fun _ => True) v9 (ld.drop k).reverse) ∧ Aside0 (Below wz.heap.size wz wr)) (fun _ i _ => (intOf i + 1).toNat)
  case atStart => exact ⟨nl, (nl : Int) - 1, _, Nat.le_refl _, by go_num, rfl, rfl, ⟨by rw [List.drop_eq_nil_of_le (by omega)]; exact Kd.Q_nil _ _ _ _ _⟩, ⟨Below.refl _ _⟩⟩
  case round =>
    obtain ⟨k, iv, v9, hk, rfl, hiv, rfl, HQ, HB⟩ := hrel
    by_cases hk0 : 0 < k
    · obtain ⟨k', rfl⟩ : ∃ k', k = k' + 1 := ⟨k - 1, by omega⟩
      obtain rfl : iv = (k' : Int) := by omega
      clear hiv
      have hkl : k' < ld.length := by omega
      obtain ⟨ad, e, hx0⟩ := at_str (HR_l.out wr (below_on HW.out HB.out)) k' hkl
      cases e
      have HT := Aside0.mk (rev_step ld k' hkl)
      have hdl : ((ld.drop (k' + 1)).reverse).length ≤ 200 := by rw [List.length_reverse, List.length_drop]; omega
      have HDL := Aside0.mk hdl
      have HSZ := Aside0.mk HB.out.size
      clear hdl
      generalize ld[k'] = s at *
      generalize (ld.drop (k' + 1)).reverse = L at *
      go_wp2_with (first | ((with_reducible refine gate_builtin (b := .append) (xs := #[.tmp 44, .tmp 49]) rfl ?_); at_builtin; refine Kd.Q_append Kd.string (w0 := wz) wz.heap.size rfl (.tmp 44) (.tmp 49) 22 9 (.string (⟨#[]⟩ : ByteArray)) 16 rfl Try.underlying22 infoS rfl (by decide) (by decide) _ L s [.string s] (fun _ => True) (fun _ => False) rfl (by first | (go_simp; done) | (go_simp; rfl)) ?aP (fun _ hk => hk.elim) ?aF ?aO ?aB ?aS ?aL ?_; (case aP => exact rfl); (case aB => exact HB.out); (case aF => exact (fun _ _ => trivial)); (case aO => exact HQ.out); (case aS => exact HSZ.out); (case aL => have := HDL.out; omega); intro v4 w4 hq hb hgr hat; have HQ4 := Aside0.mk hq; have HB4 := Aside0.mk hb; clear hq hb hgr hat))
      go_roundw
      case rel => exact ⟨k', (k' : Int) - 1, _, by omega, by go_num, rfl, rfl, ⟨by rw [HT.out]; exact HQ4.out⟩, HB4⟩
      case measure => first | (simp [intOf]; done) | (simp [intOf]; omega)
    · obtain rfl : k = 0 := by omega
      obtain rfl : iv = -1 := by omega
      clear hiv hk0 hk
      have hq0 := HQ.out
      rw [List.drop_zero] at hq0
      obtain ⟨A9, c9, e9, hc9⟩ := Kd.Q_slice hq0
      have hrl : ld.reverse.length = nl := by rw [List.length_reverse, hle1]
      rw [hrl] at e9 hc9
      subst e9
      have HC9 := Aside0.mk (Kd.Q_reads' hq0).2.2
      rw [hrl] at HC9
      have HRL := Aside0.mk hrl
      have HK9 : Aside0 (∀ s ∈ ld.reverse, s.size ≤ maxLen) := ⟨fun s hs => HK_l.out s (List.mem_reverse.1 hs)⟩
      have hHW := HW.out
      have H1' := Aside0.mk (H1.out.on HB.out)
      have H2' := Aside0.mk (H2.out.on HB.out)
      have H3' := Aside0.mk (H3.out.on HB.out)
      have HW' := Aside0.mk (below_on hHW HB.out)
      clear hq0 HQ hrl hHW HW H1 H2 H3 HB
      have H1 := H1'
      have H2 := H2'
      have H3 := H3'
      have HW := HW'
      clear H1' H2' H3' HW'
      rcases (show (v1 = true ∧ v2 = true) ∨ (v1 = true ∧ v2 = false) ∨ v1 = false by cases v1 <;> cases v2 <;> simp) with ⟨rfl, rfl⟩ | ⟨rfl, rfl⟩ | rfl
      · have MK2 : Aside0 True := ⟨trivial⟩
        have MK3 : Aside0 True := ⟨trivial⟩
        have MK4 : Aside0 True := ⟨trivial⟩
        have MK5 : Aside0 True := ⟨trivial⟩
        have MK6 : Aside0 True := ⟨trivial⟩
        have MK7 : Aside0 True := ⟨trivial⟩
        have MK8 : Aside0 True := ⟨trivial⟩
        go_wp2_with (first
          | (go_at_call 10; refine (bag_Of_n _ A9 c9 nl ld.reverse HRL.out HC9.out hc9 HK9.out (by omega)).mono ?_; rintro e wz ⟨g4, rfl, h1, hb⟩; have H1 := Aside0.mk (H1.out.on hb); have H2 := Aside0.mk (H2.out.on hb); have H3 := Aside0.mk (H3.out.on hb); have HW := Aside0.mk (below_on HW.out hb); have H4 := Aside0.mk h1; clear h1; clear hb)
          | (go_at_call 24; refine (bag_Less _ _ _ g3 g2 n3 nm (ld ++ md) md ld H3.out H2.out (by omega) (by omega) (by have := HLE_l.out; omega) (fun s => by rw [List.count_append]; omega)).mono ?_; rintro e wz ⟨g5, n5, rfl, h1, hn5, hb⟩; have H1 := Aside0.mk (H1.out.on hb); have H2 := Aside0.mk (H2.out.on hb); have H3 := Aside0.mk (H3.out.on hb); have H4 := Aside0.mk (H4.out.on hb); have HW := Aside0.mk (below_on HW.out hb); have H5 := Aside0.mk h1; clear h1; clear hb)
          | (go_at_call 26; have mk2 := MK2.out; refine (bag_Same_b _ _ _ g5 g1 _ _ _ _ H5.out H1.out).mono ?_; rw [E1.out]; rintro e wz ⟨rfl, hb⟩; have H1 := Aside0.mk (H1.out.on hb); have H2 := Aside0.mk (H2.out.on hb); have H3 := Aside0.mk (H3.out.on hb); have H4 := Aside0.mk (H4.out.on hb); have H5 := Aside0.mk (H5.out.on hb); have HW := Aside0.mk (below_on HW.out hb); clear hb; clear mk2 MK2)
          | (go_at_call 26; have mk3 := MK3.out; refine (bag_Same_b _ _ _ g1 g4 _ _ _ _ H1.out H4.out).mono ?_; rw [E2.out]; rintro e wz ⟨rfl, hb⟩; have H1 := Aside0.mk (H1.out.on hb); have H2 := Aside0.mk (H2.out.on hb); have H3 := Aside0.mk (H3.out.on hb); have H4 := Aside0.mk (H4.out.on hb); have H5 := Aside0.mk (H5.out.on hb); have HW := Aside0.mk (below_on HW.out hb); clear hb; clear mk3 MK3)
          | (go_at_call 26; have mk4 := MK4.out; refine (bag_Same_b _ _ _ g1 g2 _ _ _ _ H1.out H2.out).mono ?_; rw [HSV.out]; rintro e wz ⟨rfl, hb⟩; have H1 := Aside0.mk (H1.out.on hb); have H2 := Aside0.mk (H2.out.on hb); have H3 := Aside0.mk (H3.out.on hb); have H4 := Aside0.mk (H4.out.on hb); have H5 := Aside0.mk (H5.out.on hb); have HW := Aside0.mk (below_on HW.out hb); clear hb; clear mk4 MK4)
          | (go_at_call 28; have mk5 := MK5.out; refine (bag_Within _ _ _ g1 g2 _ _ _ _ H1.out H2.out).mono ?_; rw [HV1.out]; rintro e wz ⟨rfl, hb⟩; have H1 := Aside0.mk (H1.out.on hb); have H2 := Aside0.mk (H2.out.on hb); have H3 := Aside0.mk (H3.out.on hb); have H4 := Aside0.mk (H4.out.on hb); have H5 := Aside0.mk (H5.out.on hb); have HW := Aside0.mk (below_on HW.out hb); clear hb; clear mk5 MK5)
          | (go_at_call 28; have mk6 := MK6.out; refine (bag_Within _ _ _ g2 g1 _ _ _ _ H2.out H1.out).mono ?_; rw [HV2.out]; rintro e wz ⟨rfl, hb⟩; have H1 := Aside0.mk (H1.out.on hb); have H2 := Aside0.mk (H2.out.on hb); have H3 := Aside0.mk (H3.out.on hb); have H4 := Aside0.mk (H4.out.on hb); have H5 := Aside0.mk (H5.out.on hb); have HW := Aside0.mk (below_on HW.out hb); clear hb; clear mk6 MK6)
          | (go_at_call 13; have mk7 := MK7.out; refine (bag_Len _ _ g3 _ _ H3.out).mono ?_; rw [HAPL.out]; rintro e wz ⟨rfl, rfl⟩; clear mk7 MK7)
          | (go_at_call 13; have mk8 := MK8.out; refine (bag_Len _ _ g1 _ _ H1.out).mono ?_; rw [HLE_l.out]; rintro e wz ⟨rfl, rfl⟩; clear mk8 MK8)
          | (go_at_call 13; refine (bag_Len _ _ g2 _ _ H2.out).mono ?_; rw [HLE_m.out]; rintro e wz ⟨rfl, rfl⟩)
          | (go_at_call 28; refine (bag_Within _ _ _ g1 g3 _ _ _ _ H1.out H3.out).mono ?_; rw [E3.out]; rintro e wz ⟨rfl, hb⟩; have H1 := Aside0.mk (H1.out.on hb); have H2 := Aside0.mk (H2.out.on hb); have H3 := Aside0.mk (H3.out.on hb); have H4 := Aside0.mk (H4.out.on hb); have H5 := Aside0.mk (H5.out.on hb); have HW := Aside0.mk (below_on HW.out hb); clear hb)
          | (go_at_call 22; refine (bag_Both _ _ _ g2 g1 nm nl md ld (md ++ ld) H2.out H1.out (by omega) (by omega) (by have := HLE_l.out; have := HLE_m.out; rw [List.length_append]; omega) (fun s => List.count_append)).mono ?_; rintro e wz ⟨g6, n6, rfl, h1, hn6, hb⟩; have H1 := Aside0.mk (H1.out.on hb); have H2 := Aside0.mk (H2.out.on hb); have H3 := Aside0.mk (H3.out.on hb); have H4 := Aside0.mk (H4.out.on hb); have H5 := Aside0.mk (H5.out.on hb); have HW := Aside0.mk (below_on HW.out hb); have H6 := Aside0.mk h1; clear h1; clear hb)
          | (go_at_call 26; refine (bag_Same_b _ _ _ g3 g6 _ _ _ _ H3.out H6.out).mono ?_; rw [E4.out]; rintro e wz ⟨rfl, hb⟩; have H1 := Aside0.mk (H1.out.on hb); have H2 := Aside0.mk (H2.out.on hb); have H3 := Aside0.mk (H3.out.on hb); have H4 := Aside0.mk (H4.out.on hb); have H5 := Aside0.mk (H5.out.on hb); have H6 := Aside0.mk (H6.out.on hb); have HW := Aside0.mk (below_on HW.out hb); clear hb))
        go_ret
        exact ⟨rfl, HW.out⟩
      · have MK2 : Aside0 True := ⟨trivial⟩
        have MK3 : Aside0 True := ⟨trivial⟩
        have MK4 : Aside0 True := ⟨trivial⟩
        have MK5 : Aside0 True := ⟨trivial⟩
        have MK6 : Aside0 True := ⟨trivial⟩
        have MK7 : Aside0 True := ⟨trivial⟩
        have MK8 : Aside0 True := ⟨trivial⟩
        go_wp2_with (first
          | (go_at_call 10; refine (bag_Of_n _ A9 c9 nl ld.reverse HRL.out HC9.out hc9 HK9.out (by omega)).mono ?_; rintro e wz ⟨g4, rfl, h1, hb⟩; have H1 := Aside0.mk (H1.out.on hb); have H2 := Aside0.mk (H2.out.on hb); have H3 := Aside0.mk (H3.out.on hb); have HW := Aside0.mk (below_on HW.out hb); have H4 := Aside0.mk h1; clear h1; clear hb)
          | (go_at_call 24; refine (bag_Less _ _ _ g3 g2 n3 nm (ld ++ md) md ld H3.out H2.out (by omega) (by omega) (by have := HLE_l.out; omega) (fun s => by rw [List.count_append]; omega)).mono ?_; rintro e wz ⟨g5, n5, rfl, h1, hn5, hb⟩; have H1 := Aside0.mk (H1.out.on hb); have H2 := Aside0.mk (H2.out.on hb); have H3 := Aside0.mk (H3.out.on hb); have H4 := Aside0.mk (H4.out.on hb); have HW := Aside0.mk (below_on HW.out hb); have H5 := Aside0.mk h1; clear h1; clear hb)
          | (go_at_call 26; have mk2 := MK2.out; refine (bag_Same_b _ _ _ g5 g1 _ _ _ _ H5.out H1.out).mono ?_; rw [E1.out]; rintro e wz ⟨rfl, hb⟩; have H1 := Aside0.mk (H1.out.on hb); have H2 := Aside0.mk (H2.out.on hb); have H3 := Aside0.mk (H3.out.on hb); have H4 := Aside0.mk (H4.out.on hb); have H5 := Aside0.mk (H5.out.on hb); have HW := Aside0.mk (below_on HW.out hb); clear hb; clear mk2 MK2)
          | (go_at_call 26; have mk3 := MK3.out; refine (bag_Same_b _ _ _ g1 g4 _ _ _ _ H1.out H4.out).mono ?_; rw [E2.out]; rintro e wz ⟨rfl, hb⟩; have H1 := Aside0.mk (H1.out.on hb); have H2 := Aside0.mk (H2.out.on hb); have H3 := Aside0.mk (H3.out.on hb); have H4 := Aside0.mk (H4.out.on hb); have H5 := Aside0.mk (H5.out.on hb); have HW := Aside0.mk (below_on HW.out hb); clear hb; clear mk3 MK3)
          | (go_at_call 26; have mk4 := MK4.out; refine (bag_Same_b _ _ _ g1 g2 _ _ _ _ H1.out H2.out).mono ?_; rw [HSV.out]; rintro e wz ⟨rfl, hb⟩; have H1 := Aside0.mk (H1.out.on hb); have H2 := Aside0.mk (H2.out.on hb); have H3 := Aside0.mk (H3.out.on hb); have H4 := Aside0.mk (H4.out.on hb); have H5 := Aside0.mk (H5.out.on hb); have HW := Aside0.mk (below_on HW.out hb); clear hb; clear mk4 MK4)
          | (go_at_call 28; have mk5 := MK5.out; refine (bag_Within _ _ _ g1 g2 _ _ _ _ H1.out H2.out).mono ?_; rw [HV1.out]; rintro e wz ⟨rfl, hb⟩; have H1 := Aside0.mk (H1.out.on hb); have H2 := Aside0.mk (H2.out.on hb); have H3 := Aside0.mk (H3.out.on hb); have H4 := Aside0.mk (H4.out.on hb); have H5 := Aside0.mk (H5.out.on hb); have HW := Aside0.mk (below_on HW.out hb); clear hb; clear mk5 MK5)
          | (go_at_call 28; have mk6 := MK6.out; refine (bag_Within _ _ _ g2 g1 _ _ _ _ H2.out H1.out).mono ?_; rw [HV2.out]; rintro e wz ⟨rfl, hb⟩; have H1 := Aside0.mk (H1.out.on hb); have H2 := Aside0.mk (H2.out.on hb); have H3 := Aside0.mk (H3.out.on hb); have H4 := Aside0.mk (H4.out.on hb); have H5 := Aside0.mk (H5.out.on hb); have HW := Aside0.mk (below_on HW.out hb); clear hb; clear mk6 MK6)
          | (go_at_call 13; have mk7 := MK7.out; refine (bag_Len _ _ g3 _ _ H3.out).mono ?_; rw [HAPL.out]; rintro e wz ⟨rfl, rfl⟩; clear mk7 MK7)
          | (go_at_call 13; have mk8 := MK8.out; refine (bag_Len _ _ g1 _ _ H1.out).mono ?_; rw [HLE_l.out]; rintro e wz ⟨rfl, rfl⟩; clear mk8 MK8)
          | (go_at_call 13; refine (bag_Len _ _ g2 _ _ H2.out).mono ?_; rw [HLE_m.out]; rintro e wz ⟨rfl, rfl⟩)
          | (go_at_call 28; refine (bag_Within _ _ _ g1 g3 _ _ _ _ H1.out H3.out).mono ?_; rw [E3.out]; rintro e wz ⟨rfl, hb⟩; have H1 := Aside0.mk (H1.out.on hb); have H2 := Aside0.mk (H2.out.on hb); have H3 := Aside0.mk (H3.out.on hb); have H4 := Aside0.mk (H4.out.on hb); have H5 := Aside0.mk (H5.out.on hb); have HW := Aside0.mk (below_on HW.out hb); clear hb)
          | (go_at_call 22; refine (bag_Both _ _ _ g2 g1 nm nl md ld (md ++ ld) H2.out H1.out (by omega) (by omega) (by have := HLE_l.out; have := HLE_m.out; rw [List.length_append]; omega) (fun s => List.count_append)).mono ?_; rintro e wz ⟨g6, n6, rfl, h1, hn6, hb⟩; have H1 := Aside0.mk (H1.out.on hb); have H2 := Aside0.mk (H2.out.on hb); have H3 := Aside0.mk (H3.out.on hb); have H4 := Aside0.mk (H4.out.on hb); have H5 := Aside0.mk (H5.out.on hb); have HW := Aside0.mk (below_on HW.out hb); have H6 := Aside0.mk h1; clear h1; clear hb)
          | (go_at_call 26; refine (bag_Same_b _ _ _ g3 g6 _ _ _ _ H3.out H6.out).mono ?_; rw [E4.out]; rintro e wz ⟨rfl, hb⟩; have H1 := Aside0.mk (H1.out.on hb); have H2 := Aside0.mk (H2.out.on hb); have H3 := Aside0.mk (H3.out.on hb); have H4 := Aside0.mk (H4.out.on hb); have H5 := Aside0.mk (H5.out.on hb); have H6 := Aside0.mk (H6.out.on hb); have HW := Aside0.mk (below_on HW.out hb); clear hb))
        go_ret
        exact ⟨rfl, HW.out⟩
      · have MK2 : Aside0 True := ⟨trivial⟩
        have MK3 : Aside0 True := ⟨trivial⟩
        have MK4 : Aside0 True := ⟨trivial⟩
        have MK5 : Aside0 True := ⟨trivial⟩
        have MK6 : Aside0 True := ⟨trivial⟩
        have MK7 : Aside0 True := ⟨trivial⟩
        go_wp2_with (first
          | (go_at_call 10; refine (bag_Of_n _ A9 c9 nl ld.reverse HRL.out HC9.out hc9 HK9.out (by omega)).mono ?_; rintro e wz ⟨g4, rfl, h1, hb⟩; have H1 := Aside0.mk (H1.out.on hb); have H2 := Aside0.mk (H2.out.on hb); have H3 := Aside0.mk (H3.out.on hb); have HW := Aside0.mk (below_on HW.out hb); have H4 := Aside0.mk h1; clear h1; clear hb)
          | (go_at_call 24; refine (bag_Less _ _ _ g3 g2 n3 nm (ld ++ md) md ld H3.out H2.out (by omega) (by omega) (by have := HLE_l.out; omega) (fun s => by rw [List.count_append]; omega)).mono ?_; rintro e wz ⟨g5, n5, rfl, h1, hn5, hb⟩; have H1 := Aside0.mk (H1.out.on hb); have H2 := Aside0.mk (H2.out.on hb); have H3 := Aside0.mk (H3.out.on hb); have H4 := Aside0.mk (H4.out.on hb); have HW := Aside0.mk (below_on HW.out hb); have H5 := Aside0.mk h1; clear h1; clear hb)
          | (go_at_call 26; have mk2 := MK2.out; refine (bag_Same_b _ _ _ g5 g1 _ _ _ _ H5.out H1.out).mono ?_; rw [E1.out]; rintro e wz ⟨rfl, hb⟩; have H1 := Aside0.mk (H1.out.on hb); have H2 := Aside0.mk (H2.out.on hb); have H3 := Aside0.mk (H3.out.on hb); have H4 := Aside0.mk (H4.out.on hb); have H5 := Aside0.mk (H5.out.on hb); have HW := Aside0.mk (below_on HW.out hb); clear hb; clear mk2 MK2)
          | (go_at_call 26; have mk3 := MK3.out; refine (bag_Same_b _ _ _ g1 g4 _ _ _ _ H1.out H4.out).mono ?_; rw [E2.out]; rintro e wz ⟨rfl, hb⟩; have H1 := Aside0.mk (H1.out.on hb); have H2 := Aside0.mk (H2.out.on hb); have H3 := Aside0.mk (H3.out.on hb); have H4 := Aside0.mk (H4.out.on hb); have H5 := Aside0.mk (H5.out.on hb); have HW := Aside0.mk (below_on HW.out hb); clear hb; clear mk3 MK3)
          | (go_at_call 26; have mk4 := MK4.out; refine (bag_Same_b _ _ _ g1 g2 _ _ _ _ H1.out H2.out).mono ?_; rw [HSV.out]; rintro e wz ⟨rfl, hb⟩; have H1 := Aside0.mk (H1.out.on hb); have H2 := Aside0.mk (H2.out.on hb); have H3 := Aside0.mk (H3.out.on hb); have H4 := Aside0.mk (H4.out.on hb); have H5 := Aside0.mk (H5.out.on hb); have HW := Aside0.mk (below_on HW.out hb); clear hb; clear mk4 MK4)
          | (go_at_call 28; have mk5 := MK5.out; refine (bag_Within _ _ _ g1 g2 _ _ _ _ H1.out H2.out).mono ?_; rw [HV1.out]; rintro e wz ⟨rfl, hb⟩; have H1 := Aside0.mk (H1.out.on hb); have H2 := Aside0.mk (H2.out.on hb); have H3 := Aside0.mk (H3.out.on hb); have H4 := Aside0.mk (H4.out.on hb); have H5 := Aside0.mk (H5.out.on hb); have HW := Aside0.mk (below_on HW.out hb); clear hb; clear mk5 MK5)
          | (go_at_call 13; have mk6 := MK6.out; refine (bag_Len _ _ g3 _ _ H3.out).mono ?_; rw [HAPL.out]; rintro e wz ⟨rfl, rfl⟩; clear mk6 MK6)
          | (go_at_call 13; have mk7 := MK7.out; refine (bag_Len _ _ g1 _ _ H1.out).mono ?_; rw [HLE_l.out]; rintro e wz ⟨rfl, rfl⟩; clear mk7 MK7)
          | (go_at_call 13; refine (bag_Len _ _ g2 _ _ H2.out).mono ?_; rw [HLE_m.out]; rintro e wz ⟨rfl, rfl⟩)
          | (go_at_call 28; refine (bag_Within _ _ _ g1 g3 _ _ _ _ H1.out H3.out).mono ?_; rw [E3.out]; rintro e wz ⟨rfl, hb⟩; have H1 := Aside0.mk (H1.out.on hb); have H2 := Aside0.mk (H2.out.on hb); have H3 := Aside0.mk (H3.out.on hb); have H4 := Aside0.mk (H4.out.on hb); have H5 := Aside0.mk (H5.out.on hb); have HW := Aside0.mk (below_on HW.out hb); clear hb)
          | (go_at_call 22; refine (bag_Both _ _ _ g2 g1 nm nl md ld (md ++ ld) H2.out H1.out (by omega) (by omega) (by have := HLE_l.out; have := HLE_m.out; rw [List.length_append]; omega) (fun s => List.count_append)).mono ?_; rintro e wz ⟨g6, n6, rfl, h1, hn6, hb⟩; have H1 := Aside0.mk (H1.out.on hb); have H2 := Aside0.mk (H2.out.on hb); have H3 := Aside0.mk (H3.out.on hb); have H4 := Aside0.mk (H4.out.on hb); have H5 := Aside0.mk (H5.out.on hb); have HW := Aside0.mk (below_on HW.out hb); have H6 := Aside0.mk h1; clear h1; clear hb)
          | (go_at_call 26; refine (bag_Same_b _ _ _ g3 g6 _ _ _ _ H3.out H6.out).mono ?_; rw [E4.out]; rintro e wz ⟨rfl, hb⟩; have H1 := Aside0.mk (H1.out.on hb); have H2 := Aside0.mk (H2.out.on hb); have H3 := Aside0.mk (H3.out.on hb); have H4 := Aside0.mk (H4.out.on hb); have H5 := Aside0.mk (H5.out.on hb); have H6 := Aside0.mk (H6.out.on hb); have HW := Aside0.mk (below_on HW.out hb); clear hb))
        go_ret
        exact ⟨rfl, HW.out⟩

end Go.Proofs.Ytacfemgmnfkjoaa.QBag
