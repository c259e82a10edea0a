import Derived.Test.YtmnjaihalajhcaaDoorPlO
/- Plan: walks by hand; the conditions stand in each theorem. -/
namespace Go.Proofs.YtmnjaihalajhcaaDoor.QPlanConds
open Go.RowKit Go.Proofs.YtmnjaihalajhcaaDoorW.PrintWords Go.Proofs.YtmnjaihalajhcaaDoorW.PrintLast Go.Proofs.YtmnjaihalajhcaaDoorW.PrintMore
attribute [local go_sem] max2_int min2_int max_two min_two max_three min_three max_four min_four
set_option linter.unusedVariables false
set_option linter.unusedSimpArgs false
theorem body_le {p : S34} {l : List (List UInt8)} {n : Nat} (h : n + (bodyX p l ++ if p.f4 = true then [33] else []).length ≤ 140737488355328) : n + (bodyX p l).length ≤ 140737488355328 := by
  rw [List.length_append] at h
  omega
set_option maxRecDepth 8000 in
set_option maxHeartbeats 8000000 in
theorem put44 (Q : Int → Prop) : ∀ p, Ct Q p := by
  refine ind34 ?_
  intro p ih w0 w bb gp gi gs acc A c hq hn hl hE hC
  have HE := Aside0.mk hE
  have HC := Aside0.mk hC
  have HIH := Aside0.mk ih
  have HQQ := Aside0.mk hq
  have HN := Aside0.mk hn
  rw [textX_eq] at hl
  have HN1 : Aside0 (Q p.f1) := ⟨by rw [numsP_eq] at hn; exact hn.1⟩
  have HN2 : Aside0 (Q p.f2) := ⟨by rw [numsP_eq] at hn; exact hn.2.1⟩
  have HN3 : Aside0 (Q p.f3) := ⟨by rw [numsP_eq] at hn; exact hn.2.2.1⟩
  have HL := Aside0.mk hl
  have HLB := Aside0.mk (body_le hl)
  have HTX : Aside0 (textX p = bodyX p (p.f7.map textX) ++ if p.f4 = true then [33] else []) := ⟨textX_eq p⟩
  clear hE hC ih hq hn hl
  have hu34 := Tryd.underlying34
  go_enter Tryd.func44, Tryd.ntmps44
  go_upto_block 0 with (((with_reducible refine gate_dst (N := 4) rfl ?_); refine box_event ?hg (N := 4) ?hd (cs := cellsP p (.slice A p.f7.length c)) (t := 34) ?hr ?_; (case hd => rfl); (case hg => rfl); (case hr => unfold cellsP encP; first | (go_simp; done) | (go_simp; rfl)); intro gb hg1 w1 hbox hb; have BK := Aside0.mk hbox; have HE1 := Aside0.mk (HE.out.below hb); have HO1 := Aside0.mk (oth_below (e := 5) (b := some bb) hb); have HNB : Aside0 (gb ≠ bb) := ⟨by have h := HE.out.bd; rw [hg1]; intro he; rcases h with h | h <;> (have := h.lt; omega)⟩; have k0 := (blk_cell BK.out 0).trans (rfl : _ = some (Value.int .i64 p.f0)); have k1 := (blk_cell BK.out 1).trans (rfl : _ = some (Value.int .i64 p.f1)); have k2 := (blk_cell BK.out 2).trans (rfl : _ = some (Value.int .i64 p.f2)); have k3 := (blk_cell BK.out 3).trans (rfl : _ = some (Value.int .i64 p.f3)); have k4 := (blk_cell BK.out 4).trans (rfl : _ = some (Value.bool p.f4)); have k5 := (blk_cell BK.out 5).trans (rfl : _ = some (Value.int .i64 p.f5)); have k6 := (blk_cell BK.out 6).trans (rfl : _ = some (Value.int .i64 p.f6)); have k7 := (blk_cell BK.out 7).trans (rfl : _ = some (Value.slice A p.f7.length c)); clear hbox hb hg1))
  go_cut [] (fun wx => Aside0 (Et w0 wx bb gp gi gs (acc ++ bodyX p (p.f7.map textX))) ∧ Aside0 (Lib.OthersKept 5 (some bb) w1 wx))
  case first =>
    as_aux_lemma =>
      have hcs := (blk_cell HE1.out.hS 0).trans (rfl : _ = some (Value.func (.func 42) #[] #[pt bb]))
      have hci := (blk_cell HE1.out.hI 0).trans (rfl : _ = some (Value.func (.func 40) #[] #[pt bb, pt gp]))
      rcases Bool.eq_false_or_eq_true (p.f0 == 1) with q1 | q1
      · have HBO : Aside0 (bodyX p (p.f7.map textX) = 115 :: Lib.itoa p.f1) := ⟨by unfold bodyX; rw [if_pos (by simpa using q1)]⟩
        go_wp2_with ((go_at_call 42; have H42 := say42 115 p.f1 HQQ.out HN1.out HE1.out (by have h := HLB.out; rw [HBO.out] at h; simp only [List.length_append, List.length_cons] at h ⊢; omega); refine H42.mono ?_; clear H42; rintro e_ w2 ⟨rfl, hE2, hO2⟩; have HE2 := Aside0.mk hE2; have HO2 := Aside0.mk hO2; have BK2 := Aside0.mk (oth_keep HO2.out BK.out HNB.out (by decide)); clear hE2 hO2 k0 k1 k2 k3 k4 k5 k6 k7 hcs hci; have hcs := (blk_cell HE2.out.hS 0).trans (rfl : _ = some (Value.func (.func 42) #[] #[pt bb])); have hci := (blk_cell HE2.out.hI 0).trans (rfl : _ = some (Value.func (.func 40) #[] #[pt bb, pt gp])); have k0 := (blk_cell BK2.out 0).trans (rfl : _ = some (Value.int .i64 p.f0)); have k1 := (blk_cell BK2.out 1).trans (rfl : _ = some (Value.int .i64 p.f1)); have k2 := (blk_cell BK2.out 2).trans (rfl : _ = some (Value.int .i64 p.f2)); have k3 := (blk_cell BK2.out 3).trans (rfl : _ = some (Value.int .i64 p.f3)); have k4 := (blk_cell BK2.out 4).trans (rfl : _ = some (Value.bool p.f4)); have k5 := (blk_cell BK2.out 5).trans (rfl : _ = some (Value.int .i64 p.f5)); have k6 := (blk_cell BK2.out 6).trans (rfl : _ = some (Value.int .i64 p.f6)); have k7 := (blk_cell BK2.out 7).trans (rfl : _ = some (Value.slice A p.f7.length c)); have MK := HE1; clear HE1))
        go_meet
        refine ⟨⟨?_⟩, HO2⟩
        have h := HE2.out
        rw [HBO.out]
        simpa using h
      rcases Bool.eq_false_or_eq_true (p.f0 == 2) with q2 | q2
      · have HBO : Aside0 (bodyX p (p.f7.map textX) = (105 :: Lib.itoa p.f1) ++ (58 :: Lib.itoa p.f2)) := ⟨by unfold bodyX; rw [if_neg (by simpa using q1), if_pos (by simpa using q2)]⟩
        go_wp2_with (first | (go_at_call 42; have H42 := say42 105 p.f1 HQQ.out HN1.out HE1.out (by have h := HLB.out; rw [HBO.out] at h; simp only [List.length_append, List.length_cons] at h ⊢; omega); refine H42.mono ?_; clear H42; rintro e_ w2 ⟨rfl, hE2, hO2⟩; have HE2 := Aside0.mk hE2; have HO2 := Aside0.mk hO2; have BK2 := Aside0.mk (oth_keep HO2.out BK.out HNB.out (by decide)); clear hE2 hO2 k0 k1 k2 k3 k4 k5 k6 k7 hcs hci; have hcs := (blk_cell HE2.out.hS 0).trans (rfl : _ = some (Value.func (.func 42) #[] #[pt bb])); have hci := (blk_cell HE2.out.hI 0).trans (rfl : _ = some (Value.func (.func 40) #[] #[pt bb, pt gp])); have k0 := (blk_cell BK2.out 0).trans (rfl : _ = some (Value.int .i64 p.f0)); have k1 := (blk_cell BK2.out 1).trans (rfl : _ = some (Value.int .i64 p.f1)); have k2 := (blk_cell BK2.out 2).trans (rfl : _ = some (Value.int .i64 p.f2)); have k3 := (blk_cell BK2.out 3).trans (rfl : _ = some (Value.int .i64 p.f3)); have k4 := (blk_cell BK2.out 4).trans (rfl : _ = some (Value.bool p.f4)); have k5 := (blk_cell BK2.out 5).trans (rfl : _ = some (Value.int .i64 p.f5)); have k6 := (blk_cell BK2.out 6).trans (rfl : _ = some (Value.int .i64 p.f6)); have k7 := (blk_cell BK2.out 7).trans (rfl : _ = some (Value.slice A p.f7.length c)); have MK := HE1; clear HE1) | (go_at_call 42; have H42 := say42 58 p.f2 HQQ.out HN2.out HE2.out (by have h := HLB.out; rw [HBO.out] at h; simp only [List.length_append, List.length_cons] at h ⊢; omega); refine H42.mono ?_; clear H42; rintro e_ w3 ⟨rfl, hE3, hO3⟩; have HE3 := Aside0.mk hE3; have HO3 := Aside0.mk (HO2.out.trans hO3); have BK3 := Aside0.mk (oth_keep HO3.out BK.out HNB.out (by decide)); clear hE3 hO3 k0 k1 k2 k3 k4 k5 k6 k7 hcs hci; have hcs := (blk_cell HE3.out.hS 0).trans (rfl : _ = some (Value.func (.func 42) #[] #[pt bb])); have hci := (blk_cell HE3.out.hI 0).trans (rfl : _ = some (Value.func (.func 40) #[] #[pt bb, pt gp])); have k0 := (blk_cell BK3.out 0).trans (rfl : _ = some (Value.int .i64 p.f0)); have k1 := (blk_cell BK3.out 1).trans (rfl : _ = some (Value.int .i64 p.f1)); have k2 := (blk_cell BK3.out 2).trans (rfl : _ = some (Value.int .i64 p.f2)); have k3 := (blk_cell BK3.out 3).trans (rfl : _ = some (Value.int .i64 p.f3)); have k4 := (blk_cell BK3.out 4).trans (rfl : _ = some (Value.bool p.f4)); have k5 := (blk_cell BK3.out 5).trans (rfl : _ = some (Value.int .i64 p.f5)); have k6 := (blk_cell BK3.out 6).trans (rfl : _ = some (Value.int .i64 p.f6)); have k7 := (blk_cell BK3.out 7).trans (rfl : _ = some (Value.slice A p.f7.length c))))
        go_meet
        refine ⟨⟨?_⟩, HO3⟩
        have h := HE3.out
        rw [HBO.out]
        simpa using h
      rcases Bool.eq_false_or_eq_true (p.f0 == 6) with q6 | q6
      · have HBO : Aside0 (bodyX p (p.f7.map textX) = 116 :: Lib.itoa p.f3) := ⟨by unfold bodyX; rw [if_neg (by simpa using q1), if_neg (by simpa using q2), if_pos (by simpa using q6)]⟩
        go_wp2_with ((go_at_call 42; have H42 := say42 116 p.f3 HQQ.out HN3.out HE1.out (by have h := HLB.out; rw [HBO.out] at h; simp only [List.length_append, List.length_cons] at h ⊢; omega); refine H42.mono ?_; clear H42; rintro e_ w2 ⟨rfl, hE2, hO2⟩; have HE2 := Aside0.mk hE2; have HO2 := Aside0.mk hO2; have BK2 := Aside0.mk (oth_keep HO2.out BK.out HNB.out (by decide)); clear hE2 hO2 k0 k1 k2 k3 k4 k5 k6 k7 hcs hci; have hcs := (blk_cell HE2.out.hS 0).trans (rfl : _ = some (Value.func (.func 42) #[] #[pt bb])); have hci := (blk_cell HE2.out.hI 0).trans (rfl : _ = some (Value.func (.func 40) #[] #[pt bb, pt gp])); have k0 := (blk_cell BK2.out 0).trans (rfl : _ = some (Value.int .i64 p.f0)); have k1 := (blk_cell BK2.out 1).trans (rfl : _ = some (Value.int .i64 p.f1)); have k2 := (blk_cell BK2.out 2).trans (rfl : _ = some (Value.int .i64 p.f2)); have k3 := (blk_cell BK2.out 3).trans (rfl : _ = some (Value.int .i64 p.f3)); have k4 := (blk_cell BK2.out 4).trans (rfl : _ = some (Value.bool p.f4)); have k5 := (blk_cell BK2.out 5).trans (rfl : _ = some (Value.int .i64 p.f5)); have k6 := (blk_cell BK2.out 6).trans (rfl : _ = some (Value.int .i64 p.f6)); have k7 := (blk_cell BK2.out 7).trans (rfl : _ = some (Value.slice A p.f7.length c)); have MK := HE1; clear HE1))
        go_meet
        refine ⟨⟨?_⟩, HO2⟩
        have h := HE2.out
        rw [HBO.out]
        simpa using h
      rcases Bool.eq_false_or_eq_true (p.f0 == 3) with q3 | q3
      · have HBO : Aside0 (bodyX p (p.f7.map textX) = 108 :: innX (p.f7.map textX)) := ⟨by unfold bodyX; rw [if_neg (by simpa using q1), if_neg (by simpa using q2), if_neg (by simpa using q6), if_pos (by simpa using q3)]⟩
        go_wp2_with (first | (go_at_call 41; have H41 := put41 ⟨#[108]⟩ HE1.out (by have h := HLB.out; rw [HBO.out] at h; simp only [List.length_append, List.length_cons] at h; show acc.length + 1 ≤ _; omega); refine H41.mono ?_; clear H41; rintro e_ w2 ⟨⟨v2, rfl⟩, hE2, hO2⟩; have HE2 := Aside0.mk hE2; have HO2 := Aside0.mk hO2; have BK2 := Aside0.mk (oth_keep HO2.out BK.out HNB.out (by decide)); clear hE2 hO2 k0 k1 k2 k3 k4 k5 k6 k7 hcs hci; have hci := (blk_cell HE2.out.hI 0).trans (rfl : _ = some (Value.func (.func 40) #[] #[pt bb, pt gp])); have k0 := (blk_cell BK2.out 0).trans (rfl : _ = some (Value.int .i64 p.f0)); have k1 := (blk_cell BK2.out 1).trans (rfl : _ = some (Value.int .i64 p.f1)); have k2 := (blk_cell BK2.out 2).trans (rfl : _ = some (Value.int .i64 p.f2)); have k3 := (blk_cell BK2.out 3).trans (rfl : _ = some (Value.int .i64 p.f3)); have k4 := (blk_cell BK2.out 4).trans (rfl : _ = some (Value.bool p.f4)); have k5 := (blk_cell BK2.out 5).trans (rfl : _ = some (Value.int .i64 p.f5)); have k6 := (blk_cell BK2.out 6).trans (rfl : _ = some (Value.int .i64 p.f6)); have k7 := (blk_cell BK2.out 7).trans (rfl : _ = some (Value.slice A p.f7.length c))) | (go_at_call 40; have H40 := in40 p HIH.out w0 _ bb gp gi gs _ A c HQQ.out HN.out (by have h := HLB.out; rw [HBO.out] at h; have h9 : ((⟨#[108]⟩ : ByteArray).data.toList).length = 1 := rfl; rw [List.length_append, h9]; simp only [List.length_cons] at h; omega) HE2.out HC.out; refine H40.mono ?_; clear H40; rintro e_ w3 ⟨rfl, hE3, hO3⟩; have HE3 := Aside0.mk hE3; have HO3 := Aside0.mk (HO2.out.trans hO3); clear hE3 hO3))
        go_meet
        refine ⟨⟨?_⟩, HO3⟩
        have h := HE3.out
        rw [HBO.out]
        simpa using h
      rcases Bool.eq_false_or_eq_true (p.f0 == 4) with q4 | q4
      · have HBO : Aside0 (bodyX p (p.f7.map textX) = (104 :: Lib.itoa p.f2) ++ innX (p.f7.map textX)) := ⟨by unfold bodyX; rw [if_neg (by simpa using q1), if_neg (by simpa using q2), if_neg (by simpa using q6), if_neg (by simpa using q3), if_pos (by simpa using q4)]⟩
        go_wp2_with (first | (go_at_call 42; have H42 := say42 104 p.f2 HQQ.out HN2.out HE1.out (by have h := HLB.out; rw [HBO.out] at h; simp only [List.length_append, List.length_cons] at h ⊢; omega); refine H42.mono ?_; clear H42; rintro e_ w2 ⟨rfl, hE2, hO2⟩; have HE2 := Aside0.mk hE2; have HO2 := Aside0.mk hO2; have BK2 := Aside0.mk (oth_keep HO2.out BK.out HNB.out (by decide)); clear hE2 hO2 k0 k1 k2 k3 k4 k5 k6 k7 hcs hci; have hcs := (blk_cell HE2.out.hS 0).trans (rfl : _ = some (Value.func (.func 42) #[] #[pt bb])); have hci := (blk_cell HE2.out.hI 0).trans (rfl : _ = some (Value.func (.func 40) #[] #[pt bb, pt gp])); have k0 := (blk_cell BK2.out 0).trans (rfl : _ = some (Value.int .i64 p.f0)); have k1 := (blk_cell BK2.out 1).trans (rfl : _ = some (Value.int .i64 p.f1)); have k2 := (blk_cell BK2.out 2).trans (rfl : _ = some (Value.int .i64 p.f2)); have k3 := (blk_cell BK2.out 3).trans (rfl : _ = some (Value.int .i64 p.f3)); have k4 := (blk_cell BK2.out 4).trans (rfl : _ = some (Value.bool p.f4)); have k5 := (blk_cell BK2.out 5).trans (rfl : _ = some (Value.int .i64 p.f5)); have k6 := (blk_cell BK2.out 6).trans (rfl : _ = some (Value.int .i64 p.f6)); have k7 := (blk_cell BK2.out 7).trans (rfl : _ = some (Value.slice A p.f7.length c)); have MK := HE1; clear HE1) | (go_at_call 40; have H40 := in40 p HIH.out w0 _ bb gp gi gs _ A c HQQ.out HN.out (by have h := HLB.out; rw [HBO.out] at h; simp only [List.length_append, List.length_cons] at h ⊢; omega) HE2.out HC.out; refine H40.mono ?_; clear H40; rintro e_ w3 ⟨rfl, hE3, hO3⟩; have HE3 := Aside0.mk hE3; have HO3 := Aside0.mk (HO2.out.trans hO3); clear hE3 hO3))
        go_meet
        refine ⟨⟨?_⟩, HO3⟩
        have h := HE3.out
        rw [HBO.out]
        simpa using h
      rcases Bool.eq_false_or_eq_true (p.f0 == 5) with q5 | q5
      · have HBO : Aside0 (bodyX p (p.f7.map textX) = (109 :: Lib.itoa p.f2) ++ innX (p.f7.map textX)) := ⟨by unfold bodyX; rw [if_neg (by simpa using q1), if_neg (by simpa using q2), if_neg (by simpa using q6), if_neg (by simpa using q3), if_neg (by simpa using q4), if_pos (by simpa using q5)]⟩
        go_wp2_with (first | (go_at_call 42; have H42 := say42 109 p.f2 HQQ.out HN2.out HE1.out (by have h := HLB.out; rw [HBO.out] at h; simp only [List.length_append, List.length_cons] at h ⊢; omega); refine H42.mono ?_; clear H42; rintro e_ w2 ⟨rfl, hE2, hO2⟩; have HE2 := Aside0.mk hE2; have HO2 := Aside0.mk hO2; have BK2 := Aside0.mk (oth_keep HO2.out BK.out HNB.out (by decide)); clear hE2 hO2 k0 k1 k2 k3 k4 k5 k6 k7 hcs hci; have hcs := (blk_cell HE2.out.hS 0).trans (rfl : _ = some (Value.func (.func 42) #[] #[pt bb])); have hci := (blk_cell HE2.out.hI 0).trans (rfl : _ = some (Value.func (.func 40) #[] #[pt bb, pt gp])); have k0 := (blk_cell BK2.out 0).trans (rfl : _ = some (Value.int .i64 p.f0)); have k1 := (blk_cell BK2.out 1).trans (rfl : _ = some (Value.int .i64 p.f1)); have k2 := (blk_cell BK2.out 2).trans (rfl : _ = some (Value.int .i64 p.f2)); have k3 := (blk_cell BK2.out 3).trans (rfl : _ = some (Value.int .i64 p.f3)); have k4 := (blk_cell BK2.out 4).trans (rfl : _ = some (Value.bool p.f4)); have k5 := (blk_cell BK2.out 5).trans (rfl : _ = some (Value.int .i64 p.f5)); have k6 := (blk_cell BK2.out 6).trans (rfl : _ = some (Value.int .i64 p.f6)); have k7 := (blk_cell BK2.out 7).trans (rfl : _ = some (Value.slice A p.f7.length c)); have MK := HE1; clear HE1) | (go_at_call 40; have H40 := in40 p HIH.out w0 _ bb gp gi gs _ A c HQQ.out HN.out (by have h := HLB.out; rw [HBO.out] at h; simp only [List.length_append, List.length_cons] at h ⊢; omega) HE2.out HC.out; refine H40.mono ?_; clear H40; rintro e_ w3 ⟨rfl, hE3, hO3⟩; have HE3 := Aside0.mk hE3; have HO3 := Aside0.mk (HO2.out.trans hO3); clear hE3 hO3))
        go_meet
        refine ⟨⟨?_⟩, HO3⟩
        have h := HE3.out
        rw [HBO.out]
        simpa using h
      have HBO : Aside0 (bodyX p (p.f7.map textX) = [63]) := ⟨by unfold bodyX; rw [if_neg (by simpa using q1), if_neg (by simpa using q2), if_neg (by simpa using q6), if_neg (by simpa using q3), if_neg (by simpa using q4), if_neg (by simpa using q5)]⟩
      go_wp2_with (go_at_call 41; have H41 := put41 ⟨#[63]⟩ HE1.out (by have h := HLB.out; rw [HBO.out] at h; exact h); refine H41.mono ?_; clear H41; rintro e_ w2 ⟨⟨v2, rfl⟩, hE2, hO2⟩; have HE2 := Aside0.mk hE2; have HO2 := Aside0.mk hO2; clear hE2 hO2)
      go_meet
      refine ⟨⟨?_⟩, HO2⟩
      rw [HBO.out]
      exact HE2.out
  case rest =>
  obtain ⟨HE2, HO2⟩ := hcut
  obtain ⟨w2, hw2⟩ : ∃ x, x = wc := ⟨_, rfl⟩
  subst hw2
  have BK2 := Aside0.mk (oth_keep HO2.out BK.out HNB.out (by decide))
  have HO2 := Aside0.mk (HO1.out.trans HO2.out)
  clear k0 k1 k2 k3 k4 k5 k6 k7
  have k0 := (blk_cell BK2.out 0).trans (rfl : _ = some (Value.int .i64 p.f0))
  have k1 := (blk_cell BK2.out 1).trans (rfl : _ = some (Value.int .i64 p.f1))
  have k2 := (blk_cell BK2.out 2).trans (rfl : _ = some (Value.int .i64 p.f2))
  have k3 := (blk_cell BK2.out 3).trans (rfl : _ = some (Value.int .i64 p.f3))
  have k4 := (blk_cell BK2.out 4).trans (rfl : _ = some (Value.bool p.f4))
  have k5 := (blk_cell BK2.out 5).trans (rfl : _ = some (Value.int .i64 p.f5))
  have k6 := (blk_cell BK2.out 6).trans (rfl : _ = some (Value.int .i64 p.f6))
  have k7 := (blk_cell BK2.out 7).trans (rfl : _ = some (Value.slice A p.f7.length c))
  rcases Bool.eq_false_or_eq_true p.f4 with q4 | q4
  · rw [q4] at k4
    have HT : Aside0 (textX p = bodyX p (p.f7.map textX) ++ [33]) := ⟨by rw [HTX.out, if_pos q4]⟩
    have HL4 : Aside0 ((acc ++ bodyX p (p.f7.map textX)).length + 1 ≤ 140737488355328) := ⟨by have h := HL.out; rw [if_pos q4] at h; rw [List.length_append] at h ⊢; have h2 : ([33] : List UInt8).length = 1 := rfl; omega⟩
    go_wp2_with (go_at_call 41; have H41 := put41 ⟨#[33]⟩ HE2.out HL4.out; refine H41.mono ?_; clear H41; rintro e_ w3 ⟨⟨v3, rfl⟩, hE3, hO3⟩; have HE3 := Aside0.mk hE3; have HO3 := Aside0.mk (HO2.out.trans hO3); clear hE3 hO3)
    first | go_end0 | (simp only [Exit.inBlock, Exit.then]; refine bodyPost_ret (results_none rfl _ _ _) rfl ?_) | refine bodyPost_ret (results_none rfl _ _ _) rfl ?_
    refine ⟨rfl, ?_, HO3.out⟩
    rw [HT.out, ← List.append_assoc]
    exact HE3.out
  · rw [q4] at k4
    have HT : Aside0 (textX p = bodyX p (p.f7.map textX)) := ⟨by rw [HTX.out, if_neg (by rw [q4]; decide), List.append_nil]⟩
    go_wp2_with fail
    first | go_end0 | (simp only [Exit.inBlock, Exit.then]; refine bodyPost_ret (results_none rfl _ _ _) rfl ?_) | refine bodyPost_ret (results_none rfl _ _ _) rfl ?_
    refine ⟨rfl, ?_, HO2.out⟩
    rw [HT.out]
    exact HE2.out

end Go.Proofs.YtmnjaihalajhcaaDoor.QPlanConds
