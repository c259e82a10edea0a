import Derived.Test.YtpkhdljlhdomlaaIxQ
import Derived.Test.YtpkhdljlhdomlaaIxE
/- Index: walks by hand; the conditions stand in each theorem. -/
namespace Go.Proofs.Ytpkhdljlhdomlaa.QIndexFinds
open Go.RowKit Go.Proofs.YtpkhdljlhdomlaaW.PrintWords Go.Proofs.YtpkhdljlhdomlaaW.PrintLast Go.Proofs.YtpkhdljlhdomlaaW.PrintMore
attribute [local go_sem] max2_int min2_int max_two min_two max_three min_three max_four min_four
set_option linter.unusedVariables false
set_option linter.unusedSimpArgs false
theorem reps_ints (w : World) : ∀ l : List Int, Reps (kI.K w) kI.sz l (l.map (Value.int .i64))
  | [] => Reps.none _ _
  | x :: l => by
    have ih := reps_ints w l
    refine ⟨by simp [show kI.sz = 1 from rfl], fun j p hj => ?_⟩
    have hjl := (List.getElem?_eq_some_iff.1 hj)
    obtain ⟨h1, h2⟩ := hjl
    rw [show kI.sz = 1 from rfl, Nat.mul_one]
    have e : (((x :: l).map (Value.int .i64)).drop j).take 1 = [.int .i64 (x :: l)[j]] := by
      rw [List.drop_eq_getElem_cons (by simpa using h1), List.take_succ_cons, List.take_zero, List.getElem_map]
    rw [e, h2]
    rfl
theorem C_ints (w : World) (g : Nat) (l : List Int) (hm : l.length ≤ 9223372036854775807) (hb : w.heap[g]? = some (.cells (l.map (Value.int .i64)).toArray 3 (0, 0))) : kI.C w (some ⟨g, 0, none⟩) l.length l := C_of_blk kI 3 w g l _ (reps_ints w l) hm hb
theorem C_one (w : World) (g : Nat) (x : S24) (hb : w.heap[g]? = some (.cells #[.int .i64 x.f0, .int .i64 x.f1, .string x.f2] 24 (0, 0))) : k24.C w (some ⟨g, 0, none⟩) 1 [x] := C_of_blk k24 24 w g [x] _ (Reps.c3 (k24_mk _ _) (Reps.none _ _)) (by simp) hb
theorem okS_of (x : S24) (h0 : -9223372036854775808 ≤ x.f0 ∧ x.f0 ≤ 9223372036854775807) (h1 : -9223372036854775808 ≤ x.f1 ∧ x.f1 ≤ 9223372036854775807) (h2 : x.f2.size ≤ maxLen) : okS x := ⟨by simp [Lit.wf, IntKind.min, IntKind.max, IntKind.bits, IntKind.signed]; omega, by simp [Lit.wf, IntKind.min, IntKind.max, IntKind.bits, IntKind.signed]; omega, h2⟩
theorem row_K {w : World} {g : Nat} {x : S24} (h : k24.C w (some ⟨g, 0, none⟩) 1 [x]) : (Kd.slice 24 k24).K w [x] [.slice (some ⟨g, 0, none⟩) 1 1] := ⟨_, _, rfl, Nat.le_refl _, h⟩
theorem ex_ok : ∀ x ∈ exL, okS x := by
  intro x hx
  simp only [exL, List.mem_cons, List.not_mem_nil, or_false] at hx
  rcases hx with rfl | rfl | rfl | rfl <;> exact okS_of _ ⟨by decide, by decide⟩ ⟨by decide, by decide⟩ (by decide)
def exR : List (List S24) := [[⟨1, 3, ⟨#[]⟩⟩], [⟨0, 0, ⟨#[]⟩⟩], [⟨1, 1, ⟨#[]⟩⟩], [⟨1, 3, ⟨#[]⟩⟩]]
theorem ex_build (w : World) (g8 g10 g12 g14 g15 : Nat) (h8 : w.heap[g8]? = some (.cells #[.int .i64 1, .int .i64 3, .string (⟨#[]⟩ : ByteArray)] 24 (0, 0))) (h10 : w.heap[g10]? = some (.cells #[.int .i64 0, .int .i64 0, .string (⟨#[]⟩ : ByteArray)] 24 (0, 0))) (h12 : w.heap[g12]? = some (.cells #[.int .i64 1, .int .i64 1, .string (⟨#[]⟩ : ByteArray)] 24 (0, 0))) (h14 : w.heap[g14]? = some (.cells #[.int .i64 1, .int .i64 3, .string (⟨#[]⟩ : ByteArray)] 24 (0, 0)))
    (h15 : w.heap[g15]? = some (.cells #[.slice (some ⟨g8, 0, none⟩) 1 1, .slice (some ⟨g10, 0, none⟩) 1 1, .slice (some ⟨g12, 0, none⟩) 1 1, .slice (some ⟨g14, 0, none⟩) 1 1] 22 (0, 0))) :
    Calls Try.prog 6 #[.slice (some ⟨g15, 0, none⟩) 4 4, .int .i64 0] w fun e w' => ∃ g b0, e = .returned (.tuple #[.pointer (some ⟨g, 0, none⟩), .int .i64 0]) ∧ Ix w' b0 g exL ∧ Below w.heap.size w w' := by
  have hC : (Kd.slice 24 k24).C w (some ⟨g15, 0, none⟩) exR.length exR := C_of_blk (Kd.slice 24 k24) 22 w g15 exR [.slice (some ⟨g8, 0, none⟩) 1 1, .slice (some ⟨g10, 0, none⟩) 1 1, .slice (some ⟨g12, 0, none⟩) 1 1, .slice (some ⟨g14, 0, none⟩) 1 1]
    (Reps.one (row_K (C_one w g8 ⟨1, 3, ⟨#[]⟩⟩ h8)) (Reps.one (row_K (C_one w g10 ⟨0, 0, ⟨#[]⟩⟩ h10)) (Reps.one (row_K (C_one w g12 ⟨1, 1, ⟨#[]⟩⟩ h12)) (Reps.one (row_K (C_one w g14 ⟨1, 3, ⟨#[]⟩⟩ h14)) (Reps.none _ _))))) (by decide) h15
  have hok : ∀ r ∈ exR, ∀ x ∈ r, okS x := by
    intro r hr x hx
    refine ex_ok x ?_
    simp only [exR, List.mem_cons, List.not_mem_nil, or_false] at hr
    rcases hr with rfl | rfl | rfl | rfl <;> (simp only [List.mem_cons, List.not_mem_nil, or_false] at hx; subst hx; simp [exL])
  refine (index_Build w (some ⟨g15, 0, none⟩) 4 exR 0 hC (by decide) hok (by decide)).mono ?_
  rintro e w' ⟨g, rfl, h1, h2⟩
  exact ⟨g, _, rfl, h1, h2⟩
theorem ex_Eq (w : World) (b0 g : Nat) (h : Ix w b0 g exL) : Calls Try.prog 8 #[.pointer (some ⟨g, 0, none⟩), .agg #[.int .i64 1, .int .i64 3, .string (⟨#[]⟩ : ByteArray)]] w fun e w' => ∃ A c, e = .returned (.slice A 2 c) ∧ 2 ≤ c ∧ kI.C w' A 2 [0, 3] ∧ Below w.heap.size w w' := by
  refine (eq8 w b0 g exL ⟨1, 3, ⟨#[]⟩⟩ h).mono ?_
  rintro e w' ⟨v0, rfl, h1, h2⟩
  rw [if_neg (by decide), ex_eq] at h1
  obtain ⟨A, c, rfl, h3, h4⟩ := Kd.R_reads h1
  exact ⟨A, c, rfl, h3, h4, h2⟩
theorem ex_Hash (w : World) (b0 g : Nat) (h : Ix w b0 g exL) : Calls Try.prog 9 #[.pointer (some ⟨g, 0, none⟩), .agg #[.int .i64 0, .int .i64 0, .string (⟨#[]⟩ : ByteArray)]] w fun e w' => ∃ A c, e = .returned (.slice A 0 c) ∧ 0 ≤ c ∧ kI.C w' A 0 [] ∧ Below w.heap.size w w' := by
  refine (hash9 w b0 g exL ⟨0, 0, ⟨#[]⟩⟩ h (ex_ok _ (by simp [exL]))).mono ?_
  rintro e w' ⟨v0, rfl, h1, h2⟩
  rw [if_pos rfl] at h1
  obtain ⟨A, c, rfl, h3, h4⟩ := Kd.R_reads h1
  exact ⟨A, c, rfl, h3, h4, h2⟩
theorem Ix.srd {w : World} {b0 g : Nat} {L : List S24} (h : Ix w b0 g L) : ∃ S, Srt L S ∧ Rd w g L S := by
  obtain ⟨⟨B, n, own, vl, vs, S, h1, h2⟩, _, _⟩ := h
  exact ⟨S, h2, h1.rd⟩
theorem ex_All (w : World) (b0 g : Nat) (h : Ix w b0 g exL) : Calls Try.prog 10 #[.pointer (some ⟨g, 0, none⟩)] w fun e w' => ∃ A c, e = .returned (.slice A 4 c) ∧ 4 ≤ c ∧ kI.C w' A 4 [1, 2, 0, 3] ∧ Below w.heap.size w w' := by
  obtain ⟨S, h1, h2⟩ := h.srd
  obtain rfl := h1.unique ex_srt
  refine (all10 w g exL _ h2 (by decide)).mono ?_
  rintro e w' ⟨v0, rfl, h1, h2⟩
  obtain ⟨A, c, rfl, h3, h4⟩ := Kd.R_reads h1
  exact ⟨A, c, rfl, h3, h4, h2⟩
theorem ex_Range (w : World) (b0 g g36 : Nat) (h : Ix w b0 g exL) (h36 : w.heap[g36]? = some (.cells #[.int .i64 1, .int .i64 2, .string (⟨#[]⟩ : ByteArray)] 24 (0, 0))) : Calls Try.prog 12 #[.pointer (some ⟨g, 0, none⟩), .slice (some ⟨g36, 0, none⟩) 1 1, .slice none 0 0] w fun e w' => ∃ A c, e = .returned (.slice A 2 c) ∧ 2 ≤ c ∧ kI.C w' A 2 [0, 3] ∧ Below w.heap.size w w' := by
  obtain ⟨S, h1, h2⟩ := h.srd
  obtain rfl := h1.unique ex_srt
  have := range12 w g exL _ h2 h1 (by decide) (some ⟨g36, 0, none⟩) none 1 0 [⟨1, 2, ⟨#[]⟩⟩] [] (C_one w g36 ⟨1, 2, ⟨#[]⟩⟩ h36) (Kd.C_nil k24 w) (by decide) (by decide)
  rw [ex_range] at this
  exact this
theorem ex_Distinct (w : World) (b0 g : Nat) (h : Ix w b0 g exL) : Calls Try.prog 13 #[.pointer (some ⟨g, 0, none⟩)] w fun e w' => e = .returned (.int .i64 2) ∧ Below w.heap.size w w' := by
  have := distinct13 w b0 g exL h
  rw [ex_dst] at this
  exact this
theorem ex_num (w : World) (A : Option Addr) (c : Nat) (g : Nat) (l : List Int) (n : Nat) (hn : n = l.length) (h1 : kI.C w A n l) (hc : n ≤ c) (h2 : kI.C w (some ⟨g, 0, none⟩) n l) (hm : n ≤ 1000) : Calls Try.prog 7 #[.slice A n c, .slice (some ⟨g, 0, none⟩) n n] w fun e w' => e = .returned (.bool true) ∧ Below w.heap.size w w' := by
  subst hn
  have := numbers7 A c l (some ⟨g, 0, none⟩) l.length l w h1 hc h2 (Nat.le_refl _) (by omega)
  rw [decide_eq_true rfl] at this
  exact this
set_option maxRecDepth 8000 in
set_option maxHeartbeats 8000000 in
theorem examples5 (w : World) : Calls Try.prog 5 #[] w fun e w' => e = .returned (.bool true) ∧ Below w.heap.size w w' := by
  have HB : Aside0 (Below w.heap.size w w) := ⟨Below.refl _ _⟩
  have MK1 := Aside0.mk True.intro
  have MK2 := Aside0.mk True.intro
  have MK3 := Aside0.mk True.intro
  have MK4 := Aside0.mk True.intro
  have MK5 := Aside0.mk True.intro
  have MK6 := Aside0.mk True.intro
  have MK7 := Aside0.mk True.intro
  have MK8 := Aside0.mk True.intro
  go_enter Try.func5, Try.ntmps5
  go_wp2_with (first | (have mk_ := MK1; go_at_call 14; refine (weathercocklaw06_n.calls 3 1 3 ⟨#[]⟩ _ rfl).mono ?_; rintro e w1 ⟨rfl, hb⟩; have HBn := Aside0.mk (below_step HB.out hb); clear HB; have HB := HBn; clear HBn; clear hb; clear mk_ MK1) | ((with_reducible refine gate_dst (N := 8) rfl ?_); refine slice_event ?hg (N := 8) ?hd (cs := #[.int .i64 1, .int .i64 3, .string (⟨#[]⟩ : ByteArray)]) (t := 24) (n := 1) ?hr ?_; (case hd => rfl); (case hg => rfl); (case hr => first | (go_simp; done) | (go_simp; rfl)); intro g8 hge w2 hbl hb; clear hge; have HBn := Aside0.mk (below_step HB.out hb); clear HB; have HB := HBn; clear HBn; have H8 := Aside0.mk hbl; clear hbl; clear hb) | ((with_reducible refine gate_dst (N := 10) rfl ?_); refine slice_event ?hg (N := 10) ?hd (cs := #[.int .i64 0, .int .i64 0, .string (⟨#[]⟩ : ByteArray)]) (t := 24) (n := 1) ?hr ?_; (case hd => rfl); (case hg => rfl); (case hr => first | (go_simp; done) | (go_simp; rfl)); intro g10 hge w3 hbl hb; clear hge; have HBn := Aside0.mk (below_step HB.out hb); clear HB; have HB := HBn; clear HBn; replace H8 := Aside0.mk ((hb.block g8 (blk_lt H8.out)).trans H8.out); have H10 := Aside0.mk hbl; clear hbl; clear hb) | (have mk_ := MK2; go_at_call 14; refine (weathercocklaw06_n.calls 1 1 1 ⟨#[]⟩ _ rfl).mono ?_; rintro e w4 ⟨rfl, hb⟩; have HBn := Aside0.mk (below_step HB.out hb); clear HB; have HB := HBn; clear HBn; replace H8 := Aside0.mk ((hb.block g8 (blk_lt H8.out)).trans H8.out); replace H10 := Aside0.mk ((hb.block g10 (blk_lt H10.out)).trans H10.out); clear hb; clear mk_ MK2) | ((with_reducible refine gate_dst (N := 12) rfl ?_); refine slice_event ?hg (N := 12) ?hd (cs := #[.int .i64 1, .int .i64 1, .string (⟨#[]⟩ : ByteArray)]) (t := 24) (n := 1) ?hr ?_; (case hd => rfl); (case hg => rfl); (case hr => first | (go_simp; done) | (go_simp; rfl)); intro g12 hge w5 hbl hb; clear hge; have HBn := Aside0.mk (below_step HB.out hb); clear HB; have HB := HBn; clear HBn; replace H8 := Aside0.mk ((hb.block g8 (blk_lt H8.out)).trans H8.out); replace H10 := Aside0.mk ((hb.block g10 (blk_lt H10.out)).trans H10.out); have H12 := Aside0.mk hbl; clear hbl; clear hb) | (have mk_ := MK3; go_at_call 14; refine (weathercocklaw06_n.calls 3 1 3 ⟨#[]⟩ _ rfl).mono ?_; rintro e w6 ⟨rfl, hb⟩; have HBn := Aside0.mk (below_step HB.out hb); clear HB; have HB := HBn; clear HBn; replace H8 := Aside0.mk ((hb.block g8 (blk_lt H8.out)).trans H8.out); replace H10 := Aside0.mk ((hb.block g10 (blk_lt H10.out)).trans H10.out); replace H12 := Aside0.mk ((hb.block g12 (blk_lt H12.out)).trans H12.out); clear hb; clear mk_ MK3) | ((with_reducible refine gate_dst (N := 14) rfl ?_); refine slice_event ?hg (N := 14) ?hd (cs := #[.int .i64 1, .int .i64 3, .string (⟨#[]⟩ : ByteArray)]) (t := 24) (n := 1) ?hr ?_; (case hd => rfl); (case hg => rfl); (case hr => first | (go_simp; done) | (go_simp; rfl)); intro g14 hge w7 hbl hb; clear hge; have HBn := Aside0.mk (below_step HB.out hb); clear HB; have HB := HBn; clear HBn; replace H8 := Aside0.mk ((hb.block g8 (blk_lt H8.out)).trans H8.out); replace H10 := Aside0.mk ((hb.block g10 (blk_lt H10.out)).trans H10.out); replace H12 := Aside0.mk ((hb.block g12 (blk_lt H12.out)).trans H12.out); have H14 := Aside0.mk hbl; clear hbl; clear hb) | ((with_reducible refine gate_dst (N := 15) rfl ?_); refine slice_event ?hg (N := 15) ?hd (cs := #[.slice (some ⟨g8, 0, none⟩) 1 1, .slice (some ⟨g10, 0, none⟩) 1 1, .slice (some ⟨g12, 0, none⟩) 1 1, .slice (some ⟨g14, 0, none⟩) 1 1]) (t := 22) (n := 4) ?hr ?_; (case hd => rfl); (case hg => rfl); (case hr => first | (go_simp; done) | (go_simp; rfl)); intro g15 hge w8 hbl hb; clear hge; have HBn := Aside0.mk (below_step HB.out hb); clear HB; have HB := HBn; clear HBn; replace H8 := Aside0.mk ((hb.block g8 (blk_lt H8.out)).trans H8.out); replace H10 := Aside0.mk ((hb.block g10 (blk_lt H10.out)).trans H10.out); replace H12 := Aside0.mk ((hb.block g12 (blk_lt H12.out)).trans H12.out); replace H14 := Aside0.mk ((hb.block g14 (blk_lt H14.out)).trans H14.out); have H15 := Aside0.mk hbl; clear hbl; clear hb) | (go_at_call 6; refine (ex_build _ _ _ _ _ _ H8.out H10.out H12.out H14.out H15.out).mono ?_; rintro e w9 ⟨g, b0, rfl, hix, hb⟩; have HIX := Aside0.mk hix; clear hix; have HBn := Aside0.mk (below_step HB.out hb); clear HB; have HB := HBn; clear HBn hb H8 H10 H12 H14 H15) | (have mk_ := MK4; go_at_call 14; refine (weathercocklaw06_n.calls 3 1 3 ⟨#[]⟩ _ rfl).mono ?_; rintro e w10 ⟨rfl, hb⟩; have HBn := Aside0.mk (below_step HB.out hb); clear HB; have HB := HBn; clear HBn; replace HIX := Aside0.mk (HIX.out.below hb); clear hb mk_ MK4) | (go_at_call 8; refine (ex_Eq _ _ _ HIX.out).mono ?_; rintro e w11 ⟨A27, c27, rfl, hc, hC, hb⟩; have HBn := Aside0.mk (below_step HB.out hb); clear HB; have HB := HBn; clear HBn; replace HIX := Aside0.mk (HIX.out.below hb); have X27 := Aside0.mk hC; have X27c := Aside0.mk hc; clear hb hC hc) | ((with_reducible refine gate_dst (N := 28) rfl ?_); refine slice_event ?hg (N := 28) ?hd (cs := #[.int .i64 0, .int .i64 3]) (t := 3) (n := 2) ?hr ?_; (case hd => rfl); (case hg => rfl); (case hr => first | (go_simp; done) | (go_simp; rfl)); intro g28 hge w12 hbl hb; clear hge; have HBn := Aside0.mk (below_step HB.out hb); clear HB; have HB := HBn; clear HBn; replace HIX := Aside0.mk (HIX.out.below hb); replace X27 := Aside0.mk (Kd.C_below X27.out hb); have HL28 := Aside0.mk (C_ints _ g28 [0, 3] (by decide) hbl); clear hbl hb) | (have mk_ := MK5; go_at_call 7; refine (ex_num _ _ _ _ [0, 3] _ rfl X27.out X27c.out HL28.out (by decide)).mono ?_; rintro e w13 ⟨rfl, hb⟩; have HBn := Aside0.mk (below_step HB.out hb); clear HB; have HB := HBn; clear HBn; replace HIX := Aside0.mk (HIX.out.below hb); clear hb mk_ MK5) | (go_at_call 10; refine (ex_All _ _ _ HIX.out).mono ?_; rintro e w14 ⟨A31, c31, rfl, hc, hC, hb⟩; have HBn := Aside0.mk (below_step HB.out hb); clear HB; have HB := HBn; clear HBn; replace HIX := Aside0.mk (HIX.out.below hb); have X31 := Aside0.mk hC; have X31c := Aside0.mk hc; clear hb hC hc) | ((with_reducible refine gate_dst (N := 32) rfl ?_); refine slice_event ?hg (N := 32) ?hd (cs := #[.int .i64 1, .int .i64 2, .int .i64 0, .int .i64 3]) (t := 3) (n := 4) ?hr ?_; (case hd => rfl); (case hg => rfl); (case hr => first | (go_simp; done) | (go_simp; rfl)); intro g32 hge w15 hbl hb; clear hge; have HBn := Aside0.mk (below_step HB.out hb); clear HB; have HB := HBn; clear HBn; replace HIX := Aside0.mk (HIX.out.below hb); replace X31 := Aside0.mk (Kd.C_below X31.out hb); have HL32 := Aside0.mk (C_ints _ g32 [1, 2, 0, 3] (by decide) hbl); clear hbl hb) | (have mk_ := MK6; go_at_call 7; refine (ex_num _ _ _ _ [1, 2, 0, 3] _ rfl X31.out X31c.out HL32.out (by decide)).mono ?_; rintro e w16 ⟨rfl, hb⟩; have HBn := Aside0.mk (below_step HB.out hb); clear HB; have HB := HBn; clear HBn; replace HIX := Aside0.mk (HIX.out.below hb); clear hb mk_ MK6) | (have mk_ := MK7; go_at_call 14; refine (weathercocklaw06_n.calls 2 1 2 ⟨#[]⟩ _ rfl).mono ?_; rintro e w17 ⟨rfl, hb⟩; have HBn := Aside0.mk (below_step HB.out hb); clear HB; have HB := HBn; clear HBn; replace HIX := Aside0.mk (HIX.out.below hb); clear hb mk_ MK7) | ((with_reducible refine gate_dst (N := 36) rfl ?_); refine slice_event ?hg (N := 36) ?hd (cs := #[.int .i64 1, .int .i64 2, .string (⟨#[]⟩ : ByteArray)]) (t := 24) (n := 1) ?hr ?_; (case hd => rfl); (case hg => rfl); (case hr => first | (go_simp; done) | (go_simp; rfl)); intro g36 hge w18 hbl hb; clear hge; have HBn := Aside0.mk (below_step HB.out hb); clear HB; have HB := HBn; clear HBn; replace HIX := Aside0.mk (HIX.out.below hb); have HL36 := Aside0.mk hbl; clear hbl hb) | (go_at_call 12; refine (ex_Range _ _ _ g36 HIX.out HL36.out).mono ?_; rintro e w19 ⟨A37, c37, rfl, hc, hC, hb⟩; have HBn := Aside0.mk (below_step HB.out hb); clear HB; have HB := HBn; clear HBn; replace HIX := Aside0.mk (HIX.out.below hb); have X37 := Aside0.mk hC; have X37c := Aside0.mk hc; clear hb hC hc) | ((with_reducible refine gate_dst (N := 38) rfl ?_); refine slice_event ?hg (N := 38) ?hd (cs := #[.int .i64 0, .int .i64 3]) (t := 3) (n := 2) ?hr ?_; (case hd => rfl); (case hg => rfl); (case hr => first | (go_simp; done) | (go_simp; rfl)); intro g38 hge w20 hbl hb; clear hge; have HBn := Aside0.mk (below_step HB.out hb); clear HB; have HB := HBn; clear HBn; replace HIX := Aside0.mk (HIX.out.below hb); replace X37 := Aside0.mk (Kd.C_below X37.out hb); have HL38 := Aside0.mk (C_ints _ g38 [0, 3] (by decide) hbl); clear hbl hb) | (have mk_ := MK8; go_at_call 7; refine (ex_num _ _ _ _ [0, 3] _ rfl X37.out X37c.out HL38.out (by decide)).mono ?_; rintro e w21 ⟨rfl, hb⟩; have HBn := Aside0.mk (below_step HB.out hb); clear HB; have HB := HBn; clear HBn; replace HIX := Aside0.mk (HIX.out.below hb); clear hb mk_ MK8) | (go_at_call 9; refine (ex_Hash _ _ _ HIX.out).mono ?_; rintro e w22 ⟨A50, c50, rfl, hc, hC, hb⟩; have HBn := Aside0.mk (below_step HB.out hb); clear HB; have HB := HBn; clear HBn; replace HIX := Aside0.mk (HIX.out.below hb); have X50 := Aside0.mk hC; have X50c := Aside0.mk hc; clear hb hC hc) | (go_at_call 13; refine (ex_Distinct _ _ _ HIX.out).mono ?_; rintro e w23 ⟨rfl, hb⟩; have HBn := Aside0.mk (below_step HB.out hb); clear HB; have HB := HBn; clear HBn; replace HIX := Aside0.mk (HIX.out.below hb); clear hb))
  trace_state
  go_ret
  exact ⟨rfl, HB.out⟩

end Go.Proofs.Ytpkhdljlhdomlaa.QIndexFinds
