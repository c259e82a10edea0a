import Derived.Test.YtpkhdljlhdomlaaIxI
/- Index: walks by hand; the conditions stand in each theorem. -/
namespace Go.Proofs.Ytpkhdljlhdomlaa.QIndexFinds
open Go.RowKit Go.Proofs.YtpkhdljlhdomlaaW.PrintWords Go.Proofs.YtpkhdljlhdomlaaW.PrintLast Go.Proofs.YtpkhdljlhdomlaaW.PrintMore
attribute [local go_sem] max2_int min2_int max_two min_two max_three min_three max_four min_four
set_option linter.unusedVariables false
set_option linter.unusedSimpArgs false
def pS (L : List S24) (v : S24) (bh : Bool) (s : Int) : Bool := decide (cVs (rd_T24 L s) v > 0) || (decide (cVs (rd_T24 L s) v = 0) && !bh)
theorem pS_mono {L : List S24} {v : S24} {bh : Bool} {s t : Int} (h : before L s t) (hs : pS L v bh s = true) : pS L v bh t = true := by
  unfold pS before at *
  have h1 : cVs (rd_T24 L s) (rd_T24 L t) ≤ 0 := by rcases h with h | ⟨h, _⟩ <;> omega
  have a1 := ordVs.anti (rd_T24 L s) v
  have a2 := ordVs.anti (rd_T24 L t) v
  have a3 := ordVs.anti (rd_T24 L s) (rd_T24 L t)
  simp only [Bool.or_eq_true, decide_eq_true_eq, Bool.and_eq_true, Bool.not_eq_true'] at hs ⊢
  rcases hs with hs | ⟨hs, hb⟩
  · left
    have := ordVs.strict (a := v) (b := rd_T24 L s) (d := rd_T24 L t) (by omega) h1
    omega
  · have e := (ordVs.eq0 _ _).1 hs
    rw [e] at h1 a3
    by_cases c : cVs (rd_T24 L t) v = 0
    · exact .inr ⟨c, hb⟩
    · left; omega
/- What lies ahead of the first place, and what lies behind. -/
theorem from_split {L : List S24} {S : List Int} {v : S24} {bh : Bool} {r : Nat} (hS : Srt L S) (hr : r ≤ S.length) (h1 : ∀ i, i < r → i + 1 = r → fromB L S v bh i = false) (h2 : r < S.length → fromB L S v bh r = true) :
    (∀ s ∈ S.take r, pS L v bh s = false) ∧ (∀ s ∈ S.drop r, pS L v bh s = true) := by
  have hpw := List.pairwise_iff_getElem.1 hS.2
  have hf : ∀ i (h : i < S.length), fromB L S v bh i = pS L v bh S[i] := fun i h => by unfold fromB pS; rw [rd_mem S i h]
  constructor
  · intro s hs
    obtain ⟨i, hi, rfl⟩ := List.mem_iff_getElem.1 hs
    rw [List.length_take] at hi
    rw [List.getElem_take]
    have hr1 : r - 1 < S.length := by omega
    have h3 := h1 (r - 1) (by omega) (by omega)
    rw [hf _ hr1] at h3
    cases e : pS L v bh S[i] with
    | false => rfl
    | true =>
      by_cases c : i = r - 1
      · subst c; rw [e] at h3; cases h3
      · have := pS_mono (hpw i (r - 1) (by omega) hr1 (by omega)) e
        rw [this] at h3
        cases h3
  · intro s hs
    obtain ⟨i, hi, rfl⟩ := List.mem_iff_getElem.1 hs
    rw [List.length_drop] at hi
    rw [List.getElem_drop]
    have h3 := h2 (by omega)
    rw [hf r (by omega)] at h3
    by_cases c : i = 0
    · subst c; exact h3
    · exact pS_mono (hpw r (r + i) (by omega) (by omega) (by omega)) h3
set_option maxRecDepth 8000 in
set_option maxHeartbeats 4000000 in
theorem from19 (w : World) (g : Nat) (L : List S24) (S : List Int) (v : S24) (bh : Bool) (hr : Rd w g L S) (hS : Srt L S) (hl : L.length ≤ 1000) :
    Calls Try.prog 19 #[.pointer (some ⟨g, 0, none⟩), encV v, .bool bh] w fun e w' => ∃ r : Nat, e = .returned (.int .i64 r) ∧ r ≤ S.length ∧ (∀ s ∈ S.take r, pS L v bh s = false) ∧ (∀ s ∈ S.drop r, pS L v bh s = true) ∧ Below w.heap.size w w' := by
  have hSl := hS.len
  have hb3 : Below w.heap.size w (((w.alloc (.cells #[.pointer (some ⟨g, 0, none⟩)] 27)).alloc (.cells #[.int .i64 v.f0, .int .i64 v.f1, .string v.f2] 24)).alloc (.cells #[.bool bh] 4)) := below_alloc (below_alloc (below_alloc (Below.refl _ _) _) _) _
  have s1 : (w.alloc (.cells #[.pointer (some ⟨g, 0, none⟩)] 27)).heap.size = w.heap.size + 1 := by simp
  have s2 : ((w.alloc (.cells #[.pointer (some ⟨g, 0, none⟩)] 27)).alloc (.cells #[.int .i64 v.f0, .int .i64 v.f1, .string v.f2] 24)).heap.size = w.heap.size + 1 + 1 := by simp
  have q0 : (((w.alloc (.cells #[.pointer (some ⟨g, 0, none⟩)] 27)).alloc (.cells #[.int .i64 v.f0, .int .i64 v.f1, .string v.f2] 24)).alloc (.cells #[.bool bh] 4)).heap[w.heap.size]? = some (.cells #[.pointer (some ⟨g, 0, none⟩)] 27 (0, 0)) := (Below.heap_alloc _ _ _ (by rw [s2]; omega)).trans ((Below.heap_alloc _ _ _ (by rw [s1]; omega)).trans (blk_new w _))
  have q1 : (((w.alloc (.cells #[.pointer (some ⟨g, 0, none⟩)] 27)).alloc (.cells #[.int .i64 v.f0, .int .i64 v.f1, .string v.f2] 24)).alloc (.cells #[.bool bh] 4)).heap[w.heap.size + 1]? = some (.cells #[.int .i64 v.f0, .int .i64 v.f1, .string v.f2] 24 (0, 0)) := (Below.heap_alloc _ _ _ (by rw [s2]; omega)).trans (by have := blk_new (w.alloc (.cells #[.pointer (some ⟨g, 0, none⟩)] 27)) (.cells #[.int .i64 v.f0, .int .i64 v.f1, .string v.f2] 24); rw [s1] at this; exact this)
  have q2 : (((w.alloc (.cells #[.pointer (some ⟨g, 0, none⟩)] 27)).alloc (.cells #[.int .i64 v.f0, .int .i64 v.f1, .string v.f2] 24)).alloc (.cells #[.bool bh] 4)).heap[w.heap.size + 1 + 1]? = some (.cells #[.bool bh] 4 (0, 0)) := by have := blk_new ((w.alloc (.cells #[.pointer (some ⟨g, 0, none⟩)] 27)).alloc (.cells #[.int .i64 v.f0, .int .i64 v.f1, .string v.f2] 24)) (.cells #[.bool bh] 4); rw [s2] at this; exact this
  have HR3 := hr.below hb3
  have HM : Aside0 (Calls Try.prog 27 #[.int .i64 (S.length : Int), .func (.func 28) #[] #[.pointer (some ⟨w.heap.size, 0, none⟩), .pointer (some ⟨w.heap.size + 1, 0, none⟩), .pointer (some ⟨w.heap.size + 1 + 1, 0, none⟩)]] (((w.alloc (.cells #[.pointer (some ⟨g, 0, none⟩)] 27)).alloc (.cells #[.int .i64 v.f0, .int .i64 v.f1, .string v.f2] 24)).alloc (.cells #[.bool bh] 4)) fun e w' => ∃ r : Nat, e = .returned (.int .i64 r) ∧ r ≤ S.length ∧ (∀ s ∈ S.take r, pS L v bh s = false) ∧ (∀ s ∈ S.drop r, pS L v bh s = true) ∧ Below w.heap.size w w') := ⟨by
    refine (search27 _ _ S.length (fromB L S v bh) (by omega) (fun W' hb i hi => ?_)).mono ?_
    · exact at28 W' w.heap.size (w.heap.size + 1) (w.heap.size + 1 + 1) g L S v bh ((hb.block _ (blk_lt q0)).trans q0) ((hb.block _ (blk_lt q1)).trans q1) ((hb.block _ (blk_lt q2)).trans q2) (HR3.below hb) hS.pl i hi
    · rintro e w' ⟨r, rfl, h1, h2, h3, h4⟩
      obtain ⟨h5, h6⟩ := from_split hS h1 h2 h3
      exact ⟨r, rfl, h1, h5, h6, hb3.trans (h4.mono hb3.size)⟩⟩
  obtain ⟨Al, cl, As, cs, mp, hg, hC, hD, hcl, hcs⟩ := HR3.out
  have k1 := (blk_cell hg 1).trans (rfl : _ = some (Value.slice As S.length cs))
  clear hr hS HR3 hg hC hD hb3 s1 s2 q0 q1 q2 hcl hcs hSl
  unfold encV
  go_enter Try.func19, Try.ntmps19
  go_wp2_with (go_at_call 27; refine HM.out.mono ?_; rintro e w9 ⟨r, rfl, h1, h2, h3, h4⟩; have H1 := Aside0.mk h1; have H2 := Aside0.mk h2; have H3 := Aside0.mk h3; have H4 := Aside0.mk h4; clear h1 h2 h3 h4 HM)
  go_ret
  exact ⟨r, rfl, H1.out, H2.out, H3.out, H4.out⟩
theorem cells_zero_of_none {α : Type} {d : Kd α} {w : World} {xs : List α} (h : Kd.C d w none xs.length xs) : xs = [] := by
  cases xs with
  | nil => rfl
  | cons x l =>
    obtain ⟨ad, _, he, _⟩ := Kd.C_get h x 0 (by omega) (by simp)
    cases he
set_option maxHeartbeats 4000000 in
theorem clone18 (A0 : Option Addr) (c0 : Nat) (l0 : List Int) (w : World) (hr0 : kI.C w A0 l0.length l0) (hc0 : l0.length ≤ c0) (hl : l0.length < 17592186044416) :
    Calls Try.prog 18 #[.slice A0 l0.length c0] w fun e w' => ∃ v0_ : Value, e = .returned (v0_) ∧ kI.R 3 w' w.heap.size (fun _ => True) v0_ l0 ∧ Below w.heap.size w w' := by
  have hu := run_underlying Try.underlying31
  have q22 : ∀ (w : World) (a : Option Addr) (n c n' c' : Nat), (binOp .eql 31 (.slice a n c) (.slice none n' c')).run Try.prog w = .ok (.bool a.isNone) w := fun w a n c n' c' => Lib.run_eql_slice_nil w _ _ a n c n' c' Try.underlying31
  cases A0 with
  | none =>
    obtain rfl := cells_zero_of_none hr0
    have HR := Aside0.mk hr0
    clear hr0
    go_enter Try.func18, Try.ntmps18
    go_wp2
    go_ret
    exact ⟨_, rfl, Kd.R_nil _ _ _ _ _, Below.refl _ _⟩
  | some ad =>
    have HR := Aside0.mk hr0
    clear hr0
    go_enter Try.func18, Try.ntmps18
    go_wp2_with (first | ((with_reducible refine gate_dst (N := 5) rfl ?_); refine Kd.R_lit kI _ 3 ?hg (N := 5) ?hd (xs := ([] : List Int)) (inner := []) (ok := fun _ => True) (okp := fun _ => True) ?hr ?hp (fun _ hk => hk) trivial (Below.refl _ _) (Nat.le_refl _) (by simp) ?_; (case hd => rfl); (case hg => rfl); (case hr => first | (go_simp; done) | (go_simp; rfl)); (case hp => exact (Reps.none _ _)); intro v1 w1 ho hb hg hat; have HO := Aside0.mk ho; have HB := Aside0.mk hb; have HAT := Aside0.mk hat; clear ho hb hg hat) | ((with_reducible refine gate_builtin (b := .append) (xs := #[.tmp 5, .tmp 6]) rfl ?_); at_builtin; refine Kd.R_append_rows kI (w0 := w) (Rr := kI.K w1) w.heap.size rfl (.tmp 5) (.tmp 6) 31 3 (.int .i64 0) 8 rfl Try.underlying31 info3 rfl (by decide) (by decide) _ ([] : List Int) l0 (some ad) l0.length c0 (fun _ => True) (fun _ => False) (by first | (go_simp; done) | (go_simp; rfl)) (by first | (go_simp; done) | (go_simp; rfl)) ?aO ?aR ?aK (fun _ hk => hk.elim) ?aF ?aB ?aS ?aL ?_; (case aO => exact HO.out); (case aR => exact (Kd.C_below HR.out HB.out)); (case aK => exact (fun x cs hx => hx)); (case aF => exact (fun _ _ => trivial)); (case aB => exact HB.out); (case aS => exact HB.out.size); (case aL => simp only [List.length_nil]; omega); intro v2 w2 ho2 hb2 hg2 hat2; have HO2 := Aside0.mk ho2; have HB2 := Aside0.mk hb2; clear ho2 hb2 hg2 hat2 HO HB))
    go_ret
    exact ⟨_, rfl, by simpa using HO2.out, HB2.out⟩

end Go.Proofs.Ytpkhdljlhdomlaa.QIndexFinds
