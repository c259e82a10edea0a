import Derived.Test.YtpkhdljlhdomlaaIxJ
import Derived.Test.YtpkhdljlhdomlaaIxE
/- Index: walks by hand; the conditions stand in each theorem. -/
namespace Go.Proofs.Ytpkhdljlhdomlaa.QIndexFinds
open Go.RowKit Go.Proofs.YtpkhdljlhdomlaaW.PrintWords Go.Proofs.YtpkhdljlhdomlaaW.PrintLast Go.Proofs.YtpkhdljlhdomlaaW.PrintMore
attribute [local go_sem] max2_int min2_int max_two min_two max_three min_three max_four min_four
set_option linter.unusedVariables false
set_option linter.unusedSimpArgs false
theorem slice31 (A : Option Addr) (n c r1 r2 : Nat) (h1 : r1 ≤ r2) (h2 : r2 ≤ n) (h3 : n ≤ c) (w : World) : (Instr.slice 31 (.slice A n c) (some (.int .i64 (r1 : Int))) (some (.int .i64 (r2 : Int))) none).run Try.prog w = .ok (.slice (if c = r1 then A else A.map (·.add (r1 * 1))) (r2 - r1) (c - r1)) w := by
  obtain ⟨i, hi, hz⟩ := Option.map_eq_some_iff.1 info3
  simp only [Prod.mk.injEq] at hz
  have := cut_mid (P := Try.prog) 31 3 .i64 .i64 Try.underlying31 hi 1 hz.2.1 A n c (r1 : Int) (r2 : Int) (by omega) (by omega) (by omega) h3 w
  simpa using this
theorem eq_of_lt {a b : List Int} (ha : a.Pairwise (· < ·)) (hb : b.Pairwise (· < ·)) (h : ∀ x, x ∈ a ↔ x ∈ b) : a = b :=
  List.Perm.eq_of_pairwise (le := (· < ·)) (fun x y _ _ h1 h2 => absurd h1 (by omega)) ha hb ((List.perm_ext_iff_of_nodup (ha.imp (fun h => by omega)) (hb.imp (fun h => by omega))).2 h)
theorem rd_some {L : List S24} {i : Nat} (h : i < L.length) : L[i]? = some (rd_T24 L (i : Int)) := by
  unfold rd_T24
  rw [Int.toNat_natCast, List.getD_eq_getElem?_getD, List.getElem?_eq_getElem h]
  rfl
theorem mem_places {n : Nat} {x : Int} : x ∈ places n ↔ ∃ i : Nat, i < n ∧ x = (i : Int) := by
  unfold places
  simp only [List.mem_map, List.mem_range]
  exact ⟨fun ⟨i, h, e⟩ => ⟨i, h, e.symm⟩, fun ⟨i, h, e⟩ => ⟨i, h, e.symm⟩⟩
theorem mem_bkt {L : List S24} {v : S24} {x : Int} : x ∈ bkt L v ↔ ∃ i : Nat, i < L.length ∧ x = (i : Int) ∧ rd_T24 L x = v := by
  unfold bkt
  simp only [List.mem_map, List.mem_filter, List.mem_range, decide_eq_true_eq]
  constructor
  · rintro ⟨i, ⟨h, e⟩, rfl⟩
    rw [rd_some h] at e
    exact ⟨i, h, rfl, by injection e⟩
  · rintro ⟨i, h, rfl, e⟩
    exact ⟨i, ⟨h, by rw [rd_some h, e]⟩, rfl⟩
theorem bkt_lt (L : List S24) (v : S24) : (bkt L v).Pairwise (· < ·) := by
  unfold bkt
  rw [List.pairwise_map]
  exact ((List.pairwise_lt_range (n := L.length)).filter _).imp (fun h => by omega)
theorem bkt_len (L : List S24) (v : S24) (hl : L.length ≤ 1000) : (bkt L v).length < 17592186044416 := by
  unfold bkt
  have h1 := List.length_filter_le (fun j => decide (L[j]? = some v)) (List.range L.length)
  rw [List.length_range] at h1
  rw [List.length_map]
  omega
theorem pS_eq {L : List S24} {v : S24} {s : Int} : (pS L v false s = true ∧ pS L v true s = false) ↔ rd_T24 L s = v := by
  unfold pS
  simp only [Bool.or_eq_true, decide_eq_true_eq, Bool.and_eq_true, Bool.not_false, and_true, Bool.not_true, Bool.and_false, Bool.or_false, decide_eq_false_iff_not]
  rw [← ordVs.eq0]
  omega
theorem eq_mid {L : List S24} {S : List Int} {v : S24} {r1 r2 : Nat} (hS : Srt L S) (h11 : r1 ≤ S.length) (h12 : ∀ s ∈ S.take r1, pS L v false s = false) (h13 : ∀ s ∈ S.drop r1, pS L v false s = true) (h21 : r2 ≤ S.length) (h22 : ∀ s ∈ S.take r2, pS L v true s = false) (h23 : ∀ s ∈ S.drop r2, pS L v true s = true) :
    r1 ≤ r2 ∧ r2 - r1 = ((S.take r2).drop r1).length ∧ (S.take r2).drop r1 = bkt L v := by
  have hle : r1 ≤ r2 := by
    refine Nat.le_of_not_lt (fun hlt => ?_)
    have a1 := h12 S[r2] (List.mem_iff_getElem.2 ⟨r2, by rw [List.length_take]; omega, by rw [List.getElem_take]⟩)
    have a2 := h23 S[r2] (List.mem_iff_getElem.2 ⟨0, by rw [List.length_drop]; omega, by simp [List.getElem_drop]⟩)
    unfold pS at a1 a2
    simp at a1 a2
    omega
  refine ⟨hle, by rw [List.length_drop, List.length_take]; omega, eq_of_lt ?_ (bkt_lt L v) (fun x => ?_)⟩
  · have hsub : ((S.take r2).drop r1).Sublist S := (List.drop_sublist _ _).trans (List.take_sublist _ _)
    refine (hS.2.sublist hsub).imp_of_mem ?_
    intro a b ha hb hab
    have e : ∀ x ∈ (S.take r2).drop r1, rd_T24 L x = v := fun x hx => pS_eq.1 ⟨h13 x (by rw [List.drop_take] at hx; exact List.mem_of_mem_take hx), h22 x (List.mem_of_mem_drop hx)⟩
    unfold before at hab
    rw [e a ha, e b hb, (ordVs.eq0 v v).2 rfl] at hab
    omega
  · rw [mem_bkt]
    constructor
    · intro hx
      have hxS : x ∈ S := List.mem_of_mem_take (List.mem_of_mem_drop hx)
      obtain ⟨i, hi, e⟩ := mem_places.1 (hS.1.mem_iff.1 hxS)
      exact ⟨i, hi, e, pS_eq.1 ⟨h13 x (by rw [List.drop_take] at hx; exact List.mem_of_mem_take hx), h22 x (List.mem_of_mem_drop hx)⟩⟩
    · rintro ⟨i, hi, e, hv⟩
      have hxS : x ∈ S := hS.1.mem_iff.2 (mem_places.2 ⟨i, hi, e⟩)
      obtain ⟨p1, p2⟩ := pS_eq.2 hv
      rw [← List.take_append_drop r2 S] at hxS
      rcases List.mem_append.1 hxS with hx | hx
      · rw [← List.take_append_drop r1 (S.take r2)] at hx
        rcases List.mem_append.1 hx with hx | hx
        · rw [List.take_take, Nat.min_eq_left hle] at hx
          rw [h12 x hx] at p1
          cases p1
        · exact hx
      · rw [h23 x hx] at p2
        cases p2
set_option maxRecDepth 8000 in
set_option maxHeartbeats 4000000 in
theorem eq8 (w : World) (b0 g : Nat) (L : List S24) (v : S24) (hx : Ix w b0 g L) :
    Calls Try.prog 8 #[.pointer (some ⟨g, 0, none⟩), encV v] w fun e w' => ∃ v0, e = .returned v0 ∧ kI.R 3 w' w.heap.size (fun _ => True) v0 (if v.f0 = 0 then [] else bkt L v) ∧ Below w.heap.size w w' := by
  obtain ⟨⟨B, n, own, vl, vs, S, hi, hss⟩, hl, hok⟩ := hx
  have hrd := hi.rd
  clear hi hok
  obtain ⟨Al, cl, As, cs, mp, hg, hC, hD, hcl, hcs⟩ := hrd.out
  have HSS := Aside0.mk hss
  have hb1 : Below w.heap.size w (w.alloc (.cells #[.int .i64 v.f0, .int .i64 v.f1, .string v.f2] 24)) := below_alloc (Below.refl _ _) _
  obtain ⟨W3, hW3⟩ : ∃ W3, W3 = w.alloc (.cells #[.int .i64 v.f0, .int .i64 v.f1, .string v.f2] 24) := ⟨_, rfl⟩
  obtain ⟨bk, hbk⟩ : ∃ bk, bk = w.heap.size := ⟨_, rfl⟩
  have hvb : W3.heap[bk]? = some (.cells #[.int .i64 v.f0, .int .i64 v.f1, .string v.f2] 24 (0, 0)) := by rw [hW3, hbk]; exact blk_new _ _
  have hv0 : (w.alloc (.cells #[.int .i64 v.f0, .int .i64 v.f1, .string v.f2] 24)).cell? ⟨w.heap.size, 0, none⟩ = some (.int .i64 v.f0) := (blk_cell (blk_new w _) 0).trans rfl
  rw [← hW3] at hb1
  have HB1 := Aside0.mk hb1
  have HR : Aside0 (∀ w', Below W3.heap.size W3 w' → Rd w' g L S) := ⟨fun w' hb => (hrd.below hb1).below hb⟩
  have HCS : Aside0 (∀ w', Below W3.heap.size W3 w' → ∀ r1 r2 : Nat, r1 ≤ r2 → r2 ≤ S.length → kI.C w' (if cs = r1 then As else As.map (·.add (r1 * 1))) ((S.take r2).drop r1).length ((S.take r2).drop r1)) := ⟨fun w' hb r1 r2 h1 h2 => by
    have h3 := Kd.C_below (Kd.C_below hD hb1) hb
    exact Kd.C_mid (k := kI) h3 h1 h2 hcs⟩
  have m0_ : Aside0 (W3.drew.cell? ⟨g, 1, none⟩ = some (.slice As S.length cs)) := ⟨(blk_cell (blk_drew ((hb1.block g (blk_lt hg)).trans hg)) 1).trans rfl⟩
  have m1_ : Aside0 (W3.drew.cell? ⟨bk, 0, none⟩ = some (.int .i64 v.f0)) := ⟨(blk_cell (blk_drew hvb) 0).trans rfl⟩
  have m2_ : Aside0 (W3.drew.cell? ⟨bk, 1, none⟩ = some (.int .i64 v.f1)) := ⟨(blk_cell (blk_drew hvb) 1).trans rfl⟩
  have m3_ : Aside0 (W3.drew.cell? ⟨bk, 2, none⟩ = some (.string v.f2)) := ⟨(blk_cell (blk_drew hvb) 2).trans rfl⟩
  have HW := Aside0.mk hW3
  have HBK := Aside0.mk hbk
  clear hrd hg hC hD hb1 hvb hW3 hbk hss
  by_cases hz : v.f0 = 0
  · rw [if_pos hz]
    unfold encV
    rw [hz] at hv0 ⊢
    have HB0 : Aside0 (Below w.heap.size w (w.alloc (.cells #[.int .i64 0, .int .i64 v.f1, .string v.f2] 24))) := ⟨below_alloc (Below.refl _ _) _⟩
    go_enter Try.func8, Try.ntmps8
    go_wp2
    go_ret
    exact ⟨_, rfl, Kd.R_nil _ _ _ _ _, HB0.out⟩
  · rw [if_neg hz]
    unfold encV
    go_enter Try.func8, Try.ntmps8
    go_wp2
    rw [← HW.out, ← HBK.out]
    have hsw : w.heap.size ≤ W3.heap.size := HB1.out.size
    clear hv0
    refine start_ (n := 13) (S := fun w' => w'.cell? ⟨g, 1, none⟩ = some (.slice As S.length cs) ∧ w'.cell? ⟨bk, 0, none⟩ = some (.int .i64 v.f0) ∧ w'.cell? ⟨bk, 1, none⟩ = some (.int .i64 v.f1) ∧ w'.cell? ⟨bk, 2, none⟩ = some (.string v.f2)) (ds := []) #[false, false, false, false, false, false, false, false, false, false, false, false, false] (by kernel_rfl) rfl rfl ⟨m0_.out, m1_.out, m2_.out, m3_.out⟩ (fun hHeld => ?_)
    refine pure_ (i := 0) (N := some 8) (v := ?_) (a' := ?_) #[true, false, false, false, false, false, false, false, false, false, false, false, false] rfl rfl (by kernel_rfl) (fun _ _ _ h => h) (Or.inl ⟨by rfl, ?_⟩) ?_ ?_
    rotate_left
    · intro w'
      go_simp
      with_reducible rfl
    rotate_left
    · simp only [Act.put, List.setIfInBounds_toArray, List.set_cons_zero, List.set_cons_succ, i64_w, i32_w]
      rfl
    refine pure_ (i := 1) (N := some 9) (v := ?_) (a' := ?_) #[true, true, false, false, false, false, false, false, false, false, false, false, false] rfl rfl (by kernel_rfl) (fun _ _ _ h => h) (Or.inl ⟨by rfl, ?_⟩) ?_ ?_
    rotate_left
    · intro w'
      go_simp
      with_reducible rfl
    rotate_left
    · simp only [Act.put, List.setIfInBounds_toArray, List.set_cons_zero, List.set_cons_succ, i64_w, i32_w]
      rfl
    refine pure_ (i := 2) (N := some 10) (v := ?_) (a' := ?_) #[true, true, true, false, false, false, false, false, false, false, false, false, false] rfl rfl (by kernel_rfl) (fun _ _ _ h => h) (Or.inl ⟨by rfl, ?_⟩) ?_ ?_
    rotate_left
    · intro w'
      go_simp
      with_reducible rfl
    rotate_left
    · simp only [Act.put, List.setIfInBounds_toArray, List.set_cons_zero, List.set_cons_succ, i64_w, i32_w]
      rfl
    refine pure_ (i := 4) (N := some 12) (v := ?_) (a' := ?_) #[true, true, true, false, true, false, false, false, false, false, false, false, false] rfl rfl (by kernel_rfl) (fun _ _ _ h => h) (Or.inl ⟨by rfl, ?_⟩) ?_ ?_
    rotate_left
    · intro w'
      go_simp
      with_reducible rfl
    rotate_left
    · simp only [Act.put, List.setIfInBounds_toArray, List.set_cons_zero, List.set_cons_succ, i64_w, i32_w]
      rfl
    refine pure_ (i := 7) (N := some 15) (v := ?_) (a' := ?_) #[true, true, true, false, true, false, false, true, false, false, false, false, false] rfl rfl (by kernel_rfl) (fun _ _ _ h => h) (Or.inl ⟨by rfl, ?_⟩) ?_ ?_
    rotate_left
    · intro w'
      go_simp
      with_reducible rfl
    rotate_left
    · simp only [Act.put, List.setIfInBounds_toArray, List.set_cons_zero, List.set_cons_succ, i64_w, i32_w]
      rfl
    refine take_ (i := 3) (N := some 11) (v := ?_) (a' := ?_) #[true, true, true, true, true, false, false, true, false, false, false, false, false] rfl rfl (by kernel_rfl) (fun _ _ _ h => h) (Or.inl ⟨by rfl, ?_⟩) hHeld ?_ ?_
    rotate_left
    · rintro w' ⟨s0, s1, s2, s3⟩
      go_simp
      with_reducible rfl
    rotate_left
    · simp only [Act.put, List.setIfInBounds_toArray, List.set_cons_zero, List.set_cons_succ, i64_w, i32_w]
      rfl
    refine take_ (i := 5) (N := some 13) (v := ?_) (a' := ?_) #[true, true, true, true, true, true, false, true, false, false, false, false, false] rfl rfl (by kernel_rfl) (fun _ _ _ h => h) (Or.inl ⟨by rfl, ?_⟩) hHeld ?_ ?_
    rotate_left
    · rintro w' ⟨s0, s1, s2, s3⟩
      go_simp
      with_reducible rfl
    rotate_left
    · simp only [Act.put, List.setIfInBounds_toArray, List.set_cons_zero, List.set_cons_succ, i64_w, i32_w]
      rfl
    refine take_ (i := 8) (N := some 16) (v := ?_) (a' := ?_) #[true, true, true, true, true, true, false, true, true, false, false, false, false] rfl rfl (by kernel_rfl) (fun _ _ _ h => h) (Or.inl ⟨by rfl, ?_⟩) hHeld ?_ ?_
    rotate_left
    · rintro w' ⟨s0, s1, s2, s3⟩
      go_simp
      with_reducible rfl
    rotate_left
    · simp only [Act.put, List.setIfInBounds_toArray, List.set_cons_zero, List.set_cons_succ, i64_w, i32_w]
      rfl
    refine one_ (i := 6) (N := some 14) #[true, true, true, true, true, true, true, true, true, false, false, false, false] rfl rfl (by kernel_rfl) (by decide) (fun K hK => ?_)
    refine goes_ Try.func19 (by kernel_rfl) rfl #[.pointer (some ⟨g, 0, none⟩), encV v, .bool false] (by rfl) rfl rfl (by simp only [List.map_toArray, List.map_cons, List.map_nil]; rfl) ?_
    with_reducible refine (from19 _ g L S v false (HR.out _ (below_drew (Below.refl _ _))) HSS.out hl).mono ?_
    rintro e w3 ⟨r1, rfl, h11, h12, h13, hb3⟩
    refine ⟨_, rfl, ?_⟩
    have hb03 := (below_drew (Below.refl W3.heap.size W3)).trans hb3
    refine hK.out _ _ ⟨cells_later hb3 hHeld.1, cells_later hb3 hHeld.2.1, cells_later hb3 hHeld.2.2.1, cells_later hb3 hHeld.2.2.2⟩ (fun hHeld => ?_)
    clear hK K
    refine norm_ (a' := ?_) ?_ ?_
    rotate_left
    · show Act.put _ (some 14) _ = _
      simp only [Act.put, List.setIfInBounds_toArray, List.set_cons_zero, List.set_cons_succ, i64_w, i32_w]
      rfl
    refine one_ (i := 9) (N := some 17) #[true, true, true, true, true, true, true, true, true, true, false, false, false] rfl rfl (by kernel_rfl) (by decide) (fun K hK => ?_)
    refine goes_ Try.func19 (by kernel_rfl) rfl #[.pointer (some ⟨g, 0, none⟩), encV v, .bool true] (by rfl) rfl rfl (by simp only [List.map_toArray, List.map_cons, List.map_nil]; rfl) ?_
    with_reducible refine (from19 _ g L S v true (HR.out _ hb03) HSS.out hl).mono ?_
    rintro e w4 ⟨r2, rfl, h21, h22, h23, hb4⟩
    refine ⟨_, rfl, ?_⟩
    have hb04 := hb03.trans (hb4.mono hb03.size)
    have hMID := eq_mid HSS.out h11 h12 h13 h21 h22 h23
    have hsl := slice31 As S.length cs r1 r2 hMID.1 h21 hcs
    have hC4 := HCS.out w4 hb04 r1 r2 hMID.1 h21
    refine hK.out _ _ ⟨cells_later hb4 hHeld.1, cells_later hb4 hHeld.2.1, cells_later hb4 hHeld.2.2.1, cells_later hb4 hHeld.2.2.2⟩ (fun hHeld => ?_)
    clear hK K
    refine norm_ (a' := ?_) ?_ ?_
    rotate_left
    · show Act.put _ (some 17) _ = _
      simp only [Act.put, List.setIfInBounds_toArray, List.set_cons_zero, List.set_cons_succ, i64_w, i32_w]
      rfl
    refine one_ (i := 10) (N := some 18) #[true, true, true, true, true, true, true, true, true, true, true, false, false] rfl rfl (by kernel_rfl) (by decide) (fun K hK => ?_)
    refine value_ (w1 := w4) (v := .slice (if cs = r1 then As else As.map (·.add (r1 * 1))) (r2 - r1) (cs - r1)) (by rfl) rfl ?_ ?_
    · first | (go_simp; done) | (go_simp; rfl) | (have := hsl w4; go_simp; rfl)
    rw [hMID.2.1]
    generalize (if cs = r1 then As else As.map (·.add (r1 * 1))) = A9 at *
    refine hK.out _ _ ⟨hHeld.1, hHeld.2.1, hHeld.2.2.1, hHeld.2.2.2⟩ (fun hHeld => ?_)
    clear hK K
    refine norm_ (a' := ?_) ?_ ?_
    rotate_left
    · show Act.put _ (some 18) _ = _
      simp only [Act.put, List.setIfInBounds_toArray, List.set_cons_zero, List.set_cons_succ, i64_w, i32_w]
      rfl
    refine one_ (i := 11) (N := some 19) #[true, true, true, true, true, true, true, true, true, true, true, true, false] rfl rfl (by kernel_rfl) (by decide) (fun K hK => ?_)
    rw [hMID.2.2] at hC4 ⊢
    refine goes_ Try.func18 (by kernel_rfl) rfl #[.slice A9 (bkt L v).length (cs - r1)] (by rfl) rfl rfl (by simp only [List.map_toArray, List.map_cons, List.map_nil]; rfl) ?_
    with_reducible refine (clone18 _ _ (bkt L v) w4 hC4 (by have := hMID.2.1; rw [hMID.2.2] at this; omega) (bkt_len L v hl)).mono ?_
    rintro e w5 ⟨v5, rfl, hR5, hb5⟩
    refine ⟨_, rfl, ?_⟩
    have hb05 := hb04.trans (hb5.mono hb04.size)
    have hsz4 := hb04.size
    have HF := Aside0.mk (And.intro (Kd.R_lower hR5 hsz4) hb05)
    refine hK.out _ _ ⟨cells_later hb5 hHeld.1, cells_later hb5 hHeld.2.1, cells_later hb5 hHeld.2.2.1, cells_later hb5 hHeld.2.2.2⟩ (fun hHeld => ?_)
    clear hK K
    refine norm_ (a' := ?_) ?_ ?_
    rotate_left
    · show Act.put _ (some 19) _ = _
      simp only [Act.put, List.setIfInBounds_toArray, List.set_cons_zero, List.set_cons_succ, i64_w, i32_w]
      rfl
    refine pure_ (i := 12) (N := some 4) (v := ?_) (a' := ?_) #[true, true, true, true, true, true, true, true, true, true, true, true, true] rfl rfl (by kernel_rfl) (fun _ _ _ h => h) (Or.inl ⟨by rfl, ?_⟩) ?_ ?_
    rotate_left
    · intro w'
      go_simp
      with_reducible rfl
    rotate_left
    · simp only [Act.put, List.setIfInBounds_toArray, List.set_cons_zero, List.set_cons_succ, i64_w, i32_w]
      rfl
    refine done_ (by kernel_rfl) ?_
    go_wp2
    go_ret
    exact ⟨v5, rfl, Kd.R_lower HF.out.1 hsw, HB1.out.trans (HF.out.2.mono hsw)⟩
theorem Ix0.bucket {w : World} {b0 g B n : Nat} {own : Nat → Tg} {vl vs : Value} {L : List S24} {S : List Int} {F : S24 → List Int} (h : Ix0 w b0 g B n own vl vs L S F) (v : S24) (hv : okS v) :
    ∃ Ab cb, (F v).length ≤ cb ∧ kI.C w Ab (F v).length (F v) ∧ ∀ w', w'.heap[B]? = w.heap[B]? → (Instr.lookup 42 (.map (some B)) (.agg #[.int .i64 v.f0, .int .i64 v.f1, .string v.f2]) false).run Try.prog w' = .ok (.slice Ab (F v).length cb) w' := by
  obtain ⟨f, hm, hk⟩ := h.bk.out
  have hlook : ∀ w', w'.heap[B]? = w.heap[B]? → (Instr.lookup 42 (.map (some B)) (.agg #[.int .i64 v.f0, .int .i64 v.f1, .string v.f2]) false).run Try.prog w' = .ok ((f v).getD (.slice none 0 0)) w' := fun w' hw => mapv_look (mapv_far hm hw) v hv
  rcases hk v with ⟨e1, e2⟩ | ⟨u, e1, _, e3⟩
  · rw [e1] at hlook
    rw [e2]
    exact ⟨none, 0, Nat.le_refl _, Kd.C_nil kI w, hlook⟩
  · obtain ⟨A, c, e, h1, h2⟩ := Kd.R_reads e3
    subst e
    rw [e1] at hlook
    exact ⟨A, c, h1, h2, hlook⟩
set_option maxRecDepth 8000 in
set_option maxHeartbeats 4000000 in
theorem hash9 (w : World) (b0 g : Nat) (L : List S24) (v : S24) (hx : Ix w b0 g L) (hv : okS v) :
    Calls Try.prog 9 #[.pointer (some ⟨g, 0, none⟩), encV v] w fun e w' => ∃ v0, e = .returned v0 ∧ kI.R 3 w' w.heap.size (fun _ => True) v0 (if v.f0 = 0 then [] else bkt L v) ∧ Below w.heap.size w w' := by
  obtain ⟨⟨B, n, own, vl, vs, S, hi, hss⟩, hl, hok⟩ := hx
  obtain ⟨Ab, cb, hcb, hCb, hlk⟩ := hi.bucket v hv
  have hg := hi.blk
  have hBl := hi.bk.lt
  clear hi hok hss
  have hb1 : Below w.heap.size w (w.alloc (.cells #[.int .i64 v.f0, .int .i64 v.f1, .string v.f2] 24)) := below_alloc (Below.refl _ _) _
  obtain ⟨W3, hW3⟩ : ∃ W3, W3 = w.alloc (.cells #[.int .i64 v.f0, .int .i64 v.f1, .string v.f2] 24) := ⟨_, rfl⟩
  obtain ⟨bk, hbk⟩ : ∃ bk, bk = w.heap.size := ⟨_, rfl⟩
  have hvb : W3.heap[bk]? = some (.cells #[.int .i64 v.f0, .int .i64 v.f1, .string v.f2] 24 (0, 0)) := by rw [hW3, hbk]; exact blk_new _ _
  have hv0 : (w.alloc (.cells #[.int .i64 v.f0, .int .i64 v.f1, .string v.f2] 24)).cell? ⟨w.heap.size, 0, none⟩ = some (.int .i64 v.f0) := (blk_cell (blk_new w _) 0).trans rfl
  rw [← hW3] at hb1
  have HB1 := Aside0.mk hb1
  have HC : Aside0 (kI.C W3 Ab (bkt L v).length (bkt L v)) := ⟨Kd.C_below hCb hb1⟩
  have m0_ : Aside0 (W3.drew.cell? ⟨g, 2, none⟩ = some (.map (some B))) := ⟨(blk_cell (blk_drew ((hb1.block g (blk_lt hg)).trans hg)) 2).trans rfl⟩
  have m1_ : Aside0 (W3.drew.cell? ⟨bk, 0, none⟩ = some (.int .i64 v.f0)) := ⟨(blk_cell (blk_drew hvb) 0).trans rfl⟩
  have m2_ : Aside0 (W3.drew.cell? ⟨bk, 1, none⟩ = some (.int .i64 v.f1)) := ⟨(blk_cell (blk_drew hvb) 1).trans rfl⟩
  have m3_ : Aside0 (W3.drew.cell? ⟨bk, 2, none⟩ = some (.string v.f2)) := ⟨(blk_cell (blk_drew hvb) 2).trans rfl⟩
  have m4_ : Aside0 ((Instr.lookup 42 (.map (some B)) (.agg #[.int .i64 v.f0, .int .i64 v.f1, .string v.f2]) false).run Try.prog W3.drew = .ok (.slice Ab (bkt L v).length cb) W3.drew) := ⟨hlk _ (hb1.block B hBl)⟩
  have HW := Aside0.mk hW3
  have HBK := Aside0.mk hbk
  clear hg hCb hlk hb1 hvb hW3 hbk hBl hv
  by_cases hz : v.f0 = 0
  · rw [if_pos hz]
    unfold encV
    rw [hz] at hv0 ⊢
    have HB0 : Aside0 (Below w.heap.size w (w.alloc (.cells #[.int .i64 0, .int .i64 v.f1, .string v.f2] 24))) := ⟨below_alloc (Below.refl _ _) _⟩
    go_enter Try.func9, Try.ntmps9
    go_wp2
    go_ret
    exact ⟨_, rfl, Kd.R_nil _ _ _ _ _, HB0.out⟩
  · rw [if_neg hz]
    unfold encV
    go_enter Try.func9, Try.ntmps9
    go_wp2
    rw [← HW.out, ← HBK.out]
    have hsw : w.heap.size ≤ W3.heap.size := HB1.out.size
    clear hv0
    refine start_ (n := 8) (S := fun w' => w'.cell? ⟨g, 2, none⟩ = some (.map (some B)) ∧ w'.cell? ⟨bk, 0, none⟩ = some (.int .i64 v.f0) ∧ w'.cell? ⟨bk, 1, none⟩ = some (.int .i64 v.f1) ∧ w'.cell? ⟨bk, 2, none⟩ = some (.string v.f2) ∧ (Instr.lookup 42 (.map (some B)) (.agg #[.int .i64 v.f0, .int .i64 v.f1, .string v.f2]) false).run Try.prog w' = .ok (.slice Ab (bkt L v).length cb) w') (ds := [6]) #[false, false, false, false, false, false, false, false] (by kernel_rfl) rfl rfl ⟨m0_.out, m1_.out, m2_.out, m3_.out, m4_.out⟩ (fun hHeld => ?_)
    refine pure_ (i := 0) (N := some 8) (v := ?_) (a' := ?_) #[true, false, false, false, false, false, false, false] rfl rfl (by kernel_rfl) (fun _ _ _ h => h) (Or.inl ⟨by rfl, ?_⟩) ?_ ?_
    rotate_left
    · intro w'
      go_simp
      with_reducible rfl
    rotate_left
    · simp only [Act.put, List.setIfInBounds_toArray, List.set_cons_zero, List.set_cons_succ, i64_w, i32_w]
      rfl
    refine pure_ (i := 1) (N := some 9) (v := ?_) (a' := ?_) #[true, true, false, false, false, false, false, false] rfl rfl (by kernel_rfl) (fun _ _ _ h => h) (Or.inl ⟨by rfl, ?_⟩) ?_ ?_
    rotate_left
    · intro w'
      go_simp
      with_reducible rfl
    rotate_left
    · simp only [Act.put, List.setIfInBounds_toArray, List.set_cons_zero, List.set_cons_succ, i64_w, i32_w]
      rfl
    refine pure_ (i := 2) (N := some 10) (v := ?_) (a' := ?_) #[true, true, true, false, false, false, false, false] rfl rfl (by kernel_rfl) (fun _ _ _ h => h) (Or.inl ⟨by rfl, ?_⟩) ?_ ?_
    rotate_left
    · intro w'
      go_simp
      with_reducible rfl
    rotate_left
    · simp only [Act.put, List.setIfInBounds_toArray, List.set_cons_zero, List.set_cons_succ, i64_w, i32_w]
      rfl
    refine take_ (i := 3) (N := some 11) (v := ?_) (a' := ?_) #[true, true, true, true, false, false, false, false] rfl rfl (by kernel_rfl) (fun _ _ _ h => h) (Or.inl ⟨by rfl, ?_⟩) hHeld ?_ ?_
    rotate_left
    · rintro w' ⟨s0, s1, s2, s3, s4⟩
      go_simp
      with_reducible rfl
    rotate_left
    · simp only [Act.put, List.setIfInBounds_toArray, List.set_cons_zero, List.set_cons_succ, i64_w, i32_w]
      rfl
    refine take_ (i := 4) (N := some 12) (v := ?_) (a' := ?_) #[true, true, true, true, true, false, false, false] rfl rfl (by kernel_rfl) (fun _ _ _ h => h) (Or.inl ⟨by rfl, ?_⟩) hHeld ?_ ?_
    rotate_left
    · rintro w' ⟨s0, s1, s2, s3, s4⟩
      go_simp
      with_reducible rfl
    rotate_left
    · simp only [Act.put, List.setIfInBounds_toArray, List.set_cons_zero, List.set_cons_succ, i64_w, i32_w]
      rfl
    refine take_ (i := 5) (N := some 13) (v := ?_) (a' := ?_) #[true, true, true, true, true, true, false, false] rfl rfl (by kernel_rfl) (fun _ _ _ h => h) (Or.inl ⟨by rfl, ?_⟩) hHeld ?_ ?_
    rotate_left
    · rintro w' ⟨s0, s1, s2, s3, s4⟩
      go_simp
      with_reducible rfl
    rotate_left
    · simp only [Act.put, List.setIfInBounds_toArray, List.set_cons_zero, List.set_cons_succ, i64_w, i32_w]
      rfl
    refine last_ (i := 6) (N := some 14) #[true, true, true, true, true, true, true, false] rfl rfl (by kernel_rfl) (by decide) (fun K hK => ?_)
    refine goes_ Try.func18 (by kernel_rfl) rfl #[.slice Ab (bkt L v).length cb] (by rfl) rfl rfl (by simp only [List.map_toArray, List.map_cons, List.map_nil]; rfl) ?_
    with_reducible refine (clone18 Ab cb (bkt L v) _ (Kd.C_drew HC.out) hcb (bkt_len L v hl)).mono ?_
    rintro e w5 ⟨v5, rfl, hR5, hb5⟩
    refine ⟨_, rfl, ?_⟩
    have HF := Aside0.mk (And.intro hR5 ((below_drew (Below.refl W3.heap.size W3)).trans hb5))
    refine hK.out _ _ ?_
    clear hK K
    refine norm_ (a' := ?_) ?_ ?_
    rotate_left
    · show Act.put _ (some 14) _ = _
      simp only [Act.put, List.setIfInBounds_toArray, List.set_cons_zero, List.set_cons_succ, i64_w, i32_w]
      rfl
    refine pure_ (i := 7) (N := some 4) (v := ?_) (a' := ?_) #[true, true, true, true, true, true, true, true] rfl rfl (by kernel_rfl) (fun _ _ _ h => h) (Or.inl ⟨by rfl, ?_⟩) ?_ ?_
    rotate_left
    · intro w'
      go_simp
      with_reducible rfl
    rotate_left
    · simp only [Act.put, List.setIfInBounds_toArray, List.set_cons_zero, List.set_cons_succ, i64_w, i32_w]
      rfl
    refine done_ (by kernel_rfl) ?_
    go_wp2
    go_ret
    exact ⟨v5, rfl, Kd.R_lower HF.out.1 hsw, HB1.out.trans (HF.out.2.mono hsw)⟩
set_option maxRecDepth 8000 in
set_option maxHeartbeats 4000000 in
theorem all10 (w : World) (g : Nat) (L : List S24) (S : List Int) (hr : Rd w g L S) (hl : S.length ≤ 1000) :
    Calls Try.prog 10 #[.pointer (some ⟨g, 0, none⟩)] w fun e w' => ∃ v0, e = .returned v0 ∧ kI.R 3 w' w.heap.size (fun _ => True) v0 S ∧ Below w.heap.size w w' := by
  obtain ⟨Al, cl, As, cs, mp, hg, hC, hD, hcl, hcs⟩ := hr.out
  have HM := Aside0.mk (clone18 As cs S w hD hcs (by omega))
  have k1 := (blk_cell hg 1).trans (rfl : _ = some (Value.slice As S.length cs))
  clear hr hg hC hD
  go_enter Try.func10, Try.ntmps10
  go_wp2_with (go_at_call 18; refine HM.out.mono ?_; rintro e w9 ⟨v9, rfl, h1, h2⟩; have H1 := Aside0.mk h1; have H2 := Aside0.mk h2; clear h1 h2 HM)
  go_ret
  exact ⟨v9, rfl, H1.out, H2.out⟩

end Go.Proofs.Ytpkhdljlhdomlaa.QIndexFinds
