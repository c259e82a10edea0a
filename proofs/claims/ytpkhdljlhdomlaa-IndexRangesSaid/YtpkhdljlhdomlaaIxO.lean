import Derived.Test.YtpkhdljlhdomlaaIxN
/- Index: walks by hand; the conditions stand in each theorem. -/
namespace Go.Proofs.Ytpkhdljlhdomlaa.QIndexFinds
open Go.RowKit Go.Proofs.YtpkhdljlhdomlaaW.PrintWords Go.Proofs.YtpkhdljlhdomlaaW.PrintLast Go.Proofs.YtpkhdljlhdomlaaW.PrintMore
attribute [local go_sem] max2_int min2_int max_two min_two max_three min_three max_four min_four
set_option linter.unusedVariables false
set_option linter.unusedSimpArgs false
theorem Srt.unique {L : List S24} {S S' : List Int} (h : Srt L S) (h' : Srt L S') : S = S' := by
  refine List.Perm.eq_of_pairwise (le := before L) ?_ h.2 h'.2 (h.1.trans h'.1.symm)
  intro a b _ _ h1 h2
  unfold before at h1 h2
  have := ordVs.anti (rd_T24 L a) (rd_T24 L b)
  omega
def geLo (L : List S24) (lo : List S24) (s : Int) : Bool := match lo with | [] => true | v :: _ => pS L v false s
def leHi (L : List S24) (hi : List S24) (s : Int) : Bool := match hi with | [] => true | v :: _ => !pS L v true s
def rangeL (L : List S24) (S : List Int) (lo hi : List S24) : List Int := S.filter (fun s => !isN L s && (geLo L lo s && leHi L hi s))
theorem range_none {L : List S24} {S : List Int} {lo hi : List S24} {a b : Nat} (hab : b ≤ a) (h1 : ∀ s ∈ S.take a, isN L s = true ∨ geLo L lo s = false) (h2 : ∀ s ∈ S.drop b, leHi L hi s = false) : rangeL L S lo hi = [] := by
  unfold rangeL
  rw [List.filter_eq_nil_iff]
  intro s hs
  rw [← List.take_append_drop a S] at hs
  rcases List.mem_append.1 hs with hs | hs
  · rcases h1 s hs with h | h <;> simp [h]
  · have : s ∈ S.drop b := by
      have e : S.drop a = (S.drop b).drop (a - b) := by rw [List.drop_drop]; congr 1; omega
      rw [e] at hs
      exact List.mem_of_mem_drop hs
    simp [h2 s this]
theorem range_some {L : List S24} {S : List Int} {lo hi : List S24} {a b : Nat} (hab : a ≤ b) (h1 : ∀ s ∈ S.take a, isN L s = true ∨ geLo L lo s = false) (h1' : ∀ s ∈ S.drop a, geLo L lo s = true) (h2 : ∀ s ∈ S.take b, leHi L hi s = true) (h2' : ∀ s ∈ S.drop b, leHi L hi s = false) : rangeL L S lo hi = keepN L ((S.take b).drop a) := by
  unfold rangeL keepN
  have e : S = S.take a ++ ((S.take b).drop a ++ S.drop b) := by
    rw [← List.append_assoc]
    have : S.take a ++ (S.take b).drop a = S.take b := by
      have := List.take_append_drop a (S.take b)
      rwa [List.take_take, Nat.min_eq_left hab] at this
    rw [this, List.take_append_drop]
  conv => lhs; rw [e]
  rw [List.filter_append, List.filter_append, show (S.take a).filter (fun s => !isN L s && (geLo L lo s && leHi L hi s)) = [] from List.filter_eq_nil_iff.2 ?_, show (S.drop b).filter (fun s => !isN L s && (geLo L lo s && leHi L hi s)) = [] from List.filter_eq_nil_iff.2 ?_, List.nil_append, List.append_nil]
  · apply List.filter_congr
    intro s hs
    have h3 : s ∈ S.take b := List.mem_of_mem_drop hs
    have h4 : s ∈ S.drop a := by rw [List.drop_take] at hs; exact List.mem_of_mem_take hs
    simp [h1' s h4, h2 s h3]
  · intro s hs
    simp [h2' s hs]
  · intro s hs
    rcases h1 s hs with h | h <;> simp [h]
theorem R_IS {w : World} {b0 : Nat} {ok : Nat → Prop} {v : Value} {l : List Int} (h : kI.R 3 w b0 ok v l) (hp : 0 < l.length) : ∃ q cap N, v = .slice (some ⟨q, 0, none⟩) l.length cap ∧ l.length ≤ cap ∧ l.length ≤ N ∧ b0 ≤ q ∧ q < w.heap.size ∧ IS w w q l.length N (fun p => l.getD p 0) := by
  obtain ⟨hok0, inner, ho, hr⟩ := h
  obtain ⟨ho1, ho2⟩ := ho
  rcases ho2 with ⟨_, hz⟩ | ⟨q, cap, cur, rfl, hq, hh, hnc, hcm, hcs, ht⟩
  · omega
  have hsz : kI.sz = 1 := rfl
  rw [hsz, Nat.mul_one] at ho1 ht hcs
  refine ⟨q, cap, cap, rfl, hnc, hnc, hq, (Array.getElem?_eq_some_iff.1 hh).1, ⟨rfl, rfl, rfl, rfl, fun _ _ => rfl, cur, hh, hcs, fun j hj => ?_⟩⟩
  have hv := hr.2 j l[j] (List.getElem?_eq_getElem hj)
  rw [hsz, Nat.mul_one] at hv
  have e : (inner.drop j).take 1 = [inner[j]'(by omega)] := by
    rw [List.drop_eq_getElem_cons (by omega)]
    rfl
  rw [e] at hv
  injection hv with hv
  have e1 : (cur.toList.take l.length)[j]? = some (inner[j]'(by omega)) := by rw [ht, List.getElem?_eq_getElem (by omega)]
  rw [List.getElem?_take, if_pos hj, Array.getElem?_toList] at e1
  rw [e1, hv]
  simp [List.getD_eq_getElem?_getD, List.getElem?_eq_getElem hj]
/- What is known all through: the call's own cell, the index, and what was handed in. -/
structure Rg (w W1 : World) (bx g : Nat) (L : List S24) (S : List Int) : Prop where
  b1 : Below w.heap.size w W1
  hb : W1.heap[bx]? = some (.cells #[.pointer (some ⟨g, 0, none⟩)] 27 (0, 0))
  rd : Rd W1 g L S
  lo : w.heap.size ≤ W1.heap.size
theorem Rg.step {w W1 W2 : World} {bx g : Nat} {L : List S24} {S : List Int} (h : Rg w W1 bx g L S) (hb : Below W1.heap.size W1 W2) : Rg w W2 bx g L S :=
  ⟨h.b1.trans (hb.mono h.b1.size), (hb.block bx (blk_lt h.hb)).trans h.hb, h.rd.below hb, Nat.le_trans h.lo hb.size⟩
set_option maxRecDepth 8000 in
set_option maxHeartbeats 8000000 in
theorem range12 (w : World) (g : Nat) (L : List S24) (S : List Int) (hrd : Rd w g L S) (hss : Srt L S) (hl : L.length ≤ 1000) (Alo Ahi : Option Addr) (clo chi : Nat) (lo hi : List S24) (hlo : k24.C w Alo lo.length lo) (hhi : k24.C w Ahi hi.length hi) (hll : lo.length ≤ 1) (hhl : hi.length ≤ 1) :
    Calls Try.prog 12 #[.pointer (some ⟨g, 0, none⟩), .slice Alo lo.length clo, .slice Ahi hi.length chi] w fun e w' => ∃ A c, e = .returned (.slice A (rangeL L S lo hi).length c) ∧ (rangeL L S lo hi).length ≤ c ∧ kI.C w' A (rangeL L S lo hi).length (rangeL L S lo hi) ∧ Below w.heap.size w w' := by
  have HSL := Aside0.mk hss.len
  have hb1 := below_alloc (Below.refl w.heap.size w) (.cells #[.pointer (some ⟨g, 0, none⟩)] 27)
  have HG0 : Aside0 (Rg w (w.alloc (.cells #[.pointer (some ⟨g, 0, none⟩)] 27)) w.heap.size g L S) := ⟨⟨hb1, blk_new w _, hrd.below hb1, hb1.size⟩⟩
  obtain ⟨Al, cl, As, cs, mp, hg, hC, hD, hcl, hcs⟩ := (HG0.out.rd).out
  have k0 := (blk_cell HG0.out.hb 0).trans (rfl : _ = some (Value.pointer (some ⟨g, 0, none⟩)))
  have k1 := (blk_cell hg 1).trans (rfl : _ = some (Value.slice As S.length cs))
  have HSS := Aside0.mk hss
  have HLO := Aside0.mk hlo
  have HHI := Aside0.mk hhi
  clear hrd hss hlo hhi hb1 hg hC hD
  go_enter Try.func12, Try.ntmps12
  go_wp2
  obtain ⟨W1, hW1⟩ : ∃ W1, W1 = w.alloc (.cells #[.pointer (some ⟨g, 0, none⟩)] 27) := ⟨_, rfl⟩
  obtain ⟨bx, hbx⟩ : ∃ bx, bx = w.heap.size := ⟨_, rfl⟩
  have HG : Aside0 (Rg w W1 bx g L S) := ⟨by rw [hW1, hbx]; exact HG0.out⟩
  rw [← hW1, ← hbx] at k0 ⊢
  rw [← hW1] at k1
  replace k0 : W1.drew.cell? ⟨bx, 0, none⟩ = some (.pointer (some ⟨g, 0, none⟩)) := k0
  replace k1 : W1.drew.cell? ⟨g, 1, none⟩ = some (.slice As S.length cs) := k1
  clear hW1 hbx HG0
  refine start_ (n := 7) (S := fun w' => w'.cell? ⟨bx, 0, none⟩ = some (.pointer (some ⟨g, 0, none⟩)) ∧ w'.cell? ⟨g, 1, none⟩ = some (.slice As S.length cs)) (ds := []) #[false, false, false, false, false, false, false] (by kernel_rfl) rfl rfl ⟨k0, k1⟩ (fun hHeld => ?_)
  refine pure_ (i := 5) (N := some 7) (v := ?_) (a' := ?_) #[false, false, false, false, false, true, false] rfl rfl (by kernel_rfl) (fun _ _ _ h => h) (Or.inl ⟨by rfl, ?_⟩) ?_ ?_
  rotate_left
  · intro w'
    go_simp
    with_reducible rfl
  rotate_left
  · simp only [Act.put, List.setIfInBounds_toArray, List.set_cons_zero, List.set_cons_succ, i64_w, i32_w]
    rfl
  refine take_ (i := 0) (N := some 10) (v := ?_) (a' := ?_) #[true, false, false, false, false, true, false] rfl rfl (by kernel_rfl) (fun _ _ _ h => h) (Or.inl ⟨by rfl, ?_⟩) hHeld ?_ ?_
  rotate_left
  · rintro w' ⟨s0, s1⟩
    go_simp
    with_reducible rfl
  rotate_left
  · simp only [Act.put, List.setIfInBounds_toArray, List.set_cons_zero, List.set_cons_succ, i64_w, i32_w]
    rfl
  refine pure_ (i := 1) (N := some 11) (v := ?_) (a' := ?_) #[true, true, false, false, false, true, false] rfl rfl (by kernel_rfl) (fun _ _ _ h => h) (Or.inl ⟨by rfl, ?_⟩) ?_ ?_
  rotate_left
  · intro w'
    go_simp
    with_reducible rfl
  rotate_left
  · simp only [Act.put, List.setIfInBounds_toArray, List.set_cons_zero, List.set_cons_succ, i64_w, i32_w]
    rfl
  refine pure_ (i := 2) (N := some 12) (v := ?_) (a' := ?_) #[true, true, true, false, false, true, false] rfl rfl (by kernel_rfl) (fun _ _ _ h => h) (Or.inl ⟨by rfl, ?_⟩) ?_ ?_
  rotate_left
  · intro w'
    go_simp
    with_reducible rfl
  rotate_left
  · simp only [Act.put, List.setIfInBounds_toArray, List.set_cons_zero, List.set_cons_succ, i64_w, i32_w]
    rfl
  refine take_ (i := 3) (N := some 13) (v := ?_) (a' := ?_) #[true, true, true, true, false, true, false] rfl rfl (by kernel_rfl) (fun _ _ _ h => h) (Or.inl ⟨by rfl, ?_⟩) hHeld ?_ ?_
  rotate_left
  · rintro w' ⟨s0, s1⟩
    go_simp
    with_reducible rfl
  rotate_left
  · simp only [Act.put, List.setIfInBounds_toArray, List.set_cons_zero, List.set_cons_succ, i64_w, i32_w]
    rfl
  refine pure_ (i := 4) (N := some 14) (v := ?_) (a' := ?_) #[true, true, true, true, true, true, false] rfl rfl (by kernel_rfl) (fun _ _ _ h => h) (Or.inl ⟨by rfl, ?_⟩) ?_ ?_
  rotate_left
  · intro w'
    go_simp
    with_reducible rfl
  rotate_left
  · simp only [Act.put, List.setIfInBounds_toArray, List.set_cons_zero, List.set_cons_succ, i64_w, i32_w]
    rfl
  refine pure_ (i := 6) (N := some 8) (v := ?_) (a' := ?_) #[true, true, true, true, true, true, true] rfl rfl (by kernel_rfl) (fun _ _ _ h => h) (Or.inl ⟨by rfl, ?_⟩) ?_ ?_
  rotate_left
  · intro w'
    go_simp
    with_reducible rfl
  rotate_left
  · simp only [Act.put, List.setIfInBounds_toArray, List.set_cons_zero, List.set_cons_succ, i64_w, i32_w]
    rfl
  refine done_ (by kernel_rfl) ?_
  have HG1 : Aside0 (Rg w W1.drew bx g L S) := ⟨HG.out.step (below_drew (Below.refl _ _))⟩
  clear k0 k1 HG
  generalize W1.drew = W2 at *
  go_upto_block 0 with fail
  go_cut [7] (fun s7 wx => ∃ a : Nat, a ≤ S.length ∧ s7 = .int .i64 a ∧ Aside0 (∀ s ∈ S.take a, isN L s = true) ∧ Aside0 (Rg w wx bx g L S))
  case first =>
    go_wp2
    go_loopw [7] (fun s7 wr => ∃ a : Nat, a ≤ S.length ∧ s7 = .int .i64 a ∧ Aside0 (∀ s ∈ S.take a, isN L s = true) ∧ Aside0 (Rg w wr bx g L S)) (fun s7 _ => S.length - (intOf s7).toNat)
    case atStart => exact ⟨0, Nat.zero_le _, rfl, ⟨by simp⟩, HG1⟩
    case round =>
      clear HG1
      obtain ⟨a, ha, rfl, HA, HG⟩ := hrel
      have HG' : Aside0 (Rg w wr.drew bx g L S) := ⟨HG.out.step (below_drew (Below.refl _ _))⟩
      have ha1000 : a ≤ 1000 := by have := HSL.out; omega
      by_cases hlt : a < S.length
      · obtain ⟨Al, cl, As', cs', mp', hg, hC, hD, _, _⟩ := HG'.out.rd.out
        obtain ⟨as_, e, hs0⟩ := Kd.at_int hD (a : Int) (by omega) (by omega)
        subst e
        have hp := HSS.out.pl _ (List.getElem_mem hlt)
        have HLT := Aside0.mk hlt
        have HT : Aside0 (S.take (a + 1) = S.take a ++ [S[a]]) := ⟨List.take_succ_eq_append_getElem hlt⟩
        rw [Int.toNat_natCast, rd_mem S a hlt] at hs0
        generalize S[a] = si at *
        obtain ⟨s, rfl⟩ := Int.eq_ofNat_of_zero_le hp.1
        have hsl : s < L.length := by omega
        obtain ⟨al, e, hx0, _, _⟩ := at_row hC s hsl
        subst e
        have m0_ : Aside0 (wr.drew.cell? ⟨bx, 0, none⟩ = some (.pointer (some ⟨g, 0, none⟩))) := ⟨(blk_cell HG'.out.hb 0).trans rfl⟩
        have m1_ : Aside0 (wr.drew.cell? ⟨g, 0, none⟩ = some (.slice (some al) L.length cl)) := ⟨(blk_cell hg 0).trans rfl⟩
        have m2_ : Aside0 (wr.drew.cell? ⟨g, 1, none⟩ = some (.slice (some as_) S.length cs')) := ⟨(blk_cell hg 1).trans rfl⟩
        have m3_ : Aside0 (wr.drew.cell? (as_.add a) = some (.int .i64 (s : Int))) := ⟨hs0⟩
        have m4_ : Aside0 (wr.drew.cell? (al.add (s * 3)) = some (.int .i64 (rd_T24 L (s : Int)).f0)) := ⟨hx0⟩
        have HN : Aside0 (isN L (s : Int) = decide ((rd_T24 L (s : Int)).f0 = 0)) := ⟨rfl⟩
        have hsn : (s : Int) < (L.length : Int) := by omega
        have han : (a : Int) < (S.length : Int) := by omega
        have hanb : decide ((a : Int) < (S.length : Int)) = true := decide_eq_true han
        clear hg hC hD hs0 hx0 hp
        generalize (rd_T24 L (s : Int)).f0 = k0 at *
        generalize L.length = nl at *
        go_wp2
        refine start_ (n := 20) (S := fun w' => w'.cell? ⟨bx, 0, none⟩ = some (.pointer (some ⟨g, 0, none⟩)) ∧ w'.cell? ⟨g, 0, none⟩ = some (.slice (some al) nl cl) ∧ w'.cell? ⟨g, 1, none⟩ = some (.slice (some as_) S.length cs') ∧ w'.cell? (as_.add a) = some (.int .i64 (s : Int)) ∧ w'.cell? (al.add (s * 3)) = some (.int .i64 k0)) (ds := []) #[false, false, false, false, false, false, false, false, false, false, false, false, false, false, false, false, false, false, false, false] (by kernel_rfl) rfl rfl ⟨m0_.out, m1_.out, m2_.out, m3_.out, m4_.out⟩ (fun hHeld => ?_)
        refine pure_ (i := 0) (N := some 15) (v := ?_) (a' := ?_) #[true, false, false, false, false, false, false, false, false, false, false, false, false, false, false, false, false, false, false, false] rfl rfl (by kernel_rfl) (fun _ _ _ h => h) (Or.inl ⟨by rfl, ?_⟩) ?_ ?_
        rotate_left
        · intro w'
          go_simp
          with_reducible rfl
        rotate_left
        · simp only [Act.put, List.setIfInBounds_toArray, List.set_cons_zero, List.set_cons_succ, i64_w, i32_w]
          rfl
        refine pure_ (i := 1) (N := some 16) (v := ?_) (a' := ?_) #[true, true, false, false, false, false, false, false, false, false, false, false, false, false, false, false, false, false, false, false] rfl rfl (by kernel_rfl) (fun _ _ _ h => h) (Or.inl ⟨by rfl, ?_⟩) ?_ ?_
        rotate_left
        · intro w'
          go_simp
          with_reducible rfl
        rotate_left
        · simp only [Act.put, List.setIfInBounds_toArray, List.set_cons_zero, List.set_cons_succ, i64_w, i32_w]
          rfl
        refine pure_ (i := 2) (N := some 17) (v := ?_) (a' := ?_) #[true, true, true, false, false, false, false, false, false, false, false, false, false, false, false, false, false, false, false, false] rfl rfl (by kernel_rfl) (fun _ _ _ h => h) (Or.inl ⟨by rfl, ?_⟩) ?_ ?_
        rotate_left
        · intro w'
          go_simp
          with_reducible rfl
        rotate_left
        · simp only [Act.put, List.setIfInBounds_toArray, List.set_cons_zero, List.set_cons_succ, i64_w, i32_w]
          rfl
        refine pure_ (i := 3) (N := some 18) (v := ?_) (a' := ?_) #[true, true, true, true, false, false, false, false, false, false, false, false, false, false, false, false, false, false, false, false] rfl rfl (by kernel_rfl) (fun _ _ _ h => h) (Or.inl ⟨by rfl, ?_⟩) ?_ ?_
        rotate_left
        · intro w'
          go_simp
          with_reducible rfl
        rotate_left
        · simp only [Act.put, List.setIfInBounds_toArray, List.set_cons_zero, List.set_cons_succ, i64_w, i32_w]
          rfl
        refine pure_ (i := 12) (N := some 27) (v := ?_) (a' := ?_) #[true, true, true, true, false, false, false, false, false, false, false, false, true, false, false, false, false, false, false, false] rfl rfl (by kernel_rfl) (fun _ _ _ h => h) (Or.inl ⟨by rfl, ?_⟩) ?_ ?_
        rotate_left
        · intro w'
          go_simp
          with_reducible rfl
        rotate_left
        · simp only [Act.put, List.setIfInBounds_toArray, List.set_cons_zero, List.set_cons_succ, i64_w, i32_w]
          rfl
        refine take_ (i := 4) (N := some 19) (v := ?_) (a' := ?_) #[true, true, true, true, true, false, false, false, false, false, false, false, true, false, false, false, false, false, false, false] rfl rfl (by kernel_rfl) (fun _ _ _ h => h) (Or.inl ⟨by rfl, ?_⟩) hHeld ?_ ?_
        rotate_left
        · rintro w' ⟨s0, s1, s2, s3, s4⟩
          go_simp
          with_reducible rfl
        rotate_left
        · simp only [Act.put, List.setIfInBounds_toArray, List.set_cons_zero, List.set_cons_succ, i64_w, i32_w]
          rfl
        refine pure_ (i := 5) (N := some 20) (v := ?_) (a' := ?_) #[true, true, true, true, true, true, false, false, false, false, false, false, true, false, false, false, false, false, false, false] rfl rfl (by kernel_rfl) (fun _ _ _ h => h) (Or.inl ⟨by rfl, ?_⟩) ?_ ?_
        rotate_left
        · intro w'
          go_simp
          with_reducible rfl
        rotate_left
        · simp only [Act.put, List.setIfInBounds_toArray, List.set_cons_zero, List.set_cons_succ, i64_w, i32_w]
          rfl
        refine pure_ (i := 6) (N := some 21) (v := ?_) (a' := ?_) #[true, true, true, true, true, true, true, false, false, false, false, false, true, false, false, false, false, false, false, false] rfl rfl (by kernel_rfl) (fun _ _ _ h => h) (Or.inl ⟨by rfl, ?_⟩) ?_ ?_
        rotate_left
        · intro w'
          go_simp
          with_reducible rfl
        rotate_left
        · simp only [Act.put, List.setIfInBounds_toArray, List.set_cons_zero, List.set_cons_succ, i64_w, i32_w]
          rfl
        refine take_ (i := 7) (N := some 22) (v := ?_) (a' := ?_) #[true, true, true, true, true, true, true, true, false, false, false, false, true, false, false, false, false, false, false, false] rfl rfl (by kernel_rfl) (fun _ _ _ h => h) (Or.inl ⟨by rfl, ?_⟩) hHeld ?_ ?_
        rotate_left
        · rintro w' ⟨s0, s1, s2, s3, s4⟩
          go_simp
          with_reducible rfl
        rotate_left
        · simp only [Act.put, List.setIfInBounds_toArray, List.set_cons_zero, List.set_cons_succ, i64_w, i32_w]
          rfl
        refine take_ (i := 8) (N := some 23) (v := ?_) (a' := ?_) #[true, true, true, true, true, true, true, true, true, false, false, false, true, false, false, false, false, false, false, false] rfl rfl (by kernel_rfl) (fun _ _ _ h => h) (Or.inl ⟨by rfl, ?_⟩) hHeld ?_ ?_
        rotate_left
        · rintro w' ⟨s0, s1, s2, s3, s4⟩
          go_simp
          with_reducible rfl
        rotate_left
        · simp only [Act.put, List.setIfInBounds_toArray, List.set_cons_zero, List.set_cons_succ, i64_w, i32_w]
          rfl
        refine pure_ (i := 9) (N := some 24) (v := ?_) (a' := ?_) #[true, true, true, true, true, true, true, true, true, true, false, false, true, false, false, false, false, false, false, false] rfl rfl (by kernel_rfl) (fun _ _ _ h => h) (Or.inl ⟨by rfl, ?_⟩) ?_ ?_
        rotate_left
        · intro w'
          go_simp
          with_reducible rfl
        rotate_left
        · simp only [Act.put, List.setIfInBounds_toArray, List.set_cons_zero, List.set_cons_succ, i64_w, i32_w]
          rfl
        refine pure_ (i := 10) (N := some 25) (v := ?_) (a' := ?_) #[true, true, true, true, true, true, true, true, true, true, true, false, true, false, false, false, false, false, false, false] rfl rfl (by kernel_rfl) (fun _ _ _ h => h) (Or.inl ⟨by rfl, ?_⟩) ?_ ?_
        rotate_left
        · intro w'
          go_simp
          with_reducible rfl
        rotate_left
        · simp only [Act.put, List.setIfInBounds_toArray, List.set_cons_zero, List.set_cons_succ, i64_w, i32_w]
          rfl
        refine take_ (i := 11) (N := some 26) (v := ?_) (a' := ?_) #[true, true, true, true, true, true, true, true, true, true, true, true, true, false, false, false, false, false, false, false] rfl rfl (by kernel_rfl) (fun _ _ _ h => h) (Or.inl ⟨by rfl, ?_⟩) hHeld ?_ ?_
        rotate_left
        · rintro w' ⟨s0, s1, s2, s3, s4⟩
          go_simp
          with_reducible rfl
        rotate_left
        · simp only [Act.put, List.setIfInBounds_toArray, List.set_cons_zero, List.set_cons_succ, i64_w, i32_w]
          rfl
        refine pure_ (i := 13) (N := some 28) (v := ?_) (a' := ?_) #[true, true, true, true, true, true, true, true, true, true, true, true, true, true, false, false, false, false, false, false] rfl rfl (by kernel_rfl) (fun _ _ _ h => h) (Or.inl ⟨by rfl, ?_⟩) ?_ ?_
        rotate_left
        · intro w'
          go_simp
          with_reducible rfl
        rotate_left
        · simp only [Act.put, List.setIfInBounds_toArray, List.set_cons_zero, List.set_cons_succ, i64_w, i32_w]
          rfl
        refine take_ (i := 14) (N := some 29) (v := ?_) (a' := ?_) #[true, true, true, true, true, true, true, true, true, true, true, true, true, true, true, false, false, false, false, false] rfl rfl (by kernel_rfl) (fun _ _ _ h => h) (Or.inl ⟨by rfl, ?_⟩) hHeld ?_ ?_
        rotate_left
        · rintro w' ⟨s0, s1, s2, s3, s4⟩
          go_simp
          with_reducible rfl
        rotate_left
        · simp only [Act.put, List.setIfInBounds_toArray, List.set_cons_zero, List.set_cons_succ, i64_w, i32_w]
          rfl
        refine pure_ (i := 15) (N := some 30) (v := ?_) (a' := ?_) #[true, true, true, true, true, true, true, true, true, true, true, true, true, true, true, true, false, false, false, false] rfl rfl (by kernel_rfl) (fun _ _ _ h => h) (Or.inl ⟨by rfl, ?_⟩) ?_ ?_
        rotate_left
        · intro w'
          go_simp
          with_reducible rfl
        rotate_left
        · simp only [Act.put, List.setIfInBounds_toArray, List.set_cons_zero, List.set_cons_succ, i64_w, i32_w]
          rfl
        refine pure_ (i := 16) (N := some 31) (v := ?_) (a' := ?_) #[true, true, true, true, true, true, true, true, true, true, true, true, true, true, true, true, true, false, false, false] rfl rfl (by kernel_rfl) (fun _ _ _ h => h) (Or.inl ⟨by rfl, ?_⟩) ?_ ?_
        rotate_left
        · intro w'
          go_simp
          with_reducible rfl
        rotate_left
        · simp only [Act.put, List.setIfInBounds_toArray, List.set_cons_zero, List.set_cons_succ, i64_w, i32_w]
          rfl
        refine take_ (i := 17) (N := some 32) (v := ?_) (a' := ?_) #[true, true, true, true, true, true, true, true, true, true, true, true, true, true, true, true, true, true, false, false] rfl rfl (by kernel_rfl) (fun _ _ _ h => h) (Or.inl ⟨by rfl, ?_⟩) hHeld ?_ ?_
        rotate_left
        · rintro w' ⟨s0, s1, s2, s3, s4⟩
          go_simp
          with_reducible rfl
        rotate_left
        · simp only [Act.put, List.setIfInBounds_toArray, List.set_cons_zero, List.set_cons_succ, i64_w, i32_w]
          rfl
        refine pure_ (i := 18) (N := some 33) (v := ?_) (a' := ?_) #[true, true, true, true, true, true, true, true, true, true, true, true, true, true, true, true, true, true, true, false] rfl rfl (by kernel_rfl) (fun _ _ _ h => h) (Or.inl ⟨by rfl, ?_⟩) ?_ ?_
        rotate_left
        · intro w'
          go_simp
          with_reducible rfl
        rotate_left
        · simp only [Act.put, List.setIfInBounds_toArray, List.set_cons_zero, List.set_cons_succ, i64_w, i32_w]
          rfl
        refine pure_ (i := 19) (N := some 34) (v := ?_) (a' := ?_) #[true, true, true, true, true, true, true, true, true, true, true, true, true, true, true, true, true, true, true, true] rfl rfl (by kernel_rfl) (fun _ _ _ h => h) (Or.inl ⟨by rfl, ?_⟩) ?_ ?_
        rotate_left
        · intro w'
          go_simp
          with_reducible rfl
        rotate_left
        · simp only [Act.put, List.setIfInBounds_toArray, List.set_cons_zero, List.set_cons_succ, i64_w, i32_w]
          rfl
        refine done_ (by kernel_rfl) ?_
        by_cases hz : k0 = 0
        · subst hz
          go_wp2
          go_roundw
          case rel => exact ⟨a + 1, by have := HLT.out; omega, by go_num, ⟨fun t ht => by
            rw [HT.out] at ht
            rcases List.mem_append.1 ht with h | h
            · exact HA.out t h
            · rw [List.mem_singleton.1 h, HN.out]; rfl⟩, HG'⟩
          case measure => simp [intOf]; have := HLT.out; omega
        · have hzb : decide (k0 = 0) = false := decide_eq_false hz
          go_wp2
          go_meet
          exact ⟨a, ha, rfl, HA, HG'⟩
      · have hanb : decide ((a : Int) < (S.length : Int)) = false := decide_eq_false (by omega)
        go_wp2
        refine start_ (n := 20) (S := fun w' => w'.cell? ⟨bx, 0, none⟩ = some (.pointer (some ⟨g, 0, none⟩))) (ds := []) #[false, false, false, false, false, false, false, false, false, false, false, false, false, false, false, false, false, false, false, false] (by kernel_rfl) rfl rfl ((blk_cell HG'.out.hb 0).trans rfl) (fun hHeld => ?_)
        refine pure_ (i := 0) (N := some 15) (v := ?_) (a' := ?_) #[true, false, false, false, false, false, false, false, false, false, false, false, false, false, false, false, false, false, false, false] rfl rfl (by kernel_rfl) (fun _ _ _ h => h) (Or.inl ⟨by rfl, ?_⟩) ?_ ?_
        rotate_left
        · intro w'
          go_simp
          with_reducible rfl
        rotate_left
        · simp only [Act.put, List.setIfInBounds_toArray, List.set_cons_zero, List.set_cons_succ, i64_w, i32_w]
          rfl
        refine pure_ (i := 1) (N := some 16) (v := ?_) (a' := ?_) #[true, true, false, false, false, false, false, false, false, false, false, false, false, false, false, false, false, false, false, false] rfl rfl (by kernel_rfl) (fun _ _ _ h => h) (Or.inl ⟨by rfl, ?_⟩) ?_ ?_
        rotate_left
        · intro w'
          go_simp
          with_reducible rfl
        rotate_left
        · simp only [Act.put, List.setIfInBounds_toArray, List.set_cons_zero, List.set_cons_succ, i64_w, i32_w]
          rfl
        refine pure_ (i := 2) (N := some 17) (v := ?_) (a' := ?_) #[true, true, true, false, false, false, false, false, false, false, false, false, false, false, false, false, false, false, false, false] rfl rfl (by kernel_rfl) (fun _ _ _ h => h) (Or.inl ⟨by rfl, ?_⟩) ?_ ?_
        rotate_left
        · intro w'
          go_simp
          with_reducible rfl
        rotate_left
        · simp only [Act.put, List.setIfInBounds_toArray, List.set_cons_zero, List.set_cons_succ, i64_w, i32_w]
          rfl
        refine pure_ (i := 3) (N := some 18) (v := ?_) (a' := ?_) #[true, true, true, true, false, false, false, false, false, false, false, false, false, false, false, false, false, false, false, false] rfl rfl (by kernel_rfl) (fun _ _ _ h => h) (Or.inl ⟨by rfl, ?_⟩) ?_ ?_
        rotate_left
        · intro w'
          go_simp
          with_reducible rfl
        rotate_left
        · simp only [Act.put, List.setIfInBounds_toArray, List.set_cons_zero, List.set_cons_succ, i64_w, i32_w]
          rfl
        refine pure_ (i := 4) (N := some 19) (v := undef) (a' := ?_) #[true, true, true, true, true, false, false, false, false, false, false, false, false, false, false, false, false, false, false, false] rfl rfl (by kernel_rfl) (fun _ _ _ h => h) (Or.inr ⟨by rfl, rfl⟩) ?_ ?_
        rotate_left
        · simp only [Act.put, List.setIfInBounds_toArray, List.set_cons_zero, List.set_cons_succ, i64_w, i32_w]
          rfl
        refine pure_ (i := 5) (N := some 20) (v := undef) (a' := ?_) #[true, true, true, true, true, true, false, false, false, false, false, false, false, false, false, false, false, false, false, false] rfl rfl (by kernel_rfl) (fun _ _ _ h => h) (Or.inr ⟨by rfl, rfl⟩) ?_ ?_
        rotate_left
        · simp only [Act.put, List.setIfInBounds_toArray, List.set_cons_zero, List.set_cons_succ, i64_w, i32_w]
          rfl
        refine pure_ (i := 6) (N := some 21) (v := undef) (a' := ?_) #[true, true, true, true, true, true, true, false, false, false, false, false, false, false, false, false, false, false, false, false] rfl rfl (by kernel_rfl) (fun _ _ _ h => h) (Or.inr ⟨by rfl, rfl⟩) ?_ ?_
        rotate_left
        · simp only [Act.put, List.setIfInBounds_toArray, List.set_cons_zero, List.set_cons_succ, i64_w, i32_w]
          rfl
        refine pure_ (i := 7) (N := some 22) (v := undef) (a' := ?_) #[true, true, true, true, true, true, true, true, false, false, false, false, false, false, false, false, false, false, false, false] rfl rfl (by kernel_rfl) (fun _ _ _ h => h) (Or.inr ⟨by rfl, rfl⟩) ?_ ?_
        rotate_left
        · simp only [Act.put, List.setIfInBounds_toArray, List.set_cons_zero, List.set_cons_succ, i64_w, i32_w]
          rfl
        refine pure_ (i := 8) (N := some 23) (v := undef) (a' := ?_) #[true, true, true, true, true, true, true, true, true, false, false, false, false, false, false, false, false, false, false, false] rfl rfl (by kernel_rfl) (fun _ _ _ h => h) (Or.inr ⟨by rfl, rfl⟩) ?_ ?_
        rotate_left
        · simp only [Act.put, List.setIfInBounds_toArray, List.set_cons_zero, List.set_cons_succ, i64_w, i32_w]
          rfl
        refine pure_ (i := 9) (N := some 24) (v := undef) (a' := ?_) #[true, true, true, true, true, true, true, true, true, true, false, false, false, false, false, false, false, false, false, false] rfl rfl (by kernel_rfl) (fun _ _ _ h => h) (Or.inr ⟨by rfl, rfl⟩) ?_ ?_
        rotate_left
        · simp only [Act.put, List.setIfInBounds_toArray, List.set_cons_zero, List.set_cons_succ, i64_w, i32_w]
          rfl
        refine pure_ (i := 10) (N := some 25) (v := undef) (a' := ?_) #[true, true, true, true, true, true, true, true, true, true, true, false, false, false, false, false, false, false, false, false] rfl rfl (by kernel_rfl) (fun _ _ _ h => h) (Or.inr ⟨by rfl, rfl⟩) ?_ ?_
        rotate_left
        · simp only [Act.put, List.setIfInBounds_toArray, List.set_cons_zero, List.set_cons_succ, i64_w, i32_w]
          rfl
        refine pure_ (i := 11) (N := some 26) (v := undef) (a' := ?_) #[true, true, true, true, true, true, true, true, true, true, true, true, false, false, false, false, false, false, false, false] rfl rfl (by kernel_rfl) (fun _ _ _ h => h) (Or.inr ⟨by rfl, rfl⟩) ?_ ?_
        rotate_left
        · simp only [Act.put, List.setIfInBounds_toArray, List.set_cons_zero, List.set_cons_succ, i64_w, i32_w]
          rfl
        refine pure_ (i := 12) (N := some 27) (v := undef) (a' := ?_) #[true, true, true, true, true, true, true, true, true, true, true, true, true, false, false, false, false, false, false, false] rfl rfl (by kernel_rfl) (fun _ _ _ h => h) (Or.inr ⟨by rfl, rfl⟩) ?_ ?_
        rotate_left
        · simp only [Act.put, List.setIfInBounds_toArray, List.set_cons_zero, List.set_cons_succ, i64_w, i32_w]
          rfl
        refine pure_ (i := 13) (N := some 28) (v := undef) (a' := ?_) #[true, true, true, true, true, true, true, true, true, true, true, true, true, true, false, false, false, false, false, false] rfl rfl (by kernel_rfl) (fun _ _ _ h => h) (Or.inr ⟨by rfl, rfl⟩) ?_ ?_
        rotate_left
        · simp only [Act.put, List.setIfInBounds_toArray, List.set_cons_zero, List.set_cons_succ, i64_w, i32_w]
          rfl
        refine pure_ (i := 14) (N := some 29) (v := undef) (a' := ?_) #[true, true, true, true, true, true, true, true, true, true, true, true, true, true, true, false, false, false, false, false] rfl rfl (by kernel_rfl) (fun _ _ _ h => h) (Or.inr ⟨by rfl, rfl⟩) ?_ ?_
        rotate_left
        · simp only [Act.put, List.setIfInBounds_toArray, List.set_cons_zero, List.set_cons_succ, i64_w, i32_w]
          rfl
        refine pure_ (i := 15) (N := some 30) (v := undef) (a' := ?_) #[true, true, true, true, true, true, true, true, true, true, true, true, true, true, true, true, false, false, false, false] rfl rfl (by kernel_rfl) (fun _ _ _ h => h) (Or.inr ⟨by rfl, rfl⟩) ?_ ?_
        rotate_left
        · simp only [Act.put, List.setIfInBounds_toArray, List.set_cons_zero, List.set_cons_succ, i64_w, i32_w]
          rfl
        refine pure_ (i := 16) (N := some 31) (v := undef) (a' := ?_) #[true, true, true, true, true, true, true, true, true, true, true, true, true, true, true, true, true, false, false, false] rfl rfl (by kernel_rfl) (fun _ _ _ h => h) (Or.inr ⟨by rfl, rfl⟩) ?_ ?_
        rotate_left
        · simp only [Act.put, List.setIfInBounds_toArray, List.set_cons_zero, List.set_cons_succ, i64_w, i32_w]
          rfl
        refine pure_ (i := 17) (N := some 32) (v := undef) (a' := ?_) #[true, true, true, true, true, true, true, true, true, true, true, true, true, true, true, true, true, true, false, false] rfl rfl (by kernel_rfl) (fun _ _ _ h => h) (Or.inr ⟨by rfl, rfl⟩) ?_ ?_
        rotate_left
        · simp only [Act.put, List.setIfInBounds_toArray, List.set_cons_zero, List.set_cons_succ, i64_w, i32_w]
          rfl
        refine pure_ (i := 18) (N := some 33) (v := undef) (a' := ?_) #[true, true, true, true, true, true, true, true, true, true, true, true, true, true, true, true, true, true, true, false] rfl rfl (by kernel_rfl) (fun _ _ _ h => h) (Or.inr ⟨by rfl, rfl⟩) ?_ ?_
        rotate_left
        · simp only [Act.put, List.setIfInBounds_toArray, List.set_cons_zero, List.set_cons_succ, i64_w, i32_w]
          rfl
        refine pure_ (i := 19) (N := some 34) (v := ?_) (a' := ?_) #[true, true, true, true, true, true, true, true, true, true, true, true, true, true, true, true, true, true, true, true] rfl rfl (by kernel_rfl) (fun _ _ _ h => h) (Or.inl ⟨by rfl, ?_⟩) ?_ ?_
        rotate_left
        · intro w'
          go_simp
          with_reducible rfl
        rotate_left
        · simp only [Act.put, List.setIfInBounds_toArray, List.set_cons_zero, List.set_cons_succ, i64_w, i32_w]
          rfl
        refine done_ (by kernel_rfl) ?_
        go_wp2
        go_meet
        exact ⟨a, ha, rfl, HA, HG'⟩
  case rest =>
  obtain ⟨a0, ha0, rfl, HA, HG⟩ := hcut
  obtain ⟨wO, rfl⟩ : ∃ x, x = wc := ⟨_, rfl⟩
  clear HG1
  have HFR : Aside0 (∀ wx, Rg w wx bx g L S → ∀ w', Below wx.heap.size wx w' → ∀ x bh, Calls Try.prog 19 #[.pointer (some ⟨g, 0, none⟩), encV x, .bool bh] w' fun e w'' => ∃ r : Nat, e = .returned (.int .i64 r) ∧ r ≤ S.length ∧ (∀ s ∈ S.take r, pS L x bh s = false) ∧ (∀ s ∈ S.drop r, pS L x bh s = true) ∧ Below w'.heap.size w' w'') := ⟨fun wx h w' hb x bh => from19 w' g L S x bh (h.rd.below hb) HSS.out hl⟩
  go_upto_if 39 with fail
  go_cut [7] (fun s7 wx => ∃ a : Nat, a ≤ S.length ∧ s7 = .int .i64 a ∧ Aside0 ((∀ s ∈ S.take a, isN L s = true ∨ geLo L lo s = false) ∧ (∀ s ∈ S.drop a, geLo L lo s = true)) ∧ Aside0 (Rg w wx bx g L S))
  case first =>
    cases lo with
    | nil =>
      go_wp2
      go_meet
      exact ⟨a0, ha0, rfl, ⟨fun s hs => .inl (HA.out s hs), fun _ _ => rfl⟩, HG⟩
    | cons x lo' =>
      have hlo' : lo' = [] := List.eq_nil_of_length_eq_zero (by simpa using hll)
      subst hlo'
      have HG' : Aside0 (Rg w wO.drew bx g L S) := ⟨HG.out.step (below_drew (Below.refl _ _))⟩
      have hCl := Kd.C_below HLO.out HG'.out.b1
      obtain ⟨alo, e, hx0, hx1, hx2⟩ := at_T24 hCl 0 (by omega) (by simp)
      subst e
      have ez : alo.add ((0 : Int).toNat * 3) = alo := by simp [Addr.add]
      have er : rd_T24 [x] 0 = x := rfl
      rw [ez, er] at hx0 hx1 hx2
      have m0_ : Aside0 (wO.drew.cell? ⟨bx, 0, none⟩ = some (.pointer (some ⟨g, 0, none⟩))) := ⟨(blk_cell HG'.out.hb 0).trans rfl⟩
      have m1_ := Aside0.mk hx0
      have m2_ := Aside0.mk hx1
      have m3_ := Aside0.mk hx2
      have HF : Aside0 _ := ⟨HFR.out _ HG.out⟩
      clear hCl hx0 hx1 hx2 ez er
      go_wp2
      refine start_ (n := 8) (S := fun w' => w'.cell? ⟨bx, 0, none⟩ = some (.pointer (some ⟨g, 0, none⟩)) ∧ w'.cell? alo = some (.int .i64 x.f0) ∧ w'.cell? ⟨alo.block, alo.off + 1, none⟩ = some (.int .i64 x.f1) ∧ w'.cell? ⟨alo.block, alo.off + 2, none⟩ = some (.string x.f2)) (ds := []) #[false, false, false, false, false, false, false, false] (by kernel_rfl) rfl rfl ⟨m0_.out, m1_.out, m2_.out, m3_.out⟩ (fun hHeld => ?_)
      refine pure_ (i := 0) (N := some 40) (v := ?_) (a' := ?_) #[true, false, false, false, false, false, false, false] rfl rfl (by kernel_rfl) (fun _ _ _ h => h) (Or.inl ⟨by rfl, ?_⟩) ?_ ?_
      rotate_left
      · intro w'
        go_simp
        with_reducible rfl
      rotate_left
      · simp only [Act.put, List.setIfInBounds_toArray, List.set_cons_zero, List.set_cons_succ, i64_w, i32_w]
        rfl
      refine pure_ (i := 2) (N := some 42) (v := ?_) (a' := ?_) #[true, false, true, false, false, false, false, false] rfl rfl (by kernel_rfl) (fun _ _ _ h => h) (Or.inl ⟨by rfl, ?_⟩) ?_ ?_
      rotate_left
      · intro w'
        go_simp
        with_reducible rfl
      rotate_left
      · simp only [Act.put, List.setIfInBounds_toArray, List.set_cons_zero, List.set_cons_succ, i64_w, i32_w]
        rfl
      refine pure_ (i := 3) (N := some 43) (v := ?_) (a' := ?_) #[true, false, true, true, false, false, false, false] rfl rfl (by kernel_rfl) (fun _ _ _ h => h) (Or.inl ⟨by rfl, ?_⟩) ?_ ?_
      rotate_left
      · intro w'
        go_simp
        with_reducible rfl
      rotate_left
      · simp only [Act.put, List.setIfInBounds_toArray, List.set_cons_zero, List.set_cons_succ, i64_w, i32_w]
        rfl
      refine take_ (i := 1) (N := some 41) (v := ?_) (a' := ?_) #[true, true, true, true, false, false, false, false] rfl rfl (by kernel_rfl) (fun _ _ _ h => h) (Or.inl ⟨by rfl, ?_⟩) hHeld ?_ ?_
      rotate_left
      · rintro w' ⟨s0, s1, s2, s3⟩
        go_simp
        with_reducible rfl
      rotate_left
      · simp only [Act.put, List.setIfInBounds_toArray, List.set_cons_zero, List.set_cons_succ, i64_w, i32_w]
        rfl
      refine take_ (i := 4) (N := some 44) (v := ?_) (a' := ?_) #[true, true, true, true, true, false, false, false] rfl rfl (by kernel_rfl) (fun _ _ _ h => h) (Or.inl ⟨by rfl, ?_⟩) hHeld ?_ ?_
      rotate_left
      · rintro w' ⟨s0, s1, s2, s3⟩
        go_simp
        with_reducible rfl
      rotate_left
      · simp only [Act.put, List.setIfInBounds_toArray, List.set_cons_zero, List.set_cons_succ, i64_w, i32_w]
        rfl
      refine one_ (i := 5) (N := some 45) #[true, true, true, true, true, true, false, false] rfl rfl (by kernel_rfl) (by decide) (fun K hK => ?_)
      refine goes_ Try.func19 (by kernel_rfl) rfl #[.pointer (some ⟨g, 0, none⟩), encV x, .bool false] (by rfl) rfl rfl (by simp only [List.map_toArray, List.map_cons, List.map_nil]; rfl) ?_
      with_reducible refine (HF.out _ (below_drew (Below.refl _ _)) x false).mono ?_
      rintro e w3 ⟨r1, rfl, h11, h12, h13, hb3⟩
      refine ⟨_, rfl, ?_⟩
      refine hK.out _ _ ⟨cells_later hb3 hHeld.1, cells_later hb3 hHeld.2.1, cells_later hb3 hHeld.2.2.1, cells_later hb3 hHeld.2.2.2⟩ (fun hHeld => ?_)
      clear hK K
      refine norm_ (a' := ?_) ?_ ?_
      rotate_left
      · show Act.put _ (some 45) _ = _
        simp only [Act.put, List.setIfInBounds_toArray, List.set_cons_zero, List.set_cons_succ, i64_w, i32_w]
        rfl
      refine pure_ (i := 6) (N := some 46) (v := ?_) (a' := ?_) #[true, true, true, true, true, true, true, false] rfl rfl (by kernel_rfl) (fun _ _ _ h => h) (Or.inl ⟨by rfl, ?_⟩) ?_ ?_
      rotate_left
      · intro w'
        go_simp
        with_reducible rfl
      rotate_left
      · simp only [Act.put, List.setIfInBounds_toArray, List.set_cons_zero, List.set_cons_succ, i64_w, i32_w]
        rfl
      refine pure_ (i := 7) (N := some 7) (v := ?_) (a' := ?_) #[true, true, true, true, true, true, true, true] rfl rfl (by kernel_rfl) (fun _ _ _ h => h) (Or.inl ⟨by rfl, ?_⟩) ?_ ?_
      rotate_left
      · intro w'
        go_simp
        with_reducible rfl
      rotate_left
      · simp only [Act.put, List.setIfInBounds_toArray, List.set_cons_zero, List.set_cons_succ, i64_w, i32_w]
        rfl
      refine done_ (by kernel_rfl) ?_
      have HG3 : Aside0 (Rg w w3 bx g L S) := ⟨HG'.out.step hb3⟩
      have HFI : Aside0 (∀ a, a = (if a0 < r1 then r1 else a0) → a ≤ S.length ∧ ((∀ s ∈ S.take a, isN L s = true ∨ geLo L [x] s = false) ∧ (∀ s ∈ S.drop a, geLo L [x] s = true))) := ⟨fun a e => by
        subst e
        have hA := HA.out
        by_cases c : a0 < r1
        · rw [if_pos c]
          exact ⟨h11, fun s hs => .inr (h12 s hs), h13⟩
        · rw [if_neg c]
          refine ⟨ha0, fun s hs => .inl (hA s hs), fun s hs => h13 s ?_⟩
          have e : S.drop a0 = (S.drop r1).drop (a0 - r1) := by rw [List.drop_drop]; congr 1; omega
          rw [e] at hs
          exact List.mem_of_mem_drop hs⟩
      clear h11 h12 h13 hb3 hHeld
      by_cases c : a0 < r1
      · go_wp2
        go_meet
        exact ⟨r1, (HFI.out r1 (by rw [if_pos c])).1, by first | rfl | (simp [c]; done), ⟨(HFI.out r1 (by rw [if_pos c])).2⟩, HG3⟩
      · go_wp2
        go_meet
        exact ⟨a0, ha0, by first | rfl | (simp [c]; done), ⟨(HFI.out a0 (by rw [if_neg c])).2⟩, HG3⟩
  case rest =>
  obtain ⟨a, ha, rfl, HA1, HG1⟩ := hcut
  obtain ⟨wP, rfl⟩ : ∃ x, x = wc := ⟨_, rfl⟩
  clear HA HG ha0
  go_upto_if 49 with fail
  go_cut [8] (fun s8 wx => ∃ b : Nat, b ≤ S.length ∧ s8 = .int .i64 b ∧ Aside0 ((∀ s ∈ S.take b, leHi L hi s = true) ∧ (∀ s ∈ S.drop b, leHi L hi s = false)) ∧ Aside0 (Rg w wx bx g L S))
  case first =>
    cases hi with
    | nil =>
      have HE : Aside0 ((∀ s ∈ S.take S.length, leHi L [] s = true) ∧ (∀ s ∈ S.drop S.length, leHi L [] s = false)) := ⟨fun _ _ => rfl, fun s hs => by rw [List.drop_length] at hs; cases hs⟩
      go_wp2
      go_meet
      exact ⟨S.length, Nat.le_refl _, rfl, HE, HG1⟩
    | cons x lo' =>
      have hlo' : lo' = [] := List.eq_nil_of_length_eq_zero (by simpa using hhl)
      subst hlo'
      have HG' : Aside0 (Rg w wP.drew bx g L S) := ⟨HG1.out.step (below_drew (Below.refl _ _))⟩
      have hCl := Kd.C_below HHI.out HG'.out.b1
      obtain ⟨alo, e, hx0, hx1, hx2⟩ := at_T24 hCl 0 (by omega) (by simp)
      subst e
      have ez : alo.add ((0 : Int).toNat * 3) = alo := by simp [Addr.add]
      have er : rd_T24 [x] 0 = x := rfl
      rw [ez, er] at hx0 hx1 hx2
      have m0_ : Aside0 (wP.drew.cell? ⟨bx, 0, none⟩ = some (.pointer (some ⟨g, 0, none⟩))) := ⟨(blk_cell HG'.out.hb 0).trans rfl⟩
      have m1_ := Aside0.mk hx0
      have m2_ := Aside0.mk hx1
      have m3_ := Aside0.mk hx2
      have HF : Aside0 _ := ⟨HFR.out _ HG1.out⟩
      clear hCl hx0 hx1 hx2 ez er
      go_wp2
      refine start_ (n := 6) (S := fun w' => w'.cell? ⟨bx, 0, none⟩ = some (.pointer (some ⟨g, 0, none⟩)) ∧ w'.cell? alo = some (.int .i64 x.f0) ∧ w'.cell? ⟨alo.block, alo.off + 1, none⟩ = some (.int .i64 x.f1) ∧ w'.cell? ⟨alo.block, alo.off + 2, none⟩ = some (.string x.f2)) (ds := []) #[false, false, false, false, false, false] (by kernel_rfl) rfl rfl ⟨m0_.out, m1_.out, m2_.out, m3_.out⟩ (fun hHeld => ?_)
      refine pure_ (i := 1) (N := some 51) (v := ?_) (a' := ?_) #[false, true, false, false, false, false] rfl rfl (by kernel_rfl) (fun _ _ _ h => h) (Or.inl ⟨by rfl, ?_⟩) ?_ ?_
      rotate_left
      · intro w'
        go_simp
        with_reducible rfl
      rotate_left
      · simp only [Act.put, List.setIfInBounds_toArray, List.set_cons_zero, List.set_cons_succ, i64_w, i32_w]
        rfl
      refine pure_ (i := 2) (N := some 52) (v := ?_) (a' := ?_) #[false, true, true, false, false, false] rfl rfl (by kernel_rfl) (fun _ _ _ h => h) (Or.inl ⟨by rfl, ?_⟩) ?_ ?_
      rotate_left
      · intro w'
        go_simp
        with_reducible rfl
      rotate_left
      · simp only [Act.put, List.setIfInBounds_toArray, List.set_cons_zero, List.set_cons_succ, i64_w, i32_w]
        rfl
      refine take_ (i := 0) (N := some 50) (v := ?_) (a' := ?_) #[true, true, true, false, false, false] rfl rfl (by kernel_rfl) (fun _ _ _ h => h) (Or.inl ⟨by rfl, ?_⟩) hHeld ?_ ?_
      rotate_left
      · rintro w' ⟨s0, s1, s2, s3⟩
        go_simp
        with_reducible rfl
      rotate_left
      · simp only [Act.put, List.setIfInBounds_toArray, List.set_cons_zero, List.set_cons_succ, i64_w, i32_w]
        rfl
      refine take_ (i := 3) (N := some 53) (v := ?_) (a' := ?_) #[true, true, true, true, false, false] rfl rfl (by kernel_rfl) (fun _ _ _ h => h) (Or.inl ⟨by rfl, ?_⟩) hHeld ?_ ?_
      rotate_left
      · rintro w' ⟨s0, s1, s2, s3⟩
        go_simp
        with_reducible rfl
      rotate_left
      · simp only [Act.put, List.setIfInBounds_toArray, List.set_cons_zero, List.set_cons_succ, i64_w, i32_w]
        rfl
      refine one_ (i := 4) (N := some 54) #[true, true, true, true, true, false] rfl rfl (by kernel_rfl) (by decide) (fun K hK => ?_)
      refine goes_ Try.func19 (by kernel_rfl) rfl #[.pointer (some ⟨g, 0, none⟩), encV x, .bool true] (by rfl) rfl rfl (by simp only [List.map_toArray, List.map_cons, List.map_nil]; rfl) ?_
      with_reducible refine (HF.out _ (below_drew (Below.refl _ _)) x true).mono ?_
      rintro e w3 ⟨r1, rfl, h11, h12, h13, hb3⟩
      refine ⟨_, rfl, ?_⟩
      refine hK.out _ _ ⟨cells_later hb3 hHeld.1, cells_later hb3 hHeld.2.1, cells_later hb3 hHeld.2.2.1, cells_later hb3 hHeld.2.2.2⟩ (fun hHeld => ?_)
      clear hK K
      refine norm_ (a' := ?_) ?_ ?_
      rotate_left
      · show Act.put _ (some 54) _ = _
        simp only [Act.put, List.setIfInBounds_toArray, List.set_cons_zero, List.set_cons_succ, i64_w, i32_w]
        rfl
      refine pure_ (i := 5) (N := some 8) (v := ?_) (a' := ?_) #[true, true, true, true, true, true] rfl rfl (by kernel_rfl) (fun _ _ _ h => h) (Or.inl ⟨by rfl, ?_⟩) ?_ ?_
      rotate_left
      · intro w'
        go_simp
        with_reducible rfl
      rotate_left
      · simp only [Act.put, List.setIfInBounds_toArray, List.set_cons_zero, List.set_cons_succ, i64_w, i32_w]
        rfl
      refine done_ (by kernel_rfl) ?_
      have HG3 : Aside0 (Rg w w3 bx g L S) := ⟨HG'.out.step hb3⟩
      have HE : Aside0 ((∀ s ∈ S.take r1, leHi L [x] s = true) ∧ (∀ s ∈ S.drop r1, leHi L [x] s = false)) := ⟨fun s hs => by show (!pS L x true s) = true; rw [h12 s hs]; rfl, fun s hs => by show (!pS L x true s) = false; rw [h13 s hs]; rfl⟩
      clear h12 h13 hb3 hHeld
      go_wp2
      go_meet
      exact ⟨r1, h11, rfl, HE, HG3⟩
  case rest =>
  obtain ⟨b, hb, rfl, HB, HG⟩ := hcut
  obtain ⟨wQ, rfl⟩ : ∃ x, x = wc := ⟨_, rfl⟩
  clear HG1 HFR
  by_cases hab : a < b
  · have HRL := Aside0.mk (range_some (Nat.le_of_lt hab) HA1.out.1 HA1.out.2 HB.out.1 HB.out.2)
    obtain ⟨Al', cl', As', cs', mp', hg, hC, hD, hcl', hcs'⟩ := HG.out.rd.out
    have hSpos : 0 < S.length := by omega
    have hLpos : 0 < L.length := by have := HSL.out; omega
    obtain ⟨as_, e, _⟩ := Kd.at_int hD 0 (by omega) (by omega)
    subst e
    obtain ⟨al, e, hal0, _, _⟩ := at_row hC 0 hLpos
    subst e
    have halb : al.block < wQ.heap.size := World.block_lt_of_cell? (a := al) wQ (by simpa [Addr.add] using hal0)
    have hne : ¬ cs' = a := by omega
    have hac : a ≤ cs' := by omega
    have hbc : b ≤ cs' := by omega
    have hEy : Ey wQ bx g al cl' (.slice (some as_) S.length cs') mp' L := ⟨HG.out.hb, hg, hC⟩
    have hCm := Kd.C_mid (k := kI) hD (Nat.le_of_lt hab) hb hcs'
    rw [if_neg hne] at hCm
    have hml : ((S.take b).drop a).length = b - a := by rw [List.length_drop, List.length_take]; omega
    have hpm : Pl L ((S.take b).drop a) := fun s hs => HSS.out.pl s (List.mem_of_mem_take (List.mem_of_mem_drop hs))
    obtain ⟨l9, hl9⟩ : ∃ l9, l9 = (S.take b).drop a := ⟨_, rfl⟩
    rw [← hl9] at hCm hml hpm HRL
    have HL9 := Aside0.mk hml
    have HM : Aside0 (Calls Try.prog 18 #[.slice (some (as_.add a)) (b - a) (cs' - a)] wQ fun e w9 => ∃ q cap, e = .returned (.slice (some ⟨q, 0, none⟩) l9.length cap) ∧ Calls Try.prog 23 #[.slice (some ⟨q, 0, none⟩) l9.length cap, .func (.func 24) #[] #[.pointer (some ⟨bx, 0, none⟩)]] w9 (fun e w' => e = .returned (.slice (some ⟨q, 0, none⟩) (keepN L l9).length cap) ∧ (keepN L l9).length ≤ cap ∧ kI.C w' (some ⟨q, 0, none⟩) (keepN L l9).length (keepN L l9) ∧ Below w.heap.size w w') ∧ w9.cell? ⟨bx, 0, none⟩ = some (.pointer (some ⟨g, 0, none⟩))) := ⟨by
      have h18 := clone18 (some (as_.add a)) (cs' - a) l9 wQ (by have h := hCm; rw [show kI.sz = 1 from rfl, Nat.mul_one] at h; exact h) (by omega) (by have := HSL.out; omega)
      rw [hml] at h18
      refine h18.mono ?_
      rintro e w9 ⟨v9, rfl, hR, hb9⟩
      obtain ⟨q, cap, N, e9, hc9, hN9, hq9, hq9', hIS⟩ := R_IS hR (by omega)
      subst e9
      have hE9 := hEy.move (hb9.block bx (blk_lt hEy.hb)) (hb9.block g (blk_lt hEy.hg)) (hb9.block al.block halb)
      have hd := del23 w9 bx g al cl' _ _ L hE9 q cap N l9 hpm (by have := HSL.out; omega) hc9 hN9 (by have := blk_lt hEy.hb; omega) (by have := blk_lt hEy.hg; omega) (by omega) hIS
      refine ⟨q, cap, rfl, hd.mono ?_, (blk_cell hE9.hb 0).trans rfl⟩
      rintro e w' ⟨rfl, h1, h2⟩
      have h3 := keepN_le L l9
      exact ⟨rfl, by omega, h1, HG.out.b1.trans ((hb9.mono HG.out.b1.size).trans (h2.bel (b := w.heap.size) (by have := HG.out.b1.size; have := hb9.size; omega) (fun j hj e => by have := HG.out.b1.size; omega)))⟩⟩
    have k0 := (blk_cell HG.out.hb 0).trans (rfl : _ = some (Value.pointer (some ⟨g, 0, none⟩)))
    have k1 := (blk_cell hg 1).trans (rfl : _ = some (Value.slice (some as_) S.length cs'))
    have hba : ¬ b ≤ a := by omega
    have hab' : a ≤ b := by omega
    clear hg hC hD hcl' hcs' hal0 halb hEy hCm hml hpm hl9 hSpos hLpos HA1 HB HG
    go_wp2_with (first | (go_at_call 18; refine HM.out.mono ?_; rintro e w9 ⟨q, cap, rfl, h1, h2⟩; have HM2 := Aside0.mk h1; clear h1 HM) | (go_at_call 23; refine HM2.out.mono ?_; rintro e w10 ⟨rfl, h3, h4, h5⟩; have H3 := Aside0.mk h3; have H4 := Aside0.mk h4; have H5 := Aside0.mk h5; clear h3 h4 h5 HM2))
    go_ret
    rw [HRL.out]
    exact ⟨_, _, rfl, H3.out, H4.out, H5.out⟩
  · have HRL := Aside0.mk (range_none (Nat.le_of_not_lt hab) HA1.out.1 HB.out.2)
    have hba : b ≤ a := by omega
    go_wp2
    go_ret
    rw [HRL.out]
    exact ⟨none, 0, rfl, Nat.le_refl _, Kd.C_nil kI _, HG.out.b1⟩

end Go.Proofs.Ytpkhdljlhdomlaa.QIndexFinds
