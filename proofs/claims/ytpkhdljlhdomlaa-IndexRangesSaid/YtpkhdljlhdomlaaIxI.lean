import Derived.Test.YtpkhdljlhdomlaaIxH
/- Index: walks by hand; the conditions stand in each theorem. -/
namespace Go.Proofs.Ytpkhdljlhdomlaa.QIndexFinds
open Go.RowKit Go.Proofs.YtpkhdljlhdomlaaW.PrintWords Go.Proofs.YtpkhdljlhdomlaaW.PrintLast Go.Proofs.YtpkhdljlhdomlaaW.PrintMore
attribute [local go_sem] max2_int min2_int max_two min_two max_three min_three max_four min_four
set_option linter.unusedVariables false
set_option linter.unusedSimpArgs false
structure Rd (w : World) (g : Nat) (L : List S24) (S : List Int) : Prop where
  out : ∃ Al cl As cs mp, w.heap[g]? = some (.cells #[.slice Al L.length cl, .slice As S.length cs, mp] 44 (0, 0)) ∧ k24.C w Al L.length L ∧ kI.C w As S.length S ∧ L.length ≤ cl ∧ S.length ≤ cs
theorem Rd.below {w w' : World} {g : Nat} {L : List S24} {S : List Int} (h : Rd w g L S) (hb : Below w.heap.size w w') : Rd w' g L S := by
  obtain ⟨Al, cl, As, cs, mp, h1, h2, h3, h4⟩ := h.out
  exact ⟨⟨Al, cl, As, cs, mp, (hb.block g (blk_lt h1)).trans h1, Kd.C_below h2 hb, Kd.C_below h3 hb, h4⟩⟩
theorem Ix0.rd {w : World} {b0 g B n : Nat} {own : Nat → Tg} {vl vs : Value} {L : List S24} {S : List Int} {F : S24 → List Int} (h : Ix0 w b0 g B n own vl vs L S F) : Rd w g L S := by
  obtain ⟨Al, cl, e1, h1, h2⟩ := Kd.R_reads h.rl
  obtain ⟨As, cs, e2, h3, h4⟩ := Kd.R_reads h.rs
  subst e1
  subst e2
  exact ⟨⟨Al, cl, As, cs, _, h.blk, h2, h4, h1, h3⟩⟩
def fromB (L : List S24) (S : List Int) (v : S24) (bh : Bool) (i : Nat) : Bool := decide (cVs (rd_T24 L (rd S (i : Int))) v > 0) || (decide (cVs (rd_T24 L (rd S (i : Int))) v = 0) && !bh)
def Pl (L : List S24) (S : List Int) : Prop := ∀ s ∈ S, 0 ≤ s ∧ s < (L.length : Int)
theorem Srt.pl {L : List S24} {S : List Int} (h : Srt L S) : Pl L S := fun s hs => by
  have := h.1.mem_iff.1 hs
  unfold places at this
  obtain ⟨k, hk, rfl⟩ := List.mem_map.1 this
  have := List.mem_range.1 hk
  omega
theorem rd_mem (S : List Int) (i : Nat) (h : i < S.length) : rd S (i : Int) = S[i] := by
  unfold rd
  rw [Int.toNat_natCast, List.getD_eq_getElem?_getD, List.getElem?_eq_getElem h]; rfl
set_option maxRecDepth 8000 in
set_option maxHeartbeats 4000000 in
theorem at28 (W : World) (bx bv bb g : Nat) (L : List S24) (S : List Int) (v : S24) (bh : Bool) (h1 : W.heap[bx]? = some (.cells #[.pointer (some ⟨g, 0, none⟩)] 27 (0, 0))) (h2 : W.heap[bv]? = some (.cells #[.int .i64 v.f0, .int .i64 v.f1, .string v.f2] 24 (0, 0))) (h3 : W.heap[bb]? = some (.cells #[.bool bh] 4 (0, 0))) (hr : Rd W g L S) (hS : Pl L S) (i : Nat) (hi : i < S.length) :
    Calls Try.prog 28 #[.int .i64 i, .pointer (some ⟨bx, 0, none⟩), .pointer (some ⟨bv, 0, none⟩), .pointer (some ⟨bb, 0, none⟩)] W fun e w' => e = .returned (.bool (fromB L S v bh i)) ∧ Below W.heap.size W w' := by
  obtain ⟨Al, cl, As, cs, mp, hg, hC, hD, hcl, hcs⟩ := hr.out
  obtain ⟨as_, e, hs0⟩ := Kd.at_int hD (i : Int) (by omega) (by omega)
  subst e
  have hp := hS _ (List.getElem_mem hi)
  rw [← rd_mem S i hi] at hp
  unfold fromB
  rw [Int.toNat_natCast] at hs0
  generalize rd S (i : Int) = si at *
  obtain ⟨s, rfl⟩ := Int.eq_ofNat_of_zero_le hp.1
  obtain ⟨al, e, hx0, hx1, hx2⟩ := at_row hC s (by omega)
  subst e
  have hin : (i : Int) < (S.length : Int) := by omega
  have hsn : (s : Int) < (L.length : Int) := by omega
  generalize rd_T24 L (s : Int) = x at *
  generalize S.length = ns at *
  generalize L.length = nl at *
  have m0_ : Aside0 (W.drew.cell? ⟨bx, 0, none⟩ = some (.pointer (some ⟨g, 0, none⟩))) := ⟨(blk_cell (blk_drew h1) 0).trans rfl⟩
  have m1_ : Aside0 (W.drew.cell? ⟨g, 0, none⟩ = some (.slice (some al) nl cl)) := ⟨(blk_cell (blk_drew hg) 0).trans rfl⟩
  have m2_ : Aside0 (W.drew.cell? ⟨g, 1, none⟩ = some (.slice (some as_) ns cs)) := ⟨(blk_cell (blk_drew hg) 1).trans rfl⟩
  have m3_ : Aside0 (W.drew.cell? (as_.add i) = some (.int .i64 (s : Int))) := ⟨hs0⟩
  have m4_ : Aside0 (W.drew.cell? (al.add (s * 3)) = some (.int .i64 x.f0)) := ⟨hx0⟩
  have m5_ : Aside0 (W.drew.cell? ⟨(al.add (s * 3)).block, (al.add (s * 3)).off + 1, none⟩ = some (.int .i64 x.f1)) := ⟨hx1⟩
  have m6_ : Aside0 (W.drew.cell? ⟨(al.add (s * 3)).block, (al.add (s * 3)).off + 2, none⟩ = some (.string x.f2)) := ⟨hx2⟩
  have m7_ : Aside0 (W.drew.cell? ⟨bv, 0, none⟩ = some (.int .i64 v.f0)) := ⟨(blk_cell (blk_drew h2) 0).trans rfl⟩
  have m8_ : Aside0 (W.drew.cell? ⟨bv, 1, none⟩ = some (.int .i64 v.f1)) := ⟨(blk_cell (blk_drew h2) 1).trans rfl⟩
  have m9_ : Aside0 (W.drew.cell? ⟨bv, 2, none⟩ = some (.string v.f2)) := ⟨(blk_cell (blk_drew h2) 2).trans rfl⟩
  have HB := Aside0.mk h3
  clear h1 h2 h3 hr hS hg hC hD hs0 hx0 hx1 hx2 hp
  go_enter Try.func28, Try.ntmps28
  go_wp2
  refine start_ (n := 16) (S := fun w' => w'.cell? ⟨bx, 0, none⟩ = some (.pointer (some ⟨g, 0, none⟩)) ∧ w'.cell? ⟨g, 0, none⟩ = some (.slice (some al) nl cl) ∧ w'.cell? ⟨g, 1, none⟩ = some (.slice (some as_) ns cs) ∧ w'.cell? (as_.add i) = some (.int .i64 (s : Int)) ∧ w'.cell? (al.add (s * 3)) = some (.int .i64 x.f0) ∧ w'.cell? ⟨(al.add (s * 3)).block, (al.add (s * 3)).off + 1, none⟩ = some (.int .i64 x.f1) ∧ w'.cell? ⟨(al.add (s * 3)).block, (al.add (s * 3)).off + 2, none⟩ = some (.string x.f2) ∧ w'.cell? ⟨bv, 0, none⟩ = some (.int .i64 v.f0) ∧ w'.cell? ⟨bv, 1, none⟩ = some (.int .i64 v.f1) ∧ w'.cell? ⟨bv, 2, none⟩ = some (.string v.f2)) (ds := []) #[false, false, false, false, false, false, false, false, false, false, false, false, false, false, false, false] (by kernel_rfl) rfl rfl ⟨m0_.out, m1_.out, m2_.out, m3_.out, m4_.out, m5_.out, m6_.out, m7_.out, m8_.out, m9_.out⟩ (fun hHeld => ?_)
  refine pure_ (i := 8) (N := some 15) (v := ?_) (a' := ?_) #[false, false, false, false, false, false, false, false, true, false, false, false, false, false, false, false] rfl rfl (by kernel_rfl) (fun _ _ _ h => h) (Or.inl ⟨by rfl, ?_⟩) ?_ ?_
  rotate_left
  · intro w'
    go_simp
    with_reducible rfl
  rotate_left
  · simp only [Act.put, List.setIfInBounds_toArray, List.set_cons_zero, List.set_cons_succ, i64_w, i32_w]
    rfl
  refine take_ (i := 0) (N := some 7) (v := ?_) (a' := ?_) #[true, false, false, false, false, false, false, false, true, false, false, false, false, false, false, false] rfl rfl (by kernel_rfl) (fun _ _ _ h => h) (Or.inl ⟨by rfl, ?_⟩) hHeld ?_ ?_
  rotate_left
  · rintro w' ⟨s0, s1, s2, s3, s4, s5, s6, s7, s8, s9⟩
    go_simp
    with_reducible rfl
  rotate_left
  · simp only [Act.put, List.setIfInBounds_toArray, List.set_cons_zero, List.set_cons_succ, i64_w, i32_w]
    rfl
  refine pure_ (i := 1) (N := some 8) (v := ?_) (a' := ?_) #[true, true, false, false, false, false, false, false, true, false, false, false, false, false, false, false] rfl rfl (by kernel_rfl) (fun _ _ _ h => h) (Or.inl ⟨by rfl, ?_⟩) ?_ ?_
  rotate_left
  · intro w'
    go_simp
    with_reducible rfl
  rotate_left
  · simp only [Act.put, List.setIfInBounds_toArray, List.set_cons_zero, List.set_cons_succ, i64_w, i32_w]
    rfl
  refine pure_ (i := 2) (N := some 9) (v := ?_) (a' := ?_) #[true, true, true, false, false, false, false, false, true, false, false, false, false, false, false, false] rfl rfl (by kernel_rfl) (fun _ _ _ h => h) (Or.inl ⟨by rfl, ?_⟩) ?_ ?_
  rotate_left
  · intro w'
    go_simp
    with_reducible rfl
  rotate_left
  · simp only [Act.put, List.setIfInBounds_toArray, List.set_cons_zero, List.set_cons_succ, i64_w, i32_w]
    rfl
  refine take_ (i := 3) (N := some 10) (v := ?_) (a' := ?_) #[true, true, true, true, false, false, false, false, true, false, false, false, false, false, false, false] rfl rfl (by kernel_rfl) (fun _ _ _ h => h) (Or.inl ⟨by rfl, ?_⟩) hHeld ?_ ?_
  rotate_left
  · rintro w' ⟨s0, s1, s2, s3, s4, s5, s6, s7, s8, s9⟩
    go_simp
    with_reducible rfl
  rotate_left
  · simp only [Act.put, List.setIfInBounds_toArray, List.set_cons_zero, List.set_cons_succ, i64_w, i32_w]
    rfl
  refine take_ (i := 4) (N := some 11) (v := ?_) (a' := ?_) #[true, true, true, true, true, false, false, false, true, false, false, false, false, false, false, false] rfl rfl (by kernel_rfl) (fun _ _ _ h => h) (Or.inl ⟨by rfl, ?_⟩) hHeld ?_ ?_
  rotate_left
  · rintro w' ⟨s0, s1, s2, s3, s4, s5, s6, s7, s8, s9⟩
    go_simp
    with_reducible rfl
  rotate_left
  · simp only [Act.put, List.setIfInBounds_toArray, List.set_cons_zero, List.set_cons_succ, i64_w, i32_w]
    rfl
  refine pure_ (i := 5) (N := some 12) (v := ?_) (a' := ?_) #[true, true, true, true, true, true, false, false, true, false, false, false, false, false, false, false] rfl rfl (by kernel_rfl) (fun _ _ _ h => h) (Or.inl ⟨by rfl, ?_⟩) ?_ ?_
  rotate_left
  · intro w'
    go_simp
    with_reducible rfl
  rotate_left
  · simp only [Act.put, List.setIfInBounds_toArray, List.set_cons_zero, List.set_cons_succ, i64_w, i32_w]
    rfl
  refine pure_ (i := 6) (N := some 13) (v := ?_) (a' := ?_) #[true, true, true, true, true, true, true, false, true, false, false, false, false, false, false, false] rfl rfl (by kernel_rfl) (fun _ _ _ h => h) (Or.inl ⟨by rfl, ?_⟩) ?_ ?_
  rotate_left
  · intro w'
    go_simp
    with_reducible rfl
  rotate_left
  · simp only [Act.put, List.setIfInBounds_toArray, List.set_cons_zero, List.set_cons_succ, i64_w, i32_w]
    rfl
  refine take_ (i := 7) (N := some 14) (v := ?_) (a' := ?_) #[true, true, true, true, true, true, true, true, true, false, false, false, false, false, false, false] rfl rfl (by kernel_rfl) (fun _ _ _ h => h) (Or.inl ⟨by rfl, ?_⟩) hHeld ?_ ?_
  rotate_left
  · rintro w' ⟨s0, s1, s2, s3, s4, s5, s6, s7, s8, s9⟩
    go_simp
    with_reducible rfl
  rotate_left
  · simp only [Act.put, List.setIfInBounds_toArray, List.set_cons_zero, List.set_cons_succ, i64_w, i32_w]
    rfl
  refine pure_ (i := 9) (N := some 16) (v := ?_) (a' := ?_) #[true, true, true, true, true, true, true, true, true, true, false, false, false, false, false, false] rfl rfl (by kernel_rfl) (fun _ _ _ h => h) (Or.inl ⟨by rfl, ?_⟩) ?_ ?_
  rotate_left
  · intro w'
    go_simp
    with_reducible rfl
  rotate_left
  · simp only [Act.put, List.setIfInBounds_toArray, List.set_cons_zero, List.set_cons_succ, i64_w, i32_w]
    rfl
  refine take_ (i := 10) (N := some 17) (v := ?_) (a' := ?_) #[true, true, true, true, true, true, true, true, true, true, true, false, false, false, false, false] rfl rfl (by kernel_rfl) (fun _ _ _ h => h) (Or.inl ⟨by rfl, ?_⟩) hHeld ?_ ?_
  rotate_left
  · rintro w' ⟨s0, s1, s2, s3, s4, s5, s6, s7, s8, s9⟩
    go_simp
    with_reducible rfl
  rotate_left
  · simp only [Act.put, List.setIfInBounds_toArray, List.set_cons_zero, List.set_cons_succ, i64_w, i32_w]
    rfl
  refine pure_ (i := 11) (N := some 18) (v := ?_) (a' := ?_) #[true, true, true, true, true, true, true, true, true, true, true, true, false, false, false, false] rfl rfl (by kernel_rfl) (fun _ _ _ h => h) (Or.inl ⟨by rfl, ?_⟩) ?_ ?_
  rotate_left
  · intro w'
    go_simp
    with_reducible rfl
  rotate_left
  · simp only [Act.put, List.setIfInBounds_toArray, List.set_cons_zero, List.set_cons_succ, i64_w, i32_w]
    rfl
  refine take_ (i := 12) (N := some 19) (v := ?_) (a' := ?_) #[true, true, true, true, true, true, true, true, true, true, true, true, true, false, false, false] rfl rfl (by kernel_rfl) (fun _ _ _ h => h) (Or.inl ⟨by rfl, ?_⟩) hHeld ?_ ?_
  rotate_left
  · rintro w' ⟨s0, s1, s2, s3, s4, s5, s6, s7, s8, s9⟩
    go_simp
    with_reducible rfl
  rotate_left
  · simp only [Act.put, List.setIfInBounds_toArray, List.set_cons_zero, List.set_cons_succ, i64_w, i32_w]
    rfl
  refine take_ (i := 13) (N := some 20) (v := ?_) (a' := ?_) #[true, true, true, true, true, true, true, true, true, true, true, true, true, true, false, false] rfl rfl (by kernel_rfl) (fun _ _ _ h => h) (Or.inl ⟨by rfl, ?_⟩) hHeld ?_ ?_
  rotate_left
  · rintro w' ⟨s0, s1, s2, s3, s4, s5, s6, s7, s8, s9⟩
    go_simp
    with_reducible rfl
  rotate_left
  · simp only [Act.put, List.setIfInBounds_toArray, List.set_cons_zero, List.set_cons_succ, i64_w, i32_w]
    rfl
  refine one_ (i := 14) (N := some 21) #[true, true, true, true, true, true, true, true, true, true, true, true, true, true, true, false] rfl rfl (by kernel_rfl) (by decide) (fun K hK => ?_)
  refine goes_ Try.func11 (by kernel_rfl) rfl #[encV x, encV v] (by rfl) rfl rfl (by simp only [List.map_toArray, List.map_cons, List.map_nil]; rfl) ?_
  with_reducible refine (value_cmp x v _).mono ?_
  rintro e w3 ⟨rfl, hb3⟩
  refine ⟨_, rfl, ?_⟩
  refine hK.out _ _ ⟨cells_later hb3 hHeld.1, cells_later hb3 hHeld.2.1, cells_later hb3 hHeld.2.2.1, cells_later hb3 hHeld.2.2.2.1, cells_later hb3 hHeld.2.2.2.2.1, cells_later hb3 hHeld.2.2.2.2.2.1, cells_later hb3 hHeld.2.2.2.2.2.2.1, cells_later hb3 hHeld.2.2.2.2.2.2.2.1, cells_later hb3 hHeld.2.2.2.2.2.2.2.2.1, cells_later hb3 hHeld.2.2.2.2.2.2.2.2.2⟩ (fun hHeld => ?_)
  clear hK K
  refine norm_ (a' := ?_) ?_ ?_
  rotate_left
  · show Act.put _ (some 21) _ = _
    simp only [Act.put, List.setIfInBounds_toArray, List.set_cons_zero, List.set_cons_succ, i64_w, i32_w]
    rfl
  refine pure_ (i := 15) (N := some 6) (v := ?_) (a' := ?_) #[true, true, true, true, true, true, true, true, true, true, true, true, true, true, true, true] rfl rfl (by kernel_rfl) (fun _ _ _ h => h) (Or.inl ⟨by rfl, ?_⟩) ?_ ?_
  rotate_left
  · intro w'
    go_simp
    with_reducible rfl
  rotate_left
  · simp only [Act.put, List.setIfInBounds_toArray, List.set_cons_zero, List.set_cons_succ, i64_w, i32_w]
    rfl
  refine done_ (by kernel_rfl) ?_
  have hbb : w3.cell? ⟨bb, 0, none⟩ = some (.bool bh) := cells_later hb3 ((blk_cell (blk_drew HB.out) 0).trans rfl)
  obtain ⟨cv, hcv⟩ : ∃ cv, cv = cVs x v := ⟨_, rfl⟩
  rw [← hcv]
  have HCV := Aside0.mk hcv
  clear hcv
  have hfin : Aside0 (Below W.heap.size W w3) := ⟨(below_drew (Below.refl _ _)).trans hb3⟩
  clear hHeld hb3
  by_cases c1 : cv > 0
  · have c1b : decide (cv > 0) = true := decide_eq_true c1
    have c1c : decide (0 < cv) = true := decide_eq_true c1
    go_wp2
    go_ret
    exact ⟨by rw [← HCV.out]; simp [c1], hfin.out⟩
  · have c1b : decide (cv > 0) = false := decide_eq_false c1
    have c1c : decide (0 < cv) = false := decide_eq_false c1
    by_cases c2 : cv = 0
    · have c2b : decide (cv = 0) = true := decide_eq_true c2
      subst c2
      cases bh
      · go_wp2
        go_ret
        exact ⟨by rw [← HCV.out]; simp, hfin.out⟩
      · go_wp2
        go_ret
        exact ⟨by rw [← HCV.out]; simp, hfin.out⟩
    · have c2b : decide (cv = 0) = false := decide_eq_false c2
      go_wp2
      go_ret
      exact ⟨by rw [← HCV.out]; simp [c2]; omega, hfin.out⟩

theorem goesVL_ {P : Program} {ops : Array Oper} {Q : Exit → Act → World → Prop} {rest : List Oper} {oi : Oper} {a : Act} {w : World} (N : Option Tmp) (hd : oi.dst = N) (hg : oi.guard = none) {f : FuncId} {fn : Func} {xs : Array Operand} {ts : Array TypeId} (hf : P.funcs[f]? = some fn) (hname : (fn.name == "runtime.NumGoroutine") = false) (hb : fn.body.isSome = true) (args : Array Value)
    {t : Tmp} {cb : Array Value} (hop : oi.op = .call { callee := .value (.tmp t), args := xs, argTypes := ts }) (hv : a.eval (.tmp t) = .func (.func f) #[] cb) (hargs : xs.map a.eval ++ cb = args)
    (h : Calls P f args w fun e w' => ∃ v, e = .returned v ∧ wpList P ops Q rest (a.put N v) w') : wpList P ops Q (oi :: rest) a w := by
  refine wpList_plain hg fun K hK => ?_
  have he := enters_ hf hname hb args w
  have hrun : (execOp a.eval oi).run P w = .ok (.enter f args) w := by
    unfold execOp
    simp [hop, resolve, Deferred.ofValue, invoke, hv, hargs, he]
  unfold Oper.wp
  rw [hrun, Oper.upon_enter]
  refine h.mono fun e w'' hh => ?_
  obtain ⟨v, rfl, hk⟩ := hh
  subst hd
  exact hK _ _ hk
set_option maxRecDepth 8000 in
set_option maxHeartbeats 4000000 in
theorem search27 (W : World) (cb : Array Value) (n : Nat) (P : Nat → Bool) (hn : n < 4611686018427387904)
    (hP : ∀ W', Below W.heap.size W W' → ∀ i : Nat, i < n → Calls Try.prog 28 (#[.int .i64 (i : Int)] ++ cb) W' fun e w' => e = .returned (.bool (P i)) ∧ Below W'.heap.size W' w') :
    Calls Try.prog 27 #[.int .i64 n, .func (.func 28) #[] cb] W fun e w' => ∃ r : Nat, e = .returned (.int .i64 r) ∧ r ≤ n ∧ (∀ i, i < r → i + 1 = r → P i = false) ∧ (r < n → P r = true) ∧ Below W.heap.size W w' := by
  have HP := Aside0.mk hP
  clear hP
  go_enter Try.func27, Try.ntmps27
  go_wp2
  go_loopw [5, 6] (fun s5 s6 wr => ∃ a b : Nat, a ≤ b ∧ b ≤ n ∧ s5 = .int .i64 a ∧ s6 = .int .i64 b ∧ Aside0 (∀ i, i < a → i + 1 = a → P i = false) ∧ Aside0 (b < n → P b = true) ∧ Aside0 (Below W.heap.size W wr)) (fun s5 s6 _ => (intOf s6).toNat - (intOf s5).toNat)
  case atStart => exact ⟨0, n, Nat.zero_le _, Nat.le_refl _, rfl, rfl, ⟨fun i h => absurd h (Nat.not_lt_zero _)⟩, ⟨fun h => absurd h (Nat.lt_irrefl _)⟩, ⟨Below.refl _ _⟩⟩
  case round =>
    obtain ⟨a, b, hab, hbn, rfl, rfl, HA, HBB, HB⟩ := hrel
    by_cases hlt : a < b
    · obtain ⟨m, hm⟩ : ∃ m, m = (a + b) / 2 := ⟨_, rfl⟩
      have hmz : ((a : Int) + (b : Int)) / 2 = (m : Int) := by omega
      have hma : a ≤ m := by omega
      have hmb : m < b := by omega
      have HC := Aside0.mk (HP.out wr HB.out m (by omega))
      clear hm
      obtain ⟨pm, hpm⟩ : ∃ pm, pm = P m := ⟨_, rfl⟩
      rw [← hpm] at HC
      have HPM := Aside0.mk hpm
      clear hpm
      cases pm
      · go_wp2_with ((with_reducible refine gate_dst (N := 20) rfl ?_); refine goesVL_ (some 20) rfl rfl Try.func28 (by kernel_rfl) rfl (#[.int .i64 (m : Int)] ++ cb) (t := 18) (cb := cb) rfl rfl (by first | rfl | (simp only [List.map_toArray, List.map_cons, List.map_nil]; rfl) | (simp [Act.eval]; done)) ?_; refine HC.out.mono ?_; rintro e w1 ⟨rfl, hb⟩; refine ⟨_, rfl, ?_⟩; have HB1 : Aside0 (Below W.heap.size W w1) := ⟨HB.out.trans (hb.mono HB.out.size)⟩; clear hb HC HB)
        go_roundw
        case rel => exact ⟨m + 1, b, by omega, hbn, by go_num, rfl, ⟨fun i h1 h2 => by rw [show i = m by omega]; exact HPM.out.symm⟩, HBB, HB1⟩
        case measure => simp [intOf]; omega
      · go_wp2_with ((with_reducible refine gate_dst (N := 20) rfl ?_); refine goesVL_ (some 20) rfl rfl Try.func28 (by kernel_rfl) rfl (#[.int .i64 (m : Int)] ++ cb) (t := 18) (cb := cb) rfl rfl (by first | rfl | (simp only [List.map_toArray, List.map_cons, List.map_nil]; rfl) | (simp [Act.eval]; done)) ?_; refine HC.out.mono ?_; rintro e w1 ⟨rfl, hb⟩; refine ⟨_, rfl, ?_⟩; have HB1 : Aside0 (Below W.heap.size W w1) := ⟨HB.out.trans (hb.mono HB.out.size)⟩; clear hb HC HB)
        go_roundw
        case rel => exact ⟨a, m, hma, by omega, rfl, rfl, HA, ⟨fun _ => HPM.out.symm⟩, HB1⟩
        case measure => simp [intOf]; omega
    · have hltz : ¬ (a : Int) < (b : Int) := by omega
      have hab2 : a = b := by omega
      subst hab2
      go_wp2
      go_ret
      exact ⟨a, rfl, hbn, HA.out, HBB.out, HB.out⟩

end Go.Proofs.Ytpkhdljlhdomlaa.QIndexFinds
