import Derived.Test.YtpkhdljlhdomlaaIxD
/- Index: walks by hand; the conditions stand in each theorem. -/
namespace Go.Proofs.Ytpkhdljlhdomlaa.QIndexFinds
open Go.RowKit Go.Proofs.YtpkhdljlhdomlaaW.PrintWords Go.Proofs.YtpkhdljlhdomlaaW.PrintLast Go.Proofs.YtpkhdljlhdomlaaW.PrintMore
attribute [local go_sem] max2_int min2_int max_two min_two max_three min_three max_four min_four
set_option linter.unusedVariables false
set_option linter.unusedSimpArgs false
theorem goesV_ {P : Program} {ops : Array Oper} {Q : Exit → Act → World → Prop} {oi : Oper} {N : Option Tmp} {a : Act} {w : World} {K : Act → World → Prop} {f : FuncId} {fn : Func} {xs : Array Operand} {ts : Array TypeId} (hf : P.funcs[f]? = some fn) (hname : (fn.name == "runtime.NumGoroutine") = false) (hb : fn.body.isSome = true) (args : Array Value)
    (hw : Region.wanted oi (yielded ops a.tmps) = true) (hN : oi.dst = N) {t : Tmp} {cb : Array Value} (hop : oi.op = .call { callee := .value (.tmp t), args := xs, argTypes := ts }) (hv : a.eval (.tmp t) = .func (.func f) #[] cb) (hargs : xs.map a.eval ++ cb = args)
    (h : Calls P f args w fun e w' => ∃ v, e = .returned v ∧ K (a.put N v) w') : if Region.wanted oi (yielded ops a.tmps) = true then Oper.wp P oi a w K Q else K (a.put N undef) w := by
  refine call_ f args hw hN ?_ h
  have he := enters_ hf hname hb args w
  unfold execOp
  simp [hop, resolve, Deferred.ofValue, invoke, hv, hargs, he]
set_option maxRecDepth 8000 in
set_option maxHeartbeats 4000000 in
theorem at17 (W : World) (p g : Nat) (ad : Addr) (n c : Nat) (v1 v2 : Value) (L : List S24) (hp : W.heap[p]? = some (.cells #[.pointer (some ⟨g, 0, none⟩)] 27 (0, 0))) (hg : W.heap[g]? = some (.cells #[.slice (some ad) n c, v1, v2] 44 (0, 0))) (hC : k24.C W (some ad) n L) (i : Nat) (hi : i < n) :
    Calls Try.prog 17 #[.int .i64 i, .pointer (some ⟨p, 0, none⟩)] W fun e w' => e = .returned (encV (rd_T24 L (i : Int))) ∧ Below W.heap.size W w' := by
  obtain ⟨ad', e, h0, h1, h2⟩ := at_row hC i hi
  cases e
  unfold encV
  generalize rd_T24 L (i : Int) = x at *
  have HP := Aside0.mk hp
  have HG := Aside0.mk hg
  have H0 := Aside0.mk h0
  have H1 := Aside0.mk h1
  have H2 := Aside0.mk h2
  have hin : (i : Int) < (n : Int) := by omega
  clear hp hg hC h0 h1 h2
  go_enter Try.func17, Try.ntmps17
  go_wp2_with (first | ((with_reducible refine gate_dst (N := 3) rfl ?_); refine box_event ?hg (N := 3) ?hd (cs := #[.int .i64 0, .int .i64 0, .string (⟨#[]⟩ : ByteArray)]) (t := 24) ?hr ?_; (case hd => rfl); (case hg => rfl); (case hr => first | (go_simp; done) | (go_simp; rfl)); intro bk hbk W3 hbox hb; have GE : Aside0 (W.heap.size ≤ bk) := ⟨Nat.le_of_eq hbk.symm⟩; have HB := Aside0.mk hb; have m5_ := Aside0.mk hbox; have k0 : W3.cell? ⟨p, 0, none⟩ = some (.pointer (some ⟨g, 0, none⟩)) := cells_later hb ((blk_cell HP.out 0).trans rfl); have k1 : W3.cell? ⟨g, 0, none⟩ = some (.slice (some ad) n c) := cells_later hb ((blk_cell HG.out 0).trans rfl); have k2 := cells_later hb H0.out; have k3 := cells_later hb H1.out; have k4 := cells_later hb H2.out; have hs0 : W3.cell? ⟨bk, 0, none⟩ = some (.int .i64 0) := (blk_cell m5_.out 0).trans rfl; have hs1 : W3.cell? ⟨bk, 1, none⟩ = some (.int .i64 0) := (blk_cell m5_.out 1).trans rfl; have hs2 : W3.cell? ⟨bk, 2, none⟩ = some (.string (⟨#[]⟩ : ByteArray)) := (blk_cell m5_.out 2).trans rfl; have hf0 := blk_frozen m5_.out 0; have hf1 := blk_frozen m5_.out 1; have hf2 := blk_frozen m5_.out 2; clear hb hbox hbk))
  refine bodyPost_ret (results_cell_row rfl _ _ bk 24 #[.int .i64 x.f0, .int .i64 x.f1, .string x.f2] (0, 0) _ rfl (by refine blk_put (cs := #[.int .i64 x.f0, .int .i64 x.f1, .string (⟨#[]⟩ : ByteArray)]) ?_ 2 _ rfl; refine blk_put (cs := #[.int .i64 x.f0, .int .i64 0, .string (⟨#[]⟩ : ByteArray)]) ?_ 1 _ rfl; refine blk_put (cs := #[.int .i64 0, .int .i64 0, .string (⟨#[]⟩ : ByteArray)]) ?_ 0 _ rfl; exact m5_.out) Try.underlying24 rfl (by kernel_rfl)) rfl ?_
  exact ⟨rfl, by repeat (first | (with_reducible first | exact HB.out | refine below_set ?_ GE.out | apply below_alloc | apply pw_below_drewN | apply below_drew1) | exact HB.out)⟩
set_option maxRecDepth 8000 in
set_option maxHeartbeats 4000000 in
theorem cmp26 (W : World) (b4 b5 p g : Nat) (ad : Addr) (n c : Nat) (v1 v2 : Value) (L : List S24) (h5 : W.heap[b5]? = some (.cells #[.func (.func 11) #[] #[]] 36 (0, 0))) (h4 : W.heap[b4]? = some (.cells #[.func (.func 17) #[] #[.pointer (some ⟨p, 0, none⟩)]] 40 (0, 0))) (hp : W.heap[p]? = some (.cells #[.pointer (some ⟨g, 0, none⟩)] 27 (0, 0))) (hg : W.heap[g]? = some (.cells #[.slice (some ad) n c, v1, v2] 44 (0, 0))) (hC : k24.C W (some ad) n L) (i k : Nat) (hi : i < n) (hk : k < n) :
    Calls Try.prog 26 #[.int .i64 i, .int .i64 k, .pointer (some ⟨b5, 0, none⟩), .pointer (some ⟨b4, 0, none⟩)] W fun e w' => e = .returned (.int .i64 (cVs (rd_T24 L (i : Int)) (rd_T24 L (k : Int)))) ∧ Below W.heap.size W w' := by
  have M3 : Aside0 (∀ w', Below W.heap.size W w' → ∀ i : Nat, i < n → Calls Try.prog 17 #[.int .i64 (i : Int), .pointer (some ⟨p, 0, none⟩)] w' fun e w'' => e = .returned (encV (rd_T24 L (i : Int))) ∧ Below w'.heap.size w' w'') := ⟨fun w' hb i hi => at17 w' p g ad n c v1 v2 L ((hb.block p (blk_lt hp)).trans hp) ((hb.block g (blk_lt hg)).trans hg) (Kd.C_below hC hb) i hi⟩
  have m0_ : Aside0 (W.drew.cell? ⟨b5, 0, none⟩ = some (.func (.func 11) #[] #[])) := ⟨(blk_cell (blk_drew h5) 0).trans rfl⟩
  have m1_ : Aside0 (W.drew.cell? ⟨b4, 0, none⟩ = some (.func (.func 17) #[] #[.pointer (some ⟨p, 0, none⟩)])) := ⟨(blk_cell (blk_drew h4) 0).trans rfl⟩
  clear h5 h4 hp hg hC
  go_enter Try.func26, Try.ntmps26
  go_wp2
  refine start_ (n := 9) (S := fun w' => w'.cell? ⟨b5, 0, none⟩ = some (.func (.func 11) #[] #[]) ∧ w'.cell? ⟨b4, 0, none⟩ = some (.func (.func 17) #[] #[.pointer (some ⟨p, 0, none⟩)])) (ds := []) #[false, false, false, false, false, false, false, false, false] (by kernel_rfl) rfl rfl ⟨m0_.out, m1_.out⟩ (fun hHeld => ?_)
  refine pure_ (i := 2) (N := some 9) (v := ?_) (a' := ?_) #[false, false, true, false, false, false, false, false, false] rfl rfl (by kernel_rfl) (fun _ _ _ h => h) (Or.inl ⟨by rfl, ?_⟩) ?_ ?_
  rotate_left
  · intro w'
    go_simp
    with_reducible rfl
  rotate_left
  · simp only [Act.put, List.setIfInBounds_toArray, List.set_cons_zero, List.set_cons_succ, i64_w, i32_w]
    rfl
  refine pure_ (i := 5) (N := some 12) (v := ?_) (a' := ?_) #[false, false, true, false, false, true, false, false, false] rfl rfl (by kernel_rfl) (fun _ _ _ h => h) (Or.inl ⟨by rfl, ?_⟩) ?_ ?_
  rotate_left
  · intro w'
    go_simp
    with_reducible rfl
  rotate_left
  · simp only [Act.put, List.setIfInBounds_toArray, List.set_cons_zero, List.set_cons_succ, i64_w, i32_w]
    rfl
  refine take_ (i := 0) (N := some 7) (v := ?_) (a' := ?_) #[true, false, true, false, false, true, false, false, false] rfl rfl (by kernel_rfl) (fun _ _ _ h => h) (Or.inl ⟨by rfl, ?_⟩) hHeld ?_ ?_
  rotate_left
  · rintro w' ⟨s0, s1⟩
    go_simp
    with_reducible rfl
  rotate_left
  · simp only [Act.put, List.setIfInBounds_toArray, List.set_cons_zero, List.set_cons_succ, i64_w, i32_w]
    rfl
  refine take_ (i := 1) (N := some 8) (v := ?_) (a' := ?_) #[true, true, true, false, false, true, false, false, false] rfl rfl (by kernel_rfl) (fun _ _ _ h => h) (Or.inl ⟨by rfl, ?_⟩) hHeld ?_ ?_
  rotate_left
  · rintro w' ⟨s0, s1⟩
    go_simp
    with_reducible rfl
  rotate_left
  · simp only [Act.put, List.setIfInBounds_toArray, List.set_cons_zero, List.set_cons_succ, i64_w, i32_w]
    rfl
  refine take_ (i := 4) (N := some 11) (v := ?_) (a' := ?_) #[true, true, true, false, true, true, false, false, false] rfl rfl (by kernel_rfl) (fun _ _ _ h => h) (Or.inl ⟨by rfl, ?_⟩) hHeld ?_ ?_
  rotate_left
  · rintro w' ⟨s0, s1⟩
    go_simp
    with_reducible rfl
  rotate_left
  · simp only [Act.put, List.setIfInBounds_toArray, List.set_cons_zero, List.set_cons_succ, i64_w, i32_w]
    rfl
  refine one_ (i := 3) (N := some 10) #[true, true, true, true, true, true, false, false, false] rfl rfl (by kernel_rfl) (by decide) (fun K hK => ?_)
  refine goesV_ Try.func17 (by kernel_rfl) rfl #[.int .i64 (i : Int), .pointer (some ⟨p, 0, none⟩)] (by rfl) rfl (t := 8) (cb := #[.pointer (some ⟨p, 0, none⟩)]) rfl (by rfl) ?_ ?_
  · first | rfl | (simp only [List.map_toArray, List.map_cons, List.map_nil]; rfl)
  with_reducible refine (M3.out _ (below_drew (Below.refl _ _)) i hi).mono ?_
  rintro e w3 ⟨rfl, hb3⟩
  refine ⟨_, rfl, ?_⟩
  have hb03 := (below_drew (Below.refl W.heap.size W)).trans hb3
  refine hK.out _ _ ⟨cells_later hb3 hHeld.1, cells_later hb3 hHeld.2⟩ (fun hHeld => ?_)
  clear hK K
  refine norm_ (a' := ?_) ?_ ?_
  rotate_left
  · show Act.put _ (some 10) _ = _
    simp only [Act.put, List.setIfInBounds_toArray, List.set_cons_zero, List.set_cons_succ, i64_w, i32_w]
    rfl
  refine one_ (i := 6) (N := some 13) #[true, true, true, true, true, true, true, false, false] rfl rfl (by kernel_rfl) (by decide) (fun K hK => ?_)
  refine goesV_ Try.func17 (by kernel_rfl) rfl #[.int .i64 (k : Int), .pointer (some ⟨p, 0, none⟩)] (by rfl) rfl (t := 11) (cb := #[.pointer (some ⟨p, 0, none⟩)]) rfl (by rfl) ?_ ?_
  · first | rfl | (simp only [List.map_toArray, List.map_cons, List.map_nil]; rfl)
  with_reducible refine (M3.out w3 hb03 k hk).mono ?_
  rintro e w4 ⟨rfl, hb4⟩
  refine ⟨_, rfl, ?_⟩
  have hb04 := hb03.trans (hb4.mono hb03.size)
  refine hK.out _ _ ⟨cells_later hb4 hHeld.1, cells_later hb4 hHeld.2⟩ (fun hHeld => ?_)
  clear hK K
  refine norm_ (a' := ?_) ?_ ?_
  rotate_left
  · show Act.put _ (some 13) _ = _
    simp only [Act.put, List.setIfInBounds_toArray, List.set_cons_zero, List.set_cons_succ, i64_w, i32_w]
    rfl
  refine one_ (i := 7) (N := some 14) #[true, true, true, true, true, true, true, true, false] rfl rfl (by kernel_rfl) (by decide) (fun K hK => ?_)
  refine goesV_ Try.func11 (by kernel_rfl) rfl #[encV (rd_T24 L (i : Int)), encV (rd_T24 L (k : Int))] (by rfl) rfl (t := 7) (cb := #[]) rfl (by rfl) ?_ ?_
  · first | rfl | (simp only [List.map_toArray, List.map_cons, List.map_nil]; rfl)
  with_reducible refine (value_cmp (rd_T24 L (i : Int)) (rd_T24 L (k : Int)) _).mono ?_
  rintro e w5 ⟨rfl, hb5⟩
  refine ⟨_, rfl, ?_⟩
  have hb05 := hb04.trans (hb5.mono hb04.size)
  refine hK.out _ _ ⟨cells_later hb5 hHeld.1, cells_later hb5 hHeld.2⟩ (fun hHeld => ?_)
  clear hK K
  refine norm_ (a' := ?_) ?_ ?_
  rotate_left
  · show Act.put _ (some 14) _ = _
    simp only [Act.put, List.setIfInBounds_toArray, List.set_cons_zero, List.set_cons_succ, i64_w, i32_w]
    rfl
  refine pure_ (i := 8) (N := some 6) (v := ?_) (a' := ?_) #[true, true, true, true, true, true, true, true, true] rfl rfl (by kernel_rfl) (fun _ _ _ h => h) (Or.inl ⟨by rfl, ?_⟩) ?_ ?_
  rotate_left
  · intro w'
    go_simp
    with_reducible rfl
  rotate_left
  · simp only [Act.put, List.setIfInBounds_toArray, List.set_cons_zero, List.set_cons_succ, i64_w, i32_w]
    rfl
  refine done_ (by kernel_rfl) ?_
  go_wp2
  go_ret
  exact ⟨rfl, hb05⟩

end Go.Proofs.Ytpkhdljlhdomlaa.QIndexFinds
