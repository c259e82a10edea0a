import Derived.Test.YtkogfjphpklioaaStO
/- Store: walks by hand; the conditions stand in each theorem. -/
namespace Go.Proofs.Ytkogfjphpklioaa.QStoreNames
open Go.RowKit Go.Proofs.YtkogfjphpklioaaW.PrintWords Go.Proofs.YtkogfjphpklioaaW.PrintLast Go.Proofs.YtkogfjphpklioaaW.PrintMore
attribute [local go_sem] max2_int min2_int max_two min_two max_three min_three max_four min_four
set_option linter.unusedVariables false
set_option linter.unusedSimpArgs false
def WB : List ByteArray := [⟨#[115, 101, 108, 101, 99, 116]⟩, ⟨#[100, 105, 115, 116, 105, 110, 99, 116]⟩, ⟨#[102, 114, 111, 109]⟩, ⟨#[106, 111, 105, 110]⟩, ⟨#[108, 101, 102, 116]⟩, ⟨#[115, 101, 109, 105]⟩, ⟨#[111, 110]⟩, ⟨#[119, 104, 101, 114, 101]⟩, ⟨#[103, 114, 111, 117, 112]⟩, ⟨#[98, 121]⟩, ⟨#[117, 110, 105, 111, 110]⟩, ⟨#[97, 108, 108]⟩, ⟨#[111, 114, 100, 101, 114]⟩, ⟨#[100, 101, 115, 99]⟩, ⟨#[97, 110, 100]⟩, ⟨#[111, 114]⟩, ⟨#[110, 111, 116]⟩, ⟨#[105, 115]⟩, ⟨#[110, 117, 108, 108]⟩, ⟨#[116, 114, 117, 101]⟩, ⟨#[102, 97, 108, 115, 101]⟩, ⟨#[99, 111, 117, 110, 116]⟩, ⟨#[115, 117, 109]⟩, ⟨#[109, 105, 110]⟩, ⟨#[109, 97, 120]⟩]
theorem WB_len : WB.length = 25 := by kernel_rfl
theorem wbC (w : World) : Kd.C Kd.string (w.alloc (.cells #[.string ⟨#[115, 101, 108, 101, 99, 116]⟩, .string ⟨#[100, 105, 115, 116, 105, 110, 99, 116]⟩, .string ⟨#[102, 114, 111, 109]⟩, .string ⟨#[106, 111, 105, 110]⟩, .string ⟨#[108, 101, 102, 116]⟩, .string ⟨#[115, 101, 109, 105]⟩, .string ⟨#[111, 110]⟩, .string ⟨#[119, 104, 101, 114, 101]⟩, .string ⟨#[103, 114, 111, 117, 112]⟩, .string ⟨#[98, 121]⟩, .string ⟨#[117, 110, 105, 111, 110]⟩, .string ⟨#[97, 108, 108]⟩, .string ⟨#[111, 114, 100, 101, 114]⟩, .string ⟨#[100, 101, 115, 99]⟩, .string ⟨#[97, 110, 100]⟩, .string ⟨#[111, 114]⟩, .string ⟨#[110, 111, 116]⟩, .string ⟨#[105, 115]⟩, .string ⟨#[110, 117, 108, 108]⟩, .string ⟨#[116, 114, 117, 101]⟩, .string ⟨#[102, 97, 108, 115, 101]⟩, .string ⟨#[99, 111, 117, 110, 116]⟩, .string ⟨#[115, 117, 109]⟩, .string ⟨#[109, 105, 110]⟩, .string ⟨#[109, 97, 120]⟩] 9)) (some ⟨w.heap.size, 0, none⟩) 25 WB := C_lit Kd.string 9 w WB _ (Reps.one rfl (Reps.one rfl (Reps.one rfl (Reps.one rfl (Reps.one rfl (Reps.one rfl (Reps.one rfl (Reps.one rfl (Reps.one rfl (Reps.one rfl (Reps.one rfl (Reps.one rfl (Reps.one rfl (Reps.one rfl (Reps.one rfl (Reps.one rfl (Reps.one rfl (Reps.one rfl (Reps.one rfl (Reps.one rfl (Reps.one rfl (Reps.one rfl (Reps.one rfl (Reps.one rfl (Reps.one rfl (Reps.none _ _)))))))))))))))))))))))))) (by decide) rfl
theorem WB_WL : WL = WB.map (fun w => w.data.toList) := by kernel_rfl
theorem WB_all : WB.all (fun w => !nameB w && nameB (w ++ ⟨#[95]⟩)) = true := by kernel_rfl
theorem wb_mem (x : ByteArray) : x.data.toList ∈ WL ↔ x ∈ WB := by
  rw [WB_WL]
  constructor
  · intro h
    obtain ⟨y, hy, e⟩ := List.mem_map.1 h
    have : y = x := ByteArray.ext (Array.toList_inj.1 e)
    rwa [← this]
  · intro h
    exact List.mem_map.2 ⟨x, h, rfl⟩
theorem name_longer (s : ByteArray) (c : Int) (h0 : 0 ≤ c) (hn : nameB s = true) : nameB (s ++ strOfNums [97 + c % 26]) = (decide ((s ++ strOfNums [97 + c % 26]).size ≤ 20) && !decide (s ++ strOfNums [97 + c % 26] ∈ WB)) := by
  have e1 : (s ++ strOfNums [97 + c % 26]).data.toList = s.data.toList ++ [UInt8.ofNat (97 + c % 26).toNat] := by
    rw [ByteArray.data_append, Array.toList_append, strOfNums_data]
    rfl
  have e2 : (s ++ strOfNums [97 + c % 26]).size = s.size + 1 := by
    rw [ByteArray.size_append, strOfNums_size]
    rfl
  have hb : (UInt8.ofNat (97 + c % 26).toNat).toNat = (97 + c % 26).toNat := by
    rw [UInt8.toNat_ofNat']
    omega
  have e3 : bytesOf (s ++ strOfNums [97 + c % 26]) = bytesOf s ++ [97 + c % 26] := by
    unfold bytesOf
    rw [e1, List.map_append]
    simp only [List.map_cons, List.map_nil, hb]
    congr 2
    omega
  unfold nameB at hn
  simp only [Bool.and_eq_true, decide_eq_true_eq] at hn
  obtain ⟨⟨⟨⟨⟨h1, h2⟩, h3⟩, h4⟩, h5⟩, h6⟩ := hn
  have e4 : bt (s ++ strOfNums [97 + c % 26]) 0 = bt s 0 := by
    rw [show (0 : Int) = ((0 : Nat) : Int) from rfl, bt_at _ 0 (by omega), bt_at _ 0 h1]
    simp only [e3]
    rw [List.getElem_append_left]
  unfold nameB
  rw [e4, e3, List.all_append, h5, e2]
  have h7 : chI (97 + c % 26) = true := by
    unfold chI
    have a1 : 97 ≤ 97 + c % 26 := by omega
    have a2 : 97 + c % 26 ≤ 122 := by omega
    rw [decide_eq_true a1, decide_eq_true a2]
    rfl
  have h8 : decide (0 < s.size + 1) = true := decide_eq_true (by omega)
  have h9 : decide ((s ++ strOfNums [97 + c % 26]).data.toList ∈ WL) = decide (s ++ strOfNums [97 + c % 26] ∈ WB) := decide_eq_decide.2 (wb_mem _)
  simp only [List.all_cons, List.all_nil, h7, h8, decide_eq_true h3, decide_eq_true h4, h9, Bool.and_true, Bool.true_and]
theorem slice_event {P : Program} {ops : Array Oper} {rest : List Oper} {o : Oper} {a : Act} {Q : Exit → Act → World → Prop} {W : World} (hgd : o.guard = none) {N : Tmp} (_hd : o.dst = some N) {cs : Array Value} {t : TypeId} {n : Nat}
    (hrun : (execOp a.eval o).run P W = .ok (.value (.slice (some ⟨W.heap.size, 0, none⟩) n n)) (W.alloc (.cells cs t (0, 0))))
    (h : ∀ g, g = W.heap.size → ∀ w1, w1.heap[g]? = some (.cells cs t (0, 0)) → Below W.heap.size W w1 → wpList P ops Q rest (a.put o.dst (.slice (some ⟨g, 0, none⟩) n n)) w1) : wpList P ops Q (o :: rest) a W :=
  Kd.event_run hgd hrun (h _ rfl _ (blk_new W _) (below_alloc (Below.refl _ _) _))
theorem wb_cell (i : Nat) (h : i < 25) : (WB.map Value.string).toArray[i]? = some (.string (WB[i]'(by rw [WB_len]; exact h))) := by
  rw [List.getElem?_toArray, List.getElem?_map, List.getElem?_eq_getElem (by rw [WB_len]; exact h)]
  rfl
theorem byte_conv (g : Nat) (w : World) (x : Int) (hg : w.heap[g]? = some (.cells #[.int .u8 x] 5 (0, 0))) : (convert 28 9 (.slice (some ⟨g, 0, none⟩) 1 1)).run Try.prog w = .ok (.string (strOfNums [x])) w := by
  refine run_convert_bytes_arg (w := w) 28 5 Try.underlying28 Try.underlying5 g 0 1 1 [x] rfl (fun i hi => ?_) 9 Try.underlying9
  have : i = 0 := by omega
  subst this
  exact (blk_cell hg 0).trans rfl
theorem mem_snoc_f {lg x : ByteArray} {xs : List ByteArray} (hq : decide (lg ∈ xs) = false) : decide (lg ∈ xs ++ [x]) = (x.toList == lg.toList) := by
  have h : ¬ lg ∈ xs := of_decide_eq_false hq
  rw [str_eq_dec]
  refine decide_eq_decide.2 ?_
  simp [h, eq_comm]
theorem mem_snoc_t {lg x : ByteArray} {xs : List ByteArray} (hq : decide (lg ∈ xs) = true) : decide (lg ∈ xs ++ [x]) = true := by
  have h : lg ∈ xs := of_decide_eq_true hq
  exact decide_eq_true (List.mem_append_left _ h)
set_option maxRecDepth 8000 in
set_option maxHeartbeats 4000000 in
theorem words_walk00 (W : World) (s : ByteArray) (a c : Int) (hw : ShB W) (hs : s.size ≤ 140737488351232) (ha : (Lit.int .i64 a).wf = true) (hc : (Lit.int .i64 c).wf = true) (hna : ¬ a < 0) (h0 : 0 ≤ a) (hnc : ¬ c < 0) (h1 : 0 ≤ c) :
    Calls Try.prog 4 #[.string s, .int .i64 a, .int .i64 c] W fun e w' => e = .returned (.bool true) ∧ Below W.heap.size W w' := by
  have HW := Aside0.mk hw
  have ei : (a % 25).toNat < 25 := by omega
  have HWL : Aside0 (nameB s = true → nameB (s ++ strOfNums [97 + c % 26]) = (decide ((s ++ strOfNums [97 + c % 26]).size ≤ 20) && !decide (s ++ strOfNums [97 + c % 26] ∈ WB))) := ⟨name_longer s c (by omega)⟩
  have HSZ : Aside0 ((s ++ strOfNums [97 + c % 26]).size ≤ 140737488355328) := ⟨by rw [ByteArray.size_append, strOfNums_size]; show s.size + 1 ≤ _; omega⟩
  have hwd := List.all_eq_true.1 WB_all (WB[(a % 25).toNat]'(by rw [WB_len]; exact ei)) (List.getElem_mem _)
  simp only [Bool.and_eq_true, Bool.not_eq_true'] at hwd
  have hws : (WB[(a % 25).toNat]'(by rw [WB_len]; exact ei)).size ≤ 19 := by
    have h3 := hwd.2
    unfold nameB at h3
    simp only [Bool.and_eq_true, decide_eq_true_eq] at h3
    have h4 := h3.1.1.1.1.2
    rw [ByteArray.size_append] at h4
    have h5 : (⟨#[95]⟩ : ByteArray).size = 1 := rfl
    omega
  have hle : ¬ (9223372036854775807 < s.size + (strOfNums [97 + c % 26]).size) := by rw [strOfNums_size]; show ¬ (9223372036854775807 < s.size + 1); omega
  have hle2 : ¬ (9223372036854775807 < (WB[(a % 25).toNat]'(by rw [WB_len]; exact ei)).size + 1) := by omega
  have HQ1 : Aside0 (∀ w', ShB w' → Calls Try.prog 9 #[.string (WB[(a % 25).toNat]'(by rw [WB_len]; exact ei))] w' fun e w'' => e = .returned (.bool false) ∧ Below w'.heap.size w' w'') := ⟨fun w' h => by
    have h2 := store_Name (WB[(a % 25).toNat]'(by rw [WB_len]; exact ei)) w' h (by have h3 := hwd.2; unfold nameB at h3; simp only [Bool.and_eq_true, decide_eq_true_eq] at h3; have h4 := h3.1.1.1.1.2; rw [ByteArray.size_append] at h4; unfold maxLen; omega)
    rw [hwd.1] at h2
    exact h2⟩
  have HQ2 : Aside0 (∀ w', ShB w' → Calls Try.prog 9 #[.string ((WB[(a % 25).toNat]'(by rw [WB_len]; exact ei)) ++ ⟨#[95]⟩)] w' fun e w'' => e = .returned (.bool true) ∧ Below w'.heap.size w' w'') := ⟨fun w' h => by
    have h2 := store_Name ((WB[(a % 25).toNat]'(by rw [WB_len]; exact ei)) ++ ⟨#[95]⟩) w' h (by have h3 := hwd.2; unfold nameB at h3; simp only [Bool.and_eq_true, decide_eq_true_eq] at h3; have h4 := h3.1.1.1.1.2; unfold maxLen; omega)
    rw [hwd.2] at h2
    exact h2⟩
  have HQ3 : Aside0 (∀ w', ShB w' → Calls Try.prog 9 #[.string s] w' fun e w'' => e = .returned (.bool (nameB s)) ∧ Below w'.heap.size w' w'') := ⟨fun w' h => store_Name s w' h (by unfold maxLen; omega)⟩
  have HQ4 : Aside0 (∀ w', ShB w' → Calls Try.prog 9 #[.string (s ++ strOfNums [97 + c % 26])] w' fun e w'' => e = .returned (.bool (nameB (s ++ strOfNums [97 + c % 26]))) ∧ Below w'.heap.size w' w'') := ⟨fun w' h => store_Name _ w' h (by unfold maxLen; have := HSZ.out; omega)⟩
  clear hw hwd
  have HX : Aside0 (∀ (g : Nat) (w2 : World), w2.heap[g]? = some (.cells (WB.map Value.string).toArray 9 (0, 0)) → w2.cell? ⟨g, (a % 25).toNat, none⟩ = some (.string (WB[(a % 25).toNat]'(by rw [WB_len]; exact ei)))) := ⟨fun g w2 hbl => (blk_cell hbl (a % 25).toNat).trans (wb_cell (a % 25).toNat ei)⟩
  generalize (WB[(a % 25).toNat]'(by rw [WB_len]; exact ei)) = wd at *
  have HCV : Aside0 (∀ (g : Nat) (w : World), w.heap[g]? = some (.cells #[.int .u8 (97 + c % 26)] 5 (0, 0)) → (convert 28 9 (.slice (some ⟨g, 0, none⟩) 1 1)).run Try.prog w = .ok (.string (strOfNums [97 + c % 26])) w) := ⟨fun g w h => byte_conv g w _ h⟩
  generalize strOfNums [97 + c % 26] = lt at *
  go_enter Try.func4, Try.ntmps4
  go_wp2_with (first | (go_at_call 8; refine (examples_true W HW.out).mono ?_; rintro e w1 ⟨rfl, hb⟩; have HB1 := Aside0.mk hb; clear hb) | ((with_reducible refine gate_dst (N := 15) rfl ?_); refine slice_event ?hg (N := 15) ?hd (cs := (WB.map Value.string).toArray) (t := 9) (n := 25) ?hr ?_; (case hd => rfl); (case hg => rfl); (case hr => first | (go_simp; done) | (go_simp; rfl)); intro g hg w2 hbl hb; have HBL := Aside0.mk hbl; have HB2 := Aside0.mk (below_step HB1.out hb); have hx := HX.out g w2 hbl; clear hbl hb hg) | ((with_reducible refine gate_dst (N := 37) rfl ?_); refine slice_event ?hg (N := 37) ?hd (cs := #[.int .u8 (97 + c % 26)]) (t := 5) (n := 1) ?hr ?_; (case hd => rfl); (case hg => rfl); (case hr => first | (go_simp; done) | (go_simp; rfl)); intro g3 hg3 w3 hbl hb; have HBL3 := Aside0.mk ((hb.block g (blk_lt HBL.out)).trans HBL.out); have HB3 := Aside0.mk (below_step HB2.out hb); have hcv := HCV.out g3 w3 hbl; clear hbl hb hg3))
  have HW3 := Aside0.mk (HW.out.on HB3.out)
  generalize (s ++ lt) = lg at *
  go_loopw [12, 13] (fun s12 s13 wr => ∃ k : Nat, k ≤ 25 ∧ s12 = .bool (decide (lg ∈ WB.take k)) ∧ s13 = .int .i64 k ∧ Aside0 (wr = w3)) (fun _ s13 _ => 25 - (intOf s13).toNat)
  case atStart => exact ⟨0, Nat.zero_le _, rfl, rfl, ⟨rfl⟩⟩
  case round =>
    obtain ⟨k, hk, rfl, rfl, ⟨rfl⟩⟩ := hrel
    by_cases hlt : k < 25
    · have hxk := (blk_cell HBL3.out k).trans (wb_cell k hlt)
      have HT := Aside0.mk (List.take_succ_eq_append_getElem (l := WB) (i := k) (by rw [WB_len]; exact hlt))
      generalize (WB[k]'(by rw [WB_len]; exact hlt)) = x at *
      generalize WB.take k = xs at *
      cases hq : decide (lg ∈ xs)
      · go_wp2
        go_roundw
        case rel => exact ⟨k + 1, by omega, by rw [HT.out, mem_snoc_f hq], by go_num, ⟨trivial⟩⟩
        case measure => simp [intOf]; omega
      · go_wp2
        go_roundw
        case rel => exact ⟨k + 1, by omega, by rw [HT.out, mem_snoc_t hq], by go_num, ⟨trivial⟩⟩
        case measure => simp [intOf]; omega
    · have HE : Aside0 (WB.take k = WB) := ⟨List.take_of_length_le (by rw [WB_len]; omega)⟩
      rw [HE.out]
      generalize decide (lg ∈ WB) = wo at *
      clear HE HBL3
      cases hn : nameB s
      · rw [hn] at HQ3
        go_wp2_with (first | (go_at_call 9; refine (HQ1.out _ HW3.out).mono ?_; rintro e w4 ⟨rfl, hb⟩; have HB4 := Aside0.mk (below_step HB3.out hb); have HW4 := Aside0.mk (HW.out.on HB4.out); clear hb HQ1) | (go_at_call 9; refine (HQ2.out _ HW4.out).mono ?_; rintro e w5 ⟨rfl, hb⟩; have HB5 := Aside0.mk (below_step HB4.out hb); have HW5 := Aside0.mk (HW.out.on HB5.out); clear hb HQ2) | (go_at_call 9; refine (HQ3.out _ HW5.out).mono ?_; rintro e w6 ⟨rfl, hb⟩; have HB6 := Aside0.mk (below_step HB5.out hb); have HW6 := Aside0.mk (HW.out.on HB6.out); clear hb HQ3))
        go_ret
        exact ⟨rfl, HB6.out⟩
      · rw [hn] at HQ3
        have e40 := HWL.out hn
        rw [e40] at HQ4
        by_cases hz : lg.size ≤ 20
        · have hz2 : ((lg.size : Int) ≤ 20) := by omega
          rw [decide_eq_true hz, Bool.true_and] at HQ4
          cases wo
          all_goals
            go_wp2_with (first | (go_at_call 9; refine (HQ1.out _ HW3.out).mono ?_; rintro e w4 ⟨rfl, hb⟩; have HB4 := Aside0.mk (below_step HB3.out hb); have HW4 := Aside0.mk (HW.out.on HB4.out); clear hb HQ1) | (go_at_call 9; refine (HQ2.out _ HW4.out).mono ?_; rintro e w5 ⟨rfl, hb⟩; have HB5 := Aside0.mk (below_step HB4.out hb); have HW5 := Aside0.mk (HW.out.on HB5.out); clear hb HQ2) | (go_at_call 9; refine (HQ3.out _ HW5.out).mono ?_; rintro e w6 ⟨rfl, hb⟩; have HB6 := Aside0.mk (below_step HB5.out hb); have HW6 := Aside0.mk (HW.out.on HB6.out); clear hb HQ3) | (go_at_call 9; refine (HQ4.out _ HW6.out).mono ?_; rintro e w7 ⟨rfl, hb⟩; have HB7 := Aside0.mk (below_step HB6.out hb); clear hb HQ4))
            go_ret
            exact ⟨rfl, HB7.out⟩
        · have hz2 : ¬ ((lg.size : Int) ≤ 20) := by omega
          rw [decide_eq_false hz, Bool.false_and] at HQ4
          go_wp2_with (first | (go_at_call 9; refine (HQ1.out _ HW3.out).mono ?_; rintro e w4 ⟨rfl, hb⟩; have HB4 := Aside0.mk (below_step HB3.out hb); have HW4 := Aside0.mk (HW.out.on HB4.out); clear hb HQ1) | (go_at_call 9; refine (HQ2.out _ HW4.out).mono ?_; rintro e w5 ⟨rfl, hb⟩; have HB5 := Aside0.mk (below_step HB4.out hb); have HW5 := Aside0.mk (HW.out.on HB5.out); clear hb HQ2) | (go_at_call 9; refine (HQ3.out _ HW5.out).mono ?_; rintro e w6 ⟨rfl, hb⟩; have HB6 := Aside0.mk (below_step HB5.out hb); have HW6 := Aside0.mk (HW.out.on HB6.out); clear hb HQ3) | (go_at_call 9; refine (HQ4.out _ HW6.out).mono ?_; rintro e w7 ⟨rfl, hb⟩; have HB7 := Aside0.mk (below_step HB6.out hb); clear hb HQ4))
          go_ret
          exact ⟨rfl, HB7.out⟩
set_option maxRecDepth 8000 in
set_option maxHeartbeats 4000000 in
theorem words_walk01 (W : World) (s : ByteArray) (a c c1 c2 : Int) (hw : ShB W) (hs : s.size ≤ 140737488351232) (ha : (Lit.int .i64 a).wf = true) (hc : (Lit.int .i64 c).wf = true) (hna : ¬ a < 0) (h0 : 0 ≤ a) (hnc : c < 0) (e3 : IntKind.i64.wrap (c + 1) = c1) (e4 : IntKind.i64.wrap (-c1) = c2) (h1 : 0 ≤ c2) :
    Calls Try.prog 4 #[.string s, .int .i64 a, .int .i64 c] W fun e w' => e = .returned (.bool true) ∧ Below W.heap.size W w' := by
  have HW := Aside0.mk hw
  have ei : (a % 25).toNat < 25 := by omega
  have HWL : Aside0 (nameB s = true → nameB (s ++ strOfNums [97 + c2 % 26]) = (decide ((s ++ strOfNums [97 + c2 % 26]).size ≤ 20) && !decide (s ++ strOfNums [97 + c2 % 26] ∈ WB))) := ⟨name_longer s c2 (by omega)⟩
  have HSZ : Aside0 ((s ++ strOfNums [97 + c2 % 26]).size ≤ 140737488355328) := ⟨by rw [ByteArray.size_append, strOfNums_size]; show s.size + 1 ≤ _; omega⟩
  have hwd := List.all_eq_true.1 WB_all (WB[(a % 25).toNat]'(by rw [WB_len]; exact ei)) (List.getElem_mem _)
  simp only [Bool.and_eq_true, Bool.not_eq_true'] at hwd
  have hws : (WB[(a % 25).toNat]'(by rw [WB_len]; exact ei)).size ≤ 19 := by
    have h3 := hwd.2
    unfold nameB at h3
    simp only [Bool.and_eq_true, decide_eq_true_eq] at h3
    have h4 := h3.1.1.1.1.2
    rw [ByteArray.size_append] at h4
    have h5 : (⟨#[95]⟩ : ByteArray).size = 1 := rfl
    omega
  have hle : ¬ (9223372036854775807 < s.size + (strOfNums [97 + c2 % 26]).size) := by rw [strOfNums_size]; show ¬ (9223372036854775807 < s.size + 1); omega
  have hle2 : ¬ (9223372036854775807 < (WB[(a % 25).toNat]'(by rw [WB_len]; exact ei)).size + 1) := by omega
  have HQ1 : Aside0 (∀ w', ShB w' → Calls Try.prog 9 #[.string (WB[(a % 25).toNat]'(by rw [WB_len]; exact ei))] w' fun e w'' => e = .returned (.bool false) ∧ Below w'.heap.size w' w'') := ⟨fun w' h => by
    have h2 := store_Name (WB[(a % 25).toNat]'(by rw [WB_len]; exact ei)) w' h (by have h3 := hwd.2; unfold nameB at h3; simp only [Bool.and_eq_true, decide_eq_true_eq] at h3; have h4 := h3.1.1.1.1.2; rw [ByteArray.size_append] at h4; unfold maxLen; omega)
    rw [hwd.1] at h2
    exact h2⟩
  have HQ2 : Aside0 (∀ w', ShB w' → Calls Try.prog 9 #[.string ((WB[(a % 25).toNat]'(by rw [WB_len]; exact ei)) ++ ⟨#[95]⟩)] w' fun e w'' => e = .returned (.bool true) ∧ Below w'.heap.size w' w'') := ⟨fun w' h => by
    have h2 := store_Name ((WB[(a % 25).toNat]'(by rw [WB_len]; exact ei)) ++ ⟨#[95]⟩) w' h (by have h3 := hwd.2; unfold nameB at h3; simp only [Bool.and_eq_true, decide_eq_true_eq] at h3; have h4 := h3.1.1.1.1.2; unfold maxLen; omega)
    rw [hwd.2] at h2
    exact h2⟩
  have HQ3 : Aside0 (∀ w', ShB w' → Calls Try.prog 9 #[.string s] w' fun e w'' => e = .returned (.bool (nameB s)) ∧ Below w'.heap.size w' w'') := ⟨fun w' h => store_Name s w' h (by unfold maxLen; omega)⟩
  have HQ4 : Aside0 (∀ w', ShB w' → Calls Try.prog 9 #[.string (s ++ strOfNums [97 + c2 % 26])] w' fun e w'' => e = .returned (.bool (nameB (s ++ strOfNums [97 + c2 % 26]))) ∧ Below w'.heap.size w' w'') := ⟨fun w' h => store_Name _ w' h (by unfold maxLen; have := HSZ.out; omega)⟩
  clear hw hwd
  have HX : Aside0 (∀ (g : Nat) (w2 : World), w2.heap[g]? = some (.cells (WB.map Value.string).toArray 9 (0, 0)) → w2.cell? ⟨g, (a % 25).toNat, none⟩ = some (.string (WB[(a % 25).toNat]'(by rw [WB_len]; exact ei)))) := ⟨fun g w2 hbl => (blk_cell hbl (a % 25).toNat).trans (wb_cell (a % 25).toNat ei)⟩
  generalize (WB[(a % 25).toNat]'(by rw [WB_len]; exact ei)) = wd at *
  have HCV : Aside0 (∀ (g : Nat) (w : World), w.heap[g]? = some (.cells #[.int .u8 (97 + c2 % 26)] 5 (0, 0)) → (convert 28 9 (.slice (some ⟨g, 0, none⟩) 1 1)).run Try.prog w = .ok (.string (strOfNums [97 + c2 % 26])) w) := ⟨fun g w h => byte_conv g w _ h⟩
  generalize strOfNums [97 + c2 % 26] = lt at *
  go_enter Try.func4, Try.ntmps4
  go_wp2_with (first | (go_at_call 8; refine (examples_true W HW.out).mono ?_; rintro e w1 ⟨rfl, hb⟩; have HB1 := Aside0.mk hb; clear hb) | ((with_reducible refine gate_dst (N := 15) rfl ?_); refine slice_event ?hg (N := 15) ?hd (cs := (WB.map Value.string).toArray) (t := 9) (n := 25) ?hr ?_; (case hd => rfl); (case hg => rfl); (case hr => first | (go_simp; done) | (go_simp; rfl)); intro g hg w2 hbl hb; have HBL := Aside0.mk hbl; have HB2 := Aside0.mk (below_step HB1.out hb); have hx := HX.out g w2 hbl; clear hbl hb hg) | ((with_reducible refine gate_dst (N := 37) rfl ?_); refine slice_event ?hg (N := 37) ?hd (cs := #[.int .u8 (97 + c2 % 26)]) (t := 5) (n := 1) ?hr ?_; (case hd => rfl); (case hg => rfl); (case hr => first | (go_simp; done) | (go_simp; rfl)); intro g3 hg3 w3 hbl hb; have HBL3 := Aside0.mk ((hb.block g (blk_lt HBL.out)).trans HBL.out); have HB3 := Aside0.mk (below_step HB2.out hb); have hcv := HCV.out g3 w3 hbl; clear hbl hb hg3))
  have HW3 := Aside0.mk (HW.out.on HB3.out)
  generalize (s ++ lt) = lg at *
  go_loopw [12, 13] (fun s12 s13 wr => ∃ k : Nat, k ≤ 25 ∧ s12 = .bool (decide (lg ∈ WB.take k)) ∧ s13 = .int .i64 k ∧ Aside0 (wr = w3)) (fun _ s13 _ => 25 - (intOf s13).toNat)
  case atStart => exact ⟨0, Nat.zero_le _, rfl, rfl, ⟨rfl⟩⟩
  case round =>
    obtain ⟨k, hk, rfl, rfl, ⟨rfl⟩⟩ := hrel
    by_cases hlt : k < 25
    · have hxk := (blk_cell HBL3.out k).trans (wb_cell k hlt)
      have HT := Aside0.mk (List.take_succ_eq_append_getElem (l := WB) (i := k) (by rw [WB_len]; exact hlt))
      generalize (WB[k]'(by rw [WB_len]; exact hlt)) = x at *
      generalize WB.take k = xs at *
      cases hq : decide (lg ∈ xs)
      · go_wp2
        go_roundw
        case rel => exact ⟨k + 1, by omega, by rw [HT.out, mem_snoc_f hq], by go_num, ⟨trivial⟩⟩
        case measure => simp [intOf]; omega
      · go_wp2
        go_roundw
        case rel => exact ⟨k + 1, by omega, by rw [HT.out, mem_snoc_t hq], by go_num, ⟨trivial⟩⟩
        case measure => simp [intOf]; omega
    · have HE : Aside0 (WB.take k = WB) := ⟨List.take_of_length_le (by rw [WB_len]; omega)⟩
      rw [HE.out]
      generalize decide (lg ∈ WB) = wo at *
      clear HE HBL3
      cases hn : nameB s
      · rw [hn] at HQ3
        go_wp2_with (first | (go_at_call 9; refine (HQ1.out _ HW3.out).mono ?_; rintro e w4 ⟨rfl, hb⟩; have HB4 := Aside0.mk (below_step HB3.out hb); have HW4 := Aside0.mk (HW.out.on HB4.out); clear hb HQ1) | (go_at_call 9; refine (HQ2.out _ HW4.out).mono ?_; rintro e w5 ⟨rfl, hb⟩; have HB5 := Aside0.mk (below_step HB4.out hb); have HW5 := Aside0.mk (HW.out.on HB5.out); clear hb HQ2) | (go_at_call 9; refine (HQ3.out _ HW5.out).mono ?_; rintro e w6 ⟨rfl, hb⟩; have HB6 := Aside0.mk (below_step HB5.out hb); have HW6 := Aside0.mk (HW.out.on HB6.out); clear hb HQ3))
        go_ret
        exact ⟨rfl, HB6.out⟩
      · rw [hn] at HQ3
        have e40 := HWL.out hn
        rw [e40] at HQ4
        by_cases hz : lg.size ≤ 20
        · have hz2 : ((lg.size : Int) ≤ 20) := by omega
          rw [decide_eq_true hz, Bool.true_and] at HQ4
          cases wo
          all_goals
            go_wp2_with (first | (go_at_call 9; refine (HQ1.out _ HW3.out).mono ?_; rintro e w4 ⟨rfl, hb⟩; have HB4 := Aside0.mk (below_step HB3.out hb); have HW4 := Aside0.mk (HW.out.on HB4.out); clear hb HQ1) | (go_at_call 9; refine (HQ2.out _ HW4.out).mono ?_; rintro e w5 ⟨rfl, hb⟩; have HB5 := Aside0.mk (below_step HB4.out hb); have HW5 := Aside0.mk (HW.out.on HB5.out); clear hb HQ2) | (go_at_call 9; refine (HQ3.out _ HW5.out).mono ?_; rintro e w6 ⟨rfl, hb⟩; have HB6 := Aside0.mk (below_step HB5.out hb); have HW6 := Aside0.mk (HW.out.on HB6.out); clear hb HQ3) | (go_at_call 9; refine (HQ4.out _ HW6.out).mono ?_; rintro e w7 ⟨rfl, hb⟩; have HB7 := Aside0.mk (below_step HB6.out hb); clear hb HQ4))
            go_ret
            exact ⟨rfl, HB7.out⟩
        · have hz2 : ¬ ((lg.size : Int) ≤ 20) := by omega
          rw [decide_eq_false hz, Bool.false_and] at HQ4
          go_wp2_with (first | (go_at_call 9; refine (HQ1.out _ HW3.out).mono ?_; rintro e w4 ⟨rfl, hb⟩; have HB4 := Aside0.mk (below_step HB3.out hb); have HW4 := Aside0.mk (HW.out.on HB4.out); clear hb HQ1) | (go_at_call 9; refine (HQ2.out _ HW4.out).mono ?_; rintro e w5 ⟨rfl, hb⟩; have HB5 := Aside0.mk (below_step HB4.out hb); have HW5 := Aside0.mk (HW.out.on HB5.out); clear hb HQ2) | (go_at_call 9; refine (HQ3.out _ HW5.out).mono ?_; rintro e w6 ⟨rfl, hb⟩; have HB6 := Aside0.mk (below_step HB5.out hb); have HW6 := Aside0.mk (HW.out.on HB6.out); clear hb HQ3) | (go_at_call 9; refine (HQ4.out _ HW6.out).mono ?_; rintro e w7 ⟨rfl, hb⟩; have HB7 := Aside0.mk (below_step HB6.out hb); clear hb HQ4))
          go_ret
          exact ⟨rfl, HB7.out⟩
set_option maxRecDepth 8000 in
set_option maxHeartbeats 4000000 in
theorem words_walk10 (W : World) (s : ByteArray) (a a1 a2 c : Int) (hw : ShB W) (hs : s.size ≤ 140737488351232) (ha : (Lit.int .i64 a).wf = true) (hc : (Lit.int .i64 c).wf = true) (hna : a < 0) (e1 : IntKind.i64.wrap (a + 1) = a1) (e2 : IntKind.i64.wrap (-a1) = a2) (h0 : 0 ≤ a2) (hnc : ¬ c < 0) (h1 : 0 ≤ c) :
    Calls Try.prog 4 #[.string s, .int .i64 a, .int .i64 c] W fun e w' => e = .returned (.bool true) ∧ Below W.heap.size W w' := by
  have HW := Aside0.mk hw
  have ei : (a2 % 25).toNat < 25 := by omega
  have HWL : Aside0 (nameB s = true → nameB (s ++ strOfNums [97 + c % 26]) = (decide ((s ++ strOfNums [97 + c % 26]).size ≤ 20) && !decide (s ++ strOfNums [97 + c % 26] ∈ WB))) := ⟨name_longer s c (by omega)⟩
  have HSZ : Aside0 ((s ++ strOfNums [97 + c % 26]).size ≤ 140737488355328) := ⟨by rw [ByteArray.size_append, strOfNums_size]; show s.size + 1 ≤ _; omega⟩
  have hwd := List.all_eq_true.1 WB_all (WB[(a2 % 25).toNat]'(by rw [WB_len]; exact ei)) (List.getElem_mem _)
  simp only [Bool.and_eq_true, Bool.not_eq_true'] at hwd
  have hws : (WB[(a2 % 25).toNat]'(by rw [WB_len]; exact ei)).size ≤ 19 := by
    have h3 := hwd.2
    unfold nameB at h3
    simp only [Bool.and_eq_true, decide_eq_true_eq] at h3
    have h4 := h3.1.1.1.1.2
    rw [ByteArray.size_append] at h4
    have h5 : (⟨#[95]⟩ : ByteArray).size = 1 := rfl
    omega
  have hle : ¬ (9223372036854775807 < s.size + (strOfNums [97 + c % 26]).size) := by rw [strOfNums_size]; show ¬ (9223372036854775807 < s.size + 1); omega
  have hle2 : ¬ (9223372036854775807 < (WB[(a2 % 25).toNat]'(by rw [WB_len]; exact ei)).size + 1) := by omega
  have HQ1 : Aside0 (∀ w', ShB w' → Calls Try.prog 9 #[.string (WB[(a2 % 25).toNat]'(by rw [WB_len]; exact ei))] w' fun e w'' => e = .returned (.bool false) ∧ Below w'.heap.size w' w'') := ⟨fun w' h => by
    have h2 := store_Name (WB[(a2 % 25).toNat]'(by rw [WB_len]; exact ei)) w' h (by have h3 := hwd.2; unfold nameB at h3; simp only [Bool.and_eq_true, decide_eq_true_eq] at h3; have h4 := h3.1.1.1.1.2; rw [ByteArray.size_append] at h4; unfold maxLen; omega)
    rw [hwd.1] at h2
    exact h2⟩
  have HQ2 : Aside0 (∀ w', ShB w' → Calls Try.prog 9 #[.string ((WB[(a2 % 25).toNat]'(by rw [WB_len]; exact ei)) ++ ⟨#[95]⟩)] w' fun e w'' => e = .returned (.bool true) ∧ Below w'.heap.size w' w'') := ⟨fun w' h => by
    have h2 := store_Name ((WB[(a2 % 25).toNat]'(by rw [WB_len]; exact ei)) ++ ⟨#[95]⟩) w' h (by have h3 := hwd.2; unfold nameB at h3; simp only [Bool.and_eq_true, decide_eq_true_eq] at h3; have h4 := h3.1.1.1.1.2; unfold maxLen; omega)
    rw [hwd.2] at h2
    exact h2⟩
  have HQ3 : Aside0 (∀ w', ShB w' → Calls Try.prog 9 #[.string s] w' fun e w'' => e = .returned (.bool (nameB s)) ∧ Below w'.heap.size w' w'') := ⟨fun w' h => store_Name s w' h (by unfold maxLen; omega)⟩
  have HQ4 : Aside0 (∀ w', ShB w' → Calls Try.prog 9 #[.string (s ++ strOfNums [97 + c % 26])] w' fun e w'' => e = .returned (.bool (nameB (s ++ strOfNums [97 + c % 26]))) ∧ Below w'.heap.size w' w'') := ⟨fun w' h => store_Name _ w' h (by unfold maxLen; have := HSZ.out; omega)⟩
  clear hw hwd
  have HX : Aside0 (∀ (g : Nat) (w2 : World), w2.heap[g]? = some (.cells (WB.map Value.string).toArray 9 (0, 0)) → w2.cell? ⟨g, (a2 % 25).toNat, none⟩ = some (.string (WB[(a2 % 25).toNat]'(by rw [WB_len]; exact ei)))) := ⟨fun g w2 hbl => (blk_cell hbl (a2 % 25).toNat).trans (wb_cell (a2 % 25).toNat ei)⟩
  generalize (WB[(a2 % 25).toNat]'(by rw [WB_len]; exact ei)) = wd at *
  have HCV : Aside0 (∀ (g : Nat) (w : World), w.heap[g]? = some (.cells #[.int .u8 (97 + c % 26)] 5 (0, 0)) → (convert 28 9 (.slice (some ⟨g, 0, none⟩) 1 1)).run Try.prog w = .ok (.string (strOfNums [97 + c % 26])) w) := ⟨fun g w h => byte_conv g w _ h⟩
  generalize strOfNums [97 + c % 26] = lt at *
  go_enter Try.func4, Try.ntmps4
  go_wp2_with (first | (go_at_call 8; refine (examples_true W HW.out).mono ?_; rintro e w1 ⟨rfl, hb⟩; have HB1 := Aside0.mk hb; clear hb) | ((with_reducible refine gate_dst (N := 15) rfl ?_); refine slice_event ?hg (N := 15) ?hd (cs := (WB.map Value.string).toArray) (t := 9) (n := 25) ?hr ?_; (case hd => rfl); (case hg => rfl); (case hr => first | (go_simp; done) | (go_simp; rfl)); intro g hg w2 hbl hb; have HBL := Aside0.mk hbl; have HB2 := Aside0.mk (below_step HB1.out hb); have hx := HX.out g w2 hbl; clear hbl hb hg) | ((with_reducible refine gate_dst (N := 37) rfl ?_); refine slice_event ?hg (N := 37) ?hd (cs := #[.int .u8 (97 + c % 26)]) (t := 5) (n := 1) ?hr ?_; (case hd => rfl); (case hg => rfl); (case hr => first | (go_simp; done) | (go_simp; rfl)); intro g3 hg3 w3 hbl hb; have HBL3 := Aside0.mk ((hb.block g (blk_lt HBL.out)).trans HBL.out); have HB3 := Aside0.mk (below_step HB2.out hb); have hcv := HCV.out g3 w3 hbl; clear hbl hb hg3))
  have HW3 := Aside0.mk (HW.out.on HB3.out)
  generalize (s ++ lt) = lg at *
  go_loopw [12, 13] (fun s12 s13 wr => ∃ k : Nat, k ≤ 25 ∧ s12 = .bool (decide (lg ∈ WB.take k)) ∧ s13 = .int .i64 k ∧ Aside0 (wr = w3)) (fun _ s13 _ => 25 - (intOf s13).toNat)
  case atStart => exact ⟨0, Nat.zero_le _, rfl, rfl, ⟨rfl⟩⟩
  case round =>
    obtain ⟨k, hk, rfl, rfl, ⟨rfl⟩⟩ := hrel
    by_cases hlt : k < 25
    · have hxk := (blk_cell HBL3.out k).trans (wb_cell k hlt)
      have HT := Aside0.mk (List.take_succ_eq_append_getElem (l := WB) (i := k) (by rw [WB_len]; exact hlt))
      generalize (WB[k]'(by rw [WB_len]; exact hlt)) = x at *
      generalize WB.take k = xs at *
      cases hq : decide (lg ∈ xs)
      · go_wp2
        go_roundw
        case rel => exact ⟨k + 1, by omega, by rw [HT.out, mem_snoc_f hq], by go_num, ⟨trivial⟩⟩
        case measure => simp [intOf]; omega
      · go_wp2
        go_roundw
        case rel => exact ⟨k + 1, by omega, by rw [HT.out, mem_snoc_t hq], by go_num, ⟨trivial⟩⟩
        case measure => simp [intOf]; omega
    · have HE : Aside0 (WB.take k = WB) := ⟨List.take_of_length_le (by rw [WB_len]; omega)⟩
      rw [HE.out]
      generalize decide (lg ∈ WB) = wo at *
      clear HE HBL3
      cases hn : nameB s
      · rw [hn] at HQ3
        go_wp2_with (first | (go_at_call 9; refine (HQ1.out _ HW3.out).mono ?_; rintro e w4 ⟨rfl, hb⟩; have HB4 := Aside0.mk (below_step HB3.out hb); have HW4 := Aside0.mk (HW.out.on HB4.out); clear hb HQ1) | (go_at_call 9; refine (HQ2.out _ HW4.out).mono ?_; rintro e w5 ⟨rfl, hb⟩; have HB5 := Aside0.mk (below_step HB4.out hb); have HW5 := Aside0.mk (HW.out.on HB5.out); clear hb HQ2) | (go_at_call 9; refine (HQ3.out _ HW5.out).mono ?_; rintro e w6 ⟨rfl, hb⟩; have HB6 := Aside0.mk (below_step HB5.out hb); have HW6 := Aside0.mk (HW.out.on HB6.out); clear hb HQ3))
        go_ret
        exact ⟨rfl, HB6.out⟩
      · rw [hn] at HQ3
        have e40 := HWL.out hn
        rw [e40] at HQ4
        by_cases hz : lg.size ≤ 20
        · have hz2 : ((lg.size : Int) ≤ 20) := by omega
          rw [decide_eq_true hz, Bool.true_and] at HQ4
          cases wo
          all_goals
            go_wp2_with (first | (go_at_call 9; refine (HQ1.out _ HW3.out).mono ?_; rintro e w4 ⟨rfl, hb⟩; have HB4 := Aside0.mk (below_step HB3.out hb); have HW4 := Aside0.mk (HW.out.on HB4.out); clear hb HQ1) | (go_at_call 9; refine (HQ2.out _ HW4.out).mono ?_; rintro e w5 ⟨rfl, hb⟩; have HB5 := Aside0.mk (below_step HB4.out hb); have HW5 := Aside0.mk (HW.out.on HB5.out); clear hb HQ2) | (go_at_call 9; refine (HQ3.out _ HW5.out).mono ?_; rintro e w6 ⟨rfl, hb⟩; have HB6 := Aside0.mk (below_step HB5.out hb); have HW6 := Aside0.mk (HW.out.on HB6.out); clear hb HQ3) | (go_at_call 9; refine (HQ4.out _ HW6.out).mono ?_; rintro e w7 ⟨rfl, hb⟩; have HB7 := Aside0.mk (below_step HB6.out hb); clear hb HQ4))
            go_ret
            exact ⟨rfl, HB7.out⟩
        · have hz2 : ¬ ((lg.size : Int) ≤ 20) := by omega
          rw [decide_eq_false hz, Bool.false_and] at HQ4
          go_wp2_with (first | (go_at_call 9; refine (HQ1.out _ HW3.out).mono ?_; rintro e w4 ⟨rfl, hb⟩; have HB4 := Aside0.mk (below_step HB3.out hb); have HW4 := Aside0.mk (HW.out.on HB4.out); clear hb HQ1) | (go_at_call 9; refine (HQ2.out _ HW4.out).mono ?_; rintro e w5 ⟨rfl, hb⟩; have HB5 := Aside0.mk (below_step HB4.out hb); have HW5 := Aside0.mk (HW.out.on HB5.out); clear hb HQ2) | (go_at_call 9; refine (HQ3.out _ HW5.out).mono ?_; rintro e w6 ⟨rfl, hb⟩; have HB6 := Aside0.mk (below_step HB5.out hb); have HW6 := Aside0.mk (HW.out.on HB6.out); clear hb HQ3) | (go_at_call 9; refine (HQ4.out _ HW6.out).mono ?_; rintro e w7 ⟨rfl, hb⟩; have HB7 := Aside0.mk (below_step HB6.out hb); clear hb HQ4))
          go_ret
          exact ⟨rfl, HB7.out⟩
set_option maxRecDepth 8000 in
set_option maxHeartbeats 4000000 in
theorem words_walk11 (W : World) (s : ByteArray) (a a1 a2 c c1 c2 : Int) (hw : ShB W) (hs : s.size ≤ 140737488351232) (ha : (Lit.int .i64 a).wf = true) (hc : (Lit.int .i64 c).wf = true) (hna : a < 0) (e1 : IntKind.i64.wrap (a + 1) = a1) (e2 : IntKind.i64.wrap (-a1) = a2) (h0 : 0 ≤ a2) (hnc : c < 0) (e3 : IntKind.i64.wrap (c + 1) = c1) (e4 : IntKind.i64.wrap (-c1) = c2) (h1 : 0 ≤ c2) :
    Calls Try.prog 4 #[.string s, .int .i64 a, .int .i64 c] W fun e w' => e = .returned (.bool true) ∧ Below W.heap.size W w' := by
  have HW := Aside0.mk hw
  have ei : (a2 % 25).toNat < 25 := by omega
  have HWL : Aside0 (nameB s = true → nameB (s ++ strOfNums [97 + c2 % 26]) = (decide ((s ++ strOfNums [97 + c2 % 26]).size ≤ 20) && !decide (s ++ strOfNums [97 + c2 % 26] ∈ WB))) := ⟨name_longer s c2 (by omega)⟩
  have HSZ : Aside0 ((s ++ strOfNums [97 + c2 % 26]).size ≤ 140737488355328) := ⟨by rw [ByteArray.size_append, strOfNums_size]; show s.size + 1 ≤ _; omega⟩
  have hwd := List.all_eq_true.1 WB_all (WB[(a2 % 25).toNat]'(by rw [WB_len]; exact ei)) (List.getElem_mem _)
  simp only [Bool.and_eq_true, Bool.not_eq_true'] at hwd
  have hws : (WB[(a2 % 25).toNat]'(by rw [WB_len]; exact ei)).size ≤ 19 := by
    have h3 := hwd.2
    unfold nameB at h3
    simp only [Bool.and_eq_true, decide_eq_true_eq] at h3
    have h4 := h3.1.1.1.1.2
    rw [ByteArray.size_append] at h4
    have h5 : (⟨#[95]⟩ : ByteArray).size = 1 := rfl
    omega
  have hle : ¬ (9223372036854775807 < s.size + (strOfNums [97 + c2 % 26]).size) := by rw [strOfNums_size]; show ¬ (9223372036854775807 < s.size + 1); omega
  have hle2 : ¬ (9223372036854775807 < (WB[(a2 % 25).toNat]'(by rw [WB_len]; exact ei)).size + 1) := by omega
  have HQ1 : Aside0 (∀ w', ShB w' → Calls Try.prog 9 #[.string (WB[(a2 % 25).toNat]'(by rw [WB_len]; exact ei))] w' fun e w'' => e = .returned (.bool false) ∧ Below w'.heap.size w' w'') := ⟨fun w' h => by
    have h2 := store_Name (WB[(a2 % 25).toNat]'(by rw [WB_len]; exact ei)) w' h (by have h3 := hwd.2; unfold nameB at h3; simp only [Bool.and_eq_true, decide_eq_true_eq] at h3; have h4 := h3.1.1.1.1.2; rw [ByteArray.size_append] at h4; unfold maxLen; omega)
    rw [hwd.1] at h2
    exact h2⟩
  have HQ2 : Aside0 (∀ w', ShB w' → Calls Try.prog 9 #[.string ((WB[(a2 % 25).toNat]'(by rw [WB_len]; exact ei)) ++ ⟨#[95]⟩)] w' fun e w'' => e = .returned (.bool true) ∧ Below w'.heap.size w' w'') := ⟨fun w' h => by
    have h2 := store_Name ((WB[(a2 % 25).toNat]'(by rw [WB_len]; exact ei)) ++ ⟨#[95]⟩) w' h (by have h3 := hwd.2; unfold nameB at h3; simp only [Bool.and_eq_true, decide_eq_true_eq] at h3; have h4 := h3.1.1.1.1.2; unfold maxLen; omega)
    rw [hwd.2] at h2
    exact h2⟩
  have HQ3 : Aside0 (∀ w', ShB w' → Calls Try.prog 9 #[.string s] w' fun e w'' => e = .returned (.bool (nameB s)) ∧ Below w'.heap.size w' w'') := ⟨fun w' h => store_Name s w' h (by unfold maxLen; omega)⟩
  have HQ4 : Aside0 (∀ w', ShB w' → Calls Try.prog 9 #[.string (s ++ strOfNums [97 + c2 % 26])] w' fun e w'' => e = .returned (.bool (nameB (s ++ strOfNums [97 + c2 % 26]))) ∧ Below w'.heap.size w' w'') := ⟨fun w' h => store_Name _ w' h (by unfold maxLen; have := HSZ.out; omega)⟩
  clear hw hwd
  have HX : Aside0 (∀ (g : Nat) (w2 : World), w2.heap[g]? = some (.cells (WB.map Value.string).toArray 9 (0, 0)) → w2.cell? ⟨g, (a2 % 25).toNat, none⟩ = some (.string (WB[(a2 % 25).toNat]'(by rw [WB_len]; exact ei)))) := ⟨fun g w2 hbl => (blk_cell hbl (a2 % 25).toNat).trans (wb_cell (a2 % 25).toNat ei)⟩
  generalize (WB[(a2 % 25).toNat]'(by rw [WB_len]; exact ei)) = wd at *
  have HCV : Aside0 (∀ (g : Nat) (w : World), w.heap[g]? = some (.cells #[.int .u8 (97 + c2 % 26)] 5 (0, 0)) → (convert 28 9 (.slice (some ⟨g, 0, none⟩) 1 1)).run Try.prog w = .ok (.string (strOfNums [97 + c2 % 26])) w) := ⟨fun g w h => byte_conv g w _ h⟩
  generalize strOfNums [97 + c2 % 26] = lt at *
  go_enter Try.func4, Try.ntmps4
  go_wp2_with (first | (go_at_call 8; refine (examples_true W HW.out).mono ?_; rintro e w1 ⟨rfl, hb⟩; have HB1 := Aside0.mk hb; clear hb) | ((with_reducible refine gate_dst (N := 15) rfl ?_); refine slice_event ?hg (N := 15) ?hd (cs := (WB.map Value.string).toArray) (t := 9) (n := 25) ?hr ?_; (case hd => rfl); (case hg => rfl); (case hr => first | (go_simp; done) | (go_simp; rfl)); intro g hg w2 hbl hb; have HBL := Aside0.mk hbl; have HB2 := Aside0.mk (below_step HB1.out hb); have hx := HX.out g w2 hbl; clear hbl hb hg) | ((with_reducible refine gate_dst (N := 37) rfl ?_); refine slice_event ?hg (N := 37) ?hd (cs := #[.int .u8 (97 + c2 % 26)]) (t := 5) (n := 1) ?hr ?_; (case hd => rfl); (case hg => rfl); (case hr => first | (go_simp; done) | (go_simp; rfl)); intro g3 hg3 w3 hbl hb; have HBL3 := Aside0.mk ((hb.block g (blk_lt HBL.out)).trans HBL.out); have HB3 := Aside0.mk (below_step HB2.out hb); have hcv := HCV.out g3 w3 hbl; clear hbl hb hg3))
  have HW3 := Aside0.mk (HW.out.on HB3.out)
  generalize (s ++ lt) = lg at *
  go_loopw [12, 13] (fun s12 s13 wr => ∃ k : Nat, k ≤ 25 ∧ s12 = .bool (decide (lg ∈ WB.take k)) ∧ s13 = .int .i64 k ∧ Aside0 (wr = w3)) (fun _ s13 _ => 25 - (intOf s13).toNat)
  case atStart => exact ⟨0, Nat.zero_le _, rfl, rfl, ⟨rfl⟩⟩
  case round =>
    obtain ⟨k, hk, rfl, rfl, ⟨rfl⟩⟩ := hrel
    by_cases hlt : k < 25
    · have hxk := (blk_cell HBL3.out k).trans (wb_cell k hlt)
      have HT := Aside0.mk (List.take_succ_eq_append_getElem (l := WB) (i := k) (by rw [WB_len]; exact hlt))
      generalize (WB[k]'(by rw [WB_len]; exact hlt)) = x at *
      generalize WB.take k = xs at *
      cases hq : decide (lg ∈ xs)
      · go_wp2
        go_roundw
        case rel => exact ⟨k + 1, by omega, by rw [HT.out, mem_snoc_f hq], by go_num, ⟨trivial⟩⟩
        case measure => simp [intOf]; omega
      · go_wp2
        go_roundw
        case rel => exact ⟨k + 1, by omega, by rw [HT.out, mem_snoc_t hq], by go_num, ⟨trivial⟩⟩
        case measure => simp [intOf]; omega
    · have HE : Aside0 (WB.take k = WB) := ⟨List.take_of_length_le (by rw [WB_len]; omega)⟩
      rw [HE.out]
      generalize decide (lg ∈ WB) = wo at *
      clear HE HBL3
      cases hn : nameB s
      · rw [hn] at HQ3
        go_wp2_with (first | (go_at_call 9; refine (HQ1.out _ HW3.out).mono ?_; rintro e w4 ⟨rfl, hb⟩; have HB4 := Aside0.mk (below_step HB3.out hb); have HW4 := Aside0.mk (HW.out.on HB4.out); clear hb HQ1) | (go_at_call 9; refine (HQ2.out _ HW4.out).mono ?_; rintro e w5 ⟨rfl, hb⟩; have HB5 := Aside0.mk (below_step HB4.out hb); have HW5 := Aside0.mk (HW.out.on HB5.out); clear hb HQ2) | (go_at_call 9; refine (HQ3.out _ HW5.out).mono ?_; rintro e w6 ⟨rfl, hb⟩; have HB6 := Aside0.mk (below_step HB5.out hb); have HW6 := Aside0.mk (HW.out.on HB6.out); clear hb HQ3))
        go_ret
        exact ⟨rfl, HB6.out⟩
      · rw [hn] at HQ3
        have e40 := HWL.out hn
        rw [e40] at HQ4
        by_cases hz : lg.size ≤ 20
        · have hz2 : ((lg.size : Int) ≤ 20) := by omega
          rw [decide_eq_true hz, Bool.true_and] at HQ4
          cases wo
          all_goals
            go_wp2_with (first | (go_at_call 9; refine (HQ1.out _ HW3.out).mono ?_; rintro e w4 ⟨rfl, hb⟩; have HB4 := Aside0.mk (below_step HB3.out hb); have HW4 := Aside0.mk (HW.out.on HB4.out); clear hb HQ1) | (go_at_call 9; refine (HQ2.out _ HW4.out).mono ?_; rintro e w5 ⟨rfl, hb⟩; have HB5 := Aside0.mk (below_step HB4.out hb); have HW5 := Aside0.mk (HW.out.on HB5.out); clear hb HQ2) | (go_at_call 9; refine (HQ3.out _ HW5.out).mono ?_; rintro e w6 ⟨rfl, hb⟩; have HB6 := Aside0.mk (below_step HB5.out hb); have HW6 := Aside0.mk (HW.out.on HB6.out); clear hb HQ3) | (go_at_call 9; refine (HQ4.out _ HW6.out).mono ?_; rintro e w7 ⟨rfl, hb⟩; have HB7 := Aside0.mk (below_step HB6.out hb); clear hb HQ4))
            go_ret
            exact ⟨rfl, HB7.out⟩
        · have hz2 : ¬ ((lg.size : Int) ≤ 20) := by omega
          rw [decide_eq_false hz, Bool.false_and] at HQ4
          go_wp2_with (first | (go_at_call 9; refine (HQ1.out _ HW3.out).mono ?_; rintro e w4 ⟨rfl, hb⟩; have HB4 := Aside0.mk (below_step HB3.out hb); have HW4 := Aside0.mk (HW.out.on HB4.out); clear hb HQ1) | (go_at_call 9; refine (HQ2.out _ HW4.out).mono ?_; rintro e w5 ⟨rfl, hb⟩; have HB5 := Aside0.mk (below_step HB4.out hb); have HW5 := Aside0.mk (HW.out.on HB5.out); clear hb HQ2) | (go_at_call 9; refine (HQ3.out _ HW5.out).mono ?_; rintro e w6 ⟨rfl, hb⟩; have HB6 := Aside0.mk (below_step HB5.out hb); have HW6 := Aside0.mk (HW.out.on HB6.out); clear hb HQ3) | (go_at_call 9; refine (HQ4.out _ HW6.out).mono ?_; rintro e w7 ⟨rfl, hb⟩; have HB7 := Aside0.mk (below_step HB6.out hb); clear hb HQ4))
          go_ret
          exact ⟨rfl, HB7.out⟩
theorem neg_fix {a : Int} (ha : (Lit.int .i64 a).wf = true) (hn : a < 0) : ∃ a1 a2, IntKind.i64.wrap (a + 1) = a1 ∧ IntKind.i64.wrap (-a1) = a2 ∧ 0 ≤ a2 := by
  have e1 : IntKind.i64.min = -9223372036854775808 := by decide
  have e2 : IntKind.i64.max = 9223372036854775807 := by decide
  simp [Lit.wf, e1, e2] at ha
  refine ⟨a + 1, -(a + 1), ?_, ?_, by omega⟩
  · rw [i64_w]; unfold Go.RowKit.wrap64; omega
  · rw [i64_w]; unfold Go.RowKit.wrap64; omega
theorem words_true (W : World) (hw : ShB W) (s : ByteArray) (a c : Int) (hs : s.size ≤ 140737488351232) (ha : (Lit.int .i64 a).wf = true) (hc : (Lit.int .i64 c).wf = true) :
    Calls Try.prog 4 #[.string s, .int .i64 a, .int .i64 c] W fun e w' => e = .returned (.bool true) ∧ Below W.heap.size W w' := by
  by_cases h0 : a < 0
  · obtain ⟨a1, a2, e1, e2, p0⟩ := neg_fix ha h0
    by_cases h1 : c < 0
    · obtain ⟨c1, c2, e3, e4, p1⟩ := neg_fix hc h1
      exact words_walk11 W s a a1 a2 c c1 c2 hw hs ha hc h0 e1 e2 p0 h1 e3 e4 p1
    · exact words_walk10 W s a a1 a2 c hw hs ha hc h0 e1 e2 p0 h1 (by omega)
  · by_cases h1 : c < 0
    · obtain ⟨c1, c2, e3, e4, p1⟩ := neg_fix hc h1
      exact words_walk01 W s a c c1 c2 hw hs ha hc h0 (by omega) h1 e3 e4 p1
    · exact words_walk00 W s a c hw hs ha hc h0 (by omega) h1 (by omega)

end Go.Proofs.Ytkogfjphpklioaa.QStoreNames
