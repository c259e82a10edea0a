import Derived.Test.YtfppafpkppjmlaaFeedM
/- Feed: walks of the feed's functions, by hand; the conditions stand in each theorem. -/
namespace Go.Proofs.Ytfppafpkppjmlaa.QFeedPlays
open Go.RowKit Go.Proofs.YtfppafpkppjmlaaW.PrintWords Go.Proofs.YtfppafpkppjmlaaW.PrintLast Go.Proofs.YtfppafpkppjmlaaW.PrintMore
attribute [local go_sem] max2_int min2_int max_two min_two max_three min_three max_four min_four
set_option linter.unusedVariables false
set_option linter.unusedSimpArgs false
theorem feed_All_k (W : World) (own : Nat → Prop) (g : Nat) (most : Int) (n : Nat) (L : List S35) (k : Nat) (hk : L.length = k) (h : Fd W own g most n L) :
    Calls Try.prog 10 #[.pointer (some ⟨g, 0, none⟩)] W fun e w' => ∃ A c, e = .returned (.slice A k c) ∧ k ≤ c ∧ Kd.C k35 w' A k L ∧ Below W.heap.size W w' := by
  subst hk
  refine (feed_All W own g most n L h).mono ?_
  rintro e w' ⟨A, c, rfl, h1, h2, h3⟩
  exact ⟨A, c, rfl, h1, (Kd.Q_reads' h2).2.2, h3⟩
theorem feed_Len_k (W : World) (own : Nat → Prop) (g : Nat) (most : Int) (n : Nat) (L : List S35) (k : Nat) (hk : L.length = k) (h : Fd W own g most n L) :
    Calls Try.prog 12 #[.pointer (some ⟨g, 0, none⟩)] W fun e w' => e = .returned (.int .i64 (k : Int)) ∧ w' = W := by
  subst hk
  exact feed_Len W own g most n L h
theorem rev_at {P WL : List S35} (h : P.reverse = WL.map clipP) (k : Nat) (hk : k < WL.length) : ∃ hd : WL.length - 1 - k < P.length, P[WL.length - 1 - k] = clipP WL[k] := by
  have hl : P.length = WL.length := by have := congrArg List.length h; simpa using this
  refine ⟨by omega, ?_⟩
  have h2 : P.reverse[k]'(by simpa [hl] using hk) = clipP WL[k] := by
    simp only [h, List.getElem_map]
  rw [List.getElem_reverse] at h2
  rw [← h2]
  congr 1
  omega
set_option maxHeartbeats 8000000 in
set_option maxRecDepth 20000 in
theorem feed_Newest (W : World) (cap : Int) (A : Option Addr) (c : Nat) (l : List S35) (hr : Kd.C k35 W A l.length l) (hc : l.length ≤ c) (hk : ∀ p ∈ l, p.f0.size ≤ maxLen) :
    Calls Try.prog 5 #[.int .i64 cap, .slice A l.length c] W fun e w' => e = .returned (.bool true) ∧ Below W.heap.size W w' := by
  have hu35 := Try.underlying35
  have HR : Aside0 (∀ w', Below W.heap.size W w' → Kd.C k35 w' A (nC l) (l.take (nC l))) := ⟨fun w' hb => by
    have h := Kd.C_take (Kd.C_below hr hb) (m := nC l) (by unfold nC; omega)
    have e : (l.take (nC l)).length = nC l := by rw [List.length_take]; unfold nC; omega
    rw [e] at h
    exact h⟩
  have hle : (l.take (nC l)).length = nC l := by rw [List.length_take]; unfold nC; omega
  have HLE := Aside0.mk hle
  have hif := nC_if l
  have hn100 : nC l ≤ 100 := by unfold nC; omega
  have hnc : nC l ≤ c := by unfold nC; omega
  have HK : Aside0 (∀ p ∈ l.take (nC l), p.f0.size ≤ maxLen) := ⟨fun p hp => hk p (List.mem_of_mem_take hp)⟩
  clear hr hk hle
  generalize hlt : l.take (nC l) = l1 at *
  clear hlt
  generalize nC l = nl at *
  have hc50 : capN cap ≤ 50 := by unfold capN mn; omega
  obtain ⟨j1, hj1⟩ : ∃ j, mx cap 0 = j := ⟨_, rfl⟩
  have hj1_ : (if cap < 0 then 0 else cap) = j1 := hj1
  have hj2_ : (if 50 < j1 then 50 else j1) = (capN cap : Int) := by rw [← cap_eq, hj1]; rfl
  clear hj1
  go_enter Try.func5, Try.ntmps5
  go_wp2_with (first
    | (go_at_call 7; refine (feed_examples W).mono ?_; rintro e w1 ⟨rfl, hb1⟩; have HB1 := Aside0.mk hb1; clear hb1)
    | (go_at_call 8; refine (feed_New_n _ _).mono ?_; rintro e w2 ⟨g1, rfl, hf1, hb2⟩; have HF1 := Aside0.mk hf1; have HB2 := Aside0.mk (below_on HB1.out hb2); have HS1 := Aside0.mk HB1.out.size; clear hf1 hb2 HB1)
    | (go_at_call 9; refine (feed_Load_n _ _ g1 _ 0 [] A c nl l1 HLE.out HF1.out (fun w' hu => HR.out w' (below_upd HB2.out hu (fun j hj => by have := HS1.out; omega))) hnc HK.out (by unfold maxLen; omega)).mono ?_; rintro e w4 ⟨rfl, hf1, hu4⟩; have HF4 := Aside0.mk hf1; have HB4 := Aside0.mk (below_upd HB2.out hu4 (fun j hj => by have := HS1.out; omega)); clear hf1 hu4 HF1 HB2))
  generalize hcn : capN cap = cn at *
  have HP := Aside0.mk (puts_new cn l1)
  generalize putsL (cn : Int) [] l1 = P at *
  clear hcn hj2_
  have hl1 := HLE.out
  go_loopw [8, 9] (fun s8 s9 wr => ∃ (m : Nat) (iv : Int) (A8 : Option Addr) (c8 : Nat) (WL : List S35), m ≤ nl ∧ s9 = .int .i64 iv ∧ iv = (m : Int) - 1 ∧ s8 = .slice A8 WL.length c8 ∧ WL.length + m ≤ nl ∧ Aside0 (Kd.Q k35 35 wr w4.heap.size (fun _ => True) (.slice A8 WL.length c8) WL) ∧ Aside0 (newL cn [] l1.reverse = newL cn WL (l1.take m).reverse) ∧ Aside0 (Below w4.heap.size w4 wr)) (fun _ i _ => (intOf i + 1).toNat)
  case atStart => exact ⟨nl, (nl : Int) - 1, none, 0, [], Nat.le_refl _, by go_num, rfl, rfl, by simp, ⟨Kd.Q_nil _ _ _ _ _⟩, ⟨by rw [List.take_of_length_le (by omega)]⟩, ⟨Below.refl _ _⟩⟩
  case round =>
    obtain ⟨m, iv, A8, c8, WL, hm, rfl, hiv, rfl, hwm, HQ, HN, HB⟩ := hrel
    have hc8 := (Kd.Q_reads' HQ.out).2.1
    by_cases hgo : 0 < m ∧ WL.length < cn
    · obtain ⟨hm0, hwc⟩ := hgo
      obtain ⟨m', rfl⟩ : ∃ m', m = m' + 1 := ⟨m - 1, by omega⟩
      obtain rfl : iv = (m' : Int) := by omega
      clear hiv
      go_wp2
      have HRw := Aside0.mk (at_35 (HR.out wr (below_on HB4.out HB.out)) m' (by omega))
      have HW := Aside0.mk (Kd.Q_reads' HQ.out).2.2
      have htr := take_rev l1 m' (by omega)
      have HTR := Aside0.mk htr
      clear htr
      generalize l1[m'] = p at *
      go_loopw [10, 11] (fun s10 s11 wk => ∃ k : Nat, k ≤ WL.length ∧ s11 = .int .i64 (k : Int) ∧ s10 = .bool (hasK (WL.take k) p) ∧ Aside0 (Below wr.heap.size wr wk)) (fun _ i _ => WL.length - (intOf i).toNat)
      case atStart => exact ⟨0, Nat.zero_le _, rfl, rfl, ⟨Below.refl _ _⟩⟩
      case round =>
        obtain ⟨k, hkl, rfl, rfl, HBk⟩ := hrel
        by_cases hkk : k < WL.length
        · have HX := Aside0.mk (at_35 (Kd.C_below HW.out HBk.out) k hkk)
          obtain ⟨ad, e, hx0, hx1⟩ := HX.out
          cases e
          obtain ⟨ad2, e2, hy0, hy1⟩ := HRw.out
          cases e2
          have hz0 := pw_cell_below HBk.out hy0
          have HT := Aside0.mk (hasK_take WL p k hkk)
          generalize WL[k] = q at *
          clear HX hx1 hy1 hy0
          cases hb : hasK (WL.take k) p with
          | true =>
            rw [hb] at HT
            clear hb
            go_wp2
            go_quiet (fail)
            go_wp2
            go_roundw
            case rel => exact ⟨k + 1, by omega, by go_num, by rw [HT.out]; rfl, ⟨pw_below_drewN HBk.out _⟩⟩
            case measure => simp [intOf]; omega
          | false =>
            rw [hb] at HT
            clear hb
            go_wp2
            go_quiet (fail)
            go_wp2
            go_roundw
            case rel => exact ⟨k + 1, by omega, by go_num, by rw [HT.out]; rfl, ⟨pw_below_drewN HBk.out _⟩⟩
            case measure => simp [intOf]; omega
        · obtain rfl : k = WL.length := by omega
          rw [List.take_length]
          obtain ⟨ad2, e2, hy0, hy1⟩ := HRw.out
          cases e2
          have hz0 := pw_cell_below HBk.out hy0
          have hz1 := pw_cell_below HBk.out hy1
          have HBn := Aside0.mk (below_on HB.out HBk.out)
          have HQn := Aside0.mk (Kd.Q_below HQ.out HBk.out)
          have hg0 := HBn.out.size
          have HNn : Aside0 (newL cn [] l1.reverse = if hasK WL p = true then newL cn WL (l1.take m').reverse else newL cn (WL ++ [p]) (l1.take m').reverse) := ⟨by rw [HN.out, HTR.out, newL, if_pos hwc]⟩
          clear hy0 hy1
          cases hb : hasK WL p with
          | true =>
            rw [hb] at HNn
            clear hb
            go_wp2
            go_roundw
            case rel => exact ⟨m', _, _, c8, WL, by omega, rfl, by first | rfl | (unfold wrap64; omega), rfl, by omega, HQn, ⟨HNn.out.trans (if_pos rfl)⟩, HBn⟩
            case measure => simp [intOf] <;> omega
          | false =>
            rw [hb] at HNn
            clear hb
            go_wp2_with (first | ((with_reducible refine gate_builtin (b := .append) (xs := #[.tmp 68, .tmp 73]) rfl ?_); at_builtin; refine Kd.Q_append k35 (w0 := w4) w4.heap.size rfl (.tmp 68) (.tmp 73) 22 35 (.agg #[.string (⟨#[]⟩ : ByteArray), .int .i64 0]) 24 rfl Try.underlying22 info35S rfl (by decide) (by decide) _ WL p [.string p.f0, .int .i64 p.f1] (fun _ => True) (fun _ => False) rfl (by first | (go_simp; done) | (go_simp; rfl)) ?aP (fun _ hk => hk.elim) ?aF ?aO ?aB ?aS ?aL ?_; (case aP => exact k35_mkM _ _ _ p); (case aB => exact HBn.out); (case aF => exact (fun _ _ => trivial)); (case aO => exact HQn.out); (case aS => exact hg0); (case aL => omega); intro v5 w5 hq hb hgr hat; obtain ⟨A9, c9, rfl, _⟩ := Kd.Q_slice hq; have HQ5 := Aside0.mk hq; have HB5 := Aside0.mk hb; clear hq hb hgr hat))
            go_roundw
            case rel => exact ⟨m', _, A9, c9, WL ++ [p], by omega, rfl, by first | rfl | (unfold wrap64; omega), by rw [List.length_append]; rfl, by simp; omega, HQ5, ⟨HNn.out.trans (if_neg (by decide))⟩, HB5⟩
            case measure => simp [intOf] <;> omega
    · by_cases hm0 : 0 < m
      · have hwc : ¬ WL.length < cn := fun h => hgo ⟨hm0, h⟩
        obtain ⟨m', rfl⟩ : ∃ m', m = m' + 1 := ⟨m - 1, by omega⟩
        obtain rfl : iv = (m' : Int) := by omega
        clear hiv hgo
        have hW : WL = newL cn [] l1.reverse := by
          rw [HN.out]
          rw [newL_full cn WL _ (by omega)]
        have HPW := HP.out
        rw [← hW] at HPW
        have HPR := Aside0.mk HPW
        have hlen : P.length = WL.length := by have := congrArg List.length HPW; simpa using this
        have HLen := Aside0.mk hlen
        have HF5 := Aside0.mk (HF4.out.on HB.out)
        have HWL := Aside0.mk (Kd.Q_reads' HQ.out).2.2
        clear hW HPW HN hlen
        go_wp2_with (first
          | (go_at_call 10; refine (feed_All_k _ _ g1 _ _ _ _ HLen.out HF5.out).mono ?_; rintro e w5 ⟨A5, c5, rfl, hc5, hq5, hb5⟩; have HQ5 := Aside0.mk hq5; have HF6 := Aside0.mk (HF5.out.on hb5); have HWL5 := Aside0.mk (Kd.C_below HWL.out hb5); have HB5 := Aside0.mk (below_on (below_on HB4.out HB.out) hb5); clear hq5 hb5 HF5 HWL HB)
          | (go_at_call 12; refine (feed_Len_k _ _ g1 _ _ _ _ HLen.out HF6.out).mono ?_; rintro e w6 ⟨rfl, rfl⟩))
        go_loopw [13] (fun s13 wk => ∃ k : Nat, k ≤ WL.length ∧ s13 = .int .i64 (k : Int) ∧ Aside0 (Below w6.heap.size w6 wk)) (fun i _ => WL.length - (intOf i).toNat)
        case atStart => exact ⟨0, Nat.zero_le _, rfl, ⟨Below.refl _ _⟩⟩
        case round =>
          obtain ⟨k, hkl, rfl, HBk⟩ := hrel
          by_cases hkk : k < WL.length
          · obtain ⟨hd, hPd⟩ := rev_at HPR.out k hkk
            have HX := Aside0.mk (at_35 (Kd.C_below HWL5.out HBk.out) k hkk)
            obtain ⟨ad, e, hx0, hx1⟩ := HX.out
            cases e
            have HY := Aside0.mk (at_35 (Kd.C_below HQ5.out HBk.out) (WL.length - 1 - k) hd)
            obtain ⟨ad2, e, hy0, hy1⟩ := HY.out
            cases e
            have hlk : lookL P P[WL.length - 1 - k].f0 = some P[WL.length - 1 - k].f1 := look_at P HF6.out.2.1 _ hd
            have hsz : P[WL.length - 1 - k].f0.size ≤ maxLen := HF6.out.2.2.1 _ (List.mem_map.2 ⟨_, List.getElem_mem hd, rfl⟩)
            rw [hPd] at hy0 hy1 hlk hsz
            have HFk := Aside0.mk (HF6.out.on HBk.out)
            generalize WL[k] = q at *
            obtain ⟨j3, hj3⟩ : ∃ j, (if q.f1 < 0 then 0 else q.f1) = j := ⟨_, rfl⟩
            have hj4 : (if 1000000000000 < j3 then 1000000000000 else j3) = clipV q.f1 := by rw [← hj3]; rfl
            have hdl : WL.length - 1 - k < WL.length := by omega
            change _ = some (Value.string q.f0) at hy0
            change lookL P q.f0 = some (clipV q.f1) at hlk
            change q.f0.size ≤ maxLen at hsz
            change _ = some (Value.int .i64 (clipV q.f1)) at hy1
            generalize clipV q.f1 = cq at *
            have HLK := Aside0.mk hlk
            have HSZ := Aside0.mk hsz
            clear HX HY hlk hsz hPd
            have hx2 : (wr.alloc (.cells #[.string q.f0, .int .i64 cq] 35)).cell? (ad.add (k * 2)) = some (Value.string q.f0) := cell_al hx0
            have hx3 : (wr.alloc (.cells #[.string q.f0, .int .i64 cq] 35)).cell? ⟨(ad.add (k * 2)).block, (ad.add (k * 2)).off + 1, none⟩ = some (Value.int .i64 q.f1) := cell_al hx1
            have ha0 : (wr.alloc (.cells #[.string q.f0, .int .i64 cq] 35)).cell? ⟨wr.heap.size, 0, none⟩ = some (Value.string q.f0) := (blk_cell (blk_new wr _) 0).trans rfl
            have ha1 : (wr.alloc (.cells #[.string q.f0, .int .i64 cq] 35)).cell? ⟨wr.heap.size, 1, none⟩ = some (Value.int .i64 cq) := (blk_cell (blk_new wr _) 1).trans rfl
            have HBa := Aside0.mk (below_alloc HBk.out (.cells #[.string q.f0, .int .i64 cq] 35))
            have HFa := Aside0.mk (HFk.out.on (below_alloc (Below.refl _ _) (.cells #[.string q.f0, .int .i64 cq] 35)))
            clear HFk HBk
            go_wp2_with (go_at_call 16; refine (feed_Get _ _ g1 _ _ _ q.f0 HFa.out HSZ.out).mono ?_; rw [HLK.out]; rintro e w7 ⟨rfl, rfl⟩)
            go_quiet (fail)
            go_wp2
            go_roundw
            case rel => exact ⟨k + 1, by omega, by go_num, ⟨pw_below_drewN HBa.out _⟩⟩
            case measure => simp [intOf]; omega
          · go_wp2
            go_ret
            exact ⟨rfl, below_on HB5.out HBk.out⟩
      · obtain rfl : m = 0 := by omega
        obtain rfl : iv = -1 := by omega
        clear hiv hgo hm0
        have hW : WL = newL cn [] l1.reverse := by
          rw [HN.out]
          rfl
        have HPW := HP.out
        rw [← hW] at HPW
        have HPR := Aside0.mk HPW
        have hlen : P.length = WL.length := by have := congrArg List.length HPW; simpa using this
        have HLen := Aside0.mk hlen
        have HF5 := Aside0.mk (HF4.out.on HB.out)
        have HWL := Aside0.mk (Kd.Q_reads' HQ.out).2.2
        clear hW HPW HN hlen
        go_wp2_with (first
          | (go_at_call 10; refine (feed_All_k _ _ g1 _ _ _ _ HLen.out HF5.out).mono ?_; rintro e w5 ⟨A5, c5, rfl, hc5, hq5, hb5⟩; have HQ5 := Aside0.mk hq5; have HF6 := Aside0.mk (HF5.out.on hb5); have HWL5 := Aside0.mk (Kd.C_below HWL.out hb5); have HB5 := Aside0.mk (below_on (below_on HB4.out HB.out) hb5); clear hq5 hb5 HF5 HWL HB)
          | (go_at_call 12; refine (feed_Len_k _ _ g1 _ _ _ _ HLen.out HF6.out).mono ?_; rintro e w6 ⟨rfl, rfl⟩))
        go_loopw [13] (fun s13 wk => ∃ k : Nat, k ≤ WL.length ∧ s13 = .int .i64 (k : Int) ∧ Aside0 (Below w6.heap.size w6 wk)) (fun i _ => WL.length - (intOf i).toNat)
        case atStart => exact ⟨0, Nat.zero_le _, rfl, ⟨Below.refl _ _⟩⟩
        case round =>
          obtain ⟨k, hkl, rfl, HBk⟩ := hrel
          by_cases hkk : k < WL.length
          · obtain ⟨hd, hPd⟩ := rev_at HPR.out k hkk
            have HX := Aside0.mk (at_35 (Kd.C_below HWL5.out HBk.out) k hkk)
            obtain ⟨ad, e, hx0, hx1⟩ := HX.out
            cases e
            have HY := Aside0.mk (at_35 (Kd.C_below HQ5.out HBk.out) (WL.length - 1 - k) hd)
            obtain ⟨ad2, e, hy0, hy1⟩ := HY.out
            cases e
            have hlk : lookL P P[WL.length - 1 - k].f0 = some P[WL.length - 1 - k].f1 := look_at P HF6.out.2.1 _ hd
            have hsz : P[WL.length - 1 - k].f0.size ≤ maxLen := HF6.out.2.2.1 _ (List.mem_map.2 ⟨_, List.getElem_mem hd, rfl⟩)
            rw [hPd] at hy0 hy1 hlk hsz
            have HFk := Aside0.mk (HF6.out.on HBk.out)
            generalize WL[k] = q at *
            obtain ⟨j3, hj3⟩ : ∃ j, (if q.f1 < 0 then 0 else q.f1) = j := ⟨_, rfl⟩
            have hj4 : (if 1000000000000 < j3 then 1000000000000 else j3) = clipV q.f1 := by rw [← hj3]; rfl
            have hdl : WL.length - 1 - k < WL.length := by omega
            change _ = some (Value.string q.f0) at hy0
            change lookL P q.f0 = some (clipV q.f1) at hlk
            change q.f0.size ≤ maxLen at hsz
            change _ = some (Value.int .i64 (clipV q.f1)) at hy1
            generalize clipV q.f1 = cq at *
            have HLK := Aside0.mk hlk
            have HSZ := Aside0.mk hsz
            clear HX HY hlk hsz hPd
            have hx2 : (wr.alloc (.cells #[.string q.f0, .int .i64 cq] 35)).cell? (ad.add (k * 2)) = some (Value.string q.f0) := cell_al hx0
            have hx3 : (wr.alloc (.cells #[.string q.f0, .int .i64 cq] 35)).cell? ⟨(ad.add (k * 2)).block, (ad.add (k * 2)).off + 1, none⟩ = some (Value.int .i64 q.f1) := cell_al hx1
            have ha0 : (wr.alloc (.cells #[.string q.f0, .int .i64 cq] 35)).cell? ⟨wr.heap.size, 0, none⟩ = some (Value.string q.f0) := (blk_cell (blk_new wr _) 0).trans rfl
            have ha1 : (wr.alloc (.cells #[.string q.f0, .int .i64 cq] 35)).cell? ⟨wr.heap.size, 1, none⟩ = some (Value.int .i64 cq) := (blk_cell (blk_new wr _) 1).trans rfl
            have HBa := Aside0.mk (below_alloc HBk.out (.cells #[.string q.f0, .int .i64 cq] 35))
            have HFa := Aside0.mk (HFk.out.on (below_alloc (Below.refl _ _) (.cells #[.string q.f0, .int .i64 cq] 35)))
            clear HFk HBk
            go_wp2_with (go_at_call 16; refine (feed_Get _ _ g1 _ _ _ q.f0 HFa.out HSZ.out).mono ?_; rw [HLK.out]; rintro e w7 ⟨rfl, rfl⟩)
            go_quiet (fail)
            go_wp2
            go_roundw
            case rel => exact ⟨k + 1, by omega, by go_num, ⟨pw_below_drewN HBa.out _⟩⟩
            case measure => simp [intOf]; omega
          · go_wp2
            go_ret
            exact ⟨rfl, below_on HB5.out HBk.out⟩

end Go.Proofs.Ytfppafpkppjmlaa.QFeedPlays
