import Derived.Test.YtacfemgmnfkjoaaBagM
/- Bag: walks of the bag's functions, by hand; the conditions stand in each theorem. -/
namespace Go.Proofs.Ytacfemgmnfkjoaa.QBag
open Go.RowKit Go.Proofs.YtacfemgmnfkjoaaW.PrintWords Go.Proofs.YtacfemgmnfkjoaaW.PrintLast Go.Proofs.YtacfemgmnfkjoaaW.PrintMore
attribute [local go_sem] max2_int min2_int max_two min_two max_three min_three max_four min_four
set_option linter.unusedVariables false
set_option linter.unusedSimpArgs false
set_option maxHeartbeats 16000000 in
theorem put_Less (W : World) (oA oB : Nat → Prop) (ga gb na nb : Nat) (a b R : List ByteArray) (hA : Bg W oA ga na a) (hB : Bg W oB gb nb b) (hna : na ≤ 1000000) (hnb : nb ≤ 1000000) (hRl : R.length ≤ 1000000) (hR : ∀ s, R.count s = a.count s - b.count s) :
    Calls Try.prog 34 #[.pointer (some ⟨ga, 0, none⟩), .pointer (some ⟨gb, 0, none⟩), .func (.func 36) #[] #[]] W fun e w' => ∃ (g n : Nat), e = .returned (.pointer (some ⟨g, 0, none⟩)) ∧ Bg w' (fun j => W.heap.size ≤ j ∧ j < w'.heap.size) g n R ∧ n ≤ R.length + a.length + b.length ∧ Below W.heap.size W w' := by
  have HA := Aside0.mk hA
  have HB := Aside0.mk hB
  have HR := Aside0.mk hR
  have hal : a.length ≤ na ∧ b.length ≤ nb ∧ (∀ s ∈ a, s.size ≤ maxLen) ∧ (∀ s ∈ b, s.size ≤ maxLen) := by
    obtain ⟨_, _, _, _, h4, h5⟩ := hA
    obtain ⟨_, _, _, _, h6, h7⟩ := hB
    exact ⟨h5, h7, h4, h6⟩
  obtain ⟨hal1, hal2, hsa, hsb⟩ := hal
  have HSA := Aside0.mk hsa
  have HSB := Aside0.mk hsb
  clear hA hB hR hsa hsb
  have M11 : Aside0 True := ⟨trivial⟩
  go_enter Try.func34, Try.ntmps34
  go_wp2_with (first
    | (go_at_call 21; refine (bag_New W).mono ?_; rintro e w1 ⟨g, rfl, h1, h2⟩; have H1 := Aside0.mk h1; have HW1 := Aside0.mk h2; clear h1 h2)
    | (go_at_call 11; have m11 := M11.out; refine (bag_KindsQ w1 oA ga na a (HA.out.on HW1.out) (by omega)).mono ?_; rintro e w2 ⟨Aa, ca, ka, rfl, hca, hCa, hKa, hb2⟩; have HCA := Aside0.mk hCa; have HKA := Aside0.mk hKa; have HW2 := Aside0.mk (below_on HW1.out hb2); have H2 := Aside0.mk (H1.out.bound.on hb2); have HS2 := Aside0.mk hb2.size; clear hCa hKa hb2 m11 M11 H1 HW1)
    | (go_at_call 11; refine (bag_KindsQ w2 oB gb nb b (HB.out.on HW2.out) (by omega)).mono ?_; rintro e w3 ⟨Ab, cb, kb, rfl, hcb, hCb, hKb, hb3⟩; have HCA3 := Aside0.mk (Kd.Q_below HCA.out hb3); have HCB := Aside0.mk hCb; have HKB := Aside0.mk hKb; have HW3 := Aside0.mk (below_on HW2.out hb3); have H3 := Aside0.mk (H2.out.on hb3); have HS3 := Aside0.mk (Nat.le_trans HS2.out hb3.size); have HS32 := Aside0.mk (And.intro HS2.out hb3.size); clear hCb hKb hb3 H2 HW2 HCA HS2))
  have hkal : ka.length ≤ a.length := kinds_le HKA.out
  have hkbl : kb.length ≤ b.length := kinds_le HKB.out
  generalize hrow : Obj.cells #[.slice Aa ka.length ca, .slice Ab kb.length cb] 22 = row at *
  have HAL := below_alloc (Below.refl w3.heap.size w3) row
  have HSZ : Aside0 (w3.heap.size < (w3.alloc row).heap.size) := ⟨by simp⟩
  have HBK : Aside0 ((w3.alloc row).heap[w3.heap.size]? = some (.cells #[.slice Aa ka.length ca, .slice Ab kb.length cb] 22 (0, 0))) := ⟨by rw [hrow]; exact blk_new w3 _⟩
  have HQA := Aside0.mk (Kd.Q_below HCA3.out HAL)
  have HQB := Aside0.mk (Kd.Q_below HCB.out HAL)
  have H4 := Aside0.mk (H3.out.on HAL)
  have HW4 := Aside0.mk (below_on HW3.out HAL)
  clear HAL H3 HW3 HCA3 HCB hrow
  have HROWS : Aside0 (∀ q, q < 2 → ∃ (Aq : Option Addr) (cq : Nat) (kq : List ByteArray), (∀ w' (own : Nat → Prop), (∀ j, own j → (W.heap.size ≤ j ∧ j < w1.heap.size) ∨ (w3.alloc row).heap.size ≤ j) → Upd own (w3.alloc row) w' → w'.cell? ((⟨w3.heap.size, 0, none⟩ : Addr).add q) = some (.slice Aq kq.length cq) ∧ Kd.C Kd.string w' Aq kq.length kq) ∧ kq.length ≤ 1000000 ∧ kq.length ≤ cq ∧ (∀ s ∈ kq, s.size ≤ maxLen) ∧ Pq ka kb (q + 1) = Pq ka kb q ++ kq) := ⟨fun q hq => by
    have h1 := HS3.out
    have h2 := HS32.out
    have h3 := HSZ.out
    have hb : ∀ w' (own : Nat → Prop), (∀ j, own j → (W.heap.size ≤ j ∧ j < w1.heap.size) ∨ (w3.alloc row).heap.size ≤ j) → Upd own (w3.alloc row) w' → w'.heap[w3.heap.size]? = some (.cells #[.slice Aa ka.length ca, .slice Ab kb.length cb] 22 (0, 0)) := fun w' own ho hu => (hu.far _ h3 (fun h => by rcases ho _ h with h | h <;> omega)).trans HBK.out
    match q, hq with
    | 0, _ => exact ⟨Aa, ca, ka, fun w' own ho hu => ⟨(at_rows W _ _ _ _ _ (hb w' own ho hu)).1, (Kd.Q_reads' (Q_upd HQA.out hu (fun j hj hlt h => by rcases ho _ h with h | h <;> omega))).2.2⟩, by omega, hca, fun s hs => HSA.out s ((HKA.out.2 s).1 hs), by simp [Pq]⟩
    | 1, _ => exact ⟨Ab, cb, kb, fun w' own ho hu => ⟨(at_rows W _ _ _ _ _ (hb w' own ho hu)).2, (Kd.Q_reads' (Q_upd HQB.out hu (fun j hj hlt h => by rcases ho _ h with h | h <;> omega))).2.2⟩, by omega, hcb, fun s hs => HSB.out s ((HKB.out.2 s).1 hs), by simp [Pq]⟩⟩
  have HPL : Aside0 (∀ q, (Pq ka kb q).length ≤ a.length + b.length) := ⟨fun q => by unfold Pq; split; simp; split; omega; simp; omega⟩
  have HEND : Aside0 (∀ s, a.count s - b.count s ≠ 0 → s ∈ Pq ka kb 2) := ⟨fun s hs => by
    have : s ∈ a ∨ s ∈ b := by
      by_cases c : s ∈ a
      · exact .inl c
      · have h0 := List.count_eq_zero.2 c
        exact .inr (List.count_pos_iff.1 (by omega))
    show s ∈ ka ++ kb
    rw [List.mem_append, HKA.out.2 s, HKB.out.2 s]
    exact this⟩
  generalize w3.alloc row = w4 at *
  generalize (⟨w3.heap.size, 0, none⟩ : Addr) = rad at *
  obtain ⟨own, hown⟩ : ∃ own : Nat → Prop, own = fun j => (W.heap.size ≤ j ∧ j < w1.heap.size) ∨ w4.heap.size ≤ j := ⟨_, rfl⟩
  have HOWN : Aside0 (∀ j, own j ↔ ((W.heap.size ≤ j ∧ j < w1.heap.size) ∨ w4.heap.size ≤ j)) := ⟨fun j => by rw [hown]⟩
  clear hown
  have HSW := Aside0.mk HW4.out.size
  have H5 : Aside0 (Bg w4 own g 0 []) := ⟨H4.out.far (fun j hj => (HOWN.out j).2 (.inl hj)) (fun _ _ _ => rfl)⟩
  clear H4
  go_loopw [20] (fun s20 wr => ∃ (q : Nat) (T : List ByteArray), q ≤ 2 ∧ s20 = .int .i64 q ∧ Aside0 (Done (fun s => a.count s - b.count s) (Pq ka kb q) T) ∧ Aside0 (Bg wr own g (R.length + (Pq ka kb q).length) T) ∧ Aside0 (Upd own w4 wr)) (fun i _ => 2 - (intOf i).toNat)
  case atStart => exact ⟨0, [], Nat.zero_le _, rfl, ⟨fun s => by simp [Pq]⟩, ⟨H5.out.mono (Nat.zero_le _)⟩, ⟨Upd.refl _ _⟩⟩
  case round =>
    clear H5
    obtain ⟨q, T, hq, rfl, HD, HT, HU⟩ := hrel
    by_cases hq2 : q < 2
    · obtain ⟨Aq, cq, kq, hrd, hkq, hcq, hsq, hPq⟩ := HROWS.out q hq2
      have hcell := (hrd wr own (fun j => (HOWN.out j).1) HU.out).1
      have HRD : Aside0 (∀ w', Upd own w4 w' → Kd.C Kd.string w' Aq kq.length kq) := ⟨fun w' hu => (hrd w' own (fun j => (HOWN.out j).1) hu).2⟩
      have HSQ := Aside0.mk hsq
      have HPQ := Aside0.mk hPq
      have hpql := HPL.out q
      have HPL2 := HPL.out (q + 1)
      rw [hPq, List.length_append] at HPL2
      clear hrd hsq hPq
      go_wp2
      have HQ2 := Aside0.mk hq2
      have hqd : decide ((q : Int) < 2) = true := decide_eq_true (by omega)
      simp only [hqd]
      clear hqd
      go_loopw [26] (fun s26 wr => ∃ (i : Nat) (T : List ByteArray), i ≤ kq.length ∧ s26 = .int .i64 i ∧ Aside0 (Done (fun s => a.count s - b.count s) (Pq ka kb q ++ kq.take i) T) ∧ Aside0 (Bg wr own g (R.length + (Pq ka kb q).length + i) T) ∧ Aside0 (Upd own w4 wr)) (fun i _ => kq.length - (intOf i).toNat)
      case atStart => exact ⟨0, T, Nat.zero_le _, rfl, ⟨by simpa using HD.out⟩, HT, HU⟩
      case round =>
        clear HD HT HU T hcell
        obtain ⟨i, T, hi, rfl, HD, HT, HU⟩ := hrel
        by_cases hlt : i < kq.length
        · obtain ⟨ad, e, hx0⟩ := at_str (HRD.out wr HU.out) i hlt
          cases e
          have HTK := Aside0.mk (List.take_succ_eq_append_getElem hlt)
          have HSz := Aside0.mk (HSQ.out _ (List.getElem_mem hlt))
          generalize kq[i] = s at *
          have hsw := HSW.out
          have HBW := Aside0.mk (below_upd HW4.out HU.out (fun j hj => by rcases (HOWN.out j).1 hj with h | h <;> omega))
          have hca2 : a.count s ≤ a.length := List.count_le_length
          have hcb2 : b.count s ≤ b.length := List.count_le_length
          have hRs := HR.out s
          have hTs := HD.out s
          have HCA := Aside0.mk (bag_Count wr oA ga na a s (HA.out.on HBW.out) HSz.out)
          have HCB := Aside0.mk (bag_Count wr oB gb nb b s (HB.out.on HBW.out) HSz.out)
          have HCT := Aside0.mk (bag_Count wr own g _ T s HT.out HSz.out)
          have HTL := HD.out.len HR.out
          have M12 : Aside0 True := ⟨trivial⟩
          have M13 : Aside0 True := ⟨trivial⟩
          obtain ⟨xa, hxa⟩ : ∃ xa : Int, (a.count s : Int) = xa := ⟨_, rfl⟩
          obtain ⟨xb, hxb⟩ : ∃ xb : Int, (b.count s : Int) = xb := ⟨_, rfl⟩
          obtain ⟨xt, hxt⟩ : ∃ xt : Int, (T.count s : Int) = xt := ⟨_, rfl⟩
          obtain ⟨v, hv⟩ : ∃ v : Int, xa - xb = v := ⟨_, rfl⟩
          have hwv : wrap64 (xa - xb) = v := by rw [hv]; unfold wrap64; omega
          rw [hxa] at HCA
          rw [hxb] at HCB
          rw [hxt] at HCT
          have HVN : Aside0 ((a.count s - b.count s : Nat) = v.toNat) := ⟨by omega⟩
          have HVB : Aside0 (-1000000 ≤ v ∧ v ≤ 2000000) := ⟨by omega⟩
          by_cases hadd : 0 < v ∧ xt = 0
          · obtain ⟨hv0, hx00⟩ := hadd
            have hvd : decide (0 < v) = true := decide_eq_true hv0
            have hT0 : T.count s = 0 := by omega
            have HD2 := Aside0.mk (HD.out.add hT0)
            have HADD := Aside0.mk (bag_add wr own g _ (R.length + (Pq ka kb q).length + (i + 1)) T (T ++ List.replicate v.toNat s) s v HT.out HSz.out (by omega) (by omega) (by
              have := HD2.out.len HR.out
              rw [HVN.out] at this
              omega) (by omega) (by omega) (fun x => by
              rw [List.count_append, List.count_replicate]
              by_cases c : x = s
              · subst c; simp; omega
              · rw [if_neg c, if_neg (by simpa using fun e => c e.symm)]; simp) (by simp; omega))
            subst hx00
            clear hT0 hRs hTs hxa hxb hxt hv
            go_wp2_with (first
              | (go_at_call 12; have m12 := M12.out; refine HCA.out.mono ?_; rintro e w5 ⟨rfl, rfl⟩; clear m12 M12)
              | (go_at_call 12; have m13 := M13.out; refine HCB.out.mono ?_; rintro e w5 ⟨rfl, rfl⟩; clear m13 M13)
              | (go_at_call 36; refine (put_sub _ xa xb).mono ?_; rw [hwv]; rintro e w5 ⟨rfl, rfl⟩)
              | (go_at_call 12; refine HCT.out.mono ?_; rintro e w5 ⟨rfl, rfl⟩)
              | (go_at_call 31; refine HADD.out.mono ?_; rintro e w6 ⟨rfl, h1, h2⟩; have H6 := Aside0.mk h1; have H7 := Aside0.mk h2; clear h1 h2))
            go_roundw
            case rel => exact ⟨i + 1, _, by omega, by go_num, ⟨by rw [HTK.out, ← List.append_assoc]; exact HVN.out ▸ HD2.out⟩, ⟨H6.out.far (fun j hj => by
              rcases hj with h | h
              · exact h
              · have := HU.out.size
                exact (HOWN.out j).2 (.inr (by omega))) (fun _ _ _ => rfl)⟩, ⟨HU.out.trans H7.out (fun j hj h => h)⟩⟩
            case measure => simp [intOf]; omega
          · have HD2 : Aside0 (Done (fun s => a.count s - b.count s) (Pq ka kb q ++ kq.take i ++ [s]) T) := ⟨HD.out.skip (by
              by_cases c : s ∈ Pq ka kb q ++ kq.take i
              · exact .inl c
              · rw [if_neg c] at hTs
                exact .inr (by show a.count s - b.count s = 0; omega))⟩
            have HT2 := Aside0.mk (HT.out.mono (show R.length + (Pq ka kb q).length + i ≤ R.length + (Pq ka kb q).length + (i + 1) by omega))
            clear hRs hTs hxa hxb hxt hv
            by_cases hv0 : 0 < v
            · have hvd : decide (0 < v) = true := decide_eq_true hv0
              have hxz : ¬ xt = 0 := fun h => hadd ⟨hv0, h⟩
              clear hadd
              go_wp2_with (first
                | (go_at_call 12; have m12 := M12.out; refine HCA.out.mono ?_; rintro e w5 ⟨rfl, rfl⟩; clear m12 M12)
                | (go_at_call 12; have m13 := M13.out; refine HCB.out.mono ?_; rintro e w5 ⟨rfl, rfl⟩; clear m13 M13)
                | (go_at_call 36; refine (put_sub _ xa xb).mono ?_; rw [hwv]; rintro e w5 ⟨rfl, rfl⟩)
                | (go_at_call 12; refine HCT.out.mono ?_; rintro e w5 ⟨rfl, rfl⟩))
              go_roundw
              case rel => exact ⟨i + 1, T, by omega, by go_num, ⟨by rw [HTK.out, ← List.append_assoc]; exact HD2.out⟩, HT2, HU⟩
              case measure => simp [intOf]; omega
            · have hvd : decide (0 < v) = false := decide_eq_false hv0
              clear hadd
              go_wp2_with (first
                | (go_at_call 12; have m12 := M12.out; refine HCA.out.mono ?_; rintro e w5 ⟨rfl, rfl⟩; clear m12 M12)
                | (go_at_call 12; have m13 := M13.out; refine HCB.out.mono ?_; rintro e w5 ⟨rfl, rfl⟩; clear m13 M13)
                | (go_at_call 36; refine (put_sub _ xa xb).mono ?_; rw [hwv]; rintro e w5 ⟨rfl, rfl⟩)
                | (go_at_call 12; refine HCT.out.mono ?_; rintro e w5 ⟨rfl, rfl⟩))
              go_roundw
              case rel => exact ⟨i + 1, T, by omega, by go_num, ⟨by rw [HTK.out, ← List.append_assoc]; exact HD2.out⟩, HT2, HU⟩
              case measure => simp [intOf]; omega
        · have hil : kq.take i = kq := List.take_of_length_le (by omega)
          have hil2 : i = kq.length := by omega
          rw [hil, ← HPQ.out] at HD
          have HT2 : Aside0 (Bg wr own g (R.length + (Pq ka kb (q + 1)).length) T) := ⟨HT.out.mono (by rw [HPQ.out, List.length_append]; omega)⟩
          clear hil hil2
          go_wp2
          have hq2 := HQ2.out
          go_roundw
          case rel => exact ⟨q + 1, T, by omega, by go_num, HD, HT2, HU⟩
          case measure => simp [intOf]; omega
    · obtain rfl : q = 2 := by omega
      have HPER : Aside0 (T.Perm R) := ⟨List.perm_iff_count.2 (fun s => by
        rw [HD.out s, HR.out s]
        by_cases c : s ∈ Pq ka kb 2
        · rw [if_pos c]
        · rw [if_neg c]
          by_cases c2 : a.count s - b.count s = 0
          · exact c2.symm
          · exact absurd (HEND.out s c2) c)⟩
      have hpl := HPL.out 2
      have hsw := HSW.out
      go_wp2
      go_ret
      exact ⟨g, _, rfl, ((HT.out.far (fun j hj => by rcases (HOWN.out j).1 hj with h | h; exact h.1; omega) (fun _ _ _ => rfl)).bound).congr HPER.out, by omega, below_upd HW4.out HU.out (fun j hj => by rcases (HOWN.out j).1 hj with h | h <;> omega)⟩
theorem bag_Less (W : World) (oA oB : Nat → Prop) (ga gb na nb : Nat) (a b R : List ByteArray) (hA : Bg W oA ga na a) (hB : Bg W oB gb nb b) (hna : na ≤ 1000000) (hnb : nb ≤ 1000000) (hRl : R.length ≤ 1000000) (hR : ∀ s, R.count s = a.count s - b.count s) :
    Calls Try.prog 24 #[.pointer (some ⟨ga, 0, none⟩), .pointer (some ⟨gb, 0, none⟩)] W fun e w' => ∃ (g n : Nat), e = .returned (.pointer (some ⟨g, 0, none⟩)) ∧ Bg w' (fun j => W.heap.size ≤ j ∧ j < w'.heap.size) g n R ∧ n ≤ R.length + a.length + b.length ∧ Below W.heap.size W w' := by
  have HN := Aside0.mk (put_Less W oA oB ga gb na nb a b R hA hB hna hnb hRl hR)
  clear hA hB hR
  go_enter Try.func24, Try.ntmps24
  go_wp2_with (go_at_call 34; refine HN.out.mono ?_; rintro e w1 ⟨g, n, rfl, h1, h2, h3⟩; have HE := Aside0.mk (And.intro h1 (And.intro h2 h3)); clear h1 h2 h3)
  go_ret
  exact ⟨g, n, rfl, HE.out⟩
theorem bag_Same (W : World) (oA oB : Nat → Prop) (ga gb na nb : Nat) (a b : List ByteArray) (hA : Bg W oA ga na a) (hB : Bg W oB gb nb b) :
    Calls Try.prog 26 #[.pointer (some ⟨ga, 0, none⟩), .pointer (some ⟨gb, 0, none⟩)] W fun e w' => e = .returned (.bool (decide (a.length = b.length) && withinB a b)) ∧ Below W.heap.size W w' := by
  have HA := Aside0.mk hA
  have HB := Aside0.mk hB
  have M13 : Aside0 True := ⟨trivial⟩
  clear hA hB
  by_cases hl : a.length = b.length
  · rw [decide_eq_true hl, Bool.true_and]
    have HL := Aside0.mk hl
    obtain ⟨n, hn⟩ : ∃ n, a.length = n := ⟨_, rfl⟩
    clear hl
    go_enter Try.func26, Try.ntmps26
    go_wp2_with (first
      | (go_at_call 13; have m13 := M13.out; refine (bag_Len _ _ ga _ _ HA.out).mono ?_; rw [hn]; rintro e w1 ⟨rfl, rfl⟩; clear m13 M13)
      | (go_at_call 13; refine (bag_Len _ _ gb _ _ HB.out).mono ?_; rw [← HL.out, hn]; rintro e w1 ⟨rfl, rfl⟩)
      | (go_at_call 28; refine (bag_Within _ _ _ ga gb _ _ _ _ HA.out HB.out).mono ?_; rintro e w2 ⟨rfl, h1⟩; have HE := Aside0.mk h1; clear h1))
    go_ret
    exact ⟨rfl, HE.out⟩
  · rw [decide_eq_false hl, Bool.false_and]
    have hli : ¬ (a.length : Int) = (b.length : Int) := by omega
    clear hl
    go_enter Try.func26, Try.ntmps26
    go_wp2_with (first
      | (go_at_call 13; have m13 := M13.out; refine (bag_Len _ _ ga _ _ HA.out).mono ?_; rintro e w1 ⟨rfl, rfl⟩; clear m13 M13)
      | (go_at_call 13; refine (bag_Len _ _ gb _ _ HB.out).mono ?_; rintro e w1 ⟨rfl, rfl⟩))
    go_ret
    exact ⟨rfl, Below.refl _ _⟩

end Go.Proofs.Ytacfemgmnfkjoaa.QBag
