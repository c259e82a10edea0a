import Derived.Test.YtacfemgmnfkjoaaBagI
/- Bag: walks of the bag's functions, by hand; the conditions stand in each theorem. -/
namespace Go.Proofs.Ytacfemgmnfkjoaa.QBag
open Go.RowKit Go.Proofs.YtacfemgmnfkjoaaW.PrintWords Go.Proofs.YtacfemgmnfkjoaaW.PrintLast Go.Proofs.YtacfemgmnfkjoaaW.PrintMore
attribute [local go_sem] max2_int min2_int max_two min_two max_three min_three max_four min_four
set_option linter.unusedVariables false
set_option linter.unusedSimpArgs false
theorem erase_last (l : List ByteArray) (x : ByteArray) : ((l ++ [x]).erase x).Perm l := by
  rw [List.perm_iff_count]
  intro s
  rw [List.count_erase, List.count_append, List.count_singleton]
  split <;> omega
theorem Bg.off {w w' : World} {own : Nat → Prop} {b g n : Nat} {l : List ByteArray} (h : Bg w' (fun j => own j ∨ w.heap.size ≤ j) g n l) (ho : ∀ j, own j → b ≤ j) (hb : b ≤ w.heap.size) : Bg w' (fun j => b ≤ j) g n l := h.far (fun j hj => by rcases hj with h | h; exact ho j h; exact Nat.le_trans hb h) (fun _ _ _ => rfl)
/- A text put in, taken out, where all that is of the bag lies from b on. -/
theorem bag_Add_b (W0 w : World) (b g n : Nat) (l : List ByteArray) (k : ByteArray) (hb : W0.heap.size ≤ b) (hbw : b ≤ w.heap.size) (hB : Below W0.heap.size W0 w) (h : Bg w (fun j => b ≤ j) g n l) (hk : k.size ≤ maxLen) (hn : n < 4611686018427387904) :
    Calls Try.prog 17 #[.pointer (some ⟨g, 0, none⟩), .string k] w fun e w' => e = .returned (.tuple #[]) ∧ Bg w' (fun j => b ≤ j) g (n + 1) (l ++ [k]) ∧ Below W0.heap.size W0 w' ∧ b ≤ w'.heap.size := by
  refine (bag_Add w _ g n l k h hk hn).mono ?_
  rintro e w' ⟨rfl, h1, h2⟩
  exact ⟨rfl, h1.off (fun _ h => h) hbw, below_upd hB h2 (fun j hj => Nat.le_trans hb hj), Nat.le_trans hbw h2.size⟩
theorem bag_Take_b (W0 w : World) (b g n : Nat) (l l' : List ByteArray) (k : ByteArray) (hp : (l.erase k).Perm l') (hb : W0.heap.size ≤ b) (hbw : b ≤ w.heap.size) (hB : Below W0.heap.size W0 w) (h : Bg w (fun j => b ≤ j) g n l) (hk : k.size ≤ maxLen) (hn : n < 4611686018427387904) :
    Calls Try.prog 15 #[.pointer (some ⟨g, 0, none⟩), .string k] w fun e w' => e = .returned (.bool (decide (0 < l.count k))) ∧ Bg w' (fun j => b ≤ j) g (n + 1) l' ∧ Below W0.heap.size W0 w' ∧ b ≤ w'.heap.size := by
  refine (bag_Take w _ g n l k h hk hn).mono ?_
  rintro e w' ⟨rfl, h1, h2⟩
  exact ⟨rfl, (h1.off (fun _ h => h) hbw).congr hp, below_upd hB h2 (fun j hj => Nat.le_trans hb hj), Nat.le_trans hbw h2.size⟩
set_option maxHeartbeats 8000000 in
theorem bag_OutLaw (W : World) (A : Option Addr) (c : Nat) (l : List ByteArray) (o : ByteArray) (hr : Kd.C Kd.string W A l.length l) (hc : l.length ≤ c) (hk : ∀ s ∈ l, s.size ≤ maxLen) (ho : o.size ≤ maxLen) :
    Calls Try.prog 5 #[.slice A l.length c, .string o] W fun e w' => e = .returned (.bool true) ∧ Below W.heap.size W w' := by
  have HR : Aside0 (∀ w', Below W.heap.size W w' → Kd.C Kd.string w' A (nD l) (l.take (nD l))) := ⟨fun w' hb => C_nD (Kd.C_below hr hb)⟩
  have HLE := Aside0.mk (len_nD l)
  have hif := nD_if l
  have hn200 : nD l ≤ 200 := by unfold nD; omega
  have hnc : nD l ≤ c := by unfold nD; omega
  have HK : Aside0 (∀ s ∈ l.take (nD l), s.size ≤ maxLen) := ⟨fun s hs => hk s (List.mem_of_mem_take hs)⟩
  have HO := Aside0.mk ho
  clear hr hk ho
  generalize hlt : l.take (nD l) = ld at *
  clear hlt
  generalize nD l = nl at *
  have hle := HLE.out
  go_enter Try.func5, Try.ntmps5
  go_wp2_with (first
    | (go_at_call 9; refine (bag_examples W).mono ?_; rintro e w1 ⟨rfl, hb1⟩; have HB1 := Aside0.mk hb1; clear hb1)
    | (go_at_call 21; refine (bag_New w1).mono ?_; rintro e w2 ⟨g, rfl, hg, hb⟩; have HG := Aside0.mk hg; have HB2 := Aside0.mk (below_on HB1.out hb); have HS1 := Aside0.mk HB1.out.size; have HS2 := Aside0.mk hb.size; clear hg hb HB1))
  go_loopw [7] (fun s7 wr => ∃ m : Nat, m ≤ nl ∧ s7 = .int .i64 m ∧ Aside0 (Bg wr (fun j => w1.heap.size ≤ j) g m (ld.take m)) ∧ Aside0 (Below W.heap.size W wr) ∧ Aside0 (w1.heap.size ≤ wr.heap.size)) (fun i _ => nl - (intOf i).toNat)
  case atStart => exact ⟨0, Nat.zero_le _, rfl, HG, HB2, HS2⟩
  case round =>
    obtain ⟨m, hm, rfl, HA, HB, HS⟩ := hrel
    by_cases hlt : m < nl
    · obtain ⟨ad, e, hx0⟩ := at_str (HR.out wr HB.out) m (by omega)
      cases e
      have hml : m < ld.length := by omega
      have HT := Aside0.mk (List.take_succ_eq_append_getElem hml)
      have HSz := Aside0.mk (HK.out _ (List.getElem_mem hml))
      generalize ld[m] = s at *
      have HN := Aside0.mk (bag_Add_b W wr w1.heap.size g m (ld.take m) s HS1.out HS.out HB.out HA.out HSz.out (by omega))
      rw [← HT.out] at HN
      go_wp2_with (go_at_call 17; refine HN.out.mono ?_; rintro e w2 ⟨rfl, h1, h2, h3⟩; have H3 := Aside0.mk h1; have H4 := Aside0.mk h2; have H5 := Aside0.mk h3; clear h1 h2 h3)
      go_roundw
      case rel => exact ⟨m + 1, by omega, by go_num, H3, H4, H5⟩
      case measure => simp [intOf]; omega
    · have hml : m = nl := by omega
      subst hml
      have HA2 := HA.out
      rw [List.take_of_length_le (by omega)] at HA2
      have HA3 := Aside0.mk HA2
      have HLn := bag_Len _ _ g _ _ HA2
      rw [hle] at HLn
      have HLN := Aside0.mk HLn
      clear HA2 HA HLn
      go_wp2_with (go_at_call 13; refine HLN.out.mono ?_; rintro e w9 ⟨rfl, rfl⟩)
      go_loopw [8] (fun s8 wr => ∃ (k : Nat) (iv : Int) (ni : Nat), k ≤ m ∧ s8 = .int .i64 iv ∧ iv = (k : Int) - 1 ∧ ni + k = 2 * m ∧ Aside0 (Bg wr (fun j => w1.heap.size ≤ j) g ni (ld.take k)) ∧ Aside0 (Below W.heap.size W wr) ∧ Aside0 (w1.heap.size ≤ wr.heap.size)) (fun i _ => (intOf i + 1).toNat)
      case atStart => exact ⟨m, (m : Int) - 1, m, Nat.le_refl _, by go_num, rfl, by omega, by rw [List.take_of_length_le (by omega)]; exact HA3, HB, HS⟩
      case round =>
        clear HA3 HB HS HLN
        obtain ⟨k, iv, ni, hk, rfl, hiv, hni, HA, HB, HS⟩ := hrel
        by_cases hk0 : 0 < k
        · obtain ⟨k', rfl⟩ : ∃ k', k = k' + 1 := ⟨k - 1, by omega⟩
          obtain rfl : iv = (k' : Int) := by omega
          clear hiv
          have hkl : k' < ld.length := by omega
          obtain ⟨ad, e, hx0⟩ := at_str (HR.out wr HB.out) k' hkl
          cases e
          have HXR : Aside0 (∀ w', Below W.heap.size W w' → w'.cell? (ad.add k') = some (.string ld[k'])) := ⟨fun w' hb => by
            obtain ⟨ad', e, h0⟩ := at_str (HR.out w' hb) k' hkl
            cases e
            exact h0⟩
          have HT := Aside0.mk (List.take_succ_eq_append_getElem hkl)
          have HSz := Aside0.mk (HK.out _ (List.getElem_mem hkl))
          have hlk : (ld.take k').length = k' := by rw [List.length_take]; omega
          have HLK := Aside0.mk hlk
          clear hlk
          generalize ld[k'] = s at *
          have hcnt : (ld.take (k' + 1)).count s = (ld.take k').count s + 1 := by rw [HT.out, List.count_append, List.count_singleton]; simp
          have hcle : (ld.take k').count s ≤ (ld.take k').length := List.count_le_length
          rw [HLK.out] at hcle
          have HC1 := bag_Count _ _ g _ _ s HA.out HSz.out
          rw [hcnt] at HC1
          have HC := Aside0.mk HC1
          have HTk1 := bag_Take_b W wr w1.heap.size g ni _ (ld.take k') s (by rw [HT.out]; exact erase_last _ _) HS1.out HS.out HB.out HA.out HSz.out (by omega)
          rw [hcnt, show decide (0 < (ld.take k').count s + 1) = true from decide_eq_true (by omega)] at HTk1
          have HTk := Aside0.mk HTk1
          clear HC1 HTk1 hcnt
          have M12 : Aside0 True := ⟨trivial⟩
          generalize hcv : (ld.take k').count s = cv at *
          have hw1 : wrap64 (((cv + 1 : Nat) : Int) - 1) = (cv : Int) := by unfold wrap64; omega
          go_wp2_with (first
            | (go_at_call 12; have m12 := M12.out; refine HC.out.mono ?_; rintro e w5 ⟨rfl, rfl⟩; clear m12 M12)
            | (go_at_call 15; refine HTk.out.mono ?_; rintro e w6 ⟨rfl, h1, h2, h3⟩; have hx1 := HXR.out _ h2; have H3 := Aside0.mk h1; have H4 := Aside0.mk h2; have H5 := Aside0.mk h3; clear h1 h2 h3)
            | (go_at_call 12; refine (bag_Count _ _ g _ _ s H3.out HSz.out).mono ?_; rw [hcv]; rintro e w7 ⟨rfl, rfl⟩)
            | (go_at_call 13; refine (bag_Len _ _ g _ _ H3.out).mono ?_; rw [HLK.out]; rintro e w8 ⟨rfl, rfl⟩))
          go_roundw
          case rel => exact ⟨k', (k' : Int) - 1, ni + 1, by omega, by go_num, rfl, by omega, H3, H4, H5⟩
          case measure => first | (simp [intOf]; done) | (simp [intOf]; omega)
        · obtain rfl : k = 0 := by omega
          obtain rfl : iv = -1 := by omega
          clear hiv
          rw [List.take_zero] at HA
          go_wp2_with (first
            | (go_at_call 13; refine (bag_Len _ _ g _ _ HA.out).mono ?_; rintro e w5 ⟨rfl, rfl⟩)
            | (go_at_call 11; refine (bag_Kinds _ _ g _ _ HA.out (by omega)).mono ?_; rintro e w6 ⟨A6, c6, ks, rfl, hc6, hC6, hK6, hb6⟩; obtain rfl := kinds_unique hK6 (kinds_nil rfl) (fun _ => Iff.rfl); have H3 := Aside0.mk (HA.out.on hb6); have H4 := Aside0.mk (below_on HB.out hb6); have H5 := Aside0.mk (Nat.le_trans HS.out hb6.size); clear hC6 hK6 hb6 HA HB HS)
            | (go_at_call 15; refine (bag_Take_b W _ w1.heap.size g ni [] [] o (by simp) HS1.out H5.out H4.out H3.out HO.out (by omega)).mono ?_; rw [show decide (0 < ([] : List ByteArray).count o) = false by simp]; rintro e w7 ⟨rfl, h1, h2, h3⟩; have H6 := Aside0.mk h1; have H7 := Aside0.mk h2; clear h1 h2 h3 H3 H4 H5)
            | (go_at_call 12; refine (bag_Count _ _ g _ _ o H6.out HO.out).mono ?_; rintro e w8 ⟨rfl, rfl⟩))
          go_ret
          exact ⟨rfl, H7.out⟩

end Go.Proofs.Ytacfemgmnfkjoaa.QBag
