import Derived.Test.YtfppafpkppjmlaaFeedK
/- Feed: walks of the feed's functions, by hand; the conditions stand in each theorem. -/
namespace Go.Proofs.Ytfppafpkppjmlaa.QFeedPlays
open Go.RowKit Go.Proofs.YtfppafpkppjmlaaW.PrintWords Go.Proofs.YtfppafpkppjmlaaW.PrintLast Go.Proofs.YtfppafpkppjmlaaW.PrintMore
attribute [local go_sem] max2_int min2_int max_two min_two max_three min_three max_four min_four
set_option linter.unusedVariables false
set_option linter.unusedSimpArgs false
set_option maxHeartbeats 8000000 in
theorem feed_Gets (W : World) (cap : Int) (A : Option Addr) (c : Nat) (l : List S35) (Aa : Option Addr) (ca : Nat) (asks : List ByteArray) (hr : Kd.C k35 W A l.length l) (hc : l.length ≤ c) (hk : ∀ p ∈ l, p.f0.size ≤ maxLen) (hra : Kd.C Kd.string W Aa asks.length asks) (hca : asks.length ≤ ca) (hka : ∀ s ∈ asks, s.size ≤ maxLen) :
    Calls Try.prog 6 #[.int .i64 cap, .slice A l.length c, .slice Aa asks.length ca] W fun e w' => e = .returned (.bool true) ∧ Below W.heap.size W w' := by
  have hu35 := Try.underlying35
  have HR : Aside0 (∀ w', Below W.heap.size W w' → Kd.C k35 w' A l.length l) := ⟨fun w' hb => Kd.C_below hr hb⟩
  have HRA : Aside0 (∀ w', Below W.heap.size W w' → Kd.C Kd.string w' Aa asks.length asks) := ⟨fun w' hb => Kd.C_below hra hb⟩
  have HK := Aside0.mk hk
  have HKA := Aside0.mk hka
  clear hr hk hra hka
  have M8 : Aside0 True := ⟨trivial⟩
  have M9 : Aside0 True := ⟨trivial⟩
  have M10 : Aside0 True := ⟨trivial⟩
  have M11 : Aside0 True := ⟨trivial⟩
  go_enter Try.func6, Try.ntmps6
  go_wp2_with (first
    | (go_at_call 7; refine (feed_examples W).mono ?_; rintro e w1 ⟨rfl, hb1⟩; have HB1 := Aside0.mk hb1; clear hb1)
    | (go_at_call 8; have m8 := M8.out; refine (feed_New_n _ _).mono ?_; rintro e w2 ⟨g1, rfl, hf1, hb2⟩; have HF1 := Aside0.mk hf1; have HB2 := Aside0.mk (below_on HB1.out hb2); have HS2 := Aside0.mk hb2.size; have HS1 := Aside0.mk HB1.out.size; clear m8 M8 hf1 hb2 HB1)
    | (go_at_call 8; refine (feed_New_n _ _).mono ?_; rintro e w3 ⟨g2, rfl, hf2, hb3⟩; have HF2 := Aside0.mk hf2; have HF1b := Aside0.mk (HF1.out.on hb3); have HB3 := Aside0.mk (below_on HB2.out hb3); have HS3 := Aside0.mk hb3.size; clear hf2 hb3 HB2 HF1))
  go_loopw [10] (fun s10 wr => ∃ m : Nat, m ≤ l.length ∧ m ≤ 100 ∧ s10 = .int .i64 m ∧ Aside0 (Fd wr (fun j => (w1.heap.size ≤ j ∧ j < w2.heap.size) ∨ w3.heap.size ≤ j) g1 (capN cap : Int) m (putsL (capN cap : Int) [] (l.take m))) ∧ Aside0 (Fd wr (fun j => w2.heap.size ≤ j ∧ j < w3.heap.size) g2 (capN cap : Int) 0 []) ∧ Aside0 (Below W.heap.size W wr) ∧ Aside0 (w3.heap.size ≤ wr.heap.size)) (fun i _ => 100 - (intOf i).toNat)
  case atStart => exact ⟨0, Nat.zero_le _, Nat.zero_le _, rfl, ⟨HF1b.out.far (fun j hj => .inl hj) (fun _ _ _ => rfl)⟩, HF2, HB3, ⟨Nat.le_refl _⟩⟩
  case round =>
    obtain ⟨m, hm, hm100, rfl, HA1, HA2, HB, HS⟩ := hrel
    by_cases hlt : m < l.length ∧ m < 100
    · obtain ⟨hlt1, hlt2⟩ := hlt
      have HX := Aside0.mk (at_35 (HR.out wr HB.out) m hlt1)
      obtain ⟨ad, e, hx0, hx1⟩ := HX.out
      cases e
      have HP := Aside0.mk (List.getElem_mem hlt1)
      have HT := Aside0.mk (puts_take (capN cap : Int) l m hlt1)
      generalize l[m] = p at *
      clear HX
      have HN : Aside0 (∀ wz, Below wr.heap.size wr wz → Calls Try.prog 15 #[.pointer (some ⟨g1, 0, none⟩), .string p.f0, .int .i64 p.f1] wz fun e w' => e = .returned (.tuple #[]) ∧ Fd w' (fun j => (w1.heap.size ≤ j ∧ j < w2.heap.size) ∨ w3.heap.size ≤ j) g1 (capN cap : Int) (m + 1) (putsL (capN cap : Int) [] (l.take (m + 1))) ∧ (Fd w' (fun j => w2.heap.size ≤ j ∧ j < w3.heap.size) g2 (capN cap : Int) 0 [] ∧ Below W.heap.size W w') ∧ w3.heap.size ≤ w'.heap.size) := ⟨fun wz hb => by
        have hs := HS.out
        have hs2 := hb.size
        refine (feed_Put wz _ g1 _ m _ p.f0 p.f1 (HA1.out.on hb) (HK.out p HP.out) (by unfold maxLen; omega)).mono ?_
        rintro e w' ⟨rfl, h1, h2⟩
        refine ⟨rfl, ?_, ⟨?_, ?_⟩, ?_⟩
        · rw [HT.out]
          exact h1.far (fun j hj => by rcases hj with h | h; exact h; exact .inr (by omega)) (fun _ _ _ => rfl)
        · exact (HA2.out.on hb).by h2 (fun j hj _ => by omega)
        · exact below_upd (below_on HB.out hb) h2 (fun j hj => by have := HS1.out; have := HS2.out; have := HS3.out; omega)
        · have := h2.size; omega⟩
      go_wp2
      refine start_ (n := 12) (S := fun w' => w'.cell? (ad.add (m * 2)) = some (.string p.f0) ∧ w'.cell? ⟨(ad.add (m * 2)).block, (ad.add (m * 2)).off + 1, none⟩ = some (.int .i64 p.f1)) (ds := [11]) #[false, false, false, false, false, false, false, false, false, false, false, false] (by kernel_rfl) rfl rfl ⟨(show wr.drew.cell? _ = _ from hx0), (show wr.drew.cell? _ = _ from hx1)⟩ (fun hHeld => ?_)
      refine pure_ (i := 0) (N := some 35) (v := ?_) (a' := ?_) #[true, false, false, false, false, false, false, false, false, false, false, false] rfl rfl (by kernel_rfl) (fun _ _ _ h => h) (Or.inl ⟨by rfl, ?_⟩) ?_ ?_
      rotate_left
      · intro w'
        go_simp
        with_reducible rfl
      rotate_left
      · simp only [Act.put, List.setIfInBounds_toArray, List.set_cons_zero, List.set_cons_succ, i64_w, i32_w]
        rfl
      refine pure_ (i := 1) (N := some 36) (v := ?_) (a' := ?_) #[true, true, false, false, false, false, false, false, false, false, false, false] rfl rfl (by kernel_rfl) (fun _ _ _ h => h) (Or.inl ⟨by rfl, ?_⟩) ?_ ?_
      rotate_left
      · intro w'
        go_simp
        with_reducible rfl
      rotate_left
      · simp only [Act.put, List.setIfInBounds_toArray, List.set_cons_zero, List.set_cons_succ, i64_w, i32_w]
        rfl
      refine pure_ (i := 2) (N := some 37) (v := ?_) (a' := ?_) #[true, true, true, false, false, false, false, false, false, false, false, false] rfl rfl (by kernel_rfl) (fun _ _ _ h => h) (Or.inl ⟨by rfl, ?_⟩) ?_ ?_
      rotate_left
      · intro w'
        go_simp
        with_reducible rfl
      rotate_left
      · simp only [Act.put, List.setIfInBounds_toArray, List.set_cons_zero, List.set_cons_succ, i64_w, i32_w]
        rfl
      refine pure_ (i := 3) (N := some 38) (v := ?_) (a' := ?_) #[true, true, true, true, false, false, false, false, false, false, false, false] rfl rfl (by kernel_rfl) (fun _ _ _ h => h) (Or.inl ⟨by rfl, ?_⟩) ?_ ?_
      rotate_left
      · intro w'
        go_simp
        with_reducible rfl
      rotate_left
      · simp only [Act.put, List.setIfInBounds_toArray, List.set_cons_zero, List.set_cons_succ, i64_w, i32_w]
        rfl
      refine pure_ (i := 4) (N := some 39) (v := ?_) (a' := ?_) #[true, true, true, true, true, false, false, false, false, false, false, false] rfl rfl (by kernel_rfl) (fun _ _ _ h => h) (Or.inl ⟨by rfl, ?_⟩) ?_ ?_
      rotate_left
      · intro w'
        go_simp
        with_reducible rfl
      rotate_left
      · simp only [Act.put, List.setIfInBounds_toArray, List.set_cons_zero, List.set_cons_succ, i64_w, i32_w]
        rfl
      refine pure_ (i := 6) (N := some 41) (v := ?_) (a' := ?_) #[true, true, true, true, true, false, true, false, false, false, false, false] rfl rfl (by kernel_rfl) (fun _ _ _ h => h) (Or.inl ⟨by rfl, ?_⟩) ?_ ?_
      rotate_left
      · intro w'
        go_simp
        with_reducible rfl
      rotate_left
      · simp only [Act.put, List.setIfInBounds_toArray, List.set_cons_zero, List.set_cons_succ, i64_w, i32_w]
        rfl
      refine pure_ (i := 7) (N := some 42) (v := ?_) (a' := ?_) #[true, true, true, true, true, false, true, true, false, false, false, false] rfl rfl (by kernel_rfl) (fun _ _ _ h => h) (Or.inl ⟨by rfl, ?_⟩) ?_ ?_
      rotate_left
      · intro w'
        go_simp
        with_reducible rfl
      rotate_left
      · simp only [Act.put, List.setIfInBounds_toArray, List.set_cons_zero, List.set_cons_succ, i64_w, i32_w]
        rfl
      refine pure_ (i := 8) (N := some 43) (v := ?_) (a' := ?_) #[true, true, true, true, true, false, true, true, true, false, false, false] rfl rfl (by kernel_rfl) (fun _ _ _ h => h) (Or.inl ⟨by rfl, ?_⟩) ?_ ?_
      rotate_left
      · intro w'
        go_simp
        with_reducible rfl
      rotate_left
      · simp only [Act.put, List.setIfInBounds_toArray, List.set_cons_zero, List.set_cons_succ, i64_w, i32_w]
        rfl
      refine pure_ (i := 9) (N := some 44) (v := ?_) (a' := ?_) #[true, true, true, true, true, false, true, true, true, true, false, false] rfl rfl (by kernel_rfl) (fun _ _ _ h => h) (Or.inl ⟨by rfl, ?_⟩) ?_ ?_
      rotate_left
      · intro w'
        go_simp
        with_reducible rfl
      rotate_left
      · simp only [Act.put, List.setIfInBounds_toArray, List.set_cons_zero, List.set_cons_succ, i64_w, i32_w]
        rfl
      refine take_ (i := 5) (N := some 40) (v := ?_) (a' := ?_) #[true, true, true, true, true, true, true, true, true, true, false, false] rfl rfl (by kernel_rfl) (fun _ _ _ h => h) (Or.inl ⟨by rfl, ?_⟩) hHeld ?_ ?_
      rotate_left
      · rintro w' ⟨s0, s1⟩
        go_simp
        with_reducible rfl
      rotate_left
      · simp only [Act.put, List.setIfInBounds_toArray, List.set_cons_zero, List.set_cons_succ, i64_w, i32_w]
        rfl
      refine take_ (i := 10) (N := some 45) (v := ?_) (a' := ?_) #[true, true, true, true, true, true, true, true, true, true, true, false] rfl rfl (by kernel_rfl) (fun _ _ _ h => h) (Or.inl ⟨by rfl, ?_⟩) hHeld ?_ ?_
      rotate_left
      · rintro w' ⟨s0, s1⟩
        go_simp
        with_reducible rfl
      rotate_left
      · simp only [Act.put, List.setIfInBounds_toArray, List.set_cons_zero, List.set_cons_succ, i64_w, i32_w]
        rfl
      refine last_ (i := 11) (N := some 46) #[true, true, true, true, true, true, true, true, true, true, true, true] rfl rfl (by kernel_rfl) (by decide) (fun K hK => ?_)
      refine goes_ Try.func15 (by kernel_rfl) rfl #[.pointer (some ⟨g1, 0, none⟩), .string p.f0, .int .i64 p.f1] (by rfl) rfl rfl (by simp only [List.map_toArray, List.map_cons, List.map_nil]; rfl) ?_
      with_reducible refine (HN.out _ (below_drew (Below.refl _ _))).mono ?_
      rintro e w4 ⟨rfl, hf4, hu4, hs4⟩
      refine ⟨_, rfl, ?_⟩
      refine hK.out _ _ ?_
      clear hK K
      refine norm_ (a' := ?_) ?_ ?_
      rotate_left
      · show Act.put _ (some 46) _ = _
        simp only [Act.put, List.setIfInBounds_toArray, List.set_cons_zero, List.set_cons_succ, i64_w, i32_w]
        rfl
      refine done_ (by kernel_rfl) ?_
      have HF4 := Aside0.mk hf4
      have HG4 := Aside0.mk hu4.1
      have HB4 := Aside0.mk hu4.2
      have HS4 := Aside0.mk hs4
      clear hf4 hu4 hs4 hx0 hx1 HA1 HA2 HB HS HN HT
      obtain ⟨P, hPG⟩ : ∃ P, putsL (capN cap : Int) [] (l.take (m + 1)) = P := ⟨_, rfl⟩
      rw [hPG] at HF4
      have HPG := Aside0.mk hPG
      clear hPG
      by_cases hask : m < asks.length
      · have HX := Aside0.mk (at_str (HRA.out w4 HB4.out) m hask)
        obtain ⟨ad2, e, hx2⟩ := HX.out
        cases e
        have HP2 := Aside0.mk (HKA.out _ (List.getElem_mem hask))
        generalize asks[m] = q at *
        clear HX
        go_wp2_with (first
          | (go_at_call 10; have m10 := M10.out; refine (feed_All _ _ g1 _ _ _ HF4.out).mono ?_; rintro e w5 ⟨A5, c5, rfl, hc5, hq5, hb5⟩; have HC5 := Aside0.mk hc5; have HQ5 := Aside0.mk (Kd.Q_reads' hq5).2.2; have HF5 := Aside0.mk (HF4.out.on hb5); have HG5 := Aside0.mk (HG4.out.on hb5); have HB5 := Aside0.mk (below_on HB4.out hb5); have HS5 := Aside0.mk (Nat.le_trans HS4.out hb5.size); have hx3 := pw_cell_below hb5 hx2; clear m10 M10 hc5 hq5 hb5 HF4 HG4 HB4 HS4 hx2)
          | (go_at_call 16; refine (feed_Get _ _ g1 _ _ _ q HF5.out HP2.out).mono ?_; rintro e w ⟨rfl, rfl⟩)
          | (go_at_call 10; refine (feed_All _ _ g1 _ _ _ HF5.out).mono ?_; rintro e w6 ⟨A6, c6, rfl, hc6, hq6, hb6⟩; have HC6 := Aside0.mk hc6; have HQ6 := Aside0.mk (Kd.Q_reads' hq6).2.2; have HQ5b := Aside0.mk (Kd.C_below HQ5.out hb6); have HF6 := Aside0.mk (HF5.out.on hb6); have HG6 := Aside0.mk (HG5.out.on hb6); have HB6 := Aside0.mk (below_on HB5.out hb6); have HS6 := Aside0.mk (Nat.le_trans HS5.out hb6.size); clear hc6 hq6 hb6 HF5 HG5 HB5 HS5 HQ5)
          | (go_at_call 11; refine (known_same _ _ _ _ P.length P _ rfl (by have := HF6.out.le50; omega) HQ5b.out HC5.out HQ6.out HC6.out).mono ?_; rintro e w7 ⟨rfl, hb7⟩; have HF7 := Aside0.mk (HF6.out.on hb7); have HG7 := Aside0.mk (HG6.out.on hb7); have HB7 := Aside0.mk (below_on HB6.out hb7); have HS7 := Aside0.mk (Nat.le_trans HS6.out hb7.size); clear hb7 HF6 HG6 HB6 HS6))
        go_roundw
        case rel => exact ⟨m + 1, by omega, by omega, by go_num, by rw [HPG.out]; exact HF7, HG7, HB7, HS7⟩
        case measure => simp [intOf]; omega
      · go_wp2
        go_roundw
        case rel => exact ⟨m + 1, by omega, by omega, by go_num, by rw [HPG.out]; exact HF4, HG4, HB4, HS4⟩
        case measure => simp [intOf]; omega
    · have hpp := puts_puts (capN cap) (l.take m)
      have HPP := Aside0.mk hpp
      have HL := Aside0.mk HA1.out.le50
      have HSz : Aside0 (∀ p ∈ putsL (capN cap : Int) [] (l.take m), p.f0.size ≤ maxLen) := ⟨by
        obtain ⟨_, _, h, _⟩ := HA1.out
        exact fun p hp => h _ (List.mem_map.2 ⟨p, hp, rfl⟩)⟩
      clear hpp
      generalize putsL (capN cap : Int) [] (l.take m) = P at *
      by_cases h1 : m < l.length
      · have h2 : ¬ m < 100 := fun h => hlt ⟨h1, h⟩
        clear hlt
        go_wp2_with (first
          | (go_at_call 10; have m10 := M10.out; refine (feed_All _ _ g1 _ _ _ HA1.out).mono ?_; rintro e w5 ⟨A5, c5, rfl, hc5, hq5, hb5⟩; have HC5 := Aside0.mk hc5; have HQ5 := Aside0.mk hq5; have HF5 := Aside0.mk (HA1.out.on hb5); have HG5 := Aside0.mk (HA2.out.on hb5); have HB5 := Aside0.mk (below_on HB.out hb5); have HS5 := Aside0.mk hb5.size; clear m10 M10 hc5 hq5 hb5 HA1 HA2 HB)
          | (go_at_call 9; refine (feed_Load_n _ _ g2 _ 0 [] A5 c5 _ P rfl HG5.out (fun w' hu => (Kd.Q_reads' (Q_upd HQ5.out hu (fun j h1 h2 => by have := HS.out; omega))).2.2) HC5.out HSz.out (by have := HL.out; unfold maxLen; omega)).mono ?_; rintro e w6 ⟨rfl, hf6, hu6⟩; rw [HPP.out] at hf6; have HG6 := Aside0.mk hf6; have HF6 := Aside0.mk (HF5.out.bound.by hu6 (fun j hj _ => by omega)); have HB6 := Aside0.mk (below_upd HB5.out hu6 (fun j hj => by have := HS1.out; have := HS2.out; omega)); clear hf6 hu6 HG5 HF5 HB5)
          | (go_at_call 10; have m11 := M11.out; refine (feed_All _ _ g1 _ _ _ HF6.out).mono ?_; rintro e w7 ⟨A7, c7, rfl, hc7, hq7, hb7⟩; have HC7 := Aside0.mk hc7; have HQ7 := Aside0.mk (Kd.Q_reads' hq7).2.2; have HG7 := Aside0.mk (HG6.out.on hb7); have HB7 := Aside0.mk (below_on HB6.out hb7); clear m11 M11 hc7 hq7 hb7 HF6 HG6 HB6)
          | (go_at_call 10; refine (feed_All _ _ g2 _ _ _ HG7.out).mono ?_; rintro e w8 ⟨A8, c8, rfl, hc8, hq8, hb8⟩; have HC8 := Aside0.mk hc8; have HQ8 := Aside0.mk (Kd.Q_reads' hq8).2.2; have HQ7b := Aside0.mk (Kd.C_below HQ7.out hb8); have HB8 := Aside0.mk (below_on HB7.out hb8); clear hc8 hq8 hb8 HG7 HQ7 HB7)
          | (go_at_call 11; refine (known_same _ _ _ _ P.length P _ rfl (by have := HL.out; omega) HQ7b.out HC7.out HQ8.out HC8.out).mono ?_; rintro e w9 ⟨rfl, hb9⟩; have HB9 := Aside0.mk (below_on HB8.out hb9); clear hb9 HB8))
        go_ret
        exact ⟨rfl, HB9.out⟩
      · clear hlt
        go_wp2_with (first
          | (go_at_call 10; have m10 := M10.out; refine (feed_All _ _ g1 _ _ _ HA1.out).mono ?_; rintro e w5 ⟨A5, c5, rfl, hc5, hq5, hb5⟩; have HC5 := Aside0.mk hc5; have HQ5 := Aside0.mk hq5; have HF5 := Aside0.mk (HA1.out.on hb5); have HG5 := Aside0.mk (HA2.out.on hb5); have HB5 := Aside0.mk (below_on HB.out hb5); have HS5 := Aside0.mk hb5.size; clear m10 M10 hc5 hq5 hb5 HA1 HA2 HB)
          | (go_at_call 9; refine (feed_Load_n _ _ g2 _ 0 [] A5 c5 _ P rfl HG5.out (fun w' hu => (Kd.Q_reads' (Q_upd HQ5.out hu (fun j h1 h2 => by have := HS.out; omega))).2.2) HC5.out HSz.out (by have := HL.out; unfold maxLen; omega)).mono ?_; rintro e w6 ⟨rfl, hf6, hu6⟩; rw [HPP.out] at hf6; have HG6 := Aside0.mk hf6; have HF6 := Aside0.mk (HF5.out.bound.by hu6 (fun j hj _ => by omega)); have HB6 := Aside0.mk (below_upd HB5.out hu6 (fun j hj => by have := HS1.out; have := HS2.out; omega)); clear hf6 hu6 HG5 HF5 HB5)
          | (go_at_call 10; have m11 := M11.out; refine (feed_All _ _ g1 _ _ _ HF6.out).mono ?_; rintro e w7 ⟨A7, c7, rfl, hc7, hq7, hb7⟩; have HC7 := Aside0.mk hc7; have HQ7 := Aside0.mk (Kd.Q_reads' hq7).2.2; have HG7 := Aside0.mk (HG6.out.on hb7); have HB7 := Aside0.mk (below_on HB6.out hb7); clear m11 M11 hc7 hq7 hb7 HF6 HG6 HB6)
          | (go_at_call 10; refine (feed_All _ _ g2 _ _ _ HG7.out).mono ?_; rintro e w8 ⟨A8, c8, rfl, hc8, hq8, hb8⟩; have HC8 := Aside0.mk hc8; have HQ8 := Aside0.mk (Kd.Q_reads' hq8).2.2; have HQ7b := Aside0.mk (Kd.C_below HQ7.out hb8); have HB8 := Aside0.mk (below_on HB7.out hb8); clear hc8 hq8 hb8 HG7 HQ7 HB7)
          | (go_at_call 11; refine (known_same _ _ _ _ P.length P _ rfl (by have := HL.out; omega) HQ7b.out HC7.out HQ8.out HC8.out).mono ?_; rintro e w9 ⟨rfl, hb9⟩; have HB9 := Aside0.mk (below_on HB8.out hb9); clear hb9 HB8))
        go_ret
        exact ⟨rfl, HB9.out⟩

end Go.Proofs.Ytfppafpkppjmlaa.QFeedPlays
