import Derived.Test.YtfppafpkppjmlaaFeedI
/- Feed: walks of the feed's functions, by hand; the conditions stand in each theorem. -/
namespace Go.Proofs.Ytfppafpkppjmlaa.QFeedPlays
open Go.RowKit Go.Proofs.YtfppafpkppjmlaaW.PrintWords Go.Proofs.YtfppafpkppjmlaaW.PrintLast Go.Proofs.YtfppafpkppjmlaaW.PrintMore
attribute [local go_sem] max2_int min2_int max_two min_two max_three min_three max_four min_four
set_option linter.unusedVariables false
set_option linter.unusedSimpArgs false
theorem below_upd {own : Nat → Prop} {W w w' : World} (h : Below W.heap.size W w) (h2 : Upd own w w') (ho : ∀ j, own j → W.heap.size ≤ j) : Below W.heap.size W w' := h.trans (h2.below h.size ho)
theorem below_on {W w w' : World} (h : Below W.heap.size W w) (h2 : Below w.heap.size w w') : Below W.heap.size W w' := h.trans (h2.mono h.size)
theorem Fd.on {w w1 : World} {own : Nat → Prop} {g : Nat} {most : Int} {n : Nat} {L : List S35} (h : Fd w own g most n L) (hb : Below w.heap.size w w1) : Fd w1 own g most n L := h.far (fun _ h => h) (fun j _ hlt => hb.block j hlt)
theorem Fd.by {w w1 : World} {own own2 : Nat → Prop} {g : Nat} {most : Int} {n : Nat} {L : List S35} (h : Fd w own g most n L) (hu : Upd own2 w w1) (ho : ∀ j, own j → j < w.heap.size → ¬ own2 j) : Fd w1 own g most n L := h.far (fun _ h => h) (fun j hj hlt => hu.far j hlt (ho j hj hlt))
def nC (l : List S35) : Nat := min l.length 100
theorem nC_if (l : List S35) : (if (100 : Int) < (l.length : Int) then (100 : Int) else (l.length : Int)) = (nC l : Int) := by
  unfold nC
  omega
set_option maxHeartbeats 8000000 in
theorem feed_Room (W : World) (one two : Int) (A : Option Addr) (c : Nat) (l : List S35) (hr : Kd.C k35 W A l.length l) (hc : l.length ≤ c) (hk : ∀ p ∈ l, p.f0.size ≤ maxLen) :
    Calls Try.prog 3 #[.int .i64 one, .int .i64 two, .slice A l.length c] W fun e w' => e = .returned (.bool true) ∧ Below W.heap.size W w' := by
  have HR : Aside0 (∀ w', Below W.heap.size W w' → Kd.C k35 w' A (nC l) (l.take (nC l))) := ⟨fun w' hb => by
    have h := Kd.C_take (Kd.C_below hr hb) (m := nC l) (by unfold nC; omega)
    have e : (l.take (nC l)).length = nC l := by rw [List.length_take]; unfold nC; omega
    rw [e] at h
    exact h⟩
  have hle : (l.take (nC l)).length = nC l := by rw [List.length_take]; unfold nC; omega
  have HLE := Aside0.mk hle
  have hif := nC_if l
  have hn100 : nC l ≤ 100 := by unfold nC; omega
  have hnc : nC l ≤ c := by unfold nC; omega
  have HK : Aside0 (∀ p ∈ l.take (nC l), p.f0.size ≤ maxLen) := ⟨fun p hp => hk p (List.mem_of_mem_take hp)⟩
  clear hr hk hle
  generalize hlt : l.take (nC l) = l1 at *
  clear hlt
  have M8 : Aside0 True := ⟨trivial⟩
  have M9 : Aside0 True := ⟨trivial⟩
  have M10 : Aside0 True := ⟨trivial⟩
  generalize nC l = nl at *
  by_cases hot : one > two
  · have hb : decide (two < one) = true := decide_eq_true hot
    obtain ⟨P1, hp1⟩ : ∃ P, putsL (capN two : Int) [] l1 = P := ⟨_, rfl⟩
    obtain ⟨P2, hp2⟩ : ∃ P, putsL (capN one : Int) [] l1 = P := ⟨_, rfl⟩
    obtain ⟨hlen, hdrop⟩ := puts_room _ _ (cap_mono (show two ≤ one by omega)) l1
    have hl50 := puts_len (capN one) l1
    have hl51 := puts_len (capN two) l1
    have hl52 := cap_le two
    have hl53 : capN one ≤ 50 := by unfold capN mn; omega
    rw [hp1, hp2] at hlen
    rw [hp2] at hl50
    rw [hp1] at hl51
    rw [hp1, hp2] at hdrop
    obtain ⟨d, hd⟩ : ∃ d, P2.length - P1.length = d := ⟨_, rfl⟩
    rw [hd] at hdrop
    have hdl : d ≤ P2.length := by omega
    have hl54 : P1.length ≤ 50 := by omega
    have hPd : P2.length - d = P1.length := by omega
    have hw : wrap64 ((P2.length : Int) - (P1.length : Int)) = (d : Int) := by unfold wrap64; omega
    obtain ⟨jm, hjm⟩ : ∃ j, mx two 0 = j := ⟨_, rfl⟩
    have hjm_ : (if two < 0 then 0 else two) = jm := hjm
    have hlm : decide ((P1.length : Int) ≤ jm) = true := decide_eq_true (by omega)
    clear hot hd hjm hl52 hl53
    go_enter Try.func3, Try.ntmps3
    go_wp2_with (first
      | (go_at_call 7; refine (feed_examples W).mono ?_; rintro e w1 ⟨rfl, hb1⟩; have HB1 := Aside0.mk hb1; clear hb1)
      | (go_at_call 8; have m8 := M8.out; refine (feed_New_n _ _).mono ?_; rintro e w2 ⟨g1, rfl, hf1, hb2⟩; have HF1 := Aside0.mk hf1; have HB2 := Aside0.mk (below_on HB1.out hb2); have HS2 := Aside0.mk hb2.size; have HS1 := Aside0.mk HB1.out.size; clear m8 M8 hf1 hb2 HB1)
      | (go_at_call 8; refine (feed_New_n _ _).mono ?_; rintro e w3 ⟨g2, rfl, hf2, hb3⟩; have HF2 := Aside0.mk hf2; have HF1b := Aside0.mk (HF1.out.on hb3); have HB3 := Aside0.mk (below_on HB2.out hb3); have HS3 := Aside0.mk hb3.size; clear hf2 hb3 HB2 HF1)
      | (go_at_call 9; have m9 := M9.out; refine (feed_Load_n _ _ g1 _ 0 [] A c nl l1 HLE.out HF1b.out (fun w' hu => HR.out w' (below_upd HB3.out hu (fun j hj => by have := HS1.out; omega))) hnc HK.out (by unfold maxLen; omega)).mono ?_; rintro e w4 ⟨rfl, hf1, hu4⟩; rw [hp1] at hf1; have HF1 := Aside0.mk hf1; have HF2b := Aside0.mk (HF2.out.by hu4 (fun j hj _ => by omega)); have HB4 := Aside0.mk (below_upd HB3.out hu4 (fun j hj => by have := HS1.out; omega)); have HS4 := Aside0.mk hu4.size; clear m9 M9 hf1 hu4 HF1b HB3 HF2)
      | (go_at_call 9; refine (feed_Load_n _ _ g2 _ 0 [] A c nl l1 HLE.out HF2b.out (fun w' hu => HR.out w' (below_upd HB4.out hu (fun j hj => by have := HS1.out; have := HS2.out; omega))) hnc HK.out (by unfold maxLen; omega)).mono ?_; rintro e w5 ⟨rfl, hf2, hu5⟩; rw [hp2] at hf2; have HF2 := Aside0.mk hf2; have HF1b := Aside0.mk (HF1.out.by hu5 (fun j hj _ => by have := HS3.out; omega)); have HB5 := Aside0.mk (below_upd HB4.out hu5 (fun j hj => by have := HS1.out; have := HS2.out; omega)); have HS5 := Aside0.mk hu5.size; clear hf2 hu5 HF2b HB4 HF1)
      | (go_at_call 10; have m10 := M10.out; refine (feed_All _ _ g1 _ _ _ HF1b.out).mono ?_; rintro e w6 ⟨A6, c6, rfl, hc6, hq6, hb6⟩; have HC6 := Aside0.mk hc6; have HQ6 := Aside0.mk (Kd.Q_reads' hq6).2.2; have HF1 := Aside0.mk (HF1b.out.on hb6); have HF2b := Aside0.mk (HF2.out.on hb6); have HB6 := Aside0.mk (below_on HB5.out hb6); clear m10 M10 hc6 hq6 hb6 HF1b HF2 HB5)
      | (go_at_call 10; refine (feed_All _ _ g2 _ _ _ HF2b.out).mono ?_; rintro e w7 ⟨A7, c7, rfl, hc7, hq7, hb7⟩; have HQ7 := Aside0.mk (Kd.Q_reads' hq7).2.2; have HQ6b := Aside0.mk (Kd.C_below HQ6.out hb7); have HF1b := Aside0.mk (HF1.out.on hb7); have HB7 := Aside0.mk (below_on HB6.out hb7); have hd7 := Kd.C_drop HQ7.out hdl hc7; rw [hdrop] at hd7; have HD := Aside0.mk hd7; have HC7 := Aside0.mk hc7; clear hc7 hq7 hb7 hd7 HF1 HF2b HB6 HQ6)
      | (go_at_call 11; have h11 := HD.out; (first | rw [if_pos (by assumption)] at h11 | rw [if_neg (by assumption)] at h11); (try rw [hPd]); refine (known_same _ _ _ _ P1.length P1 _ rfl (by omega) HQ6b.out HC6.out h11 (by have := HC7.out; omega)).mono ?_; rintro e w8 ⟨rfl, hb8⟩; have HF1 := Aside0.mk (HF1b.out.on hb8); have HB8 := Aside0.mk (below_on HB7.out hb8); clear hb8 HF1b HB7 h11)
      | (go_at_call 12; refine (feed_Len _ _ g1 _ _ _ HF1.out).mono ?_; rintro e w9 ⟨rfl, rfl⟩))
    all_goals
      go_ret
      exact ⟨rfl, HB8.out⟩
  · have hb : decide (two < one) = false := decide_eq_false hot
    obtain ⟨P1, hp1⟩ : ∃ P, putsL (capN one : Int) [] l1 = P := ⟨_, rfl⟩
    obtain ⟨P2, hp2⟩ : ∃ P, putsL (capN two : Int) [] l1 = P := ⟨_, rfl⟩
    obtain ⟨hlen, hdrop⟩ := puts_room _ _ (cap_mono (show one ≤ two by omega)) l1
    have hl50 := puts_len (capN two) l1
    have hl51 := puts_len (capN one) l1
    have hl52 := cap_le one
    have hl53 : capN two ≤ 50 := by unfold capN mn; omega
    rw [hp1, hp2] at hlen
    rw [hp2] at hl50
    rw [hp1] at hl51
    rw [hp1, hp2] at hdrop
    obtain ⟨d, hd⟩ : ∃ d, P2.length - P1.length = d := ⟨_, rfl⟩
    rw [hd] at hdrop
    have hdl : d ≤ P2.length := by omega
    have hl54 : P1.length ≤ 50 := by omega
    have hPd : P2.length - d = P1.length := by omega
    have hw : wrap64 ((P2.length : Int) - (P1.length : Int)) = (d : Int) := by unfold wrap64; omega
    obtain ⟨jm, hjm⟩ : ∃ j, mx one 0 = j := ⟨_, rfl⟩
    have hjm_ : (if one < 0 then 0 else one) = jm := hjm
    have hlm : decide ((P1.length : Int) ≤ jm) = true := decide_eq_true (by omega)
    clear hot hd hjm hl52 hl53
    go_enter Try.func3, Try.ntmps3
    go_wp2_with (first
      | (go_at_call 7; refine (feed_examples W).mono ?_; rintro e w1 ⟨rfl, hb1⟩; have HB1 := Aside0.mk hb1; clear hb1)
      | (go_at_call 8; have m8 := M8.out; refine (feed_New_n _ _).mono ?_; rintro e w2 ⟨g1, rfl, hf1, hb2⟩; have HF1 := Aside0.mk hf1; have HB2 := Aside0.mk (below_on HB1.out hb2); have HS2 := Aside0.mk hb2.size; have HS1 := Aside0.mk HB1.out.size; clear m8 M8 hf1 hb2 HB1)
      | (go_at_call 8; refine (feed_New_n _ _).mono ?_; rintro e w3 ⟨g2, rfl, hf2, hb3⟩; have HF2 := Aside0.mk hf2; have HF1b := Aside0.mk (HF1.out.on hb3); have HB3 := Aside0.mk (below_on HB2.out hb3); have HS3 := Aside0.mk hb3.size; clear hf2 hb3 HB2 HF1)
      | (go_at_call 9; have m9 := M9.out; refine (feed_Load_n _ _ g1 _ 0 [] A c nl l1 HLE.out HF1b.out (fun w' hu => HR.out w' (below_upd HB3.out hu (fun j hj => by have := HS1.out; omega))) hnc HK.out (by unfold maxLen; omega)).mono ?_; rintro e w4 ⟨rfl, hf1, hu4⟩; rw [hp1] at hf1; have HF1 := Aside0.mk hf1; have HF2b := Aside0.mk (HF2.out.by hu4 (fun j hj _ => by omega)); have HB4 := Aside0.mk (below_upd HB3.out hu4 (fun j hj => by have := HS1.out; omega)); have HS4 := Aside0.mk hu4.size; clear m9 M9 hf1 hu4 HF1b HB3 HF2)
      | (go_at_call 9; refine (feed_Load_n _ _ g2 _ 0 [] A c nl l1 HLE.out HF2b.out (fun w' hu => HR.out w' (below_upd HB4.out hu (fun j hj => by have := HS1.out; have := HS2.out; omega))) hnc HK.out (by unfold maxLen; omega)).mono ?_; rintro e w5 ⟨rfl, hf2, hu5⟩; rw [hp2] at hf2; have HF2 := Aside0.mk hf2; have HF1b := Aside0.mk (HF1.out.by hu5 (fun j hj _ => by have := HS3.out; omega)); have HB5 := Aside0.mk (below_upd HB4.out hu5 (fun j hj => by have := HS1.out; have := HS2.out; omega)); have HS5 := Aside0.mk hu5.size; clear hf2 hu5 HF2b HB4 HF1)
      | (go_at_call 10; have m10 := M10.out; refine (feed_All _ _ g1 _ _ _ HF1b.out).mono ?_; rintro e w6 ⟨A6, c6, rfl, hc6, hq6, hb6⟩; have HC6 := Aside0.mk hc6; have HQ6 := Aside0.mk (Kd.Q_reads' hq6).2.2; have HF1 := Aside0.mk (HF1b.out.on hb6); have HF2b := Aside0.mk (HF2.out.on hb6); have HB6 := Aside0.mk (below_on HB5.out hb6); clear m10 M10 hc6 hq6 hb6 HF1b HF2 HB5)
      | (go_at_call 10; refine (feed_All _ _ g2 _ _ _ HF2b.out).mono ?_; rintro e w7 ⟨A7, c7, rfl, hc7, hq7, hb7⟩; have HQ7 := Aside0.mk (Kd.Q_reads' hq7).2.2; have HQ6b := Aside0.mk (Kd.C_below HQ6.out hb7); have HF1b := Aside0.mk (HF1.out.on hb7); have HB7 := Aside0.mk (below_on HB6.out hb7); have hd7 := Kd.C_drop HQ7.out hdl hc7; rw [hdrop] at hd7; have HD := Aside0.mk hd7; have HC7 := Aside0.mk hc7; clear hc7 hq7 hb7 hd7 HF1 HF2b HB6 HQ6)
      | (go_at_call 11; have h11 := HD.out; (first | rw [if_pos (by assumption)] at h11 | rw [if_neg (by assumption)] at h11); (try rw [hPd]); refine (known_same _ _ _ _ P1.length P1 _ rfl (by omega) HQ6b.out HC6.out h11 (by have := HC7.out; omega)).mono ?_; rintro e w8 ⟨rfl, hb8⟩; have HF1 := Aside0.mk (HF1b.out.on hb8); have HB8 := Aside0.mk (below_on HB7.out hb8); clear hb8 HF1b HB7 h11)
      | (go_at_call 12; refine (feed_Len _ _ g1 _ _ _ HF1.out).mono ?_; rintro e w9 ⟨rfl, rfl⟩))
    all_goals
      go_ret
      exact ⟨rfl, HB8.out⟩

end Go.Proofs.Ytfppafpkppjmlaa.QFeedPlays
