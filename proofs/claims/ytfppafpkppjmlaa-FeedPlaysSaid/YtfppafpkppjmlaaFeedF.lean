import Derived.Test.YtfppafpkppjmlaaFeedE
/- Feed: walks of the feed's functions, by hand; the conditions stand in each theorem. -/
namespace Go.Proofs.Ytfppafpkppjmlaa.QFeedPlays
open Go.RowKit Go.Proofs.YtfppafpkppjmlaaW.PrintWords Go.Proofs.YtfppafpkppjmlaaW.PrintLast Go.Proofs.YtfppafpkppjmlaaW.PrintMore
attribute [local go_sem] max2_int min2_int max_two min_two max_three min_three max_four min_four
set_option linter.unusedVariables false
set_option linter.unusedSimpArgs false
set_option maxHeartbeats 4000000 in
theorem feed_Load (W : World) (own : Nat → Prop) (g : Nat) (most : Int) (n : Nat) (L : List S35) (A : Option Addr) (c : Nat) (l : List S35) (h : Fd W own g most n L) (hl : ∀ w', Upd own W w' → Kd.C k35 w' A l.length l) (hc : l.length ≤ c) (hk : ∀ p ∈ l, p.f0.size ≤ maxLen) (hn : n + l.length < maxLen) :
    Calls Try.prog 9 #[.pointer (some ⟨g, 0, none⟩), .slice A l.length c] W fun e w' => e = .returned (.tuple #[]) ∧ Fd w' (fun j => own j ∨ W.heap.size ≤ j) g most (n + l.length) (putsL most L l) ∧ Upd own W w' := by
  have hu35 := Try.underlying35
  have hl3 : l.length ≤ 9223372036854775806 := by unfold maxLen at hn; omega
  have HL := Aside0.mk hl
  have HF := Aside0.mk h
  have HKS := Aside0.mk hk
  clear hl h hk
  go_enter Try.func9, Try.ntmps9
  go_wp2
  go_loopw [8] (fun i wr => ∃ m : Nat, m ≤ l.length ∧ i = .int .i64 m ∧ Aside0 (Fd wr (fun j => own j ∨ W.heap.size ≤ j) g most (n + m) (putsL most L (l.take m))) ∧ Aside0 (Upd own W wr)) (fun i _ => l.length - (intOf i).toNat)
  case atStart => exact ⟨0, Nat.zero_le _, rfl, ⟨HF.out.far (fun j hj => .inl hj) (fun _ _ _ => rfl)⟩, ⟨Upd.refl _ _⟩⟩
  case round =>
    obtain ⟨m, hm, rfl, HA, HU⟩ := hrel
    by_cases hlt : m < l.length
    · have HX := Aside0.mk (at_T35 (HL.out wr HU.out) (m : Int) (by omega) (by omega))
      have e1 : rd_T35 l (m : Int) = l[m] := by unfold rd_T35; simp [List.getD_eq_getElem?_getD, List.getElem?_eq_getElem hlt]
      obtain ⟨ad, e, hx0, hx1⟩ := HX.out
      cases e
      rw [e1, Int.toNat_natCast] at hx0 hx1
      have HP := Aside0.mk (List.getElem_mem hlt)
      have HT : Aside0 (putsL most L (l.take (m + 1)) = putL most (putsL most L (l.take m)) l[m].f0 (clipV l[m].f1)) := ⟨by rw [List.take_succ_eq_append_getElem hlt]; unfold putsL; rw [List.foldl_append]; rfl⟩
      generalize l[m] = p at *
      clear HX e1
      have HN : Aside0 (∀ wz, Below wr.heap.size wr wz → Calls Try.prog 15 #[.pointer (some ⟨g, 0, none⟩), .string p.f0, .int .i64 p.f1] wz fun e w' => e = .returned (.tuple #[]) ∧ Fd w' (fun j => own j ∨ W.heap.size ≤ j) g most (n + (m + 1)) (putsL most L (l.take (m + 1))) ∧ Upd own W w') := ⟨fun wz hb => by
        have hF := (HA.out.bound).far (w1 := wz) (own1 := fun j => (own j ∨ W.heap.size ≤ j) ∧ j < wr.heap.size) (fun _ h => h) (fun j hj hlt => hb.block j hlt)
        refine (feed_Put wz _ g most (n + m) _ p.f0 p.f1 hF (HKS.out p HP.out) (by omega)).mono ?_
        rintro e w' ⟨rfl, h1, h2⟩
        have hsz := HU.out.size
        have hsz2 := hb.size
        refine ⟨rfl, ?_, ?_⟩
        · rw [HT.out]
          exact h1.far (fun j hj => by rcases hj with h | h; exact h.1; exact .inr (Nat.le_trans (Nat.le_trans hsz hsz2) h)) (fun _ _ _ => rfl)
        · refine (HU.out.trans (Upd.of_below (own := own) hb) (fun _ _ h => h)).trans h2 (fun j hj h => ?_)
          rcases h.1 with h | h
          · exact h
          · exact absurd hj (by omega)⟩
      go_wp2_with (go_at_call 15; refine (HN.out _ ?hb).mono ?_; (case hb => exact below_alloc (Below.refl _ _) _); rintro e w4 ⟨rfl, hf4, hu4⟩; have HF4 := Aside0.mk hf4; have HU4 := Aside0.mk hu4; clear hf4 hu4)
      go_roundw
      case rel => exact ⟨m + 1, by omega, by go_num, HF4, HU4⟩
      case measure => simp [intOf]; omega
    · have hk' : m = l.length := by omega
      have HA2 := HA.out
      rw [hk', List.take_length] at HA2
      have HA3 := Aside0.mk HA2
      have hle : l.length ≤ m := by omega
      clear hk' HA2
      go_wp2
      first | go_end0 | (simp only [Exit.inBlock, Exit.then]; refine bodyPost_ret (results_none rfl _ _ _) rfl ?_) | refine bodyPost_ret (results_none rfl _ _ _) rfl ?_
      exact ⟨rfl, HA3.out, HU.out⟩

end Go.Proofs.Ytfppafpkppjmlaa.QFeedPlays
