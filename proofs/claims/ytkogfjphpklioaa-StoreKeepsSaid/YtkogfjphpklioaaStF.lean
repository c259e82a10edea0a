import Derived.Test.YtkogfjphpklioaaStE
/- Store: walks by hand; the conditions stand in each theorem. -/
namespace Go.Proofs.Ytkogfjphpklioaa.QStoreNames
open Go.RowKit Go.Proofs.YtkogfjphpklioaaW.PrintWords Go.Proofs.YtkogfjphpklioaaW.PrintLast Go.Proofs.YtkogfjphpklioaaW.PrintMore
attribute [local go_sem] max2_int min2_int max_two min_two max_three min_three max_four min_four
set_option linter.unusedVariables false
set_option linter.unusedSimpArgs false
set_option maxHeartbeats 8000000 in
theorem rows32 (A : Option Addr) (c : Nat) (l : List (List S36)) (w : World) (hr : (Kd.slice 36 k36).C w A l.length l) (hc : l.length ≤ c) (hl : l.length ≤ 4398046511104) (hs : ∀ r ∈ l, r.length < 4398046511104) :
    Calls Try.prog 32 #[.slice A l.length c] w fun e w' => ∃ v0_ : Value, e = .returned (v0_) ∧ Kd.R (Kd.slice 36 k36) 34 w' w.heap.size (fun _ => True) v0_ l ∧ Below w.heap.size w w' := by
  have HR := Aside0.mk hr
  have HS := Aside0.mk hs
  clear hr hs
  go_enter Try.func32, Try.ntmps32
  go_wp2
  go_loopw [3, 8] (fun s3 s8 wr => ∃ k : Nat, k ≤ l.length ∧ s8 = .int .i64 k ∧ Aside0 (Kd.R (Kd.slice 36 k36) 34 wr w.heap.size (fun _ => True) s3 (l.take k)) ∧ Aside0 (Below w.heap.size w wr)) (fun _ s8 _ => l.length - (intOf s8).toNat)
  case atStart => exact ⟨0, Nat.zero_le _, rfl, ⟨Kd.R_nil _ _ _ _ _⟩, ⟨Below.refl _ _⟩⟩
  case round =>
    obtain ⟨k, hk, rfl, HO, HB⟩ := hrel
    obtain ⟨A3, c3, e3⟩ := Kd.R_slice HO.out
    subst e3
    by_cases hlt : k < l.length
    · obtain ⟨ad, A0, c0, e, hx, hlc, hC⟩ := atL3 (Kd.C_below HR.out HB.out) k hlt
      cases e
      have HC := Aside0.mk hC
      have HT := Aside0.mk (List.take_succ_eq_append_getElem hlt)
      have hrl := HS.out _ (List.getElem_mem hlt)
      have HTL : Aside0 ((l.take k).length ≤ 4398046511103) := ⟨by rw [List.length_take]; omega⟩
      clear hC
      generalize l[k] = r at *
      generalize l.take k = xs at *
      go_wp2_with (first | (go_at_call 36; refine (clone36 A0 c0 r _ HC.out hlc hrl).mono ?_; rintro e w1 ⟨v1, rfl, hR, hb⟩; obtain ⟨A1, c1, e1⟩ := Kd.R_slice hR; subst e1; have HV := Aside0.mk (Kd.R_lower (Kd.R_newR hR HO.out) HB.out.size); have HO1 := Aside0.mk (Kd.R_below HO.out hb); have HB1 := Aside0.mk (below_step HB.out hb); clear hR hb) | ((with_reducible refine gate_builtin (b := .append) (xs := #[.tmp 12, .tmp 15]) rfl ?_); at_builtin; refine Kd.R_append (Kd.slice 36 k36) (w0 := w) w.heap.size rfl (.tmp 12) (.tmp 15) 31 34 (.slice none 0 0) 24 rfl Try.underlying31 info34 rfl (by decide) (by decide) _ xs r [.slice A1 r.length c1] (fun _ => True) (fun k_ => True ∧ some k_ ≠ (Value.slice A3 xs.length c3).ownBlock) (by first | (go_simp; done) | (go_simp; rfl)) (by first | (go_simp; done) | (go_simp; rfl)) ?aP ?aK (fun _ _ => trivial) ?aO ?aB ?aS ?aL ?_; (case aP => exact Kd.M_row HV.out); (case aK => exact (fun k_ hk_ => hk_)); (case aO => exact HO1.out); (case aB => exact HB1.out); (case aS => exact HB1.out.size); (case aL => have := HTL.out; omega); intro v2 w2 ho2 hb2 hg2 hat2; have HO2 := Aside0.mk ho2; have HB2 := Aside0.mk hb2; clear ho2 hb2 hg2 hat2))
      go_roundw
      case rel => exact ⟨k + 1, by omega, by go_num, ⟨by rw [HT.out]; exact HO2.out⟩, HB2⟩
      case measure => simp [intOf]; omega
    · have HE : Aside0 (l.take k = l) := ⟨List.take_of_length_le (by omega)⟩
      rw [HE.out] at HO
      go_wp2
      go_ret
      exact ⟨_, rfl, by first | exact HO.out | (rw [HE.out]; exact HO.out), HB.out⟩

end Go.Proofs.Ytkogfjphpklioaa.QStoreNames
