import Derived.Test.YtacfemgmnfkjoaaBagU
/- Bag: walks of the bag's functions, by hand; the conditions stand in each theorem. -/
namespace Go.Proofs.Ytacfemgmnfkjoaa.QBag
open Go.RowKit Go.Proofs.YtacfemgmnfkjoaaW.PrintWords Go.Proofs.YtacfemgmnfkjoaaW.PrintLast Go.Proofs.YtacfemgmnfkjoaaW.PrintMore
attribute [local go_sem] max2_int min2_int max_two min_two max_three min_three max_four min_four
set_option linter.unusedVariables false
set_option linter.unusedSimpArgs false
set_option maxHeartbeats 4000000 in
theorem ref_OfB (W : World) (A : Option Addr) (c k : Nat) (l : List ByteArray) (hk0 : l.length = k) (hr : Kd.C Kd.string W A k l) (hc : k ≤ c) (hk : ∀ s ∈ l, s.size ≤ maxLen) (hn : k * 16 ≤ 140737488355328) :
    Calls Try.prog 14 #[.slice A k c] W fun e w' => ∃ (g : Nat) (L : List ByteArray), e = .returned (.pointer (some ⟨g, 0, none⟩)) ∧ RefB w' (fun j => W.heap.size ≤ j ∧ j < w'.heap.size) g L ∧ L.Perm l ∧ SortedB L ∧ Below W.heap.size W w' := by
  have HR : Aside0 (∀ w', Below W.heap.size W w' → Kd.C Kd.string w' A k l) := ⟨fun w' hb => Kd.C_below hr hb⟩
  have HK := Aside0.mk hk
  have hk62 : k ≤ 8796093022208 := by omega
  have HLE := Aside0.mk hk0
  clear hr hk hn
  go_enter Try.func14, Try.ntmps14
  go_wp2_with (first | ((with_reducible refine gate_dst (N := 6) rfl ?_); refine box_event ?hg (N := 6) ?hd (cs := #[.slice none 0 0]) (t := 50) ?hr ?_; (case hd => rfl); (case hg => rfl); (case hr => first | (go_simp; done) | (go_simp; rfl)); intro g hg w4 hbox hb; have BK := Aside0.mk hbox; have HG := Aside0.mk hg; have HB := Aside0.mk hb; clear hbox hg hb))
  go_loopw [4] (fun s4 wr => ∃ (m : Nat) (L : List ByteArray), m ≤ k ∧ s4 = .int .i64 m ∧ Aside0 (RefB wr (fun j => W.heap.size ≤ j) g L) ∧ Aside0 (L.Perm (l.take m)) ∧ Aside0 (SortedB L) ∧ Aside0 (Below W.heap.size W wr)) (fun i _ => k - (intOf i).toNat)
  case atStart => exact ⟨0, [], Nat.zero_le _, rfl, ⟨⟨none, 0, BK.out, Nat.le_of_eq HG.out.symm, Nat.le_refl _, Kd.R_nil _ _ _ _ _, by simp⟩⟩, ⟨by simp⟩, ⟨List.Pairwise.nil⟩, HB⟩
  case round =>
    obtain ⟨m, L, hm, rfl, HA, HP, HS, HBW⟩ := hrel
    by_cases hlt : m < k
    · obtain ⟨ad, e, hx0⟩ := at_str (HR.out wr HBW.out) m (by omega)
      cases e
      have hml : m < l.length := by omega
      have HT := Aside0.mk (List.take_succ_eq_append_getElem hml)
      have HSz := Aside0.mk (HK.out _ (List.getElem_mem hml))
      have hLl : L.length = m := by rw [HP.out.length_eq, List.length_take]; omega
      generalize l[m] = s at *
      have HN := Aside0.mk (ref_AddB wr _ g L s HA.out HSz.out (by omega))
      clear hLl
      go_wp2_with (go_at_call 18; refine HN.out.mono ?_; rintro e w2 ⟨L2, rfl, h1, h2, h3, h4⟩; have H1 := Aside0.mk h1; have H2 := Aside0.mk h2; have H3 := Aside0.mk h3; have H4 := Aside0.mk h4; clear h1 h2 h3 h4)
      go_roundw
      case rel => exact ⟨m + 1, L2, by omega, by go_num, ⟨H1.out.far (fun j hj => by
        have := HBW.out.size
        rcases hj with h | h
        · exact h
        · omega) (fun _ _ _ => rfl)⟩, ⟨by rw [HT.out]; exact H2.out.trans (List.Perm.append_right _ HP.out)⟩, ⟨H3.out HS.out⟩, ⟨below_upd HBW.out H4.out (fun j hj => hj)⟩⟩
      case measure => simp [intOf]; omega
    · have hml : l.take m = l := List.take_of_length_le (by omega)
      have HP2 := HP.out
      rw [hml] at HP2
      have HP3 := Aside0.mk HP2
      clear hml HP2
      go_wp2
      go_ret
      exact ⟨g, L, rfl, HA.out.bound, HP3.out, HS.out, HBW.out⟩

end Go.Proofs.Ytacfemgmnfkjoaa.QBag
