import Derived.Test.YtacfemgmnfkjoaaBagX
import Derived.Test.YtacfemgmnfkjoaaBagP
/- Bag: walks of the bag's functions, by hand; the conditions stand in each theorem. -/
namespace Go.Proofs.Ytacfemgmnfkjoaa.QBag
open Go.RowKit Go.Proofs.YtacfemgmnfkjoaaW.PrintWords Go.Proofs.YtacfemgmnfkjoaaW.PrintLast Go.Proofs.YtacfemgmnfkjoaaW.PrintMore
attribute [local go_sem] max2_int min2_int max_two min_two max_three min_three max_four min_four
set_option linter.unusedVariables false
set_option linter.unusedSimpArgs false
set_option maxHeartbeats 8000000 in
theorem ref_BothB (W : World) (oA oB : Nat → Prop) (ga gb : Nat) (La Lb : List ByteArray) (hA : RefB W oA ga La) (hB : RefB W oB gb Lb) (hla : La.length ≤ 100000) (hlb : Lb.length ≤ 100000) :
    Calls Try.prog 23 #[.pointer (some ⟨ga, 0, none⟩), .pointer (some ⟨gb, 0, none⟩)] W fun e w' => ∃ (g : Nat) (L : List ByteArray), e = .returned (.pointer (some ⟨g, 0, none⟩)) ∧ RefB w' (fun j => W.heap.size ≤ j ∧ j < w'.heap.size) g L ∧ L.Perm (La ++ Lb) ∧ SortedB L ∧ Below W.heap.size W w' := by
  obtain ⟨A, c, h1, h2, h3, h4, h5⟩ := hA
  obtain ⟨A2, c2, k1, k2, k3, k4, k5⟩ := hB
  have hgl := blk_lt k1
  have HG := Aside0.mk k1
  have HC := Aside0.mk (Kd.R_reads' h4).2.2
  have HC20 := (Kd.R_reads' k4).2.2
  have HC2 : Aside0 (∀ w', Below W.heap.size W w' → Kd.C Kd.string w' A2 Lb.length Lb) := ⟨fun w' hb => Kd.C_below HC20 hb⟩
  have HS1 := Aside0.mk h5
  have HS2 := Aside0.mk k5
  have hc0 : W.cell? ⟨ga, 0, none⟩ = some (.slice A La.length c) := (blk_cell h1 0).trans rfl
  clear h1 h2 h4 h5 k1 k2 k4 k5 HC20
  go_enter Try.func23, Try.ntmps23
  go_wp2_with (go_at_call 14; refine (ref_OfB W A c La.length La rfl HC.out h3 HS1.out (by omega)).mono ?_; rintro e w1 ⟨g, L0, rfl, hr, hp, hs, hb⟩; have HR := Aside0.mk hr; have HP0 := Aside0.mk hp; have HST0 := Aside0.mk hs; have HB0 := Aside0.mk hb; clear hr hp hs hb)
  go_loopw [6] (fun s6 wr => ∃ (m : Nat) (L : List ByteArray), m ≤ Lb.length ∧ s6 = .int .i64 m ∧ Aside0 (RefB wr (fun j => W.heap.size ≤ j) g L) ∧ Aside0 (L.Perm (La ++ Lb.take m)) ∧ Aside0 (SortedB L) ∧ Aside0 (Below W.heap.size W wr)) (fun i _ => Lb.length - (intOf i).toNat)
  case atStart => exact ⟨0, L0, Nat.zero_le _, rfl, ⟨HR.out.far (fun j hj => hj.1) (fun _ _ _ => rfl)⟩, ⟨by simpa using HP0.out⟩, HST0, HB0⟩
  case round =>
    clear HR HP0 HST0 HB0
    obtain ⟨m, L, hm, rfl, HA, HP, HS, HB⟩ := hrel
    have hd0 : wr.cell? ⟨gb, 0, none⟩ = some (.slice A2 Lb.length c2) := (blk_cell ((HB.out.block gb hgl).trans HG.out) 0).trans rfl
    by_cases hlt : m < Lb.length
    · obtain ⟨ad, e, hx0⟩ := at_str (HC2.out wr HB.out) m hlt
      cases e
      have HT := Aside0.mk (List.take_succ_eq_append_getElem hlt)
      have HSz := Aside0.mk (HS2.out _ (List.getElem_mem hlt))
      have hLl : L.length ≤ 200000 := by rw [HP.out.length_eq]; rw [List.length_append, List.length_take]; omega
      generalize Lb[m] = s at *
      have HN := Aside0.mk (ref_AddB wr _ g L s HA.out HSz.out (by omega))
      clear hLl
      go_wp2_with (go_at_call 18; refine HN.out.mono ?_; rintro e w2 ⟨L2, rfl, h1, h2, h3, h4⟩; have H1 := Aside0.mk h1; have H2 := Aside0.mk h2; have H3 := Aside0.mk h3; have H4 := Aside0.mk h4; clear h1 h2 h3 h4)
      go_roundw
      case rel => exact ⟨m + 1, L2, by omega, by go_num, ⟨H1.out.far (fun j hj => by
        have := HB.out.size
        rcases hj with h | h
        · exact h
        · omega) (fun _ _ _ => rfl)⟩, ⟨by
          rw [HT.out]
          rw [← List.append_assoc]
          exact H2.out.trans (List.Perm.append_right _ HP.out)⟩, ⟨H3.out HS.out⟩, ⟨below_upd HB.out H4.out (fun j hj => hj)⟩⟩
      case measure => simp [intOf]; omega
    · have hml : Lb.take m = Lb := List.take_of_length_le (by omega)
      have HP2 := HP.out
      rw [hml] at HP2
      have HP3 := Aside0.mk HP2
      clear hml HP2
      go_wp2
      go_ret
      exact ⟨g, L, rfl, HA.out.bound, HP3.out, HS.out, HB.out⟩
set_option maxHeartbeats 8000000 in
theorem ref_LessB (W : World) (oA oB : Nat → Prop) (ga gb : Nat) (La Lb : List ByteArray) (hA : RefB W oA ga La) (hB : RefB W oB gb Lb) (hla : La.length ≤ 100000) (hlb : Lb.length ≤ 100000) :
    Calls Try.prog 25 #[.pointer (some ⟨ga, 0, none⟩), .pointer (some ⟨gb, 0, none⟩)] W fun e w' => ∃ (g : Nat) (L : List ByteArray), e = .returned (.pointer (some ⟨g, 0, none⟩)) ∧ RefB w' (fun j => W.heap.size ≤ j ∧ j < w'.heap.size) g L ∧ L.Perm (lessL La Lb) ∧ SortedB L ∧ Below W.heap.size W w' := by
  obtain ⟨A, c, h1, h2, h3, h4, h5⟩ := hA
  obtain ⟨A2, c2, k1, k2, k3, k4, k5⟩ := hB
  have hgl := blk_lt k1
  have HG := Aside0.mk k1
  have HC := Aside0.mk (Kd.R_reads' h4).2.2
  have HC20 := (Kd.R_reads' k4).2.2
  have HC2 : Aside0 (∀ w', Below W.heap.size W w' → Kd.C Kd.string w' A2 Lb.length Lb) := ⟨fun w' hb => Kd.C_below HC20 hb⟩
  have HS1 := Aside0.mk h5
  have HS2 := Aside0.mk k5
  have hc0 : W.cell? ⟨ga, 0, none⟩ = some (.slice A La.length c) := (blk_cell h1 0).trans rfl
  clear h1 h2 h4 h5 k1 k2 k4 k5 HC20
  go_enter Try.func25, Try.ntmps25
  go_wp2_with (go_at_call 14; refine (ref_OfB W A c La.length La rfl HC.out h3 HS1.out (by omega)).mono ?_; rintro e w1 ⟨g, L0, rfl, hr, hp, hs, hb⟩; have HR := Aside0.mk hr; have HP0 := Aside0.mk hp; have HST0 := Aside0.mk hs; have HB0 := Aside0.mk hb; clear hr hp hs hb)
  go_loopw [6] (fun s6 wr => ∃ (m : Nat) (L : List ByteArray), m ≤ Lb.length ∧ s6 = .int .i64 m ∧ Aside0 (RefB wr (fun j => W.heap.size ≤ j) g L) ∧ Aside0 (L.Perm (lessL La (Lb.take m))) ∧ Aside0 (SortedB L) ∧ Aside0 (Below W.heap.size W wr)) (fun i _ => Lb.length - (intOf i).toNat)
  case atStart => exact ⟨0, L0, Nat.zero_le _, rfl, ⟨HR.out.far (fun j hj => hj.1) (fun _ _ _ => rfl)⟩, ⟨by simpa [lessL] using HP0.out⟩, HST0, HB0⟩
  case round =>
    clear HR HP0 HST0 HB0
    obtain ⟨m, L, hm, rfl, HA, HP, HS, HB⟩ := hrel
    have hd0 : wr.cell? ⟨gb, 0, none⟩ = some (.slice A2 Lb.length c2) := (blk_cell ((HB.out.block gb hgl).trans HG.out) 0).trans rfl
    by_cases hlt : m < Lb.length
    · obtain ⟨ad, e, hx0⟩ := at_str (HC2.out wr HB.out) m hlt
      cases e
      have HT := Aside0.mk (List.take_succ_eq_append_getElem hlt)
      have HSz := Aside0.mk (HS2.out _ (List.getElem_mem hlt))
      have hLl : L.length ≤ 200000 := by rw [HP.out.length_eq]; have := lessL_len La (Lb.take m); omega
      generalize Lb[m] = s at *
      have HN := Aside0.mk (ref_TakeB wr _ g L s HA.out (by omega))
      clear hLl
      go_wp2_with (go_at_call 16; refine HN.out.mono ?_; rintro e w2 ⟨rfl, h1, h4⟩; have H1 := Aside0.mk h1; have H4 := Aside0.mk h4; clear h1 h4)
      go_roundw
      case rel => exact ⟨m + 1, L.erase s, by omega, by go_num, ⟨H1.out.far (fun j hj => by
        have := HB.out.size
        rcases hj with h | h
        · exact h
        · omega) (fun _ _ _ => rfl)⟩, ⟨by
          rw [HT.out]
          rw [List.perm_iff_count]
          intro x
          rw [List.count_erase, List.perm_iff_count.1 HP.out x, lessL_count, lessL_count, List.count_append, List.count_singleton]
          omega⟩, ⟨List.Pairwise.sublist List.erase_sublist HS.out⟩, ⟨below_upd HB.out H4.out (fun j hj => hj)⟩⟩
      case measure => simp [intOf]; omega
    · have hml : Lb.take m = Lb := List.take_of_length_le (by omega)
      have HP2 := HP.out
      rw [hml] at HP2
      have HP3 := Aside0.mk HP2
      clear hml HP2
      go_wp2
      go_ret
      exact ⟨g, L, rfl, HA.out.bound, HP3.out, HS.out, HB.out⟩

end Go.Proofs.Ytacfemgmnfkjoaa.QBag
