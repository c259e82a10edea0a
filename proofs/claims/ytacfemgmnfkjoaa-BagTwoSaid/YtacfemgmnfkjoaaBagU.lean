import Derived.Test.YtacfemgmnfkjoaaBagT
/- Bag: walks of the bag's functions, by hand; the conditions stand in each theorem. -/
namespace Go.Proofs.Ytacfemgmnfkjoaa.QBag
open Go.RowKit Go.Proofs.YtacfemgmnfkjoaaW.PrintWords Go.Proofs.YtacfemgmnfkjoaaW.PrintLast Go.Proofs.YtacfemgmnfkjoaaW.PrintMore
attribute [local go_sem] max2_int min2_int max_two min_two max_three min_three max_four min_four
set_option linter.unusedVariables false
set_option linter.unusedSimpArgs false
theorem count_take (L : List ByteArray) (s : ByteArray) (m : Nat) (hm : m < L.length) : (L.take (m + 1)).count s = (L.take m).count s + (if L[m] = s then 1 else 0) := by
  rw [List.take_succ_eq_append_getElem hm, List.count_append, List.count_singleton]
  by_cases h : L[m] = s
  · rw [if_pos h, if_pos (by simpa using h)]
  · rw [if_neg h, if_neg (by simpa using h)]
set_option maxHeartbeats 4000000 in
theorem ref_CountB (W : World) (own : Nat → Prop) (g : Nat) (L : List ByteArray) (s : ByteArray) (h : RefB W own g L) :
    Calls Try.prog 19 #[.pointer (some ⟨g, 0, none⟩), .string s] W fun e w' => e = .returned (.int .i64 (L.count s : Int)) ∧ w' = W := by
  obtain ⟨A, c, h1, h2, h3, h4, h5⟩ := h
  have HC := Aside0.mk (Kd.R_reads' h4).2.2
  have hc0 : W.cell? ⟨g, 0, none⟩ = some (.slice A L.length c) := (blk_cell h1 0).trans rfl
  have hll : L.length ≤ 9223372036854775807 := HC.out.2.1
  clear h1 h2 h4 h5
  go_enter Try.func19, Try.ntmps19
  go_wp2
  go_loopw [5, 6] (fun s5 s6 wr => ∃ m : Nat, m ≤ L.length ∧ s6 = .int .i64 m ∧ s5 = .int .i64 ((L.take m).count s : Nat) ∧ wr = W) (fun _ i _ => L.length - (intOf i).toNat)
  case atStart => exact ⟨0, Nat.zero_le _, rfl, rfl, rfl⟩
  case round =>
    obtain ⟨m, hm, rfl, rfl, rfl⟩ := hrel
    by_cases hlt : m < L.length
    · obtain ⟨ad, e, hx0⟩ := at_str HC.out m hlt
      cases e
      have hct := count_take L s m hlt
      have hcl : (L.take m).count s ≤ (L.take m).length := List.count_le_length
      rw [List.length_take] at hcl
      generalize L[m] = x at *
      by_cases hx : x = s
      · have heq : (x.toList == s.toList) = true := by rw [eqS, decide_eq_true hx]
        rw [if_pos hx] at hct
        have HCT := Aside0.mk hct
        clear hct hx
        generalize (L.take m).count s = k at *
        go_wp2
        go_roundw
        case rel => exact ⟨m + 1, by omega, by go_num, by rw [HCT.out]; go_num, trivial⟩
        case measure => simp [intOf]; omega
      · have heq : (x.toList == s.toList) = false := by rw [eqS, decide_eq_false hx]
        rw [if_neg hx] at hct
        have HCT := Aside0.mk hct
        clear hct hx
        generalize (L.take m).count s = k at *
        go_wp2
        go_roundw
        case rel => exact ⟨m + 1, by omega, by go_num, by rw [HCT.out]; rfl, trivial⟩
        case measure => simp [intOf]; omega
    · have hml : L.take m = L := List.take_of_length_le (by omega)
      rw [hml]
      clear hml
      go_wp2
      go_ret
      exact ⟨rfl, rfl⟩

end Go.Proofs.Ytacfemgmnfkjoaa.QBag
