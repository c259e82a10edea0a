import Derived.Test.YtkogfjphpklioaaStQ
/- Store: walks by hand; the conditions stand in each theorem. -/
namespace Go.Proofs.Ytkogfjphpklioaa.QStoreNames
open Go.RowKit Go.Proofs.YtkogfjphpklioaaW.PrintWords Go.Proofs.YtkogfjphpklioaaW.PrintLast Go.Proofs.YtkogfjphpklioaaW.PrintMore
attribute [local go_sem] max2_int min2_int max_two min_two max_three min_three max_four min_four
set_option linter.unusedVariables false
set_option linter.unusedSimpArgs false
set_option maxRecDepth 8000 in
set_option maxHeartbeats 4000000 in
theorem rows_same (A1 A2 : Option Addr) (c1 c2 : Nat) (l : List (List S36)) (w : World) (h1 : (Kd.slice 36 k36).C w A1 l.length l) (h2 : (Kd.slice 36 k36).C w A2 l.length l) :
    Calls Try.prog 18 #[.slice A1 l.length c1, .slice A2 l.length c2] w fun e w' => e = .returned (.bool true) ∧ Below w.heap.size w w' := by
  have H1 := Aside0.mk h1
  have H2 := Aside0.mk h2
  have hu36 := Try.underlying36
  have hl1 : l.length ≤ 9223372036854775807 := H1.out.2.1
  have hnn : ((l.length : Int) != (l.length : Int)) = false := by simp
  clear h1 h2
  go_enter Try.func18, Try.ntmps18
  go_wp2
  go_loopw [5] (fun s5 wr => ∃ k : Nat, k ≤ l.length ∧ s5 = .int .i64 k ∧ Aside0 (Below w.heap.size w wr)) (fun s5 _ => l.length - (intOf s5).toNat)
  case atStart => exact ⟨0, Nat.zero_le _, rfl, ⟨Below.refl _ _⟩⟩
  case round =>
    obtain ⟨k, hk, rfl, HB⟩ := hrel
    by_cases hlt : k < l.length
    · obtain ⟨ad1, B1, d1, e, hx, _, hC1⟩ := atL3 (Kd.C_below H1.out HB.out) k hlt
      cases e
      obtain ⟨ad2, B2, d2, e, hy, _, hC2⟩ := atL3 (Kd.C_below H2.out HB.out) k hlt
      cases e
      have HC1 := Aside0.mk hC1
      have HC2 := Aside0.mk hC2
      have HX := Aside0.mk hx
      have HY := Aside0.mk hy
      clear hC1 hC2
      generalize l[k] = r at *
      have hl2 : r.length ≤ 9223372036854775807 := HC1.out.2.1
      have hrr : ((r.length : Int) != (r.length : Int)) = false := by simp
      go_wp2
      go_quiet (fail)
      go_wp2
      go_loopw [6] (fun s6 wq => ∃ m : Nat, m ≤ r.length ∧ s6 = .int .i64 m ∧ Aside0 (Below wr.heap.size wr wq)) (fun s6 _ => r.length - (intOf s6).toNat)
      case atStart => exact ⟨0, Nat.zero_le _, rfl, ⟨pw_below_drewN (Below.refl _ _) _⟩⟩
      case round =>
        obtain ⟨m, hm, rfl, HQ⟩ := hrel
        have hx2 := cells_later HQ.out HX.out
        have hy2 := cells_later HQ.out HY.out
        by_cases hlm : m < r.length
        · obtain ⟨ad3, e, p0, p1, p2⟩ := at36 (Kd.C_below HC1.out HQ.out) m hlm
          cases e
          obtain ⟨ad4, e, q0, q1, q2⟩ := at36 (Kd.C_below HC2.out HQ.out) m hlm
          cases e
          generalize r[m] = v at *
          have hi0 : (v.f0 == v.f0) = true := beq_self_eq_true _
          have hi1 : (v.f1 == v.f1) = true := beq_self_eq_true _
          have hi2 : (v.f2.toList == v.f2.toList) = true := beq_self_eq_true _
          go_wp2
          go_quiet (fail)
          go_wp2
          go_roundw
          case rel => exact ⟨m + 1, by omega, by go_num, ⟨pw_below_drewN HQ.out _⟩⟩
          case measure => simp [intOf]; omega
        · go_wp2
          go_roundw
          case rel => exact ⟨k + 1, by omega, by go_num, ⟨below_step HB.out HQ.out⟩⟩
          case measure => simp [intOf]; omega
    · go_wp2
      go_ret
      exact ⟨rfl, HB.out⟩
set_option maxRecDepth 8000 in
set_option maxHeartbeats 4000000 in
theorem ref_Find (A : Option Addr) (c : Nat) (l : List S33) (nm : ByteArray) (w : World) (hr : Kd.C k33 w A l.length l) :
    Calls Try.prog 19 #[.slice A l.length c, .string nm] w fun e w' => e = .returned (.int .i64 (findB l nm)) ∧ Below w.heap.size w w' := by
  have HR := Aside0.mk hr
  have hl1 : l.length ≤ 9223372036854775807 := hr.2.1
  clear hr
  go_enter Try.func19, Try.ntmps19
  go_wp2
  go_loopw [5] (fun s8 wr => ∃ k : Nat, k ≤ l.length ∧ s8 = .int .i64 k ∧ Aside0 ((l.take k).all (fun t => !decide (t.f0 = nm)) = true) ∧ Aside0 (wr = w)) (fun s8 _ => l.length - (intOf s8).toNat)
  case atStart => exact ⟨0, Nat.zero_le _, rfl, ⟨by rfl⟩, ⟨by first | trivial | rfl⟩⟩
  case round =>
    obtain ⟨k, hk, rfl, HK, ⟨rfl⟩⟩ := hrel
    by_cases hlt : k < l.length
    · obtain ⟨ad, A1, c1, A2, c2, e, hx0, hx1, hx2, hc1, hC1, hc2, hC2⟩ := at33 HR.out k hlt
      cases e
      have HT := Aside0.mk (List.take_succ_eq_append_getElem hlt)
      have HF : Aside0 (decide (l[k].f0 = nm) = true → findB l nm = (k : Int)) := ⟨fun h => fI_at k hlt HK.out h⟩
      clear hC1 hC2 hc1 hc2 hx1 hx2
      generalize l[k] = t at *
      cases htb : decide (t.f0 = nm) with
      | true =>
        have HU := Aside0.mk (HF.out htb)
        have hq : (t.f0.toList == nm.toList) = true := by rw [str_eq_dec]; exact htb
        clear HF htb
        go_wp2
        go_ret
        exact ⟨by rw [HU.out]; rfl, Below.refl _ _⟩
      | false =>
        have hq : (t.f0.toList == nm.toList) = false := by rw [str_eq_dec]; exact htb
        have HTB := Aside0.mk htb
        clear HF htb
        go_wp2
        go_roundw
        case rel => exact ⟨k + 1, by omega, by go_num, ⟨by rw [HT.out, List.all_append, HK.out]; simp [HTB.out]⟩, ⟨by first | trivial | rfl⟩⟩
        case measure => simp [intOf]; omega
    · have HU : Aside0 (findB l nm = -1) := ⟨fI_no (all_take HK.out (by omega))⟩
      go_wp2
      go_ret
      exact ⟨by rw [HU.out]; rfl, Below.refl _ _⟩

end Go.Proofs.Ytkogfjphpklioaa.QStoreNames
