import Derived.Test.YtkogfjphpklioaaStH
/- Store: walks by hand; the conditions stand in each theorem. -/
namespace Go.Proofs.Ytkogfjphpklioaa.QStoreNames
open Go.RowKit Go.Proofs.YtkogfjphpklioaaW.PrintWords Go.Proofs.YtkogfjphpklioaaW.PrintLast Go.Proofs.YtkogfjphpklioaaW.PrintMore
attribute [local go_sem] max2_int min2_int max_two min_two max_three min_three max_four min_four
set_option linter.unusedVariables false
set_option linter.unusedSimpArgs false
set_option maxHeartbeats 8000000 in
theorem index34 (g : Nat) (nm : ByteArray) (A : Option Addr) (c : Nat) (l : List S33) (w : World) (hr : Kd.C k33 w A l.length l) (hn : w.heap[g]? = some (.cells #[.string nm] 9 (0, 0))) (hl : l.length ≤ 4611686018427387904) :
    Calls Try.prog 33 #[.slice A l.length c, .func (.func 34) #[] #[.pointer (some ⟨g, 0, none⟩)]] w fun e w' => e = .returned (.int .i64 (findB l nm)) ∧ Below w.heap.size w w' := by
  have HR := Aside0.mk hr
  have HN := Aside0.mk hn
  clear hr hn
  go_enter Try.func33, Try.ntmps33
  go_wp2
  go_loopw [8] (fun s8 wr => ∃ k : Nat, k ≤ l.length ∧ s8 = .int .i64 k ∧ Aside0 ((l.take k).all (fun t => !decide (t.f0 = nm)) = true) ∧ Aside0 (Below w.heap.size w wr)) (fun s8 _ => l.length - (intOf s8).toNat)
  case atStart => exact ⟨0, Nat.zero_le _, rfl, ⟨by rfl⟩, ⟨Below.refl _ _⟩⟩
  case round =>
    obtain ⟨k, hk, rfl, HK, HB⟩ := hrel
    by_cases hlt : k < l.length
    · obtain ⟨ad, A1, c1, A2, c2, e, hx0, hx1, hx2, hc1, hC1, hc2, hC2⟩ := at33 (Kd.C_below HR.out HB.out) k hlt
      cases e
      have HC1 := Aside0.mk hC1
      have HC2 := Aside0.mk hC2
      have HT := Aside0.mk (List.take_succ_eq_append_getElem hlt)
      have HF : Aside0 (decide (l[k].f0 = nm) = true → findB l nm = (k : Int)) := ⟨fun h => fI_at k hlt HK.out h⟩
      have HNR := Aside0.mk ((HB.out.block _ (blk_lt HN.out)).trans HN.out)
      clear hC1 hC2 hc1 hc2 HC1 HC2
      generalize l[k] = t at *
      cases htb : decide (t.f0 = nm) with
      | true =>
        have HU := Aside0.mk (HF.out htb)
        have HTB := Aside0.mk htb
        clear HF htb
        go_wp2_with fail
        refine (clo34 g nm t _ _ _ rfl rfl HNR.out).mono ?_
        rw [HTB.out]
        rintro e w1 ⟨rfl, hb⟩
        have HB1 := Aside0.mk (below_step HB.out hb)
        clear hb
        go_wp2
        go_ret
        exact ⟨by rw [HU.out]; rfl, HB1.out⟩
      | false =>
        have HTB := Aside0.mk htb
        clear HF htb
        go_wp2_with fail
        refine (clo34 g nm t _ _ _ rfl rfl HNR.out).mono ?_
        rw [HTB.out]
        rintro e w1 ⟨rfl, hb⟩
        have HB1 := Aside0.mk (below_step HB.out hb)
        clear hb
        go_wp2
        go_roundw
        case rel => exact ⟨k + 1, by omega, by go_num, ⟨by rw [HT.out, List.all_append, HK.out]; simp [HTB.out]⟩, HB1⟩
        case measure => simp [intOf]; omega
    · have HU : Aside0 (findB l nm = -1) := ⟨fI_no (all_take HK.out (by omega))⟩
      go_wp2
      go_ret
      exact ⟨by rw [HU.out]; rfl, HB.out⟩
set_option maxHeartbeats 4000000 in
theorem store_Find (g : Nat) (A : Option Addr) (c : Nat) (mv : Value) (l : List S33) (nm : ByteArray) (w : World) (hg : w.heap[g]? = some (.cells #[.slice A l.length c, mv] 68 (0, 0))) (hr : Kd.C k33 w A l.length l) (hl : l.length ≤ 4611686018427387904) :
    Calls Try.prog 14 #[.pointer (some ⟨g, 0, none⟩), .string nm] w fun e w' => e = .returned (.int .i64 (findB l nm)) ∧ Below w.heap.size w w' := by
  have HR := Aside0.mk hr
  have HB0 : Aside0 (Below w.heap.size w (w.alloc (.cells #[.string nm] 9))) := ⟨below_alloc (Below.refl _ _) _⟩
  have HX0 : Aside0 ((w.alloc (.cells #[.string nm] 9)).heap[w.heap.size]? = some (.cells #[.string nm] 9 (0, 0))) := ⟨blk_new w _⟩
  have hq0 : (w.alloc (.cells #[.string nm] 9)).cell? ⟨g, 0, none⟩ = some (.slice A l.length c) := (blk_cell ((HB0.out.block _ (blk_lt hg)).trans hg) 0).trans rfl
  clear hg hr
  go_enter Try.func14, Try.ntmps14
  go_wp2_with (go_at_call 33; refine (index34 w.heap.size nm A c l _ (Kd.C_below HR.out HB0.out) HX0.out hl).mono ?_; rintro e w1 ⟨rfl, hb⟩; have HB := Aside0.mk (below_step HB0.out hb); clear hb)
  go_ret
  exact ⟨rfl, HB.out⟩

end Go.Proofs.Ytkogfjphpklioaa.QStoreNames
