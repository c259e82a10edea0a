import Derived.Test.YtacfemgmnfkjoaaBagD
/- Bag: walks of the bag's functions, by hand; the conditions stand in each theorem. -/
namespace Go.Proofs.Ytacfemgmnfkjoaa.QBag
open Go.RowKit Go.Proofs.YtacfemgmnfkjoaaW.PrintWords Go.Proofs.YtacfemgmnfkjoaaW.PrintLast Go.Proofs.YtacfemgmnfkjoaaW.PrintMore
attribute [local go_sem] max2_int min2_int max_two min_two max_three min_three max_four min_four
set_option linter.unusedVariables false
set_option linter.unusedSimpArgs false
theorem bag_Add (W : World) (own : Nat → Prop) (g n : Nat) (l : List ByteArray) (k : ByteArray) (h : Bg W own g n l) (hk : k.size ≤ maxLen) (hn : n < 4611686018427387904) :
    Calls Try.prog 17 #[.pointer (some ⟨g, 0, none⟩), .string k] W fun e w' => e = .returned (.tuple #[]) ∧ Bg w' (fun j => own j ∨ W.heap.size ≤ j) g (n + 1) (l ++ [k]) ∧ Upd own W w' := by
  have hln : l.length ≤ n := by obtain ⟨_, _, _, _, _, h⟩ := h; exact h
  have HA := Aside0.mk (bag_add W own g n (n + 1) l (l ++ [k]) k 1 h hk (by omega) (by omega) (by simp; omega) (by decide) (by decide) (fun s => by
    rw [List.count_append, List.count_singleton]
    by_cases c : s = k
    · subst c; simp
    · rw [if_neg c, if_neg (by simpa using fun e => c e.symm)]; simp) (by simp))
  clear h hln
  go_enter Try.func17, Try.ntmps17
  go_wp2_with (go_at_call 31; refine HA.out.mono ?_; rintro e w1 ⟨rfl, h1, h2⟩; have H1 := Aside0.mk h1; have H2 := Aside0.mk h2; clear h1 h2)
  first | go_end0 | (simp only [Exit.inBlock, Exit.then]; refine bodyPost_ret (results_none rfl _ _ _) rfl ?_) | refine bodyPost_ret (results_none rfl _ _ _) rfl ?_
  exact ⟨rfl, H1.out, H2.out⟩
theorem bag_Take (W : World) (own : Nat → Prop) (g n : Nat) (l : List ByteArray) (k : ByteArray) (h : Bg W own g n l) (hk : k.size ≤ maxLen) (hn : n < 4611686018427387904) :
    Calls Try.prog 15 #[.pointer (some ⟨g, 0, none⟩), .string k] W fun e w' => e = .returned (.bool (decide (0 < l.count k))) ∧ Bg w' (fun j => own j ∨ W.heap.size ≤ j) g (n + 1) (l.erase k) ∧ Upd own W w' := by
  have hln : l.length ≤ n := by obtain ⟨_, _, _, _, _, h⟩ := h; exact h
  have HC := Aside0.mk (bag_Count W own g n l k h hk)
  obtain ⟨cv, hcv⟩ : ∃ cv : Int, (l.count k : Int) = cv := ⟨_, rfl⟩
  rw [hcv] at HC
  by_cases hz : l.count k = 0
  · have HF := Aside0.mk h
    clear h
    obtain rfl : cv = 0 := by omega
    have hnot : k ∉ l := List.count_eq_zero.1 hz
    have hb : decide (0 < l.count k) = false := decide_eq_false (by omega)
    rw [hb, List.erase_of_not_mem hnot]
    clear hz hb hnot hcv
    go_enter Try.func15, Try.ntmps15
    go_wp2_with (go_at_call 12; refine HC.out.mono ?_; rintro e w1 ⟨rfl, rfl⟩)
    go_ret
    exact ⟨rfl, (HF.out.mono (Nat.le_succ n)).far (fun _ h => .inl h) (fun _ _ _ => rfl), Upd.refl _ _⟩
  · have hmem : k ∈ l := List.count_pos_iff.1 (by omega)
    have hlp := List.length_pos_of_mem hmem
    have hb : decide (0 < l.count k) = true := decide_eq_true (by omega)
    rw [hb]
    have hcz : ¬ cv = 0 := by omega
    have HA := Aside0.mk (bag_add W own g n (n + 1) l (l.erase k) k (-1) h hk (by omega) (by omega) (by rw [List.length_erase_of_mem hmem]; omega) (by decide) (by decide) (fun s => by
      rw [List.count_erase]
      by_cases c : s = k
      · subst c; simp; omega
      · rw [if_neg c, if_neg (by simpa using fun e => c e.symm)]; simp) (by rw [List.length_erase_of_mem hmem]; omega))
    clear h hz hmem hb hcv
    go_enter Try.func15, Try.ntmps15
    go_wp2_with (first
      | (go_at_call 12; refine HC.out.mono ?_; rintro e w1 ⟨rfl, rfl⟩)
      | (go_at_call 31; refine HA.out.mono ?_; rintro e w2 ⟨rfl, h1, h2⟩; have H1 := Aside0.mk h1; have H2 := Aside0.mk h2; clear h1 h2))
    go_ret
    exact ⟨rfl, H1.out, H2.out⟩
theorem at_str {w : World} {A : Option Addr} {n : Nat} {xs : List ByteArray} (h : Kd.C Kd.string w A n xs) (i : Nat) (hi : i < xs.length) : ∃ ad, A = some ad ∧ w.cell? (ad.add i) = some (.string xs[i]) := by
  obtain ⟨ad, cs, e, hcl, hK, hx⟩ := Kd.C_get h (⟨#[]⟩ : ByteArray) (i : Int) (by omega) (by have := h.1; omega)
  have hcs : cs = [.string (xs.getD ((i : Int)).toNat ⟨#[]⟩)] := hK
  have hx0 := hx 0 _ (by rw [hcs]; rfl)
  rw [Int.toNat_natCast, Nat.add_zero, show i * Kd.string.sz = i from Nat.mul_one i] at hx0
  refine ⟨ad, e, hx0.trans ?_⟩
  simp [List.getD_eq_getElem?_getD, List.getElem?_eq_getElem hi]
set_option maxHeartbeats 4000000 in
theorem bag_Of (W : World) (A : Option Addr) (c : Nat) (l : List ByteArray) (hr : Kd.C Kd.string W A l.length l) (hc : l.length ≤ c) (hk : ∀ s ∈ l, s.size ≤ maxLen) (hn : l.length < 4611686018427387904) :
    Calls Try.prog 10 #[.slice A l.length c] W fun e w' => ∃ g : Nat, e = .returned (.pointer (some ⟨g, 0, none⟩)) ∧ Bg w' (fun j => W.heap.size ≤ j ∧ j < w'.heap.size) g l.length l ∧ Below W.heap.size W w' := by
  have HR : Aside0 (∀ w', Below W.heap.size W w' → Kd.C Kd.string w' A l.length l) := ⟨fun w' hb => Kd.C_below hr hb⟩
  have HK := Aside0.mk hk
  clear hr hk
  go_enter Try.func10, Try.ntmps10
  go_wp2_with (go_at_call 21; refine (bag_New W).mono ?_; rintro e w1 ⟨g, rfl, h1, h2⟩; have H1 := Aside0.mk h1; have H2 := Aside0.mk h2; clear h1 h2)
  go_loopw [9] (fun s9 wr => ∃ m : Nat, m ≤ l.length ∧ s9 = .int .i64 m ∧ Aside0 (Bg wr (fun j => W.heap.size ≤ j) g m (l.take m)) ∧ Aside0 (Below W.heap.size W wr)) (fun i _ => l.length - (intOf i).toNat)
  case atStart => exact ⟨0, Nat.zero_le _, rfl, H1, H2⟩
  case round =>
    obtain ⟨m, hm, rfl, HA, HB⟩ := hrel
    by_cases hlt : m < l.length
    · obtain ⟨ad, e, hx0⟩ := at_str (HR.out wr HB.out) m hlt
      cases e
      have HT := Aside0.mk (List.take_succ_eq_append_getElem hlt)
      have HS := Aside0.mk (HK.out _ (List.getElem_mem hlt))
      generalize l[m] = s at *
      have HN := Aside0.mk (bag_Add wr _ g m (l.take m) s HA.out HS.out (by omega))
      go_wp2_with (go_at_call 17; refine HN.out.mono ?_; rintro e w2 ⟨rfl, h1, h2⟩; have H3 := Aside0.mk h1; have H4 := Aside0.mk h2; clear h1 h2)
      go_roundw
      case rel => exact ⟨m + 1, by omega, by go_num, ⟨by
        rw [HT.out]
        have := HB.out.size
        exact H3.out.far (fun j hj => by rcases hj with h | h; exact h; omega) (fun _ _ _ => rfl)⟩, ⟨below_upd HB.out H4.out (fun j hj => hj)⟩⟩
      case measure => simp [intOf]; omega
    · have hml : m = l.length := by omega
      have HA2 := HA.out
      rw [hml, List.take_length] at HA2
      have HA3 := Aside0.mk HA2
      clear HA2 HA
      subst hml
      go_wp2
      go_ret
      exact ⟨g, rfl, HA3.out.bound, HB.out⟩

end Go.Proofs.Ytacfemgmnfkjoaa.QBag
