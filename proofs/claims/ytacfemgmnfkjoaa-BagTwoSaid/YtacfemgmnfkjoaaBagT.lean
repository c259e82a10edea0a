import Derived.Test.YtacfemgmnfkjoaaBagS
/- Bag: walks of the bag's functions, by hand; the conditions stand in each theorem. -/
namespace Go.Proofs.Ytacfemgmnfkjoaa.QBag
open Go.RowKit Go.Proofs.YtacfemgmnfkjoaaW.PrintWords Go.Proofs.YtacfemgmnfkjoaaW.PrintLast Go.Proofs.YtacfemgmnfkjoaaW.PrintMore
attribute [local go_sem] max2_int min2_int max_two min_two max_three min_three max_four min_four
set_option linter.unusedVariables false
set_option linter.unusedSimpArgs false
theorem erase_at {L : List ByteArray} {s : ByteArray} {m : Nat} (hm : m < L.length) (h1 : s ∉ L.take m) (h2 : L[m] = s) : L.take m ++ L.drop (m + 1) = L.erase s := by
  have e : L.erase s = (L.take m ++ L.drop m).erase s := by rw [List.take_append_drop]
  rw [e, List.erase_append_right _ h1, List.drop_eq_getElem_cons hm, h2, List.erase_cons_head]
set_option maxHeartbeats 8000000 in
theorem ref_TakeB (W : World) (own : Nat → Prop) (g : Nat) (L : List ByteArray) (s : ByteArray) (h : RefB W own g L) (hl : (L.length + 1) * 16 ≤ 140737488355328) :
    Calls Try.prog 16 #[.pointer (some ⟨g, 0, none⟩), .string s] W fun e w' => e = .returned (.bool (decide (0 < L.count s))) ∧ RefB w' (fun j => own j ∨ W.heap.size ≤ j) g (L.erase s) ∧ Upd own W w' := by
  have HF := Aside0.mk h
  obtain ⟨A, c, h1, h2, h3, h4, h5⟩ := h
  have hgl := blk_lt h1
  have HG := Aside0.mk h1
  have HO := Aside0.mk h2
  have HSM := Aside0.mk h5
  have HC0 := (Kd.R_reads' h4).2.2
  have HC : Aside0 (∀ w', Below W.heap.size W w' → Kd.C Kd.string w' A L.length L) := ⟨fun w' hb => Kd.C_below HC0 hb⟩
  have hc0 : W.cell? ⟨g, 0, none⟩ = some (.slice A L.length c) := (blk_cell h1 0).trans rfl
  have hll : L.length + 1 ≤ 8796093022208 := by omega
  have HLL := Aside0.mk hll
  clear h1 h2 h4 h5 HC0 hl
  go_enter Try.func16, Try.ntmps16
  go_wp2
  go_loopw [5] (fun s5 wr => ∃ m : Nat, m ≤ L.length ∧ s5 = .int .i64 m ∧ Aside0 (s ∉ L.take m) ∧ wr = W) (fun i _ => L.length - (intOf i).toNat)
  case atStart => exact ⟨0, Nat.zero_le _, rfl, ⟨by simp⟩, rfl⟩
  case round =>
    obtain ⟨m, hm, rfl, HA, hw⟩ := hrel
    subst hw
    by_cases hlt : m < L.length
    · obtain ⟨ad, e, hx0⟩ := at_str (HC.out _ (Below.refl _ _)) m hlt
      cases e
      by_cases hx : L[m] = s
      · have HER := erase_at hlt HA.out hx
        have hcnt : decide (0 < L.count s) = true := decide_eq_true (List.count_pos_iff.2 (hx ▸ List.getElem_mem hlt))
        have HCNT := Aside0.mk hcnt
        have HMEM : Aside0 (∀ x ∈ L.erase s, x.size ≤ maxLen) := ⟨fun x h => HSM.out x (List.mem_of_mem_erase h)⟩
        have htl : (L.take m).length = m := by rw [List.length_take]; omega
        have HTL := Aside0.mk htl
        have HTK : Aside0 (∀ w', Below wr.heap.size wr w' → Kd.C Kd.string w' (some ad) m (L.take m)) := ⟨fun w' hb => by
          have h := Kd.C_take (HC.out w' hb) hm
          rw [htl] at h
          exact h⟩
        have hdl : (L.drop (m + 1)).length = L.length - (m + 1) := List.length_drop
        have HT3 := Aside0.mk HER
        have HTD : Aside0 (∀ w', Below wr.heap.size wr w' → Kd.C Kd.string w' (if c = m + 1 then some ad else some (ad.add (m + 1))) (L.length - (m + 1)) (L.drop (m + 1))) := ⟨fun w' hb => by
          have h := Kd.C_drop (c := c) (HC.out w' hb) (show m + 1 ≤ L.length from hlt) h3
          rw [hdl, show (m + 1) * Kd.string.sz = m + 1 from Nat.mul_one _] at h
          exact h⟩
        rw [hx] at hx0
        have hdd : Aside0 (c = m + 1 → L.length - (m + 1) = 0) := ⟨fun h => by omega⟩
        generalize hE : L.erase s = T3 at *
        have HE3 := Aside0.mk hE
        clear htl hdl hx HER hcnt hE
        generalize L.take m = T1 at *
        generalize L.drop (m + 1) = D1 at *
        have heq : (s.toList == s.toList) = true := beq_self_eq_true _
        by_cases hcm : c = m + 1
        · have hln : L.length = m + 1 := by omega
          have HTE : Aside0 (∀ w', Below wr.heap.size wr w' → Kd.C Kd.string w' (some ad) 0 D1) := ⟨fun w' hb => by
            have h := HTD.out w' hb
            rw [if_pos hcm, hdd.out hcm] at h
            exact h⟩
          clear HTD
          go_wp2_with (first
            | ((with_reducible refine gate_builtin (b := .append) (xs := #[.tmp 25, .tmp 31]) rfl ?_); at_builtin; refine Kd.R_append_rows Kd.string (w0 := wr) (Rr := fun x cs => cs = [.string x]) wr.heap.size rfl (.tmp 25) (.tmp 31) 22 9 (.string (⟨#[]⟩ : ByteArray)) 16 rfl Try.underlying22 infoS rfl (by decide) (by decide) _ [] T1 (some ad) m c (fun _ => True) (fun _ => False) (by first | (go_simp; done) | (go_simp; rfl)) (by first | (go_simp; done) | (go_simp; rfl)) ?aO ?aC (fun _ _ h => h) (fun _ hk => hk.elim) ?aF ?aB ?aS ?aL ?_; (case aO => exact Kd.R_nil _ _ _ _ _); (case aC => exact HTK.out _ (Below.refl _ _)); (case aF => exact (fun _ _ => trivial)); (case aB => exact Below.refl _ _); (case aS => exact Nat.le_refl _); (case aL => have := HLL.out; have := HTL.out; simp only [List.length_nil]; omega); intro v4 w4 hq hb hgr hat; rw [List.nil_append] at hq; obtain ⟨A4, c4, e9_, hc4, -⟩ := Kd.R_reads hq; subst e9_; have HQ4 := Aside0.mk hq; have HB4 := Aside0.mk hb; clear hq hb hgr hat; have hgA : w4.cell? ⟨g, 0, none⟩ = some (.slice (some ad) L.length c) := (blk_cell ((HB4.out.block g hgl).trans HG.out) 0).trans rfl)
            | ((with_reducible refine gate_builtin (b := .append) (xs := #[.tmp 34, .tmp 41]) rfl ?_); at_builtin; refine Kd.R_append_rows Kd.string (w0 := wr) (Rr := fun x cs => cs = [.string x]) wr.heap.size rfl (.tmp 34) (.tmp 41) 22 9 (.string (⟨#[]⟩ : ByteArray)) 16 rfl Try.underlying22 infoS rfl (by decide) (by decide) _ T1 D1 (some ad) 0 0 (fun _ => True) (fun _ => False) (by first | (go_simp; done) | (go_simp; rfl)) (by first | (go_simp; done) | (go_simp; rfl)) ?aO ?aC (fun _ _ h => h) (fun _ hk => hk.elim) ?aF ?aB ?aS ?aL ?_; (case aO => exact HQ4.out); (case aC => exact HTE.out _ HB4.out); (case aF => exact (fun _ _ => trivial)); (case aB => exact HB4.out); (case aS => exact HB4.out.size); (case aL => have := HLL.out; have := HTL.out; omega); intro v4 w4 hq hb hgr hat; rw [HT3.out] at hq; obtain ⟨A6, c6, e9_, hc6, -⟩ := Kd.R_reads hq; subst e9_; have HQ6 := Aside0.mk hq; have HB6 := Aside0.mk hb; clear hq hb hgr hat; have hgC : w4.cell? ⟨g, 0, none⟩ = some (.slice (some ad) L.length c) := (blk_cell ((HB6.out.block g hgl).trans HG.out) 0).trans rfl; have hgz := blk_frozen ((HB6.out.block g hgl).trans HG.out) 0))
          go_ret
          rw [HCNT.out, HE3.out]
          exact ⟨rfl, (ref_doneB HO.out hgl HG.out HQ6.out HB6.out HMEM.out).1, (ref_doneB HO.out hgl HG.out HQ6.out HB6.out HMEM.out).2⟩
        · have HTE : Aside0 (∀ w', Below wr.heap.size wr w' → Kd.C Kd.string w' (some (ad.add (m + 1))) (L.length - (m + 1)) D1) := ⟨fun w' hb => by
            have h := HTD.out w' hb
            rw [if_neg hcm] at h
            exact h⟩
          clear HTD
          go_wp2_with (first
            | ((with_reducible refine gate_builtin (b := .append) (xs := #[.tmp 25, .tmp 31]) rfl ?_); at_builtin; refine Kd.R_append_rows Kd.string (w0 := wr) (Rr := fun x cs => cs = [.string x]) wr.heap.size rfl (.tmp 25) (.tmp 31) 22 9 (.string (⟨#[]⟩ : ByteArray)) 16 rfl Try.underlying22 infoS rfl (by decide) (by decide) _ [] T1 (some ad) m c (fun _ => True) (fun _ => False) (by first | (go_simp; done) | (go_simp; rfl)) (by first | (go_simp; done) | (go_simp; rfl)) ?aO ?aC (fun _ _ h => h) (fun _ hk => hk.elim) ?aF ?aB ?aS ?aL ?_; (case aO => exact Kd.R_nil _ _ _ _ _); (case aC => exact HTK.out _ (Below.refl _ _)); (case aF => exact (fun _ _ => trivial)); (case aB => exact Below.refl _ _); (case aS => exact Nat.le_refl _); (case aL => have := HLL.out; have := HTL.out; simp only [List.length_nil]; omega); intro v4 w4 hq hb hgr hat; rw [List.nil_append] at hq; obtain ⟨A4, c4, e9_, hc4, -⟩ := Kd.R_reads hq; subst e9_; have HQ4 := Aside0.mk hq; have HB4 := Aside0.mk hb; clear hq hb hgr hat; have hgA : w4.cell? ⟨g, 0, none⟩ = some (.slice (some ad) L.length c) := (blk_cell ((HB4.out.block g hgl).trans HG.out) 0).trans rfl)
            | ((with_reducible refine gate_builtin (b := .append) (xs := #[.tmp 34, .tmp 41]) rfl ?_); at_builtin; refine Kd.R_append_rows Kd.string (w0 := wr) (Rr := fun x cs => cs = [.string x]) wr.heap.size rfl (.tmp 34) (.tmp 41) 22 9 (.string (⟨#[]⟩ : ByteArray)) 16 rfl Try.underlying22 infoS rfl (by decide) (by decide) _ T1 D1 (some (ad.add (m + 1))) (L.length - (m + 1)) (c - (m + 1)) (fun _ => True) (fun _ => False) (by first | (go_simp; done) | (go_simp; rfl)) (by first | (go_simp; done) | (go_simp; rfl)) ?aO ?aC (fun _ _ h => h) (fun _ hk => hk.elim) ?aF ?aB ?aS ?aL ?_; (case aO => exact HQ4.out); (case aC => exact HTE.out _ HB4.out); (case aF => exact (fun _ _ => trivial)); (case aB => exact HB4.out); (case aS => exact HB4.out.size); (case aL => have := HLL.out; have := HTL.out; omega); intro v4 w4 hq hb hgr hat; rw [HT3.out] at hq; obtain ⟨A6, c6, e9_, hc6, -⟩ := Kd.R_reads hq; subst e9_; have HQ6 := Aside0.mk hq; have HB6 := Aside0.mk hb; clear hq hb hgr hat; have hgC : w4.cell? ⟨g, 0, none⟩ = some (.slice (some ad) L.length c) := (blk_cell ((HB6.out.block g hgl).trans HG.out) 0).trans rfl; have hgz := blk_frozen ((HB6.out.block g hgl).trans HG.out) 0))
          go_ret
          rw [HCNT.out, HE3.out]
          exact ⟨rfl, (ref_doneB HO.out hgl HG.out HQ6.out HB6.out HMEM.out).1, (ref_doneB HO.out hgl HG.out HQ6.out HB6.out HMEM.out).2⟩
      · have HT := Aside0.mk (List.take_succ_eq_append_getElem hlt)
        generalize L[m] = x at *
        have heq : (x.toList == s.toList) = false := by rw [eqS, decide_eq_false hx]
        have HX := Aside0.mk hx
        clear hx
        go_wp2
        go_roundw
        case rel => exact ⟨m + 1, by omega, by go_num, ⟨fun hy => by
          rw [HT.out, List.mem_append] at hy
          rcases hy with hy | hy
          · exact HA.out hy
          · have : s = x := by simpa using hy
            exact HX.out this.symm⟩, trivial⟩
        case measure => simp [intOf]; omega
    · have hnot : s ∉ L := by
        have := HA.out
        rw [List.take_of_length_le (by omega)] at this
        exact this
      have hcnt : decide (0 < L.count s) = false := decide_eq_false (by rw [List.count_eq_zero.2 hnot]; omega)
      have HCNT := Aside0.mk hcnt
      have HER := Aside0.mk (List.erase_of_not_mem hnot)
      clear hnot hcnt
      go_wp2
      go_ret
      rw [HCNT.out, HER.out]
      exact ⟨rfl, HF.out.far (fun _ h => .inl h) (fun _ _ _ => rfl), Upd.refl _ _⟩

end Go.Proofs.Ytacfemgmnfkjoaa.QBag
