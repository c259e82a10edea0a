import Derived.Test.YtacfemgmnfkjoaaBagR
import Derived.Test.YtacfemgmnfkjoaaBagL
/- Bag: walks of the bag's functions, by hand; the conditions stand in each theorem. -/
namespace Go.Proofs.Ytacfemgmnfkjoaa.QBag
open Go.RowKit Go.Proofs.YtacfemgmnfkjoaaW.PrintWords Go.Proofs.YtacfemgmnfkjoaaW.PrintLast Go.Proofs.YtacfemgmnfkjoaaW.PrintMore
attribute [local go_sem] max2_int min2_int max_two min_two max_three min_three max_four min_four
set_option linter.unusedVariables false
set_option linter.unusedSimpArgs false
set_option maxHeartbeats 8000000 in
theorem ref_AddB (W : World) (own : Nat → Prop) (g : Nat) (L : List ByteArray) (s : ByteArray) (h : RefB W own g L) (hs : s.size ≤ maxLen) (hl : (L.length + 1) * 16 ≤ 140737488355328) :
    Calls Try.prog 18 #[.pointer (some ⟨g, 0, none⟩), .string s] W fun e w' => ∃ L', e = .returned (.tuple #[]) ∧ RefB w' (fun j => own j ∨ W.heap.size ≤ j) g L' ∧ L'.Perm (L ++ [s]) ∧ (SortedB L → SortedB L') ∧ Upd own W w' := by
  obtain ⟨A, c, h1, h2, h3, h4, h5⟩ := h
  have hgl := blk_lt h1
  have HG := Aside0.mk h1
  have HO := Aside0.mk h2
  have HSM := Aside0.mk h5
  have HC0 := (Kd.R_reads' h4).2.2
  have HC : Aside0 (∀ w', Below W.heap.size W w' → Kd.C Kd.string w' A L.length L) := ⟨fun w' hb => Kd.C_below HC0 hb⟩
  have hc0 : W.cell? ⟨g, 0, none⟩ = some (.slice A L.length c) := (blk_cell h1 0).trans rfl
  have HSZ := Aside0.mk hs
  have hll : L.length + 1 ≤ 8796093022208 := by omega
  have HLL := Aside0.mk hll
  clear h1 h2 h4 h5 HC0 hs hl
  go_enter Try.func18, Try.ntmps18
  go_wp2
  go_loopw [4] (fun s4 wr => ∃ m : Nat, m ≤ L.length ∧ s4 = .int .i64 m ∧ Aside0 (∀ x ∈ L.take m, ¬ ltB s x) ∧ wr = W) (fun i _ => L.length - (intOf i).toNat)
  case atStart => exact ⟨0, Nat.zero_le _, rfl, ⟨fun x hx => by simp at hx⟩, rfl⟩
  case round =>
    obtain ⟨m, hm, rfl, HA, hw⟩ := hrel
    subst hw
    by_cases hgo : ∃ h : m < L.length, ¬ ltB s L[m]
    · obtain ⟨hlt, hle⟩ := hgo
      obtain ⟨ad, e, hx0⟩ := at_str (HC.out _ (Below.refl _ _)) m hlt
      cases e
      have HT := Aside0.mk (List.take_succ_eq_append_getElem hlt)
      generalize L[m] = x at *
      have hle2 : (Op.bytesLess x.toList s.toList || x.toList == s.toList) = true := by rw [leS_eq, decide_eq_false hle]; rfl
      have HLE := Aside0.mk hle
      clear hle
      go_wp2
      go_roundw
      case rel => exact ⟨m + 1, by omega, by go_num, ⟨fun y hy => by
        rw [HT.out, List.mem_append] at hy
        rcases hy with hy | hy
        · exact HA.out y hy
        · have : y = x := by simpa using hy
          rw [this]
          exact HLE.out⟩, trivial⟩
      case measure => simp [intOf]; omega
    · have h2 : ∀ (h : m < L.length), ltB s L[m] := fun h => by
        by_cases c : ltB s L[m]
        · exact c
        · exact absurd ⟨h, c⟩ hgo
      have HSORT : Aside0 (SortedB L → SortedB (L.take m ++ [s] ++ L.drop m)) := ⟨fun hL => ins_sorted hL HA.out h2⟩
      have HPERM := Aside0.mk (ins_perm L s m)
      have HMEM : Aside0 (∀ x ∈ L.take m ++ [s] ++ L.drop m, x.size ≤ maxLen) := ⟨fun x hx => by
        rcases List.mem_append.1 (HPERM.out.mem_iff.1 hx) with h | h
        · exact HSM.out x h
        · have : x = s := by simpa using h
          rw [this]
          exact HSZ.out⟩
      have htl : (L.take m).length = m := by rw [List.length_take]; omega
      have HTL := Aside0.mk htl
      have HTK : Aside0 (∀ w', Below wr.heap.size wr w' → Kd.C Kd.string w' A m (L.take m)) := ⟨fun w' hb => by
        have h := Kd.C_take (HC.out w' hb) hm
        rw [htl] at h
        exact h⟩
      have hdl : (L.drop m).length = L.length - m := List.length_drop
      obtain ⟨T2, hT2⟩ : ∃ T2, L.take m ++ [s] = T2 := ⟨_, rfl⟩
      obtain ⟨T3, hT3⟩ : ∃ T3, T2 ++ L.drop m = T3 := ⟨_, rfl⟩
      have HTL2 : Aside0 (T2.length = m + 1) := ⟨by rw [← hT2, List.length_append, htl, List.length_singleton]⟩
      rw [hT2, hT3] at HSORT HPERM HMEM
      have HT2 := Aside0.mk hT2
      have HT3 := Aside0.mk hT3
      clear htl hT2 hT3
      rcases (show (∃ h : m < L.length, (Op.bytesLess (L[m]).toList s.toList || (L[m]).toList == s.toList) = false) ∨ m = L.length by
        by_cases c : m < L.length
        · exact .inl ⟨c, by rw [leS_eq, decide_eq_true (h2 c)]; rfl⟩
        · exact .inr (by omega)) with ⟨hlt, hle2⟩ | hml
      · obtain ⟨ad, e, hx0⟩ := at_str (HC.out _ (Below.refl _ _)) m hlt
        cases e
        generalize L[m] = x at *
        clear h2 hgo
        have hcm : ¬ c = m := by omega
        have HTD : Aside0 (∀ w', Below wr.heap.size wr w' → Kd.C Kd.string w' (some (ad.add m)) (L.length - m) (L.drop m)) := ⟨fun w' hb => by
          have h := Kd.C_drop (c := c) (HC.out w' hb) hm h3
          rw [if_neg hcm, hdl, show m * Kd.string.sz = m from Nat.mul_one m] at h
          exact h⟩
        clear hdl
        generalize L.take m = T1 at *
        generalize L.drop m = D1 at *
        go_wp2_with (first
          | ((with_reducible refine gate_builtin (b := .append) (xs := #[.tmp 26, .tmp 32]) rfl ?_); at_builtin; refine Kd.R_append_rows Kd.string (w0 := wr) (Rr := fun x cs => cs = [.string x]) wr.heap.size rfl (.tmp 26) (.tmp 32) 22 9 (.string (⟨#[]⟩ : ByteArray)) 16 rfl Try.underlying22 infoS rfl (by decide) (by decide) _ [] T1 (some ad) m c (fun _ => True) (fun _ => False) (by first | (go_simp; done) | (go_simp; rfl)) (by first | (go_simp; done) | (go_simp; rfl)) ?aO ?aC (fun _ _ h => h) (fun _ hk => hk.elim) ?aF ?aB ?aS ?aL ?_; (case aO => exact Kd.R_nil _ _ _ _ _); (case aC => exact HTK.out _ (Below.refl _ _)); (case aF => exact (fun _ _ => trivial)); (case aB => exact Below.refl _ _); (case aS => exact Nat.le_refl _); (case aL => have := HLL.out; have := HTL.out; simp only [List.length_nil]; omega); intro v4 w4 hq hb hgr hat; rw [List.nil_append] at hq; obtain ⟨A4, c4, e9_, hc4, -⟩ := Kd.R_reads hq; subst e9_; have HQ4 := Aside0.mk hq; have HB4 := Aside0.mk hb; clear hq hb hgr hat; have hgA : w4.cell? ⟨g, 0, none⟩ = some (.slice (some ad) L.length c) := (blk_cell ((HB4.out.block g hgl).trans HG.out) 0).trans rfl)
          | ((with_reducible refine gate_builtin (b := .append) (xs := #[.tmp 34, .tmp 36]) rfl ?_); at_builtin; refine Kd.R_append Kd.string (w0 := wr) wr.heap.size rfl (.tmp 34) (.tmp 36) 22 9 (.string (⟨#[]⟩ : ByteArray)) 16 rfl Try.underlying22 infoS rfl (by decide) (by decide) _ T1 s [.string s] (fun _ => True) (fun _ => False) (by first | (go_simp; done) | (go_simp; rfl)) (by first | (go_simp; done) | (go_simp; rfl)) ?aP (fun _ hk => hk.elim) ?aF ?aO ?aB ?aS ?aL ?_; (case aP => exact rfl); (case aF => exact (fun _ _ => trivial)); (case aO => exact HQ4.out); (case aB => exact HB4.out); (case aS => exact HB4.out.size); (case aL => have := HLL.out; have := HTL.out; omega); intro v4 w4 hq hb hgr hat; rw [HT2.out] at hq; obtain ⟨A5, c5, e9_, hc5, -⟩ := Kd.R_reads hq; subst e9_; have HQ5 := Aside0.mk hq; have HB5 := Aside0.mk hb; clear hq hb hgr hat; have hgB : w4.cell? ⟨g, 0, none⟩ = some (.slice (some ad) L.length c) := (blk_cell ((HB5.out.block g hgl).trans HG.out) 0).trans rfl)
          | ((with_reducible refine gate_builtin (b := .append) (xs := #[.tmp 39, .tmp 45]) rfl ?_); at_builtin; refine Kd.R_append_rows Kd.string (w0 := wr) (Rr := fun x cs => cs = [.string x]) wr.heap.size rfl (.tmp 39) (.tmp 45) 22 9 (.string (⟨#[]⟩ : ByteArray)) 16 rfl Try.underlying22 infoS rfl (by decide) (by decide) _ T2 D1 (some (ad.add m)) (L.length - m) (c - m) (fun _ => True) (fun _ => False) (by first | (go_simp; done) | (go_simp; rfl)) (by first | (go_simp; done) | (go_simp; rfl)) ?aO ?aC (fun _ _ h => h) (fun _ hk => hk.elim) ?aF ?aB ?aS ?aL ?_; (case aO => exact HQ5.out); (case aC => exact HTD.out _ HB5.out); (case aF => exact (fun _ _ => trivial)); (case aB => exact HB5.out); (case aS => exact HB5.out.size); (case aL => have := HLL.out; have := HTL.out; have := HTL2.out; omega); intro v4 w4 hq hb hgr hat; rw [HT3.out] at hq; obtain ⟨A6, c6, e9_, hc6, -⟩ := Kd.R_reads hq; subst e9_; have HQ6 := Aside0.mk hq; have HB6 := Aside0.mk hb; clear hq hb hgr hat; have hgC : w4.cell? ⟨g, 0, none⟩ = some (.slice (some ad) L.length c) := (blk_cell ((HB6.out.block g hgl).trans HG.out) 0).trans rfl; have hgz := blk_frozen ((HB6.out.block g hgl).trans HG.out) 0))
        first | go_end0 | (simp only [Exit.inBlock, Exit.then]; refine bodyPost_ret (results_none rfl _ _ _) rfl ?_) | refine bodyPost_ret (results_none rfl _ _ _) rfl ?_
        exact ⟨T3, rfl, (ref_doneB HO.out hgl HG.out HQ6.out HB6.out HMEM.out).1, HPERM.out, HSORT.out, (ref_doneB HO.out hgl HG.out HQ6.out HB6.out HMEM.out).2⟩
      · subst hml
        have HTD : Aside0 (∀ w' A', Kd.C Kd.string w' A' 0 (L.drop L.length)) := ⟨fun w' A' => by
          rw [List.drop_length]
          exact ⟨rfl, by decide, fun h => absurd h (by decide)⟩⟩
        clear hdl h2 hgo
        generalize L.take L.length = T1 at *
        generalize L.drop L.length = D1 at *
        by_cases hcm : c = L.length
        · subst hcm
          go_wp2_with (first
            | ((with_reducible refine gate_builtin (b := .append) (xs := #[.tmp 26, .tmp 32]) rfl ?_); at_builtin; refine Kd.R_append_rows Kd.string (w0 := wr) (Rr := fun x cs => cs = [.string x]) wr.heap.size rfl (.tmp 26) (.tmp 32) 22 9 (.string (⟨#[]⟩ : ByteArray)) 16 rfl Try.underlying22 infoS rfl (by decide) (by decide) _ [] T1 A L.length L.length (fun _ => True) (fun _ => False) (by first | (go_simp; done) | (go_simp; rfl)) (by first | (go_simp; done) | (go_simp; rfl)) ?aO ?aC (fun _ _ h => h) (fun _ hk => hk.elim) ?aF ?aB ?aS ?aL ?_; (case aO => exact Kd.R_nil _ _ _ _ _); (case aC => exact HTK.out _ (Below.refl _ _)); (case aF => exact (fun _ _ => trivial)); (case aB => exact Below.refl _ _); (case aS => exact Nat.le_refl _); (case aL => have := HLL.out; have := HTL.out; simp only [List.length_nil]; omega); intro v4 w4 hq hb hgr hat; rw [List.nil_append] at hq; obtain ⟨A4, c4, e9_, hc4, -⟩ := Kd.R_reads hq; subst e9_; have HQ4 := Aside0.mk hq; have HB4 := Aside0.mk hb; clear hq hb hgr hat; have hgA : w4.cell? ⟨g, 0, none⟩ = some (.slice A L.length L.length) := (blk_cell ((HB4.out.block g hgl).trans HG.out) 0).trans rfl)
            | ((with_reducible refine gate_builtin (b := .append) (xs := #[.tmp 34, .tmp 36]) rfl ?_); at_builtin; refine Kd.R_append Kd.string (w0 := wr) wr.heap.size rfl (.tmp 34) (.tmp 36) 22 9 (.string (⟨#[]⟩ : ByteArray)) 16 rfl Try.underlying22 infoS rfl (by decide) (by decide) _ T1 s [.string s] (fun _ => True) (fun _ => False) (by first | (go_simp; done) | (go_simp; rfl)) (by first | (go_simp; done) | (go_simp; rfl)) ?aP (fun _ hk => hk.elim) ?aF ?aO ?aB ?aS ?aL ?_; (case aP => exact rfl); (case aF => exact (fun _ _ => trivial)); (case aO => exact HQ4.out); (case aB => exact HB4.out); (case aS => exact HB4.out.size); (case aL => have := HLL.out; have := HTL.out; omega); intro v4 w4 hq hb hgr hat; rw [HT2.out] at hq; obtain ⟨A5, c5, e9_, hc5, -⟩ := Kd.R_reads hq; subst e9_; have HQ5 := Aside0.mk hq; have HB5 := Aside0.mk hb; clear hq hb hgr hat; have hgB : w4.cell? ⟨g, 0, none⟩ = some (.slice A L.length L.length) := (blk_cell ((HB5.out.block g hgl).trans HG.out) 0).trans rfl)
            | ((with_reducible refine gate_builtin (b := .append) (xs := #[.tmp 39, .tmp 45]) rfl ?_); at_builtin; refine Kd.R_append_rows Kd.string (w0 := wr) (Rr := fun x cs => cs = [.string x]) wr.heap.size rfl (.tmp 39) (.tmp 45) 22 9 (.string (⟨#[]⟩ : ByteArray)) 16 rfl Try.underlying22 infoS rfl (by decide) (by decide) _ T2 D1 A 0 0 (fun _ => True) (fun _ => False) (by first | (go_simp; done) | (go_simp; rfl)) (by first | (go_simp; done) | (go_simp; rfl)) ?aO ?aC (fun _ _ h => h) (fun _ hk => hk.elim) ?aF ?aB ?aS ?aL ?_; (case aO => exact HQ5.out); (case aC => exact HTD.out _ _); (case aF => exact (fun _ _ => trivial)); (case aB => exact HB5.out); (case aS => exact HB5.out.size); (case aL => have := HLL.out; have := HTL.out; have := HTL2.out; omega); intro v4 w4 hq hb hgr hat; rw [HT3.out] at hq; obtain ⟨A6, c6, e9_, hc6, -⟩ := Kd.R_reads hq; subst e9_; have HQ6 := Aside0.mk hq; have HB6 := Aside0.mk hb; clear hq hb hgr hat; have hgC : w4.cell? ⟨g, 0, none⟩ = some (.slice A L.length L.length) := (blk_cell ((HB6.out.block g hgl).trans HG.out) 0).trans rfl; have hgz := blk_frozen ((HB6.out.block g hgl).trans HG.out) 0))
          first | go_end0 | (simp only [Exit.inBlock, Exit.then]; refine bodyPost_ret (results_none rfl _ _ _) rfl ?_) | refine bodyPost_ret (results_none rfl _ _ _) rfl ?_
          exact ⟨T3, rfl, (ref_doneB HO.out hgl HG.out HQ6.out HB6.out HMEM.out).1, HPERM.out, HSORT.out, (ref_doneB HO.out hgl HG.out HQ6.out HB6.out HMEM.out).2⟩
        · have hcm2 : ¬ L.length = c := fun h => hcm h.symm
          go_wp2_with (first
            | ((with_reducible refine gate_builtin (b := .append) (xs := #[.tmp 26, .tmp 32]) rfl ?_); at_builtin; refine Kd.R_append_rows Kd.string (w0 := wr) (Rr := fun x cs => cs = [.string x]) wr.heap.size rfl (.tmp 26) (.tmp 32) 22 9 (.string (⟨#[]⟩ : ByteArray)) 16 rfl Try.underlying22 infoS rfl (by decide) (by decide) _ [] T1 A L.length c (fun _ => True) (fun _ => False) (by first | (go_simp; done) | (go_simp; rfl)) (by first | (go_simp; done) | (go_simp; rfl)) ?aO ?aC (fun _ _ h => h) (fun _ hk => hk.elim) ?aF ?aB ?aS ?aL ?_; (case aO => exact Kd.R_nil _ _ _ _ _); (case aC => exact HTK.out _ (Below.refl _ _)); (case aF => exact (fun _ _ => trivial)); (case aB => exact Below.refl _ _); (case aS => exact Nat.le_refl _); (case aL => have := HLL.out; have := HTL.out; simp only [List.length_nil]; omega); intro v4 w4 hq hb hgr hat; rw [List.nil_append] at hq; obtain ⟨A4, c4, e9_, hc4, -⟩ := Kd.R_reads hq; subst e9_; have HQ4 := Aside0.mk hq; have HB4 := Aside0.mk hb; clear hq hb hgr hat; have hgA : w4.cell? ⟨g, 0, none⟩ = some (.slice A L.length c) := (blk_cell ((HB4.out.block g hgl).trans HG.out) 0).trans rfl)
            | ((with_reducible refine gate_builtin (b := .append) (xs := #[.tmp 34, .tmp 36]) rfl ?_); at_builtin; refine Kd.R_append Kd.string (w0 := wr) wr.heap.size rfl (.tmp 34) (.tmp 36) 22 9 (.string (⟨#[]⟩ : ByteArray)) 16 rfl Try.underlying22 infoS rfl (by decide) (by decide) _ T1 s [.string s] (fun _ => True) (fun _ => False) (by first | (go_simp; done) | (go_simp; rfl)) (by first | (go_simp; done) | (go_simp; rfl)) ?aP (fun _ hk => hk.elim) ?aF ?aO ?aB ?aS ?aL ?_; (case aP => exact rfl); (case aF => exact (fun _ _ => trivial)); (case aO => exact HQ4.out); (case aB => exact HB4.out); (case aS => exact HB4.out.size); (case aL => have := HLL.out; have := HTL.out; omega); intro v4 w4 hq hb hgr hat; rw [HT2.out] at hq; obtain ⟨A5, c5, e9_, hc5, -⟩ := Kd.R_reads hq; subst e9_; have HQ5 := Aside0.mk hq; have HB5 := Aside0.mk hb; clear hq hb hgr hat; have hgB : w4.cell? ⟨g, 0, none⟩ = some (.slice A L.length c) := (blk_cell ((HB5.out.block g hgl).trans HG.out) 0).trans rfl)
            | ((with_reducible refine gate_builtin (b := .append) (xs := #[.tmp 39, .tmp 45]) rfl ?_); at_builtin; refine Kd.R_append_rows Kd.string (w0 := wr) (Rr := fun x cs => cs = [.string x]) wr.heap.size rfl (.tmp 39) (.tmp 45) 22 9 (.string (⟨#[]⟩ : ByteArray)) 16 rfl Try.underlying22 infoS rfl (by decide) (by decide) _ T2 D1 (A.map (·.add L.length)) 0 (c - L.length) (fun _ => True) (fun _ => False) (by first | (go_simp; done) | (go_simp; rfl)) (by first | (go_simp; done) | (go_simp; rfl)) ?aO ?aC (fun _ _ h => h) (fun _ hk => hk.elim) ?aF ?aB ?aS ?aL ?_; (case aO => exact HQ5.out); (case aC => exact HTD.out _ _); (case aF => exact (fun _ _ => trivial)); (case aB => exact HB5.out); (case aS => exact HB5.out.size); (case aL => have := HLL.out; have := HTL.out; have := HTL2.out; omega); intro v4 w4 hq hb hgr hat; rw [HT3.out] at hq; obtain ⟨A6, c6, e9_, hc6, -⟩ := Kd.R_reads hq; subst e9_; have HQ6 := Aside0.mk hq; have HB6 := Aside0.mk hb; clear hq hb hgr hat; have hgC : w4.cell? ⟨g, 0, none⟩ = some (.slice A L.length c) := (blk_cell ((HB6.out.block g hgl).trans HG.out) 0).trans rfl; have hgz := blk_frozen ((HB6.out.block g hgl).trans HG.out) 0))
          first | go_end0 | (simp only [Exit.inBlock, Exit.then]; refine bodyPost_ret (results_none rfl _ _ _) rfl ?_) | refine bodyPost_ret (results_none rfl _ _ _) rfl ?_
          exact ⟨T3, rfl, (ref_doneB HO.out hgl HG.out HQ6.out HB6.out HMEM.out).1, HPERM.out, HSORT.out, (ref_doneB HO.out hgl HG.out HQ6.out HB6.out HMEM.out).2⟩

end Go.Proofs.Ytacfemgmnfkjoaa.QBag
