import Derived.Test.YtfppafpkppjmlaaFeedF
/- Feed: walks of the feed's functions, by hand; the conditions stand in each theorem. -/
namespace Go.Proofs.Ytfppafpkppjmlaa.QFeedPlays
open Go.RowKit Go.Proofs.YtfppafpkppjmlaaW.PrintWords Go.Proofs.YtfppafpkppjmlaaW.PrintLast Go.Proofs.YtfppafpkppjmlaaW.PrintMore
attribute [local go_sem] max2_int min2_int max_two min_two max_three min_three max_four min_four
set_option linter.unusedVariables false
set_option linter.unusedSimpArgs false
theorem info35S : (Try.prog.info? 35).map (fun i => (i.zero, i.size, i.bytes)) = some (some (.agg #[.string (⟨#[]⟩ : ByteArray), .int .i64 0]), 2, 24) := by kernel_rfl
set_option maxHeartbeats 4000000 in
theorem feed_All (W : World) (own : Nat → Prop) (g : Nat) (most : Int) (n : Nat) (L : List S35) (h : Fd W own g most n L) :
    Calls Try.prog 10 #[.pointer (some ⟨g, 0, none⟩)] W fun e w' => ∃ A c, e = .returned (.slice A L.length c) ∧ L.length ≤ c ∧ Kd.Q k35 35 w' W.heap.size (fun _ => True) (.slice A L.length c) L ∧ Below W.heap.size W w' := by
  have HF := Aside0.mk h
  obtain ⟨⟨B, v, f, h1, h2, h3, h4, h5⟩, hnd, hkl, h0, h50, hlen, hwf⟩ := h
  obtain ⟨A0, c0, e0, hc0, hr0⟩ := Kd.Q_reads h1.keys
  subst e0
  have he : (keysOf L).length = L.length := by simp [keysOf]
  have HR := Aside0.mk hr0
  have HM := Aside0.mk h1.map
  have HB := Aside0.mk h1.blk
  have HLt := Aside0.mk (And.intro (blk_lt h1.blk) h1.ltB)
  have H5 := Aside0.mk h5
  have HND := Aside0.mk hnd
  have HKL := Aside0.mk hkl
  have hl3 : L.length ≤ 50 := by omega
  rw [he] at hc0
  have hc2 : W.cell? ⟨g, 2, none⟩ = some (.slice A0 L.length c0) := by rw [← he]; exact (blk_cell h1.blk 2).trans rfl
  clear h1 h2 h3 h4 h5 hnd hkl hr0 hwf
  go_enter Try.func10, Try.ntmps10
  go_wp2
  go_loopw [3, 12] (fun s3 s12 wr => ∃ (m : Nat) (v3 : Value), m ≤ L.length ∧ s12 = .int .i64 m ∧ s3 = v3 ∧ Aside0 (Kd.Q k35 35 wr W.heap.size (fun _ => True) v3 (L.take m)) ∧ Aside0 (Below W.heap.size W wr)) (fun _ i _ => L.length - (intOf i).toNat)
  case atStart => exact ⟨0, _, Nat.zero_le _, rfl, rfl, ⟨Kd.Q_nil _ _ _ _ _⟩, ⟨Below.refl _ _⟩⟩
  case round =>
    obtain ⟨m, v3, hm, rfl, rfl, HA, HU⟩ := hrel
    have hg0 := HU.out.size
    have hb0 : wr.heap[g]? = some (.cells #[.int .i64 most, .map (some B), .slice A0 (keysOf L).length c0] 48 (0, 0)) := (HU.out.block g HLt.out.1).trans HB.out
    have hd1 : wr.cell? ⟨g, 1, none⟩ = some (.map (some B)) := (blk_cell hb0 1).trans rfl
    clear hb0
    by_cases hlt : m < L.length
    · have HX := Aside0.mk (Kd.C_get HR.out (⟨#[]⟩ : ByteArray) (m : Int) (by omega) (by omega))
      obtain ⟨ad, cs, e, hcl, hK, hx⟩ := HX.out
      cases e
      have hcs : cs = [.string ((keysOf L).getD ((m : Int)).toNat ⟨#[]⟩)] := hK
      have hx0 := hx 0 _ (by rw [hcs]; rfl)
      have e1 : (keysOf L).getD ((m : Int)).toNat ⟨#[]⟩ = L[m].f0 := by
        rw [Int.toNat_natCast]
        simp [keysOf, List.getD_eq_getElem?_getD, List.getElem?_eq_getElem hlt]
      rw [e1, Int.toNat_natCast, Nat.add_zero, show m * Kd.string.sz = m from Nat.mul_one m] at hx0
      have hx1 := pw_cell_below HU.out hx0
      have hsz : L[m].f0.size ≤ maxLen := HKL.out _ (List.mem_map.2 ⟨L[m], List.getElem_mem hlt, rfl⟩)
      have hlook := map_at (map_far HM.out (HU.out.block B HLt.out.2)) L[m].f0 hsz
      rw [H5.out, look_at L HND.out m hlt] at hlook
      simp only [Option.getD_some] at hlook
      have HT := Aside0.mk (List.take_succ_eq_append_getElem hlt)
      have htl : (L.take m).length = m := by rw [List.length_take]; omega
      have HTL := Aside0.mk htl
      clear HX hx hcs hcl hK hx0 e1 hsz htl
      generalize L[m] = p at *
      go_wp2_with (first | ((with_reducible refine gate_builtin (b := .append) (xs := #[.tmp 16, .tmp 26]) rfl ?_); at_builtin; refine Kd.Q_append k35 (w0 := W) W.heap.size rfl (.tmp 16) (.tmp 26) 22 35 (.agg #[.string (⟨#[]⟩ : ByteArray), .int .i64 0]) 24 rfl Try.underlying22 info35S rfl (by decide) (by decide) _ (L.take m) p [.string p.f0, .int .i64 p.f1] (fun _ => True) (fun _ => False) rfl (by first | (go_simp; done) | (go_simp; rfl)) ?aP (fun _ hk => hk.elim) ?aF ?aO ?aB ?aS ?aL ?_; (case aP => exact k35_mkM _ _ _ p); (case aB => exact HU.out); (case aF => exact (fun _ _ => trivial)); (case aO => exact HA.out); (case aS => exact hg0); (case aL => rw [HTL.out]; omega); intro v4 w4 hq hb hgr hat; have HQ4 := Aside0.mk hq; have HB4 := Aside0.mk hb; clear hq hb hgr hat))
      go_roundw
      case rel => exact ⟨m + 1, _, by omega, by go_num, rfl, ⟨by rw [HT.out]; exact HQ4.out⟩, HB4⟩
      case measure => simp [intOf]; omega
    · have hk' : m = L.length := by omega
      have HA2 := HA.out
      rw [hk', List.take_length] at HA2
      obtain ⟨A9, c9, e9, hc9⟩ := Kd.Q_slice HA2
      subst e9
      have HA3 := Aside0.mk HA2
      have hle : L.length ≤ m := by omega
      clear hk' HA2
      go_wp2
      go_ret
      exact ⟨A9, c9, rfl, hc9, HA3.out, HU.out⟩

end Go.Proofs.Ytfppafpkppjmlaa.QFeedPlays
