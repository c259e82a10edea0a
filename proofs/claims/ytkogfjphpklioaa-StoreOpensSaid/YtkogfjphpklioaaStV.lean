import Derived.Test.YtkogfjphpklioaaStU
import Derived.Deep.RegionHeld3
/- Store: walks by hand; the conditions stand in each theorem. -/
namespace Go.Proofs.Ytkogfjphpklioaa.QStoreNames
open Go.RowKit Go.Proofs.YtkogfjphpklioaaW.PrintWords Go.Proofs.YtkogfjphpklioaaW.PrintLast Go.Proofs.YtkogfjphpklioaaW.PrintMore
attribute [local go_sem] max2_int min2_int max_two min_two max_three min_three max_four min_four
set_option linter.unusedVariables false
set_option linter.unusedSimpArgs false
attribute [local go_sem high] eqA36 eqA38
def z33c : S33 := ⟨⟨#[]⟩, [], []⟩
set_option maxRecDepth 20000 in
set_option maxHeartbeats 8000000 in
theorem opens_walk (W : World) (A : Option Addr) (c : Nat) (l : List S33) (nm : ByteArray) (tb n : Int) (hw : ShB W) (hr : Kd.C k33 W A l.length l) (hc : l.length ≤ c) (hl : szL 64 sz33 l) :
    Calls Try.prog 6 #[.slice A l.length c, .string nm, .int .i64 tb, .int .i64 n] W fun e w' => e = .returned (.bool true) ∧ Below W.heap.size W w' := by
  have hl1 : l.length ≤ 9223372036854775807 := hr.2.1
  have HW := Aside0.mk hw
  have HR := Aside0.mk hr
  have HC := Aside0.mk hc
  have HL := Aside0.mk hl
  clear hw hr hc hl
  go_enter Try.func6, Try.ntmps6
  go_upto_block 0 with (first | (go_at_call 8; refine (examples_true W HW.out).mono ?_; rintro e w1 ⟨rfl, hb⟩; have HB1 := Aside0.mk hb; clear hb))
  go_cut [10] (fun s10 wx => Aside0 (Kd.R k33 33 wx W.heap.size (fun _ => True) s10 l) ∧ Aside0 (Below W.heap.size W wx))
  case first =>
    clear HC
    go_wp2
    go_loopw [10, 11] (fun s10 s11 wr => ∃ k : Nat, k ≤ l.length ∧ s11 = .int .i64 k ∧ Aside0 (Kd.R k33 33 wr W.heap.size (fun _ => True) s10 (l.take k)) ∧ Aside0 (Below W.heap.size W wr)) (fun _ s11 _ => l.length - (intOf s11).toNat)
    case atStart => exact ⟨0, Nat.zero_le _, rfl, ⟨Kd.R_nil _ _ _ _ _⟩, HB1⟩
    case round =>
      obtain ⟨k, hk, rfl, HO, HB⟩ := hrel
      by_cases hlt : k < l.length
      · obtain ⟨ad, A1, c1, A2, c2, e, hx0, hx1, hx2, hc1, hC1, hc2, hC2⟩ := at33 (Kd.C_below HR.out HB.out) k hlt
        cases e
        have HT := Aside0.mk (List.take_succ_eq_append_getElem hlt)
        have HS := Aside0.mk (HL.out.1 _ (List.getElem_mem hlt))
        have HLT : Aside0 ((l.take k).length * 64 + 64 ≤ 140737488351232) := ⟨by have := HL.out.2.1; rw [List.length_take]; omega⟩
        have HC1 := Aside0.mk hC1
        have HC2 := Aside0.mk hC2
        have X2 := Aside0.mk hx2
        clear hC1 hC2
        generalize l[k] = t at *
        generalize l.take k = xs at *
        go_upto_region 6 with fail
        go_cut [12] (fun s12 wx => ∃ b : Nat, s12 = .pointer (some ⟨b, 0, none⟩) ∧ Aside0 (OpBox wr wx b t))
        case first =>
          as_aux_lemma =>
            have hI33 := info33
            have hwd : (wr.alloc (.cells #[.string ⟨#[]⟩, .slice none 0 0, .slice none 0 0] 33)).drew.heap.size = wr.heap.size + 1 := by simp
            have hblk : (ad.add (k * 3)).block < wr.heap.size := World.block_lt_of_cell? wr _ hx0
            have hl6 : ([] : List S38).length + t.f1.length ≤ 140737488355328 / 24 := by have := HS.out.2.1.2.1; simp only [List.length_nil]; omega
            go_region_held3 (fun w' => w'.cell? (ad.add (k * 3)) = some (.string t.f0) ∧ w'.cell? ⟨(ad.add (k * 3)).block, (ad.add (k * 3)).off + 1, none⟩ = some (.slice A1 t.f1.length c1))
              ((go_split_ands; (first | (refine ⟨?_, ?_⟩ <;> (first | assumption | exact cells_later (by assumption) (by assumption) | exact cells_a0 (by assumption) | exact cells_grown0 (by assumption) (by assumption) | ((repeat (refine cells_set ?_ (Nat.ne_of_lt hblk))); assumption) | ((repeat (refine cells_set ?_ (Nat.ne_of_lt hblk))); exact cells_a0 (by assumption)) | exact cells_swap (by assumption) (by assumption) hblk | (simp [*]; done))) | (first | assumption | exact cells_later (by assumption) (by assumption) | exact cells_a0 (by assumption) | exact cells_grown0 (by assumption) (by assumption) | ((repeat (refine cells_set ?_ (Nat.ne_of_lt hblk))); assumption) | ((repeat (refine cells_set ?_ (Nat.ne_of_lt hblk))); exact cells_a0 (by assumption)) | exact cells_swap (by assumption) (by assumption) hblk | (simp [*]; done))))) 
              (first
                | ((refine Kd.R_append_rows_step k38 (w0 := wr) (Rr := k38.K wr.drew) wr.heap.size (by rfl) (.const (.slice none 0 0)) (.tmp 46) 30 38 (.agg #[(.string ⟨#[]⟩), (.int .i64 0)]) 24 (by rfl) Try.underlying30 info38 rfl (by decide) (by decide) _ ([] : List S38) t.f1 A1 t.f1.length c1 (fun k_ => wr.heap.size ≤ k_) (fun _ => False) (by rfl) (by rfl) (Kd.R_nil _ _ _ _ _) (Kd.C_below HC1.out (below_drew (Below.refl _ _))) (fun x cs hx => by rw [k38_open hx]; exact k38_mkM _ _ _ x) (fun _ hk => hk.elim) (fun _ hk => hk) (below_drew (Below.refl _ _)) (Nat.le_refl _) (by omega) ?_); intro v7 w7 hm hb hg hat; obtain ⟨Ac, cc, ec⟩ := Kd.R_slice hm; subst ec)
                | ((refine Kd.R_append_rows_step k38 (w0 := wr) (Rr := k38.K (wr.alloc (.cells #[.string ⟨#[]⟩, .slice none 0 0, .slice none 0 0] 33)).drew) wr.heap.size (by rfl) (.const (.slice none 0 0)) (.tmp 46) 30 38 (.agg #[(.string ⟨#[]⟩), (.int .i64 0)]) 24 (by rfl) Try.underlying30 info38 rfl (by decide) (by decide) _ ([] : List S38) t.f1 A1 t.f1.length c1 (fun k_ => wr.heap.size + 1 ≤ k_) (fun _ => False) (by rfl) (by rfl) (Kd.R_nil _ _ _ _ _) (Kd.C_below HC1.out (below_drew (below_alloc (Below.refl _ _) _))) (fun x cs hx => by rw [k38_open hx]; exact k38_mkM _ _ _ x) (fun _ hk => hk.elim) (fun _ hk => by simpa using hk) (below_drew (below_alloc (Below.refl _ _) _)) (by simp) (by omega) ?_); intro v7 w7 hm hb hg hat; obtain ⟨Ac, cc, ec⟩ := Kd.R_slice hm; subst ec; have hbx : w7.heap[wr.heap.size]? = some (.cells #[.string ⟨#[]⟩, .slice none 0 0, .slice none 0 0] 33 (0, 0)) := (hg.block wr.heap.size (by simp) (by simp [Value.ownBlock])).trans (blk_drew (blk_new wr _)); have bx0 := (blk_cell hbx 0).trans rfl; have bx1 := (blk_cell hbx 1).trans rfl; have bx2 := (blk_cell hbx 2).trans rfl; have fx0 := blk_frozen hbx 0; have fx1 := blk_frozen hbx 1; have fx2 := blk_frozen hbx 2))
            · go_wp2_with fail
              go_meet
              exact ⟨_, rfl, ⟨op_A (by assumption) (by assumption)⟩⟩
            · go_wp2_with fail
              go_meet
              exact ⟨_, rfl, ⟨op_B (by assumption) (by assumption) (by assumption)⟩⟩
        case rest =>
        obtain ⟨w0, rfl⟩ : ∃ x, x = wr := ⟨_, rfl⟩
        obtain ⟨b, rfl, HBX⟩ := hcut
        obtain ⟨Ac, cc, hbx, hcol, hbb, hwb, hblt⟩ := HBX.out.out
        have HOB : Aside0 (OpRow w0 wc b wc.heap.size Ac cc t 0 (.slice none 0 0)) := ⟨⟨hbx, Kd.R_mono hcol (fun _ hk => hk), Kd.R_nil _ _ _ _ _, hbb, Nat.le_refl _⟩⟩
        have HBS : Aside0 (b < wc.heap.size) := ⟨hblt⟩
        have HWB : Aside0 (w0.heap.size ≤ b) := ⟨hwb⟩
        clear hbx hcol hbb hwb hblt HBX
        generalize hs1 : wc.heap.size = s1 at *
        clear hs1
        go_upto_block 2 with fail
        go_cut [] (fun wx => ∃ vr : Value, Aside0 (OpRow w0 wx b s1 Ac cc t t.f2.length vr))
        case first =>
          as_aux_lemma =>
            go_wp2
            go_loopw [13] (fun s13 wr => ∃ (j : Nat) (vr : Value), j ≤ t.f2.length ∧ s13 = .int .i64 j ∧ Aside0 (OpRow w0 wr b s1 Ac cc t j vr)) (fun s13 _ => t.f2.length - (intOf s13).toNat)
            case atStart => exact ⟨0, _, Nat.zero_le _, rfl, HOB⟩
            case round =>
              obtain ⟨j, vr, hj, rfl, HQ⟩ := hrel
              have hl2 : t.f2.length ≤ 9223372036854775807 := HC2.out.2.1
              have hx2 := cells_later HQ.out.bel X2.out
              by_cases hjt : j < t.f2.length
              · obtain ⟨ad2, A0, c0, e, hq, hlc, hC⟩ := atL3 (Kd.C_below HC2.out HQ.out.bel) j hjt
                cases e
                have HTJ := Aside0.mk (List.take_succ_eq_append_getElem hjt)
                have hq2 : wr.drew.cell? ⟨(ad.add (k * 3)).block, (ad.add (k * 3)).off + 2, none⟩ = some (.slice (some ad2) t.f2.length c2) := hx2
                have hq3 : wr.drew.cell? (ad2.add j) = some (.slice A0 t.f2[j].length c0) := hq
                have HCR : Aside0 (Kd.C k36 wr.drew A0 t.f2[j].length t.f2[j]) := ⟨Kd.C_below hC (below_drew (Below.refl _ _))⟩
                have hrl3 : (([] : List S36).length + t.f2[j].length) * 32 ≤ 140737488355328 := by have := (HS.out.2.2.1 _ (List.getElem_mem hjt)).2.1; simp only [List.length_nil]; omega
                have htk : ((t.f2.take j).length + 1) * 24 ≤ 140737488355328 := by have := HS.out.2.2.2.1; rw [List.length_take]; omega
                clear hC
                generalize t.f2[j] = r at *
                go_upto_region 10 with fail
                refine start_ (n := 15) (S := fun w' => w'.cell? ⟨b, 2, none⟩ = some vr ∧ w'.cell? ⟨(ad.add (k * 3)).block, (ad.add (k * 3)).off + 2, none⟩ = some (.slice (some ad2) t.f2.length c2) ∧ w'.cell? (ad2.add j) = some (.slice A0 r.length c0)) (ds := [12, 14]) #[false, false, false, false, false, false, false, false, false, false, false, false, false, false, false] (by kernel_rfl) rfl rfl ⟨(blk_cell (blk_drew HQ.out.blk) 2).trans rfl, hq2, hq3⟩ (fun hHeld => ?_)
                refine pure_ (i := 0) (N := some 59) (v := ?_) (a' := ?_) #[true, false, false, false, false, false, false, false, false, false, false, false, false, false, false] rfl rfl (by kernel_rfl) (fun _ _ _ h => h) (Or.inl ⟨by rfl, ?_⟩) ?_ ?_
                rotate_left
                · intro w'
                  go_simp
                  with_reducible rfl
                rotate_left
                · simp only [Act.put, List.setIfInBounds_toArray, List.set_cons_zero, List.set_cons_succ, i64_w, i32_w]
                  rfl
                refine pure_ (i := 2) (N := some 61) (v := ?_) (a' := ?_) #[true, false, true, false, false, false, false, false, false, false, false, false, false, false, false] rfl rfl (by kernel_rfl) (fun _ _ _ h => h) (Or.inl ⟨by rfl, ?_⟩) ?_ ?_
                rotate_left
                · intro w'
                  go_simp
                  with_reducible rfl
                rotate_left
                · simp only [Act.put, List.setIfInBounds_toArray, List.set_cons_zero, List.set_cons_succ, i64_w, i32_w]
                  rfl
                refine pure_ (i := 3) (N := some 62) (v := ?_) (a' := ?_) #[true, false, true, true, false, false, false, false, false, false, false, false, false, false, false] rfl rfl (by kernel_rfl) (fun _ _ _ h => h) (Or.inl ⟨by rfl, ?_⟩) ?_ ?_
                rotate_left
                · intro w'
                  go_simp
                  with_reducible rfl
                rotate_left
                · simp only [Act.put, List.setIfInBounds_toArray, List.set_cons_zero, List.set_cons_succ, i64_w, i32_w]
                  rfl
                refine pure_ (i := 4) (N := some 63) (v := ?_) (a' := ?_) #[true, false, true, true, true, false, false, false, false, false, false, false, false, false, false] rfl rfl (by kernel_rfl) (fun _ _ _ h => h) (Or.inl ⟨by rfl, ?_⟩) ?_ ?_
                rotate_left
                · intro w'
                  go_simp
                  with_reducible rfl
                rotate_left
                · simp only [Act.put, List.setIfInBounds_toArray, List.set_cons_zero, List.set_cons_succ, i64_w, i32_w]
                  rfl
                refine pure_ (i := 5) (N := some 64) (v := ?_) (a' := ?_) #[true, false, true, true, true, true, false, false, false, false, false, false, false, false, false] rfl rfl (by kernel_rfl) (fun _ _ _ h => h) (Or.inl ⟨by rfl, ?_⟩) ?_ ?_
                rotate_left
                · intro w'
                  go_simp
                  with_reducible rfl
                rotate_left
                · simp only [Act.put, List.setIfInBounds_toArray, List.set_cons_zero, List.set_cons_succ, i64_w, i32_w]
                  rfl
                refine pure_ (i := 7) (N := some 66) (v := ?_) (a' := ?_) #[true, false, true, true, true, true, false, true, false, false, false, false, false, false, false] rfl rfl (by kernel_rfl) (fun _ _ _ h => h) (Or.inl ⟨by rfl, ?_⟩) ?_ ?_
                rotate_left
                · intro w'
                  go_simp
                  with_reducible rfl
                rotate_left
                · simp only [Act.put, List.setIfInBounds_toArray, List.set_cons_zero, List.set_cons_succ, i64_w, i32_w]
                  rfl
                refine take_ (i := 1) (N := some 60) (v := ?_) (a' := ?_) #[true, true, true, true, true, true, false, true, false, false, false, false, false, false, false] rfl rfl (by kernel_rfl) (fun _ _ _ h => h) (Or.inl ⟨by rfl, ?_⟩) hHeld ?_ ?_
                rotate_left
                · rintro w' ⟨s0, s1, s2⟩
                  go_simp
                  with_reducible rfl
                rotate_left
                · simp only [Act.put, List.setIfInBounds_toArray, List.set_cons_zero, List.set_cons_succ, i64_w, i32_w]
                  rfl
                refine take_ (i := 6) (N := some 65) (v := ?_) (a' := ?_) #[true, true, true, true, true, true, true, true, false, false, false, false, false, false, false] rfl rfl (by kernel_rfl) (fun _ _ _ h => h) (Or.inl ⟨by rfl, ?_⟩) hHeld ?_ ?_
                rotate_left
                · rintro w' ⟨s0, s1, s2⟩
                  go_simp
                  with_reducible rfl
                rotate_left
                · simp only [Act.put, List.setIfInBounds_toArray, List.set_cons_zero, List.set_cons_succ, i64_w, i32_w]
                  rfl
                refine pure_ (i := 8) (N := some 67) (v := ?_) (a' := ?_) #[true, true, true, true, true, true, true, true, true, false, false, false, false, false, false] rfl rfl (by kernel_rfl) (fun _ _ _ h => h) (Or.inl ⟨by rfl, ?_⟩) ?_ ?_
                rotate_left
                · intro w'
                  go_simp
                  with_reducible rfl
                rotate_left
                · simp only [Act.put, List.setIfInBounds_toArray, List.set_cons_zero, List.set_cons_succ, i64_w, i32_w]
                  rfl
                refine take_ (i := 9) (N := some 68) (v := ?_) (a' := ?_) #[true, true, true, true, true, true, true, true, true, true, false, false, false, false, false] rfl rfl (by kernel_rfl) (fun _ _ _ h => h) (Or.inl ⟨by rfl, ?_⟩) hHeld ?_ ?_
                rotate_left
                · rintro w' ⟨s0, s1, s2⟩
                  go_simp
                  with_reducible rfl
                rotate_left
                · simp only [Act.put, List.setIfInBounds_toArray, List.set_cons_zero, List.set_cons_succ, i64_w, i32_w]
                  rfl
                refine one_ (i := 10) (N := some 69) #[true, true, true, true, true, true, true, true, true, true, true, false, false, false, false] rfl rfl (by kernel_rfl) (by decide) (fun K hK => ?_)
                refine Kd.R_append_rows_step k36 (w0 := wr) (Rr := k36.K wr.drew) wr.heap.size (by rfl) (.const (.slice none 0 0)) (.tmp 68) 34 36 (.agg #[(.int .i64 0), (.int .i64 0), (.string ⟨#[]⟩)]) 32 (by rfl) Try.underlying34 info36 rfl (by decide) (by decide) _ ([] : List S36) r A0 r.length c0 (fun _ => True) (fun _ => False) (by rfl) (by rfl) (Kd.R_nil _ _ _ _ _) HCR.out (fun x cs hx => by rw [k36_open hx]; exact k36_mkM _ _ _ x) (fun _ hk => hk.elim) (fun _ _ => trivial) (below_drew (Below.refl _ _)) (Nat.le_refl _) hrl3 ?_
                intro v5 w5 hm5 hb5 hg5 hat5
                have hm6 : Kd.R k36 36 w5 wr.heap.size (fun _ => True) v5 r := hm5
                obtain ⟨A5, c5, e5⟩ := Kd.R_slice hm6
                subst e5
                have hor := op_row HQ.out HBS.out hm6 hb5
                refine hK.out _ _ ⟨cells_grown0 hg5 hHeld.1, cells_grown0 hg5 hHeld.2.1, cells_grown0 hg5 hHeld.2.2⟩ (fun hHeld => ?_)
                clear hK K
                refine norm_ (a' := ?_) ?_ ?_
                rotate_left
                · show Act.put _ (some 69) _ = _
                  simp only [Act.put, List.setIfInBounds_toArray, List.set_cons_zero, List.set_cons_succ, i64_w, i32_w]
                  rfl
                refine one_ (i := 11) (N := some 70) #[true, true, true, true, true, true, true, true, true, true, true, true, false, false, false] rfl rfl (by kernel_rfl) (by decide) (fun K hK => ?_)
                refine value_ (w1 := ?_) (v := ?_) (by rfl) rfl ?_ ?_
                rotate_left 2
                · go_simp
                  constructor
                  · rfl
                  · rfl
                refine hK.out _ _ ⟨cells_a0 hHeld.1, cells_a0 hHeld.2.1, cells_a0 hHeld.2.2⟩ (fun hHeld => ?_)
                clear hK K
                refine norm_ (a' := ?_) ?_ ?_
                rotate_left
                · show Act.put _ (some 70) _ = _
                  simp only [Act.put, List.setIfInBounds_toArray, List.set_cons_zero, List.set_cons_succ, i64_w, i32_w]
                  rfl
                refine last_ (i := 12) (N := some 71) #[true, true, true, true, true, true, true, true, true, true, true, true, true, false, false] rfl rfl (by kernel_rfl) (by decide) (fun K hK => ?_)
                refine Kd.R_append_step (Kd.slice 36 k36) (w0 := w0) w0.heap.size (by rfl) (.tmp 60) (.tmp 70) 31 34 (.slice none 0 0) 24 (by rfl) Try.underlying31 info34 rfl (by decide) (by decide) vr (t.f2.take j) r [.slice A5 r.length c5] (fun k_ => s1 ≤ k_) (fun k_ => s1 ≤ k_ ∧ some k_ ≠ vr.ownBlock) (by rfl) (by rfl) hor.1 (fun k_ hk_ => hk_) (fun k_ hk_ => Nat.le_trans hor.2.1.sz hk_) hor.2.1.row hor.2.1.bel hor.2.1.bel.size htk ?_
                intro v6 w6 hm7 hb7 hg7 hat7
                obtain ⟨A6, c6, e6⟩ := Kd.R_slice hm7
                subst e6
                rw [← HTJ.out] at hm7
                have g6 := (hg7.block b hor.2.2 (fun e => by have h3 := hor.2.1.row.1 b e.symm; have := HBS.out; omega)).trans hor.2.1.blk
                refine hK.out _ _ ?_
                clear hK K
                refine norm_ (a' := ?_) ?_ ?_
                rotate_left
                · show Act.put _ (some 71) _ = _
                  simp only [Act.put, List.setIfInBounds_toArray, List.set_cons_zero, List.set_cons_succ, i64_w, i32_w]
                  rfl
                refine pure_ (i := 13) (N := some 72) (v := ?_) (a' := ?_) #[true, true, true, true, true, true, true, true, true, true, true, true, true, true, false] rfl rfl (by kernel_rfl) (fun _ _ _ h => h) (Or.inl ⟨by rfl, ?_⟩) ?_ ?_
                rotate_left
                · intro w'
                  go_simp
                  with_reducible rfl
                rotate_left
                · simp only [Act.put, List.setIfInBounds_toArray, List.set_cons_zero, List.set_cons_succ, i64_w, i32_w]
                  rfl
                refine last_ (i := 14) (N := none) #[true, true, true, true, true, true, true, true, true, true, true, true, true, true, true] rfl rfl (by kernel_rfl) (by decide) (fun K hK => ?_)
                have hs20 := (blk_cell g6 2).trans rfl
                have hfs20 := blk_frozen g6 2
                refine skip_ (w1 := ?_) (by rfl) rfl ?_ ?_
                rotate_left
                · go_simp
                  rfl
                refine hK.out _ _ ?_
                clear hK K
                refine done_ (by kernel_rfl) ?_
                have HPUT := Aside0.mk (op_put hor.2.1 HBS.out HWB.out hm7 hb7 hg7)
                have hlen : (t.f2.take (j + 1)).length = j + 1 := by rw [List.length_take]; omega
                rw [hlen] at HPUT
                clear hor hm7 hb7 hg7 g6 hat7 hm5 hb5 hg5 hat5 hm6
                go_wp2_with fail
                go_roundw
                case rel => exact ⟨j + 1, _, by omega, by go_num, HPUT⟩
                case measure => simp [intOf]; omega
              · have HE : Aside0 (t.f2.take j = t.f2.take t.f2.length) := ⟨by rw [List.take_of_length_le (by omega), List.take_length]⟩
                have ej : j = t.f2.length := by omega
                subst ej
                go_wp2_with fail
                go_meet
                exact ⟨vr, HQ⟩
        case rest =>
        obtain ⟨vr, HQ⟩ := hcut
        have hlen2 : (t.f2.take t.f2.length).length = t.f2.length := by rw [List.take_length]
        obtain ⟨Ar, cr, er⟩ := Kd.R_slice HQ.out.row
        rw [hlen2] at er
        subst er
        have hb0 := (blk_cell HQ.out.blk 0).trans rfl
        have hb1 := (blk_cell HQ.out.blk 1).trans rfl
        have hb2 := (blk_cell HQ.out.blk 2).trans rfl
        have HM := Aside0.mk (k33.M_lower HB.out.size (op_elem HQ.out rfl))
        have HBN := Aside0.mk (below_step HB.out HQ.out.bel)
        have HON := Aside0.mk (Kd.R_below HO.out HQ.out.bel)
        have hxl : (xs.length + 1) * 64 ≤ 140737488355328 := by have := HLT.out; omega
        have HLTB := Aside0.mk (fun k hk => ((Kd.R_bound HO.out).1 k hk).2.2.1)
        clear HQ HO HLT
        go_wp2_with (first | ((with_reducible refine gate_builtin (b := .append) (xs := #[.tmp 73, .tmp 75]) rfl ?_); at_builtin; go_loud (refine Kd.R_append k33 (w0 := W) W.heap.size rfl (.tmp 73) (.tmp 75) 22 33 (.agg #[.string (⟨#[]⟩ : ByteArray), .slice none 0 0, .slice none 0 0]) 64 rfl Try.underlying22 info33 rfl (by decide) (by decide) _ xs t [.string t.f0, .slice Ac t.f1.length cc, .slice Ar t.f2.length cr] (fun _ => True) (fun k => w0.heap.size ≤ k) (by first | (go_simp; done) | (go_simp; rfl)) (by first | (go_simp; done) | (go_simp; rfl)) HM.out (fun k hk => ⟨trivial, fun e => absurd (HLTB.out k e.symm) (Nat.not_lt.2 hk)⟩) (fun _ _ => trivial) HON.out HBN.out HBN.out.size hxl ?_); intro v9 w9 ho9 hb9 hg9 hat9; have HO9 := Aside0.mk ho9; have HB9 := Aside0.mk hb9; clear ho9 hb9 hg9 hat9))
        go_roundw
        case rel => exact ⟨k + 1, by omega, by go_num, ⟨by rw [HT.out]; exact HO9.out⟩, HB9⟩
        case measure => simp [intOf]; omega
      · have HE : Aside0 (l.take k = l) := ⟨List.take_of_length_le (by omega)⟩
        rw [HE.out] at HO
        go_wp2_with fail
        go_meet
        exact ⟨HO, HB⟩
  case rest =>
  obtain ⟨HO, HB⟩ := hcut
  obtain ⟨wO, rfl⟩ : ∃ x, x = wc := ⟨_, rfl⟩
  have hl62 : l.length ≤ 4611686018427387904 := by have := HL.out.2.1; omega
  have hok : ∀ t ∈ l, okT t := fun t ht => sz33_ok (HL.out.1 t ht)
  have HOK := Aside0.mk hok
  obtain ⟨K2, hK2⟩ := refRight_ok l hl62 hok
  have H2 := Aside0.mk (hK2 K2 (Nat.le_refl _))
  obtain ⟨Ao, co, eo, _, hCo⟩ := Kd.R_reads HO.out
  subst eo
  have HCO := Aside0.mk hCo
  have HWc := Aside0.mk (HW.out.on HB.out)
  clear hCo hK2 hok
  cases hq : rightB l
  · rw [hq] at H2
    have HOP := Aside0.mk (store_Open_no Ao co l wO HCO.out HWc.out hl62 HOK.out hq)
    go_wp2_with (first | (go_at_call 13; refine HOP.out.mono ?_; rintro e w3 ⟨rfl, hb⟩; have HB3 := Aside0.mk (below_step HB.out hb); clear hb) | (go_at_call 12; refine (weathercockref05_Right.calls K2 A c l _ _ (Kd.C_below HR.out HB3.out) HC.out H2.out).mono ?_; rintro e w4 ⟨rfl, hb⟩; have HB4 := Aside0.mk (below_step HB3.out hb); clear hb))
    go_ret
    exact ⟨rfl, HB4.out⟩
  rw [hq] at H2
  have HOP := Aside0.mk (store_Open Ao co l wO HCO.out HWc.out hl62 HOK.out hq)
  go_upto_block 4 with (first | (go_at_call 13; refine HOP.out.mono ?_; rintro e w3 ⟨g, v, mv, rfl, hge, hg, hV, hb⟩; have HG3 := Aside0.mk hg; have HV3 := Aside0.mk hV; have HGE := Aside0.mk hge; have HB3 := Aside0.mk hb; clear hge hg hV hb) | (go_at_call 12; refine (weathercockref05_Right.calls K2 A c l _ _ (Kd.C_below HR.out (below_step HB.out HB3.out)) HC.out H2.out).mono ?_; rintro e w4 ⟨rfl, hb⟩; have HB4 := Aside0.mk hb; clear hb))
  have HG4 := Aside0.mk ((HB4.out.block _ (blk_lt HG3.out)).trans HG3.out)
  have HV4 := Aside0.mk (Kd.R_below HV3.out HB4.out)
  have HB34 : Aside0 (Below wO.heap.size wO w4) := ⟨below_step HB3.out HB4.out⟩
  clear HOP H2 HG3 HV3 HB3 HB4 HCO HWc
  go_cut [] (fun wx => Aside0 ((∀ j, wO.heap.size ≤ j → wx.heap[j]? = w4.heap[j]?) ∧ Below W.heap.size W wx ∧ wx.heap.size = w4.heap.size))
  case first =>
    as_aux_lemma =>
      have HBW : Aside0 (Below W.heap.size W w4) := ⟨below_step HB.out HB34.out⟩
      by_cases hz : l.length = 0
      · have hz1 : (l.length : Int) = 0 := by omega
        go_wp2
        go_loopw [17] (fun s17 wr => s17 = .int .i64 0 ∧ Aside0 (wr = w4)) (fun _ _ => 0)
        case atStart => exact ⟨rfl, ⟨rfl⟩⟩
        case round =>
          obtain ⟨rfl, ⟨rfl⟩⟩ := hrel
          go_wp2_with fail
          go_meet
          exact ⟨fun _ _ => rfl, HBW.out, rfl⟩
      · have hpos : 0 < l.length := Nat.pos_of_ne_zero hz
        obtain ⟨go, co2, eo2, _, _, _⟩ := Kd.N_form (Kd.R_N HO.out) hpos
        simp only [Value.slice.injEq, true_and] at eo2
        obtain ⟨rfl, rfl⟩ := eo2
        obtain ⟨hpw, hgo1, hgo2⟩ := pw_of HO.out hq hpos HB.out HB34.out
        have HPW := Aside0.mk hpw
        have HG1 := Aside0.mk hgo1
        have HG2 := Aside0.mk hgo2
        have HRS := Aside0.mk (rightB_sizes hq)
        have HRT : Aside0 (∀ (i : Nat) (h : i < l.length), 1 ≤ l[i].f1.length ∧ ∀ r ∈ l[i].f2, r.length = l[i].f1.length) := ⟨fun i h => tableB_parts (by
          have hr := hq
          unfold rightB at hr
          simp only [Bool.and_eq_true] at hr
          exact List.all_eq_true.1 hr.2 _ (List.getElem_mem h))⟩
        clear hpw hgo1 hgo2 HG4 HV4 HO hq HW HR HL HOK HC
        go_wp2
        go_loopw [17] (fun s17 wr => ∃ i : Nat, i ≤ l.length ∧ s17 = .int .i64 i ∧ Aside0 (PW W w4 wr go wO.heap.size l)) (fun s17 _ => l.length - (intOf s17).toNat)
        case atStart => exact ⟨0, Nat.zero_le _, rfl, HPW⟩
        case round =>
          obtain ⟨i, hi, rfl, HP⟩ := hrel
          by_cases hlt : i < l.length
          · obtain ⟨x0, hx0, hf0⟩ := HP.out.own.cell (i * 3) (by omega)
            have hr1 := HRT.out i hlt
            have hr2 := HRS.out.2 _ (List.getElem_mem hlt)
            go_upto_block 6 with fail
            have HP1 := Aside0.mk (HP.out.set HP.out.own (by decide) (.inr ⟨rfl, i, rfl⟩) HG1.out HG2.out (o := i * 3) (.string ⟨#[63]⟩))
            clear hx0 hf0 HP
            generalize wr.setCell ⟨go, i * 3, none⟩ (.string ⟨#[63]⟩) = w5 at *
            go_wp2
            go_loopw [18] (fun s18 wr => ∃ k : Nat, k ≤ l[i].f2.length ∧ s18 = .int .i64 k ∧ Aside0 (PW W w4 wr go wO.heap.size l)) (fun s18 _ => l[i].f2.length - (intOf s18).toNat)
            case atStart => exact ⟨0, Nat.zero_le _, rfl, HP1⟩
            case round =>
              obtain ⟨k, hk, rfl, HQ⟩ := hrel
              obtain ⟨gc, cc, Ar, cr, q1, q2, q3, q4, q5, q6⟩ := (HQ.out.tab i hlt).out
              have Q3 := Aside0.mk q3
              by_cases hkt : k < l[i].f2.length
              · obtain ⟨gr, gx, cx, e, a1, a2, a3, a4, a5⟩ := (q6 k hkt).out
                subst e
                have A3 := Aside0.mk a3
                obtain ⟨y0, hy0, hg0⟩ := a3.cell 0 (by decide)
                obtain ⟨y1, hy1, hg1⟩ := a3.cell 1 (by decide)
                obtain ⟨y2, hy2, hg2⟩ := a3.cell 2 (by decide)
                have hlen := hr1.2 _ (List.getElem_mem hkt)
                have hp1 : (0 : Int) < ((l[i].f2[k]).length : Int) := by omega
                clear q6 hlen
                go_wp2_with fail
                have HS := Aside0.mk ((((HQ.out.set A3.out (by decide) (.inl (by decide)) a4 a5 (o := 0) (.int .i64 7)).set (A3.out.set _ _ _) (by decide) (.inl (by decide)) a4 a5 (o := 1) (.int .i64 0)).set ((A3.out.set _ _ _).set _ _ _) (by decide) (.inl (by decide)) a4 a5 (o := 2) (.string ⟨#[]⟩)))
                go_roundw
                case rel => exact ⟨k + 1, by omega, by go_num, HS⟩
                case measure => simp [intOf]; omega
              · obtain ⟨y1, hy1, hg1⟩ := q3.cell 1 (by decide)
                have hp1 : (0 : Int) < (l[i].f1.length : Int) := by omega
                have HS := Aside0.mk (HQ.out.set Q3.out (by decide) (.inl (by decide)) q4 q5 (o := 1) (.int .i64 7))
                clear q6 q3
                go_wp2_with fail
                go_roundw
                case rel => exact ⟨i + 1, by omega, by go_num, HS⟩
                case measure => simp [intOf]; omega
          · go_wp2_with fail
            go_meet
            exact ⟨HP.out.fr, HP.out.bel, HP.out.sz⟩
  case rest =>
  obtain ⟨w5, rfl⟩ : ∃ x, x = wc := ⟨_, rfl⟩
  obtain ⟨hfr, hbel, hsz⟩ := hcut.out
  have HG5 := Aside0.mk ((hfr g HGE.out).trans HG4.out)
  have hV5 := Kd.R_move (w1 := w5) (Kd.R_bound HV4.out) (fun k hk => hfr k hk.2.1)
  obtain ⟨Av, cv, ev, _, hCv⟩ := Kd.R_reads hV5
  subst ev
  have HCV := Aside0.mk hCv
  have HB5 := Aside0.mk hbel
  have HRS := Aside0.mk (rightB_sizes hq)
  have HNM := Aside0.mk (find_self hq)
  have HRT : Aside0 (∀ (i : Nat) (h : i < l.length), 1 ≤ l[i].f1.length ∧ ∀ r ∈ l[i].f2, r.length = l[i].f1.length) := ⟨fun i h => tableB_parts (by
    have hr := hq
    unfold rightB at hr
    simp only [Bool.and_eq_true] at hr
    exact List.all_eq_true.1 hr.2 _ (List.getElem_mem h))⟩
  clear hfr hbel hsz hV5 hCv HV4 HG4 HB34 HO HB hcut HOK
  go_upto_block 8 with fail
  go_cut [] (fun wx => Aside0 (Below w5.heap.size w5 wx))
  case first =>
    as_aux_lemma =>
      have HFI : Aside0 (∀ (i : Nat) (h : i < l.length) (w : World), Below w5.heap.size w5 w → Calls Try.prog 14 #[.pointer (some ⟨g, 0, none⟩), .string l[i].f0] w fun e w' => e = .returned (.int .i64 i) ∧ Below w.heap.size w w') := ⟨fun i h w hb => by
        have h2 := store_Find g Av cv mv l l[i].f0 w ((hb.block _ (blk_lt HG5.out)).trans HG5.out) (Kd.C_below HCV.out hb) hl62
        rw [HNM.out i h] at h2
        exact h2⟩
      have HMA : Aside0 (∀ (i : Nat) (h : i < l.length) (w : World), Below w5.heap.size w5 w → Calls Try.prog 15 #[.pointer (some ⟨g, 0, none⟩), .int .i64 i] w fun e w' => e = .returned (.int .i64 (l[i].f2.length : Nat)) ∧ Below w.heap.size w w') := ⟨fun i h w hb => by
        have h2 := store_Many g Av cv mv l i w ((hb.block _ (blk_lt HG5.out)).trans HG5.out) (Kd.C_below HCV.out hb) hl62
        rw [atB_in i h] at h2
        exact h2⟩
      have HCO : Aside0 (∀ (i : Nat) (h : i < l.length) (w : World), Below w5.heap.size w5 w → Calls Try.prog 16 #[.pointer (some ⟨g, 0, none⟩), .int .i64 i] w fun e w' => ∃ v0_ : Value, e = .returned (v0_) ∧ Kd.R k38 38 w' w.heap.size (fun _ => True) v0_ l[i].f1 ∧ Below w.heap.size w w') := ⟨fun i h w hb => by
        have h2 := store_Cols g Av cv mv l i w ((hb.block _ (blk_lt HG5.out)).trans HG5.out) (Kd.C_below HCV.out hb) hl62 (by rw [atB_in i h]; have := (HRS.out.2 _ (List.getElem_mem h)).1; omega)
        rw [atB_in i h] at h2
        exact h2⟩
      have HRO : Aside0 (∀ (i m : Nat) (h : i < l.length) (hm : m < l[i].f2.length) (w : World), Below w5.heap.size w5 w → Calls Try.prog 17 #[.pointer (some ⟨g, 0, none⟩), .int .i64 i, .int .i64 m] w fun e w' => ∃ v0_ : Value, e = .returned (.tuple #[v0_, .bool true]) ∧ Kd.R k36 36 w' w.heap.size (fun _ => True) v0_ l[i].f2[m] ∧ Below w.heap.size w w') := ⟨fun i m h hm w hb => store_Row g Av cv mv l i m w ((hb.block _ (blk_lt HG5.out)).trans HG5.out) (Kd.C_below HCV.out hb) hl62 h hm (by have := (HRS.out.2 _ (List.getElem_mem h)).2.2 _ (List.getElem_mem hm); omega)⟩
      have HCL := Aside0.mk (fun w (hb : Below w5.heap.size w5 w) => Kd.C_below (Kd.C_below HR.out HB5.out) hb)
      clear HG5 HCV HGE HNM HR HL HW
      go_wp2
      go_loopw [19] (fun s19 wr => ∃ n : Nat, n ≤ 2 ∧ s19 = .int .i64 n ∧ Aside0 (Below w5.heap.size w5 wr)) (fun s19 _ => 2 - (intOf s19).toNat)
      case atStart => exact ⟨0, by decide, rfl, ⟨Below.refl _ _⟩⟩
      case round =>
        obtain ⟨tn, htn, rfl, HB6⟩ := hrel
        by_cases htl : tn < 2
        · have htl2 : (tn : Int) < 2 := by omega
          go_wp2
          go_loopw [20] (fun s20 wr => ∃ i : Nat, i ≤ l.length ∧ s20 = .int .i64 i ∧ Aside0 (Below w5.heap.size w5 wr)) (fun s20 _ => l.length - (intOf s20).toNat)
          case atStart => exact ⟨0, Nat.zero_le _, rfl, HB6⟩
          case round =>
            obtain ⟨i, hi, rfl, HB7⟩ := hrel
            by_cases hlt : i < l.length
            · obtain ⟨ad, A1, c1, A2, c2, e, hx0, hx1, hx2, hc1, hC1, hc2, hC2⟩ := at33 (HCL.out _ (Below.refl _ _)) i hlt
              cases e
              replace HFI := Aside0.mk (HFI.out i hlt)
              replace HMA := Aside0.mk (HMA.out i hlt)
              replace HCO := Aside0.mk (HCO.out i hlt)
              replace HRO := Aside0.mk (fun m hm => HRO.out i m hlt hm)
              have HSZ := Aside0.mk (HRS.out.2 _ (List.getElem_mem hlt))
              have HTT := Aside0.mk (HRT.out i hlt)
              have HC1 := Aside0.mk hC1
              have HC2 := Aside0.mk hC2
              have X0 := Aside0.mk hx0
              have X1 := Aside0.mk hx1
              have X2 := Aside0.mk hx2
              clear hC1 hC2 HRS HRT
              generalize l[i] = t at *
              have hq0 : wr.drew.cell? (ad.add (i * 3)) = some (.string t.f0) := cells_later (below_drew HB7.out) X0.out
              have hq2 : wr.drew.cell? ⟨(ad.add (i * 3)).block, (ad.add (i * 3)).off + 2, none⟩ = some (.slice A2 t.f2.length c2) := cells_later (below_drew HB7.out) X2.out
              have hnn : ((i : Int) != (i : Int)) = false := by simp
              have hnm : ((t.f2.length : Int) != (t.f2.length : Int)) = false := by simp
              have hnc : ((t.f1.length : Int) != (t.f1.length : Int)) = false := by simp
              go_upto_region 33 with fail
              go_cut [168] (fun s168 wx => s168 = .bool false ∧ Aside0 (Below w5.heap.size w5 wx))
              case first =>
                as_aux_lemma =>
                  refine start_ (n := 21) (S := fun w' => w'.cell? (ad.add (i * 3)) = some (.string t.f0) ∧ w'.cell? ⟨(ad.add (i * 3)).block, (ad.add (i * 3)).off + 2, none⟩ = some (.slice A2 t.f2.length c2)) (ds := []) #[false, false, false, false, false, false, false, false, false, false, false, false, false, false, false, false, false, false, false, false, false] (by kernel_rfl) rfl rfl ⟨hq0, hq2⟩ (fun hHeld => ?_)
                  refine pure_ (i := 0) (N := some 148) (v := ?_) (a' := ?_) #[true, false, false, false, false, false, false, false, false, false, false, false, false, false, false, false, false, false, false, false, false] rfl rfl (by kernel_rfl) (fun _ _ _ h => h) (Or.inl ⟨by rfl, ?_⟩) ?_ ?_
                  rotate_left
                  · intro w'
                    go_simp
                    with_reducible rfl
                  rotate_left
                  · simp only [Act.put, List.setIfInBounds_toArray, List.set_cons_zero, List.set_cons_succ, i64_w, i32_w]
                    rfl
                  refine pure_ (i := 1) (N := some 149) (v := ?_) (a' := ?_) #[true, true, false, false, false, false, false, false, false, false, false, false, false, false, false, false, false, false, false, false, false] rfl rfl (by kernel_rfl) (fun _ _ _ h => h) (Or.inl ⟨by rfl, ?_⟩) ?_ ?_
                  rotate_left
                  · intro w'
                    go_simp
                    with_reducible rfl
                  rotate_left
                  · simp only [Act.put, List.setIfInBounds_toArray, List.set_cons_zero, List.set_cons_succ, i64_w, i32_w]
                    rfl
                  refine pure_ (i := 2) (N := some 150) (v := ?_) (a' := ?_) #[true, true, true, false, false, false, false, false, false, false, false, false, false, false, false, false, false, false, false, false, false] rfl rfl (by kernel_rfl) (fun _ _ _ h => h) (Or.inl ⟨by rfl, ?_⟩) ?_ ?_
                  rotate_left
                  · intro w'
                    go_simp
                    with_reducible rfl
                  rotate_left
                  · simp only [Act.put, List.setIfInBounds_toArray, List.set_cons_zero, List.set_cons_succ, i64_w, i32_w]
                    rfl
                  refine pure_ (i := 3) (N := some 151) (v := ?_) (a' := ?_) #[true, true, true, true, false, false, false, false, false, false, false, false, false, false, false, false, false, false, false, false, false] rfl rfl (by kernel_rfl) (fun _ _ _ h => h) (Or.inl ⟨by rfl, ?_⟩) ?_ ?_
                  rotate_left
                  · intro w'
                    go_simp
                    with_reducible rfl
                  rotate_left
                  · simp only [Act.put, List.setIfInBounds_toArray, List.set_cons_zero, List.set_cons_succ, i64_w, i32_w]
                    rfl
                  refine pure_ (i := 4) (N := some 152) (v := ?_) (a' := ?_) #[true, true, true, true, true, false, false, false, false, false, false, false, false, false, false, false, false, false, false, false, false] rfl rfl (by kernel_rfl) (fun _ _ _ h => h) (Or.inl ⟨by rfl, ?_⟩) ?_ ?_
                  rotate_left
                  · intro w'
                    go_simp
                    with_reducible rfl
                  rotate_left
                  · simp only [Act.put, List.setIfInBounds_toArray, List.set_cons_zero, List.set_cons_succ, i64_w, i32_w]
                    rfl
                  refine pure_ (i := 7) (N := some 155) (v := ?_) (a' := ?_) #[true, true, true, true, true, false, false, true, false, false, false, false, false, false, false, false, false, false, false, false, false] rfl rfl (by kernel_rfl) (fun _ _ _ h => h) (Or.inl ⟨by rfl, ?_⟩) ?_ ?_
                  rotate_left
                  · intro w'
                    go_simp
                    with_reducible rfl
                  rotate_left
                  · simp only [Act.put, List.setIfInBounds_toArray, List.set_cons_zero, List.set_cons_succ, i64_w, i32_w]
                    rfl
                  refine take_ (i := 5) (N := some 153) (v := ?_) (a' := ?_) #[true, true, true, true, true, true, false, true, false, false, false, false, false, false, false, false, false, false, false, false, false] rfl rfl (by kernel_rfl) (fun _ _ _ h => h) (Or.inl ⟨by rfl, ?_⟩) hHeld ?_ ?_
                  rotate_left
                  · rintro w' ⟨s0, s1⟩
                    go_simp
                    with_reducible rfl
                  rotate_left
                  · simp only [Act.put, List.setIfInBounds_toArray, List.set_cons_zero, List.set_cons_succ, i64_w, i32_w]
                    rfl
                  refine one_ (i := 6) (N := some 154) #[true, true, true, true, true, true, true, true, false, false, false, false, false, false, false, false, false, false, false, false, false] rfl rfl (by kernel_rfl) (by decide) (fun K hK => ?_)
                  refine goes_ Try.func14 (by kernel_rfl) rfl #[.pointer (some ⟨g, 0, none⟩), .string t.f0] (by rfl) rfl rfl (by simp only [List.map_toArray, List.map_cons, List.map_nil]; rfl) ?_
                  with_reducible refine (HFI.out _ (below_drew HB7.out)).mono ?_
                  rintro e w8 ⟨rfl, hb8⟩
                  refine ⟨_, rfl, ?_⟩
                  have HB8 := Aside0.mk (below_step (below_drew HB7.out) hb8)
                  refine hK.out _ _ ⟨cells_later hb8 hHeld.1, cells_later hb8 hHeld.2⟩ (fun hHeld => ?_)
                  clear hK K
                  refine norm_ (a' := ?_) ?_ ?_
                  rotate_left
                  · show Act.put _ (some 154) _ = _
                    simp only [Act.put, List.setIfInBounds_toArray, List.set_cons_zero, List.set_cons_succ, i64_w, i32_w]
                    rfl
                  refine pure_ (i := 8) (N := some 156) (v := ?_) (a' := ?_) #[true, true, true, true, true, true, true, true, true, false, false, false, false, false, false, false, false, false, false, false, false] rfl rfl (by kernel_rfl) (fun _ _ _ h => h) (Or.inl ⟨by rfl, ?_⟩) ?_ ?_
                  rotate_left
                  · intro w'
                    go_simp
                    with_reducible rfl
                  rotate_left
                  · simp only [Act.put, List.setIfInBounds_toArray, List.set_cons_zero, List.set_cons_succ, i64_w, i32_w]
                    rfl
                  refine pure_ (i := 9) (N := some 157) (v := ?_) (a' := ?_) #[true, true, true, true, true, true, true, true, true, true, false, false, false, false, false, false, false, false, false, false, false] rfl rfl (by kernel_rfl) (fun _ _ _ h => h) (Or.inl ⟨by rfl, ?_⟩) ?_ ?_
                  rotate_left
                  · intro w'
                    go_simp
                    with_reducible rfl
                  rotate_left
                  · simp only [Act.put, List.setIfInBounds_toArray, List.set_cons_zero, List.set_cons_succ, i64_w, i32_w]
                    rfl
                  refine pure_ (i := 10) (N := some 158) (v := ?_) (a' := ?_) #[true, true, true, true, true, true, true, true, true, true, true, false, false, false, false, false, false, false, false, false, false] rfl rfl (by kernel_rfl) (fun _ _ _ h => h) (Or.inl ⟨by rfl, ?_⟩) ?_ ?_
                  rotate_left
                  · intro w'
                    go_simp
                    with_reducible rfl
                  rotate_left
                  · simp only [Act.put, List.setIfInBounds_toArray, List.set_cons_zero, List.set_cons_succ, i64_w, i32_w]
                    rfl
                  refine pure_ (i := 11) (N := some 159) (v := ?_) (a' := ?_) #[true, true, true, true, true, true, true, true, true, true, true, true, false, false, false, false, false, false, false, false, false] rfl rfl (by kernel_rfl) (fun _ _ _ h => h) (Or.inl ⟨by rfl, ?_⟩) ?_ ?_
                  rotate_left
                  · intro w'
                    go_simp
                    with_reducible rfl
                  rotate_left
                  · simp only [Act.put, List.setIfInBounds_toArray, List.set_cons_zero, List.set_cons_succ, i64_w, i32_w]
                    rfl
                  refine pure_ (i := 13) (N := some 161) (v := ?_) (a' := ?_) #[true, true, true, true, true, true, true, true, true, true, true, true, false, true, false, false, false, false, false, false, false] rfl rfl (by kernel_rfl) (fun _ _ _ h => h) (Or.inl ⟨by rfl, ?_⟩) ?_ ?_
                  rotate_left
                  · intro w'
                    go_simp
                    with_reducible rfl
                  rotate_left
                  · simp only [Act.put, List.setIfInBounds_toArray, List.set_cons_zero, List.set_cons_succ, i64_w, i32_w]
                    rfl
                  refine pure_ (i := 14) (N := some 162) (v := ?_) (a' := ?_) #[true, true, true, true, true, true, true, true, true, true, true, true, false, true, true, false, false, false, false, false, false] rfl rfl (by kernel_rfl) (fun _ _ _ h => h) (Or.inl ⟨by rfl, ?_⟩) ?_ ?_
                  rotate_left
                  · intro w'
                    go_simp
                    with_reducible rfl
                  rotate_left
                  · simp only [Act.put, List.setIfInBounds_toArray, List.set_cons_zero, List.set_cons_succ, i64_w, i32_w]
                    rfl
                  refine pure_ (i := 15) (N := some 163) (v := ?_) (a' := ?_) #[true, true, true, true, true, true, true, true, true, true, true, true, false, true, true, true, false, false, false, false, false] rfl rfl (by kernel_rfl) (fun _ _ _ h => h) (Or.inl ⟨by rfl, ?_⟩) ?_ ?_
                  rotate_left
                  · intro w'
                    go_simp
                    with_reducible rfl
                  rotate_left
                  · simp only [Act.put, List.setIfInBounds_toArray, List.set_cons_zero, List.set_cons_succ, i64_w, i32_w]
                    rfl
                  refine pure_ (i := 16) (N := some 164) (v := ?_) (a' := ?_) #[true, true, true, true, true, true, true, true, true, true, true, true, false, true, true, true, true, false, false, false, false] rfl rfl (by kernel_rfl) (fun _ _ _ h => h) (Or.inl ⟨by rfl, ?_⟩) ?_ ?_
                  rotate_left
                  · intro w'
                    go_simp
                    with_reducible rfl
                  rotate_left
                  · simp only [Act.put, List.setIfInBounds_toArray, List.set_cons_zero, List.set_cons_succ, i64_w, i32_w]
                    rfl
                  refine take_ (i := 17) (N := some 165) (v := ?_) (a' := ?_) #[true, true, true, true, true, true, true, true, true, true, true, true, false, true, true, true, true, true, false, false, false] rfl rfl (by kernel_rfl) (fun _ _ _ h => h) (Or.inl ⟨by rfl, ?_⟩) hHeld ?_ ?_
                  rotate_left
                  · rintro w' ⟨s0, s1⟩
                    go_simp
                    with_reducible rfl
                  rotate_left
                  · simp only [Act.put, List.setIfInBounds_toArray, List.set_cons_zero, List.set_cons_succ, i64_w, i32_w]
                    rfl
                  refine pure_ (i := 18) (N := some 166) (v := ?_) (a' := ?_) #[true, true, true, true, true, true, true, true, true, true, true, true, false, true, true, true, true, true, true, false, false] rfl rfl (by kernel_rfl) (fun _ _ _ h => h) (Or.inl ⟨by rfl, ?_⟩) ?_ ?_
                  rotate_left
                  · intro w'
                    go_simp
                    with_reducible rfl
                  rotate_left
                  · simp only [Act.put, List.setIfInBounds_toArray, List.set_cons_zero, List.set_cons_succ, i64_w, i32_w]
                    rfl
                  refine one_ (i := 12) (N := some 160) #[true, true, true, true, true, true, true, true, true, true, true, true, true, true, true, true, true, true, true, false, false] rfl rfl (by kernel_rfl) (by decide) (fun K hK => ?_)
                  refine goes_ Try.func15 (by kernel_rfl) rfl #[.pointer (some ⟨g, 0, none⟩), .int .i64 i] (by rfl) rfl rfl (by simp only [List.map_toArray, List.map_cons, List.map_nil]; rfl) ?_
                  with_reducible refine (HMA.out _ HB8.out).mono ?_
                  rintro e w9 ⟨rfl, hb9⟩
                  refine ⟨_, rfl, ?_⟩
                  have HB9 := Aside0.mk (below_step HB8.out hb9)
                  refine hK.out _ _ ⟨cells_later hb9 hHeld.1, cells_later hb9 hHeld.2⟩ (fun hHeld => ?_)
                  clear hK K
                  refine norm_ (a' := ?_) ?_ ?_
                  rotate_left
                  · show Act.put _ (some 160) _ = _
                    simp only [Act.put, List.setIfInBounds_toArray, List.set_cons_zero, List.set_cons_succ, i64_w, i32_w]
                    rfl
                  refine pure_ (i := 19) (N := some 167) (v := ?_) (a' := ?_) #[true, true, true, true, true, true, true, true, true, true, true, true, true, true, true, true, true, true, true, true, false] rfl rfl (by kernel_rfl) (fun _ _ _ h => h) (Or.inl ⟨by rfl, ?_⟩) ?_ ?_
                  rotate_left
                  · intro w'
                    go_simp
                    with_reducible rfl
                  rotate_left
                  · simp only [Act.put, List.setIfInBounds_toArray, List.set_cons_zero, List.set_cons_succ, i64_w, i32_w]
                    rfl
                  refine pure_ (i := 20) (N := some 168) (v := ?_) (a' := ?_) #[true, true, true, true, true, true, true, true, true, true, true, true, true, true, true, true, true, true, true, true, true] rfl rfl (by kernel_rfl) (fun _ _ _ h => h) (Or.inl ⟨by rfl, ?_⟩) ?_ ?_
                  rotate_left
                  · intro w'
                    go_simp
                    with_reducible rfl
                  rotate_left
                  · simp only [Act.put, List.setIfInBounds_toArray, List.set_cons_zero, List.set_cons_succ, i64_w, i32_w]
                    rfl
                  refine done_ (by kernel_rfl) ?_
                  go_wp2_with fail
                  go_meet
                  exact ⟨rfl, HB9⟩
              case rest =>
              obtain ⟨rfl, HB9⟩ := hcut
              obtain ⟨w9, rfl⟩ : ∃ x, x = wc := ⟨_, rfl⟩
              have hcp : 0 < t.f1.length := HTT.out.1
              have hl38 : t.f1.length ≤ 9223372036854775807 := HC1.out.2.1
              have hl34 : t.f2.length ≤ 9223372036854775807 := HC2.out.2.1
              have hy1 := cells_later HB9.out X1.out
              clear HFI HMA hq0 hq2 HB7
              go_upto_block 12 with (first | (go_at_call 16; refine (HCO.out _ HB9.out).mono ?_; rintro e w10 ⟨vc, rfl, hR, hb⟩; obtain ⟨gc, cc, ec, hgc0, _, _⟩ := Kd.N_form (Kd.R_N hR) hcp; subst ec; have HNC := Aside0.mk (Kd.N_lower (Kd.R_N hR) HB9.out.size); have HB10 := Aside0.mk (below_step HB9.out hb); have HGC := Aside0.mk (Nat.le_trans HB9.out.size hgc0); have hy1' := cells_later hb hy1; clear hR hb hgc0 HCO hy1))
              go_wp2
              clear hy1'
              go_loopw [22] (fun s22 wr => ∃ (k : Nat) (xs : List S38), k ≤ t.f1.length ∧ s22 = .int .i64 k ∧ Aside0 (Kd.N k38 38 wr w5.heap.size (fun _ => True) (.slice (some ⟨gc, 0, none⟩) t.f1.length cc) xs) ∧ Aside0 (xs.length = t.f1.length ∧ ∀ j, k ≤ j → xs[j]? = t.f1[j]?) ∧ Aside0 (Below w5.heap.size w5 wr)) (fun s22 _ => t.f1.length - (intOf s22).toNat)
              case atStart => exact ⟨0, t.f1, Nat.zero_le _, rfl, HNC, ⟨rfl, fun _ _ => rfl⟩, HB10⟩
              case round =>
                obtain ⟨k, xs, hk, rfl, HN, HXS, HB11⟩ := hrel
                by_cases hkt : k < t.f1.length
                · have hxk : k < xs.length := by rw [HXS.out.1]; exact hkt
                  obtain ⟨cs, hcl, hF, hcc, hfr⟩ := Kd.N_elem HN.out z38 (k : Int) (by omega) (by omega)
                  have e1 : xs.getD (k : Int).toNat z38 = t.f1[k] := by
                    rw [Int.toNat_natCast, List.getD_eq_getElem?_getD, HXS.out.2 k (Nat.le_refl _), List.getElem?_eq_getElem hkt]
                    rfl
                  rw [e1] at hF
                  have e0 := k38_open (Kd.FK_now hF)
                  subst e0
                  rw [Int.toNat_natCast] at hcc
                  have p0 := hcc 0 _ rfl
                  have p1 := hcc 1 _ rfl
                  have hs2 : k38.sz = 2 := rfl
                  rw [hs2] at p0 p1
                  rw [Nat.add_zero] at p0
                  obtain ⟨ad1, e, q0, q1⟩ := at38 (Kd.C_below HC1.out HB11.out) k hkt
                  cases e
                  have hy1 := cells_later HB11.out X1.out
                  have HCC := Aside0.mk hcc
                  have HCLN := Aside0.mk hcl
                  clear hcc hcl hF hfr e1
                  generalize t.f1[k] = x at *
                  have hi0 : (x.f0.toList == x.f0.toList) = true := beq_self_eq_true _
                  have hi1 : (x.f1 == x.f1) = true := beq_self_eq_true _
                  go_upto_region 41 with fail
                  go_quiet (fail)
                  go_wp2_with (first | ((with_reducible refine gate_store (t := 38) (p := 203) (v := .tmp 202) rfl ?_); go_loud (refine Kd.N_store k38 (w0 := w5) w5.heap.size rfl rfl 38 (.tmp 203) (.tmp 202) rfl 38 (o' := k * 2) (k : Int) 0 xs z38 (.agg #[.string ⟨#[]⟩, .int .i64 0]) [.string ⟨#[]⟩, .int .i64 0] [.string x.f0, .int .i64 x.f1] (fun _ => True) (fun _ => False) ?sa ?so ?sx rfl size38 (by decide) (Kd.N_drewN HN.out _) (by omega) (by omega) rfl (by rw [Int.toNat_natCast]; exact HCC.out) (Nat.le_refl 2) ?sm (fun _ hk => hk.elim) (pw_below_drewN HB11.out _) ?_); (case sa => first | (go_simp; done) | (go_simp; rfl)); (case so => rw [Int.toNat_natCast]; rfl); (case sx => first | (go_simp; done) | (go_simp; rfl)); (case sm => exact fun W' _ => k38_mk W' z38); intro wA hNA hbA hgA; have HNA := Aside0.mk hNA; have HBA := Aside0.mk hbA; clear hNA hbA hgA))
                  go_roundw
                  case rel => exact ⟨k + 1, xs.set k z38, by omega, by go_num, HNA, ⟨by rw [List.length_set]; exact HXS.out.1, fun j hj => by rw [List.getElem?_set_ne (by omega)]; exact HXS.out.2 j (by omega)⟩, HBA⟩
                  case measure => simp [intOf]; omega
                · clear HN HXS HNC HB10
                  go_upto_block 14 with fail
                  go_wp2
                  clear hk hkt HGC
                  go_loopw [23] (fun s23 wr => ∃ m : Nat, m ≤ t.f2.length ∧ s23 = .int .i64 m ∧ Aside0 (Below w5.heap.size w5 wr)) (fun s23 _ => t.f2.length - (intOf s23).toNat)
                  case atStart => exact ⟨0, Nat.zero_le _, rfl, HB11⟩
                  case round =>
                    clear HB11
                    obtain ⟨m, hm, rfl, HB12⟩ := hrel
                    have hy2 := cells_later HB12.out X2.out
                    by_cases hmt : m < t.f2.length
                    · obtain ⟨ad2, A0, c0, e, hq3, hlc, hC⟩ := atL3 HC2.out m hmt
                      cases e
                      have HC0 := Aside0.mk hC
                      have X3 := Aside0.mk hq3
                      have hrl := HTT.out.2 _ (List.getElem_mem hmt)
                      replace HRO := Aside0.mk (HRO.out m hmt)
                      clear hC hq3
                      generalize t.f2[m] = r at *
                      have hrp : 0 < r.length := by omega
                      have hrp2 : (0 : Int) < (r.length : Int) := by omega
                      go_wp2_with (first | (go_at_call 17; refine (HRO.out _ HB12.out).mono ?_; rintro e w13 ⟨vx, rfl, hR, hb⟩; obtain ⟨gx, cx, ec, ha, _, _⟩ := R_alive hR hrp z36; subst ec; have HA := Aside0.mk ha; have HCX := Aside0.mk (Kd.N_reads' (Kd.R_N hR)).2; have HGX := Aside0.mk (Nat.le_trans HB12.out.size ((Kd.R_bound hR).1 gx rfl).2.1); have HB13 := Aside0.mk (below_step HB12.out hb); have hy2' := cells_later hb hy2; clear hR hb ha hy2 HRO) | ((with_reducible refine gate_dst (N := 222) rfl ?_); refine slice_event ?hg (N := 222) ?hd (cs := #[.slice (some ⟨gx, 0, none⟩) r.length cx]) (t := 34) (n := 1) ?hr ?_; (case hd => rfl); (case hg => rfl); (case hr => first | (go_simp; done) | (go_simp; rfl)); intro g2 hg2 w14 hbl hb; have HR1 := Aside0.mk (one_row HCX.out.2 HCX.out.1 hbl hb); have HA14 := Aside0.mk (HA.out.below hb); have HB14 := Aside0.mk (below_step HB13.out hb); have hy3 := cells_later hb hy2'; have hz3 := cells_later HB14.out X3.out; clear hbl hb hg2 HA HCX hy2') | ((with_reducible refine gate_dst (N := 231) rfl ?_); refine slice_event ?hg (N := 231) ?hd (cs := #[.slice A0 r.length c0]) (t := 34) (n := 1) ?hr ?_; (case hd => rfl); (case hg => rfl); (case hr => first | (go_simp; done) | (go_simp; rfl)); intro g3 hg3 w15 hbl hb; have HR2 := Aside0.mk (one_row (Kd.C_below HC0.out HB14.out) hlc hbl hb); have HR3 := Aside0.mk (Kd.C_below HR1.out hb); have HA15 := Aside0.mk (HA14.out.below hb); have HB15 := Aside0.mk (below_step HB14.out hb); clear hbl hb hg3 HR1 HA14 hy3 hz3) | (go_at_call 18; refine (rows_same (some ⟨g2, 0, none⟩) (some ⟨g3, 0, none⟩) 1 1 [r] _ HR3.out HR2.out).mono ?_; rintro e w16 ⟨rfl, hb⟩; have ha16 := HA15.out.below hb; obtain ⟨y0, hy0, hg0⟩ := ha16.cell 0 (by show 0 < r.length * 3; omega); obtain ⟨y1, hy1, hg1⟩ := ha16.cell 1 (by show 1 < r.length * 3; omega); obtain ⟨y2, hy2, hg2⟩ := ha16.cell 2 (by show 2 < r.length * 3; omega); have HB16 := Aside0.mk (below_step HB15.out hb); clear hb ha16 HA15 HR2 HR3))
                      go_roundw
                      case rel => exact ⟨m + 1, by omega, by go_num, ⟨below_set (below_set (below_set HB16.out HGX.out) HGX.out) HGX.out⟩⟩
                      case measure => simp [intOf]; omega
                    · go_wp2_with fail
                      go_roundw
                      case rel => exact ⟨i + 1, by omega, by go_num, HB12⟩
                      case measure => simp [intOf]; omega
            · go_wp2_with fail
              go_roundw
              case rel => exact ⟨tn + 1, by omega, by go_num, HB7⟩
              case measure => simp [intOf]; omega
        · have htl2 : ¬ ((tn : Int) < 2) := by omega
          go_wp2_with fail
          go_meet
          exact HB6
  case rest =>
  obtain ⟨w6, rfl⟩ : ∃ x, x = wc := ⟨_, rfl⟩
  have HB6 := hcut
  have HG6 : Aside0 (∀ w, Below w6.heap.size w6 w → w.heap[g]? = some (.cells #[.slice Av l.length cv, mv] 68 (0, 0)) ∧ Kd.C k33 w Av l.length l ∧ Kd.C k33 w A l.length l) := ⟨fun w hb => ⟨((below_step HB6.out hb).block _ (blk_lt HG5.out)).trans HG5.out, Kd.C_below HCV.out (below_step HB6.out hb), Kd.C_below (Kd.C_below HR.out HB5.out) (below_step HB6.out hb)⟩⟩
  have HBW : Aside0 (Below W.heap.size W w6) := ⟨below_step HB5.out HB6.out⟩
  have HF1 := Aside0.mk (fun w hb => store_Find g Av cv mv l nm w (HG6.out w hb).1 (HG6.out w hb).2.1 hl62)
  have HF2 := Aside0.mk (fun w hb => ref_Find A c l nm w (HG6.out w hb).2.2)
  have HM1 := Aside0.mk (fun w hb => store_Many g Av cv mv l tb w (HG6.out w hb).1 (HG6.out w hb).2.1 hl62)
  generalize findB l nm = fd at *
  have hff : (fd == fd) = true := beq_self_eq_true _
  by_cases hin : 0 ≤ tb ∧ tb < (l.length : Int)
  · obtain ⟨h1, h2⟩ := hin
    obtain ⟨i, ei⟩ : ∃ i : Nat, tb = (i : Int) := ⟨tb.toNat, by omega⟩
    subst ei
    have hi : i < l.length := by omega
    have HSZ := HRS.out.2 _ (List.getElem_mem hi)
    rw [atB_in i hi] at HM1
    by_cases hn : 0 ≤ n ∧ n < (l[i].f2.length : Int)
    · obtain ⟨n1, n2⟩ := hn
      obtain ⟨m, em⟩ : ∃ m : Nat, n = (m : Int) := ⟨n.toNat, by omega⟩
      subst em
      have hm : m < l[i].f2.length := by omega
      have HRW := Aside0.mk (fun w hb => store_Row g Av cv mv l i m w (HG6.out w hb).1 (HG6.out w hb).2.1 hl62 hi hm (by have := HSZ.2.2 _ (List.getElem_mem hm); omega))
      clear HSZ
      generalize l[i] = t at *
      go_wp2_with (first | (go_at_call 17; refine (HRW.out _ (Below.refl _ _)).mono ?_; rintro e w7 ⟨vr, rfl, hR, hb⟩; have HB7 := Aside0.mk hb; clear hb hR HRW) | (go_at_call 14; refine (HF1.out _ HB7.out).mono ?_; rintro e w8 ⟨rfl, hb⟩; have HB8 := Aside0.mk (below_step HB7.out hb); clear hb) | (go_at_call 19; refine (HF2.out _ HB8.out).mono ?_; rintro e w9 ⟨rfl, hb⟩; have HB9 := Aside0.mk (below_step HB8.out hb); clear hb) | (go_at_call 15; refine (HM1.out _ HB9.out).mono ?_; rintro e w10 ⟨rfl, hb⟩; have HB10 := Aside0.mk (below_step HB9.out hb); clear hb))
      go_ret
      exact ⟨rfl, below_step HBW.out HB10.out⟩
    · have hno : n < 0 ∨ (l[i].f2.length : Int) ≤ n := by omega
      have HRW := Aside0.mk (fun w hb => store_Row_no g Av cv mv l i n w (HG6.out w hb).1 (HG6.out w hb).2.1 hl62 (by rw [atB_in i hi]; exact hno))
      clear HSZ
      generalize l[i] = t at *
      by_cases n1 : n < 0
      · have n2 : ¬ (0 ≤ n) := by omega
        clear hno hn
        go_wp2_with (first | (go_at_call 17; refine (HRW.out _ (Below.refl _ _)).mono ?_; rintro e w7 ⟨rfl, hb⟩; have HB7 := Aside0.mk hb; clear hb HRW) | (go_at_call 14; refine (HF1.out _ HB7.out).mono ?_; rintro e w8 ⟨rfl, hb⟩; have HB8 := Aside0.mk (below_step HB7.out hb); clear hb) | (go_at_call 19; refine (HF2.out _ HB8.out).mono ?_; rintro e w9 ⟨rfl, hb⟩; have HB9 := Aside0.mk (below_step HB8.out hb); clear hb))
        go_ret
        exact ⟨rfl, below_step HBW.out HB9.out⟩
      · have n2 : 0 ≤ n := by omega
        have n3 : ¬ (n < (t.f2.length : Int)) := by omega
        clear hno hn
        go_wp2_with (first | (go_at_call 17; refine (HRW.out _ (Below.refl _ _)).mono ?_; rintro e w7 ⟨rfl, hb⟩; have HB7 := Aside0.mk hb; clear hb HRW) | (go_at_call 14; refine (HF1.out _ HB7.out).mono ?_; rintro e w8 ⟨rfl, hb⟩; have HB8 := Aside0.mk (below_step HB7.out hb); clear hb) | (go_at_call 19; refine (HF2.out _ HB8.out).mono ?_; rintro e w9 ⟨rfl, hb⟩; have HB9 := Aside0.mk (below_step HB8.out hb); clear hb) | (go_at_call 15; refine (HM1.out _ HB9.out).mono ?_; rintro e w10 ⟨rfl, hb⟩; have HB10 := Aside0.mk (below_step HB9.out hb); clear hb))
        go_ret
        have e3 : decide (n < (t.f2.length : Int)) = false := decide_eq_false (by omega)
        exact ⟨by show Ending.returned (.bool (!decide (n < (t.f2.length : Int)))) = _; rw [e3]; rfl, below_step HBW.out HB10.out⟩
  · have hout : tb < 0 ∨ (l.length : Int) ≤ tb := by omega
    have eo := atB_out hout
    rw [eo] at HM1
    have HM0 : Aside0 (∀ w, Below w6.heap.size w6 w → Calls Try.prog 15 #[.pointer (some ⟨g, 0, none⟩), .int .i64 tb] w fun e w' => e = .returned (.int .i64 0) ∧ Below w.heap.size w w') := ⟨HM1.out⟩
    have HRW := Aside0.mk (fun w hb => store_Row_no g Av cv mv l tb n w (HG6.out w hb).1 (HG6.out w hb).2.1 hl62 (by rw [eo]; show n < 0 ∨ (0 : Int) ≤ n; omega))
    have HC0 := Aside0.mk (fun w hb => store_Cols g Av cv mv l tb w (HG6.out w hb).1 (HG6.out w hb).2.1 hl62 (by rw [eo]; decide))
    rw [eo] at HC0
    have HC1 : Aside0 (∀ w, Below w6.heap.size w6 w → Calls Try.prog 16 #[.pointer (some ⟨g, 0, none⟩), .int .i64 tb] w fun e w' => ∃ v0_ : Value, e = .returned (v0_) ∧ Kd.R k38 38 w' w.heap.size (fun _ => True) v0_ [] ∧ Below w.heap.size w w') := ⟨HC0.out⟩
    clear HM1 HC0 eo
    replace HM1 := HM0
    clear HM0
    by_cases t1 : tb < 0
    · have t2 : ¬ (0 ≤ tb) := by omega
      clear hout hin
      go_wp2_with (first | (go_at_call 17; refine (HRW.out _ (Below.refl _ _)).mono ?_; rintro e w7 ⟨rfl, hb⟩; have HB7 := Aside0.mk hb; clear hb HRW) | (go_at_call 14; refine (HF1.out _ HB7.out).mono ?_; rintro e w8 ⟨rfl, hb⟩; have HB8 := Aside0.mk (below_step HB7.out hb); clear hb) | (go_at_call 19; refine (HF2.out _ HB8.out).mono ?_; rintro e w9 ⟨rfl, hb⟩; have HB9 := Aside0.mk (below_step HB8.out hb); clear hb) | (go_at_call 15; refine (HM1.out _ HB9.out).mono ?_; rintro e w10 ⟨rfl, hb⟩; have HB10 := Aside0.mk (below_step HB9.out hb); clear hb) | (go_at_call 16; refine (HC1.out _ HB10.out).mono ?_; rintro e w11 ⟨vc, rfl, hR, hb⟩; obtain ⟨A11, c11, e11⟩ := Kd.R_slice hR; subst e11; have HB11 := Aside0.mk (below_step HB10.out hb); clear hb hR))
      go_ret
      exact ⟨rfl, below_step HBW.out HB11.out⟩
    · have t2 : 0 ≤ tb := by omega
      have t3 : ¬ (tb < (l.length : Int)) := by omega
      clear hout hin
      go_wp2_with (first | (go_at_call 17; refine (HRW.out _ (Below.refl _ _)).mono ?_; rintro e w7 ⟨rfl, hb⟩; have HB7 := Aside0.mk hb; clear hb HRW) | (go_at_call 14; refine (HF1.out _ HB7.out).mono ?_; rintro e w8 ⟨rfl, hb⟩; have HB8 := Aside0.mk (below_step HB7.out hb); clear hb) | (go_at_call 19; refine (HF2.out _ HB8.out).mono ?_; rintro e w9 ⟨rfl, hb⟩; have HB9 := Aside0.mk (below_step HB8.out hb); clear hb) | (go_at_call 15; refine (HM1.out _ HB9.out).mono ?_; rintro e w10 ⟨rfl, hb⟩; have HB10 := Aside0.mk (below_step HB9.out hb); clear hb) | (go_at_call 16; refine (HC1.out _ HB10.out).mono ?_; rintro e w11 ⟨vc, rfl, hR, hb⟩; obtain ⟨A11, c11, e11⟩ := Kd.R_slice hR; subst e11; have HB11 := Aside0.mk (below_step HB10.out hb); clear hb hR))
      go_ret
      exact ⟨rfl, below_step HBW.out HB11.out⟩
theorem opens_row (W : World) (hw : ShB W) (A : Option Addr) (c : Nat) (l : List S33) (nm : ByteArray) (tb n : Int) (hr : Kd.C k33 W A l.length l) (hc : l.length ≤ c) (hl : szL 64 sz33 l) (hs : nm.size ≤ 140737488351232) (ht : (Lit.int .i64 tb).wf = true) (hn : (Lit.int .i64 n).wf = true) :
    Calls Try.prog 6 #[.slice A l.length c, .string nm, .int .i64 tb, .int .i64 n] W fun e w' => e = .returned (.bool true) ∧ Below W.heap.size W w' := opens_walk W A c l nm tb n hw hr hc hl

end Go.Proofs.Ytkogfjphpklioaa.QStoreNames
