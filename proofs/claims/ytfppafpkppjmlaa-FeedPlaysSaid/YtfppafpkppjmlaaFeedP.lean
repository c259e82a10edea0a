import Derived.Test.YtfppafpkppjmlaaFeedO
/- Feed: walks of the feed's functions, by hand; the conditions stand in each theorem. -/
namespace Go.Proofs.Ytfppafpkppjmlaa.QFeedPlays
open Go.RowKit Go.Proofs.YtfppafpkppjmlaaW.PrintWords Go.Proofs.YtfppafpkppjmlaaW.PrintLast Go.Proofs.YtfppafpkppjmlaaW.PrintMore
attribute [local go_sem] max2_int min2_int max_two min_two max_three min_three max_four min_four
set_option linter.unusedVariables false
set_option linter.unusedSimpArgs false
theorem filt_step (L : List S35) (k : ByteArray) (m : Nat) (hm : m < L.length) : (L.take (m + 1)).filter (fun p => !keyIs k p.f0) = (L.take m).filter (fun p => !keyIs k p.f0) ++ (if keyIs k L[m].f0 then [] else [L[m]]) := by
  rw [List.take_succ_eq_append_getElem hm, List.filter_append]
  congr 1
  cases h : keyIs k L[m].f0 <;> simp [h]
theorem ref_done {W w : World} {own : Nat → Prop} {g : Nat} {most : Int} {A0 A : Option Addr} {n n0 c0 c : Nat} {R : List S35} (hg : own g) (hgl : g < W.heap.size) (hbk : W.heap[g]? = some (.cells #[.int .i64 most, .slice A0 n0 c0] 39 (0, 0))) (hq : Kd.Q k35 35 w W.heap.size (fun _ => True) (.slice A n c) R) (hb : Below W.heap.size W w) :
    RefAt (w.setCell ⟨g, 1, none⟩ (.slice A n c)) (fun j => own j ∨ W.heap.size ≤ j) g most R ∧ Upd own W (w.setCell ⟨g, 1, none⟩ (.slice A n c)) := by
  obtain ⟨hn, hc, -⟩ := Kd.Q_reads' hq
  subst hn
  have hw : w.heap[g]? = some (.cells #[.int .i64 most, .slice A0 n0 c0] 39 (0, 0)) := (hb.block g hgl).trans hbk
  have hs := hb.size
  refine ⟨⟨A, c, ?_, .inl hg, hc, ?_⟩, ?_⟩
  · exact blk_set hw 1 (.slice A R.length c)
  · have h1 : Kd.Q k35 35 w W.heap.size (fun k => W.heap.size ≤ k) (.slice A R.length c) R := Kd.Q_mono (Kd.Q_bound hq) (fun k hk => hk.2.1)
    have h2 := Kd.Q_far (p := ⟨g, 1, none⟩) h1 (fun k hk e => by have : k = g := e; omega) (.slice A R.length c)
    exact Kd.Q_lower (Kd.Q_mono h2 (fun k hk => ⟨.inr hk, by omega⟩)) (Nat.zero_le _)
  · exact ⟨hb.os, hb.tape, hb.output, by simpa using hs, fun j hj hn => (Below.heap_setCell w ⟨g, 1, none⟩ _ j (fun e => hn (by have : j = g := e; exact this ▸ hg))).trans (hb.block j hj)⟩
set_option maxHeartbeats 4000000 in
theorem ref_Put (W : World) (own : Nat → Prop) (g : Nat) (most : Int) (L : List S35) (k : ByteArray) (x : Int) (h : RefAt W own g most L) (hl : L.length ≤ 1000) :
    Calls Try.prog 14 #[.pointer (some ⟨g, 0, none⟩), .string k, .int .i64 x] W fun e w' => e = .returned (.tuple #[]) ∧ RefAt w' (fun j => own j ∨ W.heap.size ≤ j) g most (putL most L k (clipV x)) ∧ Upd own W w' := by
  have hu35 := Try.underlying35
  obtain ⟨A, c, h1, h2, h3, h4⟩ := h
  have HQ := Aside0.mk (Kd.Q_reads' h4).2.2
  have hgl := blk_lt h1
  have HG := Aside0.mk h1
  have HO := Aside0.mk h2
  clear h1 h2 h4
  go_enter Try.func14, Try.ntmps14
  go_wp2
  go_loopw [6, 7] (fun s6 s7 wr => ∃ (m : Nat) (v6 : Value), m ≤ L.length ∧ s7 = .int .i64 m ∧ s6 = v6 ∧ Aside0 (Kd.Q k35 35 wr W.heap.size (fun _ => True) v6 ((L.take m).filter (fun p => !keyIs k p.f0))) ∧ Aside0 (Below W.heap.size W wr)) (fun _ i _ => L.length - (intOf i).toNat)
  case atStart => exact ⟨0, _, Nat.zero_le _, rfl, rfl, ⟨Kd.Q_nil _ _ _ _ _⟩, ⟨Below.refl _ _⟩⟩
  case round =>
    obtain ⟨m, v6, hm, rfl, rfl, HA, HB⟩ := hrel
    have hg0 := HB.out.size
    have hb0 : wr.heap[g]? = some (.cells #[.int .i64 most, .slice A L.length c] 39 (0, 0)) := (HB.out.block g hgl).trans HG.out
    have hd1 : wr.cell? ⟨g, 1, none⟩ = some (.slice A L.length c) := (blk_cell hb0 1).trans rfl
    have hd0 : wr.cell? ⟨g, 0, none⟩ = some (.int .i64 most) := (blk_cell hb0 0).trans rfl
    clear hb0
    by_cases hlt : m < L.length
    · obtain ⟨ad, e, hx0, hx1⟩ := at_35 (Kd.C_below HQ.out HB.out) m hlt
      cases e
      have HT := Aside0.mk (filt_step L k m hlt)
      have hrl : ((L.take m).filter (fun p => !keyIs k p.f0)).length ≤ L.length := Nat.le_trans (List.length_filter_le _ _) (by rw [List.length_take]; omega)
      have HRL := Aside0.mk hrl
      clear hrl
      generalize L[m] = p at *
      generalize (L.take m).filter (fun p => !keyIs k p.f0) = R at *
      cases hk : keyIs k p.f0 with
      | true =>
        have hb2 : (p.f0.toList == k.toList) = true := hk
        have hb3 : (p.f0.toList != k.toList) = false := by rw [bne, hb2]; rfl
        have HT2 := Aside0.mk (HT.out.trans (by rw [if_pos hk, List.append_nil]))
        clear hk HT
        go_wp2
        go_roundw
        case rel => exact ⟨m + 1, _, by omega, by go_num, rfl, ⟨by rw [HT2.out]; exact HA.out⟩, HB⟩
        case measure => simp [intOf]; omega
      | false =>
        have hb2 : (p.f0.toList == k.toList) = false := hk
        have hb3 : (p.f0.toList != k.toList) = true := by rw [bne, hb2]; rfl
        have HT2 := Aside0.mk (HT.out.trans (by rw [if_neg (by rw [hk]; decide)]))
        clear hk HT
        go_wp2_with (first | ((with_reducible refine gate_builtin (b := .append) (xs := #[.tmp 27, .tmp 35]) rfl ?_); at_builtin; refine Kd.Q_append k35 (w0 := W) W.heap.size rfl (.tmp 27) (.tmp 35) 22 35 (.agg #[.string (⟨#[]⟩ : ByteArray), .int .i64 0]) 24 rfl Try.underlying22 info35S rfl (by decide) (by decide) _ R p [.string p.f0, .int .i64 p.f1] (fun _ => True) (fun _ => False) rfl (by first | (go_simp; done) | (go_simp; rfl)) ?aP (fun _ hk => hk.elim) ?aF ?aO ?aB ?aS ?aL ?_; (case aP => exact k35_mkM _ _ _ p); (case aB => exact HB.out); (case aF => exact (fun _ _ => trivial)); (case aO => exact HA.out); (case aS => exact hg0); (case aL => have := HRL.out; omega); intro v4 w4 hq hb hgr hat; have HQ4 := Aside0.mk hq; have HB4 := Aside0.mk hb; clear hq hb hgr hat))
        go_roundw
        case rel => exact ⟨m + 1, _, by omega, by go_num, rfl, ⟨by rw [HT2.out]; exact HQ4.out⟩, HB4⟩
        case measure => simp [intOf]; omega
    · have HA2 := HA.out
      rw [show m = L.length by omega, List.take_length] at HA2
      have HA3 := Aside0.mk HA2
      have hrl : (L.filter (fun p => !keyIs k p.f0)).length ≤ L.length := List.length_filter_le _ _
      have HRL := Aside0.mk hrl
      have HP : Aside0 (putL most L k (clipV x) = if most < ((L.filter (fun p : S35 => !keyIs k p.f0) ++ [(⟨k, clipV x⟩ : S35)]).length : Int) then (L.filter (fun p : S35 => !keyIs k p.f0) ++ [(⟨k, clipV x⟩ : S35)]).drop 1 else L.filter (fun p : S35 => !keyIs k p.f0) ++ [(⟨k, clipV x⟩ : S35)]) := ⟨rfl⟩
      clear HA2 HA hrl
      generalize L.filter (fun p => !keyIs k p.f0) = R at *
      have hclip : Aside0 (∀ w, Calls Try.prog 18 #[.int .i64 x] w fun e w' => e = .returned (.int .i64 (clipV x)) ∧ Below w.heap.size w w') := ⟨fun w => weathercockref13_Clip.calls x _ w rfl⟩
      generalize hcx : clipV x = cx at *
      by_cases hcut : most < (R.length : Int) + 1
      · have hcb : decide (most < (R.length : Int) + 1) = true := decide_eq_true hcut
        go_wp2_with (first
        | (go_at_call 18; refine (hclip.out _).mono ?_; rintro e w3 ⟨rfl, hb3⟩; have HB3 := Aside0.mk (below_on HB.out hb3); have HA4 := Aside0.mk (Kd.Q_below HA3.out hb3); clear hb3)
        | ((with_reducible refine gate_builtin (b := .append) (xs := #[.tmp 37, .tmp 42]) rfl ?_); at_builtin; refine Kd.Q_append k35 (w0 := W) W.heap.size rfl (.tmp 37) (.tmp 42) 22 35 (.agg #[.string (⟨#[]⟩ : ByteArray), .int .i64 0]) 24 rfl Try.underlying22 info35S rfl (by decide) (by decide) _ R ⟨k, cx⟩ [.string k, .int .i64 cx] (fun _ => True) (fun _ => False) rfl (by first | (go_simp; done) | (go_simp; rfl)) ?aP (fun _ hk => hk.elim) ?aF ?aO ?aB ?aS ?aL ?_; (case aP => exact k35_mkM _ _ _ ⟨k, cx⟩); (case aB => exact HB3.out); (case aF => exact (fun _ _ => trivial)); (case aO => exact HA4.out); (case aS => exact HB3.out.size); (case aL => have := HRL.out; omega); intro v4 w4 hq hb hgr hat; obtain ⟨A9, c9, rfl, hc9⟩ := Kd.Q_slice hq; have HQ4 := Aside0.mk hq; have HB4 := Aside0.mk hb; clear hq hb hgr hat; have hg4 : w4.heap[g]? = some (.cells #[.int .i64 most, .slice A L.length c] 39 (0, 0)) := (HB4.out.block g hgl).trans HG.out; have hf0 : w4.cell? ⟨g, 0, none⟩ = some (.int .i64 most) := (blk_cell hg4 0).trans rfl; have hf1 : w4.cell? ⟨g, 1, none⟩ = some (.slice A L.length c) := (blk_cell hg4 1).trans rfl; have hfz : w4.frozen? ⟨g, 1, none⟩ = false := blk_frozen hg4 1; have HG4 := Aside0.mk hg4; clear hg4; have HR2 : Aside0 (0 < (R ++ [(⟨k, cx⟩ : S35)]).length) := ⟨by simp⟩; have hc92 : R.length + 1 ≤ c9 := (by simpa using hc9); clear hc9; by_cases hc91 : c9 = 1))
        · first | go_end0 | (simp only [Exit.inBlock, Exit.then]; refine bodyPost_ret (results_none rfl _ _ _) rfl ?_) | refine bodyPost_ret (results_none rfl _ _ _) rfl ?_
          have DQ := Kd.Q_drop (k := 1) HQ4.out (by simp)
          rw [if_pos hc91, hc91, show (R ++ [(⟨k, cx⟩ : S35)]).length - 1 = R.length by simp] at DQ
          rw [hcx, HP.out, if_pos (by simpa using hcut)]
          exact ⟨rfl, ref_done HO.out hgl HG.out DQ HB4.out⟩
        · first | go_end0 | (simp only [Exit.inBlock, Exit.then]; refine bodyPost_ret (results_none rfl _ _ _) rfl ?_) | refine bodyPost_ret (results_none rfl _ _ _) rfl ?_
          have DQ := Kd.Q_drop (k := 1) HQ4.out (by simp)
          rw [if_neg hc91, show (R ++ [(⟨k, cx⟩ : S35)]).length - 1 = R.length by simp] at DQ
          rw [hcx, HP.out, if_pos (by simpa using hcut)]
          exact ⟨rfl, ref_done HO.out hgl HG.out DQ HB4.out⟩
      · have hcb : decide (most < (R.length : Int) + 1) = false := decide_eq_false hcut
        go_wp2_with (first
        | (go_at_call 18; refine (hclip.out _).mono ?_; rintro e w3 ⟨rfl, hb3⟩; have HB3 := Aside0.mk (below_on HB.out hb3); have HA4 := Aside0.mk (Kd.Q_below HA3.out hb3); clear hb3)
        | ((with_reducible refine gate_builtin (b := .append) (xs := #[.tmp 37, .tmp 42]) rfl ?_); at_builtin; refine Kd.Q_append k35 (w0 := W) W.heap.size rfl (.tmp 37) (.tmp 42) 22 35 (.agg #[.string (⟨#[]⟩ : ByteArray), .int .i64 0]) 24 rfl Try.underlying22 info35S rfl (by decide) (by decide) _ R ⟨k, cx⟩ [.string k, .int .i64 cx] (fun _ => True) (fun _ => False) rfl (by first | (go_simp; done) | (go_simp; rfl)) ?aP (fun _ hk => hk.elim) ?aF ?aO ?aB ?aS ?aL ?_; (case aP => exact k35_mkM _ _ _ ⟨k, cx⟩); (case aB => exact HB3.out); (case aF => exact (fun _ _ => trivial)); (case aO => exact HA4.out); (case aS => exact HB3.out.size); (case aL => have := HRL.out; omega); intro v4 w4 hq hb hgr hat; obtain ⟨A9, c9, rfl, hc9⟩ := Kd.Q_slice hq; have HQ4 := Aside0.mk hq; have HB4 := Aside0.mk hb; clear hq hb hgr hat; have hg4 : w4.heap[g]? = some (.cells #[.int .i64 most, .slice A L.length c] 39 (0, 0)) := (HB4.out.block g hgl).trans HG.out; have hf0 : w4.cell? ⟨g, 0, none⟩ = some (.int .i64 most) := (blk_cell hg4 0).trans rfl; have hf1 : w4.cell? ⟨g, 1, none⟩ = some (.slice A L.length c) := (blk_cell hg4 1).trans rfl; have hfz : w4.frozen? ⟨g, 1, none⟩ = false := blk_frozen hg4 1; have HG4 := Aside0.mk hg4; clear hg4; have HR2 : Aside0 (0 < (R ++ [(⟨k, cx⟩ : S35)]).length) := ⟨by simp⟩; have hc92 : R.length + 1 ≤ c9 := (by simpa using hc9); clear hc9))
        first | go_end0 | (simp only [Exit.inBlock, Exit.then]; refine bodyPost_ret (results_none rfl _ _ _) rfl ?_) | refine bodyPost_ret (results_none rfl _ _ _) rfl ?_
        rw [hcx, HP.out, if_neg (by simpa using hcut)]
        have DQ := HQ4.out
        rw [show (R ++ [(⟨k, cx⟩ : S35)]).length = R.length + 1 by simp] at DQ
        exact ⟨rfl, ref_done HO.out hgl HG.out DQ HB4.out⟩

end Go.Proofs.Ytfppafpkppjmlaa.QFeedPlays
