import Derived.Test.YtpkhdljlhdomlaaIxT
/- Index: walks by hand; the conditions stand in each theorem. -/
namespace Go.Proofs.Ytpkhdljlhdomlaa.QIndexFinds
open Go.RowKit Go.Proofs.YtpkhdljlhdomlaaW.PrintWords Go.Proofs.YtpkhdljlhdomlaaW.PrintLast Go.Proofs.YtpkhdljlhdomlaaW.PrintMore
attribute [local go_sem] max2_int min2_int max_two min_two max_three min_three max_four min_four
set_option linter.unusedVariables false
set_option linter.unusedSimpArgs false
theorem add0 (a : Addr) : a.add 0 = a := rfl
theorem row1_get (vs : List S24) (n k : Nat) (h : k < (rowsF (fun x => [x]) vs n).length) : (rowsF (fun x => [x]) vs n)[k] = [rd_T24 (vs.take n) (k : Int)] := rowsF_get _ vs n k h
theorem vals_row1 (vs : List S24) (n : Nat) (h : n ≤ vs.length) : vals (rowsF (fun x => [x]) vs n) 0 n = vs.take n := by
  unfold vals rowsF
  rw [List.take_of_length_le (by rw [List.length_map, List.length_take]; omega), List.map_map]
  exact List.map_id' _
structure Gs (W w : World) (bl bh b0 g n : Nat) (Ar : Option Addr) (rows : List (List S24)) (L : List S24) (lo hi : S24) : Prop where
  ix : Ix w b0 g L
  rw_ : (Kd.slice 24 k24).C w Ar n rows
  bl : w.heap[bl]? = some (.cells #[.int .i64 lo.f0, .int .i64 lo.f1, .string lo.f2] 24 (0, 0))
  bh : w.heap[bh]? = some (.cells #[.int .i64 hi.f0, .int .i64 hi.f1, .string hi.f2] 24 (0, 0))
  bel : Below W.heap.size W w
theorem Gs.below {W w w' : World} {bl bh b0 g n : Nat} {Ar : Option Addr} {rows : List (List S24)} {L : List S24} {lo hi : S24} (h : Gs W w bl bh b0 g n Ar rows L lo hi) (hb : Below w.heap.size w w') : Gs W w' bl bh b0 g n Ar rows L lo hi :=
  ⟨h.ix.below hb, Kd.C_below h.rw_ hb, (hb.block bl (blk_lt h.bl)).trans h.bl, (hb.block bh (blk_lt h.bh)).trans h.bh, below_step h.bel hb⟩
/- Two lists that grow in turn, each in memory of its own. -/
structure Two (w : World) (b : Nat) (tg : Nat → Bool) (v1 v2 : Value) (l1 l2 : List Int) : Prop where
  r1 : kI.R 3 w b (fun j => tg j = true) v1 l1
  r2 : kI.R 3 w b (fun j => tg j = false) v2 l2
theorem Two.below {w w' : World} {b : Nat} {tg : Nat → Bool} {v1 v2 : Value} {l1 l2 : List Int} (h : Two w b tg v1 v2 l1 l2) (hb : Below w.heap.size w w') : Two w' b tg v1 v2 l1 l2 := ⟨Kd.R_below h.r1 hb, Kd.R_below h.r2 hb⟩
def labB (tg : Nat → Bool) (b : Nat) (t : Bool) : Nat → Bool := fun j => if b ≤ j then t else tg j
theorem Two.lab {w : World} {b : Nat} {tg : Nat → Bool} {v1 v2 : Value} {l1 l2 : List Int} (h : Two w b tg v1 v2 l1 l2) (t : Bool) : Two w b (labB tg w.heap.size t) v1 v2 l1 l2 :=
  ⟨Kd.R_mono (Kd.R_bound h.r1) (fun j hj => by unfold labB; rw [if_neg (by omega)]; exact hj.1), Kd.R_mono (Kd.R_bound h.r2) (fun j hj => by unfold labB; rw [if_neg (by omega)]; exact hj.1)⟩
theorem Two.app1 {w w1 : World} {b : Nat} {tg : Nat → Bool} {v1 v2 u : Value} {l1 l2 l : List Int} (h : Two w b tg v1 v2 l1 l2) (hR : kI.R 3 w1 b (fun j => tg j = true) u l) (hg : w.grownBy w1 v1.ownBlock) : Two w1 b tg u v2 l l2 :=
  ⟨hR, Kd.R_grown h.r2 hg (fun k hk e => by have h3 : tg k = true := h.r1.1 k e.symm; have h4 : tg k = false := hk; rw [h3] at h4; cases h4)⟩
theorem Two.app2 {w w1 : World} {b : Nat} {tg : Nat → Bool} {v1 v2 u : Value} {l1 l2 l : List Int} (h : Two w b tg v1 v2 l1 l2) (hR : kI.R 3 w1 b (fun j => tg j = false) u l) (hg : w.grownBy w1 v2.ownBlock) : Two w1 b tg v1 u l1 l :=
  ⟨Kd.R_grown h.r1 hg (fun k hk e => by have h3 : tg k = false := h.r2.1 k e.symm; have h4 : tg k = true := hk; rw [h3] at h4; cases h4), hR⟩
def fw (L : List S24) (lo hi : S24) (s : Int) : Bool := !isN L s && (geLo L [lo] s && leHi L [hi] s)
theorem fw_eq {L : List S24} {lo hi : S24} {s : Int} (h : ¬ (rd_T24 L s).f0 = 0) : fw L lo hi s = (decide (0 ≤ cVs (rd_T24 L s) lo) && decide (cVs (rd_T24 L s) hi ≤ 0)) := by
  have h1 : isN L s = false := decide_eq_false h
  have h2 : geLo L [lo] s = decide (0 ≤ cVs (rd_T24 L s) lo) := by
    show pS L lo false s = _
    unfold pS
    rw [Bool.eq_iff_iff]
    simp only [Bool.or_eq_true, decide_eq_true_eq, Bool.and_eq_true, Bool.not_false, and_true]
    omega
  have h3 : leHi L [hi] s = decide (cVs (rd_T24 L s) hi ≤ 0) := by
    show (!pS L hi true s) = _
    unfold pS
    rw [Bool.eq_iff_iff]
    simp
  unfold fw
  rw [h1, h2, h3]
  rfl
theorem fw_null {L : List S24} {lo hi : S24} {s : Int} (h : (rd_T24 L s).f0 = 0) : fw L lo hi s = false ∧ (!isN L s) = false := by
  have h1 : isN L s = true := decide_eq_true h
  unfold fw
  rw [h1]
  exact ⟨rfl, rfl⟩
theorem some_range (L : List S24) (S : List Int) : rangeL L S [] [] = S.filter (fun s => !isN L s) := by
  unfold rangeL
  apply List.filter_congr
  intro s _
  simp [geLo, leHi]
theorem dst_some {L : List S24} {S : List Int} (h : Srt L S) : dst L ≤ (S.filter (fun s => !isN L s)).length := by
  refine Nat.le_trans (ddup_len L) ?_
  rw [(h.1.filter (fun s => !isN L s)).length_eq]
  have e : L = (places L.length).map (rd_T24 L) := by
    apply List.ext_getElem
    · rw [List.length_map, places_len]
    · intro i h1 h2
      rw [List.getElem_map, places_at L.length i h1]
      have := rd_some h1
      rw [List.getElem?_eq_getElem h1] at this
      injection this
  conv => lhs; rw [e]
  rw [List.filter_map, List.length_map]
  refine Nat.le_of_eq (congrArg List.length (List.filter_congr (fun s _ => ?_)))
  unfold isN nn
  simp
theorem q_range (w : World) (g : Nat) (L : List S24) (S : List Int) (hrd : Rd w g L S) (hss : Srt L S) (hl : L.length ≤ 1000) (g1 g2 : Nat) (lo hi : S24) (h1 : w.heap[g1]? = some (.cells #[.int .i64 lo.f0, .int .i64 lo.f1, .string lo.f2] 24 (0, 0))) (h2 : w.heap[g2]? = some (.cells #[.int .i64 hi.f0, .int .i64 hi.f1, .string hi.f2] 24 (0, 0))) :
    Calls Try.prog 12 #[.pointer (some ⟨g, 0, none⟩), .slice (some ⟨g1, 0, none⟩) 1 1, .slice (some ⟨g2, 0, none⟩) 1 1] w fun e w' => ∃ A c, e = .returned (.slice A (rangeL L S [lo] [hi]).length c) ∧ (rangeL L S [lo] [hi]).length ≤ c ∧ kI.C w' A (rangeL L S [lo] [hi]).length (rangeL L S [lo] [hi]) ∧ Below w.heap.size w w' :=
  range12 w g L S hrd hss hl _ _ 1 1 [lo] [hi] (C_one w g1 lo h1) (C_one w g2 hi h2) (by simp) (by simp)
theorem q_range0 (w : World) (g : Nat) (L : List S24) (S : List Int) (hrd : Rd w g L S) (hss : Srt L S) (hl : L.length ≤ 1000) :
    Calls Try.prog 12 #[.pointer (some ⟨g, 0, none⟩), .slice none 0 0, .slice none 0 0] w fun e w' => ∃ A c, e = .returned (.slice A (rangeL L S [] []).length c) ∧ (rangeL L S [] []).length ≤ c ∧ kI.C w' A (rangeL L S [] []).length (rangeL L S [] []) ∧ Below w.heap.size w w' :=
  range12 w g L S hrd hss hl _ _ 0 0 [] [] (Kd.C_nil k24 w) (Kd.C_nil k24 w) (by simp) (by simp)
theorem range_le (L : List S24) (S : List Int) (lo hi : List S24) : (rangeL L S lo hi).length ≤ S.length := List.length_filter_le _ _
set_option maxRecDepth 8000 in
set_option maxHeartbeats 8000000 in
theorem ranges4 (W : World) (A : Option Addr) (c : Nat) (vs : List S24) (lo hi : S24) (hr : k24.C W A vs.length vs) (hok : ∀ x ∈ vs, okS x) :
    Calls Try.prog 4 #[.slice A vs.length c, encV lo, encV hi] W fun e w' => e = .returned (.bool true) ∧ Below W.heap.size W w' := by
  have HR := Aside0.mk hr
  have HOK := Aside0.mk hok
  have s1 : (W.alloc (.cells #[.int .i64 lo.f0, .int .i64 lo.f1, .string lo.f2] 24)).heap.size = W.heap.size + 1 := by simp
  have HBL : Aside0 (((W.alloc (.cells #[.int .i64 lo.f0, .int .i64 lo.f1, .string lo.f2] 24)).alloc (.cells #[.int .i64 hi.f0, .int .i64 hi.f1, .string hi.f2] 24)).heap[W.heap.size]? = some (.cells #[.int .i64 lo.f0, .int .i64 lo.f1, .string lo.f2] 24 (0, 0))) := ⟨(Below.heap_alloc _ _ _ (by rw [s1]; omega)).trans (blk_new W _)⟩
  have HBH : Aside0 (((W.alloc (.cells #[.int .i64 lo.f0, .int .i64 lo.f1, .string lo.f2] 24)).alloc (.cells #[.int .i64 hi.f0, .int .i64 hi.f1, .string hi.f2] 24)).heap[W.heap.size + 1]? = some (.cells #[.int .i64 hi.f0, .int .i64 hi.f1, .string hi.f2] 24 (0, 0))) := ⟨by have := blk_new (W.alloc (.cells #[.int .i64 lo.f0, .int .i64 lo.f1, .string lo.f2] 24)) (.cells #[.int .i64 hi.f0, .int .i64 hi.f1, .string hi.f2] 24); rw [s1] at this; exact this⟩
  have HB0 : Aside0 (Below W.heap.size W ((W.alloc (.cells #[.int .i64 lo.f0, .int .i64 lo.f1, .string lo.f2] 24)).alloc (.cells #[.int .i64 hi.f0, .int .i64 hi.f1, .string hi.f2] 24))) := ⟨below_alloc (below_alloc (Below.refl _ _) _) _⟩
  have HNF : Aside0 (nF vs ≤ vs.length ∧ nF vs ≤ 60 ∧ (nF vs = vs.length ∨ nF vs = 60)) := ⟨by unfold nF; omega⟩
  clear hr hok s1
  unfold encV
  go_enter Try.func4, Try.ntmps4
  go_upto_block 0 with (go_at_call 5; refine (examples5 _).mono ?_; rintro e w1 ⟨rfl, hb⟩; have HB1 := Aside0.mk (below_step HB0.out hb); have HBL1 := Aside0.mk ((hb.block _ (blk_lt HBL.out)).trans HBL.out); have HBH1 := Aside0.mk ((hb.block _ (blk_lt HBH.out)).trans HBH.out); clear hb HBL HBH HB0)
  obtain ⟨bh, hbh⟩ : ∃ bh, bh = W.heap.size + 1 := ⟨_, rfl⟩
  rw [← hbh] at HBH1 ⊢
  obtain ⟨bl, hbl⟩ : ∃ bl, bl = W.heap.size := ⟨_, rfl⟩
  rw [← hbl] at HBL1 ⊢
  clear hbh hbl
  go_cut [8] (fun s8 wx => Aside0 ((Kd.slice 24 k24).R 22 wx W.heap.size (fun k => k ≠ bl ∧ k ≠ bh) s8 (rowsF (fun x => [x]) vs (nF vs))) ∧ Aside0 (wx.heap[bl]? = some (.cells #[.int .i64 lo.f0, .int .i64 lo.f1, .string lo.f2] 24 (0, 0))) ∧ Aside0 (wx.heap[bh]? = some (.cells #[.int .i64 hi.f0, .int .i64 hi.f1, .string hi.f2] 24 (0, 0))) ∧ Aside0 (Below W.heap.size W wx))
  case first =>
    go_wp2
    go_loopw [8, 9] (fun s8 s9 wr => ∃ i : Nat, i ≤ nF vs ∧ s9 = .int .i64 i ∧ Aside0 ((Kd.slice 24 k24).R 22 wr W.heap.size (fun k => k ≠ bl ∧ k ≠ bh) s8 (rowsF (fun x => [x]) vs i)) ∧ Aside0 (wr.heap[bl]? = some (.cells #[.int .i64 lo.f0, .int .i64 lo.f1, .string lo.f2] 24 (0, 0))) ∧ Aside0 (wr.heap[bh]? = some (.cells #[.int .i64 hi.f0, .int .i64 hi.f1, .string hi.f2] 24 (0, 0))) ∧ Aside0 (Below W.heap.size W wr)) (fun _ s9 _ => nF vs - (intOf s9).toNat)
    case atStart => exact ⟨0, Nat.zero_le _, rfl, ⟨Kd.R_nil _ _ _ _ _⟩, HBL1, HBH1, HB1⟩
    case round =>
      clear HB1 HBL1 HBH1
      obtain ⟨i, hi', rfl, HS, HBL, HBH, HB⟩ := hrel
      have hnf := HNF.out
      by_cases hlt : i < nF vs
      · have hil : i < vs.length := by omega
        have hi60 : (i : Int) < 60 := by omega
        obtain ⟨ad, e, hx0, hx1, hx2⟩ := at_row (Kd.C_below HR.out HB.out) i hil
        subst e
        have HSU : Aside0 (rowsF (fun x => [x]) vs (i + 1) = rowsF (fun x => [x]) vs i ++ [[rd_T24 vs (i : Int)]]) := ⟨by rw [rowsF_succ _ _ _ hil]; congr 3; unfold rd_T24; rw [Int.toNat_natCast, List.getD_eq_getElem?_getD, List.getElem?_eq_getElem hil]; rfl⟩
        have HRL : Aside0 ((rowsF (fun x => [x]) vs i).length = i) := ⟨rowsF_len _ _ _ (by omega)⟩
        have HLT := Aside0.mk hlt
        have HIL := Aside0.mk hnf
        generalize rd_T24 vs (i : Int) = x at *
        clear hnf hlt hi'
        go_wp2_with (first | ((with_reducible refine gate_dst (N := 36) rfl ?_); refine Kd.R_lit k24 (w0 := W) W.heap.size 24 ?hg (N := 36) ?hd (xs := [x]) (inner := [.int .i64 x.f0, .int .i64 x.f1, .string x.f2]) (ok := fun k => wr.heap.size ≤ k) (okp := fun _ => False) ?hr ?hp (fun _ hk => hk.elim) (Nat.le_refl _) HB.out HB.out.size (by simp) ?_; (case hd => rfl); (case hg => rfl); (case hr => first | (go_simp; done) | (go_simp; rfl)); (case hp => exact (Reps.c3 (k24_mkM _ _ _ x) (Reps.none _ _))); intro v33 w2 hR33 hb2 hg2 hat2; obtain ⟨A33, c33, e33⟩ := Kd.R_slice hR33; subst e33; have H33 := Aside0.mk hR33; have HB2 := Aside0.mk hb2; have HG2 := Aside0.mk hg2; clear hR33 hb2 hg2 hat2) | ((with_reducible refine gate_builtin (b := .append) (xs := #[.tmp 31, .tmp 37]) rfl ?_); at_builtin; refine Kd.R_append (Kd.slice 24 k24) (w0 := W) W.heap.size rfl (.tmp 31) (.tmp 37) 26 22 (.slice none 0 0) 24 rfl Try.underlying26 info22 rfl (by decide) (by decide) _ (rowsF (fun x => [x]) vs i) [x] [.slice A33 1 c33] (fun k => k ≠ bl ∧ k ≠ bh) (fun k => wr.heap.size ≤ k) (by first | (go_simp; done) | (go_simp; rfl)) (by first | (go_simp; done) | (go_simp; rfl)) ⟨_, rfl, H33.out⟩ ?aK ?aF (Kd.R_grown HS.out HG2.out (fun _ _ => by simp)) HB2.out HB2.out.size ?aL ?_; (case aK => exact (fun k hk => ⟨⟨by have := blk_lt HBL.out; omega, by have := blk_lt HBH.out; omega⟩, fun e => by have := Kd.R_lt HS.out k e.symm; omega⟩)); (case aF => exact (fun k hk => ⟨by have := blk_lt HBL.out; have := HG2.out.size; omega, by have := blk_lt HBH.out; have := HG2.out.size; omega⟩)); (case aL => have := HRL.out; have := HIL.out; have := HLT.out; omega); intro v35 w3 hR35 hb3 hg3 hat3; have H35 := Aside0.mk hR35; have HB3 := Aside0.mk hb3; have HBL3 := Aside0.mk ((hg3.block bl (by have := blk_lt HBL.out; have := HG2.out.size; omega) (fun e => (Kd.R_away HS.out (fun _ h => h.1)) e)).trans ((HG2.out.block bl (blk_lt HBL.out) (by simp)).trans HBL.out)); have HBH3 := Aside0.mk ((hg3.block bh (by have := blk_lt HBH.out; have := HG2.out.size; omega) (fun e => (Kd.R_away HS.out (fun _ h => h.2)) e)).trans ((HG2.out.block bh (blk_lt HBH.out) (by simp)).trans HBH.out)); clear hR35 hb3 hg3 hat3))
        go_roundw
        case rel => exact ⟨i + 1, by have := HLT.out; omega, by go_num, ⟨by rw [HSU.out]; exact H35.out⟩, HBL3, HBH3, HB3⟩
        case measure => simp [intOf]; have := HLT.out; omega
      · have hin : i = nF vs := by omega
        have hout : (i < vs.length ∧ ¬ (i : Int) < 60) ∨ ¬ i < vs.length := by omega
        subst hin
        rcases hout with ⟨h1, h2⟩ | h1
        · clear hlt hnf hi'
          go_wp2
          go_meet
          exact ⟨HS, HBL, HBH, HB⟩
        · clear hlt hnf hi'
          go_wp2
          go_meet
          exact ⟨HS, HBL, HBH, HB⟩
  case rest =>
  obtain ⟨HS, HBL, HBH, HB⟩ := hcut
  obtain ⟨wO, rfl⟩ : ∃ x, x = wc := ⟨_, rfl⟩
  clear HB1 HBL1 HBH1
  obtain ⟨Ar, cr, e6, hcr, hCr⟩ := Kd.R_reads HS.out
  subst e6
  obtain ⟨L, hL⟩ : ∃ L, L = vs.take (nF vs) := ⟨_, rfl⟩
  obtain ⟨rows, hrows⟩ : ∃ rows, rows = rowsF (fun x => [x]) vs (nF vs) := ⟨_, rfl⟩
  obtain ⟨n, hn⟩ : ∃ n, n = nF vs := ⟨_, rfl⟩
  rw [← hrows] at hcr hCr ⊢
  have hrl : rows.length = n := by rw [hrows, hn]; exact rowsF_len _ _ _ HNF.out.1
  have HLL : Aside0 (L.length = n) := ⟨by rw [hL, hn, List.length_take]; have := HNF.out; omega⟩
  have HVL : Aside0 (vals rows 0 n = L) := ⟨by rw [hrows, hL, hn]; exact vals_row1 _ _ HNF.out.1⟩
  have HRW : Aside0 (∀ r ∈ rows, ∃ x ∈ L, r = [x]) := ⟨fun r hr => by
    rw [hrows] at hr
    unfold rowsF at hr
    obtain ⟨x, hx, rfl⟩ := List.mem_map.1 hr
    exact ⟨x, by rw [hL]; exact hx, rfl⟩⟩
  have HLO : Aside0 (∀ x ∈ L, okS x) := ⟨fun x hx => HOK.out x (by rw [hL] at hx; exact List.mem_of_mem_take hx)⟩
  have HRWi : Aside0 (∀ k (h : k < rows.length), rows[k] = [rd_T24 L (k : Int)]) := ⟨fun k h => by
    subst hrows
    subst hL
    exact row1_get _ _ _ h⟩
  have HRLn := Aside0.mk hrl
  rw [hrl] at hcr hCr ⊢
  have HBD : Aside0 (Calls Try.prog 6 #[.slice Ar n cr, .int .i64 0] wO fun e w' => ∃ g b0, e = .returned (.tuple #[.pointer (some ⟨g, 0, none⟩), .int .i64 0]) ∧ Gs W w' bl bh b0 g n Ar rows L lo hi) := ⟨by
    have h := index_Build wO Ar cr rows 0 (by rw [hrl]; exact hCr) (fun r hr => by obtain ⟨x, _, rfl⟩ := HRW.out r hr; simp) (fun r hr x hx => by
      obtain ⟨y, hy, rfl⟩ := HRW.out r hr
      rw [List.mem_singleton.1 hx]; exact HLO.out y hy) (by have := HNF.out; omega)
    rw [hrl, HVL.out] at h
    refine Calls.mono h ?_
    rintro e w' ⟨g, rfl, h1, h2⟩
    exact ⟨g, _, rfl, h1, Kd.C_below hCr h2, (h2.block bl (blk_lt HBL.out)).trans HBL.out, (h2.block bh (blk_lt HBH.out)).trans HBH.out, below_step HB.out h2⟩⟩
  have HN60 : Aside0 (n ≤ 60) := ⟨by rw [hn]; exact HNF.out.2.1⟩
  have HCR := Aside0.mk hcr
  clear hCr hcr hrl hL hrows hn HS HBL HBH HB HNF HOK HR HRW HVL HLO
  have HALL : Aside0 (∀ w' b0 g, Gs W w' bl bh b0 g n Ar rows L lo hi → ∃ S, Srt L S ∧ S.length = n ∧ Calls Try.prog 10 #[.pointer (some ⟨g, 0, none⟩)] w' fun e w'' => ∃ Aa ca, e = .returned (.slice Aa n ca) ∧ n ≤ ca ∧ kI.C w'' Aa n S ∧ Gs W w'' bl bh b0 g n Ar rows L lo hi) := ⟨fun w' b0 g h => by
    obtain ⟨S, h1, h2⟩ := h.ix.srd
    have h3 : S.length = n := by rw [h1.len]; exact HLL.out
    refine ⟨S, h1, h3, (all10 w' g L S h2 (by have := HN60.out; omega)).mono ?_⟩
    rintro e w'' ⟨v0, rfl, h4, h5⟩
    obtain ⟨Aa, ca, rfl, h6, h7⟩ := Kd.R_reads h4
    rw [h3] at h6 h7 ⊢
    exact ⟨Aa, ca, rfl, h6, h7, h.below h5⟩⟩
  have hn60 := HN60.out
  go_upto_block 2 with (first | (go_at_call 6; refine HBD.out.mono ?_; rintro e w2 ⟨g, b0, rfl, hF⟩; obtain ⟨S, hSS, hSn, hA⟩ := HALL.out w2 b0 g hF; have HSS := Aside0.mk hSS; have HSN := Aside0.mk hSn; have HA := Aside0.mk hA; clear hF hSS hSn hA HBD HALL) | (go_at_call 10; refine HA.out.mono ?_; rintro e w3 ⟨Aa, ca, rfl, hca, hCa, hG⟩; have HCa := Aside0.mk hCa; have Hca := Aside0.mk hca; have HG := Aside0.mk hG; clear hca hCa hG HA))
  have HBI : Aside0 (∀ j (h : j + 1 < S.length), before L (S[j]'(by omega)) S[j + 1]) := ⟨fun j h => (List.pairwise_iff_getElem.1 HSS.out.2) j (j + 1) (by omega) h (by omega)⟩
  go_cut [13, 14] (fun s13 s14 wx => ∃ tg, Aside0 (Two wx w3.heap.size tg s13 s14 (S.filter (fw L lo hi)) (S.filter (fun s => !isN L s))) ∧ Aside0 (Below w3.heap.size w3 wx))
  case first =>
    go_wp2
    go_loopw [13, 14, 15] (fun s13 s14 s15 wr => ∃ i : Nat, i ≤ n ∧ s15 = .int .i64 i ∧ ∃ tg, Aside0 (Two wr w3.heap.size tg s13 s14 ((S.take i).filter (fw L lo hi)) ((S.take i).filter (fun s => !isN L s))) ∧ Aside0 (Below w3.heap.size w3 wr)) (fun _ _ s15 _ => n - (intOf s15).toNat)
    case atStart => exact ⟨0, Nat.zero_le _, rfl, fun _ => true, ⟨Kd.R_nil _ _ _ _ _, Kd.R_nil _ _ _ _ _⟩, ⟨Below.refl _ _⟩⟩
    case round =>
      obtain ⟨i, hi', rfl, tg, HT, HB⟩ := hrel
      by_cases hlt : i < n
      · have hiS : i < S.length := by have := HSN.out; omega
        have HGr : Aside0 (Gs W wr bl bh b0 g n Ar rows L lo hi) := ⟨HG.out.below HB.out⟩
        have HCr := Aside0.mk (Kd.C_below HCa.out HB.out)
        obtain ⟨aa, e, hs1⟩ := Kd.at_int HCr.out (i : Int) (by omega) (by omega)
        subst e
        rw [Int.toNat_natCast, rd_mem S i hiS] at hs1
        have HTS : Aside0 (S.take (i + 1) = S.take i ++ [S[i]]) := ⟨List.take_succ_eq_append_getElem hiS⟩
        have hpl := HSS.out.pl _ (List.getElem_mem hiS)
        have HBJ : Aside0 (∀ j, j + 1 = i → ∃ s0 : Nat, s0 < n ∧ wr.cell? (aa.add j) = some (.int .i64 (s0 : Int)) ∧ before L (s0 : Int) S[i]) := ⟨fun j hj => by
          subst hj
          have hjS : j < S.length := by omega
          obtain ⟨aa', e, hs0⟩ := Kd.at_int HCr.out (j : Int) (by omega) (by omega)
          cases e
          rw [Int.toNat_natCast, rd_mem S j hjS] at hs0
          have hp0 := HSS.out.pl _ (List.getElem_mem hjS)
          have hb := HBI.out j hiS
          obtain ⟨s0, e0⟩ := Int.eq_ofNat_of_zero_le hp0.1
          rw [e0] at hs0 hb hp0
          exact ⟨s0, by have := HLL.out; omega, hs0, hb⟩⟩
        have HSI0 : Aside0 (rd S (i : Int) = S[i]) := ⟨rd_mem S i hiS⟩
        generalize S[i] = si at *
        obtain ⟨s1, rfl⟩ := Int.eq_ofNat_of_zero_le hpl.1
        have hs1n : s1 < n := by have := HLL.out; omega
        obtain ⟨ar, Ak, ck, e1, hrow, hck, hCk⟩ := at_rows HGr.out.rw_ s1 hs1n (by have := HRLn.out; omega)
        have hri := HRWi.out s1 (by have := HRLn.out; omega)
        obtain ⟨x, hx⟩ : ∃ x, x = rd_T24 L (s1 : Int) := ⟨_, rfl⟩
        rw [hri, ← hx] at hrow hCk
        rw [show [x].length = 1 from rfl] at hrow hCk
        obtain ⟨ak, e2, hx0, hx1, hx2⟩ := at_row hCk 0 (by omega)
        subst e2
        rw [show rd_T24 [x] ((0 : Nat) : Int) = x from rfl, Nat.zero_mul, add0] at hx0 hx1 hx2
        subst e1
        have HX := Aside0.mk hx
        have HSI := HSI0
        clear HSI0
        have HLT := Aside0.mk hlt
        have hs1z : (s1 : Int) < (n : Int) := by omega
        have hs1y : ¬ (n : Int) ≤ (s1 : Int) := by omega
        have hs1x : ¬ (s1 : Int) < 0 := by omega
        clear hi' hiS hpl hri hck hCk hx
        go_upto_if 87 with (first | ((with_reducible refine gate_dst (N := 16) rfl ?_); refine box_event ?hg (N := 16) ?hd (cs := #[.int .i64 0, .int .i64 0, .string (⟨#[]⟩ : ByteArray)]) (t := 24) ?hr ?_; (case hd => rfl); (case hg => rfl); (case hr => first | (go_simp; done) | (go_simp; rfl)); intro bv hbk W3 hbox hb; have GE : Aside0 (wr.heap.size ≤ bv) := ⟨Nat.le_of_eq hbk.symm⟩; have HB3 := Aside0.mk hb; have HBX := Aside0.mk hbox; have hs0 : W3.cell? ⟨bv, 0, none⟩ = some (.int .i64 0) := (blk_cell hbox 0).trans rfl; have hs1' : W3.cell? ⟨bv, 1, none⟩ = some (.int .i64 0) := (blk_cell hbox 1).trans rfl; have hs2 : W3.cell? ⟨bv, 2, none⟩ = some (.string (⟨#[]⟩ : ByteArray)) := (blk_cell hbox 2).trans rfl; have hf0 := blk_frozen hbox 0; have hf1 := blk_frozen hbox 1; have hf2 := blk_frozen hbox 2; clear hb hbox hbk))
        have HBV : Aside0 ((((W3.setCell ⟨bv, 0, none⟩ (.int .i64 x.f0)).setCell ⟨bv, 1, none⟩ (.int .i64 x.f1)).setCell ⟨bv, 2, none⟩ (.string x.f2)).heap[bv]? = some (.cells #[.int .i64 x.f0, .int .i64 x.f1, .string x.f2] 24 (0, 0))) := ⟨blk_put (cs := #[.int .i64 x.f0, .int .i64 x.f1, .string (⟨#[]⟩ : ByteArray)]) (blk_put (cs := #[.int .i64 x.f0, .int .i64 0, .string (⟨#[]⟩ : ByteArray)]) (blk_put (cs := #[.int .i64 0, .int .i64 0, .string (⟨#[]⟩ : ByteArray)]) HBX.out 0 _ rfl) 1 _ rfl) 2 _ rfl⟩
        have HBW : Aside0 (Below wr.heap.size wr (((W3.setCell ⟨bv, 0, none⟩ (.int .i64 x.f0)).setCell ⟨bv, 1, none⟩ (.int .i64 x.f1)).setCell ⟨bv, 2, none⟩ (.string x.f2))) := ⟨below_set (below_set (below_set HB3.out GE.out) GE.out) GE.out⟩
        have HS1 := Aside0.mk hs1
        have HS1N := Aside0.mk hs1n
        clear hs0 hs1' hs2 hf0 hf1 hf2 HB3 HBX hs1 hrow hx0 hx1 hx2
        generalize ((W3.setCell ⟨bv, 0, none⟩ (.int .i64 x.f0)).setCell ⟨bv, 1, none⟩ (.int .i64 x.f1)).setCell ⟨bv, 2, none⟩ (.string x.f2) = W4 at *
        go_cut [] (fun wx => Aside0 (wx.heap[bv]? = some (.cells #[.int .i64 x.f0, .int .i64 x.f1, .string x.f2] 24 (0, 0))) ∧ Aside0 (Below wr.heap.size wr wx))
        case first =>
          cases i with
          | zero =>
            go_wp2
            go_meet
            exact ⟨HBV, HBW⟩
          | succ j =>
            obtain ⟨s0, hs0n, hs0c, hbef⟩ := HBJ.out j rfl
            obtain ⟨ar', A0', c0, e1, hrow, hck, hCk⟩ := at_rows HGr.out.rw_ s0 hs0n (by have := HRLn.out; omega)
            cases e1
            have hri := HRWi.out s0 (by have := HRLn.out; omega)
            unfold before at hbef
            rw [← HX.out] at hbef
            rw [hri] at hrow hCk
            generalize rd_T24 L (s0 : Int) = z at *
            rw [show [z].length = 1 from rfl] at hrow hCk
            obtain ⟨a0, e2, hx0, hx1, hx2⟩ := at_row hCk 0 (by omega)
            subst e2
            rw [show rd_T24 [z] ((0 : Nat) : Int) = z from rfl, Nat.zero_mul, add0] at hx0 hx1 hx2
            have hup : ∀ {a : Addr} {v : Value}, wr.cell? a = some v → W4.drew.cell? a = some v := fun h => cells_later (below_drew HBW.out) h
            have m0_ := Aside0.mk (hup hs0c)
            have m1_ := Aside0.mk (hup hrow)
            have m2_ := Aside0.mk (hup hx0)
            have m3_ := Aside0.mk (hup hx1)
            have m4_ := Aside0.mk (hup hx2)
            have m5_ : Aside0 (W4.drew.cell? ⟨bv, 0, none⟩ = some (.int .i64 x.f0)) := ⟨(blk_cell HBV.out 0).trans rfl⟩
            have m6_ : Aside0 (W4.drew.cell? ⟨bv, 1, none⟩ = some (.int .i64 x.f1)) := ⟨(blk_cell HBV.out 1).trans rfl⟩
            have m7_ : Aside0 (W4.drew.cell? ⟨bv, 2, none⟩ = some (.string x.f2)) := ⟨(blk_cell HBV.out 2).trans rfl⟩
            have m8_ := Aside0.mk (hup HS1.out)
            have hs0z : (s0 : Int) < (n : Int) := by omega
            have hjn : j < n := by have := HLT.out; omega
            have hjn1 : j + 1 < n := HLT.out
            have hj60 : j ≤ 60 := by omega
            have hjp : 0 ≤ (j : Int) + 1 := by omega
            have hjq : (j : Int) + 1 < (n : Int) := by omega
            have hwj : wrap64 (j : Int) = (j : Int) := w64 (by omega) (by omega)
            have HBEF := Aside0.mk hbef
            clear hup hs0c hrow hx0 hx1 hx2 hck hCk hri hbef
            go_wp2
            refine start_ (n := 13) (S := fun w' => w'.cell? (aa.add j) = some (.int .i64 (s0 : Int)) ∧ w'.cell? (ar.add s0) = some (.slice (some a0) 1 c0) ∧ w'.cell? a0 = some (.int .i64 z.f0) ∧ w'.cell? ⟨a0.block, a0.off + 1, none⟩ = some (.int .i64 z.f1) ∧ w'.cell? ⟨a0.block, a0.off + 2, none⟩ = some (.string z.f2) ∧ w'.cell? ⟨bv, 0, none⟩ = some (.int .i64 x.f0) ∧ w'.cell? ⟨bv, 1, none⟩ = some (.int .i64 x.f1) ∧ w'.cell? ⟨bv, 2, none⟩ = some (.string x.f2)) (ds := []) #[false, false, false, false, false, false, false, false, false, false, false, false, false] (by kernel_rfl) rfl rfl ⟨m0_.out, m1_.out, m2_.out, m3_.out, m4_.out, m5_.out, m6_.out, m7_.out⟩ (fun hHeld => ?_)
            refine pure_ (i := 0) (N := some 88) (v := ?_) (a' := ?_) #[true, false, false, false, false, false, false, false, false, false, false, false, false] rfl rfl (by kernel_rfl) (fun _ _ _ h => h) (Or.inl ⟨by rfl, ?_⟩) ?_ ?_
            rotate_left
            · intro w'
              go_simp
              with_reducible rfl
            rotate_left
            · simp only [Act.put, List.setIfInBounds_toArray, List.set_cons_zero, List.set_cons_succ, i64_w, i32_w]
              rfl
            refine pure_ (i := 1) (N := some 89) (v := ?_) (a' := ?_) #[true, true, false, false, false, false, false, false, false, false, false, false, false] rfl rfl (by kernel_rfl) (fun _ _ _ h => h) (Or.inl ⟨by rfl, ?_⟩) ?_ ?_
            rotate_left
            · intro w'
              go_simp
              with_reducible rfl
            rotate_left
            · simp only [Act.put, List.setIfInBounds_toArray, List.set_cons_zero, List.set_cons_succ, i64_w, i32_w]
              rfl
            refine pure_ (i := 2) (N := some 90) (v := ?_) (a' := ?_) #[true, true, true, false, false, false, false, false, false, false, false, false, false] rfl rfl (by kernel_rfl) (fun _ _ _ h => h) (Or.inl ⟨by rfl, ?_⟩) ?_ ?_
            rotate_left
            · intro w'
              go_simp
              with_reducible rfl
            rotate_left
            · simp only [Act.put, List.setIfInBounds_toArray, List.set_cons_zero, List.set_cons_succ, i64_w, i32_w]
              rfl
            refine pure_ (i := 3) (N := some 91) (v := ?_) (a' := ?_) #[true, true, true, true, false, false, false, false, false, false, false, false, false] rfl rfl (by kernel_rfl) (fun _ _ _ h => h) (Or.inl ⟨by rfl, ?_⟩) ?_ ?_
            rotate_left
            · intro w'
              go_simp
              with_reducible rfl
            rotate_left
            · simp only [Act.put, List.setIfInBounds_toArray, List.set_cons_zero, List.set_cons_succ, i64_w, i32_w]
              rfl
            refine pure_ (i := 4) (N := some 92) (v := ?_) (a' := ?_) #[true, true, true, true, true, false, false, false, false, false, false, false, false] rfl rfl (by kernel_rfl) (fun _ _ _ h => h) (Or.inl ⟨by rfl, ?_⟩) ?_ ?_
            rotate_left
            · intro w'
              go_simp
              with_reducible rfl
            rotate_left
            · simp only [Act.put, List.setIfInBounds_toArray, List.set_cons_zero, List.set_cons_succ, i64_w, i32_w]
              rfl
            refine take_ (i := 5) (N := some 93) (v := ?_) (a' := ?_) #[true, true, true, true, true, true, false, false, false, false, false, false, false] rfl rfl (by kernel_rfl) (fun _ _ _ h => h) (Or.inl ⟨by rfl, ?_⟩) hHeld ?_ ?_
            rotate_left
            · rintro w' ⟨s0, s1, s2, s3, s4, s5, s6, s7⟩
              go_simp
              with_reducible rfl
            rotate_left
            · simp only [Act.put, List.setIfInBounds_toArray, List.set_cons_zero, List.set_cons_succ, i64_w, i32_w]
              rfl
            refine pure_ (i := 6) (N := some 94) (v := ?_) (a' := ?_) #[true, true, true, true, true, true, true, false, false, false, false, false, false] rfl rfl (by kernel_rfl) (fun _ _ _ h => h) (Or.inl ⟨by rfl, ?_⟩) ?_ ?_
            rotate_left
            · intro w'
              go_simp
              with_reducible rfl
            rotate_left
            · simp only [Act.put, List.setIfInBounds_toArray, List.set_cons_zero, List.set_cons_succ, i64_w, i32_w]
              rfl
            refine take_ (i := 7) (N := some 95) (v := ?_) (a' := ?_) #[true, true, true, true, true, true, true, true, false, false, false, false, false] rfl rfl (by kernel_rfl) (fun _ _ _ h => h) (Or.inl ⟨by rfl, ?_⟩) hHeld ?_ ?_
            rotate_left
            · rintro w' ⟨s0, s1, s2, s3, s4, s5, s6, s7⟩
              go_simp
              with_reducible rfl
            rotate_left
            · simp only [Act.put, List.setIfInBounds_toArray, List.set_cons_zero, List.set_cons_succ, i64_w, i32_w]
              rfl
            refine pure_ (i := 8) (N := some 96) (v := ?_) (a' := ?_) #[true, true, true, true, true, true, true, true, true, false, false, false, false] rfl rfl (by kernel_rfl) (fun _ _ _ h => h) (Or.inl ⟨by rfl, ?_⟩) ?_ ?_
            rotate_left
            · intro w'
              go_simp
              with_reducible rfl
            rotate_left
            · simp only [Act.put, List.setIfInBounds_toArray, List.set_cons_zero, List.set_cons_succ, i64_w, i32_w]
              rfl
            refine take_ (i := 9) (N := some 97) (v := ?_) (a' := ?_) #[true, true, true, true, true, true, true, true, true, true, false, false, false] rfl rfl (by kernel_rfl) (fun _ _ _ h => h) (Or.inl ⟨by rfl, ?_⟩) hHeld ?_ ?_
            rotate_left
            · rintro w' ⟨s0, s1, s2, s3, s4, s5, s6, s7⟩
              go_simp
              with_reducible rfl
            rotate_left
            · simp only [Act.put, List.setIfInBounds_toArray, List.set_cons_zero, List.set_cons_succ, i64_w, i32_w]
              rfl
            refine take_ (i := 10) (N := some 98) (v := ?_) (a' := ?_) #[true, true, true, true, true, true, true, true, true, true, true, false, false] rfl rfl (by kernel_rfl) (fun _ _ _ h => h) (Or.inl ⟨by rfl, ?_⟩) hHeld ?_ ?_
            rotate_left
            · rintro w' ⟨s0, s1, s2, s3, s4, s5, s6, s7⟩
              go_simp
              with_reducible rfl
            rotate_left
            · simp only [Act.put, List.setIfInBounds_toArray, List.set_cons_zero, List.set_cons_succ, i64_w, i32_w]
              rfl
            refine one_ (i := 11) (N := some 99) #[true, true, true, true, true, true, true, true, true, true, true, true, false] rfl rfl (by kernel_rfl) (by decide) (fun K hK => ?_)
            refine goes_ Try.func11 (by kernel_rfl) rfl #[encV z, encV x] (by rfl) rfl rfl (by simp only [List.map_toArray, List.map_cons, List.map_nil]; rfl) ?_
            with_reducible refine (value_cmp z x _).mono ?_
            rintro e w5 ⟨rfl, hb5⟩
            refine ⟨_, rfl, ?_⟩
            refine hK.out _ _ ⟨cells_later hb5 hHeld.1, cells_later hb5 hHeld.2.1, cells_later hb5 hHeld.2.2.1, cells_later hb5 hHeld.2.2.2.1, cells_later hb5 hHeld.2.2.2.2.1, cells_later hb5 hHeld.2.2.2.2.2.1, cells_later hb5 hHeld.2.2.2.2.2.2.1, cells_later hb5 hHeld.2.2.2.2.2.2.2⟩ (fun hHeld => ?_)
            clear hK K
            refine norm_ (a' := ?_) ?_ ?_
            rotate_left
            · show Act.put _ (some 99) _ = _
              simp only [Act.put, List.setIfInBounds_toArray, List.set_cons_zero, List.set_cons_succ, i64_w, i32_w]
              rfl
            refine pure_ (i := 12) (N := some 17) (v := ?_) (a' := ?_) #[true, true, true, true, true, true, true, true, true, true, true, true, true] rfl rfl (by kernel_rfl) (fun _ _ _ h => h) (Or.inl ⟨by rfl, ?_⟩) ?_ ?_
            rotate_left
            · intro w'
              go_simp
              with_reducible rfl
            rotate_left
            · simp only [Act.put, List.setIfInBounds_toArray, List.set_cons_zero, List.set_cons_succ, i64_w, i32_w]
              rfl
            refine done_ (by kernel_rfl) ?_
            have hbe := HBEF.out
            have k0_ : Aside0 (w5.drew.cell? (aa.add j) = some (.int .i64 (s0 : Int))) := ⟨cells_later (below_drew hb5) m0_.out⟩
            have k1_ : Aside0 (w5.drew.cell? ⟨aa.block, aa.off + (j + 1), none⟩ = some (.int .i64 (s1 : Int))) := ⟨cells_later (below_drew hb5) m8_.out⟩
            have HBVf : Aside0 (w5.drew.heap[bv]? = some (.cells #[.int .i64 x.f0, .int .i64 x.f1, .string x.f2] 24 (0, 0))) := ⟨(hb5.block bv (blk_lt HBV.out)).trans HBV.out⟩
            have HBWf : Aside0 (Below wr.heap.size wr w5.drew) := ⟨below_drew (below_step HBW.out ((below_drew (Below.refl _ _)).trans hb5))⟩
            generalize cVs z x = cc at *
            clear hb5 hHeld m0_ m1_ m2_ m3_ m4_ m5_ m6_ m7_ m8_
            rcases hbe with hc | ⟨hc, hs01⟩
            · have c1 : decide (0 < cc) = false := decide_eq_false (by omega)
              have c1' : ¬ 0 < cc := by omega
              have c2 : decide (cc = 0) = false := decide_eq_false (by omega)
              have c2' : (cc == 0) = false := beq_eq_false_iff_ne.2 (by omega)
              go_wp2
              refine start_ (n := 18) (S := fun w' => w'.cell? (aa.add j) = some (.int .i64 (s0 : Int)) ∧ w'.cell? ⟨aa.block, aa.off + (j + 1), none⟩ = some (.int .i64 (s1 : Int))) (ds := []) #[false, false, false, false, false, false, false, false, false, false, false, false, false, false, false, false, false, false] (by kernel_rfl) rfl rfl ⟨k0_.out, k1_.out⟩ (fun hHeld => ?_)
              refine pure_ (i := 0) (N := some 100) (v := ?_) (a' := ?_) #[true, false, false, false, false, false, false, false, false, false, false, false, false, false, false, false, false, false] rfl rfl (by kernel_rfl) (fun _ _ _ h => h) (Or.inl ⟨by rfl, ?_⟩) ?_ ?_
              rotate_left
              · intro w'
                go_simp
                with_reducible rfl
              rotate_left
              · simp only [Act.put, List.setIfInBounds_toArray, List.set_cons_zero, List.set_cons_succ, i64_w, i32_w]
                rfl
              refine pure_ (i := 1) (N := some 101) (v := ?_) (a' := ?_) #[true, true, false, false, false, false, false, false, false, false, false, false, false, false, false, false, false, false] rfl rfl (by kernel_rfl) (fun _ _ _ h => h) (Or.inl ⟨by rfl, ?_⟩) ?_ ?_
              rotate_left
              · intro w'
                go_simp
                with_reducible rfl
              rotate_left
              · simp only [Act.put, List.setIfInBounds_toArray, List.set_cons_zero, List.set_cons_succ, i64_w, i32_w]
                rfl
              refine pure_ (i := 2) (N := some 102) (v := ?_) (a' := ?_) #[true, true, true, false, false, false, false, false, false, false, false, false, false, false, false, false, false, false] rfl rfl (by kernel_rfl) (fun _ _ _ h => h) (Or.inl ⟨by rfl, ?_⟩) ?_ ?_
              rotate_left
              · intro w'
                go_simp
                with_reducible rfl
              rotate_left
              · simp only [Act.put, List.setIfInBounds_toArray, List.set_cons_zero, List.set_cons_succ, i64_w, i32_w]
                rfl
              refine pure_ (i := 3) (N := some 103) (v := ?_) (a' := ?_) #[true, true, true, true, false, false, false, false, false, false, false, false, false, false, false, false, false, false] rfl rfl (by kernel_rfl) (fun _ _ _ h => h) (Or.inl ⟨by rfl, ?_⟩) ?_ ?_
              rotate_left
              · intro w'
                go_simp
                with_reducible rfl
              rotate_left
              · simp only [Act.put, List.setIfInBounds_toArray, List.set_cons_zero, List.set_cons_succ, i64_w, i32_w]
                rfl
              refine pure_ (i := 4) (N := some 104) (v := ?_) (a' := ?_) #[true, true, true, true, true, false, false, false, false, false, false, false, false, false, false, false, false, false] rfl rfl (by kernel_rfl) (fun _ _ _ h => h) (Or.inl ⟨by rfl, ?_⟩) ?_ ?_
              rotate_left
              · intro w'
                go_simp
                with_reducible rfl
              rotate_left
              · simp only [Act.put, List.setIfInBounds_toArray, List.set_cons_zero, List.set_cons_succ, i64_w, i32_w]
                rfl
              refine pure_ (i := 5) (N := some 105) (v := ?_) (a' := ?_) #[true, true, true, true, true, true, false, false, false, false, false, false, false, false, false, false, false, false] rfl rfl (by kernel_rfl) (fun _ _ _ h => h) (Or.inl ⟨by rfl, ?_⟩) ?_ ?_
              rotate_left
              · intro w'
                go_simp
                with_reducible rfl
              rotate_left
              · simp only [Act.put, List.setIfInBounds_toArray, List.set_cons_zero, List.set_cons_succ, i64_w, i32_w]
                rfl
              refine pure_ (i := 6) (N := some 106) (v := undef) (a' := ?_) #[true, true, true, true, true, true, true, false, false, false, false, false, false, false, false, false, false, false] rfl rfl (by kernel_rfl) (fun _ _ _ h => h) (Or.inr ⟨by rfl, rfl⟩) ?_ ?_
              rotate_left
              · simp only [Act.put, List.setIfInBounds_toArray, List.set_cons_zero, List.set_cons_succ, i64_w, i32_w]
                rfl
              refine pure_ (i := 7) (N := some 107) (v := undef) (a' := ?_) #[true, true, true, true, true, true, true, true, false, false, false, false, false, false, false, false, false, false] rfl rfl (by kernel_rfl) (fun _ _ _ h => h) (Or.inr ⟨by rfl, rfl⟩) ?_ ?_
              rotate_left
              · simp only [Act.put, List.setIfInBounds_toArray, List.set_cons_zero, List.set_cons_succ, i64_w, i32_w]
                rfl
              refine pure_ (i := 8) (N := some 108) (v := undef) (a' := ?_) #[true, true, true, true, true, true, true, true, true, false, false, false, false, false, false, false, false, false] rfl rfl (by kernel_rfl) (fun _ _ _ h => h) (Or.inr ⟨by rfl, rfl⟩) ?_ ?_
              rotate_left
              · simp only [Act.put, List.setIfInBounds_toArray, List.set_cons_zero, List.set_cons_succ, i64_w, i32_w]
                rfl
              refine pure_ (i := 9) (N := some 109) (v := undef) (a' := ?_) #[true, true, true, true, true, true, true, true, true, true, false, false, false, false, false, false, false, false] rfl rfl (by kernel_rfl) (fun _ _ _ h => h) (Or.inr ⟨by rfl, rfl⟩) ?_ ?_
              rotate_left
              · simp only [Act.put, List.setIfInBounds_toArray, List.set_cons_zero, List.set_cons_succ, i64_w, i32_w]
                rfl
              refine pure_ (i := 10) (N := some 110) (v := undef) (a' := ?_) #[true, true, true, true, true, true, true, true, true, true, true, false, false, false, false, false, false, false] rfl rfl (by kernel_rfl) (fun _ _ _ h => h) (Or.inr ⟨by rfl, rfl⟩) ?_ ?_
              rotate_left
              · simp only [Act.put, List.setIfInBounds_toArray, List.set_cons_zero, List.set_cons_succ, i64_w, i32_w]
                rfl
              refine pure_ (i := 11) (N := some 111) (v := undef) (a' := ?_) #[true, true, true, true, true, true, true, true, true, true, true, true, false, false, false, false, false, false] rfl rfl (by kernel_rfl) (fun _ _ _ h => h) (Or.inr ⟨by rfl, rfl⟩) ?_ ?_
              rotate_left
              · simp only [Act.put, List.setIfInBounds_toArray, List.set_cons_zero, List.set_cons_succ, i64_w, i32_w]
                rfl
              refine pure_ (i := 12) (N := some 112) (v := undef) (a' := ?_) #[true, true, true, true, true, true, true, true, true, true, true, true, true, false, false, false, false, false] rfl rfl (by kernel_rfl) (fun _ _ _ h => h) (Or.inr ⟨by rfl, rfl⟩) ?_ ?_
              rotate_left
              · simp only [Act.put, List.setIfInBounds_toArray, List.set_cons_zero, List.set_cons_succ, i64_w, i32_w]
                rfl
              refine pure_ (i := 13) (N := some 113) (v := undef) (a' := ?_) #[true, true, true, true, true, true, true, true, true, true, true, true, true, true, false, false, false, false] rfl rfl (by kernel_rfl) (fun _ _ _ h => h) (Or.inr ⟨by rfl, rfl⟩) ?_ ?_
              rotate_left
              · simp only [Act.put, List.setIfInBounds_toArray, List.set_cons_zero, List.set_cons_succ, i64_w, i32_w]
                rfl
              refine pure_ (i := 14) (N := some 114) (v := undef) (a' := ?_) #[true, true, true, true, true, true, true, true, true, true, true, true, true, true, true, false, false, false] rfl rfl (by kernel_rfl) (fun _ _ _ h => h) (Or.inr ⟨by rfl, rfl⟩) ?_ ?_
              rotate_left
              · simp only [Act.put, List.setIfInBounds_toArray, List.set_cons_zero, List.set_cons_succ, i64_w, i32_w]
                rfl
              refine pure_ (i := 15) (N := some 115) (v := undef) (a' := ?_) #[true, true, true, true, true, true, true, true, true, true, true, true, true, true, true, true, false, false] rfl rfl (by kernel_rfl) (fun _ _ _ h => h) (Or.inr ⟨by rfl, rfl⟩) ?_ ?_
              rotate_left
              · simp only [Act.put, List.setIfInBounds_toArray, List.set_cons_zero, List.set_cons_succ, i64_w, i32_w]
                rfl
              refine pure_ (i := 16) (N := some 116) (v := ?_) (a' := ?_) #[true, true, true, true, true, true, true, true, true, true, true, true, true, true, true, true, true, false] rfl rfl (by kernel_rfl) (fun _ _ _ h => h) (Or.inl ⟨by rfl, ?_⟩) ?_ ?_
              rotate_left
              · intro w'
                go_simp
                with_reducible rfl
              rotate_left
              · simp only [Act.put, List.setIfInBounds_toArray, List.set_cons_zero, List.set_cons_succ, i64_w, i32_w]
                rfl
              refine pure_ (i := 17) (N := some 117) (v := ?_) (a' := ?_) #[true, true, true, true, true, true, true, true, true, true, true, true, true, true, true, true, true, true] rfl rfl (by kernel_rfl) (fun _ _ _ h => h) (Or.inl ⟨by rfl, ?_⟩) ?_ ?_
              rotate_left
              · intro w'
                go_simp
                with_reducible rfl
              rotate_left
              · simp only [Act.put, List.setIfInBounds_toArray, List.set_cons_zero, List.set_cons_succ, i64_w, i32_w]
                rfl
              refine done_ (by kernel_rfl) ?_
              go_wp2
              go_meet
              exact ⟨HBVf, HBWf⟩
            · subst hc
              have hs01' : ¬ (s1 : Int) ≤ (s0 : Int) := by omega
              have hs01n : ¬ s1 ≤ s0 := by omega
              go_wp2
              refine start_ (n := 18) (S := fun w' => w'.cell? (aa.add j) = some (.int .i64 (s0 : Int)) ∧ w'.cell? ⟨aa.block, aa.off + (j + 1), none⟩ = some (.int .i64 (s1 : Int))) (ds := []) #[false, false, false, false, false, false, false, false, false, false, false, false, false, false, false, false, false, false] (by kernel_rfl) rfl rfl ⟨k0_.out, k1_.out⟩ (fun hHeld => ?_)
              refine pure_ (i := 0) (N := some 100) (v := ?_) (a' := ?_) #[true, false, false, false, false, false, false, false, false, false, false, false, false, false, false, false, false, false] rfl rfl (by kernel_rfl) (fun _ _ _ h => h) (Or.inl ⟨by rfl, ?_⟩) ?_ ?_
              rotate_left
              · intro w'
                go_simp
                with_reducible rfl
              rotate_left
              · simp only [Act.put, List.setIfInBounds_toArray, List.set_cons_zero, List.set_cons_succ, i64_w, i32_w]
                rfl
              refine pure_ (i := 1) (N := some 101) (v := ?_) (a' := ?_) #[true, true, false, false, false, false, false, false, false, false, false, false, false, false, false, false, false, false] rfl rfl (by kernel_rfl) (fun _ _ _ h => h) (Or.inl ⟨by rfl, ?_⟩) ?_ ?_
              rotate_left
              · intro w'
                go_simp
                with_reducible rfl
              rotate_left
              · simp only [Act.put, List.setIfInBounds_toArray, List.set_cons_zero, List.set_cons_succ, i64_w, i32_w]
                rfl
              refine pure_ (i := 2) (N := some 102) (v := ?_) (a' := ?_) #[true, true, true, false, false, false, false, false, false, false, false, false, false, false, false, false, false, false] rfl rfl (by kernel_rfl) (fun _ _ _ h => h) (Or.inl ⟨by rfl, ?_⟩) ?_ ?_
              rotate_left
              · intro w'
                go_simp
                with_reducible rfl
              rotate_left
              · simp only [Act.put, List.setIfInBounds_toArray, List.set_cons_zero, List.set_cons_succ, i64_w, i32_w]
                rfl
              refine pure_ (i := 3) (N := some 103) (v := ?_) (a' := ?_) #[true, true, true, true, false, false, false, false, false, false, false, false, false, false, false, false, false, false] rfl rfl (by kernel_rfl) (fun _ _ _ h => h) (Or.inl ⟨by rfl, ?_⟩) ?_ ?_
              rotate_left
              · intro w'
                go_simp
                with_reducible rfl
              rotate_left
              · simp only [Act.put, List.setIfInBounds_toArray, List.set_cons_zero, List.set_cons_succ, i64_w, i32_w]
                rfl
              refine pure_ (i := 4) (N := some 104) (v := ?_) (a' := ?_) #[true, true, true, true, true, false, false, false, false, false, false, false, false, false, false, false, false, false] rfl rfl (by kernel_rfl) (fun _ _ _ h => h) (Or.inl ⟨by rfl, ?_⟩) ?_ ?_
              rotate_left
              · intro w'
                go_simp
                with_reducible rfl
              rotate_left
              · simp only [Act.put, List.setIfInBounds_toArray, List.set_cons_zero, List.set_cons_succ, i64_w, i32_w]
                rfl
              refine pure_ (i := 5) (N := some 105) (v := ?_) (a' := ?_) #[true, true, true, true, true, true, false, false, false, false, false, false, false, false, false, false, false, false] rfl rfl (by kernel_rfl) (fun _ _ _ h => h) (Or.inl ⟨by rfl, ?_⟩) ?_ ?_
              rotate_left
              · intro w'
                go_simp
                with_reducible rfl
              rotate_left
              · simp only [Act.put, List.setIfInBounds_toArray, List.set_cons_zero, List.set_cons_succ, i64_w, i32_w]
                rfl
              refine pure_ (i := 6) (N := some 106) (v := ?_) (a' := ?_) #[true, true, true, true, true, true, true, false, false, false, false, false, false, false, false, false, false, false] rfl rfl (by kernel_rfl) (fun _ _ _ h => h) (Or.inl ⟨by rfl, ?_⟩) ?_ ?_
              rotate_left
              · intro w'
                go_simp
                with_reducible rfl
              rotate_left
              · simp only [Act.put, List.setIfInBounds_toArray, List.set_cons_zero, List.set_cons_succ, i64_w, i32_w]
                rfl
              refine pure_ (i := 7) (N := some 107) (v := ?_) (a' := ?_) #[true, true, true, true, true, true, true, true, false, false, false, false, false, false, false, false, false, false] rfl rfl (by kernel_rfl) (fun _ _ _ h => h) (Or.inl ⟨by rfl, ?_⟩) ?_ ?_
              rotate_left
              · intro w'
                go_simp
                with_reducible rfl
              rotate_left
              · simp only [Act.put, List.setIfInBounds_toArray, List.set_cons_zero, List.set_cons_succ, i64_w, i32_w]
                rfl
              refine pure_ (i := 8) (N := some 108) (v := ?_) (a' := ?_) #[true, true, true, true, true, true, true, true, true, false, false, false, false, false, false, false, false, false] rfl rfl (by kernel_rfl) (fun _ _ _ h => h) (Or.inl ⟨by rfl, ?_⟩) ?_ ?_
              rotate_left
              · intro w'
                go_simp
                with_reducible rfl
              rotate_left
              · simp only [Act.put, List.setIfInBounds_toArray, List.set_cons_zero, List.set_cons_succ, i64_w, i32_w]
                rfl
              refine pure_ (i := 9) (N := some 109) (v := ?_) (a' := ?_) #[true, true, true, true, true, true, true, true, true, true, false, false, false, false, false, false, false, false] rfl rfl (by kernel_rfl) (fun _ _ _ h => h) (Or.inl ⟨by rfl, ?_⟩) ?_ ?_
              rotate_left
              · intro w'
                go_simp
                with_reducible rfl
              rotate_left
              · simp only [Act.put, List.setIfInBounds_toArray, List.set_cons_zero, List.set_cons_succ, i64_w, i32_w]
                rfl
              refine pure_ (i := 11) (N := some 111) (v := ?_) (a' := ?_) #[true, true, true, true, true, true, true, true, true, true, false, true, false, false, false, false, false, false] rfl rfl (by kernel_rfl) (fun _ _ _ h => h) (Or.inl ⟨by rfl, ?_⟩) ?_ ?_
              rotate_left
              · intro w'
                go_simp
                with_reducible rfl
              rotate_left
              · simp only [Act.put, List.setIfInBounds_toArray, List.set_cons_zero, List.set_cons_succ, i64_w, i32_w]
                rfl
              refine pure_ (i := 12) (N := some 112) (v := ?_) (a' := ?_) #[true, true, true, true, true, true, true, true, true, true, false, true, true, false, false, false, false, false] rfl rfl (by kernel_rfl) (fun _ _ _ h => h) (Or.inl ⟨by rfl, ?_⟩) ?_ ?_
              rotate_left
              · intro w'
                go_simp
                with_reducible rfl
              rotate_left
              · simp only [Act.put, List.setIfInBounds_toArray, List.set_cons_zero, List.set_cons_succ, i64_w, i32_w]
                rfl
              refine pure_ (i := 13) (N := some 113) (v := ?_) (a' := ?_) #[true, true, true, true, true, true, true, true, true, true, false, true, true, true, false, false, false, false] rfl rfl (by kernel_rfl) (fun _ _ _ h => h) (Or.inl ⟨by rfl, ?_⟩) ?_ ?_
              rotate_left
              · intro w'
                go_simp
                with_reducible rfl
              rotate_left
              · simp only [Act.put, List.setIfInBounds_toArray, List.set_cons_zero, List.set_cons_succ, i64_w, i32_w]
                rfl
              refine take_ (i := 10) (N := some 110) (v := ?_) (a' := ?_) #[true, true, true, true, true, true, true, true, true, true, true, true, true, true, false, false, false, false] rfl rfl (by kernel_rfl) (fun _ _ _ h => h) (Or.inl ⟨by rfl, ?_⟩) hHeld ?_ ?_
              rotate_left
              · rintro w' ⟨s0, s1⟩
                go_simp
                with_reducible rfl
              rotate_left
              · simp only [Act.put, List.setIfInBounds_toArray, List.set_cons_zero, List.set_cons_succ, i64_w, i32_w]
                rfl
              refine take_ (i := 14) (N := some 114) (v := ?_) (a' := ?_) #[true, true, true, true, true, true, true, true, true, true, true, true, true, true, true, false, false, false] rfl rfl (by kernel_rfl) (fun _ _ _ h => h) (Or.inl ⟨by rfl, ?_⟩) hHeld ?_ ?_
              rotate_left
              · rintro w' ⟨s0, s1⟩
                go_simp
                with_reducible rfl
              rotate_left
              · simp only [Act.put, List.setIfInBounds_toArray, List.set_cons_zero, List.set_cons_succ, i64_w, i32_w]
                rfl
              refine pure_ (i := 15) (N := some 115) (v := ?_) (a' := ?_) #[true, true, true, true, true, true, true, true, true, true, true, true, true, true, true, true, false, false] rfl rfl (by kernel_rfl) (fun _ _ _ h => h) (Or.inl ⟨by rfl, ?_⟩) ?_ ?_
              rotate_left
              · intro w'
                go_simp
                with_reducible rfl
              rotate_left
              · simp only [Act.put, List.setIfInBounds_toArray, List.set_cons_zero, List.set_cons_succ, i64_w, i32_w]
                rfl
              refine pure_ (i := 16) (N := some 116) (v := ?_) (a' := ?_) #[true, true, true, true, true, true, true, true, true, true, true, true, true, true, true, true, true, false] rfl rfl (by kernel_rfl) (fun _ _ _ h => h) (Or.inl ⟨by rfl, ?_⟩) ?_ ?_
              rotate_left
              · intro w'
                go_simp
                with_reducible rfl
              rotate_left
              · simp only [Act.put, List.setIfInBounds_toArray, List.set_cons_zero, List.set_cons_succ, i64_w, i32_w]
                rfl
              refine pure_ (i := 17) (N := some 117) (v := ?_) (a' := ?_) #[true, true, true, true, true, true, true, true, true, true, true, true, true, true, true, true, true, true] rfl rfl (by kernel_rfl) (fun _ _ _ h => h) (Or.inl ⟨by rfl, ?_⟩) ?_ ?_
              rotate_left
              · intro w'
                go_simp
                with_reducible rfl
              rotate_left
              · simp only [Act.put, List.setIfInBounds_toArray, List.set_cons_zero, List.set_cons_succ, i64_w, i32_w]
                rfl
              refine done_ (by kernel_rfl) ?_
              go_wp2
              go_meet
              exact ⟨HBVf, HBWf⟩
        case rest =>
        obtain ⟨HBV5, HBW5⟩ := hcut
        obtain ⟨wP, rfl⟩ : ∃ x, x = wc := ⟨_, rfl⟩
        clear HBV HBW HBJ
        have hv0 : wP.cell? ⟨bv, 0, none⟩ = some (.int .i64 x.f0) := (blk_cell HBV5.out 0).trans rfl
        have hv1 : wP.cell? ⟨bv, 1, none⟩ = some (.int .i64 x.f1) := (blk_cell HBV5.out 1).trans rfl
        have hv2 : wP.cell? ⟨bv, 2, none⟩ = some (.string x.f2) := (blk_cell HBV5.out 2).trans rfl
        have HGP : Aside0 (Gs W wP bl bh b0 g n _ rows L lo hi) := ⟨HGr.out.below HBW5.out⟩
        have HTP : Aside0 (Two wP w3.heap.size tg u13 u14 ((S.take i).filter (fw L lo hi)) ((S.take i).filter (fun s => !isN L s))) := ⟨HT.out.below HBW5.out⟩
        have HBP : Aside0 (Below w3.heap.size w3 wP) := ⟨below_step HB.out HBW5.out⟩
        have HIL : Aside0 (((S.take i).filter (fw L lo hi)).length ≤ 1000 ∧ ((S.take i).filter (fun s => !isN L s)).length ≤ 1000) := ⟨by
          have h1 := List.length_filter_le (fw L lo hi) (S.take i)
          have h2 := List.length_filter_le (fun s => !isN L s) (S.take i)
          rw [List.length_take] at h1 h2
          have := HLT.out
          omega⟩
        have hsP : wP.cell? (aa.add i) = some (.int .i64 (s1 : Int)) := cells_later HBW5.out HS1.out
        have HNB : Aside0 (u14.ownBlock ≠ some bv ∧ u13.ownBlock ≠ some bv) := ⟨fun e => by have := Kd.R_lt HT.out.r2 bv e; have := GE.out; omega, fun e => by have := Kd.R_lt HT.out.r1 bv e; have := GE.out; omega⟩
        have HBA : Aside0 (aa.block ≠ bv) := ⟨by have := World.block_lt_of_cell? wr _ HS1.out; have e : (aa.add i).block = aa.block := by unfold Addr.add; split <;> rfl
                                                 rw [e] at this; have := GE.out; omega⟩
        clear HBW5 HT HB HGr GE
        have hin' : (i : Int) < (n : Int) := by have := HLT.out; omega
        have hi60' : i ≤ 60 := by have := HLT.out; omega
        by_cases hz : x.f0 = 0
        · have hFN := fw_null (lo := lo) (hi := hi) (show (rd_T24 L (s1 : Int)).f0 = 0 by rw [← HX.out]; exact hz)
          have HF1 : Aside0 ((S.take (i + 1)).filter (fw L lo hi) = (S.take i).filter (fw L lo hi) ∧ (S.take (i + 1)).filter (fun s => !isN L s) = (S.take i).filter (fun s => !isN L s)) := ⟨by
            rw [HTS.out, List.filter_append, List.filter_append]
            constructor
            · rw [List.filter_cons_of_neg (by rw [hFN.1]; simp)]; simp
            · rw [List.filter_cons_of_neg (by simpa using hFN.2)]; simp⟩
          clear hFN
          go_wp2
          go_roundw
          case rel => exact ⟨i + 1, by have := HLT.out; omega, by go_num, tg, ⟨by rw [HF1.out.1, HF1.out.2]; exact HTP.out⟩, HBP⟩
          case measure => simp [intOf]; have := HLT.out; omega
        · have hFE := fw_eq (lo := lo) (hi := hi) (show ¬ (rd_T24 L (s1 : Int)).f0 = 0 by rw [← HX.out]; exact hz)
          have hNN : (!isN L (s1 : Int)) = true := by unfold isN; rw [← HX.out]; simp [hz]
          rw [← HX.out] at hFE
          have HSM : Aside0 ((S.take (i + 1)).filter (fun s => !isN L s) = (S.take i).filter (fun s => !isN L s) ++ [(s1 : Int)]) := ⟨by rw [HTS.out, List.filter_append, List.filter_cons_of_pos (by simpa using hNN)]; simp⟩
          have HFW : Aside0 (((0 ≤ cVs x lo ∧ cVs x hi ≤ 0) → (S.take (i + 1)).filter (fw L lo hi) = (S.take i).filter (fw L lo hi) ++ [(s1 : Int)]) ∧ (¬ (0 ≤ cVs x lo ∧ cVs x hi ≤ 0) → (S.take (i + 1)).filter (fw L lo hi) = (S.take i).filter (fw L lo hi))) := ⟨by
            rw [HTS.out, List.filter_append]
            constructor
            · intro h
              rw [List.filter_cons_of_pos (by rw [hFE]; simp [h.1, h.2])]; simp
            · intro h
              rw [List.filter_cons_of_neg (by rw [hFE]; simpa using h)]; simp⟩
          have hb0 : wP.cell? ⟨bl, 0, none⟩ = some (.int .i64 lo.f0) := (blk_cell HGP.out.bl 0).trans rfl
          clear hFE hNN hb0
          generalize (S.take i).filter (fw L lo hi) = lw at *
          generalize (S.take i).filter (fun s => !isN L s) = ls at *
          have HT2 := Aside0.mk (HTP.out.lab false)
          have HFR : Aside0 (∀ k, wP.heap.size ≤ k → labB tg wP.heap.size false k = false) := ⟨fun k hk => if_pos hk⟩
          generalize labB tg wP.heap.size false = tg2 at *
          clear HTP
          have MK1 := Aside0.mk True.intro
          by_cases h1 : 0 ≤ cVs x lo
          · by_cases h2 : cVs x hi ≤ 0
            · have HW1 := Aside0.mk (HFW.out.1 ⟨h1, h2⟩)
              clear HFW
              go_wp2_with (first | ((with_reducible refine gate_builtin (b := .append) (xs := #[.tmp 121, .tmp 126]) rfl ?_); at_builtin; refine Kd.R_append kI (w0 := w3) w3.heap.size rfl (.tmp 121) (.tmp 126) 31 3 (.int .i64 0) 8 rfl Try.underlying31 info3 rfl (by decide) (by decide) _ ls (s1 : Int) [.int .i64 (s1 : Int)] (fun k => tg2 k = false) (fun _ => False) (by first | (go_simp; done) | (go_simp; rfl)) (by first | (go_simp; done) | (go_simp; rfl)) rfl (fun _ hk => hk.elim) HFR.out HT2.out.r2 HBP.out HBP.out.size (by have := HIL.out; omega) ?_; intro v127 w6 hR6 hb6 hg6 hat6; have HT6 := Aside0.mk (HT2.out.app2 hR6 hg6); have HB6 := Aside0.mk hb6; have HBV6 := Aside0.mk ((hg6.block bv (blk_lt HBV5.out) (fun e => HNB.out.1 e.symm)).trans HBV5.out); have HG6 := Aside0.mk (HG.out.below hb6); have HS6 : Aside0 (w6.cell? (aa.add i) = some (.int .i64 (s1 : Int))) := ⟨by obtain ⟨aa', e, h⟩ := Kd.at_int (Kd.C_below HCa.out hb6) (i : Int) (by omega) (by omega); cases e; rw [Int.toNat_natCast, HSI.out] at h; exact h⟩; have hv0 : w6.cell? ⟨bv, 0, none⟩ = some (.int .i64 x.f0) := (blk_cell HBV6.out 0).trans rfl; have hv1 : w6.cell? ⟨bv, 1, none⟩ = some (.int .i64 x.f1) := (blk_cell HBV6.out 1).trans rfl; have hv2 : w6.cell? ⟨bv, 2, none⟩ = some (.string x.f2) := (blk_cell HBV6.out 2).trans rfl; have hl0 : w6.cell? ⟨bl, 0, none⟩ = some (.int .i64 lo.f0) := (blk_cell HG6.out.bl 0).trans rfl; have hl1 : w6.cell? ⟨bl, 1, none⟩ = some (.int .i64 lo.f1) := (blk_cell HG6.out.bl 1).trans rfl; have hl2 : w6.cell? ⟨bl, 2, none⟩ = some (.string lo.f2) := (blk_cell HG6.out.bl 2).trans rfl; clear hR6 hb6 hg6 hat6 HBP HT2 HFR HBV5 HGP hsP) | (have mk_ := MK1; go_at_call 11; refine (value_cmp x lo _).mono ?_; rintro e w7 ⟨rfl, hb⟩; have HT7 := Aside0.mk (HT6.out.below hb); have HB7 := Aside0.mk (below_step HB6.out hb); have HG7 := Aside0.mk (HG6.out.below hb); have HBV7 := Aside0.mk ((hb.block bv (blk_lt HBV6.out)).trans HBV6.out); have HS7 := Aside0.mk (cells_later hb HS6.out); clear hv0 hv1 hv2 hl0 hl1 hl2; have hv0 : w7.cell? ⟨bv, 0, none⟩ = some (.int .i64 x.f0) := (blk_cell HBV7.out 0).trans rfl; have hv1 : w7.cell? ⟨bv, 1, none⟩ = some (.int .i64 x.f1) := (blk_cell HBV7.out 1).trans rfl; have hv2 : w7.cell? ⟨bv, 2, none⟩ = some (.string x.f2) := (blk_cell HBV7.out 2).trans rfl; have hl0 : w7.cell? ⟨bh, 0, none⟩ = some (.int .i64 hi.f0) := (blk_cell HG7.out.bh 0).trans rfl; have hl1 : w7.cell? ⟨bh, 1, none⟩ = some (.int .i64 hi.f1) := (blk_cell HG7.out.bh 1).trans rfl; have hl2 : w7.cell? ⟨bh, 2, none⟩ = some (.string hi.f2) := (blk_cell HG7.out.bh 2).trans rfl; clear hb mk_ MK1 HT6 HB6 HG6 HBV6 HS6) | (go_at_call 11; refine (value_cmp x hi _).mono ?_; rintro e w8 ⟨rfl, hb⟩; have HT8 := Aside0.mk (HT7.out.below hb); have HB8 := Aside0.mk (below_step HB7.out hb); have HG8 := Aside0.mk (HG7.out.below hb); have HBV8 := Aside0.mk ((hb.block bv (blk_lt HBV7.out)).trans HBV7.out); have HS8 := Aside0.mk (cells_later hb HS7.out); clear hv0 hv1 hv2 hl0 hl1 hl2; have hs8 : w8.cell? (aa.add i) = some (.int .i64 (s1 : Int)) := HS8.out; clear hb HT7 HB7 HG7 HBV7 HS7) | ((with_reducible refine gate_builtin (b := .append) (xs := #[.tmp 138, .tmp 143]) rfl ?_); at_builtin; have HT8l := Aside0.mk (HT8.out.lab true); refine Kd.R_append kI (w0 := w3) w3.heap.size rfl (.tmp 138) (.tmp 143) 31 3 (.int .i64 0) 8 rfl Try.underlying31 info3 rfl (by decide) (by decide) _ lw (s1 : Int) [.int .i64 (s1 : Int)] (fun k => labB tg2 w8.heap.size true k = true) (fun _ => False) (by first | (go_simp; done) | (go_simp; rfl)) (by first | (go_simp; done) | (go_simp; rfl)) rfl (fun _ hk => hk.elim) (fun k hk => if_pos hk) HT8l.out.r1 HB8.out HB8.out.size (by have := HIL.out; omega) ?_; intro v144 w9 hR9 hb9 hg9 hat9; have HT9 := Aside0.mk (HT8l.out.app1 hR9 hg9); have HB9 := Aside0.mk hb9; clear hR9 hb9 hg9 hat9))
              go_roundw
              case rel => exact ⟨i + 1, by have := HLT.out; omega, by go_num, _, ⟨by rw [HW1.out, HSM.out]; exact HT9.out⟩, HB9⟩
              case measure => simp [intOf]; have := HLT.out; omega
            · have HW1 := Aside0.mk (HFW.out.2 (fun h => h2 h.2))
              clear HFW
              go_wp2_with (first | ((with_reducible refine gate_builtin (b := .append) (xs := #[.tmp 121, .tmp 126]) rfl ?_); at_builtin; refine Kd.R_append kI (w0 := w3) w3.heap.size rfl (.tmp 121) (.tmp 126) 31 3 (.int .i64 0) 8 rfl Try.underlying31 info3 rfl (by decide) (by decide) _ ls (s1 : Int) [.int .i64 (s1 : Int)] (fun k => tg2 k = false) (fun _ => False) (by first | (go_simp; done) | (go_simp; rfl)) (by first | (go_simp; done) | (go_simp; rfl)) rfl (fun _ hk => hk.elim) HFR.out HT2.out.r2 HBP.out HBP.out.size (by have := HIL.out; omega) ?_; intro v127 w6 hR6 hb6 hg6 hat6; have HT6 := Aside0.mk (HT2.out.app2 hR6 hg6); have HB6 := Aside0.mk hb6; have HBV6 := Aside0.mk ((hg6.block bv (blk_lt HBV5.out) (fun e => HNB.out.1 e.symm)).trans HBV5.out); have HG6 := Aside0.mk (HG.out.below hb6); have HS6 : Aside0 (w6.cell? (aa.add i) = some (.int .i64 (s1 : Int))) := ⟨by obtain ⟨aa', e, h⟩ := Kd.at_int (Kd.C_below HCa.out hb6) (i : Int) (by omega) (by omega); cases e; rw [Int.toNat_natCast, HSI.out] at h; exact h⟩; have hv0 : w6.cell? ⟨bv, 0, none⟩ = some (.int .i64 x.f0) := (blk_cell HBV6.out 0).trans rfl; have hv1 : w6.cell? ⟨bv, 1, none⟩ = some (.int .i64 x.f1) := (blk_cell HBV6.out 1).trans rfl; have hv2 : w6.cell? ⟨bv, 2, none⟩ = some (.string x.f2) := (blk_cell HBV6.out 2).trans rfl; have hl0 : w6.cell? ⟨bl, 0, none⟩ = some (.int .i64 lo.f0) := (blk_cell HG6.out.bl 0).trans rfl; have hl1 : w6.cell? ⟨bl, 1, none⟩ = some (.int .i64 lo.f1) := (blk_cell HG6.out.bl 1).trans rfl; have hl2 : w6.cell? ⟨bl, 2, none⟩ = some (.string lo.f2) := (blk_cell HG6.out.bl 2).trans rfl; clear hR6 hb6 hg6 hat6 HBP HT2 HFR HBV5 HGP hsP) | (have mk_ := MK1; go_at_call 11; refine (value_cmp x lo _).mono ?_; rintro e w7 ⟨rfl, hb⟩; have HT7 := Aside0.mk (HT6.out.below hb); have HB7 := Aside0.mk (below_step HB6.out hb); have HG7 := Aside0.mk (HG6.out.below hb); have HBV7 := Aside0.mk ((hb.block bv (blk_lt HBV6.out)).trans HBV6.out); have HS7 := Aside0.mk (cells_later hb HS6.out); clear hv0 hv1 hv2 hl0 hl1 hl2; have hv0 : w7.cell? ⟨bv, 0, none⟩ = some (.int .i64 x.f0) := (blk_cell HBV7.out 0).trans rfl; have hv1 : w7.cell? ⟨bv, 1, none⟩ = some (.int .i64 x.f1) := (blk_cell HBV7.out 1).trans rfl; have hv2 : w7.cell? ⟨bv, 2, none⟩ = some (.string x.f2) := (blk_cell HBV7.out 2).trans rfl; have hl0 : w7.cell? ⟨bh, 0, none⟩ = some (.int .i64 hi.f0) := (blk_cell HG7.out.bh 0).trans rfl; have hl1 : w7.cell? ⟨bh, 1, none⟩ = some (.int .i64 hi.f1) := (blk_cell HG7.out.bh 1).trans rfl; have hl2 : w7.cell? ⟨bh, 2, none⟩ = some (.string hi.f2) := (blk_cell HG7.out.bh 2).trans rfl; clear hb mk_ MK1 HT6 HB6 HG6 HBV6 HS6) | (go_at_call 11; refine (value_cmp x hi _).mono ?_; rintro e w8 ⟨rfl, hb⟩; have HT8 := Aside0.mk (HT7.out.below hb); have HB8 := Aside0.mk (below_step HB7.out hb); have HG8 := Aside0.mk (HG7.out.below hb); have HBV8 := Aside0.mk ((hb.block bv (blk_lt HBV7.out)).trans HBV7.out); have HS8 := Aside0.mk (cells_later hb HS7.out); clear hv0 hv1 hv2 hl0 hl1 hl2; have hs8 : w8.cell? (aa.add i) = some (.int .i64 (s1 : Int)) := HS8.out; clear hb HT7 HB7 HG7 HBV7 HS7))
              go_roundw
              case rel => exact ⟨i + 1, by have := HLT.out; omega, by go_num, _, ⟨by rw [HW1.out, HSM.out]; exact HT8.out⟩, HB8⟩
              case measure => simp [intOf]; have := HLT.out; omega
          · have HW1 := Aside0.mk (HFW.out.2 (fun h => h1 h.1))
            clear HFW
            go_wp2_with (first | ((with_reducible refine gate_builtin (b := .append) (xs := #[.tmp 121, .tmp 126]) rfl ?_); at_builtin; refine Kd.R_append kI (w0 := w3) w3.heap.size rfl (.tmp 121) (.tmp 126) 31 3 (.int .i64 0) 8 rfl Try.underlying31 info3 rfl (by decide) (by decide) _ ls (s1 : Int) [.int .i64 (s1 : Int)] (fun k => tg2 k = false) (fun _ => False) (by first | (go_simp; done) | (go_simp; rfl)) (by first | (go_simp; done) | (go_simp; rfl)) rfl (fun _ hk => hk.elim) HFR.out HT2.out.r2 HBP.out HBP.out.size (by have := HIL.out; omega) ?_; intro v127 w6 hR6 hb6 hg6 hat6; have HT6 := Aside0.mk (HT2.out.app2 hR6 hg6); have HB6 := Aside0.mk hb6; have HBV6 := Aside0.mk ((hg6.block bv (blk_lt HBV5.out) (fun e => HNB.out.1 e.symm)).trans HBV5.out); have HG6 := Aside0.mk (HG.out.below hb6); have HS6 : Aside0 (w6.cell? (aa.add i) = some (.int .i64 (s1 : Int))) := ⟨by obtain ⟨aa', e, h⟩ := Kd.at_int (Kd.C_below HCa.out hb6) (i : Int) (by omega) (by omega); cases e; rw [Int.toNat_natCast, HSI.out] at h; exact h⟩; have hv0 : w6.cell? ⟨bv, 0, none⟩ = some (.int .i64 x.f0) := (blk_cell HBV6.out 0).trans rfl; have hv1 : w6.cell? ⟨bv, 1, none⟩ = some (.int .i64 x.f1) := (blk_cell HBV6.out 1).trans rfl; have hv2 : w6.cell? ⟨bv, 2, none⟩ = some (.string x.f2) := (blk_cell HBV6.out 2).trans rfl; have hl0 : w6.cell? ⟨bl, 0, none⟩ = some (.int .i64 lo.f0) := (blk_cell HG6.out.bl 0).trans rfl; have hl1 : w6.cell? ⟨bl, 1, none⟩ = some (.int .i64 lo.f1) := (blk_cell HG6.out.bl 1).trans rfl; have hl2 : w6.cell? ⟨bl, 2, none⟩ = some (.string lo.f2) := (blk_cell HG6.out.bl 2).trans rfl; clear hR6 hb6 hg6 hat6 HBP HT2 HFR HBV5 HGP hsP) | (have mk_ := MK1; go_at_call 11; refine (value_cmp x lo _).mono ?_; rintro e w7 ⟨rfl, hb⟩; have HT7 := Aside0.mk (HT6.out.below hb); have HB7 := Aside0.mk (below_step HB6.out hb); have HG7 := Aside0.mk (HG6.out.below hb); have HBV7 := Aside0.mk ((hb.block bv (blk_lt HBV6.out)).trans HBV6.out); have HS7 := Aside0.mk (cells_later hb HS6.out); clear hv0 hv1 hv2 hl0 hl1 hl2; have hv0 : w7.cell? ⟨bv, 0, none⟩ = some (.int .i64 x.f0) := (blk_cell HBV7.out 0).trans rfl; have hv1 : w7.cell? ⟨bv, 1, none⟩ = some (.int .i64 x.f1) := (blk_cell HBV7.out 1).trans rfl; have hv2 : w7.cell? ⟨bv, 2, none⟩ = some (.string x.f2) := (blk_cell HBV7.out 2).trans rfl; have hl0 : w7.cell? ⟨bh, 0, none⟩ = some (.int .i64 hi.f0) := (blk_cell HG7.out.bh 0).trans rfl; have hl1 : w7.cell? ⟨bh, 1, none⟩ = some (.int .i64 hi.f1) := (blk_cell HG7.out.bh 1).trans rfl; have hl2 : w7.cell? ⟨bh, 2, none⟩ = some (.string hi.f2) := (blk_cell HG7.out.bh 2).trans rfl; clear hb mk_ MK1 HT6 HB6 HG6 HBV6 HS6))
            go_roundw
            case rel => exact ⟨i + 1, by have := HLT.out; omega, by go_num, _, ⟨by rw [HW1.out, HSM.out]; exact HT7.out⟩, HB7⟩
            case measure => simp [intOf]; have := HLT.out; omega
      · have hin : i = n := by omega
        have HTS : Aside0 (S.take i = S) := ⟨List.take_of_length_le (by have := HSN.out; omega)⟩
        rw [HTS.out] at HT
        clear hi' 
        go_wp2
        go_meet
        exact ⟨tg, HT, HB⟩
  case rest =>
  obtain ⟨tg, HT, HB⟩ := hcut
  obtain ⟨wE, rfl⟩ : ∃ x, x = wc := ⟨_, rfl⟩
  have HGE : Aside0 (Gs W wE bl bh b0 g n Ar rows L lo hi) := ⟨HG.out.below HB.out⟩
  have HRD : Aside0 (∀ w', Gs W w' bl bh b0 g n Ar rows L lo hi → Rd w' g L S) := ⟨fun w' h => by
    obtain ⟨S', h1, h2⟩ := h.ix.srd
    obtain rfl := h1.unique HSS.out
    exact h2⟩
  have HDL : Aside0 (dst L ≤ (S.filter (fun s => !isN L s)).length) := ⟨dst_some HSS.out⟩
  have HL1000 : Aside0 (L.length ≤ 1000) := ⟨by have := HLL.out; omega⟩
  have HRW : Aside0 (rangeL L S [lo] [hi] = S.filter (fw L lo hi)) := ⟨rfl⟩
  have HRS : Aside0 (rangeL L S [] [] = S.filter (fun s => !isN L s)) := ⟨some_range L S⟩
  have HLw : Aside0 ((S.filter (fw L lo hi)).length ≤ 1000) := ⟨by have := List.length_filter_le (fw L lo hi) S; have := HSN.out; omega⟩
  have HLs : Aside0 ((S.filter (fun s => !isN L s)).length ≤ 1000) := ⟨by have := List.length_filter_le (fun s => !isN L s) S; have := HSN.out; omega⟩
  generalize S.filter (fw L lo hi) = lw at *
  generalize S.filter (fun s => !isN L s) = ls at *
  obtain ⟨Aw, cw, ew, hcw, hCw⟩ := Kd.R_reads HT.out.r1
  subst ew
  obtain ⟨As, cs, es, hcs, hCs⟩ := Kd.R_reads HT.out.r2
  subst es
  have HWE := Aside0.mk hCw
  have HWc := Aside0.mk hcw
  have HSE := Aside0.mk hCs
  have HSc := Aside0.mk hcs
  have hdl : (dst L : Int) ≤ (ls.length : Int) := by have := HDL.out; omega
  have hdn : dst L ≤ ls.length := HDL.out
  have hl0 : wE.cell? ⟨bl, 0, none⟩ = some (.int .i64 lo.f0) := (blk_cell HGE.out.bl 0).trans rfl
  have hl1 : wE.cell? ⟨bl, 1, none⟩ = some (.int .i64 lo.f1) := (blk_cell HGE.out.bl 1).trans rfl
  have hl2 : wE.cell? ⟨bl, 2, none⟩ = some (.string lo.f2) := (blk_cell HGE.out.bl 2).trans rfl
  clear hcw hCw hcs hCs HT HB HG HCa Hca HBI
  have MK1 := Aside0.mk True.intro
  have MK2 := Aside0.mk True.intro
  go_wp2_with (first | ((with_reducible refine gate_dst (N := 147) rfl ?_); refine slice_event ?hg (N := 147) ?hd (cs := #[.int .i64 lo.f0, .int .i64 lo.f1, .string lo.f2]) (t := 24) (n := 1) ?hr ?_; (case hd => rfl); (case hg => rfl); (case hr => first | (go_simp; done) | (go_simp; rfl)); intro g147 hge w4 hbl hb; have H147 := Aside0.mk hbl; have HG4 := Aside0.mk (HGE.out.below hb); have HW4 := Aside0.mk (Kd.C_below HWE.out hb); have HS4 := Aside0.mk (Kd.C_below HSE.out hb); clear hl0 hl1 hl2; have hl0 : w4.cell? ⟨bh, 0, none⟩ = some (.int .i64 hi.f0) := (blk_cell HG4.out.bh 0).trans rfl; have hl1 : w4.cell? ⟨bh, 1, none⟩ = some (.int .i64 hi.f1) := (blk_cell HG4.out.bh 1).trans rfl; have hl2 : w4.cell? ⟨bh, 2, none⟩ = some (.string hi.f2) := (blk_cell HG4.out.bh 2).trans rfl; clear hb hge hbl HGE HWE HSE) | ((with_reducible refine gate_dst (N := 149) rfl ?_); refine slice_event ?hg (N := 149) ?hd (cs := #[.int .i64 hi.f0, .int .i64 hi.f1, .string hi.f2]) (t := 24) (n := 1) ?hr ?_; (case hd => rfl); (case hg => rfl); (case hr => first | (go_simp; done) | (go_simp; rfl)); intro g149 hge w5 hbl hb; have H149 := Aside0.mk hbl; have HG5 := Aside0.mk (HG4.out.below hb); have HW5 := Aside0.mk (Kd.C_below HW4.out hb); have HS5 := Aside0.mk (Kd.C_below HS4.out hb); have H147b := Aside0.mk ((hb.block g147 (blk_lt H147.out)).trans H147.out); clear hl0 hl1 hl2; clear hb hge hbl HG4 HW4 HS4) | (have mk_ := MK1; go_at_call 12; refine (q_range _ g L S (HRD.out _ HG5.out) HSS.out HL1000.out g147 g149 lo hi H147b.out H149.out).mono ?_; rw [HRW.out]; rintro e w6 ⟨A6, c6, rfl, hc6, hC6, hb⟩; have HC6 := Aside0.mk hC6; have Hc6 := Aside0.mk hc6; clear hc6 hC6; have HG6 := Aside0.mk (HG5.out.below hb); have HW6 := Aside0.mk (Kd.C_below HW5.out hb); have HS6 := Aside0.mk (Kd.C_below HS5.out hb); clear hb HG5 HW5 HS5; clear mk_ MK1) | (have mk_ := MK2; go_at_call 7; refine (q_num _ _ _ _ _ lw HC6.out Hc6.out HW6.out HWc.out HLw.out).mono ?_; rintro e w7 ⟨rfl, hb⟩; have HG7 := Aside0.mk (HG6.out.below hb); have HW7 := Aside0.mk (Kd.C_below HW6.out hb); have HS7 := Aside0.mk (Kd.C_below HS6.out hb); clear hb HG6 HW6 HS6; clear mk_ MK2 HC6 Hc6) | (go_at_call 12; refine (q_range0 _ g L S (HRD.out _ HG7.out) HSS.out HL1000.out).mono ?_; rw [HRS.out]; rintro e w8 ⟨A8, c8, rfl, hc8, hC8, hb⟩; have HC8 := Aside0.mk hC8; have Hc8 := Aside0.mk hc8; clear hc8 hC8; have HG8 := Aside0.mk (HG7.out.below hb); have HW8 := Aside0.mk (Kd.C_below HW7.out hb); have HS8 := Aside0.mk (Kd.C_below HS7.out hb); clear hb HG7 HW7 HS7) | (go_at_call 7; refine (q_num _ _ _ _ _ ls HC8.out Hc8.out HS8.out HSc.out HLs.out).mono ?_; rintro e w9 ⟨rfl, hb⟩; have HG9 := Aside0.mk (HG8.out.below hb); have HW9 := Aside0.mk (Kd.C_below HW8.out hb); have HS9 := Aside0.mk (Kd.C_below HS8.out hb); clear hb HG8 HW8 HS8; clear HC8 Hc8) | (go_at_call 13; refine (distinct13 _ b0 g L HG9.out.ix).mono ?_; rintro e w10 ⟨rfl, hb⟩; have HG10 := Aside0.mk (HG9.out.below hb); have HW10 := Aside0.mk (Kd.C_below HW9.out hb); have HS10 := Aside0.mk (Kd.C_below HS9.out hb); clear hb HG9 HW9 HS9))
  go_ret
  exact ⟨rfl, HG10.out.bel⟩
theorem ranges_row (W : World) (A : Option Addr) (c : Nat) (l : List S24) (lo hi : S24) (hr : k24.C W A l.length l) (hc : l.length ≤ c) {p : Prop} (hw : (∀ x ∈ l, (Lit.int .i64 x.f0).wf = true ∧ ((Lit.int .i64 x.f1).wf = true ∧ x.f2.size ≤ 140737488351232)) ∧ p) {q r : Prop} (h1 : q) (h2 : r) :
    Calls Try.prog 4 #[.slice A l.length c, .agg #[.int .i64 lo.f0, .int .i64 lo.f1, .string lo.f2], .agg #[.int .i64 hi.f0, .int .i64 hi.f1, .string hi.f2]] W fun e w' => e = .returned (.bool true) ∧ Below W.heap.size W w' :=
  ranges4 W A c l lo hi hr (fun x hx => ⟨(hw.1 x hx).1, (hw.1 x hx).2.1, Nat.le_trans (hw.1 x hx).2.2 (by decide)⟩)

end Go.Proofs.Ytpkhdljlhdomlaa.QIndexFinds
