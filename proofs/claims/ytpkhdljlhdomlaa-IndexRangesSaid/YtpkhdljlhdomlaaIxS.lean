import Derived.Test.YtpkhdljlhdomlaaIxR
import Derived.Test.YtpkhdljlhdomlaaWEqStruct
/- Index: walks by hand; the conditions stand in each theorem. -/
namespace Go.Proofs.Ytpkhdljlhdomlaa.QIndexFinds
open Go.RowKit Go.Proofs.YtpkhdljlhdomlaaW.PrintWords Go.Proofs.YtpkhdljlhdomlaaW.PrintLast Go.Proofs.YtpkhdljlhdomlaaW.PrintMore
attribute [local go_sem] max2_int min2_int max_two min_two max_three min_three max_four min_four
set_option linter.unusedVariables false
set_option linter.unusedSimpArgs false
theorem add3 (a : Addr) : a.add 3 = ⟨a.block, a.off + 3, none⟩ := by simp [Addr.add]
theorem info22 : (Try.prog.info? 22).map (fun i => (i.zero, i.size, i.bytes)) = some (some (.slice none 0 0), 1, 24) := by kernel_rfl
theorem eqA24 (d : Nat) (w : World) (x0 x1 y0 y1 : Int) (x2 y2 : ByteArray) :
    (Op.equalIn (d + 2) 24 (.agg #[.int .i64 x0, .int .i64 x1, .string x2]) (.agg #[.int .i64 y0, .int .i64 y1, .string y2])).run Try.prog w = .ok (x0 == y0 && (x1 == y1 && x2.toList == y2.toList)) w := by
  refine eqA_of Try.underlying24 (by kernel_rfl) ?_
  refine eqf_cons (by rfl) (by go_simp; rfl) (by go_simp; rfl) (by go_simp) ?_
  refine eqf_cons (by rfl) (by go_simp; rfl) (by go_simp; rfl) (by go_simp) ?_
  exact eqf_last (by rfl) (by go_simp; rfl) (by go_simp; rfl) (by go_simp)
theorem eql24 (x y : S24) (w : World) : (binOp .eql 24 (.agg #[.int .i64 x.f0, .int .i64 x.f1, .string x.f2]) (.agg #[.int .i64 y.f0, .int .i64 y.f1, .string y.f2])).run Try.prog w = .ok (.bool (decide (x = y))) w := by
  have h := eqA24 9998 w x.f0 x.f1 y.f0 y.f1 x.f2 y.f2
  have e : (x.f0 == y.f0 && (x.f1 == y.f1 && x.f2.toList == y.f2.toList)) = decide (x = y) := by
    rw [Bool.eq_iff_iff]
    simp only [Bool.and_eq_true, beq_iff_eq, decide_eq_true_eq]
    exact ⟨fun h => s24_ext h.1 h.2.1 (ba_eq h.2.2), fun h => by subst h; exact ⟨rfl, rfl, rfl⟩⟩
  rw [e] at h
  simp only [binOp]
  simp [Op.equal, Op.maxDepth, h]
def nF (vs : List S24) : Nat := min vs.length 60
def rowsF (f : S24 → List S24) (vs : List S24) (i : Nat) : List (List S24) := (vs.take i).map f
theorem rowsF_len (f : S24 → List S24) (vs : List S24) (i : Nat) (h : i ≤ vs.length) : (rowsF f vs i).length = i := by unfold rowsF; rw [List.length_map, List.length_take]; omega
theorem rowsF_succ (f : S24 → List S24) (vs : List S24) (i : Nat) (h : i < vs.length) : rowsF f vs (i + 1) = rowsF f vs i ++ [f vs[i]] := by unfold rowsF; rw [List.take_succ_eq_append_getElem h, List.map_append]; rfl
theorem rowsF_get (f : S24 → List S24) (vs : List S24) (n k : Nat) (h : k < (rowsF f vs n).length) : (rowsF f vs n)[k] = f (rd_T24 (vs.take n) (k : Int)) := by
  have h2 : k < (vs.take n).length := by unfold rowsF at h; rw [List.length_map] at h; exact h
  have e : (rowsF f vs n)[k] = f ((vs.take n)[k]) := by simp [rowsF]
  rw [e]
  congr 1
  have := rd_some h2
  rw [List.getElem?_eq_getElem h2] at this
  injection this
theorem vals_rowsF (vs : List S24) (n : Nat) (h : n ≤ vs.length) : vals (rowsF (fun x => [z24, x]) vs n) 1 n = vs.take n := by
  unfold vals rowsF
  rw [List.take_of_length_le (by rw [List.length_map, List.length_take]; omega), List.map_map]
  exact List.map_id' _
/- What is known all through the law. -/
structure Fs (W w : World) (bo b0 g : Nat) (Ar : Option Addr) (rows : List (List S24)) (L : List S24) (v0 : S24) : Prop where
  ix : Ix w b0 g L
  rw_ : (Kd.slice 24 k24).C w Ar rows.length rows
  bo : w.heap[bo]? = some (.cells #[.int .i64 v0.f0, .int .i64 v0.f1, .string v0.f2] 24 (0, 0))
  bel : Below W.heap.size W w
theorem Fs.below {W w w' : World} {bo b0 g : Nat} {Ar : Option Addr} {rows : List (List S24)} {L : List S24} {v0 : S24} (h : Fs W w bo b0 g Ar rows L v0) (hb : Below w.heap.size w w') : Fs W w' bo b0 g Ar rows L v0 :=
  ⟨h.ix.below hb, Kd.C_below h.rw_ hb, (hb.block bo (blk_lt h.bo)).trans h.bo, below_step h.bel hb⟩
def wantL (L : List S24) (x : S24) : List Int := if x.f0 = 0 then [] else bkt L x
theorem wantL_succ (L : List S24) (x : S24) (k : Nat) (h : k < L.length) : wantL (L.take (k + 1)) x = if rd_T24 L (k : Int) = x ∧ ¬ x.f0 = 0 then wantL (L.take k) x ++ [(k : Int)] else wantL (L.take k) x := by
  unfold wantL
  have hl : (L.take k).length = k := by rw [List.length_take]; omega
  have e : L.take (k + 1) = L.take k ++ [rd_T24 L (k : Int)] := by
    rw [List.take_succ_eq_append_getElem h]
    have := rd_some h
    rw [List.getElem?_eq_getElem h] at this
    injection this with this
    rw [this]
  by_cases h0 : x.f0 = 0
  · rw [if_pos h0, if_pos h0, if_neg (fun h => h.2 h0)]
  · rw [if_neg h0, if_neg h0, e, bkt_app, hl]
    unfold updL
    by_cases hx : rd_T24 L (k : Int) = x
    · rw [if_pos hx.symm, if_pos ⟨hx, h0⟩, hx]
    · rw [if_neg (fun h => hx h.symm), if_neg (fun h => hx h.1)]
theorem q_eq (w : World) (b0 g : Nat) (L : List S24) (x : S24) (h : Ix w b0 g L) : Calls Try.prog 8 #[.pointer (some ⟨g, 0, none⟩), .agg #[.int .i64 x.f0, .int .i64 x.f1, .string x.f2]] w fun e w' => ∃ A c, e = .returned (.slice A (wantL L x).length c) ∧ (wantL L x).length ≤ c ∧ kI.C w' A (wantL L x).length (wantL L x) ∧ Below w.heap.size w w' := by
  refine (eq8 w b0 g L x h).mono ?_
  rintro e w' ⟨v0, rfl, h1, h2⟩
  obtain ⟨A, c, rfl, h3, h4⟩ := Kd.R_reads h1
  exact ⟨A, c, rfl, h3, h4, h2⟩
theorem q_hash (w : World) (b0 g : Nat) (L : List S24) (x : S24) (h : Ix w b0 g L) (hx : okS x) : Calls Try.prog 9 #[.pointer (some ⟨g, 0, none⟩), .agg #[.int .i64 x.f0, .int .i64 x.f1, .string x.f2]] w fun e w' => ∃ A c, e = .returned (.slice A (wantL L x).length c) ∧ (wantL L x).length ≤ c ∧ kI.C w' A (wantL L x).length (wantL L x) ∧ Below w.heap.size w w' := by
  refine (hash9 w b0 g L x h hx).mono ?_
  rintro e w' ⟨v0, rfl, h1, h2⟩
  obtain ⟨A, c, rfl, h3, h4⟩ := Kd.R_reads h1
  exact ⟨A, c, rfl, h3, h4, h2⟩
theorem wantL_len (L : List S24) (x : S24) : (wantL L x).length ≤ L.length := by
  unfold wantL
  split
  · exact Nat.zero_le _
  · unfold bkt
    have h1 := List.length_filter_le (fun j => decide (L[j]? = some x)) (List.range L.length)
    rw [List.length_range] at h1
    rw [List.length_map]
    exact h1
theorem q_num (w : World) (A : Option Addr) (c : Nat) (A' : Option Addr) (c' : Nat) (l : List Int) (h1 : kI.C w A l.length l) (hc : l.length ≤ c) (h2 : kI.C w A' l.length l) (hc' : l.length ≤ c') (hm : l.length ≤ 1000) : Calls Try.prog 7 #[.slice A l.length c, .slice A' l.length c'] w fun e w' => e = .returned (.bool true) ∧ Below w.heap.size w w' := by
  have := numbers7 A c l A' c' l w h1 hc h2 hc' (by omega)
  rw [decide_eq_true rfl] at this
  exact this
set_option maxRecDepth 8000 in
set_option maxHeartbeats 8000000 in
theorem finds3 (W : World) (A : Option Addr) (c : Nat) (vs : List S24) (v0 : S24) (hr : k24.C W A vs.length vs) (hok : ∀ x ∈ vs, okS x) (hv0 : okS v0) :
    Calls Try.prog 3 #[.slice A vs.length c, encV v0] W fun e w' => e = .returned (.bool true) ∧ Below W.heap.size W w' := by
  have HR := Aside0.mk hr
  have HOK := Aside0.mk hok
  have HV0 := Aside0.mk hv0
  have hb0 := below_alloc (Below.refl W.heap.size W) (.cells #[.int .i64 v0.f0, .int .i64 v0.f1, .string v0.f2] 24)
  have HBO : Aside0 ((W.alloc (.cells #[.int .i64 v0.f0, .int .i64 v0.f1, .string v0.f2] 24)).heap[W.heap.size]? = some (.cells #[.int .i64 v0.f0, .int .i64 v0.f1, .string v0.f2] 24 (0, 0))) := ⟨blk_new W _⟩
  have HB0 := Aside0.mk hb0
  have HNF : Aside0 (nF vs ≤ vs.length ∧ nF vs ≤ 60 ∧ (nF vs = vs.length ∨ nF vs = 60)) := ⟨by unfold nF; omega⟩
  clear hr hok hv0 hb0
  unfold encV
  go_enter Try.func3, Try.ntmps3
  go_upto_block 0 with (go_at_call 5; refine (examples5 _).mono ?_; rintro e w1 ⟨rfl, hb⟩; have HB1 := Aside0.mk (below_step HB0.out hb); have HBO1 := Aside0.mk ((hb.block _ (blk_lt HBO.out)).trans HBO.out); clear hb HBO HB0)
  obtain ⟨bo, hbo⟩ : ∃ bo, bo = W.heap.size := ⟨_, rfl⟩
  rw [← hbo] at HBO1 ⊢
  have HBX := Aside0.mk hbo
  clear hbo
  go_cut [6] (fun s6 wx => Aside0 ((Kd.slice 24 k24).R 22 wx W.heap.size (fun k => k ≠ bo) s6 (rowsF (fun x => [z24, x]) vs (nF vs))) ∧ Aside0 (wx.heap[bo]? = some (.cells #[.int .i64 v0.f0, .int .i64 v0.f1, .string v0.f2] 24 (0, 0))) ∧ Aside0 (Below W.heap.size W wx))
  case first =>
    go_wp2
    go_loopw [6, 7] (fun s6 s7 wr => ∃ i : Nat, i ≤ nF vs ∧ s7 = .int .i64 i ∧ Aside0 ((Kd.slice 24 k24).R 22 wr W.heap.size (fun k => k ≠ bo) s6 (rowsF (fun x => [z24, x]) vs i)) ∧ Aside0 (wr.heap[bo]? = some (.cells #[.int .i64 v0.f0, .int .i64 v0.f1, .string v0.f2] 24 (0, 0))) ∧ Aside0 (Below W.heap.size W wr)) (fun _ s7 _ => nF vs - (intOf s7).toNat)
    case atStart => exact ⟨0, Nat.zero_le _, rfl, ⟨Kd.R_nil _ _ _ _ _⟩, HBO1, HB1⟩
    case round =>
      clear HB1 HBO1
      obtain ⟨i, hi, rfl, HS, HBO, HB⟩ := hrel
      have hnf := HNF.out
      by_cases hlt : i < nF vs
      · have hil : i < vs.length := by omega
        have hi60 : (i : Int) < 60 := by omega
        obtain ⟨ad, e, hx0, hx1, hx2⟩ := at_row (Kd.C_below HR.out HB.out) i hil
        subst e
        have HSU : Aside0 (rowsF (fun x => [z24, x]) vs (i + 1) = rowsF (fun x => [z24, x]) vs i ++ [[z24, rd_T24 vs (i : Int)]]) := ⟨by rw [rowsF_succ _ _ _ hil]; congr 3; unfold rd_T24; rw [Int.toNat_natCast, List.getD_eq_getElem?_getD, List.getElem?_eq_getElem hil]; rfl⟩
        have HRL : Aside0 ((rowsF (fun x => [z24, x]) vs i).length = i) := ⟨rowsF_len _ _ _ (by omega)⟩
        have HLT := Aside0.mk hlt
        have HIL := Aside0.mk hnf
        generalize rd_T24 vs (i : Int) = x at *
        clear hnf hlt hi
        go_wp2_with (first | ((with_reducible refine gate_dst (N := 33) rfl ?_); refine Kd.R_lit k24 (w0 := W) W.heap.size 24 ?hg (N := 33) ?hd (xs := [z24, x]) (inner := [.int .i64 0, .int .i64 0, .string (⟨#[]⟩ : ByteArray), .int .i64 x.f0, .int .i64 x.f1, .string x.f2]) (ok := fun k => wr.heap.size ≤ k) (okp := fun _ => False) ?hr ?hp (fun _ hk => hk.elim) (Nat.le_refl _) HB.out HB.out.size (by simp) ?_; (case hd => rfl); (case hg => rfl); (case hr => first | (go_simp; done) | (go_simp; rfl)); (case hp => exact (Reps.c3 (k24_mkM _ _ _ z24) (Reps.c3 (k24_mkM _ _ _ x) (Reps.none _ _)))); intro v33 w2 hR33 hb2 hg2 hat2; obtain ⟨A33, c33, e33⟩ := Kd.R_slice hR33; subst e33; have H33 := Aside0.mk hR33; have HB2 := Aside0.mk hb2; have HG2 := Aside0.mk hg2; clear hR33 hb2 hg2 hat2) | ((with_reducible refine gate_builtin (b := .append) (xs := #[.tmp 27, .tmp 34]) rfl ?_); at_builtin; refine Kd.R_append (Kd.slice 24 k24) (w0 := W) W.heap.size rfl (.tmp 27) (.tmp 34) 26 22 (.slice none 0 0) 24 rfl Try.underlying26 info22 rfl (by decide) (by decide) _ (rowsF (fun x => [z24, x]) vs i) [z24, x] [.slice A33 2 c33] (fun k => k ≠ bo) (fun k => wr.heap.size ≤ k) (by first | (go_simp; done) | (go_simp; rfl)) (by first | (go_simp; done) | (go_simp; rfl)) ⟨_, rfl, H33.out⟩ ?aK ?aF (Kd.R_grown HS.out HG2.out (fun _ _ => by simp)) HB2.out HB2.out.size ?aL ?_; (case aK => exact (fun k hk => ⟨by have := blk_lt HBO.out; omega, fun e => by have := Kd.R_lt HS.out k e.symm; omega⟩)); (case aF => exact (fun k hk => by have := blk_lt HBO.out; have := HG2.out.size; omega)); (case aL => have := HRL.out; have := HIL.out; have := HLT.out; omega); intro v35 w3 hR35 hb3 hg3 hat3; have H35 := Aside0.mk hR35; have HB3 := Aside0.mk hb3; have HBO3 := Aside0.mk ((hg3.block bo (by have := blk_lt HBO.out; have := HG2.out.size; omega) (fun e => (Kd.R_away HS.out (fun _ h => h)) e)).trans ((HG2.out.block bo (blk_lt HBO.out) (by simp)).trans HBO.out)); clear hR35 hb3 hg3 hat3))
        go_roundw
        case rel => exact ⟨i + 1, by have := HLT.out; omega, by go_num, ⟨by rw [HSU.out]; exact H35.out⟩, HBO3, HB3⟩
        case measure => simp [intOf]; have := HLT.out; omega
      · have hin : i = nF vs := by omega
        have hout : (i < vs.length ∧ ¬ (i : Int) < 60) ∨ ¬ i < vs.length := by omega
        subst hin
        rcases hout with ⟨h1, h2⟩ | h1
        · clear hlt hnf hi
          go_wp2
          go_meet
          exact ⟨HS, HBO, HB⟩
        · clear hlt hnf hi
          go_wp2
          go_meet
          exact ⟨HS, HBO, HB⟩
  case rest =>
  obtain ⟨HS, HBO, HB⟩ := hcut
  obtain ⟨wO, rfl⟩ : ∃ x, x = wc := ⟨_, rfl⟩
  clear HB1 HBO1
  obtain ⟨Ar, cr, e6, hcr, hCr⟩ := Kd.R_reads HS.out
  subst e6
  obtain ⟨L, hL⟩ : ∃ L, L = vs.take (nF vs) := ⟨_, rfl⟩
  obtain ⟨rows, hrows⟩ : ∃ rows, rows = rowsF (fun x => [z24, x]) vs (nF vs) := ⟨_, rfl⟩
  rw [← hrows] at hcr hCr ⊢
  have hrl : rows.length = nF vs := by rw [hrows]; exact rowsF_len _ _ _ HNF.out.1
  have HLL : Aside0 (L.length = nF vs) := ⟨by rw [hL, List.length_take]; have := HNF.out; omega⟩
  have HVL : Aside0 (vals rows 1 rows.length = L) := ⟨by rw [hrl, hrows, hL]; exact vals_rowsF _ _ HNF.out.1⟩
  have HLO : Aside0 (∀ x ∈ L, okS x) := ⟨fun x hx => HOK.out x (by rw [hL] at hx; exact List.mem_of_mem_take hx)⟩
  have HRW : Aside0 (∀ r ∈ rows, ∃ x ∈ L, r = [z24, x]) := ⟨fun r hr => by
    rw [hrows] at hr
    unfold rowsF at hr
    obtain ⟨x, hx, rfl⟩ := List.mem_map.1 hr
    exact ⟨x, by rw [hL]; exact hx, rfl⟩⟩
  have HRWi : Aside0 (∀ k (h : k < rows.length), rows[k] = [z24, rd_T24 L (k : Int)]) := ⟨fun k h => by
    subst hrows
    subst hL
    exact rowsF_get _ _ _ _ h⟩
  have HBD : Aside0 (Calls Try.prog 6 #[.slice Ar rows.length cr, .int .i64 1] wO fun e w' => ∃ g b0, e = .returned (.tuple #[.pointer (some ⟨g, 0, none⟩), .int .i64 0]) ∧ Fs W w' bo b0 g Ar rows L v0) := ⟨by
    have h := index_Build wO Ar cr rows 1 hCr (fun r hr => by obtain ⟨x, _, rfl⟩ := HRW.out r hr; simp) (fun r hr x hx => by
      obtain ⟨y, hy, rfl⟩ := HRW.out r hr
      rcases List.mem_cons.1 hx with h | h
      · rw [h]; exact okS_of _ ⟨by decide, by decide⟩ ⟨by decide, by decide⟩ (by decide)
      · rw [List.mem_singleton.1 h]; exact HLO.out y hy) (by have := HNF.out; omega)
    rw [HVL.out] at h
    refine Calls.mono h ?_
    rintro e w' ⟨g, rfl, h1, h2⟩
    exact ⟨g, _, rfl, h1, Kd.C_below hCr h2, (h2.block bo (blk_lt HBO.out)).trans HBO.out, below_step HB.out h2⟩⟩
  have HRL := Aside0.mk hrl
  have HCR := Aside0.mk hcr
  have hr1000 : rows.length ≤ 60 := by have := HNF.out; omega
  clear hCr hcr hrl hL hrows HS HBO HB HBX HNF HOK HR HRW HVL
  go_upto_block 2 with (go_at_call 6; refine HBD.out.mono ?_; rintro e w2 ⟨g, b0, rfl, hF⟩; have HF := Aside0.mk hF; clear hF HBD)
  go_cut [] (fun wx => Aside0 (Fs W wx bo b0 g Ar rows L v0))
  case first =>
    go_wp2
    go_loopw [10] (fun s10 wr => ∃ i : Nat, i ≤ rows.length + 1 ∧ s10 = .int .i64 i ∧ Aside0 (Fs W wr bo b0 g Ar rows L v0)) (fun s10 _ => rows.length + 1 - (intOf s10).toNat)
    case atStart => exact ⟨0, Nat.zero_le _, rfl, HF⟩
    case round =>
      clear HF
      obtain ⟨i, hi, rfl, HF⟩ := hrel
      by_cases hlt : i ≤ rows.length
      · obtain ⟨x, hx⟩ : ∃ x, x = if i < rows.length then rd_T24 L (i : Int) else v0 := ⟨_, rfl⟩
        have HX := Aside0.mk hx
        have HXO : Aside0 (okS x) := ⟨by
          rw [hx]
          by_cases c : i < rows.length
          · rw [if_pos c]
            have h1 : i < L.length := by have := HLL.out; have := HRL.out; omega
            have h2 := rd_some h1
            exact HLO.out _ (List.mem_of_getElem? h2)
          · rw [if_neg c]; exact HV0.out⟩
        have HLE := Aside0.mk hlt
        have ho0 : wr.cell? ⟨bo, 0, none⟩ = some (.int .i64 v0.f0) := (blk_cell HF.out.bo 0).trans rfl
        have ho1 : wr.cell? ⟨bo, 1, none⟩ = some (.int .i64 v0.f1) := (blk_cell HF.out.bo 1).trans rfl
        have ho2 : wr.cell? ⟨bo, 2, none⟩ = some (.string v0.f2) := (blk_cell HF.out.bo 2).trans rfl
        clear hx hi
        go_upto_if 57 with (first | ((with_reducible refine gate_dst (N := 11) rfl ?_); refine box_event ?hg (N := 11) ?hd (cs := #[.int .i64 0, .int .i64 0, .string (⟨#[]⟩ : ByteArray)]) (t := 24) ?hr ?_; (case hd => rfl); (case hg => rfl); (case hr => first | (go_simp; done) | (go_simp; rfl)); intro bv hbk W3 hbox hb; have GE : Aside0 (wr.heap.size ≤ bv) := ⟨Nat.le_of_eq hbk.symm⟩; have HB := Aside0.mk hb; have HBX := Aside0.mk hbox; have hs0 : W3.cell? ⟨bv, 0, none⟩ = some (.int .i64 0) := (blk_cell hbox 0).trans rfl; have hs1 : W3.cell? ⟨bv, 1, none⟩ = some (.int .i64 0) := (blk_cell hbox 1).trans rfl; have hs2 : W3.cell? ⟨bv, 2, none⟩ = some (.string (⟨#[]⟩ : ByteArray)) := (blk_cell hbox 2).trans rfl; have hf0 := blk_frozen hbox 0; have hf1 := blk_frozen hbox 1; have hf2 := blk_frozen hbox 2; clear hb hbox hbk))
        have HBV : Aside0 ((((W3.setCell ⟨bv, 0, none⟩ (.int .i64 v0.f0)).setCell ⟨bv, 1, none⟩ (.int .i64 v0.f1)).setCell ⟨bv, 2, none⟩ (.string v0.f2)).heap[bv]? = some (.cells #[.int .i64 v0.f0, .int .i64 v0.f1, .string v0.f2] 24 (0, 0))) := ⟨blk_put (cs := #[.int .i64 v0.f0, .int .i64 v0.f1, .string (⟨#[]⟩ : ByteArray)]) (blk_put (cs := #[.int .i64 v0.f0, .int .i64 0, .string (⟨#[]⟩ : ByteArray)]) (blk_put (cs := #[.int .i64 0, .int .i64 0, .string (⟨#[]⟩ : ByteArray)]) HBX.out 0 _ rfl) 1 _ rfl) 2 _ rfl⟩
        have HF4 : Aside0 (Fs W (((W3.setCell ⟨bv, 0, none⟩ (.int .i64 v0.f0)).setCell ⟨bv, 1, none⟩ (.int .i64 v0.f1)).setCell ⟨bv, 2, none⟩ (.string v0.f2)) bo b0 g Ar rows L v0) := ⟨HF.out.below (below_set (below_set (below_set HB.out GE.out) GE.out) GE.out)⟩
        have HBW : Aside0 (Below wr.heap.size wr (((W3.setCell ⟨bv, 0, none⟩ (.int .i64 v0.f0)).setCell ⟨bv, 1, none⟩ (.int .i64 v0.f1)).setCell ⟨bv, 2, none⟩ (.string v0.f2))) := ⟨below_set (below_set (below_set HB.out GE.out) GE.out) GE.out⟩
        have HLW : Aside0 (bv ≠ bo ∧ ∀ j, j < wr.heap.size → j ≠ bv) := ⟨by have := GE.out; have := blk_lt HF.out.bo; omega, fun j hj => by have := GE.out; omega⟩
        clear hs0 hs1 hs2 hf0 hf1 hf2 ho0 ho1 ho2 HB HBX
        generalize ((W3.setCell ⟨bv, 0, none⟩ (.int .i64 v0.f0)).setCell ⟨bv, 1, none⟩ (.int .i64 v0.f1)).setCell ⟨bv, 2, none⟩ (.string v0.f2) = W4 at *
        go_cut [] (fun wx => Aside0 (wx.heap[bv]? = some (.cells #[.int .i64 x.f0, .int .i64 x.f1, .string x.f2] 24 (0, 0))) ∧ Aside0 (Fs W wx bo b0 g Ar rows L v0))
        case first =>
          by_cases hin : i < rows.length
          · have e := HX.out
            rw [if_pos hin] at e
            obtain ⟨ar, Ak, ck, e1, hrow, hck, hCk⟩ := at_rows HF4.out.rw_ i hin hin
            subst e1
            have hri := HRWi.out i hin
            rw [hri, ← e] at hrow hCk
            rw [show [z24, x].length = 2 from rfl] at hrow hCk
            obtain ⟨ak, e2, hx0, hx1, hx2⟩ := at_row hCk 1 (by omega)
            subst e2
            rw [show rd_T24 [z24, x] ((1 : Nat) : Int) = x from rfl, Nat.one_mul, add3] at hx0 hx1 hx2
            have hs0 : W4.cell? ⟨bv, 0, none⟩ = some (.int .i64 v0.f0) := (blk_cell HBV.out 0).trans rfl
            have hs1 : W4.cell? ⟨bv, 1, none⟩ = some (.int .i64 v0.f1) := (blk_cell HBV.out 1).trans rfl
            have hs2 : W4.cell? ⟨bv, 2, none⟩ = some (.string v0.f2) := (blk_cell HBV.out 2).trans rfl
            have hf0 := blk_frozen HBV.out 0
            have hf1 := blk_frozen HBV.out 1
            have hf2 := blk_frozen HBV.out 2
            have HBV5 : Aside0 ((((W4.setCell ⟨bv, 0, none⟩ (.int .i64 x.f0)).setCell ⟨bv, 1, none⟩ (.int .i64 x.f1)).setCell ⟨bv, 2, none⟩ (.string x.f2)).heap[bv]? = some (.cells #[.int .i64 x.f0, .int .i64 x.f1, .string x.f2] 24 (0, 0))) := ⟨blk_put (cs := #[.int .i64 x.f0, .int .i64 x.f1, .string v0.f2]) (blk_put (cs := #[.int .i64 x.f0, .int .i64 v0.f1, .string v0.f2]) (blk_put (cs := #[.int .i64 v0.f0, .int .i64 v0.f1, .string v0.f2]) HBV.out 0 _ rfl) 1 _ rfl) 2 _ rfl⟩
            have HF5 : Aside0 (Fs W (((W4.setCell ⟨bv, 0, none⟩ (.int .i64 x.f0)).setCell ⟨bv, 1, none⟩ (.int .i64 x.f1)).setCell ⟨bv, 2, none⟩ (.string x.f2)) bo b0 g _ rows L v0) := ⟨HF.out.below (below_set (below_set (below_set HBW.out GE.out) GE.out) GE.out)⟩
            have hinz : (i : Int) < (rows.length : Int) := by omega
            clear e hri hCk hck
            go_wp2
            go_meet
            exact ⟨HBV5, HF5⟩
          · have e := HX.out
            rw [if_neg hin] at e
            subst e
            go_wp2
            go_meet
            exact ⟨HBV, HF4⟩
        case rest =>
        obtain ⟨HBV5, HF5⟩ := hcut
        obtain ⟨wP, rfl⟩ : ∃ x, x = wc := ⟨_, rfl⟩
        clear HF HF4 HBV HBW GE HLW
        obtain ⟨wr0, rfl⟩ : ∃ x, x = wr := ⟨_, rfl⟩
        go_upto_block 4 with fail
        go_cut [12] (fun s12 wx => Aside0 (kI.R 3 wx wP.heap.size (fun _ => True) s12 (wantL L x)) ∧ Aside0 (Below wP.heap.size wP wx))
        case first =>
          go_wp2
          go_loopw [12, 13] (fun s12 s13 wr => ∃ k : Nat, k ≤ rows.length ∧ s13 = .int .i64 k ∧ Aside0 (kI.R 3 wr wP.heap.size (fun _ => True) s12 (wantL (L.take k) x)) ∧ Aside0 (Below wP.heap.size wP wr)) (fun _ s13 _ => rows.length - (intOf s13).toNat)
          case atStart =>
            refine ⟨0, Nat.zero_le _, rfl, ⟨?_⟩, ⟨Below.refl _ _⟩⟩
            have e : wantL (L.take 0) x = [] := by unfold wantL; split <;> rfl
            rw [e]
            exact Kd.R_nil _ _ _ _ _
          case round =>
            obtain ⟨k, hk, rfl, HW, HB⟩ := hrel
            by_cases hkl : k < rows.length
            · have HFr : Aside0 (Fs W wr.drew bo b0 g Ar rows L v0) := ⟨(HF5.out.below HB.out).below (below_drew (Below.refl _ _))⟩
              have HVr : wr.drew.heap[bv]? = some (.cells #[.int .i64 x.f0, .int .i64 x.f1, .string x.f2] 24 (0, 0)) := (HB.out.block bv (blk_lt HBV5.out)).trans HBV5.out
              obtain ⟨ar, Ak, ck, e1, hrow, hck, hCk⟩ := at_rows HFr.out.rw_ k hkl hkl
              have hri := HRWi.out k hkl
              have HSU : Aside0 (wantL (L.take (k + 1)) x = if rd_T24 L (k : Int) = x ∧ ¬ x.f0 = 0 then wantL (L.take k) x ++ [(k : Int)] else wantL (L.take k) x) := ⟨wantL_succ L x k (by have := HLL.out; have := HRL.out; omega)⟩
              rw [hri] at hrow hCk
              generalize rd_T24 L (k : Int) = y at *
              rw [show [z24, y].length = 2 from rfl] at hrow hCk
              obtain ⟨ak, e2, hx0, hx1, hx2⟩ := at_row hCk 1 (by omega)
              subst e2
              rw [show rd_T24 [z24, y] ((1 : Nat) : Int) = y from rfl, Nat.one_mul, add3] at hx0 hx1 hx2
              have m0_ := Aside0.mk hrow
              have m1_ := Aside0.mk hx0
              have m2_ := Aside0.mk hx1
              have m3_ := Aside0.mk hx2
              have m4_ : Aside0 (wr.drew.cell? ⟨bv, 0, none⟩ = some (.int .i64 x.f0)) := ⟨(blk_cell HVr 0).trans rfl⟩
              have m5_ : Aside0 (wr.drew.cell? ⟨bv, 1, none⟩ = some (.int .i64 x.f1)) := ⟨(blk_cell HVr 1).trans rfl⟩
              have m6_ : Aside0 (wr.drew.cell? ⟨bv, 2, none⟩ = some (.string x.f2)) := ⟨(blk_cell HVr 2).trans rfl⟩
              have HBd : Aside0 (Below wP.heap.size wP wr.drew) := ⟨below_drew HB.out⟩
              have HWd := Aside0.mk (Kd.R_drew HW.out)
              have hkz : (k : Int) < (rows.length : Int) := by omega
              have HKL := Aside0.mk hkl
              have HWN : Aside0 ((wantL (L.take k) x).length ≤ 1000) := ⟨by have := wantL_len (L.take k) x; rw [List.length_take] at this; have := HRL.out; omega⟩
              clear hrow hx0 hx1 hx2 hri hCk hck HVr HW hk
              by_cases hyx : y = x
              · have hxy := hyx.symm
                subst hxy
                by_cases hz : x.f0 = 0
                · have hzb : decide (x.f0 = 0) = true := decide_eq_true hz
                  have hS := HSU.out
                  rw [if_neg (fun h => h.2 hz)] at hS
                  have HS2 := Aside0.mk hS
                  clear hS
                  subst e1
                  go_wp2
                  refine start_ (n := 13) (S := fun w' => w'.cell? (ar.add k) = some (.slice (some ak) 2 ck) ∧ w'.cell? ⟨ak.block, ak.off + 3, none⟩ = some (.int .i64 x.f0) ∧ w'.cell? ⟨ak.block, ak.off + 3 + 1, none⟩ = some (.int .i64 x.f1) ∧ w'.cell? ⟨ak.block, ak.off + 3 + 2, none⟩ = some (.string x.f2) ∧ w'.cell? ⟨bv, 0, none⟩ = some (.int .i64 x.f0) ∧ w'.cell? ⟨bv, 1, none⟩ = some (.int .i64 x.f1) ∧ w'.cell? ⟨bv, 2, none⟩ = some (.string x.f2)) (ds := []) #[false, false, false, false, false, false, false, false, false, false, false, false, false] (by kernel_rfl) rfl rfl ⟨m0_.out, m1_.out, m2_.out, m3_.out, m4_.out, m5_.out, m6_.out⟩ (fun hHeld => ?_)
                  refine pure_ (i := 0) (N := some 70) (v := ?_) (a' := ?_) #[true, false, false, false, false, false, false, false, false, false, false, false, false] rfl rfl (by kernel_rfl) (fun _ _ _ h => h) (Or.inl ⟨by rfl, ?_⟩) ?_ ?_
                  rotate_left
                  · intro w'
                    go_simp
                    with_reducible rfl
                  rotate_left
                  · simp only [Act.put, List.setIfInBounds_toArray, List.set_cons_zero, List.set_cons_succ, i64_w, i32_w]
                    rfl
                  refine pure_ (i := 1) (N := some 71) (v := ?_) (a' := ?_) #[true, true, false, false, false, false, false, false, false, false, false, false, false] rfl rfl (by kernel_rfl) (fun _ _ _ h => h) (Or.inl ⟨by rfl, ?_⟩) ?_ ?_
                  rotate_left
                  · intro w'
                    go_simp
                    with_reducible rfl
                  rotate_left
                  · simp only [Act.put, List.setIfInBounds_toArray, List.set_cons_zero, List.set_cons_succ, i64_w, i32_w]
                    rfl
                  refine pure_ (i := 2) (N := some 72) (v := ?_) (a' := ?_) #[true, true, true, false, false, false, false, false, false, false, false, false, false] rfl rfl (by kernel_rfl) (fun _ _ _ h => h) (Or.inl ⟨by rfl, ?_⟩) ?_ ?_
                  rotate_left
                  · intro w'
                    go_simp
                    with_reducible rfl
                  rotate_left
                  · simp only [Act.put, List.setIfInBounds_toArray, List.set_cons_zero, List.set_cons_succ, i64_w, i32_w]
                    rfl
                  refine take_ (i := 3) (N := some 73) (v := ?_) (a' := ?_) #[true, true, true, true, false, false, false, false, false, false, false, false, false] rfl rfl (by kernel_rfl) (fun _ _ _ h => h) (Or.inl ⟨by rfl, ?_⟩) hHeld ?_ ?_
                  rotate_left
                  · rintro w' ⟨s0, s1, s2, s3, s4, s5, s6⟩
                    go_simp
                    with_reducible rfl
                  rotate_left
                  · simp only [Act.put, List.setIfInBounds_toArray, List.set_cons_zero, List.set_cons_succ, i64_w, i32_w]
                    rfl
                  refine pure_ (i := 4) (N := some 74) (v := ?_) (a' := ?_) #[true, true, true, true, true, false, false, false, false, false, false, false, false] rfl rfl (by kernel_rfl) (fun _ _ _ h => h) (Or.inl ⟨by rfl, ?_⟩) ?_ ?_
                  rotate_left
                  · intro w'
                    go_simp
                    with_reducible rfl
                  rotate_left
                  · simp only [Act.put, List.setIfInBounds_toArray, List.set_cons_zero, List.set_cons_succ, i64_w, i32_w]
                    rfl
                  refine take_ (i := 5) (N := some 75) (v := ?_) (a' := ?_) #[true, true, true, true, true, true, false, false, false, false, false, false, false] rfl rfl (by kernel_rfl) (fun _ _ _ h => h) (Or.inl ⟨by rfl, ?_⟩) hHeld ?_ ?_
                  rotate_left
                  · rintro w' ⟨s0, s1, s2, s3, s4, s5, s6⟩
                    go_simp
                    with_reducible rfl
                  rotate_left
                  · simp only [Act.put, List.setIfInBounds_toArray, List.set_cons_zero, List.set_cons_succ, i64_w, i32_w]
                    rfl
                  refine take_ (i := 6) (N := some 76) (v := ?_) (a' := ?_) #[true, true, true, true, true, true, true, false, false, false, false, false, false] rfl rfl (by kernel_rfl) (fun _ _ _ h => h) (Or.inl ⟨by rfl, ?_⟩) hHeld ?_ ?_
                  rotate_left
                  · rintro w' ⟨s0, s1, s2, s3, s4, s5, s6⟩
                    go_simp
                    with_reducible rfl
                  rotate_left
                  · simp only [Act.put, List.setIfInBounds_toArray, List.set_cons_zero, List.set_cons_succ, i64_w, i32_w]
                    rfl
                  refine pure_ (i := 7) (N := some 77) (v := ?_) (a' := ?_) #[true, true, true, true, true, true, true, true, false, false, false, false, false] rfl rfl (by kernel_rfl) (fun _ _ _ h => h) (Or.inl ⟨by rfl, ?_⟩) ?_ ?_
                  rotate_left
                  · intro w'
                    go_simp
                    with_reducible rfl
                  rotate_left
                  · simp only [Act.put, List.setIfInBounds_toArray, List.set_cons_zero, List.set_cons_succ, i64_w, i32_w]
                    rfl
                  refine pure_ (i := 8) (N := some 78) (v := ?_) (a' := ?_) #[true, true, true, true, true, true, true, true, true, false, false, false, false] rfl rfl (by kernel_rfl) (fun _ _ _ h => h) (Or.inl ⟨by rfl, ?_⟩) ?_ ?_
                  rotate_left
                  · intro w'
                    go_simp
                    with_reducible rfl
                  rotate_left
                  · simp only [Act.put, List.setIfInBounds_toArray, List.set_cons_zero, List.set_cons_succ, i64_w, i32_w]
                    rfl
                  refine pure_ (i := 9) (N := some 79) (v := ?_) (a' := ?_) #[true, true, true, true, true, true, true, true, true, true, false, false, false] rfl rfl (by kernel_rfl) (fun _ _ _ h => h) (Or.inl ⟨by rfl, ?_⟩) ?_ ?_
                  rotate_left
                  · intro w'
                    go_simp
                    with_reducible rfl
                  rotate_left
                  · simp only [Act.put, List.setIfInBounds_toArray, List.set_cons_zero, List.set_cons_succ, i64_w, i32_w]
                    rfl
                  refine take_ (i := 10) (N := some 80) (v := ?_) (a' := ?_) #[true, true, true, true, true, true, true, true, true, true, true, false, false] rfl rfl (by kernel_rfl) (fun _ _ _ h => h) (Or.inl ⟨by rfl, ?_⟩) hHeld ?_ ?_
                  rotate_left
                  · rintro w' ⟨s0, s1, s2, s3, s4, s5, s6⟩
                    go_simp
                    with_reducible rfl
                  rotate_left
                  · simp only [Act.put, List.setIfInBounds_toArray, List.set_cons_zero, List.set_cons_succ, i64_w, i32_w]
                    rfl
                  refine pure_ (i := 11) (N := some 81) (v := ?_) (a' := ?_) #[true, true, true, true, true, true, true, true, true, true, true, true, false] rfl rfl (by kernel_rfl) (fun _ _ _ h => h) (Or.inl ⟨by rfl, ?_⟩) ?_ ?_
                  rotate_left
                  · intro w'
                    go_simp
                    with_reducible rfl
                  rotate_left
                  · simp only [Act.put, List.setIfInBounds_toArray, List.set_cons_zero, List.set_cons_succ, i64_w, i32_w]
                    rfl
                  refine pure_ (i := 12) (N := some 82) (v := ?_) (a' := ?_) #[true, true, true, true, true, true, true, true, true, true, true, true, true] rfl rfl (by kernel_rfl) (fun _ _ _ h => h) (Or.inl ⟨by rfl, ?_⟩) ?_ ?_
                  rotate_left
                  · intro w'
                    go_simp
                    with_reducible rfl
                  rotate_left
                  · simp only [Act.put, List.setIfInBounds_toArray, List.set_cons_zero, List.set_cons_succ, i64_w, i32_w]
                    rfl
                  refine done_ (by kernel_rfl) ?_
                  go_wp2
                  go_roundw
                  case rel => exact ⟨k + 1, by have := HKL.out; omega, by go_num, ⟨by rw [HS2.out]; exact HWd.out⟩, HBd⟩
                  case measure => simp [intOf]; have := HKL.out; omega
                · have hzb : decide (x.f0 = 0) = false := decide_eq_false hz
                  have hS := HSU.out
                  rw [if_pos ⟨rfl, hz⟩] at hS
                  have HS2 := Aside0.mk hS
                  clear hS
                  subst e1
                  go_wp2
                  refine start_ (n := 13) (S := fun w' => w'.cell? (ar.add k) = some (.slice (some ak) 2 ck) ∧ w'.cell? ⟨ak.block, ak.off + 3, none⟩ = some (.int .i64 x.f0) ∧ w'.cell? ⟨ak.block, ak.off + 3 + 1, none⟩ = some (.int .i64 x.f1) ∧ w'.cell? ⟨ak.block, ak.off + 3 + 2, none⟩ = some (.string x.f2) ∧ w'.cell? ⟨bv, 0, none⟩ = some (.int .i64 x.f0) ∧ w'.cell? ⟨bv, 1, none⟩ = some (.int .i64 x.f1) ∧ w'.cell? ⟨bv, 2, none⟩ = some (.string x.f2)) (ds := []) #[false, false, false, false, false, false, false, false, false, false, false, false, false] (by kernel_rfl) rfl rfl ⟨m0_.out, m1_.out, m2_.out, m3_.out, m4_.out, m5_.out, m6_.out⟩ (fun hHeld => ?_)
                  refine pure_ (i := 0) (N := some 70) (v := ?_) (a' := ?_) #[true, false, false, false, false, false, false, false, false, false, false, false, false] rfl rfl (by kernel_rfl) (fun _ _ _ h => h) (Or.inl ⟨by rfl, ?_⟩) ?_ ?_
                  rotate_left
                  · intro w'
                    go_simp
                    with_reducible rfl
                  rotate_left
                  · simp only [Act.put, List.setIfInBounds_toArray, List.set_cons_zero, List.set_cons_succ, i64_w, i32_w]
                    rfl
                  refine pure_ (i := 1) (N := some 71) (v := ?_) (a' := ?_) #[true, true, false, false, false, false, false, false, false, false, false, false, false] rfl rfl (by kernel_rfl) (fun _ _ _ h => h) (Or.inl ⟨by rfl, ?_⟩) ?_ ?_
                  rotate_left
                  · intro w'
                    go_simp
                    with_reducible rfl
                  rotate_left
                  · simp only [Act.put, List.setIfInBounds_toArray, List.set_cons_zero, List.set_cons_succ, i64_w, i32_w]
                    rfl
                  refine pure_ (i := 2) (N := some 72) (v := ?_) (a' := ?_) #[true, true, true, false, false, false, false, false, false, false, false, false, false] rfl rfl (by kernel_rfl) (fun _ _ _ h => h) (Or.inl ⟨by rfl, ?_⟩) ?_ ?_
                  rotate_left
                  · intro w'
                    go_simp
                    with_reducible rfl
                  rotate_left
                  · simp only [Act.put, List.setIfInBounds_toArray, List.set_cons_zero, List.set_cons_succ, i64_w, i32_w]
                    rfl
                  refine take_ (i := 3) (N := some 73) (v := ?_) (a' := ?_) #[true, true, true, true, false, false, false, false, false, false, false, false, false] rfl rfl (by kernel_rfl) (fun _ _ _ h => h) (Or.inl ⟨by rfl, ?_⟩) hHeld ?_ ?_
                  rotate_left
                  · rintro w' ⟨s0, s1, s2, s3, s4, s5, s6⟩
                    go_simp
                    with_reducible rfl
                  rotate_left
                  · simp only [Act.put, List.setIfInBounds_toArray, List.set_cons_zero, List.set_cons_succ, i64_w, i32_w]
                    rfl
                  refine pure_ (i := 4) (N := some 74) (v := ?_) (a' := ?_) #[true, true, true, true, true, false, false, false, false, false, false, false, false] rfl rfl (by kernel_rfl) (fun _ _ _ h => h) (Or.inl ⟨by rfl, ?_⟩) ?_ ?_
                  rotate_left
                  · intro w'
                    go_simp
                    with_reducible rfl
                  rotate_left
                  · simp only [Act.put, List.setIfInBounds_toArray, List.set_cons_zero, List.set_cons_succ, i64_w, i32_w]
                    rfl
                  refine take_ (i := 5) (N := some 75) (v := ?_) (a' := ?_) #[true, true, true, true, true, true, false, false, false, false, false, false, false] rfl rfl (by kernel_rfl) (fun _ _ _ h => h) (Or.inl ⟨by rfl, ?_⟩) hHeld ?_ ?_
                  rotate_left
                  · rintro w' ⟨s0, s1, s2, s3, s4, s5, s6⟩
                    go_simp
                    with_reducible rfl
                  rotate_left
                  · simp only [Act.put, List.setIfInBounds_toArray, List.set_cons_zero, List.set_cons_succ, i64_w, i32_w]
                    rfl
                  refine take_ (i := 6) (N := some 76) (v := ?_) (a' := ?_) #[true, true, true, true, true, true, true, false, false, false, false, false, false] rfl rfl (by kernel_rfl) (fun _ _ _ h => h) (Or.inl ⟨by rfl, ?_⟩) hHeld ?_ ?_
                  rotate_left
                  · rintro w' ⟨s0, s1, s2, s3, s4, s5, s6⟩
                    go_simp
                    with_reducible rfl
                  rotate_left
                  · simp only [Act.put, List.setIfInBounds_toArray, List.set_cons_zero, List.set_cons_succ, i64_w, i32_w]
                    rfl
                  refine pure_ (i := 7) (N := some 77) (v := ?_) (a' := ?_) #[true, true, true, true, true, true, true, true, false, false, false, false, false] rfl rfl (by kernel_rfl) (fun _ _ _ h => h) (Or.inl ⟨by rfl, ?_⟩) ?_ ?_
                  rotate_left
                  · intro w'
                    go_simp
                    with_reducible rfl
                  rotate_left
                  · simp only [Act.put, List.setIfInBounds_toArray, List.set_cons_zero, List.set_cons_succ, i64_w, i32_w]
                    rfl
                  refine pure_ (i := 8) (N := some 78) (v := ?_) (a' := ?_) #[true, true, true, true, true, true, true, true, true, false, false, false, false] rfl rfl (by kernel_rfl) (fun _ _ _ h => h) (Or.inl ⟨by rfl, ?_⟩) ?_ ?_
                  rotate_left
                  · intro w'
                    go_simp
                    with_reducible rfl
                  rotate_left
                  · simp only [Act.put, List.setIfInBounds_toArray, List.set_cons_zero, List.set_cons_succ, i64_w, i32_w]
                    rfl
                  refine pure_ (i := 9) (N := some 79) (v := ?_) (a' := ?_) #[true, true, true, true, true, true, true, true, true, true, false, false, false] rfl rfl (by kernel_rfl) (fun _ _ _ h => h) (Or.inl ⟨by rfl, ?_⟩) ?_ ?_
                  rotate_left
                  · intro w'
                    go_simp
                    with_reducible rfl
                  rotate_left
                  · simp only [Act.put, List.setIfInBounds_toArray, List.set_cons_zero, List.set_cons_succ, i64_w, i32_w]
                    rfl
                  refine take_ (i := 10) (N := some 80) (v := ?_) (a' := ?_) #[true, true, true, true, true, true, true, true, true, true, true, false, false] rfl rfl (by kernel_rfl) (fun _ _ _ h => h) (Or.inl ⟨by rfl, ?_⟩) hHeld ?_ ?_
                  rotate_left
                  · rintro w' ⟨s0, s1, s2, s3, s4, s5, s6⟩
                    go_simp
                    with_reducible rfl
                  rotate_left
                  · simp only [Act.put, List.setIfInBounds_toArray, List.set_cons_zero, List.set_cons_succ, i64_w, i32_w]
                    rfl
                  refine pure_ (i := 11) (N := some 81) (v := ?_) (a' := ?_) #[true, true, true, true, true, true, true, true, true, true, true, true, false] rfl rfl (by kernel_rfl) (fun _ _ _ h => h) (Or.inl ⟨by rfl, ?_⟩) ?_ ?_
                  rotate_left
                  · intro w'
                    go_simp
                    with_reducible rfl
                  rotate_left
                  · simp only [Act.put, List.setIfInBounds_toArray, List.set_cons_zero, List.set_cons_succ, i64_w, i32_w]
                    rfl
                  refine pure_ (i := 12) (N := some 82) (v := ?_) (a' := ?_) #[true, true, true, true, true, true, true, true, true, true, true, true, true] rfl rfl (by kernel_rfl) (fun _ _ _ h => h) (Or.inl ⟨by rfl, ?_⟩) ?_ ?_
                  rotate_left
                  · intro w'
                    go_simp
                    with_reducible rfl
                  rotate_left
                  · simp only [Act.put, List.setIfInBounds_toArray, List.set_cons_zero, List.set_cons_succ, i64_w, i32_w]
                    rfl
                  refine done_ (by kernel_rfl) ?_
                  generalize wantL (L.take k) x = wk at *
                  go_wp2_with ((with_reducible refine gate_builtin (b := .append) (xs := #[.tmp 83, .tmp 85]) rfl ?_); at_builtin; refine Kd.R_append kI (w0 := wP) wP.heap.size rfl (.tmp 83) (.tmp 85) 31 3 (.int .i64 0) 8 rfl Try.underlying31 info3 rfl (by decide) (by decide) _ wk (k : Int) [.int .i64 (k : Int)] (fun _ => True) (fun _ => False) (by first | (go_simp; done) | (go_simp; rfl)) (by first | (go_simp; done) | (go_simp; rfl)) rfl (fun _ hk => hk.elim) (fun _ _ => trivial) HWd.out HBd.out HBd.out.size (by have := HWN.out; omega) ?_; intro v86 w6 hR86 hb6 hg6 hat6; have H86 := Aside0.mk hR86; have HB6 := Aside0.mk hb6; clear hR86 hb6 hg6 hat6)
                  go_roundw
                  case rel => exact ⟨k + 1, by have := HKL.out; omega, by go_num, ⟨by rw [HS2.out]; exact H86.out⟩, HB6⟩
                  case measure => simp [intOf]; have := HKL.out; omega
              · have hS := HSU.out
                rw [if_neg (fun h => hyx h.1)] at hS
                have HS2 := Aside0.mk hS
                have hne : ¬ y.f0 = x.f0 ∨ (y.f0 = x.f0 ∧ ¬ y.f1 = x.f1) ∨ (y.f0 = x.f0 ∧ y.f1 = x.f1 ∧ ¬ y.f2.toList = x.f2.toList) := by
                  by_cases h0 : y.f0 = x.f0
                  · by_cases h1 : y.f1 = x.f1
                    · exact .inr (.inr ⟨h0, h1, fun h2 => hyx (s24_ext h0 h1 (ba_eq h2))⟩)
                    · exact .inr (.inl ⟨h0, h1⟩)
                  · exact .inl h0
                clear hS hyx
                subst e1
                rcases hne with h | ⟨h, h'⟩ | ⟨h, h', h''⟩
                all_goals
                  go_wp2
                  refine start_ (n := 13) (S := fun w' => w'.cell? (ar.add k) = some (.slice (some ak) 2 ck) ∧ w'.cell? ⟨ak.block, ak.off + 3, none⟩ = some (.int .i64 y.f0) ∧ w'.cell? ⟨ak.block, ak.off + 3 + 1, none⟩ = some (.int .i64 y.f1) ∧ w'.cell? ⟨ak.block, ak.off + 3 + 2, none⟩ = some (.string y.f2) ∧ w'.cell? ⟨bv, 0, none⟩ = some (.int .i64 x.f0) ∧ w'.cell? ⟨bv, 1, none⟩ = some (.int .i64 x.f1) ∧ w'.cell? ⟨bv, 2, none⟩ = some (.string x.f2)) (ds := []) #[false, false, false, false, false, false, false, false, false, false, false, false, false] (by kernel_rfl) rfl rfl ⟨m0_.out, m1_.out, m2_.out, m3_.out, m4_.out, m5_.out, m6_.out⟩ (fun hHeld => ?_)
                  refine pure_ (i := 0) (N := some 70) (v := ?_) (a' := ?_) #[true, false, false, false, false, false, false, false, false, false, false, false, false] rfl rfl (by kernel_rfl) (fun _ _ _ h => h) (Or.inl ⟨by rfl, ?_⟩) ?_ ?_
                  rotate_left
                  · intro w'
                    go_simp
                    with_reducible rfl
                  rotate_left
                  · simp only [Act.put, List.setIfInBounds_toArray, List.set_cons_zero, List.set_cons_succ, i64_w, i32_w]
                    rfl
                  refine pure_ (i := 1) (N := some 71) (v := ?_) (a' := ?_) #[true, true, false, false, false, false, false, false, false, false, false, false, false] rfl rfl (by kernel_rfl) (fun _ _ _ h => h) (Or.inl ⟨by rfl, ?_⟩) ?_ ?_
                  rotate_left
                  · intro w'
                    go_simp
                    with_reducible rfl
                  rotate_left
                  · simp only [Act.put, List.setIfInBounds_toArray, List.set_cons_zero, List.set_cons_succ, i64_w, i32_w]
                    rfl
                  refine pure_ (i := 2) (N := some 72) (v := ?_) (a' := ?_) #[true, true, true, false, false, false, false, false, false, false, false, false, false] rfl rfl (by kernel_rfl) (fun _ _ _ h => h) (Or.inl ⟨by rfl, ?_⟩) ?_ ?_
                  rotate_left
                  · intro w'
                    go_simp
                    with_reducible rfl
                  rotate_left
                  · simp only [Act.put, List.setIfInBounds_toArray, List.set_cons_zero, List.set_cons_succ, i64_w, i32_w]
                    rfl
                  refine take_ (i := 3) (N := some 73) (v := ?_) (a' := ?_) #[true, true, true, true, false, false, false, false, false, false, false, false, false] rfl rfl (by kernel_rfl) (fun _ _ _ h => h) (Or.inl ⟨by rfl, ?_⟩) hHeld ?_ ?_
                  rotate_left
                  · rintro w' ⟨s0, s1, s2, s3, s4, s5, s6⟩
                    go_simp
                    with_reducible rfl
                  rotate_left
                  · simp only [Act.put, List.setIfInBounds_toArray, List.set_cons_zero, List.set_cons_succ, i64_w, i32_w]
                    rfl
                  refine pure_ (i := 4) (N := some 74) (v := ?_) (a' := ?_) #[true, true, true, true, true, false, false, false, false, false, false, false, false] rfl rfl (by kernel_rfl) (fun _ _ _ h => h) (Or.inl ⟨by rfl, ?_⟩) ?_ ?_
                  rotate_left
                  · intro w'
                    go_simp
                    with_reducible rfl
                  rotate_left
                  · simp only [Act.put, List.setIfInBounds_toArray, List.set_cons_zero, List.set_cons_succ, i64_w, i32_w]
                    rfl
                  refine take_ (i := 5) (N := some 75) (v := ?_) (a' := ?_) #[true, true, true, true, true, true, false, false, false, false, false, false, false] rfl rfl (by kernel_rfl) (fun _ _ _ h => h) (Or.inl ⟨by rfl, ?_⟩) hHeld ?_ ?_
                  rotate_left
                  · rintro w' ⟨s0, s1, s2, s3, s4, s5, s6⟩
                    go_simp
                    with_reducible rfl
                  rotate_left
                  · simp only [Act.put, List.setIfInBounds_toArray, List.set_cons_zero, List.set_cons_succ, i64_w, i32_w]
                    rfl
                  refine take_ (i := 6) (N := some 76) (v := ?_) (a' := ?_) #[true, true, true, true, true, true, true, false, false, false, false, false, false] rfl rfl (by kernel_rfl) (fun _ _ _ h => h) (Or.inl ⟨by rfl, ?_⟩) hHeld ?_ ?_
                  rotate_left
                  · rintro w' ⟨s0, s1, s2, s3, s4, s5, s6⟩
                    go_simp
                    with_reducible rfl
                  rotate_left
                  · simp only [Act.put, List.setIfInBounds_toArray, List.set_cons_zero, List.set_cons_succ, i64_w, i32_w]
                    rfl
                  refine pure_ (i := 7) (N := some 77) (v := ?_) (a' := ?_) #[true, true, true, true, true, true, true, true, false, false, false, false, false] rfl rfl (by kernel_rfl) (fun _ _ _ h => h) (Or.inl ⟨by rfl, ?_⟩) ?_ ?_
                  rotate_left
                  · intro w'
                    go_simp
                    with_reducible rfl
                  rotate_left
                  · simp only [Act.put, List.setIfInBounds_toArray, List.set_cons_zero, List.set_cons_succ, i64_w, i32_w]
                    rfl
                  refine pure_ (i := 8) (N := some 78) (v := ?_) (a' := ?_) #[true, true, true, true, true, true, true, true, true, false, false, false, false] rfl rfl (by kernel_rfl) (fun _ _ _ h => h) (Or.inl ⟨by rfl, ?_⟩) ?_ ?_
                  rotate_left
                  · intro w'
                    go_simp
                    with_reducible rfl
                  rotate_left
                  · simp only [Act.put, List.setIfInBounds_toArray, List.set_cons_zero, List.set_cons_succ, i64_w, i32_w]
                    rfl
                  refine pure_ (i := 9) (N := some 79) (v := undef) (a' := ?_) #[true, true, true, true, true, true, true, true, true, true, false, false, false] rfl rfl (by kernel_rfl) (fun _ _ _ h => h) (Or.inr ⟨by rfl, rfl⟩) ?_ ?_
                  rotate_left
                  · simp only [Act.put, List.setIfInBounds_toArray, List.set_cons_zero, List.set_cons_succ, i64_w, i32_w]
                    rfl
                  refine pure_ (i := 10) (N := some 80) (v := undef) (a' := ?_) #[true, true, true, true, true, true, true, true, true, true, true, false, false] rfl rfl (by kernel_rfl) (fun _ _ _ h => h) (Or.inr ⟨by rfl, rfl⟩) ?_ ?_
                  rotate_left
                  · simp only [Act.put, List.setIfInBounds_toArray, List.set_cons_zero, List.set_cons_succ, i64_w, i32_w]
                    rfl
                  refine pure_ (i := 11) (N := some 81) (v := undef) (a' := ?_) #[true, true, true, true, true, true, true, true, true, true, true, true, false] rfl rfl (by kernel_rfl) (fun _ _ _ h => h) (Or.inr ⟨by rfl, rfl⟩) ?_ ?_
                  rotate_left
                  · simp only [Act.put, List.setIfInBounds_toArray, List.set_cons_zero, List.set_cons_succ, i64_w, i32_w]
                    rfl
                  refine pure_ (i := 12) (N := some 82) (v := ?_) (a' := ?_) #[true, true, true, true, true, true, true, true, true, true, true, true, true] rfl rfl (by kernel_rfl) (fun _ _ _ h => h) (Or.inl ⟨by rfl, ?_⟩) ?_ ?_
                  rotate_left
                  · intro w'
                    go_simp
                    with_reducible rfl
                  rotate_left
                  · simp only [Act.put, List.setIfInBounds_toArray, List.set_cons_zero, List.set_cons_succ, i64_w, i32_w]
                    rfl
                  refine done_ (by kernel_rfl) ?_
                  go_wp2
                  go_roundw
                  case rel => exact ⟨k + 1, by have := HKL.out; omega, by go_num, ⟨by rw [HS2.out]; exact HWd.out⟩, HBd⟩
                  case measure => simp [intOf]; have := HKL.out; omega
            · have hkn : k = rows.length := by omega
              have HE : Aside0 (wantL (L.take k) x = wantL L x) := ⟨by rw [List.take_of_length_le (by have := HLL.out; have := HRL.out; omega)]⟩
              rw [HE.out] at HW
              clear hk
              go_wp2
              go_meet
              exact ⟨HW, HB⟩
        case rest =>
        obtain ⟨HW, HBP⟩ := hcut
        obtain ⟨wQ, rfl⟩ : ∃ x, x = wc := ⟨_, rfl⟩
        obtain ⟨Aw, cw, ew, hcw, hCw⟩ := Kd.R_reads HW.out
        subst ew
        have HFQ : Aside0 (Fs W wQ bo b0 g Ar rows L v0) := ⟨HF5.out.below HBP.out⟩
        have HVQ : Aside0 (wQ.heap[bv]? = some (.cells #[.int .i64 x.f0, .int .i64 x.f1, .string x.f2] 24 (0, 0))) := ⟨(HBP.out.block bv (blk_lt HBV5.out)).trans HBV5.out⟩
        have HWC := Aside0.mk hCw
        have HWc := Aside0.mk hcw
        have HWL : Aside0 ((wantL L x).length ≤ 1000) := ⟨by have := wantL_len L x; have := HLL.out; have := HRL.out; omega⟩
        clear HW HBP HF5 HBV5 hCw hcw
        generalize hwl : wantL L x = wl at *
        have hv0 : wQ.cell? ⟨bv, 0, none⟩ = some (.int .i64 x.f0) := (blk_cell HVQ.out 0).trans rfl
        have hv1 : wQ.cell? ⟨bv, 1, none⟩ = some (.int .i64 x.f1) := (blk_cell HVQ.out 1).trans rfl
        have hv2 : wQ.cell? ⟨bv, 2, none⟩ = some (.string x.f2) := (blk_cell HVQ.out 2).trans rfl
        have HWQ := Aside0.mk hwl
        clear hwl
        have MK1 := Aside0.mk True.intro
        go_wp2_with (first | (go_at_call 8; refine (q_eq _ _ _ L x HFQ.out.ix).mono ?_; rw [HWQ.out]; rintro e w3 ⟨A3, c3, rfl, hc3, hC3, hb⟩; have HC3 := Aside0.mk hC3; have Hc3 := Aside0.mk hc3; have HF3 := Aside0.mk (HFQ.out.below hb); have HV3 := Aside0.mk ((hb.block bv (blk_lt HVQ.out)).trans HVQ.out); have HW3 := Aside0.mk (Kd.C_below HWC.out hb); clear hC3 hc3 hb HFQ HVQ HWC hv0 hv1 hv2) | (have mk_ := MK1; go_at_call 7; refine (q_num _ _ _ _ _ wl HC3.out Hc3.out HW3.out HWc.out HWL.out).mono ?_; rintro e w4 ⟨rfl, hb⟩; have HF4 := Aside0.mk (HF3.out.below hb); have HV4 := Aside0.mk ((hb.block bv (blk_lt HV3.out)).trans HV3.out); have HW4 := Aside0.mk (Kd.C_below HW3.out hb); have hv0 : w4.cell? ⟨bv, 0, none⟩ = some (.int .i64 x.f0) := (blk_cell HV4.out 0).trans rfl; have hv1 : w4.cell? ⟨bv, 1, none⟩ = some (.int .i64 x.f1) := (blk_cell HV4.out 1).trans rfl; have hv2 : w4.cell? ⟨bv, 2, none⟩ = some (.string x.f2) := (blk_cell HV4.out 2).trans rfl; clear hb HC3 Hc3 HF3 HV3 HW3 mk_ MK1) | (go_at_call 9; refine (q_hash _ _ _ L x HF4.out.ix HXO.out).mono ?_; rw [HWQ.out]; rintro e w5 ⟨A5, c5, rfl, hc5, hC5, hb⟩; have HC5 := Aside0.mk hC5; have Hc5 := Aside0.mk hc5; have HF5 := Aside0.mk (HF4.out.below hb); have HW5 := Aside0.mk (Kd.C_below HW4.out hb); clear hC5 hc5 hb HF4 HW4 HV4 hv0 hv1 hv2) | (go_at_call 7; refine (q_num _ _ _ _ _ wl HC5.out Hc5.out HW5.out HWc.out HWL.out).mono ?_; rintro e w6 ⟨rfl, hb⟩; have HF6 := Aside0.mk (HF5.out.below hb); clear hb HC5 Hc5 HF5 HW5))
        go_roundw
        case rel => exact ⟨i + 1, by have := HLE.out; omega, by go_num, HF6⟩
        case measure => simp [intOf]; have := HLE.out; omega
      · have hin : ¬ (i : Int) ≤ (rows.length : Int) := by omega
        clear hi hlt
        go_wp2
        go_meet
        exact HF
  case rest =>
  have HF2 := hcut
  go_wp2
  go_ret
  exact ⟨rfl, HF2.out.bel⟩

end Go.Proofs.Ytpkhdljlhdomlaa.QIndexFinds
