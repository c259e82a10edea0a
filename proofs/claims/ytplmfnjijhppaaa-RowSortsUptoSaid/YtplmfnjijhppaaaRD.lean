import Derived.Test.YtplmfnjijhppaaaRC
import Derived.Test.YtplmfnjijhppaaaQRowSortsx9
/- Row's sort, and the laws over it: walks by hand; the conditions stand in each theorem. -/
namespace Go.Proofs.Ytplmfnjijhppaaa.QRowSorts
open Go.RowKit Go.Proofs.YtplmfnjijhppaaaW.PrintWords Go.Proofs.YtplmfnjijhppaaaW.PrintLast Go.Proofs.YtplmfnjijhppaaaW.PrintMore
attribute [local go_sem] max2_int min2_int max_two min_two max_three min_three max_four min_four
set_option linter.unusedVariables false
set_option linter.unusedSimpArgs false
theorem w64_ {n : Int} (h0 : -9223372036854775808 ≤ n) (h1 : n ≤ 9223372036854775807) : wrap64 n = n := by unfold wrap64; omega
theorem ex_ok : weathercocklaw02_examples.f 40 = some true := by decide +kernel
theorem rd_L3_at (l : List (List S36)) (i : Nat) (h : i < l.length) : rd_L3 l (i : Int) = l[i] := by unfold rd_L3; rw [Int.toNat_natCast, List.getD_eq_getElem?_getD, List.getElem?_eq_getElem h]; rfl
theorem rows_l1 (l : List (List S36)) (hs : ∀ r ∈ l, r.length < 4398046511104) (i : Nat) (hi : i < l.length) (h : Ev (fun k => rowsK.l0 k l l (wrap64 ((i : Int) + 1))) true) : ∀ (m j : Nat), j + m = (rd_L3 l (i : Int)).length → Ev (fun k => rowsK.l1 k l l (i : Int) (j : Int)) true := by
  have hb : (rd_L3 l (i : Int)).length < 4398046511104 := by rw [rd_L3_at l i hi]; exact hs _ (List.getElem_mem hi)
  intro m
  induction m with
  | zero =>
    intro j hj
    refine Ev.step (fun k => rfl) ?_
    simp only [rowsK.l1]
    refine ev_pos (by omega) (ev_pos (by omega) (ev_neg (by omega) ?_))
    exact h
  | succ m ih =>
    intro j hj
    refine Ev.step (fun k => rfl) ?_
    simp only [rowsK.l1]
    refine ev_pos (by omega) (ev_pos (by omega) (ev_pos (by omega) (ev_pos (by omega) (ev_pos (by omega) (ev_pos (by omega) (ev_neg (by simp) ?_))))))
    rw [w64_ (by omega) (by omega)]
    exact ih (j + 1) (by omega)
theorem rows_l0 (l : List (List S36)) (hs : ∀ r ∈ l, r.length < 4398046511104) (hl : l.length < 4398046511104) : ∀ (m i : Nat), i + m = l.length → Ev (fun k => rowsK.l0 k l l (i : Int)) true := by
  intro m
  induction m with
  | zero =>
    intro i hi
    refine Ev.step (fun k => rfl) ?_
    simp only [rowsK.l0]
    refine ev_neg (by omega) ?_
    exact Ev.now true
  | succ m ih =>
    intro i hi
    refine Ev.step (fun k => rfl) ?_
    simp only [rowsK.l0]
    refine ev_pos (by omega) (ev_pos (by omega) (ev_pos (by omega) (ev_pos trivial ?_)))
    refine rows_l1 l hs i (by omega) ?_ (rd_L3 l (i : Int)).length 0 (by omega)
    rw [w64_ (by omega) (by omega)]
    exact ih (i + 1) (by omega)
theorem rows_refl (l : List (List S36)) (hs : ∀ r ∈ l, r.length < 4398046511104) (hl : l.length < 4398046511104) : ∃ k, rowsK.f k l l = some true := by
  obtain ⟨k, h⟩ := (rows_l0 l hs hl l.length 0 (by omega)).rounds
  exact ⟨k, by unfold rowsK.f; rw [if_pos rfl]; exact h⟩
theorem rows_same (A0 : Option Addr) (c0 : Nat) (A1 : Option Addr) (c1 : Nat) (l : List (List S36)) (w : World) (h0 : Kd.C (Kd.slice 36 k36) w A0 l.length l) (hc0 : l.length ≤ c0) (h1 : Kd.C (Kd.slice 36 k36) w A1 l.length l) (hc1 : l.length ≤ c1) (hs : ∀ r ∈ l, r.length < 4398046511104) (hl : l.length < 4398046511104) :
    Calls Try.prog 15 #[.slice A0 l.length c0, .slice A1 l.length c1] w fun e w' => e = .returned (.bool true) ∧ Drawn0 w w' := by
  obtain ⟨k, hk⟩ := rows_refl l hs hl
  exact rowsK.calls k A0 c0 l A1 c1 l true w h0 hc0 h1 hc1 hk
/- row.Sort, at any row whose parts are within the reach. -/
theorem sort_any (A0 : Option Addr) (c0 : Nat) (l : List (List S36)) (w : World) (h0 : Kd.C (Kd.slice 36 k36) w A0 l.length l) (hc0 : l.length ≤ c0) (hs : ∀ r ∈ l, r.length < 4398046511104) (hl : l.length < 4398046511104) :
    Calls Try.prog 21 #[.slice A0 l.length c0] w fun e w' => ∃ v : Value, e = .returned v ∧ Kd.R (Kd.slice 36 k36) 22 w' w.heap.size (fun _ => True) v (sortR l) ∧ Below w.heap.size w w' := by
  obtain ⟨k, hk⟩ := row_clone.f_ok l hs (by omega)
  exact row_Sort.calls k A0 c0 l (sortR l) w h0 hc0 (by unfold row_Sort.f; rw [hk, Option.bind_some, if_pos (by omega)])
theorem sortR_len (l : List (List S36)) : (sortR l).length = l.length := (sortR_perm l).length_eq
theorem sortR_all (l : List (List S36)) {p : List S36 → Prop} (h : ∀ r ∈ l, p r) : ∀ r ∈ sortR l, p r := fun r hr => h r ((sortR_perm l).mem_iff.1 hr)
theorem sortR_rev (l : List (List S36)) : sortR l.reverse = sortR l := (sortR_unique ((sortR_perm _).trans (List.reverse_perm l)) (sortR_sorted _))
theorem sortR_twice (l : List (List S36)) : sortR (sortR l) = sortR l := (sortR_unique (List.Perm.refl _) (sortR_sorted l)).symm
def nA (l : List (List S36)) : Nat := min l.length 60
theorem nA_if (l : List (List S36)) : (if (60 : Int) < (l.length : Int) then (60 : Int) else (l.length : Int)) = (nA l : Int) := by
  unfold nA
  split <;> omega
theorem C_nA {W : World} {A : Option Addr} {l : List (List S36)} (h : Kd.C (Kd.slice 36 k36) W A l.length l) : Kd.C (Kd.slice 36 k36) W A (nA l) (l.take (nA l)) := by
  have h := Kd.C_take h (m := nA l) (by unfold nA; omega)
  have e : (l.take (nA l)).length = nA l := by rw [List.length_take]; unfold nA; omega
  rw [e] at h
  exact h
theorem len_nA (l : List (List S36)) : (l.take (nA l)).length = nA l := by rw [List.length_take]; unfold nA; omega
theorem k36_heap : Kd.Heap k36 := Kd.heap_iso _ (Kd.heap_pair (Kd.heap_int _) (Kd.heap_pair (Kd.heap_int _) Kd.heap_string))
theorem FK_arg {W w' : World} {A : Option Addr} {n : Nat} {l : List (List S36)} (h : Kd.C (Kd.slice 36 k36) W A n l) (hb : Below W.heap.size W w') (i : Nat) (hi : i < n) :
    ∃ ad A0 c0, A = some ad ∧ w'.cell? (ad.add i) = some (.slice A0 (rd_L3 l (i : Int)).length c0) ∧ Kd.FK (Kd.slice 36 k36) w' (fun k => k < W.heap.size) (rd_L3 l (i : Int)) [.slice A0 (rd_L3 l (i : Int)).length c0] := by
  have hF := Kd.C_F (Kd.heap_slice 36 k36_heap) h
  obtain ⟨ad, c, e, hcl, hK, hcc, _⟩ := Kd.F_get hF ([] : List S36) (i : Int) (by omega) (by omega)
  obtain ⟨A0, c0, rfl, hl, hF2⟩ := Kd.FK_slice_open hK
  have h1 := hcc 0 _ rfl
  have hsz : (Kd.slice 36 k36).sz = 1 := rfl
  rw [hsz, Nat.mul_one, Nat.add_zero, Int.toNat_natCast] at h1
  refine ⟨ad, A0, c0, e, (hb.cell (World.block_lt_of_cell? W _ h1)).trans h1, fun W' hW => hK W' (fun k hk hlt => (hW k hk (Nat.lt_of_lt_of_le hk hb.size)).trans (hb.block k hk))⟩
theorem at_cmp (l : List (List S36)) (w : World) (A : Option Addr) (c : Nat) (h : Kd.C (Kd.slice 36 k36) w A l.length l) (i : Nat) (hi : i < l.length) : ∃ ad A0 c0, A = some ad ∧ w.cell? (ad.add i) = some (.slice A0 l[i].length c0) ∧ l[i].length ≤ c0 ∧ k36.C w A0 l[i].length l[i] := by
  obtain ⟨ad, A0, c0, e, h1, h2, h3⟩ := at_L3 h (i : Int) (by omega) (by omega)
  rw [rd_L3_at l i hi] at h1 h2 h3
  rw [Int.toNat_natCast] at h1
  exact ⟨ad, A0, c0, e, h1, h2, h3⟩
theorem sorted_adj (l : List (List S36)) (i : Nat) (hi : i + 1 < (sortR l).length) : cmpR (sortR l)[i] (sortR l)[i + 1] ≤ 0 := (List.pairwise_iff_getElem.1 (sortR_sorted l)) i (i + 1) (by omega) hi (by omega)
set_option maxHeartbeats 8000000 in
theorem any_law (W : World) (A : Option Addr) (c : Nat) (l : List (List S36)) (hr : Kd.C (Kd.slice 36 k36) W A l.length l) (hc : l.length ≤ c) (hs : ∀ r ∈ l, r.length < 4398046511104) :
    Calls Try.prog 9 #[.slice A l.length c] W fun e w' => e = .returned (.bool true) ∧ Below W.heap.size W w' := by
  have HR : Aside0 (∀ w', Below W.heap.size W w' → Kd.C (Kd.slice 36 k36) w' A (nA l) (l.take (nA l))) := ⟨fun w' hb => C_nA (Kd.C_below hr hb)⟩
  have HR0 := Aside0.mk (C_nA hr)
  have HLE := Aside0.mk (len_nA l)
  have hif := nA_if l
  have hn60 : nA l ≤ 60 := by unfold nA; omega
  have hnc : nA l ≤ c := by unfold nA; omega
  have HS : Aside0 (∀ r ∈ l.take (nA l), r.length < 4398046511104) := ⟨fun r h => hs r (List.mem_of_mem_take h)⟩
  clear hr hs
  generalize hlt : l.take (nA l) = ld at *
  clear hlt
  generalize nA l = nl at *
  have hle := HLE.out
  go_enter Try.func9, Try.ntmps9
  go_wp2_with (go_at_call 10; refine (weathercocklaw02_examples.calls 40 true _ ex_ok).mono ?_; rintro e w1 ⟨rfl, hb⟩; have HB := Aside0.mk hb; clear hb)
  clear hif hle
  go_loopw [4, 5] (fun s4 s5 wr => ∃ z : Int, -1 ≤ z ∧ z < nl ∧ s5 = .int .i64 z ∧ Aside0 (Kd.N (Kd.slice 36 k36) 22 wr W.heap.size (fun _ => True) s4 (ld.drop (z + 1).toNat).reverse) ∧ Aside0 (Below W.heap.size W wr)) (fun _ s5 _ => (intOf s5 + 1).toNat)
  case atStart =>
    refine ⟨(nl : Int) - 1, by omega, by omega, by first | rfl | go_num, ⟨?_⟩, HB⟩
    rw [show ((nl : Int) - 1 + 1).toNat = ld.length by have := HLE.out; omega, List.drop_length]
    exact Kd.N_nil _ _ _ _ _
  case round =>
    clear HB
    obtain ⟨z, hz0, hz1, rfl, HN, HB⟩ := hrel
    obtain ⟨A4, c4, e4⟩ := Kd.N_slice HN.out
    subst e4
    by_cases hz : 0 ≤ z
    · obtain ⟨k, hk⟩ := Int.eq_ofNat_of_zero_le hz
      subst hk
      have hkn : k < nl := by omega
      have hkl : k < ld.length := by have := HLE.out; omega
      obtain ⟨ad, A0, c0, e, hx, hFK⟩ := FK_arg HR0.out HB.out k hkn
      cases e
      have HF := Aside0.mk hFK
      have hbl : ∀ q, (Value.slice A4 ((ld.drop ((k : Int) + 1).toNat).reverse).length c4).ownBlock = some q → W.heap.size ≤ q := Kd.N_base HN.out
      have HBL := Aside0.mk hbl
      have hxs : ((ld.drop ((k : Int) + 1).toNat).reverse).length ≤ 60 := by rw [List.length_reverse, List.length_drop]; have := HLE.out; omega
      have HXS := Aside0.mk hxs
      have HT : Aside0 ((ld.drop ((k : Int) - 1 + 1).toNat).reverse = (ld.drop ((k : Int) + 1).toNat).reverse ++ [rd_L3 ld (k : Int)]) := ⟨by
        rw [show ((k : Int) - 1 + 1).toNat = k by omega, show ((k : Int) + 1).toNat = k + 1 by omega, List.drop_eq_getElem_cons hkl, List.reverse_cons, rd_L3_at ld k hkl]⟩
      clear hFK hbl hxs
      generalize hxx : (ld.drop ((k : Int) + 1).toNat).reverse = xs at *
      clear hxx
      generalize rd_L3 ld (k : Int) = p at *
      go_wp2_with ((with_reducible refine gate_builtin (b := .append) (xs := #[.tmp 24, .tmp 29]) rfl ?_); at_builtin; refine Kd.N_append (Kd.slice 36 k36) (w0 := W) W.heap.size rfl (.tmp 24) (.tmp 29) 34 22 (.slice none 0 0) 24 rfl Try.underlying34 info22 rfl (by decide) (by decide) _ xs p [.slice A0 p.length c0] (fun _ => True) (fun k => k < W.heap.size) (by first | (go_simp; done) | (go_simp; rfl)) (by first | (go_simp; done) | (go_simp; rfl)) ?aP ?aK (fun _ _ => trivial) ?aO ?aB ?aS ?aL ?_; (case aP => exact HF.out); (case aK => exact (fun k hk => ⟨trivial, fun he => by have := HBL.out k he.symm; omega⟩)); (case aO => exact HN.out); (case aB => exact HB.out); (case aS => exact HB.out.size); (case aL => have := HXS.out; omega); intro v1 w1 ho hb hg hat; have HN1 := Aside0.mk ho; have HB1 := Aside0.mk hb; clear ho hb hg hat)
      go_roundw
      case rel => exact ⟨(k : Int) - 1, by omega, by omega, by first | rfl | go_num, ⟨by rw [HT.out]; exact HN1.out⟩, HB1⟩
      case measure => (simp [intOf] <;> omega)
    · have hzz : z = -1 := by omega
      have HZ : Aside0 ((ld.drop (z + 1).toNat).reverse = ld.reverse) := ⟨by rw [hzz]; rfl⟩
      rw [HZ.out] at HN ⊢
      have hlr : ld.reverse.length = nl := by rw [List.length_reverse]; exact HLE.out
      rw [hlr]
      obtain ⟨_, hc4, hC4⟩ := Kd.N_reads' HN.out
      have HC4 := Aside0.mk hC4
      have HC4' := Aside0.mk hc4
      clear hC4 HN HZ hlr
      have h1 := sort_any A c ld wr (by rw [HLE.out]; exact HR.out _ HB.out) (by rw [HLE.out]; exact hnc) HS.out (by rw [HLE.out]; omega)
      rw [HLE.out] at h1
      have HLR : Aside0 (ld.reverse.length = nl) := ⟨by rw [List.length_reverse]; exact HLE.out⟩
      have HSR : Aside0 (sortR ld.reverse = sortR ld) := ⟨sortR_rev ld⟩
      have HSRR : Aside0 (∀ r ∈ ld.reverse, r.length < 4398046511104) := ⟨fun r hr => HS.out r (List.mem_reverse.1 hr)⟩
      obtain ⟨sl, hsl⟩ : ∃ sl, sl = sortR ld := ⟨_, rfl⟩
      have HSL : Aside0 (sl.length = nl) := ⟨by rw [hsl, sortR_len]; exact HLE.out⟩
      have HSS : Aside0 (∀ r ∈ sl, r.length < 4398046511104) := ⟨by rw [hsl]; exact sortR_all ld HS.out⟩
      have HAD : Aside0 (∀ i (hi : i + 1 < sl.length), cmpR sl[i] sl[i + 1] ≤ 0) := ⟨by rw [hsl]; exact fun i hi => sorted_adj ld i hi⟩
      have HSQ : Aside0 (sortR sl = sl) := ⟨by rw [hsl]; exact sortR_twice ld⟩
      rw [← hsl] at h1 HSR
      clear hsl
      have H1 := Aside0.mk h1
      clear h1 hzz hz0 hz1
      go_wp2_with fail
      refine H1.out.mono ?_
      rintro e w6 ⟨v6, rfl, h2, hb6⟩
      obtain ⟨A6, c6, e6, hc6, hC6⟩ := Kd.R_reads h2
      subst e6
      rw [HSL.out] at hc6 hC6 ⊢
      have HC6 := Aside0.mk hC6
      have HC46 := Aside0.mk (Kd.C_below HC4.out hb6)
      have HB6 := Aside0.mk (below_step HB.out hb6)
      clear h2 hb6 hC6 H1 HB HC4
      have h3 := sort_any A4 c4 ld.reverse w6 HC46.out HC4'.out HSRR.out (by rw [HLR.out]; omega)
      rw [HLR.out, HSR.out] at h3
      have H3 := Aside0.mk h3
      clear h3
      go_wp2_with fail
      refine H3.out.mono ?_
      rintro e w7 ⟨v7, rfl, h2, hb7⟩
      obtain ⟨A7, c7, e7, hc7, hC7⟩ := Kd.R_reads h2
      subst e7
      rw [HSL.out] at hc7 hC7 ⊢
      have HC67 := Aside0.mk (Kd.C_below HC6.out hb7)
      have HB7 := Aside0.mk (below_step HB6.out hb7)
      have h4 := rows_same A6 c6 A7 c7 sl w7 (by rw [HSL.out]; exact HC67.out) (by rw [HSL.out]; exact hc6) (by rw [HSL.out]; exact hC7) (by rw [HSL.out]; exact hc7) HSS.out (by rw [HSL.out]; omega)
      rw [HSL.out] at h4
      have H4 := Aside0.mk h4
      clear h4 hC7 h2 hb7 H3 HB6 HC6 HC46
      go_wp2_with fail
      refine H4.out.mono ?_
      rintro e w8 ⟨rfl, hd8⟩
      have HC68 := Aside0.mk (Kd.C_below HC67.out hd8.below)
      have HB8 := Aside0.mk (below_step HB7.out hd8.below)
      clear H4 hd8 HC67 HB7
      have h5 := sort_any A6 c6 sl w8 (by rw [HSL.out]; exact HC68.out) (by rw [HSL.out]; exact hc6) HSS.out (by rw [HSL.out]; omega)
      rw [HSQ.out, HSL.out] at h5
      have H5 := Aside0.mk h5
      clear h5
      go_wp2_with fail
      refine H5.out.mono ?_
      rintro e w9 ⟨v9, rfl, h2, hb9⟩
      obtain ⟨A9, c9, e9, hc9, hC9⟩ := Kd.R_reads h2
      subst e9
      rw [HSL.out] at hc9 hC9 ⊢
      have HC69 := Aside0.mk (Kd.C_below HC68.out hb9)
      have HB9 := Aside0.mk (below_step HB8.out hb9)
      have h6 := rows_same A9 c9 A6 c6 sl w9 (by rw [HSL.out]; exact hC9) (by rw [HSL.out]; exact hc9) (by rw [HSL.out]; exact HC69.out) (by rw [HSL.out]; exact hc6) HSS.out (by rw [HSL.out]; omega)
      rw [HSL.out] at h6
      have H6 := Aside0.mk h6
      clear h6 hC9 h2 hb9 H5 HB8 HC68
      go_wp2_with fail
      refine H6.out.mono ?_
      rintro e wa ⟨rfl, hda⟩
      have HCA := Aside0.mk (Kd.C_below HC69.out hda.below)
      have HBA := Aside0.mk (below_step HB9.out hda.below)
      clear H6 hda HC69 HB9
      go_wp2
      go_loopw [10] (fun s10 wr => ∃ m : Nat, 1 ≤ m ∧ m ≤ nl + 1 ∧ s10 = .int .i64 m ∧ Aside0 (Below wa.heap.size wa wr)) (fun m _ => nl - (intOf m).toNat)
      case atStart => exact ⟨1, Nat.le_refl _, by omega, rfl, ⟨Below.refl _ _⟩⟩
      case round =>
        obtain ⟨m, hm1, hmn, rfl, HBW⟩ := hrel
        by_cases hlt : m < nl
        · obtain ⟨i, hi⟩ : ∃ i, i + 1 = m := ⟨m - 1, by omega⟩
          have HI := Aside0.mk hi
          have hil : i + 1 < sl.length := by rw [HSL.out]; omega
          obtain ⟨ad, B0, b0, e, hx0, hb0, hD0⟩ := at_cmp sl wr A6 c6 (by rw [HSL.out]; exact Kd.C_below HCA.out HBW.out) i (by omega)
          cases e
          obtain ⟨ad2, B1, b1, e, hx1, hb1, hD1⟩ := at_cmp sl wr (some ad) c6 (by rw [HSL.out]; exact Kd.C_below HCA.out HBW.out) (i + 1) hil
          cases e
          replace hx1 : wr.cell? (ad.add m) = some (.slice B1 sl[i + 1].length b1) := by rw [← HI.out]; exact hx1
          have hz := HAD.out i hil
          have HCM : Aside0 (∀ (d : Nat) (os : Array Obj), Calls Try.prog 18 #[.slice B0 sl[i].length b0, .slice B1 sl[i + 1].length b1] (Go.Sort.grow (redrawn wr d) os) fun e w'' => e = .returned (.int .i64 (cmpR sl[i] sl[i + 1])) ∧ ∃ p : Regrown, w'' = Go.Sort.grow (redrawn wr p.d) p.os) := ⟨fun d os => Calls.regrown_of (row_Compare.calls B0 b0 sl[i] B1 b1 sl[i + 1] _ _ (Kd.C_below hD0 (below_regrown wr d os)) hb0 (Kd.C_below hD1 (below_regrown wr d os)) hb1 rfl)⟩
          have la := fun d os => cell_regrown hx0 d os
          have lb := fun d os => cell_regrown hx1 d os
          clear hx0 hx1 hD0 hD1
          generalize sl[i].length = n0 at *
          generalize sl[i + 1].length = n1 at *
          generalize cmpR sl[i] sl[i + 1] = cz at *
          have ea : ((m : Int) - 1).toNat = i := by omega
          have pa : (0 : Int) ≤ (m : Int) - 1 := by omega
          have pb : (1 : Int) ≤ (m : Int) := by omega
          have ba : (m : Int) - 1 < (nl : Int) := by omega
          have bb : (m : Int) ≤ (nl : Int) := by omega
          have bc : m ≤ nl := by omega
          have ra : IntKind.i64.wrap ((m : Int) - 1) = (m : Int) - 1 := by rw [IntKind.wrap_i64]; omega
          have hd1 : decide (cz > 0) = false := decide_eq_false (by omega)
          have hd2 : ¬ (0 < cz) := by omega
          have mixed : Try.prog.follows Departure.mixedOrders = true := by kernel_rfl
          clear hi hz
          go_wp2_with fail
          refine wp_region_quiet_below (by assumption) (by kernel_rfl) ?_
          repeat (quiet_step (first | (go_at_call 18; refine HCM.out _ _)))
          refine wpQuiet_nil ?_
          intro _ hw'
          obtain ⟨⟨nq, osq⟩, hw''⟩ := hw'
          subst hw''
          have HB2 : Aside0 (Below wa.heap.size wa (Go.Sort.grow (redrawn wr nq) osq)) := ⟨below_step HBW.out (below_regrown wr nq osq)⟩
          clear la lb HCM ea pa pb ba bb ra
          generalize Go.Sort.grow (redrawn wr nq) osq = w2 at HB2 ⊢
          clear nq osq
          go_wp2
          go_roundw
          case rel => exact ⟨m + 1, by omega, by omega, by go_num, HB2⟩
          case measure => simp [intOf]; omega
        · go_wp2
          go_ret
          exact ⟨rfl, below_step HBA.out HBW.out⟩
/- The law RowAny over arguments as they are read. -/
theorem any_row (W : World) (A : Option Addr) (c : Nat) (l : List (List S36)) (hr : Kd.C (Kd.slice 36 k36) W A l.length l) (hc : l.length ≤ c) (hw : (∀ y ∈ l, (∀ x ∈ y, (Lit.int .i64 x.f0).wf = true ∧ (Lit.int .i64 x.f1).wf = true ∧ x.f2.size ≤ 140737488351232) ∧ y.length * 32 ≤ 140737488351232 ∧ y.length ≤ maxLen) ∧ l.length * 24 ≤ 140737488351232 ∧ l.length ≤ maxLen) :
    Calls Try.prog 9 #[.slice A l.length c] W fun e w' => e = .returned (.bool true) ∧ Below W.heap.size W w' :=
  any_law W A c l hr hc (fun r h => by have := (hw.1 r h).2.1; omega)

end Go.Proofs.Ytplmfnjijhppaaa.QRowSorts
