import Derived.Test.YtplmfnjijhppaaaRF
/- Row's sort, and the laws over it: walks by hand; the conditions stand in each theorem. -/
namespace Go.Proofs.Ytplmfnjijhppaaa.QRowSorts
open Go.RowKit Go.Proofs.YtplmfnjijhppaaaW.PrintWords Go.Proofs.YtplmfnjijhppaaaW.PrintLast Go.Proofs.YtplmfnjijhppaaaW.PrintMore
attribute [local go_sem] max2_int min2_int max_two min_two max_three min_three max_four min_four
set_option linter.unusedVariables false
set_option linter.unusedSimpArgs false
theorem refCompare_ok (a b : List S36) (ha : a.length < 4611686018427387904) : ∃ k, weathercockref02_Compare.f k a b = some (cmpR a b) := (refCmp_ev a b ha).rounds
theorem filled_len (l : List S36) : ([] : List S36) ++ l = l := rfl
theorem store3 {w : World} {g e : Nat} {cc : Array Value} (h : w.heap[g]? = some (.cells cc e (0, 0))) (o : Nat) (ho : o + 2 < cc.size) (x y : Value) :
    w.frozen? ⟨g, o, none⟩ = false ∧ (∃ u, w.cell? ⟨g, o, none⟩ = some u) ∧ (w.setCell ⟨g, o, none⟩ x).frozen? ⟨g, o + 1, none⟩ = false ∧ (∃ u, (w.setCell ⟨g, o, none⟩ x).cell? ⟨g, o + 1, none⟩ = some u) ∧ ((w.setCell ⟨g, o, none⟩ x).setCell ⟨g, o + 1, none⟩ y).frozen? ⟨g, o + 2, none⟩ = false ∧ (∃ u, ((w.setCell ⟨g, o, none⟩ x).setCell ⟨g, o + 1, none⟩ y).cell? ⟨g, o + 2, none⟩ = some u) := by
  have h1 := blk_set h o x
  have h2 := blk_set h1 (o + 1) y
  exact ⟨blk_frozen h o, ⟨_, (blk_cell h o).trans (Array.getElem?_eq_getElem (by omega))⟩, blk_frozen h1 _, ⟨_, (blk_cell h1 _).trans (Array.getElem?_eq_getElem (by simp; omega))⟩, blk_frozen h2 _, ⟨_, (blk_cell h2 _).trans (Array.getElem?_eq_getElem (by simp; omega))⟩⟩
set_option maxHeartbeats 16000000 in
theorem sorts_law (W : World) (A : Option Addr) (c : Nat) (l : List (List S36)) (Aa : Option Addr) (ca : Nat) (a : List S36) (Ab : Option Addr) (cb : Nat) (b : List S36)
    (hr : Kd.C (Kd.slice 36 k36) W A l.length l) (hc : l.length ≤ c) (hra : Kd.C k36 W Aa a.length a) (hca : a.length ≤ ca) (hrb : Kd.C k36 W Ab b.length b) (hcb : b.length ≤ cb)
    (hs : ∀ r ∈ l, r.length ≤ 1048576) (ha : ∀ x ∈ a, x.f2.size ≤ 1048576) (hal : a.length ≤ 1048576) :
    Calls Try.prog 8 #[.slice A l.length c, .slice Aa a.length ca, .slice Ab b.length cb] W fun e w' => e = .returned (.bool true) ∧ Below W.heap.size W w' := by
  have HR : Aside0 (∀ w', Below W.heap.size W w' → Kd.C (Kd.slice 36 k36) w' A (nB l) (l.take (nB l))) := ⟨fun w' hb => C_nB (Kd.C_below hr hb)⟩
  have HLE := Aside0.mk (len_nB l)
  have hif := nB_if l
  have hn100 : nB l ≤ 100 := by unfold nB; omega
  have hnc : nB l ≤ c := by unfold nB; omega
  have HS : Aside0 (∀ r ∈ l.take (nB l), r.length ≤ 1048576) := ⟨fun r h => hs r (List.mem_of_mem_take h)⟩
  obtain ⟨kc, hkc⟩ := refCompare_ok a b (by omega)
  obtain ⟨kh, hkh⟩ := refHash_ok a (fun x hx => by have := ha x hx; omega) (by omega)
  have hrh := rowHash_ok a (fun x hx => by have := ha x hx; omega)
  have HAB : Aside0 (∀ w', Below W.heap.size W w' → Kd.C k36 w' Aa a.length a ∧ Kd.C k36 w' Ab b.length b) := ⟨fun w' hb => ⟨Kd.C_below hra hb, Kd.C_below hrb hb⟩⟩
  have HQ := Aside0.mk (And.intro hkc (And.intro hkh hrh))
  clear hr hs hra hrb ha hkc hkh hrh
  generalize hlt : l.take (nB l) = ld at *
  clear hlt
  generalize nB l = nl at *
  have hle := HLE.out
  go_enter Try.func8, Try.ntmps8
  go_wp2_with (go_at_call 10; refine (weathercocklaw02_examples.calls 40 true _ ex_ok).mono ?_; rintro e w1 ⟨rfl, hb⟩; have HB := Aside0.mk hb; clear hb)
  clear hif hle
  go_loopw [8, 9] (fun s8 s9 wr => ∃ m : Nat, m ≤ nl ∧ s9 = .int .i64 m ∧ Aside0 (Kd.R (Kd.slice 36 k36) 22 wr W.heap.size (fun _ => True) s8 (ld.take m)) ∧ Aside0 (Below W.heap.size W wr)) (fun _ s9 _ => nl - (intOf s9).toNat)
  case atStart => exact ⟨0, Nat.zero_le _, rfl, ⟨Kd.R_nil _ _ _ _ _⟩, HB⟩
  case round =>
    clear HB
    obtain ⟨m, hm, rfl, HO, HB⟩ := hrel
    obtain ⟨A8, c8, e8⟩ := Kd.R_slice HO.out
    subst e8
    by_cases hlt : m < nl
    · have hml : m < ld.length := by have := HLE.out; omega
      obtain ⟨ad, A0, c0, e, hx, hl0, hC0⟩ := at_cmp ld wr A nl (by rw [HLE.out]; exact HR.out wr HB.out) m hml
      cases e
      have HC0 := Aside0.mk hC0
      have HRL : Aside0 (ld[m].length ≤ 1048576) := ⟨HS.out _ (List.getElem_mem hml)⟩
      have HT := Aside0.mk (List.take_succ_eq_append_getElem hml)
      have HXS : Aside0 ((ld.take m).length ≤ 100) := ⟨by rw [List.length_take]; omega⟩
      have HLT := Aside0.mk (Kd.R_lt HO.out)
      clear hC0 hl0
      generalize hxx : ld.take m = xs at *
      clear hxx
      generalize ld[m] = p at *
      go_wp2_with (first
        | ((with_reducible refine gate_builtin (b := .append) (xs := #[.const (.slice none 0 0), .tmp 33]) rfl ?_); at_builtin; refine Kd.R_append_rows k36 (w0 := W) (Rr := k36.K wr) W.heap.size rfl (.const (.slice none 0 0)) (.tmp 33) 22 36 (.agg #[(.int .i64 0), (.int .i64 0), (.string ⟨#[]⟩)]) 32 rfl Try.underlying22 info36 rfl (by decide) (by decide) _ ([] : List S36) p A0 p.length c0 (fun k => wr.heap.size ≤ k) (fun _ => False) (by first | (go_simp; done) | (go_simp; rfl)) (by first | (go_simp; done) | (go_simp; rfl)) ?aO ?aR ?aK (fun _ hk => hk.elim) (fun _ hk => hk) ?aB ?aS ?aL ?_; (case aO => exact Kd.R_nil _ _ _ _ _); (case aR => exact HC0.out); (case aK => exact (fun x cs hx => by rw [k36_open hx]; exact k36_mkM _ _ _ x)); (case aB => exact HB.out); (case aS => exact HB.out.size); (case aL => have := HRL.out; simp only [List.length_nil]; omega); intro v34 w34 ho hb hg hat; have HO34 := Aside0.mk ho; have HB34 := Aside0.mk hb; have HO2 := Aside0.mk (Kd.R_grown HO.out hg (fun k _ => by simp [Value.ownBlock])); obtain ⟨A34, c34, e34⟩ := Kd.R_slice ho; subst e34; clear ho hb hg hat)
        | ((with_reducible refine gate_builtin (b := .append) (xs := #[.tmp 29, .tmp 35]) rfl ?_); at_builtin; refine Kd.R_append (Kd.slice 36 k36) (w0 := W) W.heap.size rfl (.tmp 29) (.tmp 35) 34 22 (.slice none 0 0) 24 rfl Try.underlying34 info22 rfl (by decide) (by decide) _ xs p [.slice A34 p.length c34] (fun _ => True) (fun k => wr.heap.size ≤ k) (by first | (go_simp; done) | (go_simp; rfl)) (by first | (go_simp; done) | (go_simp; rfl)) ?bP ?bK (fun _ _ => trivial) ?bO ?bB ?bS ?bL ?_; (case bP => exact ⟨_, rfl, HO34.out⟩); (case bK => exact (fun k hk => ⟨trivial, fun he => by have := HLT.out k he.symm; omega⟩)); (case bO => exact HO2.out); (case bB => exact HB34.out); (case bS => exact HB34.out.size); (case bL => have := HXS.out; omega); intro v1 w2 ho hb hg hat; have HN1 := Aside0.mk ho; have HB1 := Aside0.mk hb; clear ho hb hg hat))
      go_roundw
      case rel => exact ⟨m + 1, by omega, by go_num, ⟨by rw [HT.out]; exact HN1.out⟩, HB1⟩
      case measure => simp [intOf]; omega
    · have hmn : m = nl := by omega
      subst hmn
      have HTK : Aside0 (ld.take m = ld) := ⟨List.take_of_length_le (by have := HLE.out; omega)⟩
      rw [HTK.out] at HO ⊢
      rw [HLE.out]
      obtain ⟨_, hc8, hC8⟩ := Kd.R_reads' HO.out
      rw [HLE.out] at hC8 hc8
      have HC8 := Aside0.mk hC8
      have hs2 : ∀ r ∈ ld, r.length < 4398046511104 := fun r hr => by have := HS.out r hr; omega
      have HS2 := Aside0.mk hs2
      obtain ⟨sl, hsl⟩ : ∃ sl, sl = sortR ld := ⟨_, rfl⟩
      have HSL : Aside0 (sl.length = m) := ⟨by rw [hsl, sortR_len]; exact HLE.out⟩
      have HSS : Aside0 (∀ r ∈ sl, r.length < 4398046511104) := ⟨by rw [hsl]; exact sortR_all ld hs2⟩
      obtain ⟨ks, hks⟩ := refSort_ok ld hs2 (by have := HLE.out; omega)
      have h1 := weathercockref02_Sort.calls ks A c ld (sortR ld) wr (by rw [HLE.out]; exact HR.out wr HB.out) (by rw [HLE.out]; exact hnc) hks
      rw [HLE.out, ← hsl] at h1
      have H1 := Aside0.mk h1
      have HSE := Aside0.mk hsl
      clear h1 hks hs2 hsl hC8 HO HTK hlt
      go_wp2_with fail
      refine H1.out.mono ?_
      rintro e wt ⟨v10, rfl, h2, hbt⟩
      obtain ⟨A10, c10, e10, hc10, hC10⟩ := Kd.N_reads h2
      subst e10
      rw [HSL.out] at hc10 hC10 ⊢
      have HC10 := Aside0.mk hC10
      have HC8t := Aside0.mk (Kd.C_below HC8.out hbt)
      have HBt := Aside0.mk (below_step HB.out hbt)
      clear h2 hbt hC10 H1 HB HC8
      go_wp2
      go_loopw [11] (fun s11 wr => ∃ t : Nat, t ≤ 2 ∧ s11 = .int .i64 t ∧ Aside0 (Below wt.heap.size wt wr)) (fun s11 _ => 2 - (intOf s11).toNat)
      case atStart => exact ⟨0, by omega, rfl, ⟨Below.refl _ _⟩⟩
      case round =>
        obtain ⟨t, ht, rfl, HBr⟩ := hrel
        generalize hwb : wr = wb at *
        clear hwb
        by_cases htt : t < 2
        · have h3 := sort_any A8 c8 ld wb (by rw [HLE.out]; exact Kd.C_below HC8t.out HBr.out) (by rw [HLE.out]; exact hc8) HS2.out (by rw [HLE.out]; omega)
          rw [HLE.out, ← HSE.out] at h3
          have H3 := Aside0.mk h3
          clear h3
          go_wp2_with fail
          refine H3.out.mono ?_
          rintro e w3 ⟨v12, rfl, h2, hb3⟩
          have HRO := Aside0.mk h2
          obtain ⟨A12, c12, e12, hc12, hC12⟩ := Kd.R_reads h2
          subst e12
          rw [HSL.out] at hc12 hC12 ⊢
          have h4 := rows_same A12 c12 A10 c10 sl w3 (by rw [HSL.out]; exact hC12) (by rw [HSL.out]; exact hc12) (by rw [HSL.out]; exact Kd.C_below (Kd.C_below HC10.out HBr.out) hb3) (by rw [HSL.out]; exact hc10) HSS.out (by rw [HSL.out]; omega)
          rw [HSL.out] at h4
          have H4 := Aside0.mk h4
          have HB3 := Aside0.mk hb3
          clear h4 h2 hC12 H3 hb3
          go_wp2_with fail
          refine H4.out.mono ?_
          rintro e w4 ⟨rfl, hd4⟩
          have HB4 := Aside0.mk (below_step HB3.out hd4.below)
          have HRO4 := Aside0.mk (Kd.R_below HRO.out hd4.below)
          clear H4 hd4 HB3 HRO
          obtain ⟨g, hd, HHN, HA12, HOK⟩ : ∃ (g : Nat) (hd : Nat → Hdr), Aside0 (∀ i, i < m → (hd i).n < 4398046511104) ∧ Aside0 (0 < m → A12 = some ⟨g, 0, none⟩) ∧ Aside0 (0 < m → OutOk wb.heap.size g hd m w4) := by
            by_cases hm0 : 0 < m
            · obtain ⟨g, cap, hd, e1, _, h5, h6⟩ := out_of_R HRO4.out (by rw [HSL.out]; exact hm0)
              injection e1 with e1
              rw [HSL.out] at h5
              exact ⟨g, hd, ⟨fun i hi => by rw [h6 i (by rw [HSL.out]; exact hi)]; exact HSS.out _ (List.getElem_mem _)⟩, ⟨fun _ => e1⟩, ⟨fun _ => h5⟩⟩
            · exact ⟨0, fun _ => ⟨none, 0, 0⟩, ⟨fun i hi => by show (0 : Nat) < _; omega⟩, ⟨fun h => absurd h hm0⟩, ⟨fun h => absurd h hm0⟩⟩
          clear HRO4
          go_wp2
          go_loopw [14] (fun s14 ws => ∃ i : Nat, i ≤ m ∧ s14 = .int .i64 i ∧ Aside0 (0 < m → OutOk wb.heap.size g hd m ws) ∧ Aside0 (Below wb.heap.size wb ws)) (fun s14 _ => m - (intOf s14).toNat)
          case atStart => exact ⟨0, Nat.zero_le _, rfl, HOK, HB4⟩
          case round =>
            clear HOK HB4
            obtain ⟨i, hi, rfl, HOK, HBs⟩ := hrel
            by_cases him : i < m
            · have hm0 : 0 < m := by omega
              have hAe := HA12.out hm0
              have hhn := HHN.out i him
              subst hAe
              go_wp2_with fail
              go_loopw [15] (fun s15 wq => ∃ k : Nat, k ≤ (hd i).n ∧ s15 = .int .i64 k ∧ Aside0 (OutOk wb.heap.size g hd m wq) ∧ Aside0 (Below wb.heap.size wb wq)) (fun s15 _ => (hd i).n - (intOf s15).toNat)
              case atStart => exact ⟨0, Nat.zero_le _, rfl, ⟨HOK.out hm0⟩, HBs⟩
              case round =>
                clear HOK HBs
                obtain ⟨k, hk, rfl, HOK, HBq⟩ := hrel
                obtain ⟨_, ⟨oc, hg0, hoc⟩, hin⟩ := HOK.out
                obtain ⟨hnci, hgi⟩ := hin i him
                have hcl := (blk_cell hg0 i).trans (hoc i him)
                have HG0 := Aside0.mk hgi
                clear hin hoc hg0 hgi
                by_cases hkn : k < (hd i).n
                · obtain ⟨gi, e1, e2, e3, cc, e4, e5⟩ := HG0.out (by omega)
                  rw [e1] at hcl
                  have HGI := Aside0.mk (And.intro e2 (And.intro e3 (And.intro e4 e5)))
                  clear e1 e2 e3 e4 e5 HG0
                  go_wp2_with ((with_reducible refine gate_store (t := 36) (p := 71) rfl ?_); (refine store_event (t := 36) (p := 71) (v := .tmp 70) (w1 := wr.setCells gi (k * 3) [.int .i64 9, .int .i64 0, .string (⟨#[]⟩ : ByteArray)]) rfl rfl rfl ?hrS ?_; (case hrS => (obtain ⟨f0, ⟨u0, c0'⟩, f1, ⟨u1, c1'⟩, f2, ⟨u2, c2'⟩⟩ := store3 HGI.out.2.2.1 (k * 3) (by have := HGI.out.2.2.2; omega) (.int .i64 9) (.int .i64 0)); simp only [execOp]; go_simp; rfl); intro w9 hw9; have HW9 := Aside0.mk hw9; clear hw9))
                  go_roundw
                  case rel => exact ⟨k + 1, by omega, by go_num, ⟨by rw [HW9.out]; exact HOK.out.store HGI.out.2.1 HGI.out.2.2.1 _ (by have := HGI.out.2.2.2; simp only [List.length_cons, List.length_nil]; omega)⟩, ⟨by rw [HW9.out]; exact below_cells HBq.out HGI.out.1⟩⟩
                  case measure => simp [intOf]; omega
                · go_wp2
                  go_roundw
                  case rel => exact ⟨i + 1, by omega, by go_num, ⟨fun _ => HOK.out⟩, HBq⟩
                  case measure => simp [intOf]; omega
            · go_wp2
              go_roundw
              case rel => exact ⟨t + 1, by omega, by go_num, ⟨below_step HBr.out HBs.out⟩⟩
              case measure => simp [intOf]; omega
        · have h5 := rows_same A8 c8 A c ld wb (by rw [HLE.out]; exact Kd.C_below HC8t.out HBr.out) (by rw [HLE.out]; exact hc8) (by rw [HLE.out]; exact HR.out _ (below_step HBt.out HBr.out)) (by rw [HLE.out]; exact hnc) HS2.out (by rw [HLE.out]; omega)
          rw [HLE.out] at h5
          have H5 := Aside0.mk h5
          have HBb := Aside0.mk (below_step HBt.out HBr.out)
          clear h5
          go_wp2_with fail
          refine H5.out.mono ?_
          rintro e w6 ⟨rfl, hd6⟩
          have HB6 := Aside0.mk (below_step HBb.out hd6.below)
          clear H5 hd6 HBb
          go_wp2_with (first
            | (go_at_call 19; refine (row_Hash.calls Aa ca a (hashR a) _ (HAB.out _ HB6.out).1 hca HQ.out.2.2).mono ?_; rintro e w7 ⟨rfl, hb⟩; have HB7 := Aside0.mk (below_step HB6.out hb); clear hb)
            | (go_at_call 22; refine (weathercockref02_Hash.calls kh Aa ca a (hashR a) _ (HAB.out _ HB7.out).1 hca HQ.out.2.1).mono ?_; rintro e w8 ⟨rfl, hb⟩; have HB8 := Aside0.mk (below_step HB7.out hb); clear hb)
            | (go_at_call 18; refine (row_Compare.calls Aa ca a Ab cb b (cmpR a b) _ (HAB.out _ HB8.out).1 hca (HAB.out _ HB8.out).2 hcb rfl).mono ?_; rintro e w9 ⟨rfl, hb⟩; have HB9 := Aside0.mk (below_step HB8.out hb); clear hb)
            | (go_at_call 23; refine (weathercockref02_Compare.calls kc Aa ca a Ab cb b (cmpR a b) _ (HAB.out _ HB9.out).1 hca (HAB.out _ HB9.out).2 hcb HQ.out.1).mono ?_; rintro e wa ⟨rfl, hb⟩; have HBa := Aside0.mk (below_step HB9.out hb); clear hb))
          go_ret
          exact ⟨rfl, HBa.out⟩
/- The law RowSorts over arguments as they are read, of bulk at most 1048576. -/
theorem sorts_row (W : World) (A : Option Addr) (c : Nat) (l : List (List S36)) (Aa : Option Addr) (ca : Nat) (a : List S36) (Ab : Option Addr) (cb : Nat) (b : List S36)
    (hr : Kd.C (Kd.slice 36 k36) W A l.length l) (hc : l.length ≤ c) (hw : (∀ y ∈ l, (∀ x ∈ y, (Lit.int .i64 x.f0).wf = true ∧ (Lit.int .i64 x.f1).wf = true ∧ x.f2.size ≤ 1048576) ∧ y.length * 32 ≤ 140737488351232 ∧ y.length ≤ 1048576) ∧ l.length * 24 ≤ 140737488351232 ∧ l.length ≤ 1048576)
    (hra : Kd.C k36 W Aa a.length a) (hca : a.length ≤ ca) (hwa : (∀ x ∈ a, (Lit.int .i64 x.f0).wf = true ∧ (Lit.int .i64 x.f1).wf = true ∧ x.f2.size ≤ 1048576) ∧ a.length * 32 ≤ 140737488351232 ∧ a.length ≤ 1048576)
    (hrb : Kd.C k36 W Ab b.length b) (hcb : b.length ≤ cb) (hwb : (∀ x ∈ b, (Lit.int .i64 x.f0).wf = true ∧ (Lit.int .i64 x.f1).wf = true ∧ x.f2.size ≤ 1048576) ∧ b.length * 32 ≤ 140737488351232 ∧ b.length ≤ 1048576) :
    Calls Try.prog 8 #[.slice A l.length c, .slice Aa a.length ca, .slice Ab b.length cb] W fun e w' => e = .returned (.bool true) ∧ Below W.heap.size W w' :=
  sorts_law W A c l Aa ca a Ab cb b hr hc hra hca hrb hcb (fun r h => (hw.1 r h).2.2) (fun x h => (hwa.1 x h).2.2) hwa.2.2

end Go.Proofs.Ytplmfnjijhppaaa.QRowSorts
