import Derived.Test.YtkogfjphpklioaaStQ
/- Store: walks by hand; the conditions stand in each theorem. -/
namespace Go.Proofs.Ytkogfjphpklioaa.QStoreNames
open Go.RowKit Go.Proofs.YtkogfjphpklioaaW.PrintWords Go.Proofs.YtkogfjphpklioaaW.PrintLast Go.Proofs.YtkogfjphpklioaaW.PrintMore
attribute [local go_sem] max2_int min2_int max_two min_two max_three min_three max_four min_four
set_option linter.unusedVariables false
set_option linter.unusedSimpArgs false
theorem six_ways (x : Int) : x % 6 = 0 ∨ x % 6 = 1 ∨ x % 6 = 2 ∨ x % 6 = 3 ∨ x % 6 = 4 ∨ x % 6 = 5 := by omega
set_option maxRecDepth 8000 in
set_option maxHeartbeats 8000000 in
theorem spoils_walk (W : World) (A : Option Addr) (c : Nat) (l : List S33) (a h : Int) (hw : ShB W) (hr : Kd.C k33 W A l.length l) (hc : l.length ≤ c) (ho : ∀ t ∈ l, okT t) (hq : rightB l = true) (hz : ¬ l.length = 0) (ha : (Lit.int .i64 a).wf = true) (hh : (Lit.int .i64 h).wf = true) :
    Calls Try.prog 5 #[.slice A l.length c, .int .i64 a, .int .i64 h] W fun e w' => e = .returned (.bool true) ∧ Below W.heap.size W w' := by
  obtain ⟨hl8, hls⟩ := rightB_sizes hq
  have hl62 : l.length ≤ 4611686018427387904 := by omega
  obtain ⟨a2, ha2, ea, eb⟩ := i64_sgn ha
  obtain ⟨h2, hh2, ec, ed⟩ := i64_sgn hh
  have hz2 : ¬ ((l.length : Int) = 0) := fun e => hz (by exact_mod_cast e)
  obtain ⟨i, ei, hi⟩ := idx_of a2 hz
  have HW := Aside0.mk hw
  have HR := Aside0.mk hr
  have HO := Aside0.mk ho
  have HC := Aside0.mk hc
  have HX := Aside0.mk (fun w (hb : Below W.heap.size W w) => store_Right A c l w (Kd.C_below HR.out hb) (HW.out.on hb) hl62 HO.out)
  rw [hq] at HX
  have HF := Aside0.mk (Kd.C_F heap33 hr)
  obtain ⟨ad, A1, c1, A2, c2, e, hx0, hx1, hx2, hc1, hC1, hc2, hC2⟩ := at33 hr i hi
  cases e
  have X0 := Aside0.mk hx0
  have X1 := Aside0.mk hx1
  have X2 := Aside0.mk hx2
  have HC1 := Aside0.mk (Kd.C_F heap38 hC1)
  have HC2 := Aside0.mk (Kd.C_F (Kd.heap_slice 36 heap36) hC2)
  have EA := Aside0.mk ea
  have EB := Aside0.mk eb
  have EC := Aside0.mk ec
  have ED := Aside0.mk ed
  have HT : Aside0 (l[i].f1.length ≤ 6 ∧ l[i].f2.length ≤ 20 ∧ ∀ r ∈ l[i].f2, r.length ≤ 6) := ⟨hls _ (List.getElem_mem hi)⟩
  have HLI : Aside0 (l[i]? = some l[i]) := ⟨List.getElem?_eq_getElem hi⟩
  clear hw hr ho ha hh hc ea eb ec ed hls hx0 hx1 hx2 hC1 hC2
  generalize l[i] = t at *
  go_enter Try.func5, Try.ntmps5
  go_upto_if 25 with (first | (go_at_call 8; refine (examples_true W HW.out).mono ?_; rintro e w1 ⟨rfl, hb⟩; have HB1 := Aside0.mk hb; clear hb) | (go_at_call 11; refine (HX.out _ HB1.out).mono ?_; rintro e w2 ⟨rfl, hb⟩; have HB2 := Aside0.mk (below_step HB1.out hb); clear hb HX HB1))
  go_cut [1] (fun s1 wx => s1 = .int .i64 a2 ∧ w2 = wx)
  case first =>
    as_aux_lemma =>
      by_cases hn : a < 0
      · obtain ⟨a1, e1, e2⟩ := EB.out hn
        go_wp2_with fail
        go_meet
        exact ⟨rfl, rfl⟩
      · have e1 := EA.out (by omega)
        subst e1
        go_wp2_with fail
        go_meet
        exact ⟨rfl, rfl⟩
  case rest =>
  obtain ⟨rfl, rfl⟩ := hcut
  go_upto_if 30 with fail
  go_cut [2] (fun s2 wx => s2 = .int .i64 h2 ∧ w2 = wx)
  case first =>
    as_aux_lemma =>
      by_cases hn : h < 0
      · obtain ⟨a1, e1, e2⟩ := ED.out hn
        go_wp2_with fail
        go_meet
        exact ⟨rfl, rfl⟩
      · have e1 := EC.out (by omega)
        subst e1
        go_wp2_with fail
        go_meet
        exact ⟨rfl, rfl⟩
  case rest =>
  obtain ⟨rfl, rfl⟩ := hcut
  have hx0 := cells_later HB2.out X0.out
  have hx1 := cells_later HB2.out X1.out
  have hx2 := cells_later HB2.out X2.out
  go_upto_if 44 with fail
  by_cases hz3 : t.f2.length = 0
  · have hz4 : ((t.f2.length : Int) == 0) = true := by rw [hz3]; rfl
    go_wp2_with fail
    go_ret
    exact ⟨rfl, HB2.out⟩
  have hz4 : ((t.f2.length : Int) == 0) = false := by
    rw [beq_eq_false_iff_ne]
    omega
  go_upto_region 13 with (first | ((with_reducible refine gate_builtin (b := .append) (xs := #[.const (.slice none 0 0), .tmp 46]) rfl ?_); at_builtin; refine Kd.N_append_rows k33 (w0 := W) W.heap.size rfl (.const (.slice none 0 0)) (.tmp 46) 22 33 (.agg #[.string (⟨#[]⟩ : ByteArray), .slice none 0 0, .slice none 0 0]) 64 rfl Try.underlying22 info33 rfl (by decide) (by decide) _ ([] : List S33) l (some ad) l.length c (fun _ => True) (fun k_ => k_ < W.heap.size) (by first | (go_simp; done) | (go_simp; rfl)) (by first | (go_simp; done) | (go_simp; rfl)) (Kd.N_nil _ _ _ _ _) (F_on HF.out HB2.out) (fun _ _ => ⟨trivial, by simp [Value.ownBlock]⟩) (fun _ _ => trivial) HB2.out HB2.out.size (by simp only [List.length_nil]; omega) ?_; intro vm w3 hm hb3 hg3 hat3; have HM := Aside0.mk hm; have HB3 := Aside0.mk hb3; have hy0 := cells_later hb3 X0.out; have hy1 := cells_later hb3 X1.out; have hy2 := cells_later hb3 X2.out; clear hm hb3 hg3 hat3))
  clear hx0 hx1 hx2 hy0 hy1 hy2 EA EB EC ED
  have N4 : Aside0 ((w3.alloc (.cells #[.string t.f0, .slice A1 t.f1.length c1, .slice A2 t.f2.length c2] 33)).heap[w3.heap.size]? = some (.cells #[.string t.f0, .slice A1 t.f1.length c1, .slice A2 t.f2.length c2] 33 (0, 0))) := ⟨blk_new _ _⟩
  have HB4 : Aside0 (Below W.heap.size W (w3.alloc (.cells #[.string t.f0, .slice A1 t.f1.length c1, .slice A2 t.f2.length c2] 33))) := ⟨below_alloc HB3.out _⟩
  have HM4 : Aside0 (Kd.N k33 33 (w3.alloc (.cells #[.string t.f0, .slice A1 t.f1.length c1, .slice A2 t.f2.length c2] 33)) W.heap.size (fun k_ => k_ < w3.heap.size) vm l) := ⟨Kd.N_alloc (Kd.N_mono (Kd.N_bound HM.out) (fun _ hk => hk.2)) _⟩
  have S4 : Aside0 ((w3.alloc (.cells #[.string t.f0, .slice A1 t.f1.length c1, .slice A2 t.f2.length c2] 33)).heap.size = w3.heap.size + 1) := ⟨by simp⟩
  have G4 : Aside0 (W.heap.size ≤ w3.heap.size) := ⟨HB3.out.size⟩
  clear HM HB3
  generalize w3.alloc (.cells #[.string t.f0, .slice A1 t.f1.length c1, .slice A2 t.f2.length c2] 33) = w4 at *
  generalize w3.heap.size = b at *
  have hb2 := (blk_cell N4.out 2).trans rfl
  go_upto_region 14 with (first | ((with_reducible refine gate_builtin (b := .append) (xs := #[.const (.slice none 0 0), .tmp 53]) rfl ?_); at_builtin; refine Kd.N_append_rows (Kd.slice 36 k36) (w0 := W) W.heap.size rfl (.const (.slice none 0 0)) (.tmp 53) 31 34 (.slice none 0 0) 24 rfl Try.underlying31 info34 rfl (by decide) (by decide) _ ([] : List (List S36)) t.f2 A2 t.f2.length c2 (fun k_ => k_ < W.heap.size ∨ b < k_) (fun k_ => k_ < W.heap.size) (by first | (go_simp; done) | (go_simp; rfl)) (by first | (go_simp; done) | (go_simp; rfl)) (Kd.N_nil _ _ _ _ _) (F_on HC2.out HB4.out) (fun k_ hk_ => ⟨.inl hk_, by simp [Value.ownBlock]⟩) (fun k_ hk_ => .inr (by have := S4.out; omega)) HB4.out HB4.out.size (by simp only [List.length_nil]; have := HT.out.2.1; omega) ?_; intro vr w5 hm hb5 hg5 hat5; have hm5 : Kd.N (Kd.slice 36 k36) 34 w5 W.heap.size (fun k_ => k_ < W.heap.size ∨ b < k_) vr t.f2 := hm; obtain ⟨gr, cr, er, hgb, hgl, _⟩ := Kd.N_form hm5 (Nat.pos_of_ne_zero hz3); subst er; have n5 := (hg5.block b (blk_lt N4.out) (by simp [Value.ownBlock])).trans N4.out; have N5 := Aside0.mk n5; have hs5 := (blk_cell n5 2).trans rfl; have hf5 := blk_frozen n5 2; have HR5 := Aside0.mk hm5; have HM5 := Aside0.mk (Kd.N_grown HM4.out hg5 (fun _ _ => by simp [Value.ownBlock])); have HB5 := Aside0.mk hb5; have S5 := Aside0.mk hg5.size; have GR := Aside0.mk hgb; have GR1 := Aside0.mk hgl; have GR2 := Aside0.mk (hm5.1 gr rfl); clear hm hm5 hb5 hg5 hat5 n5 hgb hgl HM4 HB4 N4 hb2))
  clear hs5 hf5
  have N6 : Aside0 ((w5.setCell ⟨b, 2, none⟩ (.slice (some ⟨gr, 0, none⟩) t.f2.length cr)).heap[b]? = some (.cells #[.string t.f0, .slice A1 t.f1.length c1, .slice (some ⟨gr, 0, none⟩) t.f2.length cr] 33 (0, 0))) := ⟨(blk_set N5.out 2 _).trans rfl⟩
  have HM6 := Aside0.mk (Kd.N_far (p := ⟨b, 2, none⟩) HM5.out (fun _ hk => Nat.ne_of_lt hk) (.slice (some ⟨gr, 0, none⟩) t.f2.length cr))
  have HR6 := Aside0.mk (Kd.N_far (p := ⟨b, 2, none⟩) HR5.out (fun k_ hk => by have := G4.out; rcases hk with hk | hk <;> (show k_ ≠ b) <;> omega) (.slice (some ⟨gr, 0, none⟩) t.f2.length cr))
  have HB6 := Aside0.mk (below_set (j := 2) (v := (.slice (some ⟨gr, 0, none⟩) t.f2.length cr)) HB5.out G4.out)
  have S6 : Aside0 (b < (w5.setCell ⟨b, 2, none⟩ (.slice (some ⟨gr, 0, none⟩) t.f2.length cr)).heap.size) := ⟨blk_lt N6.out⟩
  have S61 : Aside0 (gr < (w5.setCell ⟨b, 2, none⟩ (.slice (some ⟨gr, 0, none⟩) t.f2.length cr)).heap.size) := ⟨by have := GR1.out; simpa using this⟩
  clear N5 HM5 HR5 HB5 S5 GR1
  generalize w5.setCell ⟨b, 2, none⟩ (.slice (some ⟨gr, 0, none⟩) t.f2.length cr) = w6 at *
  have hb1 := (blk_cell N6.out 1).trans rfl
  go_upto_region 15 with (first | ((with_reducible refine gate_builtin (b := .append) (xs := #[.const (.slice none 0 0), .tmp 57]) rfl ?_); at_builtin; refine Kd.R_append_rows k38 (w0 := W) (Rr := k38.K w6) W.heap.size rfl (.const (.slice none 0 0)) (.tmp 57) 30 38 (.agg #[(.string ⟨#[]⟩), (.int .i64 0)]) 24 rfl Try.underlying30 info38 rfl (by decide) (by decide) _ ([] : List S38) t.f1 A1 t.f1.length c1 (fun k_ => w6.heap.size ≤ k_) (fun _ => False) (by first | (go_simp; done) | (go_simp; rfl)) (by first | (go_simp; done) | (go_simp; rfl)) (Kd.R_nil _ _ _ _ _) (Kd.F_now (F_on HC1.out HB6.out)) (fun x cs hx => by rw [k38_open hx]; exact k38_mkM _ _ _ x) (fun _ hk => hk.elim) (fun _ hk => hk) HB6.out HB6.out.size (by simp only [List.length_nil]; have := HT.out.1; omega) ?_; intro vc w7 hm hb7 hg7 hat7; have hm7 : Kd.R k38 38 w7 W.heap.size (fun k_ => w6.heap.size ≤ k_) vc t.f1 := hm; obtain ⟨Ac, cc, ec⟩ := Kd.R_slice hm7; subst ec; have n7 := (hg7.block b (blk_lt N6.out) (by simp [Value.ownBlock])).trans N6.out; have N7 := Aside0.mk n7; have hs7 := (blk_cell n7 1).trans rfl; have hf7 := blk_frozen n7 1; have HC7 := Aside0.mk hm7; have HM7 := Aside0.mk (Kd.N_grown HM6.out hg7 (fun _ _ => by simp [Value.ownBlock])); have HR7 := Aside0.mk (Kd.N_grown (Kd.N_bound HR6.out) hg7 (fun _ _ => by simp [Value.ownBlock])); have HB7 := Aside0.mk hb7; have S7 := Aside0.mk hg7.size; clear hm hm7 hb7 hg7 hat7 n7 HM6 HB6 N6 hb1 HR6))
  clear hs7 hf7
  have N8 : Aside0 ((w7.setCell ⟨b, 1, none⟩ (.slice Ac t.f1.length cc)).heap[b]? = some (.cells #[.string t.f0, .slice Ac t.f1.length cc, .slice (some ⟨gr, 0, none⟩) t.f2.length cr] 33 (0, 0))) := ⟨(blk_set N7.out 1 _).trans rfl⟩
  have HM8 := Aside0.mk (Kd.N_far (p := ⟨b, 1, none⟩) HM7.out (fun _ hk => Nat.ne_of_lt hk) (.slice Ac t.f1.length cc))
  have HR8 := Aside0.mk (Kd.N_far (p := ⟨b, 1, none⟩) HR7.out (fun k_ hk => by have := G4.out; rcases hk.1 with hk | hk <;> (show k_ ≠ b) <;> omega) (.slice Ac t.f1.length cc))
  have HC8 := Aside0.mk (Kd.R_far (p := ⟨b, 1, none⟩) (Kd.R_bound HC7.out) (fun k_ hk => by have := S6.out; have := hk.1; (show k_ ≠ b); omega) (.slice Ac t.f1.length cc))
  have HB8 := Aside0.mk (below_set (j := 1) (v := (.slice Ac t.f1.length cc)) HB7.out G4.out)
  have S8 : Aside0 ((w7.setCell ⟨b, 1, none⟩ (.slice Ac t.f1.length cc)).heap.size = w7.heap.size) := ⟨by simp⟩
  clear N7 HM7 HR7 HC7 HB7
  generalize w7.setCell ⟨b, 1, none⟩ (.slice Ac t.f1.length cc) = w8 at *
  have S81 : Aside0 (w6.heap.size ≤ w8.heap.size) := ⟨by rw [S8.out]; exact S7.out⟩
  have HC9 := Aside0.mk (Kd.R_mono (ok' := fun k_ => w6.heap.size ≤ k_ ∧ k_ < w8.heap.size) HC8.out (fun k_ hk => ⟨hk.1, by rw [S8.out]; exact hk.2.2.1⟩))
  clear HC8 S8 S7
  generalize w6.heap.size = s6 at *
  have hpos : 0 < t.f2.length := Nat.pos_of_ne_zero hz3
  obtain ⟨A0, c0, hrc, hrl, hrF, hrfz⟩ := N_head HR8.out 0 hpos
  have HRF := Aside0.mk hrF
  have hr6 : (t.f2[0]).length ≤ 6 := HT.out.2.2 _ (List.getElem_mem hpos)
  have HR0 : Aside0 (t.f2[0]? = some t.f2[0]) := ⟨List.getElem?_eq_getElem hpos⟩
  clear hrF
  generalize t.f2[0] = r0 at *
  have hb2 := (blk_cell N8.out 2).trans rfl
  have hp5 : ¬ ((t.f2.length : Int) ≤ 0) := by omega
  have hp6 : (0 : Int) < (t.f2.length : Int) := by omega
  go_upto_if 71 with (first | ((with_reducible refine gate_builtin (b := .append) (xs := #[.const (.slice none 0 0), .tmp 63]) rfl ?_); at_builtin; refine Kd.R_append_rows k36 (w0 := W) (Rr := k36.K w8) W.heap.size rfl (.const (.slice none 0 0)) (.tmp 63) 34 36 (.agg #[(.int .i64 0), (.int .i64 0), (.string ⟨#[]⟩)]) 32 rfl Try.underlying34 info36 rfl (by decide) (by decide) _ ([] : List S36) r0 A0 r0.length c0 (fun k_ => w8.heap.size ≤ k_) (fun _ => False) (by first | (go_simp; done) | (go_simp; rfl)) (by first | (go_simp; done) | (go_simp; rfl)) (Kd.R_nil _ _ _ _ _) (Kd.F_now HRF.out) (fun x cs hx => by rw [k36_open hx]; exact k36_mkM _ _ _ x) (fun _ hk => hk.elim) (fun _ hk => hk) HB8.out HB8.out.size (by simp only [List.length_nil]; omega) ?_; intro vx w9 hm hb9 hg9 hat9; have HX9 : Aside0 (Kd.R k36 36 w9 W.heap.size (fun k_ => w8.heap.size ≤ k_) vx r0) := ⟨hm⟩; have HB9 := Aside0.mk hb9; have N9 := Aside0.mk ((hg9.block b (blk_lt N8.out) (by simp [Value.ownBlock])).trans N8.out); have HM9 := Aside0.mk (Kd.N_grown HM8.out hg9 (fun _ _ => by simp [Value.ownBlock])); have HR9 := Aside0.mk (Kd.N_grown HR8.out hg9 (fun _ _ => by simp [Value.ownBlock])); have HC10 := Aside0.mk (Kd.R_grown HC9.out hg9 (fun _ _ => by simp [Value.ownBlock])); have S9 := Aside0.mk hg9.size; clear hm hb9 hg9 hat9 HB8 N8 HM8 HR8 HC9 hb2 hrc hrfz HRF))
  obtain ⟨gm, cm, em, hgm, _, _⟩ := Kd.N_form HM9.out (Nat.pos_of_ne_zero hz)
  subst em
  have hgb : gm < b := HM9.out.1 gm rfl
  have htB : tableB t = true := by
    have h5 := hq
    unfold rightB at h5
    simp only [Bool.and_eq_true] at h5
    exact List.all_eq_true.1 h5.2 t (List.mem_iff_getElem?.2 ⟨i, HLI.out⟩)
  have htO : okT t := HO.out t (List.mem_iff_getElem?.2 ⟨i, HLI.out⟩)
  have hcc : t.f1.length ≤ cc := (Kd.N_reads' (Kd.R_N HC10.out)).2.1
  have hcr : t.f2.length ≤ cr := (Kd.N_reads' HR9.out).2.1
  have HGM := Aside0.mk hgm
  have HGB := Aside0.mk hgb
  have HTB := Aside0.mk htB
  have HTO := Aside0.mk htO
  have HCC := Aside0.mk hcc
  have HCR := Aside0.mk hcr
  have HOC : Aside0 (∀ k, (s6 ≤ k ∧ k < w8.heap.size) → k ≠ b ∧ k ≠ gm) := ⟨fun k hk => by have := S6.out; omega⟩
  have HOR : Aside0 (∀ k, ((k < W.heap.size ∨ b < k) ∧ k < s6) → k ≠ b ∧ k ≠ gm) := ⟨fun k hk => by have := G4.out; omega⟩
  have hb0 := (blk_cell N9.out 0).trans rfl
  have hb1 := (blk_cell N9.out 1).trans rfl
  have hb2 := (blk_cell N9.out 2).trans rfl
  have hf0 := blk_frozen N9.out 0
  have hf1 := blk_frozen N9.out 1
  clear hgm htB htO hcc hcr hgb hq
  have hj : h2 % 6 = 0 ∨ h2 % 6 = 1 ∨ h2 % 6 = 2 ∨ h2 % 6 = 3 ∨ h2 % 6 = 4 ∨ h2 % 6 = 5 := six_ways h2
  rcases hj with hj | hj | hj | hj | hj | hj
  · go_upto_region 29 with (first | ((with_reducible refine gate_builtin (b := .append) (xs := #[.tmp 73, .tmp 75]) rfl ?_); at_builtin; refine Kd.N_append k33 (w0 := W) W.heap.size rfl (.tmp 73) (.tmp 75) 22 33 (.agg #[.string (⟨#[]⟩ : ByteArray), .slice none 0 0, .slice none 0 0]) 64 rfl Try.underlying22 info33 rfl (by decide) (by decide) _ l t [.string t.f0, .slice Ac t.f1.length cc, .slice (some ⟨gr, 0, none⟩) t.f2.length cr] (fun k_ => k_ ≠ b) (fun k_ => (k_ < W.heap.size ∨ b < k_) ∧ k_ < w8.heap.size) (by first | (go_simp; done) | (go_simp; rfl)) (by first | (go_simp; done) | (go_simp; rfl)) (FK_33 (Kd.R_F HC10.out) HCC.out (fun k hk => ⟨.inr (by have := S6.out; omega), hk.2⟩) (Kd.N_F HR9.out) HCR.out (fun k hk => ⟨hk.1, by have := S81.out; omega⟩)) (fun k hk => ⟨by have := G4.out; omega, fun e => by have := HGM.out; have := HGB.out; have e2 : k = gm := (by simpa [Value.ownBlock] using e); omega⟩) (fun k hk => by have := blk_lt N9.out; omega) (Kd.N_mono HM9.out (fun _ hk => Nat.ne_of_lt hk)) HB9.out HB9.out.size (by omega) ?_; intro vm2 w10 hn hb hg hat; have HN2 := Aside0.mk hn; have HB2 := Aside0.mk hb; have HG2 := Aside0.mk hg; have HAT := Aside0.mk hat; clear hn hb hg hat))
    have HP : Aside0 (SpPost W w10 b i vm2) := ⟨sp_case0 (blk_lt N9.out) hl8 hi HLI.out HO.out S9.out S81.out G4.out S6.out HGM.out HGB.out N9.out (Kd.R_F HC10.out) HCC.out (Kd.N_F HR9.out) HCR.out HN2.out HB2.out HG2.out HAT.out⟩
    clear HN2 HB2 HG2 HAT HM9 HR9 HC10 HX9 HB9 N9 hb0 hb1 hb2 hf0 hf1
    obtain ⟨g, cm, ml, t', vc', vr', rfl, hWg, hB, hbx, hN, him, hm9, hFK, hbad, hok⟩ := HP.out.out
    have HTL := Aside0.mk (tail_of W g cm ml.length (ml.set i t') HW.out (List.length_set ..) hm9 hok hbad)
    have hn2 := (Kd.N_reads' hN).1
    obtain ⟨cs, hcl, _, hcc, _⟩ := Kd.N_elem hN z33 (i : Int) (by omega) (by omega)
    have hone : ∀ q ∈ [.string t'.f0, vc', vr'], q.oneCell' = true := k33.K_one (Kd.FK_now hFK)
    have hb0 := (blk_cell hbx 0).trans rfl
    have hb1 := (blk_cell hbx 1).trans rfl
    have hb2 := (blk_cell hbx 2).trans rfl
    have HN := Aside0.mk hN
    have HFK := Aside0.mk hFK
    have HBX := Aside0.mk hB
    have HONE := Aside0.mk hone
    have HCC := Aside0.mk hcc
    have HCL : Aside0 (cs.length = 3) := ⟨hcl⟩
    have hi1 : (i : Int) < (ml.length : Int) := by omega
    clear hN hFK hB hone hcc hcl hbx hok hbad HP
    go_wp2_with (first | ((with_reducible refine gate_store (t := 33) (p := 113) (v := .tmp 112) rfl ?_); refine Kd.N_store k33 (w0 := W) W.heap.size rfl rfl 33 (.tmp 113) (.tmp 112) rfl 33 (o' := i * 3) (i : Int) 0 ml t' (.agg #[.string t'.f0, vc', vr']) [.string t'.f0, vc', vr'] cs (fun k => k ≠ b) (fun k => k ≠ b ∧ k ≠ g) ?sa ?so ?sx rfl size33 HONE.out HN.out (by omega) (by omega) HCL.out HCC.out (Nat.le_refl 3) ?sm (fun k hk => hk) HBX.out ?_; (case sa => first | (go_simp; done) | (go_simp; rfl)); (case so => rw [Int.toNat_natCast]; rfl); (case sx => first | (go_simp; done) | (go_simp; rfl)); (case sm => rw [take_seg HCL.out rfl]; exact HFK.out); intro w11 hN11 hb11 hg11; have HC11 := Aside0.mk (Kd.N_reads' hN11).2.2; have HB11 := Aside0.mk hb11; clear hN11 hb11 hg11) | (go_at_call 13; refine (HTL.out.h13 _ HC11.out HB11.out).mono ?_; rintro e w12 ⟨rfl, hb⟩; have HB12 := Aside0.mk (below_step HB11.out hb); have HC12 := Aside0.mk (Kd.C_below HC11.out hb); clear hb) | (go_at_call 11; refine (HTL.out.h11 _ HC12.out HB12.out).mono ?_; rintro e w13 ⟨rfl, hb⟩; have HB13 := Aside0.mk (below_step HB12.out hb); clear hb))
    go_ret
    exact ⟨rfl, HB13.out⟩
  · go_upto_region 29 with fail
    have HP : Aside0 (SpPost W (w9.setCell ⟨b, 0, none⟩ (.string ⟨#[102, 114, 111, 109]⟩)) b i (.slice (some ⟨gm, 0, none⟩) l.length cm)) := ⟨sp_make (t' := ⟨⟨#[102, 114, 111, 109]⟩, t.f1, t.f2⟩) HGM.out (below_set HB9.out G4.out) rfl rfl ((blk_set N9.out 0 _).trans rfl) (Kd.N_far (p := ⟨b, 0, none⟩) HM9.out (fun _ hk => Nat.ne_of_lt hk) _) (fun k hk => Nat.ne_of_lt hk) hi (by omega) (Kd.F_far (p := ⟨b, 0, none⟩) (Kd.R_F HC10.out) (fun k hk => (HOC.out k hk).1) _) HCC.out HOC.out (Kd.F_far (p := ⟨b, 0, none⟩) (Kd.N_F HR9.out) (fun k hk => (HOR.out k hk).1) _) HCR.out HOR.out (bad_name l i _ hi from_bad) (ok_set HO.out (by obtain ⟨_, q1, q2, q3, q4⟩ := HTO.out; exact ⟨(by unfold maxLen; show 4 ≤ _; decide), q1, q2, q3, q4⟩))⟩
    clear HM9 HR9 HC10 HX9 HB9 N9 hb0 hb1 hb2 hf0 hf1
    generalize w9.setCell ⟨b, 0, none⟩ (.string ⟨#[102, 114, 111, 109]⟩) = wx at *
    generalize (Value.slice (some ⟨gm, 0, none⟩) l.length cm) = vm0 at *
    obtain ⟨g, cm, ml, t', vc', vr', rfl, hWg, hB, hbx, hN, him, hm9, hFK, hbad, hok⟩ := HP.out.out
    have HTL := Aside0.mk (tail_of W g cm ml.length (ml.set i t') HW.out (List.length_set ..) hm9 hok hbad)
    have hn2 := (Kd.N_reads' hN).1
    obtain ⟨cs, hcl, _, hcc, _⟩ := Kd.N_elem hN z33 (i : Int) (by omega) (by omega)
    have hone : ∀ q ∈ [.string t'.f0, vc', vr'], q.oneCell' = true := k33.K_one (Kd.FK_now hFK)
    have hb0 := (blk_cell hbx 0).trans rfl
    have hb1 := (blk_cell hbx 1).trans rfl
    have hb2 := (blk_cell hbx 2).trans rfl
    have HN := Aside0.mk hN
    have HFK := Aside0.mk hFK
    have HBX := Aside0.mk hB
    have HONE := Aside0.mk hone
    have HCC := Aside0.mk hcc
    have HCL : Aside0 (cs.length = 3) := ⟨hcl⟩
    have hi1 : (i : Int) < (ml.length : Int) := by omega
    clear hN hFK hB hone hcc hcl hbx hok hbad HP
    go_wp2_with (first | ((with_reducible refine gate_store (t := 33) (p := 113) (v := .tmp 112) rfl ?_); refine Kd.N_store k33 (w0 := W) W.heap.size rfl rfl 33 (.tmp 113) (.tmp 112) rfl 33 (o' := i * 3) (i : Int) 0 ml t' (.agg #[.string t'.f0, vc', vr']) [.string t'.f0, vc', vr'] cs (fun k => k ≠ b) (fun k => k ≠ b ∧ k ≠ g) ?sa ?so ?sx rfl size33 HONE.out HN.out (by omega) (by omega) HCL.out HCC.out (Nat.le_refl 3) ?sm (fun k hk => hk) HBX.out ?_; (case sa => first | (go_simp; done) | (go_simp; rfl)); (case so => rw [Int.toNat_natCast]; rfl); (case sx => first | (go_simp; done) | (go_simp; rfl)); (case sm => rw [take_seg HCL.out rfl]; exact HFK.out); intro w11 hN11 hb11 hg11; have HC11 := Aside0.mk (Kd.N_reads' hN11).2.2; have HB11 := Aside0.mk hb11; clear hN11 hb11 hg11) | (go_at_call 13; refine (HTL.out.h13 _ HC11.out HB11.out).mono ?_; rintro e w12 ⟨rfl, hb⟩; have HB12 := Aside0.mk (below_step HB11.out hb); have HC12 := Aside0.mk (Kd.C_below HC11.out hb); clear hb) | (go_at_call 11; refine (HTL.out.h11 _ HC12.out HB12.out).mono ?_; rintro e w13 ⟨rfl, hb⟩; have HB13 := Aside0.mk (below_step HB12.out hb); clear hb))
    go_ret
    exact ⟨rfl, HB13.out⟩
  · obtain ⟨e1, e2⟩ := tableB_parts HTB.out
    have hrn : r0.length = t.f1.length := e2 r0 (List.mem_iff_getElem?.2 ⟨0, HR0.out⟩)
    have hrp : 0 < r0.length := by omega
    obtain ⟨gx, cx, ex, hgx0, hgx1, _⟩ := Kd.N_form (Kd.R_N HX9.out) hrp
    subst ex
    have hcx : r0.length ≤ cx := (Kd.N_reads' (Kd.R_N HX9.out)).2.1
    have HGX : Aside0 (w8.heap.size ≤ gx) := ⟨HX9.out.1 gx rfl⟩
    have HGRB : Aside0 (b < gr) := ⟨by have := GR.out; have := G4.out; rcases GR2.out with h | h <;> omega⟩
    obtain ⟨m, hm⟩ : ∃ m, r0.length = m + 1 := ⟨r0.length - 1, by omega⟩
    have hm2 : m = r0.length - 1 := by omega
    have HTP : Aside0 (tableB ⟨t.f0, t.f1, t.f2.set 0 (r0.take m)⟩ = false) := ⟨by rw [hm2]; exact row_bad t.f0 t.f1 t.f2 _ hpos (row_short t.f1 r0 e1 hrn)⟩
    obtain ⟨A9, c9, hcr0, _, _, hfr0⟩ := N_head HR9.out 0 hpos
    obtain ⟨cs1, hcl1, _, hcc1, _⟩ := Kd.N_elem (Kd.N_drew HR9.out) [] (0 : Int) (by decide) hp6
    have HKN : Aside0 (∀ k, w8.heap.size ≤ k → (k ≠ b ∧ k ≠ gm) ∧ k ≠ gr) := ⟨fun k hk => by have := S6.out; have := S81.out; have := HGB.out; have := S61.out; omega⟩
    have hsg : Kd.N (Kd.slice 36 k36) 34 (w9.drew.setCell ⟨gr, 0, none⟩ (.slice (some ⟨gx, 0, none⟩) m cx)) W.heap.size (fun k => k ≠ b ∧ k ≠ gm) (.slice (some ⟨gr, 0, none⟩) t.f2.length cr) (t.f2.set 0 (r0.take m)) ∧ w9.drew.grownBy (w9.drew.setCell ⟨gr, 0, none⟩ (.slice (some ⟨gx, 0, none⟩) m cx)) (some gr) := Kd.N_seg (okp := fun k => w8.heap.size ≤ k) (Kd.N_mono (Kd.N_drew HR9.out) HOR.out) (0 : Int) (by decide) hp6 (c := cs1) (seg := [.slice (some ⟨gx, 0, none⟩) m cx]) (j := 0) hcl1 hcc1 (Nat.le_refl 1) (x' := r0.take m) (by rw [take_seg1 hcl1 rfl]; exact FK_row (Kd.N_take (Kd.N_drew (Kd.R_N HX9.out)) (by omega))) HKN.out
    have HSG := Aside0.mk hsg
    have hw1 : wrap64 ((r0.length : Int) - 1) = (m : Int) := by unfold Go.RowKit.wrap64; omega
    have hw2 : (m : Int) ≤ (cx : Int) := by omega
    have hfr2 : w9.drew.frozen? ⟨gr, 0, none⟩ = false := hfr0
    have hml : Aside0 (r0.length ≤ 6 ∧ m ≤ r0.length) := ⟨hr6, by omega⟩
    clear hrn hrp e1 e2 hm hm2 hcx hcl1 hcc1 hsg hgx0 hgx1 hr6 hrl
    go_upto_region 23 with fail
    refine start_ (n := 9) (S := fun w' => w'.cell? ⟨b, 2, none⟩ = some (.slice (some ⟨gr, 0, none⟩) t.f2.length cr)) (ds := [8]) #[false, false, false, false, false, false, false, false, false] (by kernel_rfl) rfl rfl ((blk_cell (blk_drew N9.out) 2).trans rfl) (fun hHeld => ?_)
    refine pure_ (i := 0) (N := some 82) (v := ?_) (a' := ?_) #[true, false, false, false, false, false, false, false, false] rfl rfl (by kernel_rfl) (fun _ _ _ h => h) (Or.inl ⟨by rfl, ?_⟩) ?_ ?_
    rotate_left
    · intro w'
      go_simp
      with_reducible rfl
    rotate_left
    · simp only [Act.put, List.setIfInBounds_toArray, List.set_cons_zero, List.set_cons_succ, i64_w, i32_w]
      rfl
    refine pure_ (i := 2) (N := some 84) (v := ?_) (a' := ?_) #[true, false, true, false, false, false, false, false, false] rfl rfl (by kernel_rfl) (fun _ _ _ h => h) (Or.inl ⟨by rfl, ?_⟩) ?_ ?_
    rotate_left
    · intro w'
      go_simp
      with_reducible rfl
    rotate_left
    · simp only [Act.put, List.setIfInBounds_toArray, List.set_cons_zero, List.set_cons_succ, i64_w, i32_w]
      rfl
    refine pure_ (i := 3) (N := some 85) (v := ?_) (a' := ?_) #[true, false, true, true, false, false, false, false, false] rfl rfl (by kernel_rfl) (fun _ _ _ h => h) (Or.inl ⟨by rfl, ?_⟩) ?_ ?_
    rotate_left
    · intro w'
      go_simp
      with_reducible rfl
    rotate_left
    · simp only [Act.put, List.setIfInBounds_toArray, List.set_cons_zero, List.set_cons_succ, i64_w, i32_w]
      rfl
    refine pure_ (i := 4) (N := some 86) (v := ?_) (a' := ?_) #[true, false, true, true, true, false, false, false, false] rfl rfl (by kernel_rfl) (fun _ _ _ h => h) (Or.inl ⟨by rfl, ?_⟩) ?_ ?_
    rotate_left
    · intro w'
      go_simp
      with_reducible rfl
    rotate_left
    · simp only [Act.put, List.setIfInBounds_toArray, List.set_cons_zero, List.set_cons_succ, i64_w, i32_w]
      rfl
    refine pure_ (i := 5) (N := some 87) (v := ?_) (a' := ?_) #[true, false, true, true, true, true, false, false, false] rfl rfl (by kernel_rfl) (fun _ _ _ h => h) (Or.inl ⟨by rfl, ?_⟩) ?_ ?_
    rotate_left
    · intro w'
      go_simp
      with_reducible rfl
    rotate_left
    · simp only [Act.put, List.setIfInBounds_toArray, List.set_cons_zero, List.set_cons_succ, i64_w, i32_w]
      rfl
    refine pure_ (i := 6) (N := some 88) (v := ?_) (a' := ?_) #[true, false, true, true, true, true, true, false, false] rfl rfl (by kernel_rfl) (fun _ _ _ h => h) (Or.inl ⟨by rfl, ?_⟩) ?_ ?_
    rotate_left
    · intro w'
      go_simp
      with_reducible rfl
    rotate_left
    · simp only [Act.put, List.setIfInBounds_toArray, List.set_cons_zero, List.set_cons_succ, i64_w, i32_w]
      rfl
    refine take_ (i := 1) (N := some 83) (v := ?_) (a' := ?_) #[true, true, true, true, true, true, true, false, false] rfl rfl (by kernel_rfl) (fun _ _ _ h => h) (Or.inl ⟨by rfl, ?_⟩) hHeld ?_ ?_
    rotate_left
    · intro w' s0
      go_simp
      with_reducible rfl
    rotate_left
    · simp only [Act.put, List.setIfInBounds_toArray, List.set_cons_zero, List.set_cons_succ, i64_w, i32_w]
      rfl
    refine pure_ (i := 7) (N := some 89) (v := ?_) (a' := ?_) #[true, true, true, true, true, true, true, true, false] rfl rfl (by kernel_rfl) (fun _ _ _ h => h) (Or.inl ⟨by rfl, ?_⟩) ?_ ?_
    rotate_left
    · intro w'
      go_simp
      with_reducible rfl
    rotate_left
    · simp only [Act.put, List.setIfInBounds_toArray, List.set_cons_zero, List.set_cons_succ, i64_w, i32_w]
      rfl
    refine last_ (i := 8) (N := none) #[true, true, true, true, true, true, true, true, true] rfl rfl (by kernel_rfl) (by decide) (fun K hK => ?_)
    have hs20 : w9.drew.cell? ⟨gr, 0, none⟩ = _ := hcr0
    have hfs20 := hfr2
    refine skip_ (w1 := ?_) (by rfl) rfl ?_ ?_
    rotate_left
    · go_simp
      rfl
    refine hK.out _ _ ?_
    clear hK K
    refine done_ (by kernel_rfl) ?_
    go_upto_region 29 with fail
    have HP0 : Aside0 (SpPost W (w9.drew.setCell ⟨gr, 0, none⟩ (.slice (some ⟨gx, 0, none⟩) m cx)) b i (.slice (some ⟨gm, 0, none⟩) l.length cm)) := ⟨sp_make (t' := ⟨t.f0, t.f1, t.f2.set 0 (r0.take m)⟩) HGM.out (below_set (below_drew HB9.out) (by have := HGRB.out; have := G4.out; omega)) rfl (List.length_set ..).symm ((HSG.out.2.block b (blk_lt (blk_drew N9.out)) (fun e => by injection e with e; have := HGRB.out; omega)).trans N9.out) (Kd.N_grown (Kd.N_drew HM9.out) HSG.out.2 (fun k hk e => by injection e with e; have := HGRB.out; omega)) (fun k hk => Nat.ne_of_lt hk) hi (by omega) (Kd.F_grown (Kd.F_drew (Kd.R_F HC10.out)) HSG.out.2 (fun k hk e => by injection e with e; have := S61.out; omega)) HCC.out HOC.out (Kd.N_F HSG.out.1) HCR.out (fun _ hk => hk) (bad_table l i _ hi HTP.out) (ok_set HO.out (ok_rows HTO.out (by rw [List.length_take]; have := hml.out; omega)))⟩
    have HP : Aside0 (SpPost W (w9.setCell ⟨gr, 0, none⟩ (.slice (some ⟨gx, 0, none⟩) m cx)).drew b i (.slice (some ⟨gm, 0, none⟩) l.length cm)) := HP0
    clear HSG HM9 HR9 HC10 HX9 HB9 N9 hb0 hb1 hb2 hf0 hf1 hcr0 hfr0 hfr2 HP0
    generalize (w9.setCell ⟨gr, 0, none⟩ (.slice (some ⟨gx, 0, none⟩) m cx)).drew = wx at *
    generalize (Value.slice (some ⟨gm, 0, none⟩) l.length cm) = vm0 at *
    obtain ⟨g, cm, ml, t', vc', vr', rfl, hWg, hB, hbx, hN, him, hm9, hFK, hbad, hok⟩ := HP.out.out
    have HTL := Aside0.mk (tail_of W g cm ml.length (ml.set i t') HW.out (List.length_set ..) hm9 hok hbad)
    have hn2 := (Kd.N_reads' hN).1
    obtain ⟨cs, hcl, _, hcc, _⟩ := Kd.N_elem hN z33 (i : Int) (by omega) (by omega)
    have hone : ∀ q ∈ [.string t'.f0, vc', vr'], q.oneCell' = true := k33.K_one (Kd.FK_now hFK)
    have hb0 := (blk_cell hbx 0).trans rfl
    have hb1 := (blk_cell hbx 1).trans rfl
    have hb2 := (blk_cell hbx 2).trans rfl
    have HN := Aside0.mk hN
    have HFK := Aside0.mk hFK
    have HBX := Aside0.mk hB
    have HONE := Aside0.mk hone
    have HCC := Aside0.mk hcc
    have HCL : Aside0 (cs.length = 3) := ⟨hcl⟩
    have hi1 : (i : Int) < (ml.length : Int) := by omega
    clear hN hFK hB hone hcc hcl hbx hok hbad HP
    go_wp2_with (first | ((with_reducible refine gate_store (t := 33) (p := 113) (v := .tmp 112) rfl ?_); refine Kd.N_store k33 (w0 := W) W.heap.size rfl rfl 33 (.tmp 113) (.tmp 112) rfl 33 (o' := i * 3) (i : Int) 0 ml t' (.agg #[.string t'.f0, vc', vr']) [.string t'.f0, vc', vr'] cs (fun k => k ≠ b) (fun k => k ≠ b ∧ k ≠ g) ?sa ?so ?sx rfl size33 HONE.out HN.out (by omega) (by omega) HCL.out HCC.out (Nat.le_refl 3) ?sm (fun k hk => hk) HBX.out ?_; (case sa => first | (go_simp; done) | (go_simp; rfl)); (case so => rw [Int.toNat_natCast]; rfl); (case sx => first | (go_simp; done) | (go_simp; rfl)); (case sm => rw [take_seg HCL.out rfl]; exact HFK.out); intro w11 hN11 hb11 hg11; have HC11 := Aside0.mk (Kd.N_reads' hN11).2.2; have HB11 := Aside0.mk hb11; clear hN11 hb11 hg11) | (go_at_call 13; refine (HTL.out.h13 _ HC11.out HB11.out).mono ?_; rintro e w12 ⟨rfl, hb⟩; have HB12 := Aside0.mk (below_step HB11.out hb); have HC12 := Aside0.mk (Kd.C_below HC11.out hb); clear hb) | (go_at_call 11; refine (HTL.out.h11 _ HC12.out HB12.out).mono ?_; rintro e w13 ⟨rfl, hb⟩; have HB13 := Aside0.mk (below_step HB12.out hb); clear hb))
    go_ret
    exact ⟨rfl, HB13.out⟩
  · obtain ⟨e1, e2⟩ := tableB_parts HTB.out
    have hrn : r0.length = t.f1.length := e2 r0 (List.mem_iff_getElem?.2 ⟨0, HR0.out⟩)
    have hrp : 0 < r0.length := by omega
    have hrz : ¬ ((r0.length : Int) ≤ 0) := by omega
    have hrz2 : (0 : Int) < (r0.length : Int) := by omega
    have HTP := Aside0.mk (row_bad t.f0 t.f1 t.f2 _ hpos (row_kind t.f1 r0 e1 hrn))
    obtain ⟨gx, cx, ex, hgx0, hgx1, _⟩ := Kd.N_form (Kd.R_N HX9.out) hrp
    subst ex
    have hgx2 : w8.heap.size ≤ gx := HX9.out.1 gx rfl
    have HGX := Aside0.mk hgx2
    obtain ⟨cs0, hcl0, _, hcc0, _⟩ := Kd.N_elem (Kd.R_N HX9.out) z36 (0 : Int) (by decide) (by omega)
    have HCL0 := Aside0.mk hcl0
    have HCC0 := Aside0.mk hcc0
    obtain ⟨cs1, hcl1, _, hcc1, _⟩ := Kd.N_elem HR9.out [] (0 : Int) (by decide) (by omega)
    have HCL1 := Aside0.mk hcl1
    have HCC1 := Aside0.mk hcc1
    have hgr6 : gr < s6 := S61.out
    have HGR6 := Aside0.mk hgr6
    have HGRB : Aside0 (b < gr) := ⟨by have := GR.out; have := G4.out; rcases GR2.out with h | h <;> omega⟩
    clear hcl0 hcc0 hcl1 hcc1 hgx0 hgx1 hgx2 e1 e2 hgr6
    go_upto_region 26 with (first | ((with_reducible refine gate_store (t := 36) (p := 94) (v := .tmp 93) rfl ?_); go_loud (refine Kd.N_store k36 (w0 := W) W.heap.size rfl rfl 36 (.tmp 94) (.tmp 93) rfl 36 (o' := 0) (0 : Int) 0 r0 ⟨4, 0, ⟨#[]⟩⟩ (.agg #[.int .i64 4, .int .i64 0, .string ⟨#[]⟩]) [.int .i64 4, .int .i64 0, .string ⟨#[]⟩] cs0 (fun k => w8.heap.size ≤ k) (fun _ => False) ?sa rfl ?sx rfl size36 (by decide) (Kd.R_N HX9.out) (by decide) hrz2 HCL0.out HCC0.out (by decide) ?sm (fun _ hk => hk.elim) HB9.out ?_); (case sa => first | (go_simp; done) | (go_simp; rfl)); (case sx => first | (go_simp; done) | (go_simp; rfl)); (case sm => rw [take_seg HCL0.out rfl]; exact fun W' _ => k36_mk W' ⟨4, 0, ⟨#[]⟩⟩); intro wA hNA hbA hgA; have HXA := Aside0.mk hNA; have HBA := Aside0.mk hbA; have HGA := Aside0.mk hgA; clear hNA hbA hgA))
    have NA := Aside0.mk ((HGA.out.block b (blk_lt N9.out) (fun e => by injection e with e; have := HGX.out; have := S6.out; have := S81.out; omega)).trans N9.out)
    have HMA := Aside0.mk (Kd.N_grown HM9.out HGA.out (fun k hk e => by injection e with e; have := HGX.out; have := S6.out; have := S81.out; omega))
    have HRA := Aside0.mk (Kd.N_grown HR9.out HGA.out (fun k hk e => by injection e with e; have := HGX.out; have := S81.out; omega))
    have HCA := Aside0.mk (Kd.R_grown HC10.out HGA.out (fun k hk e => by injection e with e; have := HGX.out; omega))
    have hcellA : ∀ j u, cs1[j]? = some u → wA.cell? ⟨gr, (0 : Int).toNat * (Kd.slice 36 k36).sz + j, none⟩ = some u := fun j u hu => cell_grown HGA.out (HCC1.out j u hu) (by have := HGX.out; have := HGR6.out; have := S81.out; show gr ≠ gx; omega)
    have HCC2 := Aside0.mk hcellA
    have hbA2 := (blk_cell NA.out 2).trans rfl
    have HKN : Aside0 (∀ k, w8.heap.size ≤ k → (k ≠ b ∧ k ≠ gm) ∧ k ≠ gr) := ⟨fun k hk => by have := S6.out; have := S81.out; have := HGB.out; have := HGR6.out; omega⟩
    clear hcellA HX9 HB9 N9 HM9 HR9 HC10 hb0 hb1 hb2 hf0 hf1 HCC0 HCC1
    go_upto_region 29 with (first | ((with_reducible refine gate_store (t := 34) (p := 98) (v := .tmp 97) rfl ?_); go_loud (refine Kd.N_store (Kd.slice 36 k36) (w0 := W) W.heap.size rfl rfl 34 (.tmp 98) (.tmp 97) rfl 34 (o' := 0) (0 : Int) 0 t.f2 (r0.set 0 ⟨4, 0, ⟨#[]⟩⟩) (.slice (some ⟨gx, 0, none⟩) r0.length cx) [.slice (some ⟨gx, 0, none⟩) r0.length cx] cs1 (fun k => k ≠ b ∧ k ≠ gm) (fun k => w8.heap.size ≤ k) ?sa rfl ?sx rfl size34 (by intro q hq; rw [List.mem_singleton.1 hq]; rfl) (Kd.N_mono HRA.out HOR.out) (by decide) hp6 HCL1.out HCC2.out (Nat.le_refl 1) ?sm HKN.out HBA.out ?_); (case sa => first | (go_simp; done) | (go_simp; rfl)); (case sx => first | (go_simp; done) | (go_simp; rfl)); (case sm => rw [take_seg1 HCL1.out rfl]; exact FK_row HXA.out); intro wB hNB hbB hgB; have HNB := Aside0.mk hNB; have HBB := Aside0.mk hbB; have HGB2 := Aside0.mk hgB; clear hNB hbB hgB))
    have HP : Aside0 (SpPost W wB b i (.slice (some ⟨gm, 0, none⟩) l.length cm)) := ⟨sp_make (t' := ⟨t.f0, t.f1, t.f2.set 0 (r0.set 0 ⟨4, 0, ⟨#[]⟩⟩)⟩) HGM.out HBB.out rfl (List.length_set ..).symm ((HGB2.out.block b (blk_lt NA.out) (fun e => by injection e with e; have := HGRB.out; omega)).trans NA.out) (Kd.N_grown HMA.out HGB2.out (fun k hk e => by injection e with e; have := HGRB.out; omega)) (fun k hk => Nat.ne_of_lt hk) hi (by omega) (Kd.F_grown (Kd.R_F HCA.out) HGB2.out (fun k hk e => by injection e with e; have := HGR6.out; omega)) HCC.out HOC.out (Kd.N_F HNB.out) HCR.out (fun _ hk => hk) (bad_table l i _ hi HTP.out) (ok_set HO.out (ok_rows HTO.out (by rw [List.length_set]; omega)))⟩
    clear HNB HBB HGB2 HMA HRA HCA HXA HBA NA hbA2
    generalize (Value.slice (some ⟨gm, 0, none⟩) l.length cm) = vm0 at *
    obtain ⟨g, cm, ml, t', vc', vr', rfl, hWg, hB, hbx, hN, him, hm9, hFK, hbad, hok⟩ := HP.out.out
    have HTL := Aside0.mk (tail_of W g cm ml.length (ml.set i t') HW.out (List.length_set ..) hm9 hok hbad)
    have hn2 := (Kd.N_reads' hN).1
    obtain ⟨cs, hcl, _, hcc, _⟩ := Kd.N_elem hN z33 (i : Int) (by omega) (by omega)
    have hone : ∀ q ∈ [.string t'.f0, vc', vr'], q.oneCell' = true := k33.K_one (Kd.FK_now hFK)
    have hb0 := (blk_cell hbx 0).trans rfl
    have hb1 := (blk_cell hbx 1).trans rfl
    have hb2 := (blk_cell hbx 2).trans rfl
    have HN := Aside0.mk hN
    have HFK := Aside0.mk hFK
    have HBX := Aside0.mk hB
    have HONE := Aside0.mk hone
    have HCC := Aside0.mk hcc
    have HCL : Aside0 (cs.length = 3) := ⟨hcl⟩
    have hi1 : (i : Int) < (ml.length : Int) := by omega
    clear hN hFK hB hone hcc hcl hbx hok hbad HP
    go_wp2_with (first | ((with_reducible refine gate_store (t := 33) (p := 113) (v := .tmp 112) rfl ?_); refine Kd.N_store k33 (w0 := W) W.heap.size rfl rfl 33 (.tmp 113) (.tmp 112) rfl 33 (o' := i * 3) (i : Int) 0 ml t' (.agg #[.string t'.f0, vc', vr']) [.string t'.f0, vc', vr'] cs (fun k => k ≠ b) (fun k => k ≠ b ∧ k ≠ g) ?sa ?so ?sx rfl size33 HONE.out HN.out (by omega) (by omega) HCL.out HCC.out (Nat.le_refl 3) ?sm (fun k hk => hk) HBX.out ?_; (case sa => first | (go_simp; done) | (go_simp; rfl)); (case so => rw [Int.toNat_natCast]; rfl); (case sx => first | (go_simp; done) | (go_simp; rfl)); (case sm => rw [take_seg HCL.out rfl]; exact HFK.out); intro w11 hN11 hb11 hg11; have HC11 := Aside0.mk (Kd.N_reads' hN11).2.2; have HB11 := Aside0.mk hb11; clear hN11 hb11 hg11) | (go_at_call 13; refine (HTL.out.h13 _ HC11.out HB11.out).mono ?_; rintro e w12 ⟨rfl, hb⟩; have HB12 := Aside0.mk (below_step HB11.out hb); have HC12 := Aside0.mk (Kd.C_below HC11.out hb); clear hb) | (go_at_call 11; refine (HTL.out.h11 _ HC12.out HB12.out).mono ?_; rintro e w13 ⟨rfl, hb⟩; have HB13 := Aside0.mk (below_step HB12.out hb); clear hb))
    go_ret
    exact ⟨rfl, HB13.out⟩
  · obtain ⟨e1, e2⟩ := tableB_parts HTB.out
    have hcp : 0 < t.f1.length := e1
    have hcz : ¬ ((t.f1.length : Int) ≤ 0) := by omega
    have hcz2 : (0 : Int) < (t.f1.length : Int) := by omega
    obtain ⟨gc, ccx, ex, _, _, _⟩ := Kd.N_form (Kd.R_N HC10.out) hcp
    simp only [Value.slice.injEq, true_and] at ex
    obtain ⟨rfl, rfl⟩ := ex
    have HGC : Aside0 (s6 ≤ gc ∧ gc < w8.heap.size) := ⟨HC10.out.1 gc rfl⟩
    obtain ⟨cs0, hcl0, hF0, hcc0, hfr0⟩ := Kd.N_elem (Kd.R_N HC10.out) z38 (0 : Int) (by decide) hcz2
    rw [getD_zero hcp] at hF0
    have e0 := k38_open (Kd.FK_now hF0)
    subst e0
    have hcd0 : w9.drew.cell? ⟨gc, 0, none⟩ = some (.string t.f1[0].f0) := hcc0 0 _ rfl
    have hcd1 : w9.drew.cell? ⟨gc, 1, none⟩ = some (.int .i64 t.f1[0].f1) := hcc0 1 _ rfl
    have hn0 : t.f1[0].f0.size ≤ maxLen := HTO.out.2.2.2.1 _ (List.getElem_mem hcp)
    have HN0 := Aside0.mk hn0
    have HBAD := Aside0.mk (cols_dup t.f0 t.f1 t.f2 hcp)
    have HCD : Aside0 (Kd.R k38 38 w9.drew W.heap.size (fun k => s6 ≤ k) (.slice (some ⟨gc, 0, none⟩) t.f1.length cc) t.f1) := ⟨Kd.R_below (Kd.R_mono HC10.out (fun _ hk => hk.1)) (below_drew (Below.refl _ _))⟩
    have HBD : Aside0 (Below W.heap.size W w9.drew) := ⟨below_drew HB9.out⟩
    clear hcl0 hcc0 hF0 hfr0 e1 e2 hn0
    generalize t.f1[0] = c0 at *
    go_upto_region 28 with fail
    refine start_ (n := 10) (S := fun w' => w'.cell? ⟨b, 1, none⟩ = some (.slice (some ⟨gc, 0, none⟩) t.f1.length cc) ∧ w'.cell? ⟨gc, 0, none⟩ = some (.string c0.f0) ∧ w'.cell? ⟨gc, 1, none⟩ = some (.int .i64 c0.f1)) (ds := [7, 9]) #[false, false, false, false, false, false, false, false, false, false] (by kernel_rfl) rfl rfl ⟨(blk_cell (blk_drew N9.out) 1).trans rfl, hcd0, hcd1⟩ (fun hHeld => ?_)
    refine pure_ (i := 0) (N := some 101) (v := ?_) (a' := ?_) #[true, false, false, false, false, false, false, false, false, false] rfl rfl (by kernel_rfl) (fun _ _ _ h => h) (Or.inl ⟨by rfl, ?_⟩) ?_ ?_
    rotate_left
    · intro w'
      go_simp
      with_reducible rfl
    rotate_left
    · simp only [Act.put, List.setIfInBounds_toArray, List.set_cons_zero, List.set_cons_succ, i64_w, i32_w]
      rfl
    refine pure_ (i := 2) (N := some 103) (v := ?_) (a' := ?_) #[true, false, true, false, false, false, false, false, false, false] rfl rfl (by kernel_rfl) (fun _ _ _ h => h) (Or.inl ⟨by rfl, ?_⟩) ?_ ?_
    rotate_left
    · intro w'
      go_simp
      with_reducible rfl
    rotate_left
    · simp only [Act.put, List.setIfInBounds_toArray, List.set_cons_zero, List.set_cons_succ, i64_w, i32_w]
      rfl
    refine take_ (i := 1) (N := some 102) (v := ?_) (a' := ?_) #[true, true, true, false, false, false, false, false, false, false] rfl rfl (by kernel_rfl) (fun _ _ _ h => h) (Or.inl ⟨by rfl, ?_⟩) hHeld ?_ ?_
    rotate_left
    · rintro w' ⟨s0, s1, s2⟩
      go_simp
      with_reducible rfl
    rotate_left
    · simp only [Act.put, List.setIfInBounds_toArray, List.set_cons_zero, List.set_cons_succ, i64_w, i32_w]
      rfl
    refine take_ (i := 3) (N := some 104) (v := ?_) (a' := ?_) #[true, true, true, true, false, false, false, false, false, false] rfl rfl (by kernel_rfl) (fun _ _ _ h => h) (Or.inl ⟨by rfl, ?_⟩) hHeld ?_ ?_
    rotate_left
    · rintro w' ⟨s0, s1, s2⟩
      go_simp
      with_reducible rfl
    rotate_left
    · simp only [Act.put, List.setIfInBounds_toArray, List.set_cons_zero, List.set_cons_succ, i64_w, i32_w]
      rfl
    refine pure_ (i := 4) (N := some 105) (v := ?_) (a' := ?_) #[true, true, true, true, true, false, false, false, false, false] rfl rfl (by kernel_rfl) (fun _ _ _ h => h) (Or.inl ⟨by rfl, ?_⟩) ?_ ?_
    rotate_left
    · intro w'
      go_simp
      with_reducible rfl
    rotate_left
    · simp only [Act.put, List.setIfInBounds_toArray, List.set_cons_zero, List.set_cons_succ, i64_w, i32_w]
      rfl
    refine take_ (i := 5) (N := some 106) (v := ?_) (a' := ?_) #[true, true, true, true, true, true, false, false, false, false] rfl rfl (by kernel_rfl) (fun _ _ _ h => h) (Or.inl ⟨by rfl, ?_⟩) hHeld ?_ ?_
    rotate_left
    · rintro w' ⟨s0, s1, s2⟩
      go_simp
      with_reducible rfl
    rotate_left
    · simp only [Act.put, List.setIfInBounds_toArray, List.set_cons_zero, List.set_cons_succ, i64_w, i32_w]
      rfl
    refine one_ (i := 6) (N := some 107) #[true, true, true, true, true, true, true, false, false, false] rfl rfl (by kernel_rfl) (by decide) (fun K hK => ?_)
    refine value_ (w1 := ?_) (v := ?_) (by rfl) rfl ?_ ?_
    rotate_left 2
    · go_simp
      constructor
      · rfl
      · rfl
    refine hK.out _ _ ⟨cells_a0 hHeld.1, cells_a0 hHeld.2.1, cells_a0 hHeld.2.2⟩ (fun hHeld => ?_)
    clear hK K
    refine norm_ (a' := ?_) ?_ ?_
    rotate_left
    · show Act.put _ (some 107) _ = _
      simp only [Act.put, List.setIfInBounds_toArray, List.set_cons_zero, List.set_cons_succ, i64_w, i32_w]
      rfl
    refine last_ (i := 7) (N := some 108) #[true, true, true, true, true, true, true, true, false, false] rfl rfl (by kernel_rfl) (by decide) (fun K hK => ?_)
    refine Kd.R_append_step k38 (w0 := W) W.heap.size (by rfl) (.tmp 102) (.tmp 107) 30 38 (.agg #[(.string ⟨#[]⟩), (.int .i64 0)]) 24 (by rfl) Try.underlying30 info38 rfl (by decide) (by decide) (.slice (some ⟨gc, 0, none⟩) t.f1.length cc) t.f1 c0 [.string c0.f0, .int .i64 c0.f1] (fun k => s6 ≤ k) (fun _ => False) (by rfl) (by rfl) (k38_mkM _ _ _ c0) (fun _ hk => hk.elim) ?aF HCD.out HBD.out HBD.out.size ?aL ?_
    (case aF => exact fun k_ hk_ => by have h9 : w9.heap.size ≤ k_ := hk_; have := S9.out; have := S81.out; omega)
    (case aL => have := HT.out.1; omega)
    intro v6 wC hV6 hB6 hg6 hat6
    obtain ⟨A6, c6, e6⟩ := Kd.R_slice hV6
    subst e6
    have g6 : wC.heap[b]? = some (.cells #[.string t.f0, .slice (some ⟨gc, 0, none⟩) t.f1.length cc, .slice (some ⟨gr, 0, none⟩) t.f2.length cr] 33 (0, 0)) := (hg6.block b (blk_lt (blk_drew N9.out)) (fun e => by have e2 : b = gc := (by simpa [Value.ownBlock] using e); have := HGC.out.1; have := S6.out; omega)).trans (blk_drew N9.out)
    refine hK.out _ _ ?_
    clear hK K
    refine norm_ (a' := ?_) ?_ ?_
    rotate_left
    · show Act.put _ (some 108) _ = _
      simp only [Act.put, List.setIfInBounds_toArray, List.set_cons_zero, List.set_cons_succ, i64_w, i32_w]
      rfl
    refine pure_ (i := 8) (N := some 109) (v := ?_) (a' := ?_) #[true, true, true, true, true, true, true, true, true, false] rfl rfl (by kernel_rfl) (fun _ _ _ h => h) (Or.inl ⟨by rfl, ?_⟩) ?_ ?_
    rotate_left
    · intro w'
      go_simp
      with_reducible rfl
    rotate_left
    · simp only [Act.put, List.setIfInBounds_toArray, List.set_cons_zero, List.set_cons_succ, i64_w, i32_w]
      rfl
    refine last_ (i := 9) (N := none) #[true, true, true, true, true, true, true, true, true, true] rfl rfl (by kernel_rfl) (by decide) (fun K hK => ?_)
    have hs20 := (blk_cell g6 1).trans rfl
    have hfs20 := blk_frozen g6 1
    refine skip_ (w1 := ?_) (by rfl) rfl ?_ ?_
    rotate_left
    · go_simp
      rfl
    refine hK.out _ _ ?_
    clear hK K
    refine done_ (by kernel_rfl) ?_
    have HGA : Aside0 (w9.drew.grownBy wC (some gc)) := ⟨hg6⟩
    have HXA := Aside0.mk hV6
    have HBA := Aside0.mk hB6
    have GC6 := Aside0.mk g6
    clear hg6 hV6 hB6 g6 hat6 hcd0 hcd1
    go_upto_region 29 with fail
    have HP : Aside0 (SpPost W (wC.setCell ⟨b, 1, none⟩ (.slice A6 (t.f1.length + 1) c6)) b i (.slice (some ⟨gm, 0, none⟩) l.length cm)) := ⟨sp_make (t' := ⟨t.f0, t.f1 ++ [c0], t.f2⟩) HGM.out (below_set HBA.out G4.out) (by rw [List.length_append]; rfl) rfl ((blk_set GC6.out 1 _).trans rfl) (Kd.N_far (p := ⟨b, 1, none⟩) (Kd.N_grown (Kd.N_drew HM9.out) HGA.out (fun k hk e => by injection e with e; have := HGC.out.1; have := S6.out; omega)) (fun k hk => Nat.ne_of_lt hk) _) (fun k hk => Nat.ne_of_lt hk) hi (by omega) (by have h1 := Kd.F_far (p := ⟨b, 1, none⟩) (Kd.R_F HXA.out) (fun k hk => by have := S6.out; show k ≠ b; omega) (.slice A6 (t.f1.length + 1) c6); rw [List.length_append] at h1; exact h1) (by have h1 := (Kd.N_reads' (Kd.R_N HXA.out)).2.1; rw [List.length_append] at h1; exact h1) (fun k hk => by have := S6.out; have := HGB.out; omega) (Kd.F_far (p := ⟨b, 1, none⟩) (Kd.F_grown (Kd.F_drew (Kd.N_F HR9.out)) HGA.out (fun k hk e => by injection e with e; have := HGC.out.1; omega)) (fun k hk => (HOR.out k hk).1) _) HCR.out HOR.out (bad_table l i _ hi HBAD.out) (ok_set HO.out (ok_cols HTO.out (by rw [List.length_append]; have := HT.out.1; show t.f1.length + 1 ≤ _; omega) (fun x hx => by rcases List.mem_append.1 hx with h1 | h1; exact HTO.out.2.2.2.1 x h1; rw [List.mem_singleton.1 h1]; exact HN0.out)))⟩
    clear HXA HBA HGA GC6 HM9 HR9 HC10 HX9 HB9 N9 hb0 hb1 hb2 hf0 hf1 HCD HBD
    generalize wC.setCell ⟨b, 1, none⟩ (.slice A6 (t.f1.length + 1) c6) = wx at *
    generalize (Value.slice (some ⟨gm, 0, none⟩) l.length cm) = vm0 at *
    obtain ⟨g, cm, ml, t', vc', vr', rfl, hWg, hB, hbx, hN, him, hm9, hFK, hbad, hok⟩ := HP.out.out
    have HTL := Aside0.mk (tail_of W g cm ml.length (ml.set i t') HW.out (List.length_set ..) hm9 hok hbad)
    have hn2 := (Kd.N_reads' hN).1
    obtain ⟨cs, hcl, _, hcc, _⟩ := Kd.N_elem hN z33 (i : Int) (by omega) (by omega)
    have hone : ∀ q ∈ [.string t'.f0, vc', vr'], q.oneCell' = true := k33.K_one (Kd.FK_now hFK)
    have hb0 := (blk_cell hbx 0).trans rfl
    have hb1 := (blk_cell hbx 1).trans rfl
    have hb2 := (blk_cell hbx 2).trans rfl
    have HN := Aside0.mk hN
    have HFK := Aside0.mk hFK
    have HBX := Aside0.mk hB
    have HONE := Aside0.mk hone
    have HCC := Aside0.mk hcc
    have HCL : Aside0 (cs.length = 3) := ⟨hcl⟩
    have hi1 : (i : Int) < (ml.length : Int) := by omega
    clear hN hFK hB hone hcc hcl hbx hok hbad HP
    go_wp2_with (first | ((with_reducible refine gate_store (t := 33) (p := 113) (v := .tmp 112) rfl ?_); refine Kd.N_store k33 (w0 := W) W.heap.size rfl rfl 33 (.tmp 113) (.tmp 112) rfl 33 (o' := i * 3) (i : Int) 0 ml t' (.agg #[.string t'.f0, vc', vr']) [.string t'.f0, vc', vr'] cs (fun k => k ≠ b) (fun k => k ≠ b ∧ k ≠ g) ?sa ?so ?sx rfl size33 HONE.out HN.out (by omega) (by omega) HCL.out HCC.out (Nat.le_refl 3) ?sm (fun k hk => hk) HBX.out ?_; (case sa => first | (go_simp; done) | (go_simp; rfl)); (case so => rw [Int.toNat_natCast]; rfl); (case sx => first | (go_simp; done) | (go_simp; rfl)); (case sm => rw [take_seg HCL.out rfl]; exact HFK.out); intro w11 hN11 hb11 hg11; have HC11 := Aside0.mk (Kd.N_reads' hN11).2.2; have HB11 := Aside0.mk hb11; clear hN11 hb11 hg11) | (go_at_call 13; refine (HTL.out.h13 _ HC11.out HB11.out).mono ?_; rintro e w12 ⟨rfl, hb⟩; have HB12 := Aside0.mk (below_step HB11.out hb); have HC12 := Aside0.mk (Kd.C_below HC11.out hb); clear hb) | (go_at_call 11; refine (HTL.out.h11 _ HC12.out HB12.out).mono ?_; rintro e w13 ⟨rfl, hb⟩; have HB13 := Aside0.mk (below_step HB12.out hb); clear hb))
    go_ret
    exact ⟨rfl, HB13.out⟩
  · obtain ⟨e1, e2⟩ := tableB_parts HTB.out
    have hcp : 0 < t.f1.length := e1
    have hcz : ¬ ((t.f1.length : Int) ≤ 0) := by omega
    have hcz2 : (0 : Int) < (t.f1.length : Int) := by omega
    obtain ⟨gc, ccx, ex, _, _, _⟩ := Kd.N_form (Kd.R_N HC10.out) hcp
    simp only [Value.slice.injEq, true_and] at ex
    obtain ⟨rfl, rfl⟩ := ex
    have HGC : Aside0 (s6 ≤ gc ∧ gc < w8.heap.size) := ⟨HC10.out.1 gc rfl⟩
    obtain ⟨cs0, hcl0, hF0, hcc0, hfr0⟩ := Kd.N_elem (Kd.R_N HC10.out) z38 (0 : Int) (by decide) hcz2
    rw [getD_zero hcp] at hF0
    have e0 := Aside0.mk (k38_open (Kd.FK_now hF0))
    have HCL0 := Aside0.mk hcl0
    have HCC0 := Aside0.mk hcc0
    have hn0 : t.f1[0].f0.size ≤ maxLen := HTO.out.2.2.2.1 _ (List.getElem_mem hcp)
    have HN0 := Aside0.mk hn0
    have HBAD := Aside0.mk (cols_kind t.f0 t.f1 t.f2 t.f1[0].f0 hcp)
    clear hcl0 hcc0 hF0 hfr0 e1 e2 hn0
    generalize t.f1[0] = c0 at *
    go_upto_region 29 with (first | ((with_reducible refine gate_store (t := 3) (p := 70) (v := .const (.int .i64 0)) rfl ?_); go_loud (refine Kd.N_store k38 (w0 := W) W.heap.size rfl rfl 3 (.tmp 70) (.const (.int .i64 0)) rfl 38 (o' := 1) (0 : Int) 1 t.f1 ⟨c0.f0, 0⟩ (.int .i64 0) [.int .i64 0] cs0 (fun k => s6 ≤ k ∧ k < w8.heap.size) (fun _ => False) ?sa rfl ?sx rfl size3 (by decide) (Kd.R_N HC10.out) (by decide) hcz2 HCL0.out HCC0.out (Nat.le_refl 2) ?sm (fun _ hk => hk.elim) HB9.out ?_); (case sa => first | (go_simp; done) | (go_simp; rfl)); (case sx => first | (go_simp; done) | (go_simp; rfl)); (case sm => rw [e0.out]; exact fun W' _ => k38_mk W' ⟨c0.f0, 0⟩); intro wA hNA hbA hgA; have HXA := Aside0.mk hNA; have HBA := Aside0.mk hbA; have HGA := Aside0.mk hgA; clear hNA hbA hgA))
    have HP : Aside0 (SpPost W wA b i (.slice (some ⟨gm, 0, none⟩) l.length cm)) := ⟨sp_make (t' := ⟨t.f0, t.f1.set 0 ⟨c0.f0, 0⟩, t.f2⟩) HGM.out HBA.out (List.length_set ..).symm rfl ((HGA.out.block b (blk_lt N9.out) (fun e => by injection e with e; have := HGC.out.1; have := S6.out; omega)).trans N9.out) (Kd.N_grown HM9.out HGA.out (fun k hk e => by injection e with e; have := HGC.out.1; have := S6.out; omega)) (fun k hk => Nat.ne_of_lt hk) hi (by omega) (Kd.N_F HXA.out) HCC.out HOC.out (Kd.F_grown (Kd.N_F HR9.out) HGA.out (fun k hk e => by injection e with e; have := HGC.out.1; omega)) HCR.out HOR.out (bad_table l i _ hi HBAD.out) (ok_set HO.out (ok_cols HTO.out (by rw [List.length_set]; exact HTO.out.2.1) (fun x hx => by rcases List.mem_or_eq_of_mem_set hx with h1 | h1; exact HTO.out.2.2.2.1 x h1; rw [h1]; exact HN0.out)))⟩
    clear HXA HBA HGA HM9 HR9 HC10 HX9 HB9 N9 hb0 hb1 hb2 hf0 hf1 HCC0
    generalize (Value.slice (some ⟨gm, 0, none⟩) l.length cm) = vm0 at *
    obtain ⟨g, cm, ml, t', vc', vr', rfl, hWg, hB, hbx, hN, him, hm9, hFK, hbad, hok⟩ := HP.out.out
    have HTL := Aside0.mk (tail_of W g cm ml.length (ml.set i t') HW.out (List.length_set ..) hm9 hok hbad)
    have hn2 := (Kd.N_reads' hN).1
    obtain ⟨cs, hcl, _, hcc, _⟩ := Kd.N_elem hN z33 (i : Int) (by omega) (by omega)
    have hone : ∀ q ∈ [.string t'.f0, vc', vr'], q.oneCell' = true := k33.K_one (Kd.FK_now hFK)
    have hb0 := (blk_cell hbx 0).trans rfl
    have hb1 := (blk_cell hbx 1).trans rfl
    have hb2 := (blk_cell hbx 2).trans rfl
    have HN := Aside0.mk hN
    have HFK := Aside0.mk hFK
    have HBX := Aside0.mk hB
    have HONE := Aside0.mk hone
    have HCC := Aside0.mk hcc
    have HCL : Aside0 (cs.length = 3) := ⟨hcl⟩
    have hi1 : (i : Int) < (ml.length : Int) := by omega
    clear hN hFK hB hone hcc hcl hbx hok hbad HP
    go_wp2_with (first | ((with_reducible refine gate_store (t := 33) (p := 113) (v := .tmp 112) rfl ?_); refine Kd.N_store k33 (w0 := W) W.heap.size rfl rfl 33 (.tmp 113) (.tmp 112) rfl 33 (o' := i * 3) (i : Int) 0 ml t' (.agg #[.string t'.f0, vc', vr']) [.string t'.f0, vc', vr'] cs (fun k => k ≠ b) (fun k => k ≠ b ∧ k ≠ g) ?sa ?so ?sx rfl size33 HONE.out HN.out (by omega) (by omega) HCL.out HCC.out (Nat.le_refl 3) ?sm (fun k hk => hk) HBX.out ?_; (case sa => first | (go_simp; done) | (go_simp; rfl)); (case so => rw [Int.toNat_natCast]; rfl); (case sx => first | (go_simp; done) | (go_simp; rfl)); (case sm => rw [take_seg HCL.out rfl]; exact HFK.out); intro w11 hN11 hb11 hg11; have HC11 := Aside0.mk (Kd.N_reads' hN11).2.2; have HB11 := Aside0.mk hb11; clear hN11 hb11 hg11) | (go_at_call 13; refine (HTL.out.h13 _ HC11.out HB11.out).mono ?_; rintro e w12 ⟨rfl, hb⟩; have HB12 := Aside0.mk (below_step HB11.out hb); have HC12 := Aside0.mk (Kd.C_below HC11.out hb); clear hb) | (go_at_call 11; refine (HTL.out.h11 _ HC12.out HB12.out).mono ?_; rintro e w13 ⟨rfl, hb⟩; have HB13 := Aside0.mk (below_step HB12.out hb); clear hb))
    go_ret
    exact ⟨rfl, HB13.out⟩
theorem spoils_row (W : World) (hw : ShB W) (A : Option Addr) (c : Nat) (l : List S33) (a h : Int) (hr : Kd.C k33 W A l.length l) (hc : l.length ≤ c) (hl : szL 64 sz33 l) (ha : (Lit.int .i64 a).wf = true) (hh : (Lit.int .i64 h).wf = true) :
    Calls Try.prog 5 #[.slice A l.length c, .int .i64 a, .int .i64 h] W fun e w' => e = .returned (.bool true) ∧ Below W.heap.size W w' := by
  obtain ⟨h1, h2, h3⟩ := hl
  have ho : ∀ t ∈ l, okT t := fun t ht => sz33_ok (h1 t ht)
  cases hq : rightB l
  · exact spoils_no1 W A c l a h hw hr (by omega) ho hq
  · by_cases hz : l.length = 0
    · have e : l = [] := List.eq_nil_of_length_eq_zero hz
      subst e
      exact spoils_no2 W A c a h hw
    · exact spoils_walk W A c l a h hw hr hc ho hq hz ha hh

end Go.Proofs.Ytkogfjphpklioaa.QStoreNames
