import Derived.Test.YtkogfjphpklioaaStS
/- Store: walks by hand; the conditions stand in each theorem. -/
namespace Go.Proofs.Ytkogfjphpklioaa.QStoreNames
open Go.RowKit Go.Proofs.YtkogfjphpklioaaW.PrintWords Go.Proofs.YtkogfjphpklioaaW.PrintLast Go.Proofs.YtkogfjphpklioaaW.PrintMore
attribute [local go_sem] max2_int min2_int max_two min_two max_three min_three max_four min_four
set_option linter.unusedVariables false
set_option linter.unusedSimpArgs false
structure OpBox (wr wx : World) (b : Nat) (t : S33) : Prop where
  out : ∃ Ac cc, wx.heap[b]? = some (.cells #[.string t.f0, .slice Ac t.f1.length cc, .slice none 0 0] 33 (0, 0)) ∧ Kd.R k38 38 wx wr.heap.size (fun k => wr.heap.size ≤ k ∧ k < wx.heap.size ∧ k ≠ b) (.slice Ac t.f1.length cc) t.f1 ∧ Below wr.heap.size wr wx ∧ wr.heap.size ≤ b ∧ b < wx.heap.size
theorem op_A {wr w7 : World} {t : S33} {Ac : Option Addr} {cc : Nat} (hm : Kd.R k38 38 w7 wr.heap.size (fun k => wr.heap.size ≤ k) (.slice Ac t.f1.length cc) t.f1) (hb : Below wr.heap.size wr w7) : OpBox wr (w7.alloc (.cells #[.string t.f0, .slice Ac t.f1.length cc, .slice none 0 0] 33)) w7.heap.size t := by
  have hs : (w7.alloc (.cells #[.string t.f0, .slice Ac t.f1.length cc, .slice none 0 0] 33)).heap.size = w7.heap.size + 1 := by simp
  refine ⟨Ac, cc, blk_new _ _, Kd.R_mono (Kd.R_alloc (Kd.R_bound hm) _) (fun k hk => ⟨hk.1, by rw [hs]; have := hk.2.2.1; omega, by have := hk.2.2.1; omega⟩), below_alloc hb _, hb.size, by omega⟩
theorem cells_set {w : World} {p q : Addr} {u v : Value} (h : w.cell? p = some v) (hne : p.block ≠ q.block) : (w.setCell q u).cell? p = some v := by
  rw [World.cell?_setCell_other _ _ _ _ (fun e => hne (by rw [e]))]
  exact h
theorem cells_grown0 {w w1 : World} {p : Addr} {v : Value} (hg : w.grownBy w1 (Value.slice none 0 0).ownBlock) (h : w.cell? p = some v) : w1.cell? p = some v := by
  have h1 := World.block_lt_of_cell? w _ h
  have h2 := hg.block p.block h1 (by simp [Value.ownBlock])
  have : w1.cell? p = w.cell? p := by simp [World.cell?, h2]
  rw [this]
  exact h
theorem cells_swap {wr w : World} {n : Nat} {o o' : Obj} {p : Addr} {v : Value} (h : (w.alloc o).cell? p = some v) (hb : Below n wr w) (hp : p.block < wr.heap.size) : (w.alloc o').cell? p = some v := by
  have h1 : p.block < w.heap.size := Nat.lt_of_lt_of_le hp hb.size
  have e1 := Below.heap_alloc w o p.block h1
  have e2 := Below.heap_alloc w o' p.block h1
  have : (w.alloc o').cell? p = (w.alloc o).cell? p := by simp [World.cell?, e1, e2]
  rw [this]
  exact h
theorem op_B {wr w7 : World} {t : S33} {Ac : Option Addr} {cc : Nat} {a0 a1 a2 : Value} (hbx : w7.heap[wr.heap.size]? = some (.cells #[a0, a1, a2] 33 (0, 0))) (hm : Kd.R k38 38 w7 wr.heap.size (fun k => wr.heap.size + 1 ≤ k) (.slice Ac t.f1.length cc) t.f1) (hb : Below wr.heap.size wr w7) :
    OpBox wr (((w7.setCell ⟨wr.heap.size, 0, none⟩ (.string t.f0)).setCell ⟨wr.heap.size, 1, none⟩ (.slice Ac t.f1.length cc)).setCell ⟨wr.heap.size, 2, none⟩ (.slice none 0 0)) wr.heap.size t := by
  have h0 := (blk_set hbx 0 (.string t.f0)).trans rfl
  have h1 := (blk_set h0 1 (.slice Ac t.f1.length cc)).trans rfl
  have h2 := (blk_set h1 2 (.slice none 0 0)).trans rfl
  have hne : ∀ k, wr.heap.size + 1 ≤ k → k ≠ wr.heap.size := fun k hk => by omega
  have hm2 := Kd.R_far (p := ⟨wr.heap.size, 2, none⟩) (Kd.R_far (p := ⟨wr.heap.size, 1, none⟩) (Kd.R_far (p := ⟨wr.heap.size, 0, none⟩) hm hne (.string t.f0)) hne (.slice Ac t.f1.length cc)) hne (.slice none 0 0)
  refine ⟨Ac, cc, h2, Kd.R_mono (Kd.R_bound hm2) (fun k hk => ⟨by have := hk.1; omega, hk.2.2.1, by have := hk.1; omega⟩), below_set (below_set (below_set hb (Nat.le_refl _)) (Nat.le_refl _)) (Nat.le_refl _), Nat.le_refl _, blk_lt h2⟩
structure OpRow (wr wx : World) (b s1 : Nat) (Ac : Option Addr) (cc : Nat) (t : S33) (j : Nat) (vr : Value) : Prop where
  blk : wx.heap[b]? = some (.cells #[.string t.f0, .slice Ac t.f1.length cc, vr] 33 (0, 0))
  col : Kd.R k38 38 wx wr.heap.size (fun k => wr.heap.size ≤ k ∧ k < s1 ∧ k ≠ b) (.slice Ac t.f1.length cc) t.f1
  row : Kd.R (Kd.slice 36 k36) 34 wx wr.heap.size (fun k => s1 ≤ k) vr (t.f2.take j)
  bel : Below wr.heap.size wr wx
  sz : s1 ≤ wx.heap.size
theorem op_row {wr wq w5 : World} {b s1 j : Nat} {Ac : Option Addr} {cc : Nat} {t : S33} {vr v5 : Value} {r : List S36} (h : OpRow wr wq b s1 Ac cc t j vr) (hbs : b < s1) (hm : Kd.R k36 36 w5 wq.heap.size (fun _ => True) v5 r) (hb : Below wq.heap.size wq w5) :
    (Kd.slice 36 k36).M w5 wr.heap.size (fun k => s1 ≤ k ∧ some k ≠ vr.ownBlock) r [v5] ∧ OpRow wr w5 b s1 Ac cc t j vr ∧ b < w5.heap.size := by
  have h1 := h.sz
  have h2 := hb.size
  have h3 := h.bel.size
  refine ⟨Kd.M_row (Kd.R_mono (Kd.R_lower (Kd.R_bound hm) h3) (fun k hk => ⟨by have := hk.2.1; omega, fun e => by have h4 := ((Kd.R_bound h.row).1 k e.symm).2.2.1; have := hk.2.1; omega⟩)), ⟨(hb.block b (by omega)).trans h.blk, Kd.R_below h.col hb, Kd.R_below h.row hb, below_step h.bel hb, by omega⟩, by omega⟩
theorem op_put {wr w5 w6 : World} {b s1 j : Nat} {Ac : Option Addr} {cc : Nat} {t : S33} {vr v6 : Value} (h : OpRow wr w5 b s1 Ac cc t j vr) (hbs : b < s1) (hwb : wr.heap.size ≤ b) (hm : Kd.R (Kd.slice 36 k36) 34 w6 wr.heap.size (fun k => s1 ≤ k) v6 (t.f2.take (j + 1))) (hb : Below wr.heap.size wr w6) (hg : w5.grownBy w6 vr.ownBlock) : OpRow wr (w6.setCell ⟨b, 2, none⟩ v6) b s1 Ac cc t (j + 1) v6 := by
  have h1 := h.sz
  have h2 := hg.size
  have h3 : ∀ k, vr.ownBlock = some k → s1 ≤ k := fun k hk => h.row.1 k hk
  have hB6 : w6.heap[b]? = some (.cells #[.string t.f0, .slice Ac t.f1.length cc, vr] 33 (0, 0)) := (hg.block b (by omega) (fun e => by have := h3 b e.symm; omega)).trans h.blk
  refine ⟨(blk_set hB6 2 v6).trans rfl, Kd.R_far (p := ⟨b, 2, none⟩) (Kd.R_grown h.col hg (fun k hk e => by have := h3 k e.symm; omega)) (fun k hk => hk.2.2) v6, Kd.R_far (p := ⟨b, 2, none⟩) hm (fun k hk => by show k ≠ b; omega) v6, below_set hb hwb, by simpa using Nat.le_trans h1 h2⟩
theorem op_elem {w0 wx : World} {b s1 : Nat} {Ac Ar : Option Addr} {cc cr n : Nat} {t : S33} (h : OpRow w0 wx b s1 Ac cc t t.f2.length (.slice Ar n cr)) (hn : n = t.f2.length) : k33.M wx w0.heap.size (fun k => w0.heap.size ≤ k) t [.string t.f0, .slice Ac t.f1.length cc, .slice Ar n cr] := by
  subst hn
  have h1 := h.row
  rw [List.take_length] at h1
  refine k33_mkM _ _ _ _ (Kd.R_mono h.col (fun _ hk => hk.1)) (Kd.R_mono (Kd.R_bound h1) (fun _ hk => hk.2.1))
def Alive (w : World) (q ty n : Nat) : Prop := ∃ cells : Array Value, w.heap[q]? = some (.cells cells ty (0, 0)) ∧ n ≤ cells.size
theorem Alive.set {w : World} {q ty n : Nat} (h : Alive w q ty n) (p o : Nat) (u : Value) : Alive (w.setCell ⟨p, o, none⟩ u) q ty n := by
  obtain ⟨cells, h1, h2⟩ := h
  by_cases e : q = p
  · subst e
    exact ⟨_, blk_set h1 o u, by simpa using h2⟩
  · exact ⟨cells, (Below.heap_setCell w ⟨p, o, none⟩ u q e).trans h1, h2⟩
theorem Alive.ne {w : World} {q q' ty ty' n n' : Nat} (h : Alive w q ty n) (h' : Alive w q' ty' n') (ht : ty ≠ ty') : q ≠ q' := by
  rintro rfl
  obtain ⟨c1, h1, _⟩ := h
  obtain ⟨c2, h2, _⟩ := h'
  rw [h1] at h2
  injection h2 with h2
  injection h2 with _ h2
  exact ht h2
theorem Alive.cell {w : World} {q ty n : Nat} (h : Alive w q ty n) (o : Nat) (ho : o < n) : ∃ x, w.cell? ⟨q, o, none⟩ = some x ∧ w.frozen? ⟨q, o, none⟩ = false := by
  obtain ⟨cells, h1, h2⟩ := h
  exact ⟨cells[o]'(by omega), (blk_cell h1 o).trans (Array.getElem?_eq_getElem _), blk_frozen h1 o⟩
structure RowS (w : World) (b0 sO : Nat) (Ar : Option Addr) (k : Nat) (r : List S36) : Prop where
  out : ∃ gr gx cx, Ar = some ⟨gr, 0, none⟩ ∧ Alive w gr 34 0 ∧ w.cell? ⟨gr, k, none⟩ = some (.slice (some ⟨gx, 0, none⟩) r.length cx) ∧ Alive w gx 36 3 ∧ b0 ≤ gx ∧ gx < sO
structure TabS (w : World) (b0 sO go i : Nat) (t : S33) : Prop where
  out : ∃ gc cc Ar cr, w.cell? ⟨go, i * 3 + 1, none⟩ = some (.slice (some ⟨gc, 0, none⟩) t.f1.length cc) ∧ w.cell? ⟨go, i * 3 + 2, none⟩ = some (.slice Ar t.f2.length cr) ∧ Alive w gc 38 2 ∧ b0 ≤ gc ∧ gc < sO ∧ ∀ (k : Nat) (h : k < t.f2.length), RowS w b0 sO Ar k t.f2[k]
structure PW (W w13 w : World) (go sO : Nat) (l : List S33) : Prop where
  own : Alive w go 33 (l.length * 3)
  tab : ∀ (i : Nat) (h : i < l.length), TabS w W.heap.size sO go i l[i]
  fr : ∀ j, sO ≤ j → w.heap[j]? = w13.heap[j]?
  bel : Below W.heap.size W w
  sz : w.heap.size = w13.heap.size
theorem RowS.set {w : World} {b0 sO : Nat} {Ar : Option Addr} {k : Nat} {r : List S36} (h : RowS w b0 sO Ar k r) {p o ty n : Nat} (hp : Alive w p ty n) (ht : ty ≠ 34) (u : Value) : RowS (w.setCell ⟨p, o, none⟩ u) b0 sO Ar k r := by
  obtain ⟨gr, gx, cx, e, h1, h2, h3, h4, h5⟩ := h.out
  exact ⟨gr, gx, cx, e, h1.set _ _ _, cells_set h2 (h1.ne hp (Ne.symm ht)), h3.set _ _ _, h4, h5⟩
theorem PW.set {W w13 w : World} {go sO : Nat} {l : List S33} (h : PW W w13 w go sO l) {p o ty n : Nat} (hp : Alive w p ty n) (ht : ty ≠ 34) (hgo : ty ≠ 33 ∨ (p = go ∧ ∃ i, o = i * 3)) (h0 : W.heap.size ≤ p) (h1 : p < sO) (u : Value) : PW W w13 (w.setCell ⟨p, o, none⟩ u) go sO l := by
  refine ⟨h.own.set _ _ _, fun i hi => ?_, fun j hj => (Below.heap_setCell w ⟨p, o, none⟩ u j (by show j ≠ p; omega)).trans (h.fr j hj), below_set h.bel h0, by simpa using h.sz⟩
  obtain ⟨gc, cc, Ar, cr, q1, q2, q3, q4, q5, q6⟩ := (h.tab i hi).out
  have hne : ∀ m v, (m = 1 ∨ m = 2) → w.cell? ⟨go, i * 3 + m, none⟩ = some v → (w.setCell ⟨p, o, none⟩ u).cell? ⟨go, i * 3 + m, none⟩ = some v := by
    intro m v hm hv
    rcases hgo with hgo | ⟨rfl, i', rfl⟩
    · exact cells_set hv (h.own.ne hp (Ne.symm hgo))
    · rw [World.cell?_setCell_other _ _ _ _ (fun e => by injection e; omega)]
      exact hv
  exact ⟨gc, cc, Ar, cr, hne 1 _ (.inl rfl) q1, hne 2 _ (.inr rfl) q2, q3.set _ _ _, q4, q5, fun k hk => (q6 k hk).set hp ht u⟩
theorem own_alive {w : World} {base e : Nat} {size n : Nat} {v : Value} {xs : List Value} (h : w.ownsRow base e size v n xs) (hp : 0 < n) : ∃ g cap, v = .slice (some ⟨g, 0, none⟩) n cap ∧ Alive w g e xs.length := by
  rcases h.2 with ⟨rfl, h0⟩ | ⟨g, cap, cur, rfl, hg, hh, r⟩
  · omega
  · refine ⟨g, cap, rfl, cur, hh, ?_⟩
    obtain ⟨r1, r2, r3, r4⟩ := r
    have := h.1
    rw [this, r3]
    exact Nat.mul_le_mul_right _ r1
theorem R_alive {α : Type} {d : Kd α} {e : Nat} {w : World} {base : Nat} {ok : Nat → Prop} {v : Value} {xs : List α} (h : Kd.R d e w base ok v xs) (hp : 0 < xs.length) (z : α) :
    ∃ g cap, v = .slice (some ⟨g, 0, none⟩) xs.length cap ∧ Alive w g e (xs.length * d.sz) ∧ ok g ∧ ∀ (i : Nat) (hi : i < xs.length), ∃ c, d.M w base ok xs[i] c ∧ ∀ j u, c[j]? = some u → w.cell? ⟨g, i * d.sz + j, none⟩ = some u := by
  obtain ⟨h0, inner, ho, hr⟩ := h
  obtain ⟨g, cap, rfl, ha⟩ := own_alive ho hp
  have hi1 := ho.1
  rw [hi1] at ha
  refine ⟨g, cap, rfl, ha, h0 g rfl, fun i hi => ?_⟩
  obtain ⟨c, hcl, hM, hcc, _⟩ := Kd.R_elem (ok := ok) ⟨h0, inner, ho, hr⟩ z (i : Int) (by omega) (by omega)
  rw [Int.toNat_natCast, List.getD_eq_getElem?_getD, List.getElem?_eq_getElem hi] at hM
  rw [Int.toNat_natCast] at hcc
  exact ⟨c, d.M_mono (fun _ hk => hk.1) hM, hcc⟩
theorem pw_of {W wO w13 : World} {go co : Nat} {l : List S33} (h : Kd.R k33 33 wO W.heap.size (fun _ => True) (.slice (some ⟨go, 0, none⟩) l.length co) l) (hr : rightB l = true) (hp : 0 < l.length) (hB : Below W.heap.size W wO) (hb : Below wO.heap.size wO w13) : PW W w13 w13 go wO.heap.size l ∧ W.heap.size ≤ go ∧ go < wO.heap.size := by
  have h2 := Kd.R_below (Kd.R_mono (ok' := fun k => W.heap.size ≤ k ∧ k < wO.heap.size) (Kd.R_bound h) (fun k hk => ⟨hk.2.1, hk.2.2.1⟩)) hb
  obtain ⟨g, cap, e, ha, hok, hel⟩ := R_alive h2 hp z33
  have eg : go = g := by
    injection e with e _ _
    injection e with e
    injection e
  subst eg
  refine ⟨⟨ha, fun i hi => ?_, fun _ _ => rfl, below_step hB hb, rfl⟩, hok⟩
  obtain ⟨c, hM, hcc⟩ := hel i hi
  obtain ⟨v1, v2, rfl, hR1, hR2⟩ := k33_openM hM
  have ht : tableB l[i] = true := by
    unfold rightB at hr
    simp only [Bool.and_eq_true] at hr
    exact List.all_eq_true.1 hr.2 _ (List.getElem_mem hi)
  obtain ⟨p1, p2⟩ := tableB_parts ht
  obtain ⟨gc, cc, rfl, ha1, hok1, _⟩ := R_alive hR1 p1 z38
  obtain ⟨Ar, cr, e2⟩ := Kd.R_slice hR2
  have q1 := hcc 1 _ rfl
  have q2 := hcc 2 _ rfl
  rw [e2] at q2
  refine ⟨gc, cc, Ar, cr, q1, q2, ?_, hok1.1, hok1.2, fun k hk => ?_⟩
  · obtain ⟨cells, a1, a2⟩ := ha1
    exact ⟨cells, a1, Nat.le_trans (Nat.le_mul_of_pos_left 2 p1) a2⟩
  · obtain ⟨gr, cr2, e3, ha2, _, hel2⟩ := R_alive hR2 (by omega) []
    rw [e2] at e3
    injection e3 with e3 _ _
    obtain ⟨c2, hM2, hcc2⟩ := hel2 k hk
    obtain ⟨vx, rfl, hR3⟩ := hM2
    have hxl : 0 < (l[i].f2[k]).length := by rw [p2 _ (List.getElem_mem hk)]; exact p1
    obtain ⟨gx, cx, rfl, ha3, hok3, _⟩ := R_alive hR3 hxl z36
    have q3 := hcc2 0 _ rfl
    have hs1 : (Kd.slice 36 k36).sz = 1 := rfl
    rw [hs1, Nat.mul_one, Nat.add_zero] at q3
    refine ⟨gr, gx, cx, e3, ?_, q3, ?_, hok3.1, hok3.2⟩
    · obtain ⟨cells, a1, _⟩ := ha2
      exact ⟨cells, a1, Nat.zero_le _⟩
    · obtain ⟨cells, a1, a2⟩ := ha3
      exact ⟨cells, a1, Nat.le_trans (Nat.le_mul_of_pos_left 3 hxl) a2⟩
theorem find_self {l : List S33} (h : rightB l = true) : ∀ (i : Nat) (hi : i < l.length), findB l l[i].f0 = (i : Int) := by
  intro i hi
  have hn : (nms33 l).Nodup := by
    unfold rightB unlikeB at h
    simp only [Bool.and_eq_true, decide_eq_true_eq] at h
    exact h.1.2.1
  refine fI_at i hi (List.all_eq_true.2 fun t ht => ?_) (by simp)
  obtain ⟨j, hj, e⟩ := List.mem_iff_getElem.1 ht
  rw [List.length_take] at hj
  rw [List.getElem_take] at e
  have hne : ¬ t.f0 = l[i].f0 := by
    intro e2
    have h1 : (nms33 l)[j]'(by rw [nms33_len]; omega) = (nms33 l)[i]'(by rw [nms33_len]; exact hi) := by
      rw [nms33_get, nms33_get]
      show (l[j]'(by omega)).f0 = l[i].f0
      rw [e, e2]
    exact (List.pairwise_iff_getElem.1 hn) j i (by rw [nms33_len]; omega) (by rw [nms33_len]; exact hi) (by omega) h1
  rw [decide_eq_false hne]
  rfl
theorem Alive.below {w w1 : World} {q ty n : Nat} (h : Alive w q ty n) (hb : Below w.heap.size w w1) : Alive w1 q ty n := by
  obtain ⟨cells, h1, h2⟩ := h
  exact ⟨cells, (hb.block q (blk_lt h1)).trans h1, h2⟩
theorem eqA38 (d : Nat) (w : World) (x0 y0 : ByteArray) (x1 y1 : Int) :
    (Op.equalIn (d + 2) 38 (.agg #[.string x0, .int .i64 x1]) (.agg #[.string y0, .int .i64 y1])).run Try.prog w = .ok (x0.toList == y0.toList && (x1 == y1)) w := by
  refine eqA_of Try.underlying38 (by kernel_rfl) ?_
  refine eqf_cons (by rfl) (by go_simp; rfl) (by go_simp; rfl) (by go_simp) ?_
  exact eqf_last (by rfl) (by go_simp; rfl) (by go_simp; rfl) (by go_simp)
theorem size38 : (Try.prog.info? 38).map (·.size) = some 2 := by kernel_rfl
theorem take_seg2 {c seg : List Value} (h : c.length = 2) (hs : seg.length = 2) : c.take 0 ++ seg ++ c.drop (0 + seg.length) = seg := by
  rw [List.drop_eq_nil_of_le (by omega), List.take_zero, List.nil_append, List.append_nil]
theorem one_row {w : World} {A : Option Addr} {c : Nat} {r : List S36} (h : Kd.C k36 w A r.length r) (hc : r.length ≤ c) {w1 : World} {g : Nat} (hg : w1.heap[g]? = some (.cells #[.slice A r.length c] 34 (0, 0))) (hb : Below w.heap.size w w1) : (Kd.slice 36 k36).C w1 (some ⟨g, 0, none⟩) 1 [r] := by
  refine ⟨rfl, by decide, fun _ => ⟨_, rfl, fun j p hj => ?_⟩⟩
  have h1 := (List.getElem?_eq_some_iff.1 hj).1
  have h2 : j = 0 := by simp at h1; omega
  subst h2
  have h3 : r = p := by simpa using hj
  subst h3
  refine ⟨[.slice A r.length c], rfl, ⟨A, c, rfl, hc, Kd.C_below h hb⟩, fun i u hu => ?_⟩
  have h4 : i = 0 := by have := (List.getElem?_eq_some_iff.1 hu).1; simp at this; omega
  subst h4
  have h5 : Value.slice A r.length c = u := by simpa using hu
  subst h5
  rw [add_at]
  exact (blk_cell hg 0).trans rfl

end Go.Proofs.Ytkogfjphpklioaa.QStoreNames
