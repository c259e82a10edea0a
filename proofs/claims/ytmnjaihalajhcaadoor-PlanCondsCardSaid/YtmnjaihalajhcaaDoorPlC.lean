import Derived.Test.YtmnjaihalajhcaaDoorPlB
/- Plan: walks by hand; the conditions stand in each theorem. -/
namespace Go.Proofs.YtmnjaihalajhcaaDoor.QPlanConds
open Go.RowKit Go.Proofs.YtmnjaihalajhcaaDoorW.PrintWords Go.Proofs.YtmnjaihalajhcaaDoorW.PrintLast Go.Proofs.YtmnjaihalajhcaaDoorW.PrintMore
attribute [local go_sem] max2_int min2_int max_two min_two max_three min_three max_four min_four
set_option linter.unusedVariables false
set_option linter.unusedSimpArgs false
theorem w64_ {x : Int} (h0 : -9223372036854775808 ≤ x) (h1 : x ≤ 9223372036854775807) : wrap64 x = x := by unfold wrap64; omega
abbrev pt (b : Nat) : Value := .pointer (some ⟨b, 0, none⟩)
def wkL (f : S46 → Nat → Nat × Bool) : List S46 → Nat → Nat × Bool
  | [], n => (n, true)
  | x :: l, n => if (f x n).2 = true then wkL f l (f x n).1 else ((f x n).1, false)
def wk : Nat → S46 → Nat → Nat × Bool
  | 0, _, n => (n + 1, false)
  | k + 1, e, n => if n + 1 > 200 then (n + 1, false) else if ownB e = true then wkL (wk k) e.f6 (n + 1) else (n + 1, false)
theorem wkL_le {f : S46 → Nat → Nat × Bool} (hf : ∀ e n, n ≤ 200 → (f e n).2 = true → (f e n).1 ≤ 200) : ∀ l n, n ≤ 200 → (wkL f l n).2 = true → (wkL f l n).1 ≤ 200 := by
  intro l
  induction l with
  | nil => intro n hn _; exact hn
  | cons x l ih =>
    intro n hn
    unfold wkL
    split
    · rename_i h
      exact ih _ (hf x n hn h)
    · intro h; cases h
theorem wk_le : ∀ k e n, n ≤ 200 → (wk k e n).2 = true → (wk k e n).1 ≤ 200 := by
  intro k
  induction k with
  | zero => intro e n _ h; cases h
  | succ k ih =>
    intro e n hn
    unfold wk
    split
    · intro h; cases h
    · split
      · exact wkL_le ih _ _ (by omega)
      · intro h; cases h
/- The world of the walk: what came in stands (w0), the counter, the walk itself. -/
structure Ew (w0 w : World) (m g n : Nat) : Prop where
  low : Below w0.heap.size w0 w
  lm : w0.heap.size ≤ m
  ne : g ≠ m
  hM : w.heap[m]? = some (.cells #[.int .i64 (n : Int)] 3 (0, 0))
  hG : w.heap[g]? = some (.cells #[.func (.func 58) #[] #[pt m, pt g]] 80 (0, 0))
theorem Ew.below {w0 w w' : World} {m g n : Nat} (h : Ew w0 w m g n) (hb : Below w.heap.size w w') : Ew w0 w' m g n :=
  ⟨h.low.trans (hb.mono h.low.size), h.lm, h.ne, (hb.block m (blk_lt h.hM)).trans h.hM, (hb.block g (blk_lt h.hG)).trans h.hG⟩
theorem Ew.set {w0 w : World} {m g n n' : Nat} (h : Ew w0 w m g n) : Ew w0 (w.setCell ⟨m, 0, none⟩ (.int .i64 (n' : Int))) m g n' :=
  ⟨below_set h.low h.lm, h.lm, h.ne, blk_set h.hM 0 _, (Below.heap_setCell _ _ _ _ h.ne).trans h.hG⟩
theorem Kp.set {w w1 : World} {m : Nat} (h : Kp w w1 (fun j => j = m)) (v : Value) : Kp w (w1.setCell ⟨m, 0, none⟩ v) (fun j => j = m) :=
  ⟨h.os, h.tape, h.output, by simpa [World.setCell] using h.size, fun j hj ht => (Below.heap_setCell _ _ _ _ ht).trans (h.far j hj ht)⟩
theorem Kp.refl {w : World} {T : Nat → Prop} : Kp w w T := Kp.below (Below.refl _ _)
theorem Kp.then {w w1 w2 : World} {m : Nat} (h : Kp w w1 (fun j => j = m)) (hb : Below w1.heap.size w1 w2) : Kp w w2 (fun j => j = m) := h.trans (Kp.below hb) (fun _ _ h => h)
theorem Kp.same {w w1 w2 : World} {m : Nat} (h : Kp w w1 (fun j => j = m)) (hb : Kp w1 w2 (fun j => j = m)) : Kp w w2 (fun j => j = m) := h.trans hb (fun _ _ h => h)
def Cw (k : Nat) : Prop := ∀ (dp : Int) (w0 w : World) (m g n : Nat) (e : S46) (A : Option Addr) (c : Nat), dp + (k : Int) = 21 → 1 ≤ dp → Ew w0 w m g n → n ≤ 200 → k46.C w0 A e.f6.length e.f6 →
  Calls Tryd.prog 58 #[encE e A c, .int .i64 dp, pt m, pt g] w fun e_ w' => e_ = .returned (.bool (wk k e n).2) ∧ Ew w0 w' m g (wk k e n).1 ∧ Kp w w' (fun j => j = m)
set_option maxRecDepth 8000 in
set_option maxHeartbeats 2000000 in
theorem at61 (k : Nat) (hk : Cw k) (dp : Int) (w0 w : World) (m g n d : Nat) (e : S46) (A : Option Addr) (c : Nat) (hdp : dp + (k : Int) = 20) (h1 : 1 ≤ dp) (hE : Ew w0 w m g n) (hn : n ≤ 200) (hC : k46.C w0 A e.f6.length e.f6)
    (hd : w.heap[d]? = some (.cells #[.int .i64 dp] 3 (0, 0))) :
    Calls Tryd.prog 61 #[encE e A c, pt g, pt d] w fun e_ w' => e_ = .returned (.bool (!(wk k e n).2)) ∧ Ew w0 w' m g (wk k e n).1 ∧ Kp w w' (fun j => j = m) := by
  have HE := Aside0.mk hE
  have HC := Aside0.mk hC
  have HD := Aside0.mk hd
  have hw : wrap64 (dp + 1) = dp + 1 := w64_ (by omega) (by omega)
  have hu46 := Tryd.underlying46
  clear hE hC hd
  go_enter Tryd.func61, Tryd.ntmps61
  go_wp2_with (first | ((with_reducible refine gate_dst (N := 3) rfl ?_); refine box_event ?hg (N := 3) ?hd (cs := cellsE e (.slice A e.f6.length c)) (t := 46) ?hr ?_; (case hd => rfl); (case hg => rfl); (case hr => unfold cellsE encE; first | (go_simp; done) | (go_simp; rfl)); intro gb hg1 w1 hbox hb; have BK := Aside0.mk hbox; have HB := Aside0.mk hb; clear hbox hb hg1; have hcg := (blk_cell (HE.out.below HB.out).hG 0).trans (rfl : _ = some (Value.func (.func 58) #[] #[pt m, pt g])); have hcd := (blk_cell ((HB.out.block d (blk_lt HD.out)).trans HD.out) 0).trans (rfl : _ = some (Value.int .i64 dp)); have c0 := (blk_cell BK.out 0).trans (rfl : _ = some (Value.int .i64 e.f0)); have c1 := (blk_cell BK.out 1).trans (rfl : _ = some (Value.int .i64 e.f1.f0)); have c2 := (blk_cell BK.out 2).trans (rfl : _ = some (Value.int .i64 e.f1.f1)); have c3 := (blk_cell BK.out 3).trans (rfl : _ = some (Value.string e.f1.f2)); have c4 := (blk_cell BK.out 4).trans (rfl : _ = some (Value.int .i64 e.f2)); have c5 := (blk_cell BK.out 5).trans (rfl : _ = some (Value.int .i64 e.f3)); have c6 := (blk_cell BK.out 6).trans (rfl : _ = some (Value.int .i64 e.f4)); have c7 := (blk_cell BK.out 7).trans (rfl : _ = some (Value.string e.f5)); have c8 := (blk_cell BK.out 8).trans (rfl : _ = some (Value.slice A e.f6.length c))) | (go_at_call 58; refine (hk (dp + 1) w0 _ m g n e A c (by omega) (by omega) (HE.out.below HB.out) hn HC.out).mono ?_; rintro e_ w2 ⟨rfl, hE2, hK2⟩; have HE2 := Aside0.mk hE2; have HK2 := Aside0.mk ((Kp.below HB.out).same hK2); clear hE2 hK2))
  go_ret
  exact ⟨rfl, HE2.out, HK2.out⟩
set_option maxRecDepth 8000 in
set_option maxHeartbeats 2000000 in
theorem index74 (k : Nat) (hk : Cw k) (dp : Int) (w0 w : World) (m g n d : Nat) (A : Option Addr) (c : Nat) (xs : List S46) (hdp : dp + (k : Int) = 20) (h1 : 1 ≤ dp) (hE : Ew w0 w m g n) (hn : n ≤ 200) (hC : k46.C w0 A xs.length xs) (hl : xs.length ≤ 1000)
    (hd : w.heap[d]? = some (.cells #[.int .i64 dp] 3 (0, 0))) (hdm : d ≠ m) :
    Calls Tryd.prog 74 #[.slice A xs.length c, .func (.func 61) #[] #[pt g, pt d]] w fun e_ w' => ∃ r : Int, e_ = .returned (.int .i64 r) ∧ decide (r ≥ 0) = (!(wkL (wk k) xs n).2) ∧ Ew w0 w' m g (wkL (wk k) xs n).1 ∧ Kp w w' (fun j => j = m) := by
  have HE := Aside0.mk hE
  have HC := Aside0.mk hC
  have HD := Aside0.mk hd
  have HN := Aside0.mk hn
  have HDP := And.intro hdp h1
  clear hE hC hd hn hdp h1
  have hu46 := Tryd.underlying46
  go_enter Tryd.func74, Tryd.ntmps74
  go_wp2
  go_loopw [8] (fun s wr => ∃ i n' : Nat, i ≤ xs.length ∧ s = .int .i64 (i : Int) ∧ Aside0 (wkL (wk k) xs n = wkL (wk k) (xs.drop i) n') ∧ Aside0 (n' ≤ 200) ∧ Aside0 (Ew w0 wr m g n') ∧ Aside0 (Kp w wr (fun j => j = m))) (fun s _ => xs.length - (intOf s).toNat)
  case atStart => exact ⟨0, n, Nat.zero_le _, rfl, ⟨rfl⟩, HN, HE, ⟨Kp.refl⟩⟩
  case round =>
    obtain ⟨i, n', hi, rfl, HW, HN', HE', HK'⟩ := hrel
    by_cases hlt : i < xs.length
    · have hin : (i : Int) < (xs.length : Int) := by omega
      have HDR := Aside0.mk (List.drop_eq_getElem_cons hlt)
      have hrd : rd_T46 xs (i : Int) = xs[i] := by unfold rd_T46; rw [Int.toNat_natCast, List.getD_eq_getElem?_getD, List.getElem?_eq_getElem hlt]; rfl
      obtain ⟨ad, A8, c8, e0, x0, x1, x2, x3, x4, x5, x6, x7, x8, l8, g8⟩ := at_T46 (Kd.C_below HC.out HE'.out.low) (i : Int) (by omega) hin
      obtain ⟨ad0, A80, c80, e00, _, _, _, _, _, _, _, _, y8, l80, g80⟩ := at_T46 HC.out (i : Int) (by omega) hin
      have hA8 : A80 = A8 ∧ c80 = c8 := by
        rw [e0] at e00
        injection e00 with e00
        subst e00
        have := (cells_later HE'.out.low y8).symm.trans x8
        injection this with this
        injection this with h1 _ h2
        exact ⟨h1, h2⟩
      obtain ⟨rfl, rfl⟩ := hA8
      subst e0
      have HG8 := Aside0.mk g80
      clear g80 g8 y8 e00 l80
      rw [hrd] at x0 x1 x2 x3 x4 x5 x6 x7 x8 l8 HG8
      rw [Int.toNat_natCast] at x0 x1 x2 x3 x4 x5 x6 x7 x8
      clear hrd
      generalize xs[i] = e at *
      have HS : Aside0 (wkL (wk k) (xs.drop i) n' = if (wk k e n').2 = true then wkL (wk k) (xs.drop (i + 1)) (wk k e n').1 else ((wk k e n').1, false)) := ⟨by rw [HDR.out]; rfl⟩
      rcases Bool.eq_false_or_eq_true (wk k e n').2 with hb | hb
      · have HT := Aside0.mk hb
        clear hb
        go_wp2_with (go_at_call 61; refine (at61 k hk dp w0 wr m g n' d e _ _ HDP.1 HDP.2 HE'.out HN'.out HG8.out ((HK'.out.far d (blk_lt HD.out) hdm).trans HD.out)).mono ?_; rw [HT.out]; rintro e_ w2 ⟨rfl, hE2, hK2⟩; have HE2 := Aside0.mk hE2; have HK2 := Aside0.mk (HK'.out.same hK2); clear hE2 hK2)
        go_roundw
        case rel => exact ⟨i + 1, (wk k e n').1, by omega, by go_num, ⟨by rw [HW.out, HS.out, if_pos HT.out]⟩, ⟨wk_le k e n' HN'.out HT.out⟩, HE2, HK2⟩
        case measure => simp [intOf]; omega
      · have HT := Aside0.mk hb
        clear hb
        go_wp2_with (go_at_call 61; refine (at61 k hk dp w0 wr m g n' d e _ _ HDP.1 HDP.2 HE'.out HN'.out HG8.out ((HK'.out.far d (blk_lt HD.out) hdm).trans HD.out)).mono ?_; rw [HT.out]; rintro e_ w2 ⟨rfl, hE2, hK2⟩; have HE2 := Aside0.mk hE2; have HK2 := Aside0.mk (HK'.out.same hK2); clear hE2 hK2)
        go_ret
        rw [HW.out, HS.out, if_neg (by rw [HT.out]; decide)]
        exact ⟨_, rfl, by simp, HE2.out, HK2.out⟩
    · have HI : Aside0 (wkL (wk k) xs n = (n', true)) := ⟨by rw [HW.out, List.drop_eq_nil_of_le (by omega)]; rfl⟩
      have hle : xs.length ≤ i := by omega
      go_wp2
      go_ret
      rw [HI.out]
      exact ⟨_, rfl, rfl, HE'.out, HK'.out⟩
set_option maxHeartbeats 2000000 in
theorem contains60 (k : Nat) (hk : Cw k) (dp : Int) (w0 w : World) (m g n d : Nat) (A : Option Addr) (c : Nat) (xs : List S46) (hdp : dp + (k : Int) = 20) (h1 : 1 ≤ dp) (hE : Ew w0 w m g n) (hn : n ≤ 200) (hC : k46.C w0 A xs.length xs) (hl : xs.length ≤ 1000)
    (hd : w.heap[d]? = some (.cells #[.int .i64 dp] 3 (0, 0))) (hdm : d ≠ m) :
    Calls Tryd.prog 60 #[.slice A xs.length c, .func (.func 61) #[] #[pt g, pt d]] w fun e_ w' => e_ = .returned (.bool (!(wkL (wk k) xs n).2)) ∧ Ew w0 w' m g (wkL (wk k) xs n).1 ∧ Kp w w' (fun j => j = m) := by
  have H := Aside0.mk (index74 k hk dp w0 w m g n d A c xs hdp h1 hE hn hC hl hd hdm)
  clear hdp h1 hE hn hC hl hd hdm hk
  go_enter Tryd.func60, Tryd.ntmps60
  go_wp2_with (go_at_call 74; refine H.out.mono ?_; rintro e_ w2 ⟨r, rfl, hr, hE2, hK2⟩; have HE2 := Aside0.mk hE2; have HK2 := Aside0.mk hK2; have HR := Aside0.mk hr; clear hE2 hK2 hr H)
  go_ret
  exact ⟨by rw [← HR.out]; rfl, HE2.out, HK2.out⟩
theorem own_len {e : S46} (h : ownB e = true) : e.f6.length ≤ 2 := by
  unfold ownB wantsI at h
  simp only [Bool.and_eq_true, beq_iff_eq] at h
  have := h.2.1
  repeat (first | omega | split at this)
set_option maxRecDepth 8000 in
set_option maxHeartbeats 4000000 in
theorem walk58 (k : Nat) (hk20 : k ≤ 20) : Cw k := by
  induction k with
  | zero =>
    intro dp w0 w m g n e A c hdp h1 hE hn hC
    have HE := Aside0.mk hE
    have hd21 : dp = 21 := by omega
    subst hd21
    clear hE hC hdp h1
    have hwn : wrap64 ((n : Int) + 1) = (n : Int) + 1 := w64_ (by omega) (by omega)
    have hu46 := Tryd.underlying46
    obtain ⟨dp, hdp⟩ : ∃ dp : Int, dp = 21 := ⟨_, rfl⟩
    rw [← hdp]
    have hgt : decide (dp > 20) = true := decide_eq_true (by omega)
    clear hdp
    by_cases h2 : n + 1 > 200
    · have hn2 : decide ((n : Int) + 1 > 200) = true := decide_eq_true (by omega)
      clear h2
      unfold wk
      go_enter Tryd.func58, Tryd.ntmps58
      go_wp2_with (first | ((with_reducible refine gate_dst (N := 4) rfl ?_); refine box_event ?hg (N := 4) ?hd (cs := cellsE e (.slice A e.f6.length c)) (t := 46) ?hr ?_; (case hd => rfl); (case hg => rfl); (case hr => unfold cellsE encE; first | (go_simp; done) | (go_simp; rfl)); intro gb hg1 w1 hbox hb; have BK := Aside0.mk hbox; have HB := Aside0.mk hb; have HG1 := Aside0.mk hg1; clear hbox hb hg1) | ((with_reducible refine gate_dst (N := 5) rfl ?_); refine box_event ?hg (N := 5) ?hd (cs := #[.int .i64 dp]) (t := 3) ?hr ?_; (case hd => rfl); (case hg => rfl); (case hr => first | (go_simp; done) | (go_simp; rfl)); intro gd hg1 w2 hbox hb; have BK2 := Aside0.mk ((hb.block gb (blk_lt BK.out)).trans BK.out); have BD2 := Aside0.mk hbox; have HB2 := Aside0.mk (HB.out.trans (hb.mono HB.out.size)); have HDM : Aside0 (gd ≠ m ∧ gb ≠ m) := ⟨by rw [hg1]; have := blk_lt (HE.out.below HB.out).hM; omega, by have := blk_lt HE.out.hM; rw [HG1.out]; omega⟩; clear hbox hb hg1; have hcm := (blk_cell (HE.out.below HB2.out).hM 0).trans (rfl : _ = some (Value.int .i64 (n : Int))); have hfm := blk_frozen (HE.out.below HB2.out).hM 0) | ((with_reducible refine gate_store (t := 3) (p := 2) rfl ?_); refine store_event (t := 3) (p := 2) (v := .tmp 8) (w1 := w2.setCell ⟨m, 0, none⟩ (.int .i64 ((n : Int) + 1))) rfl rfl rfl ?hrS ?_; (case hrS => first | (go_simp; done) | (go_simp; rfl)); intro w3 hw3; have HE3 : Aside0 (Ew w0 w3 m g (n + 1)) := ⟨by rw [hw3]; exact (HE.out.below HB2.out).set (n' := n + 1)⟩; have HK3 : Aside0 (Kp w w3 (fun j => j = m)) := ⟨by rw [hw3]; exact (Kp.below HB2.out).set _⟩; have BK3 : Aside0 (w3.heap[gb]? = some (.cells (cellsE e (.slice A e.f6.length c)) 46 (0, 0))) := ⟨by rw [hw3]; exact (Below.heap_setCell _ _ _ _ HDM.out.2).trans BK2.out⟩; have BD3 : Aside0 (w3.heap[gd]? = some (.cells #[.int .i64 dp] 3 (0, 0))) := ⟨by rw [hw3]; exact (Below.heap_setCell _ _ _ _ HDM.out.1).trans BD2.out⟩; clear hw3 hcm hfm; have hcm := (blk_cell HE3.out.hM 0).trans (rfl : _ = some (Value.int .i64 ((n : Int) + 1))); have hcd := (blk_cell BD3.out 0).trans (rfl : _ = some (Value.int .i64 dp)); have c0 := (blk_cell BK3.out 0).trans (rfl : _ = some (Value.int .i64 e.f0)); have c1 := (blk_cell BK3.out 1).trans (rfl : _ = some (Value.int .i64 e.f1.f0)); have c2 := (blk_cell BK3.out 2).trans (rfl : _ = some (Value.int .i64 e.f1.f1)); have c3 := (blk_cell BK3.out 3).trans (rfl : _ = some (Value.string e.f1.f2)); have c4 := (blk_cell BK3.out 4).trans (rfl : _ = some (Value.int .i64 e.f2)); have c5 := (blk_cell BK3.out 5).trans (rfl : _ = some (Value.int .i64 e.f3)); have c6 := (blk_cell BK3.out 6).trans (rfl : _ = some (Value.int .i64 e.f4)); have c7 := (blk_cell BK3.out 7).trans (rfl : _ = some (Value.string e.f5)); have c8 := (blk_cell BK3.out 8).trans (rfl : _ = some (Value.slice A e.f6.length c))))
      go_ret
      exact ⟨rfl, HE3.out, HK3.out⟩
    · have hn2 : decide ((n : Int) + 1 > 200) = false := decide_eq_false (by omega)
      clear h2
      unfold wk
      go_enter Tryd.func58, Tryd.ntmps58
      go_wp2_with (first | ((with_reducible refine gate_dst (N := 4) rfl ?_); refine box_event ?hg (N := 4) ?hd (cs := cellsE e (.slice A e.f6.length c)) (t := 46) ?hr ?_; (case hd => rfl); (case hg => rfl); (case hr => unfold cellsE encE; first | (go_simp; done) | (go_simp; rfl)); intro gb hg1 w1 hbox hb; have BK := Aside0.mk hbox; have HB := Aside0.mk hb; have HG1 := Aside0.mk hg1; clear hbox hb hg1) | ((with_reducible refine gate_dst (N := 5) rfl ?_); refine box_event ?hg (N := 5) ?hd (cs := #[.int .i64 dp]) (t := 3) ?hr ?_; (case hd => rfl); (case hg => rfl); (case hr => first | (go_simp; done) | (go_simp; rfl)); intro gd hg1 w2 hbox hb; have BK2 := Aside0.mk ((hb.block gb (blk_lt BK.out)).trans BK.out); have BD2 := Aside0.mk hbox; have HB2 := Aside0.mk (HB.out.trans (hb.mono HB.out.size)); have HDM : Aside0 (gd ≠ m ∧ gb ≠ m) := ⟨by rw [hg1]; have := blk_lt (HE.out.below HB.out).hM; omega, by have := blk_lt HE.out.hM; rw [HG1.out]; omega⟩; clear hbox hb hg1; have hcm := (blk_cell (HE.out.below HB2.out).hM 0).trans (rfl : _ = some (Value.int .i64 (n : Int))); have hfm := blk_frozen (HE.out.below HB2.out).hM 0) | ((with_reducible refine gate_store (t := 3) (p := 2) rfl ?_); refine store_event (t := 3) (p := 2) (v := .tmp 8) (w1 := w2.setCell ⟨m, 0, none⟩ (.int .i64 ((n : Int) + 1))) rfl rfl rfl ?hrS ?_; (case hrS => first | (go_simp; done) | (go_simp; rfl)); intro w3 hw3; have HE3 : Aside0 (Ew w0 w3 m g (n + 1)) := ⟨by rw [hw3]; exact (HE.out.below HB2.out).set (n' := n + 1)⟩; have HK3 : Aside0 (Kp w w3 (fun j => j = m)) := ⟨by rw [hw3]; exact (Kp.below HB2.out).set _⟩; have BK3 : Aside0 (w3.heap[gb]? = some (.cells (cellsE e (.slice A e.f6.length c)) 46 (0, 0))) := ⟨by rw [hw3]; exact (Below.heap_setCell _ _ _ _ HDM.out.2).trans BK2.out⟩; have BD3 : Aside0 (w3.heap[gd]? = some (.cells #[.int .i64 dp] 3 (0, 0))) := ⟨by rw [hw3]; exact (Below.heap_setCell _ _ _ _ HDM.out.1).trans BD2.out⟩; clear hw3 hcm hfm; have hcm := (blk_cell HE3.out.hM 0).trans (rfl : _ = some (Value.int .i64 ((n : Int) + 1))); have hcd := (blk_cell BD3.out 0).trans (rfl : _ = some (Value.int .i64 dp)); have c0 := (blk_cell BK3.out 0).trans (rfl : _ = some (Value.int .i64 e.f0)); have c1 := (blk_cell BK3.out 1).trans (rfl : _ = some (Value.int .i64 e.f1.f0)); have c2 := (blk_cell BK3.out 2).trans (rfl : _ = some (Value.int .i64 e.f1.f1)); have c3 := (blk_cell BK3.out 3).trans (rfl : _ = some (Value.string e.f1.f2)); have c4 := (blk_cell BK3.out 4).trans (rfl : _ = some (Value.int .i64 e.f2)); have c5 := (blk_cell BK3.out 5).trans (rfl : _ = some (Value.int .i64 e.f3)); have c6 := (blk_cell BK3.out 6).trans (rfl : _ = some (Value.int .i64 e.f4)); have c7 := (blk_cell BK3.out 7).trans (rfl : _ = some (Value.string e.f5)); have c8 := (blk_cell BK3.out 8).trans (rfl : _ = some (Value.slice A e.f6.length c))))
      go_ret
      exact ⟨rfl, HE3.out, HK3.out⟩
  | succ k ih0 =>
    have ih := ih0 (by omega)
    clear ih0
    intro dp w0 w m g n e A c hdp h1 hE hn hC
    have HE := Aside0.mk hE
    have HC := Aside0.mk hC
    have HDP : dp + (k : Int) = 20 ∧ 1 ≤ dp := ⟨by omega, h1⟩
    clear hE hC hdp h1
    have hwn : wrap64 ((n : Int) + 1) = (n : Int) + 1 := w64_ (by omega) (by omega)
    have hu46 := Tryd.underlying46
    have hgt : decide (dp > 20) = false := decide_eq_false (by omega)
    by_cases h2 : n + 1 > 200
    · have hn2 : decide ((n : Int) + 1 > 200) = true := decide_eq_true (by omega)
      have HR : Aside0 (wk (k + 1) e n = (n + 1, false)) := ⟨by unfold wk; rw [if_pos h2]⟩
      clear h2
      go_enter Tryd.func58, Tryd.ntmps58
      go_wp2_with (first | ((with_reducible refine gate_dst (N := 4) rfl ?_); refine box_event ?hg (N := 4) ?hd (cs := cellsE e (.slice A e.f6.length c)) (t := 46) ?hr ?_; (case hd => rfl); (case hg => rfl); (case hr => unfold cellsE encE; first | (go_simp; done) | (go_simp; rfl)); intro gb hg1 w1 hbox hb; have BK := Aside0.mk hbox; have HB := Aside0.mk hb; have HG1 := Aside0.mk hg1; clear hbox hb hg1) | ((with_reducible refine gate_dst (N := 5) rfl ?_); refine box_event ?hg (N := 5) ?hd (cs := #[.int .i64 dp]) (t := 3) ?hr ?_; (case hd => rfl); (case hg => rfl); (case hr => first | (go_simp; done) | (go_simp; rfl)); intro gd hg1 w2 hbox hb; have BK2 := Aside0.mk ((hb.block gb (blk_lt BK.out)).trans BK.out); have BD2 := Aside0.mk hbox; have HB2 := Aside0.mk (HB.out.trans (hb.mono HB.out.size)); have HDM : Aside0 (gd ≠ m ∧ gb ≠ m) := ⟨by rw [hg1]; have := blk_lt (HE.out.below HB.out).hM; omega, by have := blk_lt HE.out.hM; rw [HG1.out]; omega⟩; clear hbox hb hg1; have hcm := (blk_cell (HE.out.below HB2.out).hM 0).trans (rfl : _ = some (Value.int .i64 (n : Int))); have hfm := blk_frozen (HE.out.below HB2.out).hM 0) | ((with_reducible refine gate_store (t := 3) (p := 2) rfl ?_); refine store_event (t := 3) (p := 2) (v := .tmp 8) (w1 := w2.setCell ⟨m, 0, none⟩ (.int .i64 ((n : Int) + 1))) rfl rfl rfl ?hrS ?_; (case hrS => first | (go_simp; done) | (go_simp; rfl)); intro w3 hw3; have HE3 : Aside0 (Ew w0 w3 m g (n + 1)) := ⟨by rw [hw3]; exact (HE.out.below HB2.out).set (n' := n + 1)⟩; have HK3 : Aside0 (Kp w w3 (fun j => j = m)) := ⟨by rw [hw3]; exact (Kp.below HB2.out).set _⟩; have BK3 : Aside0 (w3.heap[gb]? = some (.cells (cellsE e (.slice A e.f6.length c)) 46 (0, 0))) := ⟨by rw [hw3]; exact (Below.heap_setCell _ _ _ _ HDM.out.2).trans BK2.out⟩; have BD3 : Aside0 (w3.heap[gd]? = some (.cells #[.int .i64 dp] 3 (0, 0))) := ⟨by rw [hw3]; exact (Below.heap_setCell _ _ _ _ HDM.out.1).trans BD2.out⟩; clear hw3 hcm hfm; have hcm := (blk_cell HE3.out.hM 0).trans (rfl : _ = some (Value.int .i64 ((n : Int) + 1))); have hcd := (blk_cell BD3.out 0).trans (rfl : _ = some (Value.int .i64 dp)); have c0 := (blk_cell BK3.out 0).trans (rfl : _ = some (Value.int .i64 e.f0)); have c1 := (blk_cell BK3.out 1).trans (rfl : _ = some (Value.int .i64 e.f1.f0)); have c2 := (blk_cell BK3.out 2).trans (rfl : _ = some (Value.int .i64 e.f1.f1)); have c3 := (blk_cell BK3.out 3).trans (rfl : _ = some (Value.string e.f1.f2)); have c4 := (blk_cell BK3.out 4).trans (rfl : _ = some (Value.int .i64 e.f2)); have c5 := (blk_cell BK3.out 5).trans (rfl : _ = some (Value.int .i64 e.f3)); have c6 := (blk_cell BK3.out 6).trans (rfl : _ = some (Value.int .i64 e.f4)); have c7 := (blk_cell BK3.out 7).trans (rfl : _ = some (Value.string e.f5)); have c8 := (blk_cell BK3.out 8).trans (rfl : _ = some (Value.slice A e.f6.length c))))
      go_ret
      rw [HR.out]
      exact ⟨rfl, HE3.out, HK3.out⟩
    · have hn2 : decide ((n : Int) + 1 > 200) = false := decide_eq_false (by omega)
      have HN1 : Aside0 (n + 1 ≤ 200) := ⟨by omega⟩
      rcases Bool.eq_false_or_eq_true (ownB e) with ho | ho
      · have HR : Aside0 (wk (k + 1) e n = wkL (wk k) e.f6 (n + 1)) := ⟨by rw [wk, if_neg h2, if_pos ho]⟩
        have HL : Aside0 (e.f6.length ≤ 1000) := ⟨by have := own_len ho; omega⟩
        have HO := Aside0.mk ho
        clear h2 ho
        go_enter Tryd.func58, Tryd.ntmps58
        go_wp2_with (first | ((with_reducible refine gate_dst (N := 4) rfl ?_); refine box_event ?hg (N := 4) ?hd (cs := cellsE e (.slice A e.f6.length c)) (t := 46) ?hr ?_; (case hd => rfl); (case hg => rfl); (case hr => unfold cellsE encE; first | (go_simp; done) | (go_simp; rfl)); intro gb hg1 w1 hbox hb; have BK := Aside0.mk hbox; have HB := Aside0.mk hb; have HG1 := Aside0.mk hg1; clear hbox hb hg1) | ((with_reducible refine gate_dst (N := 5) rfl ?_); refine box_event ?hg (N := 5) ?hd (cs := #[.int .i64 dp]) (t := 3) ?hr ?_; (case hd => rfl); (case hg => rfl); (case hr => first | (go_simp; done) | (go_simp; rfl)); intro gd hg1 w2 hbox hb; have BK2 := Aside0.mk ((hb.block gb (blk_lt BK.out)).trans BK.out); have BD2 := Aside0.mk hbox; have HB2 := Aside0.mk (HB.out.trans (hb.mono HB.out.size)); have HDM : Aside0 (gd ≠ m ∧ gb ≠ m) := ⟨by rw [hg1]; have := blk_lt (HE.out.below HB.out).hM; omega, by have := blk_lt HE.out.hM; rw [HG1.out]; omega⟩; clear hbox hb hg1; have hcm := (blk_cell (HE.out.below HB2.out).hM 0).trans (rfl : _ = some (Value.int .i64 (n : Int))); have hfm := blk_frozen (HE.out.below HB2.out).hM 0) | ((with_reducible refine gate_store (t := 3) (p := 2) rfl ?_); refine store_event (t := 3) (p := 2) (v := .tmp 8) (w1 := w2.setCell ⟨m, 0, none⟩ (.int .i64 ((n : Int) + 1))) rfl rfl rfl ?hrS ?_; (case hrS => first | (go_simp; done) | (go_simp; rfl)); intro w3 hw3; have HE3 : Aside0 (Ew w0 w3 m g (n + 1)) := ⟨by rw [hw3]; exact (HE.out.below HB2.out).set (n' := n + 1)⟩; have HK3 : Aside0 (Kp w w3 (fun j => j = m)) := ⟨by rw [hw3]; exact (Kp.below HB2.out).set _⟩; have BK3 : Aside0 (w3.heap[gb]? = some (.cells (cellsE e (.slice A e.f6.length c)) 46 (0, 0))) := ⟨by rw [hw3]; exact (Below.heap_setCell _ _ _ _ HDM.out.2).trans BK2.out⟩; have BD3 : Aside0 (w3.heap[gd]? = some (.cells #[.int .i64 dp] 3 (0, 0))) := ⟨by rw [hw3]; exact (Below.heap_setCell _ _ _ _ HDM.out.1).trans BD2.out⟩; clear hw3 hcm hfm; have hcm := (blk_cell HE3.out.hM 0).trans (rfl : _ = some (Value.int .i64 ((n : Int) + 1))); have hcd := (blk_cell BD3.out 0).trans (rfl : _ = some (Value.int .i64 dp)); have c0 := (blk_cell BK3.out 0).trans (rfl : _ = some (Value.int .i64 e.f0)); have c1 := (blk_cell BK3.out 1).trans (rfl : _ = some (Value.int .i64 e.f1.f0)); have c2 := (blk_cell BK3.out 2).trans (rfl : _ = some (Value.int .i64 e.f1.f1)); have c3 := (blk_cell BK3.out 3).trans (rfl : _ = some (Value.string e.f1.f2)); have c4 := (blk_cell BK3.out 4).trans (rfl : _ = some (Value.int .i64 e.f2)); have c5 := (blk_cell BK3.out 5).trans (rfl : _ = some (Value.int .i64 e.f3)); have c6 := (blk_cell BK3.out 6).trans (rfl : _ = some (Value.int .i64 e.f4)); have c7 := (blk_cell BK3.out 7).trans (rfl : _ = some (Value.string e.f5)); have c8 := (blk_cell BK3.out 8).trans (rfl : _ = some (Value.slice A e.f6.length c))) | (go_at_call 59; refine (own59 e A c _).mono ?_; rintro e_ w4 ⟨rfl, hb4⟩; have HE4 := Aside0.mk (HE3.out.below hb4); have HK4 := Aside0.mk (HK3.out.then hb4); have BD4 := Aside0.mk ((hb4.block gd (blk_lt BD3.out)).trans BD3.out); have BK4 := Aside0.mk ((hb4.block gb (blk_lt BK3.out)).trans BK3.out); clear hb4; have c8 := (blk_cell BK4.out 8).trans (rfl : _ = some (Value.slice A e.f6.length c)); rw [HO.out]) | (go_at_call 60; refine (contains60 k ih dp w0 _ m g (n + 1) gd A c e.f6 HDP.1 HDP.2 HE4.out HN1.out HC.out HL.out BD4.out HDM.out.1).mono ?_; rintro e_ w5 ⟨rfl, hE5, hK5⟩; have HE5 := Aside0.mk hE5; have HK5 := Aside0.mk (HK4.out.same hK5); clear hE5 hK5))
        go_ret
        rw [HR.out]
        exact ⟨by simp, HE5.out, HK5.out⟩
      · have HR : Aside0 (wk (k + 1) e n = (n + 1, false)) := ⟨by rw [wk, if_neg h2, if_neg (by rw [ho]; decide)]⟩
        have HO := Aside0.mk ho
        clear h2 ho
        go_enter Tryd.func58, Tryd.ntmps58
        go_wp2_with (first | ((with_reducible refine gate_dst (N := 4) rfl ?_); refine box_event ?hg (N := 4) ?hd (cs := cellsE e (.slice A e.f6.length c)) (t := 46) ?hr ?_; (case hd => rfl); (case hg => rfl); (case hr => unfold cellsE encE; first | (go_simp; done) | (go_simp; rfl)); intro gb hg1 w1 hbox hb; have BK := Aside0.mk hbox; have HB := Aside0.mk hb; have HG1 := Aside0.mk hg1; clear hbox hb hg1) | ((with_reducible refine gate_dst (N := 5) rfl ?_); refine box_event ?hg (N := 5) ?hd (cs := #[.int .i64 dp]) (t := 3) ?hr ?_; (case hd => rfl); (case hg => rfl); (case hr => first | (go_simp; done) | (go_simp; rfl)); intro gd hg1 w2 hbox hb; have BK2 := Aside0.mk ((hb.block gb (blk_lt BK.out)).trans BK.out); have BD2 := Aside0.mk hbox; have HB2 := Aside0.mk (HB.out.trans (hb.mono HB.out.size)); have HDM : Aside0 (gd ≠ m ∧ gb ≠ m) := ⟨by rw [hg1]; have := blk_lt (HE.out.below HB.out).hM; omega, by have := blk_lt HE.out.hM; rw [HG1.out]; omega⟩; clear hbox hb hg1; have hcm := (blk_cell (HE.out.below HB2.out).hM 0).trans (rfl : _ = some (Value.int .i64 (n : Int))); have hfm := blk_frozen (HE.out.below HB2.out).hM 0) | ((with_reducible refine gate_store (t := 3) (p := 2) rfl ?_); refine store_event (t := 3) (p := 2) (v := .tmp 8) (w1 := w2.setCell ⟨m, 0, none⟩ (.int .i64 ((n : Int) + 1))) rfl rfl rfl ?hrS ?_; (case hrS => first | (go_simp; done) | (go_simp; rfl)); intro w3 hw3; have HE3 : Aside0 (Ew w0 w3 m g (n + 1)) := ⟨by rw [hw3]; exact (HE.out.below HB2.out).set (n' := n + 1)⟩; have HK3 : Aside0 (Kp w w3 (fun j => j = m)) := ⟨by rw [hw3]; exact (Kp.below HB2.out).set _⟩; have BK3 : Aside0 (w3.heap[gb]? = some (.cells (cellsE e (.slice A e.f6.length c)) 46 (0, 0))) := ⟨by rw [hw3]; exact (Below.heap_setCell _ _ _ _ HDM.out.2).trans BK2.out⟩; have BD3 : Aside0 (w3.heap[gd]? = some (.cells #[.int .i64 dp] 3 (0, 0))) := ⟨by rw [hw3]; exact (Below.heap_setCell _ _ _ _ HDM.out.1).trans BD2.out⟩; clear hw3 hcm hfm; have hcm := (blk_cell HE3.out.hM 0).trans (rfl : _ = some (Value.int .i64 ((n : Int) + 1))); have hcd := (blk_cell BD3.out 0).trans (rfl : _ = some (Value.int .i64 dp)); have c0 := (blk_cell BK3.out 0).trans (rfl : _ = some (Value.int .i64 e.f0)); have c1 := (blk_cell BK3.out 1).trans (rfl : _ = some (Value.int .i64 e.f1.f0)); have c2 := (blk_cell BK3.out 2).trans (rfl : _ = some (Value.int .i64 e.f1.f1)); have c3 := (blk_cell BK3.out 3).trans (rfl : _ = some (Value.string e.f1.f2)); have c4 := (blk_cell BK3.out 4).trans (rfl : _ = some (Value.int .i64 e.f2)); have c5 := (blk_cell BK3.out 5).trans (rfl : _ = some (Value.int .i64 e.f3)); have c6 := (blk_cell BK3.out 6).trans (rfl : _ = some (Value.int .i64 e.f4)); have c7 := (blk_cell BK3.out 7).trans (rfl : _ = some (Value.string e.f5)); have c8 := (blk_cell BK3.out 8).trans (rfl : _ = some (Value.slice A e.f6.length c))) | (go_at_call 59; refine (own59 e A c _).mono ?_; rintro e_ w4 ⟨rfl, hb4⟩; have HE4 := Aside0.mk (HE3.out.below hb4); have HK4 := Aside0.mk (HK3.out.then hb4); have BD4 := Aside0.mk ((hb4.block gd (blk_lt BD3.out)).trans BD3.out); have BK4 := Aside0.mk ((hb4.block gb (blk_lt BK3.out)).trans BK3.out); clear hb4; have c8 := (blk_cell BK4.out 8).trans (rfl : _ = some (Value.slice A e.f6.length c)); rw [HO.out]))
        go_ret
        rw [HR.out]
        exact ⟨rfl, HE4.out, HK4.out⟩

end Go.Proofs.YtmnjaihalajhcaaDoor.QPlanConds
