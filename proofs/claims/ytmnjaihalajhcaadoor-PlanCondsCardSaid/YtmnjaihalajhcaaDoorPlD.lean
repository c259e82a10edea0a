import Derived.Test.YtmnjaihalajhcaaDoorPlC
import Derived.Laws.EntriesVeiled
/- Plan: walks by hand; the conditions stand in each theorem. -/
namespace Go.Proofs.YtmnjaihalajhcaaDoor.QPlanConds
open Go.RowKit Go.Proofs.YtmnjaihalajhcaaDoorW.PrintWords Go.Proofs.YtmnjaihalajhcaaDoorW.PrintLast Go.Proofs.YtmnjaihalajhcaaDoorW.PrintMore
attribute [local go_sem] max2_int min2_int max_two min_two max_three min_three max_four min_four
set_option linter.unusedVariables false
set_option linter.unusedSimpArgs false
def rightX (e : S46) : Bool := (wk 20 e 0).2
set_option maxRecDepth 8000 in
set_option maxHeartbeats 4000000 in
theorem right46 (e : S46) (A : Option Addr) (c : Nat) (w : World) (hC : k46.C w A e.f6.length e.f6) :
    Calls Tryd.prog 46 #[encE e A c] w fun e_ w' => e_ = .returned (.bool (rightX e)) ∧ Below w.heap.size w w' := by
  have HC := Aside0.mk hC
  clear hC
  have hu46 := Tryd.underlying46
  go_enter Tryd.func46, Tryd.ntmps46
  go_wp2_with (first | ((with_reducible refine gate_dst (N := 1) rfl ?_); refine box_event ?hg (N := 1) ?hd (cs := cellsE e (.slice A e.f6.length c)) (t := 46) ?hr ?_; (case hd => rfl); (case hg => rfl); (case hr => unfold cellsE encE; first | (go_simp; done) | (go_simp; rfl)); intro gb hg1 w1 hbox hb; have BK := Aside0.mk hbox; have HB := Aside0.mk hb; have HG1 := Aside0.mk hg1; clear hbox hb hg1) | ((with_reducible refine gate_dst (N := 3) rfl ?_); refine box_event ?hg (N := 3) ?hd (cs := #[.int .i64 0]) (t := 3) ?hr ?_; (case hd => rfl); (case hg => rfl); (case hr => first | (go_simp; done) | (go_simp; rfl)); intro m hg1 w2 hbox hb; have BM := Aside0.mk hbox; have HB2 := Aside0.mk (HB.out.trans (hb.mono HB.out.size)); have BK2 := Aside0.mk ((hb.block gb (blk_lt BK.out)).trans BK.out); have HM : Aside0 (w.heap.size ≤ m) := ⟨by rw [hg1]; exact HB.out.size⟩; have hcm := (blk_cell BM.out 0).trans (rfl : _ = some (Value.int .i64 0)); have hfm := blk_frozen BM.out 0; have HGM : Aside0 (gb < m) := ⟨by rw [hg1]; exact blk_lt BK.out⟩; clear hbox hb hg1) | ((with_reducible refine gate_dst (N := 4) rfl ?_); refine box_event ?hg (N := 4) ?hd (cs := #[.nilFunc]) (t := 80) ?hr ?_; (case hd => rfl); (case hg => rfl); (case hr => first | (go_simp; done) | (go_simp; rfl)); intro g hg1 w3b hbox hb; have BG := Aside0.mk hbox; have BM3b := Aside0.mk ((hb.block m (blk_lt BM3.out)).trans BM3.out); have HB3b := Aside0.mk (HB3.out.trans (hb.mono HB3.out.size)); have BK3b := Aside0.mk ((hb.block gb (blk_lt BK3.out)).trans BK3.out); have HNE : Aside0 (gb < g ∧ m < g ∧ w.heap.size ≤ g) := ⟨by rw [hg1]; exact ⟨blk_lt BK3.out, blk_lt BM3.out, HB3.out.size⟩⟩; have hcg := (blk_cell BG.out 0).trans (rfl : _ = some (Value.nilFunc)); have hfg := blk_frozen BG.out 0; clear hbox hb hg1) | ((with_reducible refine gate_store (t := 3) (p := 3) rfl ?_); refine store_event (t := 3) (p := 3) (v := .const (.int .i64 0)) (w1 := w2.setCell ⟨m, 0, none⟩ (.int .i64 0)) rfl rfl rfl ?hrS ?_; (case hrS => first | (go_simp; done) | (go_simp; rfl)); intro w3 hw3; have BM3 : Aside0 (w3.heap[m]? = some (.cells #[.int .i64 0] 3 (0, 0))) := ⟨by rw [hw3]; exact blk_set BM.out 0 _⟩; have HB3 : Aside0 (Below w.heap.size w w3) := ⟨by rw [hw3]; exact below_set HB2.out HM.out⟩; have BK3 : Aside0 (w3.heap[gb]? = some (.cells (cellsE e (.slice A e.f6.length c)) 46 (0, 0))) := ⟨by rw [hw3]; exact (Below.heap_setCell _ _ _ _ (by have := HGM.out; show gb ≠ m; omega)).trans BK2.out⟩; clear hw3 hcm hfm) | ((with_reducible refine gate_store (t := 80) (p := 4) rfl ?_); (refine store_event (t := 80) (p := 4) (v := .tmp 5) (w1 := w3b.setCell ⟨g, 0, none⟩ (.func (.func 58) #[] #[pt m, pt g])) rfl rfl rfl ?hrS ?_); (case hrS => first | (go_simp; done) | (go_simp; rfl)); intro w4 hw4; have HE4 : Aside0 (Ew w w4 m g 0) := ⟨by rw [hw4]; exact ⟨below_set HB3b.out HNE.out.2.2, HM.out, by have := HNE.out.2.1; omega, (Below.heap_setCell _ _ _ _ (by have := HNE.out.2.1; show m ≠ g; omega)).trans BM3b.out, blk_set BG.out 0 _⟩⟩; have BK4 : Aside0 (w4.heap[gb]? = some (.cells (cellsE e (.slice A e.f6.length c)) 46 (0, 0))) := ⟨by rw [hw4]; exact (Below.heap_setCell _ _ _ _ (by have := HNE.out.1; show gb ≠ g; omega)).trans BK3b.out⟩; clear hw4 hcg hfg; have hcg := (blk_cell HE4.out.hG 0).trans (rfl : _ = some (Value.func (.func 58) #[] #[pt m, pt g])); have c0 := (blk_cell BK4.out 0).trans (rfl : _ = some (Value.int .i64 e.f0)); have c1 := (blk_cell BK4.out 1).trans (rfl : _ = some (Value.int .i64 e.f1.f0)); have c2 := (blk_cell BK4.out 2).trans (rfl : _ = some (Value.int .i64 e.f1.f1)); have c3 := (blk_cell BK4.out 3).trans (rfl : _ = some (Value.string e.f1.f2)); have c4 := (blk_cell BK4.out 4).trans (rfl : _ = some (Value.int .i64 e.f2)); have c5 := (blk_cell BK4.out 5).trans (rfl : _ = some (Value.int .i64 e.f3)); have c6 := (blk_cell BK4.out 6).trans (rfl : _ = some (Value.int .i64 e.f4)); have c7 := (blk_cell BK4.out 7).trans (rfl : _ = some (Value.string e.f5)); have c8 := (blk_cell BK4.out 8).trans (rfl : _ = some (Value.slice A e.f6.length c))) | (go_at_call 58; refine (walk58 20 (Nat.le_refl _) 1 w w4 m g 0 e A c (by decide) (by decide) HE4.out (Nat.zero_le _) HC.out).mono ?_; rintro e_ w5 ⟨rfl, hE5, hK5⟩; have HB5 := Aside0.mk hE5.low; clear hE5 hK5))
  go_ret
  exact ⟨rfl, HB5.out⟩
def orT (e : S46) (v : Int) : Int := if e.f0 = 2 then Go.bits .or .i64 v (wrap64 (2 ^ e.f2.toNat)) else v
def tb : Nat → S46 → Int → Int
  | 0, _, v => v
  | k + 1, e, v => e.f6.foldl (fun v x => tb k x v) (orT e v)
def okD : Nat → S46 → Bool
  | 0, _ => false
  | k + 1, e => ownB e && e.f6.all (okD k)
theorem wkL_all {f : S46 → Nat → Nat × Bool} {p : S46 → Bool} (hf : ∀ e n, (f e n).2 = true → p e = true) : ∀ l n, (wkL f l n).2 = true → l.all p = true := by
  intro l
  induction l with
  | nil => intro n _; rfl
  | cons x l ih =>
    intro n h
    unfold wkL at h
    split at h
    · rename_i h1
      rw [List.all_cons, hf _ _ h1, ih _ h]
      rfl
    · cases h
theorem wk_ok : ∀ k e n, (wk k e n).2 = true → okD k e = true := by
  intro k
  induction k with
  | zero => intro e n h; cases h
  | succ k ih =>
    intro e n h
    unfold wk at h
    split at h
    · cases h
    · split at h
      · rename_i h1
        unfold okD
        rw [h1, wkL_all ih _ _ h]
        rfl
      · cases h
theorem own_rel {e : S46} (h : ownB e = true) (h2 : e.f0 = 2) : 0 ≤ e.f2 ∧ e.f2 ≤ 15 := by
  unfold ownB ownT at h
  rw [if_neg (by omega), if_pos h2] at h
  simp only [Bool.and_eq_true, decide_eq_true_eq] at h
  exact ⟨h.2.2.1, h.2.2.2.1⟩
structure Es (w0 w : World) (s : Nat) (v : Int) : Prop where
  low : Below w0.heap.size w0 w
  ls : w0.heap.size ≤ s
  hS : w.heap[s]? = some (.cells #[.int .i64 v] 3 (0, 0))
theorem Es.below {w0 w w' : World} {s : Nat} {v : Int} (h : Es w0 w s v) (hb : Below w.heap.size w w') : Es w0 w' s v :=
  ⟨h.low.trans (hb.mono h.low.size), h.ls, (hb.block s (blk_lt h.hS)).trans h.hS⟩
theorem Es.set {w0 w : World} {s : Nat} {v : Int} (h : Es w0 w s v) (v' : Int) : Es w0 (w.setCell ⟨s, 0, none⟩ (.int .i64 v')) s v' :=
  ⟨below_set h.low h.ls, h.ls, blk_set h.hS 0 _⟩
set_option maxRecDepth 8000 in
set_option maxHeartbeats 4000000 in
theorem tab48 (w0 w : World) (s : Nat) (v : Int) (e : S46) (A : Option Addr) (c : Nat) (hE : Es w0 w s v) (h2 : e.f0 = 2 → 0 ≤ e.f2 ∧ e.f2 ≤ 15) :
    Calls Tryd.prog 48 #[encE e A c, pt s] w fun e_ w' => e_ = .returned (.bool false) ∧ Es w0 w' s (orT e v) ∧ Kp w w' (fun j => j = s) := by
  have HE := Aside0.mk hE
  clear hE
  have hu46 := Tryd.underlying46
  by_cases o2 : e.f0 = 2
  · obtain ⟨r0, r1⟩ := h2 o2
    have HO : Aside0 (orT e v = Go.bits .or .i64 v (wrap64 (2 ^ e.f2.toNat))) := ⟨by unfold orT; rw [if_pos o2]⟩
    have o2b : (e.f0 == 2) = true := beq_iff_eq.2 o2
    clear o2 h2
    have hsh : decide (0 ≤ e.f2) = true := decide_eq_true r0
    have hsh2 : ¬ e.f2 < 0 := by omega
    go_enter Tryd.func48, Tryd.ntmps48
    go_wp2_with (((with_reducible refine gate_dst (N := 2) rfl ?_); refine box_event ?hg (N := 2) ?hd (cs := cellsE e (.slice A e.f6.length c)) (t := 46) ?hr ?_; (case hd => rfl); (case hg => rfl); (case hr => unfold cellsE encE; first | (go_simp; done) | (go_simp; rfl)); intro gb hg1 w1 hbox hb; have BK := Aside0.mk hbox; have HB := Aside0.mk hb; have HG1 := Aside0.mk hg1; clear hbox hb hg1; have c0 := (blk_cell BK.out 0).trans (rfl : _ = some (Value.int .i64 e.f0)); have c1 := (blk_cell BK.out 1).trans (rfl : _ = some (Value.int .i64 e.f1.f0)); have c2 := (blk_cell BK.out 2).trans (rfl : _ = some (Value.int .i64 e.f1.f1)); have c3 := (blk_cell BK.out 3).trans (rfl : _ = some (Value.string e.f1.f2)); have c4 := (blk_cell BK.out 4).trans (rfl : _ = some (Value.int .i64 e.f2)); have c5 := (blk_cell BK.out 5).trans (rfl : _ = some (Value.int .i64 e.f3)); have c6 := (blk_cell BK.out 6).trans (rfl : _ = some (Value.int .i64 e.f4)); have c7 := (blk_cell BK.out 7).trans (rfl : _ = some (Value.string e.f5)); have c8 := (blk_cell BK.out 8).trans (rfl : _ = some (Value.slice A e.f6.length c))))
    have HE1 := Aside0.mk (HE.out.below HB.out)
    have HS3 := Aside0.mk (blk_drew HE1.out.hS)
    have m0_ : Aside0 (w1.drew.cell? ⟨s, 0, none⟩ = some (.int .i64 v)) := ⟨(blk_cell HS3.out 0).trans rfl⟩
    have m1_ : Aside0 (w1.drew.cell? ⟨gb, 4, none⟩ = some (.int .i64 e.f2)) := ⟨(blk_cell (blk_drew BK.out) 4).trans rfl⟩
    clear c0 c1 c2 c3 c4 c5 c6 c7 c8
    refine start_ (n := 6) (S := fun w' => w'.cell? ⟨s, 0, none⟩ = some (.int .i64 v) ∧ w'.cell? ⟨gb, 4, none⟩ = some (.int .i64 e.f2)) (ds := [5]) #[false, false, false, false, false, false] (by kernel_rfl) rfl rfl ⟨m0_.out, m1_.out⟩ (fun hHeld => ?_)
    refine pure_ (i := 1) (N := some 8) (v := ?_) (a' := ?_) #[false, true, false, false, false, false] rfl rfl (by kernel_rfl) (fun _ _ _ h => h) (Or.inl ⟨by rfl, ?_⟩) ?_ ?_
    rotate_left
    · intro w'
      go_simp
      with_reducible rfl
    rotate_left
    · simp only [Act.put, List.setIfInBounds_toArray, List.set_cons_zero, List.set_cons_succ, i64_w, i32_w]
      rfl
    refine take_ (i := 0) (N := some 7) (v := ?_) (a' := ?_) #[true, true, false, false, false, false] rfl rfl (by kernel_rfl) (fun _ _ _ h => h) (Or.inl ⟨by rfl, ?_⟩) hHeld ?_ ?_
    rotate_left
    · rintro w' ⟨s0, s1⟩
      go_simp
      with_reducible rfl
    rotate_left
    · simp only [Act.put, List.setIfInBounds_toArray, List.set_cons_zero, List.set_cons_succ, i64_w, i32_w]
      rfl
    refine take_ (i := 2) (N := some 9) (v := ?_) (a' := ?_) #[true, true, true, false, false, false] rfl rfl (by kernel_rfl) (fun _ _ _ h => h) (Or.inl ⟨by rfl, ?_⟩) hHeld ?_ ?_
    rotate_left
    · rintro w' ⟨s0, s1⟩
      go_simp
      with_reducible rfl
    rotate_left
    · simp only [Act.put, List.setIfInBounds_toArray, List.set_cons_zero, List.set_cons_succ, i64_w, i32_w]
      rfl
    refine pure_ (i := 3) (N := some 10) (v := ?_) (a' := ?_) #[true, true, true, true, false, false] rfl rfl (by kernel_rfl) (fun _ _ _ h => h) (Or.inl ⟨by rfl, ?_⟩) ?_ ?_
    rotate_left
    · intro w'
      go_simp
      with_reducible rfl
    rotate_left
    · simp only [Act.put, List.setIfInBounds_toArray, List.set_cons_zero, List.set_cons_succ, i64_w, i32_w]
      rfl
    refine pure_ (i := 4) (N := some 11) (v := ?_) (a' := ?_) #[true, true, true, true, true, false] rfl rfl (by kernel_rfl) (fun _ _ _ h => h) (Or.inl ⟨by rfl, ?_⟩) ?_ ?_
    rotate_left
    · intro w'
      go_simp
      with_reducible rfl
    rotate_left
    · simp only [Act.put, List.setIfInBounds_toArray, List.set_cons_zero, List.set_cons_succ, i64_w, i32_w]
      rfl
    refine last_ (i := 5) (N := none) #[true, true, true, true, true, true] rfl rfl (by kernel_rfl) (by decide) (fun K hK => ?_)
    have hs_ := (blk_cell HS3.out 0).trans (rfl : _ = some (Value.int .i64 v))
    have hfs_ := blk_frozen HS3.out 0
    refine skip_ (w1 := ?_) (by rfl) rfl ?_ ?_
    rotate_left
    · go_simp
      rfl
    refine hK.out _ _ ?_
    clear hK K
    refine done_ (by kernel_rfl) ?_
    go_wp2
    go_ret
    rw [HO.out]
    exact ⟨rfl, (HE1.out.set _).below (below_drew (Below.refl _ _)), ((Kp.below HB.out).set _).then (below_drew (Below.refl _ _))⟩
  · have HO : Aside0 (orT e v = v) := ⟨by unfold orT; rw [if_neg o2]⟩
    have o2b : (e.f0 == 2) = false := beq_eq_false_iff_ne.2 o2
    clear o2 h2
    go_enter Tryd.func48, Tryd.ntmps48
    go_wp2_with (((with_reducible refine gate_dst (N := 2) rfl ?_); refine box_event ?hg (N := 2) ?hd (cs := cellsE e (.slice A e.f6.length c)) (t := 46) ?hr ?_; (case hd => rfl); (case hg => rfl); (case hr => unfold cellsE encE; first | (go_simp; done) | (go_simp; rfl)); intro gb hg1 w1 hbox hb; have BK := Aside0.mk hbox; have HB := Aside0.mk hb; have HG1 := Aside0.mk hg1; clear hbox hb hg1; have c0 := (blk_cell BK.out 0).trans (rfl : _ = some (Value.int .i64 e.f0)); have c1 := (blk_cell BK.out 1).trans (rfl : _ = some (Value.int .i64 e.f1.f0)); have c2 := (blk_cell BK.out 2).trans (rfl : _ = some (Value.int .i64 e.f1.f1)); have c3 := (blk_cell BK.out 3).trans (rfl : _ = some (Value.string e.f1.f2)); have c4 := (blk_cell BK.out 4).trans (rfl : _ = some (Value.int .i64 e.f2)); have c5 := (blk_cell BK.out 5).trans (rfl : _ = some (Value.int .i64 e.f3)); have c6 := (blk_cell BK.out 6).trans (rfl : _ = some (Value.int .i64 e.f4)); have c7 := (blk_cell BK.out 7).trans (rfl : _ = some (Value.string e.f5)); have c8 := (blk_cell BK.out 8).trans (rfl : _ = some (Value.slice A e.f6.length c))))
    go_ret
    rw [HO.out]
    exact ⟨rfl, HE.out.below HB.out, Kp.below HB.out⟩
abbrev fn48 (s : Nat) : Value := .func (.func 48) #[] #[pt s]
def Cs (k : Nat) : Prop := ∀ (w0 w : World) (s : Nat) (v : Int) (e : S46) (A : Option Addr) (c : Nat), Es w0 w s v → okD k e = true → k46.C w0 A e.f6.length e.f6 →
  Calls Tryd.prog 47 #[encE e A c, fn48 s] w fun e_ w' => e_ = .returned (.bool false) ∧ Es w0 w' s (tb k e v) ∧ Kp w w' (fun j => j = s)
set_option maxRecDepth 8000 in
set_option maxHeartbeats 2000000 in
theorem at62 (k : Nat) (hk : Cs k) (w0 w : World) (s : Nat) (v : Int) (d : Nat) (e : S46) (A : Option Addr) (c : Nat) (hE : Es w0 w s v) (ho : okD k e = true) (hC : k46.C w0 A e.f6.length e.f6)
    (hd : w.heap[d]? = some (.cells #[fn48 s] 53 (0, 0))) :
    Calls Tryd.prog 62 #[encE e A c, pt d] w fun e_ w' => e_ = .returned (.bool false) ∧ Es w0 w' s (tb k e v) ∧ Kp w w' (fun j => j = s) := by
  have HE := Aside0.mk hE
  have HC := Aside0.mk hC
  have HD := Aside0.mk hd
  have HO := Aside0.mk ho
  have hu46 := Tryd.underlying46
  clear hE hC hd ho
  go_enter Tryd.func62, Tryd.ntmps62
  go_wp2_with (first | ((with_reducible refine gate_dst (N := 2) rfl ?_); refine box_event ?hg (N := 2) ?hd (cs := cellsE e (.slice A e.f6.length c)) (t := 46) ?hr ?_; (case hd => rfl); (case hg => rfl); (case hr => unfold cellsE encE; first | (go_simp; done) | (go_simp; rfl)); intro gb hg1 w1 hbox hb; have BK := Aside0.mk hbox; have HB := Aside0.mk hb; have HG1 := Aside0.mk hg1; clear hbox hb hg1; have hcd := (blk_cell ((HB.out.block d (blk_lt HD.out)).trans HD.out) 0).trans (rfl : _ = some (fn48 s)); have c0 := (blk_cell BK.out 0).trans (rfl : _ = some (Value.int .i64 e.f0)); have c1 := (blk_cell BK.out 1).trans (rfl : _ = some (Value.int .i64 e.f1.f0)); have c2 := (blk_cell BK.out 2).trans (rfl : _ = some (Value.int .i64 e.f1.f1)); have c3 := (blk_cell BK.out 3).trans (rfl : _ = some (Value.string e.f1.f2)); have c4 := (blk_cell BK.out 4).trans (rfl : _ = some (Value.int .i64 e.f2)); have c5 := (blk_cell BK.out 5).trans (rfl : _ = some (Value.int .i64 e.f3)); have c6 := (blk_cell BK.out 6).trans (rfl : _ = some (Value.int .i64 e.f4)); have c7 := (blk_cell BK.out 7).trans (rfl : _ = some (Value.string e.f5)); have c8 := (blk_cell BK.out 8).trans (rfl : _ = some (Value.slice A e.f6.length c))) | (go_at_call 47; refine (hk w0 _ s v e A c (HE.out.below HB.out) HO.out HC.out).mono ?_; rintro e_ w2 ⟨rfl, hE2, hK2⟩; have HE2 := Aside0.mk hE2; have HK2 := Aside0.mk ((Kp.below HB.out).same hK2); clear hE2 hK2))
  go_ret
  exact ⟨rfl, HE2.out, HK2.out⟩
set_option maxRecDepth 8000 in
set_option maxHeartbeats 2000000 in
theorem index74T (k : Nat) (hk : Cs k) (w0 w : World) (s : Nat) (v : Int) (d : Nat) (A : Option Addr) (c : Nat) (xs : List S46) (hE : Es w0 w s v) (ho : xs.all (okD k) = true) (hC : k46.C w0 A xs.length xs) (hl : xs.length ≤ 1000)
    (hd : w.heap[d]? = some (.cells #[fn48 s] 53 (0, 0))) (hdm : d ≠ s) :
    Calls Tryd.prog 74 #[.slice A xs.length c, .func (.func 62) #[] #[pt d]] w fun e_ w' => e_ = .returned (.int .i64 (-1)) ∧ Es w0 w' s (xs.foldl (fun v x => tb k x v) v) ∧ Kp w w' (fun j => j = s) := by
  have HE := Aside0.mk hE
  have HC := Aside0.mk hC
  have HD := Aside0.mk hd
  have HO := Aside0.mk ho
  clear hE hC hd ho
  have hu46 := Tryd.underlying46
  go_enter Tryd.func74, Tryd.ntmps74
  go_wp2
  go_loopw [8] (fun s_ wr => ∃ (i : Nat) (v' : Int), i ≤ xs.length ∧ s_ = .int .i64 (i : Int) ∧ Aside0 (xs.foldl (fun v x => tb k x v) v = (xs.drop i).foldl (fun v x => tb k x v) v') ∧ Aside0 (Es w0 wr s v') ∧ Aside0 (Kp w wr (fun j => j = s))) (fun s_ _ => xs.length - (intOf s_).toNat)
  case atStart => exact ⟨0, v, Nat.zero_le _, rfl, ⟨rfl⟩, HE, ⟨Kp.refl⟩⟩
  case round =>
    obtain ⟨i, v', hi, rfl, HW, HE', HK'⟩ := hrel
    by_cases hlt : i < xs.length
    · have hin : (i : Int) < (xs.length : Int) := by omega
      have HDR := Aside0.mk (List.drop_eq_getElem_cons hlt)
      have HOI := Aside0.mk (List.all_eq_true.1 HO.out _ (List.getElem_mem hlt))
      have hrd : rd_T46 xs (i : Int) = xs[i] := by unfold rd_T46; rw [Int.toNat_natCast, List.getD_eq_getElem?_getD, List.getElem?_eq_getElem hlt]; rfl
      obtain ⟨ad, A8, c8, e0, x0, x1, x2, x3, x4, x5, x6, x7, x8, l8, g8⟩ := at_T46 (Kd.C_below HC.out HE'.out.low) (i : Int) (by omega) hin
      obtain ⟨ad0, A80, c80, e00, _, _, _, _, _, _, _, _, y8, l80, g80⟩ := at_T46 HC.out (i : Int) (by omega) hin
      have hA8 : A80 = A8 ∧ c80 = c8 := by
        rw [e0] at e00
        injection e00 with e00
        subst e00
        have := (cells_later HE'.out.low y8).symm.trans x8
        injection this with this
        injection this with h1 _ h2
        exact ⟨h1, h2⟩
      obtain ⟨rfl, rfl⟩ := hA8
      subst e0
      have HG8 := Aside0.mk g80
      clear g80 g8 y8 e00 l80
      rw [hrd] at x0 x1 x2 x3 x4 x5 x6 x7 x8 l8 HG8
      rw [Int.toNat_natCast] at x0 x1 x2 x3 x4 x5 x6 x7 x8
      clear hrd
      generalize xs[i] = e at *
      go_wp2_with (go_at_call 62; refine (at62 k hk w0 wr s v' d e _ _ HE'.out HOI.out HG8.out ((HK'.out.far d (blk_lt HD.out) hdm).trans HD.out)).mono ?_; rintro e_ w2 ⟨rfl, hE2, hK2⟩; have HE2 := Aside0.mk hE2; have HK2 := Aside0.mk (HK'.out.same hK2); clear hE2 hK2)
      go_roundw
      case rel => exact ⟨i + 1, tb k e v', by omega, by go_num, ⟨by rw [HW.out, HDR.out]; rfl⟩, HE2, HK2⟩
      case measure => simp [intOf]; omega
    · have HI : Aside0 (xs.foldl (fun v x => tb k x v) v = v') := ⟨by rw [HW.out, List.drop_eq_nil_of_le (by omega)]; rfl⟩
      have hle : xs.length ≤ i := by omega
      go_wp2
      go_ret
      rw [HI.out]
      exact ⟨rfl, HE'.out, HK'.out⟩
set_option maxHeartbeats 2000000 in
theorem contains60T (k : Nat) (hk : Cs k) (w0 w : World) (s : Nat) (v : Int) (d : Nat) (A : Option Addr) (c : Nat) (xs : List S46) (hE : Es w0 w s v) (ho : xs.all (okD k) = true) (hC : k46.C w0 A xs.length xs) (hl : xs.length ≤ 1000)
    (hd : w.heap[d]? = some (.cells #[fn48 s] 53 (0, 0))) (hdm : d ≠ s) :
    Calls Tryd.prog 60 #[.slice A xs.length c, .func (.func 62) #[] #[pt d]] w fun e_ w' => e_ = .returned (.bool false) ∧ Es w0 w' s (xs.foldl (fun v x => tb k x v) v) ∧ Kp w w' (fun j => j = s) := by
  have H := Aside0.mk (index74T k hk w0 w s v d A c xs hE ho hC hl hd hdm)
  clear hE hC hl hd hdm hk ho
  go_enter Tryd.func60, Tryd.ntmps60
  go_wp2_with (go_at_call 74; refine H.out.mono ?_; rintro e_ w2 ⟨rfl, hE2, hK2⟩; have HE2 := Aside0.mk hE2; have HK2 := Aside0.mk hK2; clear hE2 hK2 H)
  go_ret
  exact ⟨rfl, HE2.out, HK2.out⟩
set_option maxRecDepth 8000 in
set_option maxHeartbeats 4000000 in
theorem some47 (k : Nat) : Cs k := by
  induction k with
  | zero => intro w0 w s v e A c _ h; cases h
  | succ k ih =>
    intro w0 w s v e A c hE ho hC
    have HE := Aside0.mk hE
    have HC := Aside0.mk hC
    unfold okD at ho
    obtain ⟨ho1, ho2⟩ := Bool.and_eq_true_iff.1 ho
    have HO2 := Aside0.mk ho2
    have HR := Aside0.mk (own_rel ho1)
    have HL : Aside0 (e.f6.length ≤ 1000) := ⟨by have := own_len ho1; omega⟩
    clear hE hC ho ho1 ho2
    have hu46 := Tryd.underlying46
    go_enter Tryd.func47, Tryd.ntmps47
    go_wp2_with (first | ((with_reducible refine gate_dst (N := 2) rfl ?_); refine box_event ?hg (N := 2) ?hd (cs := cellsE e (.slice A e.f6.length c)) (t := 46) ?hr ?_; (case hd => rfl); (case hg => rfl); (case hr => unfold cellsE encE; first | (go_simp; done) | (go_simp; rfl)); intro gb hg1 w1 hbox hb; have BK := Aside0.mk hbox; have HB := Aside0.mk hb; have HG1 := Aside0.mk hg1; clear hbox hb hg1) | ((with_reducible refine gate_dst (N := 3) rfl ?_); refine box_event ?hg (N := 3) ?hd (cs := #[fn48 s]) (t := 53) ?hr ?_; (case hd => rfl); (case hg => rfl); (case hr => first | (go_simp; done) | (go_simp; rfl)); intro gd hg1 w2 hbox hb; have BD := Aside0.mk hbox; have BK2 := Aside0.mk ((hb.block gb (blk_lt BK.out)).trans BK.out); have HB2 := Aside0.mk (HB.out.trans (hb.mono HB.out.size)); have HNE : Aside0 (gd ≠ s ∧ gb ≠ s) := ⟨by rw [hg1]; have := blk_lt (HE.out.below HB.out).hS; omega, by have := blk_lt HE.out.hS; rw [HG1.out]; omega⟩; have hcd := (blk_cell BD.out 0).trans (rfl : _ = some (fn48 s)); have c0 := (blk_cell BK2.out 0).trans (rfl : _ = some (Value.int .i64 e.f0)); have c1 := (blk_cell BK2.out 1).trans (rfl : _ = some (Value.int .i64 e.f1.f0)); have c2 := (blk_cell BK2.out 2).trans (rfl : _ = some (Value.int .i64 e.f1.f1)); have c3 := (blk_cell BK2.out 3).trans (rfl : _ = some (Value.string e.f1.f2)); have c4 := (blk_cell BK2.out 4).trans (rfl : _ = some (Value.int .i64 e.f2)); have c5 := (blk_cell BK2.out 5).trans (rfl : _ = some (Value.int .i64 e.f3)); have c6 := (blk_cell BK2.out 6).trans (rfl : _ = some (Value.int .i64 e.f4)); have c7 := (blk_cell BK2.out 7).trans (rfl : _ = some (Value.string e.f5)); have c8 := (blk_cell BK2.out 8).trans (rfl : _ = some (Value.slice A e.f6.length c)); clear hbox hb hg1) | (go_at_call 48; refine (tab48 w0 _ s v e A c (HE.out.below HB2.out) HR.out).mono ?_; rintro e_ w4 ⟨rfl, hE4, hK4⟩; have HE4 := Aside0.mk hE4; have HK4 := Aside0.mk ((Kp.below HB2.out).same hK4); have BD4 := Aside0.mk ((hK4.far gd (blk_lt BD.out) HNE.out.1).trans BD.out); have BK4 := Aside0.mk ((hK4.far gb (blk_lt BK2.out) HNE.out.2).trans BK2.out); clear hE4 hK4; have c8 := (blk_cell BK4.out 8).trans (rfl : _ = some (Value.slice A e.f6.length c))) | (go_at_call 60; refine (contains60T k ih w0 _ s (orT e v) gd A c e.f6 HE4.out HO2.out HC.out HL.out BD4.out HNE.out.1).mono ?_; rintro e_ w5 ⟨rfl, hE5, hK5⟩; have HE5 := Aside0.mk hE5; have HK5 := Aside0.mk (HK4.out.same hK5); clear hE5 hK5))
    go_ret
    exact ⟨rfl, HE5.out, HK5.out⟩
def tablesX (e : S46) : Int := if rightX e = true then tb 20 e 0 else 0
set_option maxRecDepth 8000 in
set_option maxHeartbeats 4000000 in
theorem tables19 (e : S46) (A : Option Addr) (c : Nat) (w : World) (hC : k46.C w A e.f6.length e.f6) :
    Calls Tryd.prog 19 #[encE e A c] w fun e_ w' => e_ = .returned (.int .i64 (tablesX e)) ∧ Below w.heap.size w w' := by
  have HC := Aside0.mk hC
  clear hC
  have hu46 := Tryd.underlying46
  rcases Bool.eq_false_or_eq_true (rightX e) with hr | hr
  · have HT : Aside0 (tablesX e = tb 20 e 0) := ⟨by unfold tablesX; rw [if_pos hr]⟩
    have HO := Aside0.mk (wk_ok 20 e 0 hr)
    have HR := Aside0.mk hr
    clear hr
    go_enter Tryd.func19, Tryd.ntmps19
    go_wp2_with (first | ((with_reducible refine gate_dst (N := 1) rfl ?_); refine box_event ?hg (N := 1) ?hd (cs := cellsE e (.slice A e.f6.length c)) (t := 46) ?hr ?_; (case hd => rfl); (case hg => rfl); (case hr => unfold cellsE encE; first | (go_simp; done) | (go_simp; rfl)); intro gb hg1 w1 hbox hb; have BK := Aside0.mk hbox; have HB := Aside0.mk hb; have HG1 := Aside0.mk hg1; clear hbox hb hg1) | ((with_reducible refine gate_dst (N := 3) rfl ?_); refine box_event ?hg (N := 3) ?hd (cs := #[.int .i64 0]) (t := 3) ?hr ?_; (case hd => rfl); (case hg => rfl); (case hr => first | (go_simp; done) | (go_simp; rfl)); intro m hg1 w2 hbox hb; have BM := Aside0.mk hbox; have HB2 := Aside0.mk (HB.out.trans (hb.mono HB.out.size)); have BK2 := Aside0.mk ((hb.block gb (blk_lt BK.out)).trans BK.out); have HM : Aside0 (w.heap.size ≤ m ∧ gb < m) := ⟨by rw [hg1]; exact ⟨HB.out.size, blk_lt BK.out⟩⟩; have hcm := (blk_cell BM.out 0).trans (rfl : _ = some (Value.int .i64 0)); have hfm := blk_frozen BM.out 0; clear hbox hb hg1) | ((with_reducible refine gate_store (t := 3) (p := 3) rfl ?_); refine store_event (t := 3) (p := 3) (v := .const (.int .i64 0)) (w1 := w2.setCell ⟨m, 0, none⟩ (.int .i64 0)) rfl rfl rfl ?hrS ?_; (case hrS => first | (go_simp; done) | (go_simp; rfl)); intro w3 hw3; have HE3 : Aside0 (Es w w3 m 0) := ⟨by rw [hw3]; exact ⟨below_set HB2.out HM.out.1, HM.out.1, blk_set BM.out 0 _⟩⟩; have BK3 : Aside0 (w3.heap[gb]? = some (.cells (cellsE e (.slice A e.f6.length c)) 46 (0, 0))) := ⟨by rw [hw3]; exact (Below.heap_setCell _ _ _ _ (by have := HM.out.2; show gb ≠ m; omega)).trans BK2.out⟩; clear hw3 hcm hfm; have hcm := (blk_cell HE3.out.hS 0).trans (rfl : _ = some (Value.int .i64 0)); have c0 := (blk_cell BK3.out 0).trans (rfl : _ = some (Value.int .i64 e.f0)); have c1 := (blk_cell BK3.out 1).trans (rfl : _ = some (Value.int .i64 e.f1.f0)); have c2 := (blk_cell BK3.out 2).trans (rfl : _ = some (Value.int .i64 e.f1.f1)); have c3 := (blk_cell BK3.out 3).trans (rfl : _ = some (Value.string e.f1.f2)); have c4 := (blk_cell BK3.out 4).trans (rfl : _ = some (Value.int .i64 e.f2)); have c5 := (blk_cell BK3.out 5).trans (rfl : _ = some (Value.int .i64 e.f3)); have c6 := (blk_cell BK3.out 6).trans (rfl : _ = some (Value.int .i64 e.f4)); have c7 := (blk_cell BK3.out 7).trans (rfl : _ = some (Value.string e.f5)); have c8 := (blk_cell BK3.out 8).trans (rfl : _ = some (Value.slice A e.f6.length c))) | (go_at_call 46; refine (right46 e A c _ (Kd.C_below HC.out HE3.out.low)).mono ?_; rw [HR.out]; rintro e_ w4 ⟨rfl, hb4⟩; have HE4 := Aside0.mk (HE3.out.below hb4); have BK4 := Aside0.mk ((hb4.block gb (blk_lt BK3.out)).trans BK3.out); clear hb4; have hcm := (blk_cell HE4.out.hS 0).trans (rfl : _ = some (Value.int .i64 0)); have c0 := (blk_cell BK4.out 0).trans (rfl : _ = some (Value.int .i64 e.f0)); have c1 := (blk_cell BK4.out 1).trans (rfl : _ = some (Value.int .i64 e.f1.f0)); have c2 := (blk_cell BK4.out 2).trans (rfl : _ = some (Value.int .i64 e.f1.f1)); have c3 := (blk_cell BK4.out 3).trans (rfl : _ = some (Value.string e.f1.f2)); have c4 := (blk_cell BK4.out 4).trans (rfl : _ = some (Value.int .i64 e.f2)); have c5 := (blk_cell BK4.out 5).trans (rfl : _ = some (Value.int .i64 e.f3)); have c6 := (blk_cell BK4.out 6).trans (rfl : _ = some (Value.int .i64 e.f4)); have c7 := (blk_cell BK4.out 7).trans (rfl : _ = some (Value.string e.f5)); have c8 := (blk_cell BK4.out 8).trans (rfl : _ = some (Value.slice A e.f6.length c))) | (go_at_call 47; refine (some47 20 w w4 m 0 e A c HE4.out HO.out HC.out).mono ?_; rintro e_ w5 ⟨rfl, hE5, hK5⟩; have HE5 := Aside0.mk hE5; clear hE5 hK5; have hcm := (blk_cell HE5.out.hS 0).trans (rfl : _ = some (Value.int .i64 (tb 20 e 0)))))
    go_ret
    rw [HT.out]
    exact ⟨rfl, HE5.out.low⟩
  · have HT : Aside0 (tablesX e = 0) := ⟨by unfold tablesX; rw [if_neg (by rw [hr]; decide)]⟩
    have HR := Aside0.mk hr
    clear hr
    go_enter Tryd.func19, Tryd.ntmps19
    go_wp2_with (first | ((with_reducible refine gate_dst (N := 1) rfl ?_); refine box_event ?hg (N := 1) ?hd (cs := cellsE e (.slice A e.f6.length c)) (t := 46) ?hr ?_; (case hd => rfl); (case hg => rfl); (case hr => unfold cellsE encE; first | (go_simp; done) | (go_simp; rfl)); intro gb hg1 w1 hbox hb; have BK := Aside0.mk hbox; have HB := Aside0.mk hb; have HG1 := Aside0.mk hg1; clear hbox hb hg1) | ((with_reducible refine gate_dst (N := 3) rfl ?_); refine box_event ?hg (N := 3) ?hd (cs := #[.int .i64 0]) (t := 3) ?hr ?_; (case hd => rfl); (case hg => rfl); (case hr => first | (go_simp; done) | (go_simp; rfl)); intro m hg1 w2 hbox hb; have BM := Aside0.mk hbox; have HB2 := Aside0.mk (HB.out.trans (hb.mono HB.out.size)); have BK2 := Aside0.mk ((hb.block gb (blk_lt BK.out)).trans BK.out); have HM : Aside0 (w.heap.size ≤ m ∧ gb < m) := ⟨by rw [hg1]; exact ⟨HB.out.size, blk_lt BK.out⟩⟩; have hcm := (blk_cell BM.out 0).trans (rfl : _ = some (Value.int .i64 0)); have hfm := blk_frozen BM.out 0; clear hbox hb hg1) | ((with_reducible refine gate_store (t := 3) (p := 3) rfl ?_); refine store_event (t := 3) (p := 3) (v := .const (.int .i64 0)) (w1 := w2.setCell ⟨m, 0, none⟩ (.int .i64 0)) rfl rfl rfl ?hrS ?_; (case hrS => first | (go_simp; done) | (go_simp; rfl)); intro w3 hw3; have HE3 : Aside0 (Es w w3 m 0) := ⟨by rw [hw3]; exact ⟨below_set HB2.out HM.out.1, HM.out.1, blk_set BM.out 0 _⟩⟩; have BK3 : Aside0 (w3.heap[gb]? = some (.cells (cellsE e (.slice A e.f6.length c)) 46 (0, 0))) := ⟨by rw [hw3]; exact (Below.heap_setCell _ _ _ _ (by have := HM.out.2; show gb ≠ m; omega)).trans BK2.out⟩; clear hw3 hcm hfm; have hcm := (blk_cell HE3.out.hS 0).trans (rfl : _ = some (Value.int .i64 0)); have c0 := (blk_cell BK3.out 0).trans (rfl : _ = some (Value.int .i64 e.f0)); have c1 := (blk_cell BK3.out 1).trans (rfl : _ = some (Value.int .i64 e.f1.f0)); have c2 := (blk_cell BK3.out 2).trans (rfl : _ = some (Value.int .i64 e.f1.f1)); have c3 := (blk_cell BK3.out 3).trans (rfl : _ = some (Value.string e.f1.f2)); have c4 := (blk_cell BK3.out 4).trans (rfl : _ = some (Value.int .i64 e.f2)); have c5 := (blk_cell BK3.out 5).trans (rfl : _ = some (Value.int .i64 e.f3)); have c6 := (blk_cell BK3.out 6).trans (rfl : _ = some (Value.int .i64 e.f4)); have c7 := (blk_cell BK3.out 7).trans (rfl : _ = some (Value.string e.f5)); have c8 := (blk_cell BK3.out 8).trans (rfl : _ = some (Value.slice A e.f6.length c))) | (go_at_call 46; refine (right46 e A c _ (Kd.C_below HC.out HE3.out.low)).mono ?_; rw [HR.out]; rintro e_ w4 ⟨rfl, hb4⟩; have HE4 := Aside0.mk (HE3.out.below hb4); have BK4 := Aside0.mk ((hb4.block gb (blk_lt BK3.out)).trans BK3.out); clear hb4; have hcm := (blk_cell HE4.out.hS 0).trans (rfl : _ = some (Value.int .i64 0)); have c0 := (blk_cell BK4.out 0).trans (rfl : _ = some (Value.int .i64 e.f0)); have c1 := (blk_cell BK4.out 1).trans (rfl : _ = some (Value.int .i64 e.f1.f0)); have c2 := (blk_cell BK4.out 2).trans (rfl : _ = some (Value.int .i64 e.f1.f1)); have c3 := (blk_cell BK4.out 3).trans (rfl : _ = some (Value.string e.f1.f2)); have c4 := (blk_cell BK4.out 4).trans (rfl : _ = some (Value.int .i64 e.f2)); have c5 := (blk_cell BK4.out 5).trans (rfl : _ = some (Value.int .i64 e.f3)); have c6 := (blk_cell BK4.out 6).trans (rfl : _ = some (Value.int .i64 e.f4)); have c7 := (blk_cell BK4.out 7).trans (rfl : _ = some (Value.string e.f5)); have c8 := (blk_cell BK4.out 8).trans (rfl : _ = some (Value.slice A e.f6.length c))))
    go_ret
    rw [HT.out]
    exact ⟨rfl, HE4.out.low⟩

end Go.Proofs.YtmnjaihalajhcaaDoor.QPlanConds
