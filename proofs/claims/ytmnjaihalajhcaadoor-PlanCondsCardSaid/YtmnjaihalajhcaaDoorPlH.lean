import Derived.Test.YtmnjaihalajhcaaDoorPlD
/- Plan: walks by hand; the conditions stand in each theorem. -/
namespace Go.Proofs.YtmnjaihalajhcaaDoor.QPlanConds
open Go.RowKit Go.Proofs.YtmnjaihalajhcaaDoorW.PrintWords Go.Proofs.YtmnjaihalajhcaaDoorW.PrintLast Go.Proofs.YtmnjaihalajhcaaDoorW.PrintMore
attribute [local go_sem] max2_int min2_int max_two min_two max_three min_three max_four min_four
set_option linter.unusedVariables false
set_option linter.unusedSimpArgs false
theorem meas_ {l i : Nat} (h : i < l) : l - (intOf (.int .i64 ((i : Int) + 1))).toNat < l - (intOf (.int .i64 (i : Int))).toNat := by
  simp [intOf]
  omega
def encP (p : S34) (A : Option Addr) (c : Nat) : Value := .agg #[.int .i64 p.f0, .int .i64 p.f1, .int .i64 p.f2, .int .i64 p.f3, .bool p.f4, .int .i64 p.f5, .int .i64 p.f6, .slice A p.f7.length c]
def cellsP (p : S34) (v : Value) : Array Value := #[.int .i64 p.f0, .int .i64 p.f1, .int .i64 p.f2, .int .i64 p.f3, .bool p.f4, .int .i64 p.f5, .int .i64 p.f6, v]
def zeroP : Array Value := #[.int .i64 0, .int .i64 0, .int .i64 0, .int .i64 0, .bool false, .int .i64 0, .int .i64 0, .slice none 0 0]
/- A plan by its nodes: what f makes of a node and of what was made of its inputs. -/
mutual
def foldP {α : Type} (f : S34 → List α → α) : S34 → α
  | ⟨a0, a1, a2, a3, a4, a5, a6, l⟩ => f ⟨a0, a1, a2, a3, a4, a5, a6, l⟩ (foldL f l)
def foldL {α : Type} (f : S34 → List α → α) : List S34 → List α
  | [] => []
  | x :: l => foldP f x :: foldL f l
end
theorem foldL_map {α : Type} (f : S34 → List α → α) : ∀ l, foldL f l = l.map (foldP f)
  | [] => by simp [foldL]
  | x :: l => by rw [foldL, foldL_map f l]; rfl
theorem foldP_eq {α : Type} (f : S34 → List α → α) (p : S34) : foldP f p = f p (p.f7.map (foldP f)) := by
  cases p
  rw [foldP, foldL_map]
theorem size_in {p x : S34} (h : x ∈ p.f7) : SizeOf.sizeOf x < SizeOf.sizeOf p := by
  have := List.sizeOf_lt_of_mem h
  cases p
  simp at *
  omega
theorem ind34 {P : S34 → Prop} (h : ∀ p, (∀ x ∈ p.f7, P x) → P p) : ∀ p, P p := by
  have : ∀ n, ∀ p : S34, SizeOf.sizeOf p < n → P p := by
    intro n
    exact Nat.rec (motive := fun n => ∀ p : S34, SizeOf.sizeOf p < n → P p) (fun p hp => absurd hp (Nat.not_lt_zero _)) (fun n ih p hp => h p (fun x hx => ih x (by have := size_in hx; omega))) n
  exact fun p => this _ p (Nat.lt_succ_self _)
def szP : S34 → Nat := foldP (fun _ l => 1 + l.sum)
theorem szP_eq (p : S34) : szP p = 1 + (p.f7.map szP).sum := foldP_eq _ p
theorem szP_pos (p : S34) : 1 ≤ szP p := by rw [szP_eq]; omega
structure En (w0 w : World) (m g n : Nat) : Prop where
  low : Below w0.heap.size w0 w
  lm : w0.heap.size ≤ m
  ne : g ≠ m
  hM : w.heap[m]? = some (.cells #[.int .i64 (n : Int)] 3 (0, 0))
  hG : w.heap[g]? = some (.cells #[.func (.func 39) #[] #[pt m, pt g]] 62 (0, 0))
theorem En.below {w0 w w' : World} {m g n : Nat} (h : En w0 w m g n) (hb : Below w.heap.size w w') : En w0 w' m g n :=
  ⟨h.low.trans (hb.mono h.low.size), h.lm, h.ne, (hb.block m (blk_lt h.hM)).trans h.hM, (hb.block g (blk_lt h.hG)).trans h.hG⟩
theorem En.set {w0 w : World} {m g n n' : Nat} (h : En w0 w m g n) : En w0 (w.setCell ⟨m, 0, none⟩ (.int .i64 (n' : Int))) m g n' :=
  ⟨below_set h.low h.lm, h.lm, h.ne, blk_set h.hM 0 _, (Below.heap_setCell _ _ _ _ h.ne).trans h.hG⟩
def Cn (p : S34) : Prop := ∀ (w0 w : World) (m g n : Nat) (A : Option Addr) (c : Nat), En w0 w m g n → n < 1000 → k34.C w0 A p.f7.length p.f7 →
  Calls Tryd.prog 39 #[encP p A c, pt m, pt g] w fun e_ w' => e_ = .returned (.tuple #[]) ∧ En w0 w' m g (min 1000 (n + szP p)) ∧ Kp w w' (fun j => j = m)
set_option maxRecDepth 8000 in
set_option maxHeartbeats 4000000 in
theorem walk39 : ∀ p, Cn p := by
  refine ind34 ?_
  intro p ih w0 w m g n A c hE hn hC
  have HE := Aside0.mk hE
  have HC := Aside0.mk hC
  have HMX := Aside0.mk (Kd.C_max hC)
  clear hE hC
  have hwn : wrap64 ((n : Int) + 1) = (n : Int) + 1 := w64_ (by omega) (by omega)
  have hu34 := Tryd.underlying34
  by_cases h2 : n + 1 ≥ 1000
  · have hn2 : decide ((n : Int) + 1 ≥ 1000) = true := decide_eq_true (by omega)
    have HR : Aside0 (min 1000 (n + szP p) = n + 1) := ⟨by have := szP_pos p; omega⟩
    clear h2 ih
    go_enter Tryd.func39, Tryd.ntmps39
    go_wp2_with (first | ((with_reducible refine gate_dst (N := 3) rfl ?_); refine box_event ?hg (N := 3) ?hd (cs := cellsP p (.slice A p.f7.length c)) (t := 34) ?hr ?_; (case hd => rfl); (case hg => rfl); (case hr => unfold cellsP encP; first | (go_simp; done) | (go_simp; rfl)); intro gb hg1 w1 hbox hb; have BK := Aside0.mk hbox; have HB := Aside0.mk hb; have HNB : Aside0 (gb ≠ m) := ⟨by have := blk_lt HE.out.hM; rw [hg1]; omega⟩; have hcm := (blk_cell (HE.out.below HB.out).hM 0).trans (rfl : _ = some (Value.int .i64 (n : Int))); have hfm := blk_frozen (HE.out.below HB.out).hM 0; clear hbox hb hg1) | ((with_reducible refine gate_store (t := 3) (p := 1) rfl ?_); refine store_event (t := 3) (p := 1) (v := .tmp 7) (w1 := w1.setCell ⟨m, 0, none⟩ (.int .i64 ((n : Int) + 1))) rfl rfl rfl ?hrS ?_; (case hrS => first | (go_simp; done) | (go_simp; rfl)); intro w3 hw3; have HE3 : Aside0 (En w0 w3 m g (n + 1)) := ⟨by rw [hw3]; exact (HE.out.below HB.out).set (n' := n + 1)⟩; have HK3 : Aside0 (Kp w w3 (fun j => j = m)) := ⟨by rw [hw3]; exact (Kp.below HB.out).set _⟩; have BK3 : Aside0 (w3.heap[gb]? = some (.cells (cellsP p (.slice A p.f7.length c)) 34 (0, 0))) := ⟨by rw [hw3]; exact (Below.heap_setCell _ _ _ _ HNB.out).trans BK.out⟩; clear hw3 hcm hfm; have hcm := (blk_cell HE3.out.hM 0).trans (rfl : _ = some (Value.int .i64 ((n : Int) + 1))); have c0 := (blk_cell BK3.out 0).trans (rfl : _ = some (Value.int .i64 p.f0)); have c1 := (blk_cell BK3.out 1).trans (rfl : _ = some (Value.int .i64 p.f1)); have c2 := (blk_cell BK3.out 2).trans (rfl : _ = some (Value.int .i64 p.f2)); have c3 := (blk_cell BK3.out 3).trans (rfl : _ = some (Value.int .i64 p.f3)); have c4 := (blk_cell BK3.out 4).trans (rfl : _ = some (Value.bool p.f4)); have c5 := (blk_cell BK3.out 5).trans (rfl : _ = some (Value.int .i64 p.f5)); have c6 := (blk_cell BK3.out 6).trans (rfl : _ = some (Value.int .i64 p.f6)); have c7 := (blk_cell BK3.out 7).trans (rfl : _ = some (Value.slice A p.f7.length c))))
    first | go_end0 | (simp only [Exit.inBlock, Exit.then]; refine bodyPost_ret (results_none rfl _ _ _) rfl ?_) | refine bodyPost_ret (results_none rfl _ _ _) rfl ?_
    rw [HR.out]
    exact ⟨rfl, HE3.out, HK3.out⟩
  · have hn2 : decide ((n : Int) + 1 ≥ 1000) = false := decide_eq_false (by omega)
    have HN1 : Aside0 (n + 1 < 1000) := ⟨by omega⟩
    clear h2
    go_enter Tryd.func39, Tryd.ntmps39
    go_wp2_with (first | ((with_reducible refine gate_dst (N := 3) rfl ?_); refine box_event ?hg (N := 3) ?hd (cs := cellsP p (.slice A p.f7.length c)) (t := 34) ?hr ?_; (case hd => rfl); (case hg => rfl); (case hr => unfold cellsP encP; first | (go_simp; done) | (go_simp; rfl)); intro gb hg1 w1 hbox hb; have BK := Aside0.mk hbox; have HB := Aside0.mk hb; have HNB : Aside0 (gb ≠ m) := ⟨by have := blk_lt HE.out.hM; rw [hg1]; omega⟩; have hcm := (blk_cell (HE.out.below HB.out).hM 0).trans (rfl : _ = some (Value.int .i64 (n : Int))); have hfm := blk_frozen (HE.out.below HB.out).hM 0; clear hbox hb hg1) | ((with_reducible refine gate_store (t := 3) (p := 1) rfl ?_); refine store_event (t := 3) (p := 1) (v := .tmp 7) (w1 := w1.setCell ⟨m, 0, none⟩ (.int .i64 ((n : Int) + 1))) rfl rfl rfl ?hrS ?_; (case hrS => first | (go_simp; done) | (go_simp; rfl)); intro w3 hw3; have HE3 : Aside0 (En w0 w3 m g (n + 1)) := ⟨by rw [hw3]; exact (HE.out.below HB.out).set (n' := n + 1)⟩; have HK3 : Aside0 (Kp w w3 (fun j => j = m)) := ⟨by rw [hw3]; exact (Kp.below HB.out).set _⟩; have BK3 : Aside0 (w3.heap[gb]? = some (.cells (cellsP p (.slice A p.f7.length c)) 34 (0, 0))) := ⟨by rw [hw3]; exact (Below.heap_setCell _ _ _ _ HNB.out).trans BK.out⟩; clear hw3 hcm hfm; have hcm := (blk_cell HE3.out.hM 0).trans (rfl : _ = some (Value.int .i64 ((n : Int) + 1))); have c0 := (blk_cell BK3.out 0).trans (rfl : _ = some (Value.int .i64 p.f0)); have c1 := (blk_cell BK3.out 1).trans (rfl : _ = some (Value.int .i64 p.f1)); have c2 := (blk_cell BK3.out 2).trans (rfl : _ = some (Value.int .i64 p.f2)); have c3 := (blk_cell BK3.out 3).trans (rfl : _ = some (Value.int .i64 p.f3)); have c4 := (blk_cell BK3.out 4).trans (rfl : _ = some (Value.bool p.f4)); have c5 := (blk_cell BK3.out 5).trans (rfl : _ = some (Value.int .i64 p.f5)); have c6 := (blk_cell BK3.out 6).trans (rfl : _ = some (Value.int .i64 p.f6)); have c7 := (blk_cell BK3.out 7).trans (rfl : _ = some (Value.slice A p.f7.length c))))
    have HIH := Aside0.mk ih
    clear ih
    clear c0 c1 c2 c3 c4 c5 c6
    go_loopw [13] (fun s_ wr => ∃ (i n' : Nat), i ≤ p.f7.length ∧ s_ = .int .i64 (i : Int) ∧ Aside0 (n' = min 1000 (n + 1 + ((p.f7.take i).map szP).sum)) ∧ Aside0 (En w0 wr m g n') ∧ Aside0 (Kp w wr (fun j => j = m))) (fun s_ _ => p.f7.length - (intOf s_).toNat)
    case atStart => exact ⟨0, n + 1, Nat.zero_le _, rfl, ⟨by have := HN1.out; simp; omega⟩, HE3, HK3⟩
    case round =>
      obtain ⟨i, n', hi, rfl, HW, HE', HK'⟩ := hrel
      by_cases hlt : i < p.f7.length
      · have hin : (i : Int) < (p.f7.length : Int) := by omega
        have hwi : wrap64 ((i : Int) + 1) = (i : Int) + 1 := w64_ (by omega) (by have := HMX.out; omega)
        have HTK : Aside0 (((p.f7.take (i + 1)).map szP).sum = ((p.f7.take i).map szP).sum + szP p.f7[i]) := ⟨by rw [List.take_succ_eq_append_getElem hlt, List.map_append, List.sum_append]; show _ + (szP _ + 0) = _; rw [Nat.add_zero]⟩
        have HI := Aside0.mk (HIH.out _ (List.getElem_mem hlt))
        have hrd : rd_T34 p.f7 (i : Int) = p.f7[i] := by unfold rd_T34; rw [Int.toNat_natCast, List.getD_eq_getElem?_getD, List.getElem?_eq_getElem hlt]; rfl
        obtain ⟨ad, A8, c8, e0, x0, x1, x2, x3, x4, x5, x6, x7, l8, g8⟩ := at_T34 (Kd.C_below HC.out HE'.out.low) (i : Int) (by omega) hin
        obtain ⟨ad0, A80, c80, e00, _, _, _, _, _, _, _, y8, l80, g80⟩ := at_T34 HC.out (i : Int) (by omega) hin
        have hA8 : A80 = A8 ∧ c80 = c8 := by
          rw [e0] at e00
          injection e00 with e00
          subst e00
          have := (cells_later HE'.out.low y8).symm.trans x7
          injection this with this
          injection this with h1 _ h2
          exact ⟨h1, h2⟩
        obtain ⟨rfl, rfl⟩ := hA8
        subst e0
        have HG8 := Aside0.mk g80
        clear g80 g8 y8 e00 l80 l8
        rw [hrd] at x0 x1 x2 x3 x4 x5 x6 x7 HG8
        rw [Int.toNat_natCast] at x0 x1 x2 x3 x4 x5 x6 x7
        clear hrd
        generalize p.f7[i] = e at *
        by_cases h5 : n' < 1000
        · have h5b : decide ((n' : Int) < 1000) = true := decide_eq_true (by omega)
          have H5 := Aside0.mk h5
          clear h5
          go_wp2_with (first | ((with_reducible refine gate_dst (N := 5) rfl ?_); refine box_event ?hg (N := 5) ?hd (cs := zeroP) (t := 34) ?hr ?_; (case hd => rfl); (case hg => rfl); (case hr => unfold zeroP; first | (go_simp; done) | (go_simp; rfl)); intro gx hg1 w4 hbox hb; have HGX := Aside0.mk hbox; have HE4 := Aside0.mk (HE'.out.below hb); have HK4 := Aside0.mk (HK'.out.then hb); have HNX : Aside0 (gx ≠ m ∧ gx ≠ g ∧ w0.heap.size ≤ gx ∧ w.heap.size ≤ gx) := ⟨by have := blk_lt HE'.out.hM; have := blk_lt HE'.out.hG; have := HE'.out.low.size; have := HK'.out.size; rw [hg1]; omega⟩; clear hbox hb hg1) | ((with_reducible refine gate_store (t := 34) (p := 5) rfl ?_); refine row_event rfl 34 _ _ rfl gx (cellsP e (.slice A80 e.f7.length c80)) rfl rfl 34 zeroP HGX.out (by kernel_rfl) (by kernel_rfl) (by kernel_rfl) ?_; intro w5 hx hb hf; have HGX5 := Aside0.mk hx; have HE5 : Aside0 (En w0 w5 m g n') := ⟨⟨HE4.out.low.trans (hb.mono HNX.out.2.2.1), HE4.out.lm, HE4.out.ne, (hf m (fun h => HNX.out.1 h.symm)).trans HE4.out.hM, (hf g (fun h => HNX.out.2.1 h.symm)).trans HE4.out.hG⟩⟩; have HK5 : Aside0 (Kp w w5 (fun j => j = m)) := ⟨HK4.out.trans (⟨hb.os, hb.tape, hb.output, hb.size, fun k hk hkg => hf k hkg⟩ : Kp w4 w5 (fun j => j = gx)) (fun j hj h => by have := HNX.out.2.2.2; omega)⟩; clear hx hb hf; have hcm := (blk_cell HE5.out.hM 0).trans (rfl : _ = some (Value.int .i64 (n' : Int))); have hcg := (blk_cell HE5.out.hG 0).trans (rfl : _ = some (Value.func (.func 39) #[] #[pt m, pt g])); have k0 := (blk_cell HGX5.out 0).trans (rfl : _ = some (Value.int .i64 e.f0)); have k1 := (blk_cell HGX5.out 1).trans (rfl : _ = some (Value.int .i64 e.f1)); have k2 := (blk_cell HGX5.out 2).trans (rfl : _ = some (Value.int .i64 e.f2)); have k3 := (blk_cell HGX5.out 3).trans (rfl : _ = some (Value.int .i64 e.f3)); have k4 := (blk_cell HGX5.out 4).trans (rfl : _ = some (Value.bool e.f4)); have k5 := (blk_cell HGX5.out 5).trans (rfl : _ = some (Value.int .i64 e.f5)); have k6 := (blk_cell HGX5.out 6).trans (rfl : _ = some (Value.int .i64 e.f6)); have k7 := (blk_cell HGX5.out 7).trans (rfl : _ = some (Value.slice A80 e.f7.length c80))) | (go_at_call 39; refine (HI.out w0 _ m g n' _ _ HE5.out H5.out HG8.out).mono ?_; rintro e_ w2 ⟨rfl, hE2, hK2⟩; have HE2 := Aside0.mk hE2; have HK2 := Aside0.mk (HK5.out.same hK2); clear hE2 hK2))
          go_roundw
          case rel => exact ⟨i + 1, min 1000 (n' + szP e), by omega, by go_num, ⟨by rw [HTK.out]; have := HW.out; have := H5.out; omega⟩, HE2, HK2⟩
          case measure => rw [hwi]; exact meas_ hlt
        · have h5b : decide ((n' : Int) < 1000) = false := decide_eq_false (by omega)
          have H5 := Aside0.mk h5
          clear h5
          go_wp2_with (first | ((with_reducible refine gate_dst (N := 5) rfl ?_); refine box_event ?hg (N := 5) ?hd (cs := zeroP) (t := 34) ?hr ?_; (case hd => rfl); (case hg => rfl); (case hr => unfold zeroP; first | (go_simp; done) | (go_simp; rfl)); intro gx hg1 w4 hbox hb; have HGX := Aside0.mk hbox; have HE4 := Aside0.mk (HE'.out.below hb); have HK4 := Aside0.mk (HK'.out.then hb); have HNX : Aside0 (gx ≠ m ∧ gx ≠ g ∧ w0.heap.size ≤ gx ∧ w.heap.size ≤ gx) := ⟨by have := blk_lt HE'.out.hM; have := blk_lt HE'.out.hG; have := HE'.out.low.size; have := HK'.out.size; rw [hg1]; omega⟩; clear hbox hb hg1) | ((with_reducible refine gate_store (t := 34) (p := 5) rfl ?_); refine row_event rfl 34 _ _ rfl gx (cellsP e (.slice A80 e.f7.length c80)) rfl rfl 34 zeroP HGX.out (by kernel_rfl) (by kernel_rfl) (by kernel_rfl) ?_; intro w5 hx hb hf; have HGX5 := Aside0.mk hx; have HE5 : Aside0 (En w0 w5 m g n') := ⟨⟨HE4.out.low.trans (hb.mono HNX.out.2.2.1), HE4.out.lm, HE4.out.ne, (hf m (fun h => HNX.out.1 h.symm)).trans HE4.out.hM, (hf g (fun h => HNX.out.2.1 h.symm)).trans HE4.out.hG⟩⟩; have HK5 : Aside0 (Kp w w5 (fun j => j = m)) := ⟨HK4.out.trans (⟨hb.os, hb.tape, hb.output, hb.size, fun k hk hkg => hf k hkg⟩ : Kp w4 w5 (fun j => j = gx)) (fun j hj h => by have := HNX.out.2.2.2; omega)⟩; clear hx hb hf; have hcm := (blk_cell HE5.out.hM 0).trans (rfl : _ = some (Value.int .i64 (n' : Int))); have hcg := (blk_cell HE5.out.hG 0).trans (rfl : _ = some (Value.func (.func 39) #[] #[pt m, pt g])); have k0 := (blk_cell HGX5.out 0).trans (rfl : _ = some (Value.int .i64 e.f0)); have k1 := (blk_cell HGX5.out 1).trans (rfl : _ = some (Value.int .i64 e.f1)); have k2 := (blk_cell HGX5.out 2).trans (rfl : _ = some (Value.int .i64 e.f2)); have k3 := (blk_cell HGX5.out 3).trans (rfl : _ = some (Value.int .i64 e.f3)); have k4 := (blk_cell HGX5.out 4).trans (rfl : _ = some (Value.bool e.f4)); have k5 := (blk_cell HGX5.out 5).trans (rfl : _ = some (Value.int .i64 e.f5)); have k6 := (blk_cell HGX5.out 6).trans (rfl : _ = some (Value.int .i64 e.f6)); have k7 := (blk_cell HGX5.out 7).trans (rfl : _ = some (Value.slice A80 e.f7.length c80))))
          go_roundw
          case rel => exact ⟨i + 1, n', by omega, by go_num, ⟨by rw [HTK.out]; have := HW.out; have := H5.out; omega⟩, HE5, HK5⟩
          case measure => rw [hwi]; exact meas_ hlt
      · have HI : Aside0 (min 1000 (n + szP p) = n') := ⟨by rw [HW.out, List.take_of_length_le (by omega), szP_eq]; omega⟩
        have hle : p.f7.length ≤ i := by omega
        go_wp2
        first | go_end0 | (simp only [Exit.inBlock, Exit.then]; refine bodyPost_ret (results_none rfl _ _ _) rfl ?_) | refine bodyPost_ret (results_none rfl _ _ _) rfl ?_
        rw [HI.out]
        exact ⟨rfl, HE'.out, HK'.out⟩
def nodesX (p : S34) : Int := ((min 1000 (szP p) : Nat) : Int)
set_option maxRecDepth 8000 in
set_option maxHeartbeats 4000000 in
theorem nodes16 (p : S34) (A : Option Addr) (c : Nat) (w : World) (hC : k34.C w A p.f7.length p.f7) :
    Calls Tryd.prog 16 #[encP p A c] w fun e_ w' => e_ = .returned (.int .i64 (nodesX p)) ∧ Below w.heap.size w w' := by
  have HC := Aside0.mk hC
  clear hC
  have hu34 := Tryd.underlying34
  go_enter Tryd.func16, Tryd.ntmps16
  go_wp2_with (first | ((with_reducible refine gate_dst (N := 1) rfl ?_); refine box_event ?hg (N := 1) ?hd (cs := cellsP p (.slice A p.f7.length c)) (t := 34) ?hr ?_; (case hd => rfl); (case hg => rfl); (case hr => unfold cellsP encP; first | (go_simp; done) | (go_simp; rfl)); intro gb hg1 w1 hbox hb; have BK := Aside0.mk hbox; have HB := Aside0.mk hb; have HG1 := Aside0.mk hg1; clear hbox hb hg1) | ((with_reducible refine gate_dst (N := 3) rfl ?_); refine box_event ?hg (N := 3) ?hd (cs := #[.int .i64 0]) (t := 3) ?hr ?_; (case hd => rfl); (case hg => rfl); (case hr => first | (go_simp; done) | (go_simp; rfl)); intro m hg1 w2 hbox hb; have BM := Aside0.mk hbox; have HB2 := Aside0.mk (HB.out.trans (hb.mono HB.out.size)); have BK2 := Aside0.mk ((hb.block gb (blk_lt BK.out)).trans BK.out); have HM : Aside0 (w.heap.size ≤ m ∧ gb < m) := ⟨by rw [hg1]; exact ⟨HB.out.size, blk_lt BK.out⟩⟩; have hcm := (blk_cell BM.out 0).trans (rfl : _ = some (Value.int .i64 0)); have hfm := blk_frozen BM.out 0; clear hbox hb hg1) | ((with_reducible refine gate_store (t := 3) (p := 3) rfl ?_); refine store_event (t := 3) (p := 3) (v := .const (.int .i64 0)) (w1 := w2.setCell ⟨m, 0, none⟩ (.int .i64 0)) rfl rfl rfl ?hrS ?_; (case hrS => first | (go_simp; done) | (go_simp; rfl)); intro w3 hw3; have HB3 : Aside0 (Below w.heap.size w w3) := ⟨by rw [hw3]; exact below_set HB2.out HM.out.1⟩; have BM3 : Aside0 (w3.heap[m]? = some (.cells #[.int .i64 0] 3 (0, 0))) := ⟨by rw [hw3]; exact blk_set BM.out 0 _⟩; have BK3 : Aside0 (w3.heap[gb]? = some (.cells (cellsP p (.slice A p.f7.length c)) 34 (0, 0))) := ⟨by rw [hw3]; exact (Below.heap_setCell _ _ _ _ (by have := HM.out.2; show gb ≠ m; omega)).trans BK2.out⟩; clear hw3 hcm hfm) | ((with_reducible refine gate_dst (N := 4) rfl ?_); refine box_event ?hg (N := 4) ?hd (cs := #[.nilFunc]) (t := 62) ?hr ?_; (case hd => rfl); (case hg => rfl); (case hr => first | (go_simp; done) | (go_simp; rfl)); intro g hg1 w3b hbox hb; have BG := Aside0.mk hbox; have HB3b := Aside0.mk (HB3.out.trans (hb.mono HB3.out.size)); have BM3b := Aside0.mk ((hb.block m (blk_lt BM3.out)).trans BM3.out); have BK3b := Aside0.mk ((hb.block gb (blk_lt BK3.out)).trans BK3.out); have HNE : Aside0 (gb < g ∧ m < g ∧ w.heap.size ≤ g) := ⟨by have := blk_lt BM3.out; have := blk_lt BK3.out; have := HB3.out.size; rw [hg1]; omega⟩; have hcg := (blk_cell BG.out 0).trans (rfl : _ = some (Value.nilFunc)); have hfg := blk_frozen BG.out 0; clear hbox hb hg1) | ((with_reducible refine gate_store (t := 62) (p := 4) rfl ?_); (refine store_event (t := 62) (p := 4) (v := .tmp 5) (w1 := w3b.setCell ⟨g, 0, none⟩ (.func (.func 39) #[] #[pt m, pt g])) rfl rfl rfl ?hrS ?_); (case hrS => first | (go_simp; done) | (go_simp; rfl)); intro w4 hw4; have HE4 : Aside0 (En w w4 m g 0) := ⟨by rw [hw4]; exact ⟨below_set HB3b.out HNE.out.2.2, HM.out.1, by have := HNE.out.2.1; omega, (Below.heap_setCell _ _ _ _ (by have := HNE.out.2.1; show m ≠ g; omega)).trans BM3b.out, blk_set BG.out 0 _⟩⟩; have BK4 : Aside0 (w4.heap[gb]? = some (.cells (cellsP p (.slice A p.f7.length c)) 34 (0, 0))) := ⟨by rw [hw4]; exact (Below.heap_setCell _ _ _ _ (by have := HNE.out.1; show gb ≠ g; omega)).trans BK3b.out⟩; clear hw4 hcg hfg; have hcg := (blk_cell HE4.out.hG 0).trans (rfl : _ = some (Value.func (.func 39) #[] #[pt m, pt g])); have c0 := (blk_cell BK4.out 0).trans (rfl : _ = some (Value.int .i64 p.f0)); have c1 := (blk_cell BK4.out 1).trans (rfl : _ = some (Value.int .i64 p.f1)); have c2 := (blk_cell BK4.out 2).trans (rfl : _ = some (Value.int .i64 p.f2)); have c3 := (blk_cell BK4.out 3).trans (rfl : _ = some (Value.int .i64 p.f3)); have c4 := (blk_cell BK4.out 4).trans (rfl : _ = some (Value.bool p.f4)); have c5 := (blk_cell BK4.out 5).trans (rfl : _ = some (Value.int .i64 p.f5)); have c6 := (blk_cell BK4.out 6).trans (rfl : _ = some (Value.int .i64 p.f6)); have c7 := (blk_cell BK4.out 7).trans (rfl : _ = some (Value.slice A p.f7.length c))) | (go_at_call 39; refine (walk39 p w _ m g 0 A c HE4.out (by decide) HC.out).mono ?_; rintro e_ w5 ⟨rfl, hE5, hK5⟩; have HE5 := Aside0.mk hE5; clear hE5 hK5; have hcm := (blk_cell HE5.out.hM 0).trans (rfl : _ = some (Value.int .i64 ((min 1000 (0 + szP p) : Nat) : Int)))))
  go_ret
  have h0 : nodesX p = ((min 1000 (0 + szP p) : Nat) : Int) := by unfold nodesX; rw [Nat.zero_add]
  rw [h0]
  exact ⟨by simp, HE5.out.low⟩

end Go.Proofs.YtmnjaihalajhcaaDoor.QPlanConds
