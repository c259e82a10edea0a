import Derived.Test.YtmnjaihalajhcaaDoorPlN
/- Plan: walks by hand; the conditions stand in each theorem. -/
namespace Go.Proofs.YtmnjaihalajhcaaDoor.QPlanConds
open Go.RowKit Go.Proofs.YtmnjaihalajhcaaDoorW.PrintWords Go.Proofs.YtmnjaihalajhcaaDoorW.PrintLast Go.Proofs.YtmnjaihalajhcaaDoorW.PrintMore
attribute [local go_sem] max2_int min2_int max_two min_two max_three min_three max_four min_four
set_option linter.unusedVariables false
set_option linter.unusedSimpArgs false
def joinT : List (List UInt8) → List UInt8
  | [] => []
  | [x] => x
  | x :: y :: l => x ++ 32 :: joinT (y :: l)
theorem joinT_snoc : ∀ (l : List (List UInt8)) (x : List UInt8), joinT (l ++ [x]) = if l = [] then x else joinT l ++ 32 :: x
  | [], x => rfl
  | [y], x => rfl
  | y :: z :: l, x => by
    have h := joinT_snoc (z :: l) x
    rw [if_neg (by simp)] at h
    rw [if_neg (by simp)]
    show y ++ 32 :: joinT (z :: l ++ [x]) = y ++ 32 :: joinT (z :: l) ++ 32 :: x
    rw [h]
    simp
theorem joinT_len (l : List (List UInt8)) (x : List UInt8) : (joinT (l ++ [x])).length = (joinT l).length + (if l = [] then 0 else 1) + x.length := by
  rw [joinT_snoc]
  by_cases h : l = []
  · rw [if_pos h, if_pos h, h]; simp [joinT]
  · rw [if_neg h, if_neg h]; simp; omega
theorem joinT_take (l : List (List UInt8)) : ∀ n i, i + n = l.length → (joinT (l.take i)).length ≤ (joinT l).length := by
  intro n
  refine Nat.rec (motive := fun n => ∀ i, i + n = l.length → (joinT (l.take i)).length ≤ (joinT l).length) ?_ ?_ n
  · intro i h
    have h : i = l.length := h
    rw [List.take_of_length_le (by omega)]
    exact Nat.le_refl _
  · intro n ih i h
    have h1 := ih (i + 1) (by omega)
    rw [List.take_succ_eq_append_getElem (by omega), joinT_len] at h1
    omega
def innX (l : List (List UInt8)) : List UInt8 := 40 :: (joinT l ++ [41])
def bodyX (p : S34) (l : List (List UInt8)) : List UInt8 :=
  if p.f0 = 1 then 115 :: Lib.itoa p.f1
  else if p.f0 = 2 then (105 :: Lib.itoa p.f1) ++ (58 :: Lib.itoa p.f2)
  else if p.f0 = 6 then 116 :: Lib.itoa p.f3
  else if p.f0 = 3 then 108 :: innX l
  else if p.f0 = 4 then (104 :: Lib.itoa p.f2) ++ innX l
  else if p.f0 = 5 then (109 :: Lib.itoa p.f2) ++ innX l
  else [63]
def textX : S34 → List UInt8 := foldP (fun p l => bodyX p l ++ if p.f4 = true then [33] else [])
theorem textX_eq (p : S34) : textX p = bodyX p (p.f7.map textX) ++ if p.f4 = true then [33] else [] := foldP_eq _ p
def numsP (Q : Int → Prop) : S34 → Prop := foldP (fun p l => Q p.f1 ∧ Q p.f2 ∧ Q p.f3 ∧ ∀ x ∈ l, x)
theorem numsP_eq (Q : Int → Prop) (p : S34) : numsP Q p = (Q p.f1 ∧ Q p.f2 ∧ Q p.f3 ∧ ∀ x ∈ p.f7.map (numsP Q), x) := foldP_eq _ p
theorem numsP_in {Q : Int → Prop} {p x : S34} (h : numsP Q p) (hx : x ∈ p.f7) : numsP Q x := by
  rw [numsP_eq] at h
  exact h.2.2.2 _ (List.mem_map.2 ⟨x, hx, rfl⟩)
def Ct (Q : Int → Prop) (p : S34) : Prop := ∀ (w0 w : World) (bb gp gi gs : Nat) (acc : List UInt8) (A : Option Addr) (c : Nat), HQ Q w0 → numsP Q p → acc.length + (textX p).length ≤ 140737488355328 → Et w0 w bb gp gi gs acc → k34.C w0 A p.f7.length p.f7 →
  Calls Tryd.prog 44 #[encP p A c, pt gs, pt bb, pt gi] w fun e_ w' => e_ = .returned (.tuple #[]) ∧ Et w0 w' bb gp gi gs (acc ++ textX p) ∧ Lib.OthersKept 5 (some bb) w w'
set_option maxRecDepth 8000 in
set_option maxHeartbeats 4000000 in
theorem in40 {Q : Int → Prop} (p : S34) (ih : ∀ x ∈ p.f7, Ct Q x) (w0 w : World) (bb gp gi gs : Nat) (acc : List UInt8) (A : Option Addr) (c : Nat) (hq : HQ Q w0) (hn : numsP Q p) (hl : acc.length + (innX (p.f7.map textX)).length ≤ 140737488355328) (hE : Et w0 w bb gp gi gs acc) (hC : k34.C w0 A p.f7.length p.f7) :
    Calls Tryd.prog 40 #[encP p A c, pt bb, pt gp] w fun e_ w' => e_ = .returned (.tuple #[]) ∧ Et w0 w' bb gp gi gs (acc ++ innX (p.f7.map textX)) ∧ Lib.OthersKept 5 (some bb) w w' := by
  have HE := Aside0.mk hE
  have HC := Aside0.mk hC
  have HMX := Aside0.mk (Kd.C_max hC)
  have HIH := Aside0.mk ih
  have HQQ := Aside0.mk hq
  have HN := Aside0.mk hn
  have HL : Aside0 (acc.length + 1 + (joinT (p.f7.map textX)).length + 1 ≤ 140737488355328) := ⟨by unfold innX at hl; simp at hl; omega⟩
  clear hE hC ih hq hn hl
  have hu34 := Tryd.underlying34
  go_enter Tryd.func40, Tryd.ntmps40
  go_wp2_with (first | ((with_reducible refine gate_dst (N := 3) rfl ?_); refine box_event ?hg (N := 3) ?hd (cs := cellsP p (.slice A p.f7.length c)) (t := 34) ?hr ?_; (case hd => rfl); (case hg => rfl); (case hr => unfold cellsP encP; first | (go_simp; done) | (go_simp; rfl)); intro gb hg1 w1 hbox hb; have BK := Aside0.mk hbox; have HE1 := Aside0.mk (HE.out.below hb); have HO1 := Aside0.mk (oth_below (e := 5) (b := some bb) hb); have HNB : Aside0 (gb ≠ bb) := ⟨by have h := HE.out.bd; rw [hg1]; intro he; rcases h with h | h <;> (have := h.lt; omega)⟩; clear hbox hb hg1) | (go_at_call 41; have H41 := put41 ⟨#[40]⟩ HE1.out (by have := HL.out; show acc.length + 1 ≤ _; omega); refine H41.mono ?_; clear H41; rintro e_ w2 ⟨⟨v2, rfl⟩, hE2, hO2⟩; have HE2 := Aside0.mk hE2; have HO2 := Aside0.mk (HO1.out.trans hO2); have BK2 := Aside0.mk (oth_keep hO2 BK.out HNB.out (by decide)); have k0 := (blk_cell BK2.out 0).trans (rfl : _ = some (Value.int .i64 p.f0)); have k1 := (blk_cell BK2.out 1).trans (rfl : _ = some (Value.int .i64 p.f1)); have k2 := (blk_cell BK2.out 2).trans (rfl : _ = some (Value.int .i64 p.f2)); have k3 := (blk_cell BK2.out 3).trans (rfl : _ = some (Value.int .i64 p.f3)); have k4 := (blk_cell BK2.out 4).trans (rfl : _ = some (Value.bool p.f4)); have k5 := (blk_cell BK2.out 5).trans (rfl : _ = some (Value.int .i64 p.f5)); have k6 := (blk_cell BK2.out 6).trans (rfl : _ = some (Value.int .i64 p.f6)); have k7 := (blk_cell BK2.out 7).trans (rfl : _ = some (Value.slice A p.f7.length c)); clear hE2 hO2))
  clear k0 k1 k2 k3 k4 k5 k6 k7
  go_loopw [10] (fun s10 wr => ∃ i : Nat, i ≤ p.f7.length ∧ s10 = .int .i64 (i : Int) ∧ Aside0 (Et w0 wr bb gp gi gs (acc ++ 40 :: joinT ((p.f7.take i).map textX))) ∧ Aside0 (Lib.OthersKept 5 (some bb) w wr) ∧ Aside0 (wr.heap[gb]? = some (.cells (cellsP p (.slice A p.f7.length c)) 34 (0, 0)))) (fun s10 _ => p.f7.length - (intOf s10).toNat)
  case atStart => exact ⟨0, Nat.zero_le _, rfl, HE2, HO2, BK2⟩
  case round =>
    obtain ⟨i, hi, rfl, HEr, HOr, BKr⟩ := hrel
    obtain ⟨w3, hw3⟩ : ∃ x, x = wr := ⟨_, rfl⟩
    subst hw3
    by_cases hlt : i < p.f7.length
    · have hin : (i : Int) < (p.f7.length : Int) := by omega
      have hwi : wrap64 ((i : Int) + 1) = (i : Int) + 1 := w64_ (by omega) (by have := HMX.out; omega)
      have HTK : Aside0 ((p.f7.take (i + 1)).map textX = (p.f7.take i).map textX ++ [textX p.f7[i]]) := ⟨take_map _ hlt⟩
      have HJT : Aside0 ((joinT ((p.f7.take (i + 1)).map textX)).length ≤ (joinT (p.f7.map textX)).length) := ⟨by rw [List.map_take]; exact joinT_take _ (p.f7.length - (i + 1)) _ (by rw [List.length_map]; omega)⟩
      have HZ : Aside0 (((p.f7.take i).map textX = []) ↔ i = 0) := ⟨by constructor; (intro h; have h2 := congrArg List.length h; rw [List.length_map, List.length_take] at h2; have h3 : min i p.f7.length = 0 := h2; omega); (intro h; subst h; rfl)⟩
      have HI := Aside0.mk (HIH.out _ (List.getElem_mem hlt))
      have HNX := Aside0.mk (numsP_in HN.out (List.getElem_mem hlt))
      have hrd : rd_T34 p.f7 (i : Int) = p.f7[i] := by unfold rd_T34; rw [Int.toNat_natCast, List.getD_eq_getElem?_getD, List.getElem?_eq_getElem hlt]; rfl
      obtain ⟨ad, A8, c8, e0, x0, x1, x2, x3, x4, x5, x6, x7, l8, g8⟩ := at_T34 (Kd.C_below HC.out HEr.out.low) (i : Int) (by omega) hin
      obtain ⟨ad0, A80, c80, e00, _, _, _, _, _, _, _, y8, l80, g80⟩ := at_T34 HC.out (i : Int) (by omega) hin
      have hA8 : A80 = A8 ∧ c80 = c8 := by
        rw [e0] at e00
        injection e00 with e00
        subst e00
        have := (cells_later HEr.out.low y8).symm.trans x7
        injection this with this
        injection this with h1 _ h2
        exact ⟨h1, h2⟩
      obtain ⟨rfl, rfl⟩ := hA8
      subst e0
      have HG8 := Aside0.mk g80
      clear g80 g8 y8 e00 l80 l8
      rw [hrd] at x0 x1 x2 x3 x4 x5 x6 x7 HG8
      rw [Int.toNat_natCast] at x0 x1 x2 x3 x4 x5 x6 x7
      clear hrd
      generalize p.f7[i] = e at *
      rcases Bool.eq_false_or_eq_true (decide ((i : Int) > 0)) with qi | qi
      · have hig : 0 < i := by have := of_decide_eq_true qi; omega
        have hnil : ¬ (p.f7.take i).map textX = [] := fun h => by have := HZ.out.1 h; have := of_decide_eq_true qi; omega
        have HJ1 : Aside0 (joinT ((p.f7.take (i + 1)).map textX) = joinT ((p.f7.take i).map textX) ++ 32 :: textX e) := ⟨by rw [HTK.out, joinT_snoc, if_neg hnil]⟩
        have HJL : Aside0 ((joinT ((p.f7.take i).map textX)).length + 1 + (textX e).length ≤ (joinT (p.f7.map textX)).length) := ⟨by have := HJT.out; rw [HJ1.out, List.length_append, List.length_cons] at this; omega⟩
        clear hnil HTK HJT HZ
        go_wp2_with (first | ((with_reducible refine gate_dst (N := 5) rfl ?_); refine box_event ?hg (N := 5) ?hd (cs := zeroP) (t := 34) ?hr ?_; (case hd => rfl); (case hg => rfl); (case hr => unfold zeroP; first | (go_simp; done) | (go_simp; rfl)); intro gx hg1 w4 hbox hb; have HGX := Aside0.mk hbox; have HD4 := Aside0.mk hb; have HGG : Aside0 (w3.heap.size ≤ gx) := ⟨by rw [hg1]; exact Nat.le_refl _⟩; have HNX2 : Aside0 (gx ≠ bb) := ⟨by have h := HEr.out.bd; rw [hg1]; intro he; rcases h with h | h <;> (have := h.lt; omega)⟩; clear hbox hb hg1) | ((with_reducible refine gate_store (t := 34) (p := 5) rfl ?_); refine row_event rfl 34 _ _ rfl gx (cellsP e (.slice A80 e.f7.length c80)) rfl rfl 34 zeroP HGX.out (by kernel_rfl) (by kernel_rfl) (by kernel_rfl) ?_; intro w5 hx hb hf; have HX5 := Aside0.mk hx; have HD5 : Aside0 (Below w3.heap.size w3 w5) := ⟨HD4.out.trans (hb.mono HGG.out)⟩; clear hx hb hf; have HE5 := Aside0.mk (HEr.out.below HD5.out); have HO5 := Aside0.mk (HOr.out.trans (oth_below HD5.out)); have BK5 := Aside0.mk ((HD5.out.block gb (blk_lt BKr.out)).trans BKr.out); have hcp := (blk_cell HE5.out.hP 0).trans (rfl : _ = some (Value.func (.func 44) #[] #[pt gs, pt bb, pt gi])); have k0 := (blk_cell HX5.out 0).trans (rfl : _ = some (Value.int .i64 e.f0)); have k1 := (blk_cell HX5.out 1).trans (rfl : _ = some (Value.int .i64 e.f1)); have k2 := (blk_cell HX5.out 2).trans (rfl : _ = some (Value.int .i64 e.f2)); have k3 := (blk_cell HX5.out 3).trans (rfl : _ = some (Value.int .i64 e.f3)); have k4 := (blk_cell HX5.out 4).trans (rfl : _ = some (Value.bool e.f4)); have k5 := (blk_cell HX5.out 5).trans (rfl : _ = some (Value.int .i64 e.f5)); have k6 := (blk_cell HX5.out 6).trans (rfl : _ = some (Value.int .i64 e.f6)); have k7 := (blk_cell HX5.out 7).trans (rfl : _ = some (Value.slice A80 e.f7.length c80))) | (go_at_call 41; have H41 := put41 ⟨#[32]⟩ HE5.out (by have := HL.out; have := HJL.out; show (acc ++ 40 :: joinT ((p.f7.take i).map textX)).length + 1 ≤ _; simp only [List.length_append, List.length_cons]; omega); refine H41.mono ?_; clear H41; rintro e_ w6 ⟨⟨v6, rfl⟩, hE6, hO6⟩; have HE6 := Aside0.mk hE6; have HO6 := Aside0.mk (HO5.out.trans hO6); have BK6 := Aside0.mk (oth_keep hO6 BK5.out HNB.out (by decide)); have HX6 := Aside0.mk (oth_keep hO6 HX5.out HNX2.out (by decide)); clear k0 k1 k2 k3 k4 k5 k6 k7 hcp; have hcp := (blk_cell HE6.out.hP 0).trans (rfl : _ = some (Value.func (.func 44) #[] #[pt gs, pt bb, pt gi])); have k0 := (blk_cell HX6.out 0).trans (rfl : _ = some (Value.int .i64 e.f0)); have k1 := (blk_cell HX6.out 1).trans (rfl : _ = some (Value.int .i64 e.f1)); have k2 := (blk_cell HX6.out 2).trans (rfl : _ = some (Value.int .i64 e.f2)); have k3 := (blk_cell HX6.out 3).trans (rfl : _ = some (Value.int .i64 e.f3)); have k4 := (blk_cell HX6.out 4).trans (rfl : _ = some (Value.bool e.f4)); have k5 := (blk_cell HX6.out 5).trans (rfl : _ = some (Value.int .i64 e.f5)); have k6 := (blk_cell HX6.out 6).trans (rfl : _ = some (Value.int .i64 e.f6)); have k7 := (blk_cell HX6.out 7).trans (rfl : _ = some (Value.slice A80 e.f7.length c80)); clear hE6 hO6) | (go_at_call 44; have H44 := HI.out w0 _ bb gp gi gs _ _ c80 HQQ.out HNX.out (by have h1 := HL.out; have h2 := HJL.out; have h9 : ((⟨#[32]⟩ : ByteArray).data.toList).length = 1 := rfl; rw [List.length_append, h9]; simp only [List.length_append, List.length_cons]; omega) HE6.out HG8.out; refine H44.mono ?_; clear H44; rintro e_ w7 ⟨rfl, hE7, hO7⟩; have HE7 := Aside0.mk hE7; have HO7 := Aside0.mk (HO6.out.trans hO7); have BK7 := Aside0.mk (oth_keep hO7 BK6.out HNB.out (by decide)); clear hE7 hO7))
        go_roundw
        case rel => exact ⟨i + 1, by omega, by go_num, ⟨by rw [HJ1.out]; have h := HE7.out; simpa using h⟩, HO7, BK7⟩
        case measure => first | exact meas_ hlt | (rw [hwi]; exact meas_ hlt)
      · have hi0 : i = 0 := by have := of_decide_eq_false qi; omega
        have hig : ¬ 0 < i := by omega
        have HJ1 : Aside0 (joinT ((p.f7.take (i + 1)).map textX) = textX e) := ⟨by rw [HTK.out, joinT_snoc, if_pos (HZ.out.2 hi0)]⟩
        have HJ0 : Aside0 (joinT ((p.f7.take i).map textX) = []) := ⟨by rw [HZ.out.2 hi0]; rfl⟩
        have HJL : Aside0 ((textX e).length ≤ (joinT (p.f7.map textX)).length) := ⟨by have := HJT.out; rw [HJ1.out] at this; exact this⟩
        clear hi0 HTK HJT HZ
        go_wp2_with (first | ((with_reducible refine gate_dst (N := 5) rfl ?_); refine box_event ?hg (N := 5) ?hd (cs := zeroP) (t := 34) ?hr ?_; (case hd => rfl); (case hg => rfl); (case hr => unfold zeroP; first | (go_simp; done) | (go_simp; rfl)); intro gx hg1 w4 hbox hb; have HGX := Aside0.mk hbox; have HD4 := Aside0.mk hb; have HGG : Aside0 (w3.heap.size ≤ gx) := ⟨by rw [hg1]; exact Nat.le_refl _⟩; have HNX2 : Aside0 (gx ≠ bb) := ⟨by have h := HEr.out.bd; rw [hg1]; intro he; rcases h with h | h <;> (have := h.lt; omega)⟩; clear hbox hb hg1) | ((with_reducible refine gate_store (t := 34) (p := 5) rfl ?_); refine row_event rfl 34 _ _ rfl gx (cellsP e (.slice A80 e.f7.length c80)) rfl rfl 34 zeroP HGX.out (by kernel_rfl) (by kernel_rfl) (by kernel_rfl) ?_; intro w5 hx hb hf; have HX5 := Aside0.mk hx; have HD5 : Aside0 (Below w3.heap.size w3 w5) := ⟨HD4.out.trans (hb.mono HGG.out)⟩; clear hx hb hf; have HE5 := Aside0.mk (HEr.out.below HD5.out); have HO5 := Aside0.mk (HOr.out.trans (oth_below HD5.out)); have BK5 := Aside0.mk ((HD5.out.block gb (blk_lt BKr.out)).trans BKr.out); have hcp := (blk_cell HE5.out.hP 0).trans (rfl : _ = some (Value.func (.func 44) #[] #[pt gs, pt bb, pt gi])); have k0 := (blk_cell HX5.out 0).trans (rfl : _ = some (Value.int .i64 e.f0)); have k1 := (blk_cell HX5.out 1).trans (rfl : _ = some (Value.int .i64 e.f1)); have k2 := (blk_cell HX5.out 2).trans (rfl : _ = some (Value.int .i64 e.f2)); have k3 := (blk_cell HX5.out 3).trans (rfl : _ = some (Value.int .i64 e.f3)); have k4 := (blk_cell HX5.out 4).trans (rfl : _ = some (Value.bool e.f4)); have k5 := (blk_cell HX5.out 5).trans (rfl : _ = some (Value.int .i64 e.f5)); have k6 := (blk_cell HX5.out 6).trans (rfl : _ = some (Value.int .i64 e.f6)); have k7 := (blk_cell HX5.out 7).trans (rfl : _ = some (Value.slice A80 e.f7.length c80))) | (go_at_call 44; have H44 := HI.out w0 _ bb gp gi gs _ _ c80 HQQ.out HNX.out (by have h1 := HL.out; have h2 := HJL.out; rw [HJ0.out]; simp only [List.length_append, List.length_cons, List.length_nil]; omega) HE5.out HG8.out; refine H44.mono ?_; clear H44; rintro e_ w7 ⟨rfl, hE7, hO7⟩; have HE7 := Aside0.mk hE7; have HO7 := Aside0.mk (HO5.out.trans hO7); have BK7 := Aside0.mk (oth_keep hO7 BK5.out HNB.out (by decide)); clear hE7 hO7))
        go_roundw
        case rel => exact ⟨i + 1, by omega, by go_num, ⟨by rw [HJ1.out]; have h := HE7.out; rw [HJ0.out] at h; simpa using h⟩, HO7, BK7⟩
        case measure => first | exact meas_ hlt | (rw [hwi]; exact meas_ hlt)
    · have hle : p.f7.length ≤ i := by omega
      have HTA : Aside0 ((p.f7.take i).map textX = p.f7.map textX) := ⟨by rw [List.take_of_length_le (by omega)]⟩
      have HE4 : Aside0 (Et w0 w3 bb gp gi gs (acc ++ 40 :: joinT (p.f7.map textX))) := ⟨by have h := HEr.out; rw [HTA.out] at h; exact h⟩
      go_wp2_with ((go_at_call 41; have H41 := put41 ⟨#[41]⟩ HE4.out (by have := HL.out; show (acc ++ 40 :: joinT (p.f7.map textX)).length + 1 ≤ _; simp only [List.length_append, List.length_cons]; omega); refine H41.mono ?_; clear H41; rintro e_ w9 ⟨⟨v9, rfl⟩, hE9, hO9⟩; have HE9 : Aside0 (Et w0 w9 bb gp gi gs (acc ++ innX (p.f7.map textX))) := ⟨by unfold innX; simpa using hE9⟩; have HO9 := Aside0.mk (HOr.out.trans hO9); skip; clear hE9 hO9))
      first | go_end0 | (simp only [Exit.inBlock, Exit.then]; refine bodyPost_ret (results_none rfl _ _ _) rfl ?_) | refine bodyPost_ret (results_none rfl _ _ _) rfl ?_
      exact ⟨rfl, HE9.out, HO9.out⟩

end Go.Proofs.YtmnjaihalajhcaaDoor.QPlanConds
