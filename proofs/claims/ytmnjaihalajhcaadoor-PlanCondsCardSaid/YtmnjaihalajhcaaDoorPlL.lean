import Derived.Test.YtmnjaihalajhcaaDoorPlJ
import Derived.Test.YtmnjaihalajhcaaDoorPlCq
/- Plan: walks by hand; the conditions stand in each theorem. -/
namespace Go.Proofs.YtmnjaihalajhcaaDoor.QPlanConds
open Go.RowKit Go.Proofs.YtmnjaihalajhcaaDoorW.PrintWords Go.Proofs.YtmnjaihalajhcaaDoorW.PrintLast Go.Proofs.YtmnjaihalajhcaaDoorW.PrintMore
attribute [local go_sem] max2_int min2_int max_two min_two max_three min_three max_four min_four
set_option linter.unusedVariables false
set_option linter.unusedSimpArgs false
def atI (l : List Int) (i : Int) : Int := if i < 0 then 0 else if i ≥ (l.length : Int) then 0 else l.getD i.toNat 0
theorem at30 (A : Option Addr) (c : Nat) (l : List Int) (i : Int) (w : World) (hC : (Kd.int .i64).C w A l.length l) :
    Calls Tryd.prog 30 #[.slice A l.length c, .int .i64 i] w fun e_ w' => e_ = .returned (.int .i64 (atI l i)) ∧ Below w.heap.size w w' := by
  have HC := Aside0.mk hC
  clear hC
  rcases Bool.eq_false_or_eq_true (decide (i < 0)) with q1 | q1
  · have HA : Aside0 (atI l i = 0) := ⟨by unfold atI; rw [if_pos (of_decide_eq_true q1)]⟩
    go_enter Tryd.func30, Tryd.ntmps30
    go_wp2
    go_ret
    rw [HA.out]
    exact ⟨rfl, Below.refl _ _⟩
  rcases Bool.eq_false_or_eq_true (decide (i ≥ (l.length : Int))) with q2 | q2
  · have HA : Aside0 (atI l i = 0) := ⟨by unfold atI; rw [if_neg (of_decide_eq_false q1), if_pos (of_decide_eq_true q2)]⟩
    go_enter Tryd.func30, Tryd.ntmps30
    go_wp2
    go_ret
    rw [HA.out]
    exact ⟨rfl, Below.refl _ _⟩
  · have h1 := of_decide_eq_false q1
    have h2 := of_decide_eq_false q2
    obtain ⟨n, rfl⟩ := Int.eq_ofNat_of_zero_le (show 0 ≤ i by omega)
    have hn : n < l.length := by omega
    have HA : Aside0 (atI l (n : Int) = l[n]) := ⟨by unfold atI; rw [if_neg h1, if_neg h2, Int.toNat_natCast, List.getD_eq_getElem?_getD, List.getElem?_eq_getElem hn]; rfl⟩
    obtain ⟨ad, e0, x0⟩ := at_int HC.out n hn
    subst e0
    have hn2 : (n : Int) < (l.length : Int) := by omega
    generalize l[n] = v at *
    go_enter Tryd.func30, Tryd.ntmps30
    go_wp2
    go_ret
    rw [HA.out]
    exact ⟨rfl, Below.refl _ _⟩
def in0 (C : List Int) (p : S34) : Int := if 1 ≤ p.f7.length then atI C (rd_T34 p.f7 0).f3 else 0
def in1 (C : List Int) (p : S34) : Int := if 2 ≤ p.f7.length then atI C (rd_T34 p.f7 1).f3 else 0
def ownI (B C : List Int) (p : S34) : Int :=
  if p.f0 = 1 then totI [atI B p.f1, 1]
  else if p.f0 = 2 then totI [atI C p.f3, 2]
  else if p.f0 = 3 then totI [in0 C p, mulI (in0 C p) (in1 C p), atI C p.f3]
  else if p.f0 = 4 then totI [in0 C p, in1 C p, in1 C p, atI C p.f3, 4]
  else if p.f0 = 5 then totI [sortI (in0 C p), sortI (in1 C p), in0 C p, in1 C p, atI C p.f3, 2]
  else if p.f0 = 6 then clipI (atI C p.f3)
  else 0
def costX (B C : List Int) : S34 → Int := foldP (fun p l => totI (l ++ [ownI B C p]))
theorem costX_eq (B C : List Int) (p : S34) : costX B C p = totI (p.f7.map (costX B C) ++ [ownI B C p]) := foldP_eq _ p
/- No node has more than two inputs. -/
def binB : S34 → Bool := foldP (fun p l => decide (p.f7.length ≤ 2) && l.all id)
theorem binB_eq (p : S34) : binB p = (decide (p.f7.length ≤ 2) && (p.f7.map binB).all id) := foldP_eq _ p
theorem binB_in {p x : S34} (h : binB p = true) (hx : x ∈ p.f7) : binB x = true := by
  rw [binB_eq] at h
  have := (Bool.and_eq_true_iff.1 h).2
  exact List.all_eq_true.1 this _ (List.mem_map.2 ⟨x, hx, rfl⟩)
theorem binB_len {p : S34} (h : binB p = true) : p.f7.length ≤ 2 := by
  rw [binB_eq] at h
  exact of_decide_eq_true (Bool.and_eq_true_iff.1 h).1
structure Ec (w0 w : World) (g ga gc gb : Nat) (Ac : Option Addr) (C : List Int) (cc : Nat) (Ab : Option Addr) (B : List Int) (cb : Nat) : Prop where
  low : Below w0.heap.size w0 w
  hG : w.heap[g]? = some (.cells #[.func (.func 31) #[] #[pt g, pt ga, pt gc, pt gb]] 37 (0, 0))
  hA : w.heap[ga]? = some (.cells #[.func (.func 30) #[] #[]] 57 (0, 0))
  hC : w.heap[gc]? = some (.cells #[.slice Ac C.length cc] 22 (0, 0))
  hB : w.heap[gb]? = some (.cells #[.slice Ab B.length cb] 22 (0, 0))
  lC : (Kd.int .i64).C w0 Ac C.length C
  lB : (Kd.int .i64).C w0 Ab B.length B
theorem Ec.below {w0 w w' : World} {g ga gc gb : Nat} {Ac : Option Addr} {C : List Int} {cc : Nat} {Ab : Option Addr} {B : List Int} {cb : Nat} (h : Ec w0 w g ga gc gb Ac C cc Ab B cb) (hb : Below w.heap.size w w') : Ec w0 w' g ga gc gb Ac C cc Ab B cb :=
  ⟨h.low.trans (hb.mono h.low.size), (hb.block g (blk_lt h.hG)).trans h.hG, (hb.block ga (blk_lt h.hA)).trans h.hA, (hb.block gc (blk_lt h.hC)).trans h.hC, (hb.block gb (blk_lt h.hB)).trans h.hB, h.lC, h.lB⟩
def Cc (B C : List Int) (p : S34) : Prop := ∀ (w0 w : World) (g ga gc gb : Nat) (Ac : Option Addr) (cc : Nat) (Ab : Option Addr) (cb : Nat) (A : Option Addr) (c : Nat), binB p = true → Ec w0 w g ga gc gb Ac C cc Ab B cb → k34.C w0 A p.f7.length p.f7 →
  Calls Tryd.prog 31 #[encP p A c, pt g, pt ga, pt gc, pt gb] w fun e_ w' => e_ = .returned (.int .i64 (costX B C p)) ∧ Below w.heap.size w w'
theorem take_map {α : Type} (f : S34 → α) {l : List S34} {i : Nat} (h : i < l.length) : (l.take (i + 1)).map f = (l.take i).map f ++ [f l[i]] := by
  rw [List.take_succ_eq_append_getElem h, List.map_append]
  rfl
set_option maxRecDepth 8000 in
set_option maxHeartbeats 16000000 in
theorem cost31 (B C : List Int) : ∀ p, Cc B C p := by
  refine ind34 ?_
  intro p ih w0 w g ga gc gb Ac cc Ab cb A c hbin hE hC
  have HE := Aside0.mk hE
  have HC := Aside0.mk hC
  have HIH := Aside0.mk ih
  have HBI := Aside0.mk hbin
  have HLE := Aside0.mk (binB_len hbin)
  clear hE hC ih hbin
  have hu34 := Tryd.underlying34
  go_enter Tryd.func31, Tryd.ntmps31
  go_wp2_with (first | ((with_reducible refine gate_dst (N := 5) rfl ?_); refine box_event ?hg (N := 5) ?hd (cs := cellsP p (.slice A p.f7.length c)) (t := 34) ?hr ?_; (case hd => rfl); (case hg => rfl); (case hr => unfold cellsP encP; first | (go_simp; done) | (go_simp; rfl)); intro gp hg1 w1 hbox hb; have BK := Aside0.mk hbox; have HB := Aside0.mk hb; have HG1 := Aside0.mk hg1; clear hbox hb hg1) | ((with_reducible refine gate_dst (N := 13) rfl ?_); refine build_event rfl (N := 13) rfl 58 _ rfl #[.int .i64 0, .int .i64 0] (by kernel_rfl) ?_) | ((with_reducible refine gate_dst (N := 8) rfl ?_); refine box_event ?hg (N := 8) ?hd (cs := #[.int .i64 0, .int .i64 0]) (t := 58) ?hr ?_; (case hd => rfl); (case hg => rfl); (case hr => first | (go_simp; done) | (go_simp; rfl)); intro gar hg1 w2 hbox hb; have BA := Aside0.mk hbox; have HB2 := Aside0.mk (bst HB.out hb); have BK2 := Aside0.mk ((hb.block gp (blk_lt BK.out)).trans BK.out); have HNA : Aside0 (gp < gar ∧ w.heap.size ≤ gar) := ⟨by rw [hg1]; exact ⟨blk_lt BK.out, HB.out.size⟩⟩; clear hbox hb hg1) | ((with_reducible refine gate_store (t := 58) (p := 8) rfl ?_); refine row_event rfl 58 _ _ rfl gar #[.int .i64 0, .int .i64 0] rfl rfl 58 #[.int .i64 0, .int .i64 0] BA.out (by kernel_rfl) (by kernel_rfl) (by kernel_rfl) ?_; intro w3 hx hb hf; have BA3 := Aside0.mk hx; have HB3 : Aside0 (Below w.heap.size w w3) := ⟨HB2.out.trans (hb.mono HNA.out.2)⟩; have BK3 := Aside0.mk ((hf gp (by have := HNA.out.1; omega)).trans BK2.out); clear hx hb hf; have k0 := (blk_cell BK3.out 0).trans (rfl : _ = some (Value.int .i64 p.f0)); have k1 := (blk_cell BK3.out 1).trans (rfl : _ = some (Value.int .i64 p.f1)); have k2 := (blk_cell BK3.out 2).trans (rfl : _ = some (Value.int .i64 p.f2)); have k3 := (blk_cell BK3.out 3).trans (rfl : _ = some (Value.int .i64 p.f3)); have k4 := (blk_cell BK3.out 4).trans (rfl : _ = some (Value.bool p.f4)); have k5 := (blk_cell BK3.out 5).trans (rfl : _ = some (Value.int .i64 p.f5)); have k6 := (blk_cell BK3.out 6).trans (rfl : _ = some (Value.int .i64 p.f6)); have k7 := (blk_cell BK3.out 7).trans (rfl : _ = some (Value.slice A p.f7.length c))))
  have HE3 := Aside0.mk (HE.out.below HB3.out)
  clear k0 k1 k2 k3 k4 k5 k6 k7
  go_loopw [7, 17] (fun s7 s17 wr => ∃ i : Nat, i ≤ p.f7.length ∧ s17 = .int .i64 (i : Int) ∧ Aside0 ((Kd.int .i64).R 3 wr w3.heap.size (fun _ => True) s7 ((p.f7.take i).map (costX B C))) ∧ Aside0 (wr.heap[gar]? = some (.cells #[.int .i64 (if 1 ≤ i then atI C (rd_T34 p.f7 0).f3 else 0), .int .i64 (if 2 ≤ i then atI C (rd_T34 p.f7 1).f3 else 0)] 58 (0, 0))) ∧ Aside0 (wr.heap[gp]? = some (.cells (cellsP p (.slice A p.f7.length c)) 34 (0, 0))) ∧ Aside0 (Below w.heap.size w wr) ∧ Aside0 (w3.heap.size ≤ wr.heap.size)) (fun s7 s17 _ => p.f7.length - (intOf s17).toNat)
  case atStart => exact ⟨0, Nat.zero_le _, rfl, ⟨Kd.R_nil _ _ _ _ _⟩, BA3, BK3, HB3, ⟨Nat.le_refl _⟩⟩
  case round =>
    obtain ⟨i, hi, rfl, HO, HA, HK, HBr, HS⟩ := hrel
    obtain ⟨w4, hw4⟩ : ∃ x, x = wr := ⟨_, rfl⟩
    subst hw4
    have HE4 := Aside0.mk (HE.out.below HBr.out)
    by_cases hlt : i < p.f7.length
    · have hin : (i : Int) < (p.f7.length : Int) := by omega
      have hi2 : i < 2 := by have := HLE.out; omega
      have hi2b : (i : Int) < 2 := by omega
      have hwi : wrap64 ((i : Int) + 1) = (i : Int) + 1 := w64_ (by omega) (by omega)
      have HTK : Aside0 ((p.f7.take (i + 1)).map (costX B C) = (p.f7.take i).map (costX B C) ++ [costX B C p.f7[i]]) := ⟨take_map _ hlt⟩
      have HLT : Aside0 (((p.f7.take i).map (costX B C)).length ≤ 2) := ⟨by simp; omega⟩
      have HI := Aside0.mk (HIH.out _ (List.getElem_mem hlt))
      have HBX := Aside0.mk (binB_in HBI.out (List.getElem_mem hlt))
      have hrd : rd_T34 p.f7 (i : Int) = p.f7[i] := by unfold rd_T34; rw [Int.toNat_natCast, List.getD_eq_getElem?_getD, List.getElem?_eq_getElem hlt]; rfl
      have HRD : Aside0 ((i = 0 → rd_T34 p.f7 0 = p.f7[i]) ∧ (i = 1 → rd_T34 p.f7 1 = p.f7[i])) := ⟨⟨fun h => by rw [← hrd]; subst h; rfl, fun h => by rw [← hrd]; subst h; rfl⟩⟩
      obtain ⟨ad, A8, c8, e0, x0, x1, x2, x3, x4, x5, x6, x7, l8, g8⟩ := at_T34 (Kd.C_below HC.out HE4.out.low) (i : Int) (by omega) hin
      obtain ⟨ad0, A80, c80, e00, _, _, _, _, _, _, _, y8, l80, g80⟩ := at_T34 HC.out (i : Int) (by omega) hin
      have hA8 : A80 = A8 ∧ c80 = c8 := by
        rw [e0] at e00
        injection e00 with e00
        subst e00
        have := (cells_later HE4.out.low y8).symm.trans x7
        injection this with this
        injection this with h1 _ h2
        exact ⟨h1, h2⟩
      obtain ⟨rfl, rfl⟩ := hA8
      subst e0
      have HG8 := Aside0.mk g80
      clear g80 g8 y8 e00 l80 l8
      rw [hrd] at x0 x1 x2 x3 x4 x5 x6 x7 HG8
      rw [Int.toNat_natCast] at x0 x1 x2 x3 x4 x5 x6 x7
      clear hrd
      generalize p.f7[i] = e at *
      generalize (p.f7.take i).map (costX B C) = xs at *
      go_wp2_with (first | ((with_reducible refine gate_dst (N := 10) rfl ?_); refine box_event ?hg (N := 10) ?hd (cs := zeroP) (t := 34) ?hr ?_; (case hd => rfl); (case hg => rfl); (case hr => unfold zeroP; first | (go_simp; done) | (go_simp; rfl)); intro gx hg1 w5 hbox hb; have HGX := Aside0.mk hbox; have HD5 := Aside0.mk hb; have HGG : Aside0 (w4.heap.size ≤ gx) := ⟨by rw [hg1]; exact Nat.le_refl _⟩; clear hbox hb hg1) | ((with_reducible refine gate_store (t := 34) (p := 10) rfl ?_); refine row_event rfl 34 _ _ rfl gx (cellsP e (.slice A80 e.f7.length c80)) rfl rfl 34 zeroP HGX.out (by kernel_rfl) (by kernel_rfl) (by kernel_rfl) ?_; intro w6 hx hb hf; have HX6 := Aside0.mk hx; have HD6 : Aside0 (Below w4.heap.size w4 w6) := ⟨HD5.out.trans (hb.mono HGG.out)⟩; clear hx hb hf; have HO6 := Aside0.mk (Kd.R_below HO.out HD6.out); have HA6 := Aside0.mk ((HD6.out.block gar (blk_lt HA.out)).trans HA.out); have HK6 := Aside0.mk ((HD6.out.block gp (blk_lt HK.out)).trans HK.out); have HB6 := Aside0.mk (bst HBr.out HD6.out); have HS6 := Aside0.mk (Nat.le_trans HS.out HD6.out.size); have HE6 := Aside0.mk (HE4.out.below HD6.out); have k0 := (blk_cell HX6.out 0).trans (rfl : _ = some (Value.int .i64 e.f0)); have k1 := (blk_cell HX6.out 1).trans (rfl : _ = some (Value.int .i64 e.f1)); have k2 := (blk_cell HX6.out 2).trans (rfl : _ = some (Value.int .i64 e.f2)); have k3 := (blk_cell HX6.out 3).trans (rfl : _ = some (Value.int .i64 e.f3)); have k4 := (blk_cell HX6.out 4).trans (rfl : _ = some (Value.bool e.f4)); have k5 := (blk_cell HX6.out 5).trans (rfl : _ = some (Value.int .i64 e.f5)); have k6 := (blk_cell HX6.out 6).trans (rfl : _ = some (Value.int .i64 e.f6)); have k7 := (blk_cell HX6.out 7).trans (rfl : _ = some (Value.slice A80 e.f7.length c80)); have hcg := (blk_cell HE6.out.hG 0).trans (rfl : _ = some (Value.func (.func 31) #[] #[pt g, pt ga, pt gc, pt gb]))) | (go_at_call 31; refine (HI.out w0 _ g ga gc gb Ac cc Ab cb _ _ HBX.out HE6.out HG8.out).mono ?_; rintro e_ w7 ⟨rfl, hb7⟩; have HX7 := Aside0.mk ((hb7.block gx (blk_lt HX6.out)).trans HX6.out); have HO7 := Aside0.mk (Kd.R_below HO6.out hb7); have HA7 := Aside0.mk ((hb7.block gar (blk_lt HA6.out)).trans HA6.out); have HK7 := Aside0.mk ((hb7.block gp (blk_lt HK6.out)).trans HK6.out); have HB7 := Aside0.mk (bst HB6.out hb7); have HS7 := Aside0.mk (Nat.le_trans HS6.out hb7.size); have HE7 := Aside0.mk (HE6.out.below hb7); clear hb7 k0 k1 k2 k3 k4 k5 k6 k7 hcg) | ((with_reducible refine gate_builtin (b := .append) (xs := #[.tmp 22, .tmp 26]) rfl ?_); at_builtin; refine Kd.R_append (Kd.int .i64) (w0 := w7) w3.heap.size rfl (.tmp 22) (.tmp 26) 22 3 (.int .i64 0) 8 rfl Tryd.underlying22 info3 rfl (by decide) (by decide) u7 xs (costX B C e) [.int .i64 (costX B C e)] (fun _ => True) (fun _ => False) rfl rfl ?aP (fun _ hk => hk.elim) ?aF ?aO ?aB ?aS ?aL ?_; (case aP => exact rfl); (case aF => exact fun _ _ => trivial); (case aO => exact HO7.out); (case aB => exact Below.refl _ _); (case aS => exact HS7.out); (case aL => have := HLT.out; omega); intro v8 w8 hR hb hg hat; have HO8 := Aside0.mk hR; have HD8 := Aside0.mk hb; have HA8 := Aside0.mk ((hb.block gar (blk_lt BA3.out)).trans HA7.out); have HK8 := Aside0.mk ((hb.block gp (blk_lt BK3.out)).trans HK7.out); have HX8 := Aside0.mk ((hg.block gx (blk_lt HX7.out) (Kd.R_ne HO7.out HX7.out (by decide))).trans HX7.out); have HB8 := Aside0.mk (HB7.out.trans (hb.mono HB3.out.size)); have HS8 := Aside0.mk (Nat.le_trans HS7.out hb.size); have HE8 : Aside0 (Ec w0 w8 g ga gc gb Ac C cc Ab B cb) := ⟨HE.out.below HB8.out⟩; clear hR hb hg hat; have hca := (blk_cell HE8.out.hA 0).trans (rfl : _ = some (Value.func (.func 30) #[] #[])); have hcc := (blk_cell HE8.out.hC 0).trans (rfl : _ = some (Value.slice Ac C.length cc)); have k0 := (blk_cell HX8.out 0).trans (rfl : _ = some (Value.int .i64 e.f0)); have k1 := (blk_cell HX8.out 1).trans (rfl : _ = some (Value.int .i64 e.f1)); have k2 := (blk_cell HX8.out 2).trans (rfl : _ = some (Value.int .i64 e.f2)); have k3 := (blk_cell HX8.out 3).trans (rfl : _ = some (Value.int .i64 e.f3)); have k4 := (blk_cell HX8.out 4).trans (rfl : _ = some (Value.bool e.f4)); have k5 := (blk_cell HX8.out 5).trans (rfl : _ = some (Value.int .i64 e.f5)); have k6 := (blk_cell HX8.out 6).trans (rfl : _ = some (Value.int .i64 e.f6)); have k7 := (blk_cell HX8.out 7).trans (rfl : _ = some (Value.slice A80 e.f7.length c80))) | (go_at_call 30; refine (at30 Ac cc C e.f3 _ (Kd.C_below HE8.out.lC HE8.out.low)).mono ?_; rintro e_ w8b ⟨rfl, hb8⟩; have HO8b := Aside0.mk (Kd.R_below HO8.out hb8); have HA8b := Aside0.mk ((hb8.block gar (blk_lt HA8.out)).trans HA8.out); have HK8b := Aside0.mk ((hb8.block gp (blk_lt HK8.out)).trans HK8.out); have HB8b := Aside0.mk (bst HB8.out hb8); have HS8b := Aside0.mk (Nat.le_trans HS8.out hb8.size); have HE8b := Aside0.mk (HE8.out.below hb8); clear hb8 k0 k1 k2 k3 k4 k5 k6 k7 hca hcc; have hci : w8b.cell? ⟨gar, i, none⟩ = some (Value.int .i64 (if i = 0 then (if 1 ≤ i then atI C (rd_T34 p.f7 0).f3 else 0) else (if 2 ≤ i then atI C (rd_T34 p.f7 1).f3 else 0))) := by { have h01 : i = 0 ∨ i = 1 := (by omega); rcases h01 with rfl | rfl; exact (blk_cell HA8b.out 0).trans rfl; exact (blk_cell HA8b.out 1).trans rfl }; have hfi := blk_frozen HA8b.out i))
      (obtain ⟨w9, hw9⟩ : ∃ x, x = w8b.setCell ⟨gar, i, none⟩ (Value.int .i64 (atI C e.f3)) := ⟨_, rfl⟩; rw [← hw9]; have HO9 : Aside0 ((Kd.int .i64).R 3 w9 w3.heap.size (fun _ => True) v8 (xs ++ [costX B C e])) := ⟨by rw [hw9]; exact Kd.R_set HO8b.out HA8b.out (by decide) i _⟩; have HA9 : Aside0 (w9.heap[gar]? = some (.cells #[.int .i64 (if 1 ≤ i + 1 then atI C (rd_T34 p.f7 0).f3 else 0), .int .i64 (if 2 ≤ i + 1 then atI C (rd_T34 p.f7 1).f3 else 0)] 58 (0, 0))) := ⟨by rw [hw9]; have h := blk_set HA8b.out i (.int .i64 (atI C e.f3)); rw [h]; have h01 : i = 0 ∨ i = 1 := (by omega); rcases h01 with h01 | h01; (have h2 := HRD.out.1 h01; subst h01; rw [h2]; rfl); (have h2 := HRD.out.2 h01; subst h01; rw [h2]; rfl)⟩; have HK9 : Aside0 (w9.heap[gp]? = some (.cells (cellsP p (.slice (some ad) p.f7.length c)) 34 (0, 0))) := ⟨by rw [hw9]; exact (Below.heap_setCell _ _ _ _ (by have := HNA.out.1; show gp ≠ gar; omega)).trans HK8b.out⟩; have HB9 : Aside0 (Below w.heap.size w w9) := ⟨by rw [hw9]; exact below_set HB8b.out HNA.out.2⟩; have HS9 : Aside0 (w3.heap.size ≤ w9.heap.size) := ⟨by rw [hw9]; simpa [World.setCell] using HS8b.out⟩)
      go_roundw
      case rel => exact ⟨i + 1, by omega, by go_num, ⟨by rw [HTK.out]; exact HO9.out⟩, HA9, HK9, HB9, HS9⟩
      case measure => exact meas_ hlt
    · have HTA : Aside0 ((p.f7.take i).map (costX B C) = p.f7.map (costX B C)) := ⟨by rw [List.take_of_length_le (by omega)]⟩
      have HLL : Aside0 (i = p.f7.length) := ⟨by omega⟩
      have hle : p.f7.length ≤ i := by omega
      have HA4 : Aside0 (w4.heap[gar]? = some (.cells #[.int .i64 (in0 C p), .int .i64 (in1 C p)] 58 (0, 0))) := ⟨by have h := HA.out; rw [HLL.out] at h; exact h⟩
      have HO4 : Aside0 ((Kd.int .i64).R 3 w4 w3.heap.size (fun _ => True) u7 (p.f7.map (costX B C))) := ⟨by have h := HO.out; rw [HTA.out] at h; exact h⟩
      have HCX : Aside0 (costX B C p = totI (p.f7.map (costX B C) ++ [ownI B C p])) := ⟨costX_eq B C p⟩
      have HLX : Aside0 ((p.f7.map (costX B C)).length ≤ 2) := ⟨by rw [List.length_map]; exact HLE.out⟩
      clear HTA HO HA HIH
      generalize p.f7.map (costX B C) = xs at *
      have hca := (blk_cell HE4.out.hA 0).trans (rfl : _ = some (Value.func (.func 30) #[] #[]))
      have hcc := (blk_cell HE4.out.hC 0).trans (rfl : _ = some (Value.slice Ac C.length cc))
      have k0 := (blk_cell HK.out 0).trans (rfl : _ = some (Value.int .i64 p.f0))
      have k1 := (blk_cell HK.out 1).trans (rfl : _ = some (Value.int .i64 p.f1))
      have k2 := (blk_cell HK.out 2).trans (rfl : _ = some (Value.int .i64 p.f2))
      have k3 := (blk_cell HK.out 3).trans (rfl : _ = some (Value.int .i64 p.f3))
      have k4 := (blk_cell HK.out 4).trans (rfl : _ = some (Value.bool p.f4))
      have k5 := (blk_cell HK.out 5).trans (rfl : _ = some (Value.int .i64 p.f5))
      have k6 := (blk_cell HK.out 6).trans (rfl : _ = some (Value.int .i64 p.f6))
      have k7 := (blk_cell HK.out 7).trans (rfl : _ = some (Value.slice A p.f7.length c))
      go_upto_block 2 with (go_at_call 30; refine (at30 Ac cc C p.f3 _ (Kd.C_below HE4.out.lC HE4.out.low)).mono ?_; rintro e_ w5 ⟨rfl, hb5⟩; have HO5 := Aside0.mk (Kd.R_below HO4.out hb5); have HA5 := Aside0.mk ((hb5.block gar (blk_lt HA4.out)).trans HA4.out); have HK5 := Aside0.mk ((hb5.block gp (blk_lt HK.out)).trans HK.out); have HB5 := Aside0.mk (bst HBr.out hb5); have HS5 := Aside0.mk (Nat.le_trans HS.out hb5.size); have HE5 := Aside0.mk (HE4.out.below hb5); clear hb5 k0 k1 k2 k3 k4 k5 k6 k7 hca hcc; have k0 := (blk_cell HK5.out 0).trans (rfl : _ = some (Value.int .i64 p.f0)); have k1 := (blk_cell HK5.out 1).trans (rfl : _ = some (Value.int .i64 p.f1)); have k2 := (blk_cell HK5.out 2).trans (rfl : _ = some (Value.int .i64 p.f2)); have k3 := (blk_cell HK5.out 3).trans (rfl : _ = some (Value.int .i64 p.f3)); have k4 := (blk_cell HK5.out 4).trans (rfl : _ = some (Value.bool p.f4)); have k5 := (blk_cell HK5.out 5).trans (rfl : _ = some (Value.int .i64 p.f5)); have k6 := (blk_cell HK5.out 6).trans (rfl : _ = some (Value.int .i64 p.f6)); have k7 := (blk_cell HK5.out 7).trans (rfl : _ = some (Value.slice A p.f7.length c)); have ha0 := (blk_cell HA5.out 0).trans (rfl : _ = some (Value.int .i64 (in0 C p))); have ha1 := (blk_cell HA5.out 1).trans (rfl : _ = some (Value.int .i64 (in1 C p))); have hca := (blk_cell HE5.out.hA 0).trans (rfl : _ = some (Value.func (.func 30) #[] #[])); have hcb := (blk_cell HE5.out.hB 0).trans (rfl : _ = some (Value.slice Ab B.length cb)))
      go_cut [12] (fun s12 wx => s12 = .int .i64 (ownI B C p) ∧ Aside0 (Below w5.heap.size w5 wx))
      case first =>
        as_aux_lemma =>
          rcases Bool.eq_false_or_eq_true (p.f0 == 1) with q1 | q1
          · have HOW : Aside0 (ownI B C p = totI [atI B p.f1, 1]) := ⟨by unfold ownI; rw [if_pos (by simpa using q1)]⟩
            go_wp2_with (first | (go_at_call 30; refine (at30 Ab cb B p.f1 _ (Kd.C_below HE5.out.lB HE5.out.low)).mono ?_; rintro e_ w6 ⟨rfl, hb6⟩; have HD6 := Aside0.mk hb6; clear hb6) | (go_at_call 32; refine (c32 _ _).mono ?_; rintro e_ w7 ⟨rfl, hb7⟩; have HD7 := Aside0.mk (bst HD6.out hb7); clear hb7))
            go_meet
            rw [HOW.out]
            exact ⟨rfl, HD7⟩
          rcases Bool.eq_false_or_eq_true (p.f0 == 2) with q2 | q2
          · have HOW : Aside0 (ownI B C p = totI [atI C p.f3, 2]) := ⟨by unfold ownI; rw [if_neg (by simpa using q1), if_pos (by simpa using q2)]⟩
            go_wp2_with (go_at_call 33; refine (c33 _ _).mono ?_; rintro e_ w7 ⟨rfl, hb7⟩; have HD7 := Aside0.mk hb7; clear hb7)
            go_meet
            rw [HOW.out]
            exact ⟨rfl, HD7⟩
          rcases Bool.eq_false_or_eq_true (p.f0 == 3) with q3 | q3
          · have HOW : Aside0 (ownI B C p = totI [in0 C p, mulI (in0 C p) (in1 C p), atI C p.f3]) := ⟨by unfold ownI; rw [if_neg (by simpa using q1), if_neg (by simpa using q2), if_pos (by simpa using q3)]⟩
            go_wp2_with (go_at_call 34; refine (c34 _ _ _ _).mono ?_; rintro e_ w7 ⟨rfl, hb7⟩; have HD7 := Aside0.mk hb7; clear hb7)
            go_meet
            rw [HOW.out]
            exact ⟨rfl, HD7⟩
          rcases Bool.eq_false_or_eq_true (p.f0 == 4) with q4 | q4
          · have HOW : Aside0 (ownI B C p = totI [in0 C p, in1 C p, in1 C p, atI C p.f3, 4]) := ⟨by unfold ownI; rw [if_neg (by simpa using q1), if_neg (by simpa using q2), if_neg (by simpa using q3), if_pos (by simpa using q4)]⟩
            go_wp2_with (go_at_call 35; refine (c35 _ _ _ _).mono ?_; rintro e_ w7 ⟨rfl, hb7⟩; have HD7 := Aside0.mk hb7; clear hb7)
            go_meet
            rw [HOW.out]
            exact ⟨rfl, HD7⟩
          rcases Bool.eq_false_or_eq_true (p.f0 == 5) with q5 | q5
          · have HOW : Aside0 (ownI B C p = totI [sortI (in0 C p), sortI (in1 C p), in0 C p, in1 C p, atI C p.f3, 2]) := ⟨by unfold ownI; rw [if_neg (by simpa using q1), if_neg (by simpa using q2), if_neg (by simpa using q3), if_neg (by simpa using q4), if_pos (by simpa using q5)]⟩
            go_wp2_with (go_at_call 36; refine (c36 _ _ _ _).mono ?_; rintro e_ w7 ⟨rfl, hb7⟩; have HD7 := Aside0.mk hb7; clear hb7)
            go_meet
            rw [HOW.out]
            exact ⟨rfl, HD7⟩
          rcases Bool.eq_false_or_eq_true (p.f0 == 6) with q6 | q6
          · have HOW : Aside0 (ownI B C p = clipI (atI C p.f3)) := ⟨by unfold ownI; rw [if_neg (by simpa using q1), if_neg (by simpa using q2), if_neg (by simpa using q3), if_neg (by simpa using q4), if_neg (by simpa using q5), if_pos (by simpa using q6)]⟩
            go_wp2_with (go_at_call 37; refine (c37 _ _).mono ?_; rintro e_ w7 ⟨rfl, hb7⟩; have HD7 := Aside0.mk hb7; clear hb7)
            go_meet
            rw [HOW.out]
            exact ⟨rfl, HD7⟩
          have HOW : Aside0 (ownI B C p = 0) := ⟨by unfold ownI; rw [if_neg (by simpa using q1), if_neg (by simpa using q2), if_neg (by simpa using q3), if_neg (by simpa using q4), if_neg (by simpa using q5), if_neg (by simpa using q6)]⟩
          go_wp2_with fail
          go_meet
          rw [HOW.out]
          exact ⟨rfl, ⟨Below.refl _ _⟩⟩
      case rest =>
      obtain ⟨rfl, HD6⟩ := hcut
      obtain ⟨w6, hw6⟩ : ∃ x, x = wc := ⟨_, rfl⟩
      subst hw6
      have HO6 := Aside0.mk (Kd.R_below HO5.out HD6.out)
      have HB6 := Aside0.mk (bst HB5.out HD6.out)
      have HS6 := Aside0.mk (Nat.le_trans HS5.out HD6.out.size)
      generalize ownI B C p = ow at *
      go_wp2_with (first | ((with_reducible refine gate_builtin (b := .append) (xs := #[.tmp 85, .tmp 87]) rfl ?_); at_builtin; refine Kd.R_append (Kd.int .i64) (w0 := w6) w3.heap.size rfl (.tmp 85) (.tmp 87) 22 3 (.int .i64 0) 8 rfl Tryd.underlying22 info3 rfl (by decide) (by decide) u7 xs ow [.int .i64 ow] (fun _ => True) (fun _ => False) rfl rfl ?aP (fun _ hk => hk.elim) ?aF ?aO ?aB ?aS ?aL ?_; (case aP => exact rfl); (case aF => exact fun _ _ => trivial); (case aO => exact HO6.out); (case aB => exact Below.refl _ _); (case aS => exact HS6.out); (case aL => have := HLX.out; omega); intro v7 w7 hR hb hg hat; obtain ⟨A9, c9, rfl, hl9, hC9⟩ := Kd.R_reads hR; have H38 : Aside0 (Calls Tryd.prog 38 #[.slice A9 (xs.length + 1) c9] w7 fun e_ w' => e_ = .returned (.int .i64 (totI (xs ++ [ow]))) ∧ Below w7.heap.size w7 w') := ⟨by have h := c38 A9 c9 (xs ++ [ow]) w7 hC9 hl9 (by have := HLX.out; simp; omega); rw [List.length_append] at h; exact h⟩; have HB7 := Aside0.mk (HB6.out.trans (hb.mono HB3.out.size)); clear hR hb hg hat hl9 hC9) | (go_at_call 38; refine H38.out.mono ?_; rintro e_ w8 ⟨rfl, hb8⟩; have HB8 := Aside0.mk (bst HB7.out hb8); clear hb8))
      go_ret
      rw [HCX.out]
      exact ⟨rfl, HB8.out⟩

end Go.Proofs.YtmnjaihalajhcaaDoor.QPlanConds
