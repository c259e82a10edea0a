import Derived.Test.YtkogfjphpklioaaStS
/- Store: walks by hand; the conditions stand in each theorem. -/
namespace Go.Proofs.Ytkogfjphpklioaa.QStoreNames
open Go.RowKit Go.Proofs.YtkogfjphpklioaaW.PrintWords Go.Proofs.YtkogfjphpklioaaW.PrintLast Go.Proofs.YtkogfjphpklioaaW.PrintMore
attribute [local go_sem] max2_int min2_int max_two min_two max_three min_three max_four min_four
set_option linter.unusedVariables false
set_option linter.unusedSimpArgs false
abbrev kI : Kd Int := Kd.int .i64
theorem kI_open {w : World} {x : Int} {cs : List Value} (h : kI.K w x cs) : cs = [.int .i64 x] := h
theorem kI_mkM (w : World) (base : Nat) (ok : Nat → Prop) (x : Int) : kI.M w base ok x [.int .i64 x] := rfl
theorem infoI : (Try.prog.info? 3).map (fun i => (i.zero, i.size, i.bytes)) = some (some (.int .i64 0), 1, 8) := by kernel_rfl
theorem info53 : (Try.prog.info? 53).map (fun i => (i.zero, i.size, i.bytes)) = some (some (.slice none 0 0), 1, 24) := by kernel_rfl
theorem atLI {w : World} {A : Option Addr} {l : List (List Int)} (h : Kd.C (Kd.slice 3 kI) w A l.length l) (i : Nat) (hi : i < l.length) : ∃ ad A0 c0, A = some ad ∧ w.cell? (ad.add i) = some (.slice A0 l[i].length c0) ∧ l[i].length ≤ c0 ∧ Kd.C kI w A0 l[i].length l[i] := by
  obtain ⟨ad, c, e, hl, hK, hc⟩ := Kd.C_get h [] (i : Int) (by omega) (by omega)
  obtain ⟨A0, c0, rfl, h1, h2⟩ := hK
  rw [Int.toNat_natCast, List.getD_eq_getElem?_getD, List.getElem?_eq_getElem hi] at h1 h2 hc
  have h3 := hc 0 _ rfl
  have h4 : (Kd.slice 3 kI).sz = 1 := rfl
  rw [h4, Nat.mul_one, Nat.add_zero] at h3
  exact ⟨ad, A0, c0, e, h3, h1, h2⟩
theorem clone46 (A0 : Option Addr) (c0 : Nat) (l0 : List Int) (w : World) (hr0 : Kd.C kI w A0 l0.length l0) (hc0 : l0.length ≤ c0) (hl : l0.length < 17592186044416) :
    Calls Try.prog 46 #[.slice A0 l0.length c0] w fun e w' => ∃ v0_ : Value, e = .returned (v0_) ∧ Kd.R kI 3 w' w.heap.size (fun _ => True) v0_ l0 ∧ Below w.heap.size w w' := by
  have hu := run_underlying Try.underlying53
  have q22 : ∀ (w : World) (a : Option Addr) (n c n' c' : Nat), (binOp .eql 53 (.slice a n c) (.slice none n' c')).run Try.prog w = .ok (.bool a.isNone) w := fun w a n c n' c' => Lib.run_eql_slice_nil w _ _ a n c n' c' Try.underlying53
  cases A0 with
  | none =>
    obtain rfl := cells_zero_of_none hr0
    have HR := Aside0.mk hr0
    clear hr0
    go_enter Try.func46, Try.ntmps46
    go_wp2
    go_ret
    exact ⟨_, rfl, Kd.R_nil _ _ _ _ _, Below.refl _ _⟩
  | some ad =>
    have HR := Aside0.mk hr0
    clear hr0
    go_enter Try.func46, Try.ntmps46
    go_wp2_with (first | ((with_reducible refine gate_dst (N := 5) rfl ?_); refine Kd.R_lit kI _ 3 ?hg (N := 5) ?hd (xs := ([] : List Int)) (inner := []) (ok := fun _ => True) (okp := fun _ => True) ?hr ?hp (fun _ hk => hk) trivial (Below.refl _ _) (Nat.le_refl _) (by simp) ?_; (case hd => rfl); (case hg => rfl); (case hr => first | (go_simp; done) | (go_simp; rfl)); (case hp => exact (Reps.none _ _)); intro v1 w1 ho hb hg hat; have HO := Aside0.mk ho; have HB := Aside0.mk hb; have HAT := Aside0.mk hat; clear ho hb hg hat) | ((with_reducible refine gate_builtin (b := .append) (xs := #[.tmp 5, .tmp 6]) rfl ?_); at_builtin; refine Kd.R_append_rows kI (w0 := w) (Rr := kI.K w1) w.heap.size rfl (.tmp 5) (.tmp 6) 53 3 (.int .i64 0) 8 rfl Try.underlying53 infoI rfl (by decide) (by decide) _ ([] : List Int) l0 (some ad) l0.length c0 (fun _ => True) (fun _ => False) (by first | (go_simp; done) | (go_simp; rfl)) (by first | (go_simp; done) | (go_simp; rfl)) ?aO ?aR ?aK (fun _ hk => hk.elim) ?aF ?aB ?aS ?aL ?_; (case aO => exact HO.out); (case aR => exact (Kd.C_below HR.out HB.out)); (case aK => exact (fun x cs hx => by rw [kI_open hx]; exact kI_mkM _ _ _ x)); (case aF => exact (fun _ _ => trivial)); (case aB => exact HB.out); (case aS => exact HB.out.size); (case aL => simp only [List.length_nil]; omega); intro v2 w2 ho2 hb2 hg2 hat2; have HO2 := Aside0.mk ho2; have HB2 := Aside0.mk hb2; clear ho2 hb2 hg2 hat2 HO HB))
    go_ret
    exact ⟨_, rfl, by simpa using HO2.out, HB2.out⟩
set_option maxHeartbeats 8000000 in
theorem rows38 (A : Option Addr) (c : Nat) (l : List (List Int)) (w : World) (hr : (Kd.slice 3 kI).C w A l.length l) (hc : l.length ≤ c) (hl : l.length ≤ 4398046511104) (hs : ∀ r ∈ l, r.length < 17592186044416) :
    Calls Try.prog 38 #[.slice A l.length c] w fun e w' => ∃ v0_ : Value, e = .returned (v0_) ∧ Kd.R (Kd.slice 3 kI) 53 w' w.heap.size (fun _ => True) v0_ l ∧ Below w.heap.size w w' := by
  have HR := Aside0.mk hr
  have HS := Aside0.mk hs
  clear hr hs
  go_enter Try.func38, Try.ntmps38
  go_wp2
  go_loopw [3, 8] (fun s3 s8 wr => ∃ k : Nat, k ≤ l.length ∧ s8 = .int .i64 k ∧ Aside0 (Kd.R (Kd.slice 3 kI) 53 wr w.heap.size (fun _ => True) s3 (l.take k)) ∧ Aside0 (Below w.heap.size w wr)) (fun _ s8 _ => l.length - (intOf s8).toNat)
  case atStart => exact ⟨0, Nat.zero_le _, rfl, ⟨Kd.R_nil _ _ _ _ _⟩, ⟨Below.refl _ _⟩⟩
  case round =>
    obtain ⟨k, hk, rfl, HO, HB⟩ := hrel
    obtain ⟨A3, c3, e3⟩ := Kd.R_slice HO.out
    subst e3
    by_cases hlt : k < l.length
    · obtain ⟨ad, A0, c0, e, hx, hlc, hC⟩ := atLI (Kd.C_below HR.out HB.out) k hlt
      cases e
      have HC := Aside0.mk hC
      have HT := Aside0.mk (List.take_succ_eq_append_getElem hlt)
      have hrl := HS.out _ (List.getElem_mem hlt)
      have HTL : Aside0 ((l.take k).length ≤ 4398046511103) := ⟨by rw [List.length_take]; omega⟩
      clear hC
      generalize l[k] = r at *
      generalize l.take k = xs at *
      go_wp2_with (first | (go_at_call 46; refine (clone46 A0 c0 r _ HC.out hlc hrl).mono ?_; rintro e w1 ⟨v1, rfl, hR, hb⟩; obtain ⟨A1, c1, e1⟩ := Kd.R_slice hR; subst e1; have HV := Aside0.mk (Kd.R_lower (Kd.R_newR hR HO.out) HB.out.size); have HO1 := Aside0.mk (Kd.R_below HO.out hb); have HB1 := Aside0.mk (below_step HB.out hb); clear hR hb) | ((with_reducible refine gate_builtin (b := .append) (xs := #[.tmp 12, .tmp 15]) rfl ?_); at_builtin; refine Kd.R_append (Kd.slice 3 kI) (w0 := w) w.heap.size rfl (.tmp 12) (.tmp 15) 52 53 (.slice none 0 0) 24 rfl Try.underlying52 info53 rfl (by decide) (by decide) _ xs r [.slice A1 r.length c1] (fun _ => True) (fun k_ => True ∧ some k_ ≠ (Value.slice A3 xs.length c3).ownBlock) (by first | (go_simp; done) | (go_simp; rfl)) (by first | (go_simp; done) | (go_simp; rfl)) ?aP ?aK (fun _ _ => trivial) ?aO ?aB ?aS ?aL ?_; (case aP => exact Kd.M_row HV.out); (case aK => exact (fun k_ hk_ => hk_)); (case aO => exact HO1.out); (case aB => exact HB1.out); (case aS => exact HB1.out.size); (case aL => have := HTL.out; omega); intro v2 w2 ho2 hb2 hg2 hat2; have HO2 := Aside0.mk ho2; have HB2 := Aside0.mk hb2; clear ho2 hb2 hg2 hat2))
      go_roundw
      case rel => exact ⟨k + 1, by omega, by go_num, ⟨by rw [HT.out]; exact HO2.out⟩, HB2⟩
      case measure => simp [intOf]; omega
    · have HE : Aside0 (l.take k = l) := ⟨List.take_of_length_le (by omega)⟩
      rw [HE.out] at HO
      go_wp2
      go_ret
      exact ⟨_, rfl, by first | exact HO.out | (rw [HE.out]; exact HO.out), HB.out⟩

end Go.Proofs.Ytkogfjphpklioaa.QStoreNames
