import Derived.Test.YtpkhdljlhdomlaaIxM
/- Index: walks by hand; the conditions stand in each theorem. -/
namespace Go.Proofs.Ytpkhdljlhdomlaa.QIndexFinds
open Go.RowKit Go.Proofs.YtpkhdljlhdomlaaW.PrintWords Go.Proofs.YtpkhdljlhdomlaaW.PrintLast Go.Proofs.YtpkhdljlhdomlaaW.PrintMore
attribute [local go_sem] max2_int min2_int max_two min_two max_three min_three max_four min_four
set_option linter.unusedVariables false
set_option linter.unusedSimpArgs false
def keepN (L : List S24) (l : List Int) : List Int := l.filter (fun s => !isN L s)
theorem keepN_le (L : List S24) (l : List Int) : (keepN L l).length ≤ l.length := List.length_filter_le _ _
theorem C_of_cells {w : World} {ad : Addr} {l : List Int} (hm : l.length ≤ 9223372036854775807) (h : ∀ p (hp : p < l.length), w.cell? (ad.add p) = some (.int .i64 l[p])) : kI.C w (some ad) l.length l := by
  refine ⟨rfl, hm, fun _ => ⟨_, rfl, fun j p hj => ?_⟩⟩
  obtain ⟨hjl, e⟩ := List.getElem?_eq_some_iff.1 hj
  subst e
  refine ⟨[.int .i64 l[j]], rfl, rfl, fun k u hu => ?_⟩
  have hk0 : k = 0 := by have := (List.getElem?_eq_some_iff.1 hu).1; simp at this; omega
  subst hk0
  have hu : u = .int .i64 l[j] := by simpa using hu.symm
  subst hu
  have := h j hjl
  show w.cell? (ad.add (j * 1 + 0)) = _
  rw [Nat.mul_one, Nat.add_zero]
  exact this
theorem zero3 (w : World) : (zeroValue 3).run Try.prog w = .ok (.int .i64 0) w := by kernel_rfl
set_option maxRecDepth 8000 in
set_option maxHeartbeats 4000000 in
theorem del23 (W : World) (bx g : Nat) (ad : Addr) (c0 : Nat) (v1 v2 : Value) (L : List S24) (hE : Ey W bx g ad c0 v1 v2 L) (q cap N : Nat) (l : List Int) (hp : Pl L l) (hl : l.length ≤ 1000000) (hcap : l.length ≤ cap) (hN : l.length ≤ N) (n1 : bx ≠ q) (n2 : g ≠ q) (n3 : ad.block ≠ q)
    (hrow : IS W W q l.length N (fun p => l.getD p 0)) :
    Calls Try.prog 23 #[.slice (some ⟨q, 0, none⟩) l.length cap, .func (.func 24) #[] #[.pointer (some ⟨bx, 0, none⟩)]] W fun e w' => e = .returned (.slice (some ⟨q, 0, none⟩) (keepN L l).length cap) ∧ kI.C w' (some ⟨q, 0, none⟩) (keepN L l).length (keepN L l) ∧ Kp W w' (fun j => j = q) := by
  have HR := Aside0.mk hrow
  have HE := Aside0.mk hE
  have HPL := Aside0.mk hp
  have HC0 := Aside0.mk hcap
  clear hrow hE hp
  have HX : Aside0 (∀ j (h : j < l.length), ∃ ad : Addr, some (⟨q, 0, none⟩ : Addr) = some ad ∧ W.cell? (ad.add j) = some (.int .i64 l[j])) := ⟨fun j h => ⟨_, rfl, by
    rw [HR.out.cellA j h]
    simp [List.getD_eq_getElem?_getD, List.getElem?_eq_getElem h]⟩⟩
  have hM := Aside0.mk (index31 W bx g ad c0 v1 v2 L HE.out (some ⟨q, 0, none⟩) cap l HPL.out (by omega) HX.out)
  by_cases hany : l.any (isN L) = true
  · have hi0 : l.findIdx (isN L) < l.length := List.findIdx_lt_length.2 (List.any_eq_true.1 hany)
    have hix : idxN L l = ((l.findIdx (isN L) : Nat) : Int) := by unfold idxN; rw [if_pos hany]
    rw [hix] at hM
    obtain ⟨i0, hi0, hM, h01, h02⟩ : ∃ i0, ∃ h : i0 < l.length, Aside0 (Calls Try.prog 31 #[.slice (some ⟨q, 0, none⟩) l.length cap, .func (.func 24) #[] #[.pointer (some ⟨bx, 0, none⟩)]] W fun e w' => e = .returned (.int .i64 ((i0 : Nat) : Int)) ∧ w' = W) ∧ isN L l[i0] = true ∧ ∀ j (hj : j < i0), isN L (l[j]'(Nat.lt_trans hj h)) = false :=
      ⟨l.findIdx (isN L), hi0, hM, List.findIdx_getElem (w := hi0), fun j hj => by
        have := List.not_of_lt_findIdx hj
        simpa using this⟩
    have H0 := And.intro h01 h02
    clear hix hany HX h01 h02
    have HF0 : Aside0 (keepN L (l.take (i0 + 1)) = l.take i0) := ⟨by
      unfold keepN
      rw [List.take_succ_eq_append_getElem hi0, List.filter_append, List.filter_eq_self.2]
      · simp [H0.1]
      · intro a ha
        obtain ⟨j, hj, rfl⟩ := List.mem_iff_getElem.1 ha
        rw [List.length_take] at hj
        rw [List.getElem_take, H0.2 j (by omega)]
        rfl⟩
    have hne1 : ((i0 : Int) == -1) = false := beq_eq_false_iff_ne.2 (by omega)
    go_enter Try.func23, Try.ntmps23
    go_wp2_with (go_at_call 31; refine hM.out.mono ?_; rintro e W ⟨rfl, rfl⟩)
    clear hM H0
    go_loopw [5, 6] (fun s5 s6 wr => ∃ i j : Nat, i < j ∧ j ≤ l.length ∧ s5 = .int .i64 (i : Int) ∧ s6 = .int .i64 (j : Int) ∧ Aside0 ((keepN L (l.take j)).length = i) ∧ ∃ row, Aside0 (IS W wr q l.length N row) ∧ Aside0 (∀ p, p < i → row p = (keepN L (l.take j)).getD p 0) ∧ Aside0 (∀ p, j ≤ p → p < l.length → row p = l.getD p 0)) (fun _ s6 _ => l.length - (intOf s6).toNat)
    case atStart => exact ⟨i0, i0 + 1, by omega, by omega, by first | trivial | rfl | go_num, by first | trivial | rfl | go_num, ⟨by rw [HF0.out, List.length_take]; omega⟩, _, HR, ⟨fun p hp => by rw [HF0.out, List.getD_eq_getElem?_getD, List.getD_eq_getElem?_getD, List.getElem?_take, if_pos hp]⟩, ⟨fun p _ _ => rfl⟩⟩
    case round =>
      obtain ⟨i, j, hij, hjl, rfl, rfl, HI, row, HS, HA, HB⟩ := hrel
      have HEr : Aside0 (Ey wr bx g ad c0 v1 v2 L) := ⟨HE.out.move (HS.out.far bx n1) (HS.out.far g n2) (HS.out.far ad.block n3)⟩
      by_cases hlt : j < l.length
      · have hx : wr.cell? ⟨q, j, none⟩ = some (.int .i64 l[j]) := (HS.out.cell j hlt).1.trans (by
          rw [HB.out j (Nat.le_refl _) hlt]
          simp [List.getD_eq_getElem?_getD, List.getElem?_eq_getElem hlt])
        have hy := HS.out.cell i (by omega)
        obtain ⟨hy1, hy2⟩ := hy
        have HT := Aside0.mk (List.take_succ_eq_append_getElem hlt)
        obtain ⟨q0, q1⟩ := HPL.out _ (List.getElem_mem hlt)
        obtain ⟨x, hv⟩ := Int.eq_ofNat_of_zero_le q0
        have hxl : x < L.length := by omega
        rw [hv] at HT hx
        clear hv q0 q1
        have hd : isN L (x : Int) = true ∨ isN L (x : Int) = false := by cases isN L (x : Int) <;> simp
        rcases hd with hp | hp
        · have HP := Aside0.mk hp
          have HK : Aside0 (keepN L (l.take (j + 1)) = keepN L (l.take j)) := ⟨by unfold keepN; rw [HT.out, List.filter_append]; simp [hp]⟩
          clear hp
          go_wp2_with (go_at_call 24; refine (at24 wr bx g _ c0 v1 v2 L HEr.out x hxl).mono ?_; rw [HP.out]; rintro e w1 ⟨rfl, rfl⟩)
          go_roundw
          case rel => exact ⟨i, j + 1, by omega, by omega, by go_num, by go_num, ⟨by rw [HK.out]; exact HI.out⟩, row, HS, ⟨fun p hp => by rw [HK.out]; exact HA.out p hp⟩, ⟨fun p h1 h2 => HB.out p (by omega) h2⟩⟩
          case measure => simp [intOf]; omega
        · have HP := Aside0.mk hp
          have HK : Aside0 (keepN L (l.take (j + 1)) = keepN L (l.take j) ++ [(x : Int)]) := ⟨by unfold keepN; rw [HT.out, List.filter_append]; simp [hp]⟩
          clear hp
          have HPut : Aside0 (IS W (wr.setCell ⟨q, i, none⟩ (.int .i64 (x : Int))) q l.length N (fun p => if p = i then (x : Int) else row p)) := ⟨HS.out.put i (by omega) hN (x : Int) _ (fun p _ => rfl)⟩
          go_wp2_with (go_at_call 24; refine (at24 wr bx g _ c0 v1 v2 L HEr.out x hxl).mono ?_; rw [HP.out]; rintro e w1 ⟨rfl, rfl⟩)
          go_roundw
          case rel => exact ⟨i + 1, j + 1, by omega, by omega, by go_num, by go_num, ⟨by rw [HK.out, List.length_append, HI.out]; rfl⟩, _, HPut, ⟨fun p hp => by
            rw [HK.out, List.getD_eq_getElem?_getD]
            by_cases e : p = i
            · subst e
              rw [if_pos rfl, List.getElem?_append_right (by rw [HI.out]; exact Nat.le_refl _), HI.out]
              simp
            · rw [if_neg e, List.getElem?_append_left (by rw [HI.out]; omega), ← List.getD_eq_getElem?_getD]
              exact HA.out p (by omega)⟩, ⟨fun p h1 h2 => by rw [if_neg (by omega)]; exact HB.out p (by omega) h2⟩⟩
          case measure => simp [intOf]; omega
      · have hj : j = l.length := by omega
        have hcl : ∀ ty, (Builtin.clear_ #[31] ty #[.slice (some ⟨q, i, none⟩) (l.length - i) (cap - i)]).run Try.prog wr = .ok (.tuple #[]) (wr.setCells q i (List.replicate (l.length - i) (.int .i64 0))) := fun ty =>
          Lib.run_clear_slice wr 31 3 ty (.int .i64 0) Try.underlying31 zero3 rfl rfl q i _ _ (by omega) (fun t ht => by rw [(HS.out.cell (i + t) (by omega)).1]; rfl) (fun t ht => (HS.out.cell (i + t) (by omega)).2)
        have HKL : Aside0 (keepN L (l.take j) = keepN L l) := ⟨by rw [hj, List.take_length]⟩
        have HZ : Aside0 (∃ row', IS W (wr.setCells q i (List.replicate (l.length - i) (.int .i64 0))) q l.length N row' ∧ ∀ p, p < i → row' p = row p) := ⟨IS.zeros hN (l.length - i) i (by omega) HS.out⟩
        have hic : i ≤ cap := by omega
        have hil : i ≤ l.length := by omega
        have hnl : ¬ (j : Int) < (l.length : Int) := by omega
        have HIL := Aside0.mk hij
        clear hj hlt
        go_wp2
        go_ret
        obtain ⟨row', h1, h2⟩ := HZ.out
        rw [HKL.out] at HI HA
        refine ⟨by rw [HI.out]; rfl, C_of_cells (by rw [HI.out]; omega) (fun p hp => ?_), ⟨h1.os, h1.tape, h1.output, Nat.le_of_eq h1.size.symm, fun j _ hj => h1.far j hj⟩⟩
        rw [h1.cellA p (by rw [HI.out] at hp; omega), h2 p (by rw [HI.out] at hp; omega), HA.out p (by rw [HI.out] at hp; omega)]
        simp [List.getD_eq_getElem?_getD, List.getElem?_eq_getElem hp]
  · have hix : idxN L l = -1 := by unfold idxN; rw [if_neg hany]
    rw [hix] at hM
    have HK : Aside0 (keepN L l = l) := ⟨List.filter_eq_self.2 (fun a ha => by
      cases e : isN L a with
      | false => rfl
      | true => exact absurd (List.any_eq_true.2 ⟨a, ha, e⟩) hany)⟩
    clear hix hany
    go_enter Try.func23, Try.ntmps23
    go_wp2_with (go_at_call 31; refine hM.out.mono ?_; rintro e W ⟨rfl, rfl⟩)
    go_ret
    rw [HK.out]
    refine ⟨rfl, C_of_cells (by omega) (fun p hp => ?_), ⟨rfl, rfl, rfl, Nat.le_refl _, fun _ _ _ => rfl⟩⟩
    rw [HR.out.cellA p hp]
    simp [List.getD_eq_getElem?_getD, List.getElem?_eq_getElem hp]

end Go.Proofs.Ytpkhdljlhdomlaa.QIndexFinds
