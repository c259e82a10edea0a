import Derived.Test.YtkogfjphpklioaaStAC
import Derived.Sort.Walk0
/- Store: walks by hand; the conditions stand in each theorem. -/
namespace Go.Proofs.Ytkogfjphpklioaa.QStoreNames
open Go.RowKit Go.Proofs.YtkogfjphpklioaaW.PrintWords Go.Proofs.YtkogfjphpklioaaW.PrintLast Go.Proofs.YtkogfjphpklioaaW.PrintMore
attribute [local go_sem] max2_int min2_int max_two min_two max_three min_three max_four min_four
set_option linter.unusedVariables false
set_option linter.unusedSimpArgs false
theorem min_nat (a b : Nat) : ∃ mn : Nat, (if (40 : Int) < (if b < a then (b : Int) else (a : Int)) then (40 : Int) else (if b < a then (b : Int) else (a : Int))) = (mn : Int) ∧ mn ≤ a ∧ mn ≤ b ∧ mn ≤ 40 := by
  refine ⟨min (min a b) 40, ?_, by omega, by omega, by omega⟩
  split <;> split <;> omega
theorem atS {w : World} {A : Option Addr} {l : List ByteArray} (h : Kd.C Kd.string w A l.length l) (i : Nat) (hi : i < l.length) : ∃ ad, A = some ad ∧ w.cell? (ad.add i) = some (.string l[i]) := by
  obtain ⟨ad, c, e, hl, hK, hc⟩ := Kd.C_get h ⟨#[]⟩ (i : Int) (by omega) (by omega)
  rw [Int.toNat_natCast, List.getD_eq_getElem?_getD, List.getElem?_eq_getElem hi] at hK
  have e1 : c = [.string l[i]] := hK
  subst e1
  have h3 := hc 0 _ rfl
  have h4 : Kd.string.sz = 1 := rfl
  rw [Int.toNat_natCast, h4, Nat.mul_one, Nat.add_zero] at h3
  exact ⟨ad, e, h3⟩
theorem two_rows {w : World} {A : Option Addr} {c : Nat} {r : List Int} (h : Kd.C kI w A r.length r) (hc : r.length ≤ c) {w1 : World} {g : Nat} (hg : w1.heap[g]? = some (.cells #[.slice A r.length c, .slice none 0 0] 53 (0, 0))) (hb : Below w.heap.size w w1) : (Kd.slice 3 kI).C w1 (some ⟨g, 0, none⟩) 2 [r, []] := by
  refine ⟨rfl, by decide, fun _ => ⟨_, rfl, fun j p hj => ?_⟩⟩
  have h1 := (List.getElem?_eq_some_iff.1 hj).1
  have hs : (Kd.slice 3 kI).sz = 1 := rfl
  have h2 : j = 0 ∨ j = 1 := by simp at h1; omega
  rcases h2 with h2 | h2
  · subst h2
    have h3 : r = p := by simpa using hj
    subst h3
    refine ⟨[.slice A r.length c], rfl, ⟨A, c, rfl, hc, Kd.C_below h hb⟩, fun i u hu => ?_⟩
    have h4 : i = 0 := by have := (List.getElem?_eq_some_iff.1 hu).1; simp at this; omega
    subst h4
    have h5 : Value.slice A r.length c = u := by simpa using hu
    subst h5
    rw [add_at]
    exact (blk_cell hg 0).trans rfl
  · subst h2
    have h3 : ([] : List Int) = p := by simpa using hj
    subst h3
    refine ⟨[.slice none 0 0], rfl, ⟨none, 0, rfl, Nat.le_refl _, ⟨rfl, by decide, fun hp => absurd hp (by decide)⟩⟩, fun i u hu => ?_⟩
    have h4 : i = 0 := by have := (List.getElem?_eq_some_iff.1 hu).1; simp at this; omega
    subst h4
    have h5 : Value.slice none 0 0 = u := by simpa using hu
    subst h5
    rw [add_at, hs]
    exact (blk_cell hg 1).trans rfl
theorem below_on3 {b : Nat} {w w1 w2 : World} (h : Below b w w1) (k : Below b w1 w2) : Below b w w2 := ⟨k.os.trans h.os, k.tape.trans h.tape, k.output.trans h.output, Nat.le_trans h.size k.size, fun j hj => (k.block j hj).trans (h.block j hj)⟩
structure GotS (W wr : World) (g n b6 gg c7 m : Nat) (A7 : Option Addr) (P : Nat → Prop) (F : ByteArray → Option (List (List Int))) : Prop where
  k : Kst wr g W.heap.size n (.slice none 0 0) P F
  b : Below W.heap.size W wr
  c : wr.cell? ⟨gg, 0, none⟩ = some (.slice A7 m c7)
  a : Alive wr gg 53 0
  p : 0 < m → ∃ p, A7 = some ⟨p, 0, none⟩ ∧ Alive wr p 3 m ∧ b6 ≤ p
theorem got_of {W w6 w7 : World} {g n : Nat} {v7 : Value} {r : List Int} {P : Nat → Prop} {F : ByteArray → Option (List (List Int))} (hk : Kst w6 g W.heap.size n (.slice none 0 0) P F) (hb : Below W.heap.size W w6) (h67 : Below w6.heap.size w6 w7) (hR : Kd.R (Kd.slice 3 kI) 53 w7 w6.heap.size (fun _ => True) v7 [r, []]) :
    ∃ gg cap A7 c7, v7 = .slice (some ⟨gg, 0, none⟩) 2 cap ∧ GotS W w7 g n w6.heap.size gg c7 r.length A7 P F := by
  obtain ⟨gg, cap, e, ha, _, hel⟩ := R_alive (Kd.R_bound hR) (by simp) []
  obtain ⟨c, hM, hcc⟩ := hel 0 (by simp)
  obtain ⟨v, rfl, hR2⟩ := hM
  have hR3 : Kd.R kI 3 w7 w6.heap.size _ v r := hR2
  obtain ⟨A7, c7, rfl⟩ := Kd.R_slice hR3
  have hs : (Kd.slice 3 kI).sz = 1 := rfl
  have q := hcc 0 _ rfl
  rw [hs] at q
  obtain ⟨cells, a1, _⟩ := ha
  refine ⟨gg, cap, A7, c7, e, hk.below h67, below_step hb h67, q, ⟨cells, a1, Nat.zero_le _⟩, fun hp => ?_⟩
  obtain ⟨p, cap2, e2, ha2, hok, _⟩ := R_alive hR3 hp 0
  injection e2 with e2 _ _
  have h3 : kI.sz = 1 := rfl
  rw [h3, Nat.mul_one] at ha2
  exact ⟨p, e2, ha2, hok.2.1⟩
theorem GotS.set {W wr : World} {g n b6 gg c7 m : Nat} {A7 : Option Addr} {P : Nat → Prop} {F : ByteArray → Option (List (List Int))} (h : GotS W wr g n b6 gg c7 m A7 P F) {p : Nat} (hA : A7 = some ⟨p, 0, none⟩) (ha : Alive wr p 3 m) (hb : b6 ≤ p) (hP : ¬ P p) (hpg : p ≠ g) (hW : W.heap.size ≤ p) (o : Nat) (x : Int) : GotS W (wr.setCell ⟨p, o, none⟩ (.int .i64 x)) g n b6 gg c7 m A7 P F :=
  ⟨h.k.set hP hpg ha _, below_set h.b hW, cells_set h.c (h.a.ne ha (by decide)), h.a.set _ _ _, fun _ => ⟨p, hA, ha.set _ _ _, hb⟩⟩
theorem keepF_last {S : List ByteArray} {L : List (List Int)} {la : Nat} {t : ByteArray} (he : S.getD la ⟨#[]⟩ = t) : ∀ n, la < n → (∀ j, la < j → j < n → S.getD j ⟨#[]⟩ ≠ t) → keepF S L n t = some [L.getD la [], []]
  | 0, h, _ => absurd h (Nat.not_lt_zero _)
  | n + 1, h, hn => by
    show (if t = S.getD n ⟨#[]⟩ then some [L.getD n [], []] else keepF S L n t) = _
    by_cases e : la = n
    · subst e
      rw [if_pos he.symm]
    · rw [if_neg (fun e2 => hn n (by omega) (by omega) e2.symm)]
      exact keepF_last he n (by omega) (fun j h1 h2 => hn j h1 (by omega))
theorem keepF_some {S : List ByteArray} {L : List (List Int)} (t : ByteArray) : ∀ n, n ≤ S.length → (keepF S L n t).isSome = decide (t ∈ S.take n)
  | 0, _ => by simp [keepF]
  | n + 1, h => by
    have h1 : n < S.length := by omega
    have h2 : S.getD n ⟨#[]⟩ = S[n] := by rw [List.getD_eq_getElem?_getD, List.getElem?_eq_getElem h1]; rfl
    show (if t = S.getD n ⟨#[]⟩ then some [L.getD n [], []] else keepF S L n t).isSome = _
    rw [List.take_succ_eq_append_getElem h1, h2]
    by_cases e : t = S[n]
    · rw [if_pos e, decide_eq_true (List.mem_append_right _ (by rw [e]; exact List.mem_singleton_self _))]
      rfl
    · rw [if_neg e, keepF_some t n (by omega)]
      refine decide_eq_decide.2 ⟨fun h => List.mem_append_left _ h, fun h => ?_⟩
      rcases List.mem_append.1 h with h | h
      · exact h
      · exact absurd (List.mem_singleton.1 h) e
theorem keepF_form {S : List ByteArray} {L : List (List Int)} (t : ByteArray) : ∀ n l, keepF S L n t = some l → ∃ k, k < n ∧ l = [L.getD k [], []]
  | 0, l, h => by cases h
  | n + 1, l, h => by
    change (if t = S.getD n ⟨#[]⟩ then some [L.getD n [], []] else keepF S L n t) = some l at h
    split at h
    · exact ⟨n, by omega, by injection h with h; exact h.symm⟩
    · obtain ⟨k, h1, h2⟩ := keepF_form t n l h
      exact ⟨k, by omega, h2⟩
theorem got_two {w w' : World} {v : Value} {r : List Int} (hR : Kd.R (Kd.slice 3 kI) 53 w' w.heap.size (fun _ => True) v [r, []]) :
    ∃ gg cap A7 c7 A8 c8, v = .slice (some ⟨gg, 0, none⟩) 2 cap ∧ w'.cell? ⟨gg, 0, none⟩ = some (.slice A7 r.length c7) ∧ w'.cell? ⟨gg, 1, none⟩ = some (.slice A8 0 c8) ∧ Kd.C kI w' A7 r.length r := by
  obtain ⟨gg, cap, e, _, _, hel⟩ := R_alive hR (by simp) []
  obtain ⟨c, hM, hcc⟩ := hel 0 (by simp)
  obtain ⟨v0, rfl, hR2⟩ := hM
  obtain ⟨c', hM', hcc'⟩ := hel 1 (by simp)
  obtain ⟨v1, rfl, hR2'⟩ := hM'
  have hR3 : Kd.R kI 3 w' w.heap.size _ v0 r := hR2
  have hR4 : Kd.R kI 3 w' w.heap.size _ v1 [] := hR2'
  obtain ⟨A7, c7, rfl, _, hC⟩ := Kd.R_reads hR3
  obtain ⟨A8, c8, rfl⟩ := Kd.R_slice hR4
  have hs : (Kd.slice 3 kI).sz = 1 := rfl
  have q := hcc 0 _ rfl
  have q' := hcc' 0 _ rfl
  rw [hs] at q q'
  exact ⟨gg, cap, A7, c7, A8, c8, e, q, q', hC⟩
theorem atI {w : World} {A : Option Addr} {l : List Int} (h : Kd.C kI w A l.length l) (i : Nat) (hi : i < l.length) : ∃ ad, A = some ad ∧ w.cell? (ad.add i) = some (.int .i64 l[i]) := by
  obtain ⟨ad, c, e, hl, hK, hc⟩ := Kd.C_get h 0 (i : Int) (by omega) (by omega)
  rw [Int.toNat_natCast, List.getD_eq_getElem?_getD, List.getElem?_eq_getElem hi] at hK
  have e1 : c = [.int .i64 l[i]] := hK
  subst e1
  have h3 := hc 0 _ rfl
  have h4 : kI.sz = 1 := rfl
  rw [Int.toNat_natCast, h4, Nat.mul_one, Nat.add_zero] at h3
  exact ⟨ad, e, h3⟩
set_option maxRecDepth 20000 in
set_option maxHeartbeats 8000000 in
theorem keeps_walk (W : World) (A1 A2 : Option Addr) (c1 c2 : Nat) (S : List ByteArray) (L : List (List Int)) (other : ByteArray) (hw : ShB W) (hr1 : Kd.C Kd.string W A1 S.length S) (hr2 : (Kd.slice 3 kI).C W A2 L.length L) (hs : ∀ s ∈ S, s.size ≤ maxLen) (hl : ∀ r ∈ L, r.length * 8 ≤ 140737488351232) (ho : other.size ≤ maxLen) :
    Calls Try.prog 7 #[.slice A1 S.length c1, .slice A2 L.length c2, .string other] W fun e w' => e = .returned (.bool true) ∧ Below W.heap.size W w' := by
  have HW := Aside0.mk hw
  have HR1 := Aside0.mk hr1
  have HR2 := Aside0.mk hr2
  have HS := Aside0.mk hs
  have HL := Aside0.mk hl
  have HO := Aside0.mk ho
  clear hw hr1 hr2 hs hl ho
  go_enter Try.func7, Try.ntmps7
  go_upto_block 0 with (first | (go_at_call 8; refine (examples_true W HW.out).mono ?_; rintro e w1 ⟨rfl, hb⟩; have HB1 := Aside0.mk hb; clear hb) | (go_at_call 13; refine (store_Open_nil _ (HW.out.on HB1.out)).mono ?_; rintro e w2 ⟨g, rfl, hge, hg, hb⟩; have HK2 := Aside0.mk (kst_new hg (Nat.le_trans HB1.out.size hge)); have HB2 := Aside0.mk (below_step HB1.out hb); clear hb hg hge))
  obtain ⟨mn, em, hm1, hm2, hm3⟩ := min_nat S.length L.length
  rw [em]
  go_cut [] (fun wx => Aside0 (∃ P, Kst wx g W.heap.size mn (.slice none 0 0) P (keepF S L mn)) ∧ Aside0 (Below W.heap.size W wx))
  case first =>
    as_aux_lemma =>
      go_wp2
      go_loopw [11] (fun s11 wr => ∃ (i : Nat) (P : Nat → Prop), i ≤ mn ∧ s11 = .int .i64 i ∧ Aside0 (Kst wr g W.heap.size i (.slice none 0 0) P (keepF S L i)) ∧ Aside0 (Below W.heap.size W wr)) (fun s11 _ => mn - (intOf s11).toNat)
      case atStart => exact ⟨0, _, Nat.zero_le _, rfl, HK2, HB2⟩
      case round =>
        obtain ⟨i, P, hi, rfl, HK, HB⟩ := hrel
        obtain ⟨w0, rfl⟩ : ∃ x, x = wr := ⟨_, rfl⟩
        by_cases hlt : i < mn
        · have hi1 : (i : Int) < (mn : Int) := by omega
          obtain ⟨ad1, e, hx1⟩ := atS (Kd.C_below HR1.out HB.out) i (by omega)
          cases e
          obtain ⟨ad2, A0, c0, e, hx2, hc0, hC0⟩ := atLI (Kd.C_below HR2.out HB.out) i (by omega)
          cases e
          have HC0 := Aside0.mk hC0
          have hsz := HL.out _ (List.getElem_mem (show i < L.length by omega))
          have hssz := HS.out _ (List.getElem_mem (show i < S.length by omega))
          have hkf : Aside0 (keepF S L (i + 1) = fun t => if t = S[i]'(by omega) then some [L[i]'(by omega), []] else keepF S L i t) := ⟨by
            show (fun t => if t = S.getD i ⟨#[]⟩ then some [L.getD i [], []] else keepF S L i t) = _
            rw [List.getD_eq_getElem?_getD, List.getD_eq_getElem?_getD, List.getElem?_eq_getElem (show i < S.length by omega), List.getElem?_eq_getElem (show i < L.length by omega)]
            rfl⟩
          have hil : (i : Int) < (L.length : Int) := by omega
          have his : (i : Int) < (S.length : Int) := by omega
          clear hC0
          have hx1c : Aside0 (∀ w, Below W.heap.size W w → w.cell? (ad1.add i) = some (.string (S[i]'(by omega)))) := ⟨fun w hb => by
            obtain ⟨ad, e, hx⟩ := atS (Kd.C_below HR1.out hb) i (by omega)
            injection e with e
            subst e
            exact hx⟩
          generalize (S[i]'(by omega)) = s at *
          generalize (L[i]'(by omega)) = r at *
          have HKB := Aside0.mk HK.out.bound
          have HLT := Aside0.mk HK.out.lt
          have HBW0 := Aside0.mk HB.out.size
          go_upto_block 2 with (first | ((with_reducible refine gate_builtin (b := .append) (xs := #[.const (.slice none 0 0), .tmp 49]) rfl ?_); at_builtin; go_loud (refine Kd.R_append_rows kI (w0 := W) (Rr := kI.K w0) W.heap.size rfl (.const (.slice none 0 0)) (.tmp 49) 53 3 (.int .i64 0) 8 rfl Try.underlying53 infoI rfl (by decide) (by decide) _ ([] : List Int) r A0 r.length c0 (fun k_ => w0.heap.size ≤ k_) (fun _ => False) (by first | (go_simp; done) | (go_simp; rfl)) (by first | (go_simp; done) | (go_simp; rfl)) (Kd.R_nil _ _ _ _ _) HC0.out (fun x cs hx => hx) (fun _ hk => hk.elim) (fun _ hk => hk) HB.out HB.out.size (by simp only [List.length_nil]; omega) ?_); intro v3 w3 hm hb hg3 hat; have hm2 : Kd.R kI 3 w3 W.heap.size (fun k_ => w0.heap.size ≤ k_) v3 r := hm; obtain ⟨A3, c3, e3, hcc3, hC3⟩ := Kd.R_reads hm2; subst e3; have HR3 := Aside0.mk hm2; have HC3 := Aside0.mk hC3; have HB3 := Aside0.mk hb; have HB03 : Aside0 (Below w0.heap.size w0 w3) := ⟨⟨hg3.os, hg3.tape, hg3.output, hg3.size, fun j hj => hg3.block j hj (by simp [Value.ownBlock])⟩⟩; have hx1' := cells_later HB03.out hx1; clear hm hm2 hb hg3 hat hx1 hC3) | ((with_reducible refine gate_dst (N := 51) rfl ?_); refine slice_event ?hg (N := 51) ?hd (cs := #[.slice A3 r.length c3, .slice none 0 0]) (t := 53) (n := 2) ?hr ?_; (case hd => rfl); (case hg => rfl); (case hr => first | (go_simp; done) | (go_simp; rfl)); intro go hgo w4 hbl hb; have HBL := Aside0.mk hbl; have HGO := Aside0.mk hgo; have HB34 := Aside0.mk hb; have HB4 := Aside0.mk (below_step HB3.out hb); have HCW := Aside0.mk (two_rows HC3.out hcc3 hbl hb); have HB04 : Aside0 (Below w0.heap.size w0 w4) := ⟨below_step HB03.out hb⟩; have hx1'' := cells_later hb hx1'; clear hbl hgo hb hx1') | (go_at_call 20; go_loud (refine (store_Keep w4 g W.heap.size i (.slice none 0 0) (fun k => P k ∧ k < w0.heap.size) (keepF S L i) s (some ⟨go, 0, none⟩) 2 [r, []] (HKB.out.below HB04.out) hssz (by unfold maxLen; omega) HB4.out.size HCW.out (by simp) (by simp) (fun r' hr' => by rcases List.mem_cons.1 hr' with h | h; rw [h]; omega; rw [List.mem_singleton.1 h]; decide)).mono ?_); rintro e w5 ⟨rfl, hK5, hf5⟩; rw [← hkf.out] at hK5; have HK5 := Aside0.mk hK5; have HF5 := Aside0.mk hf5; clear hK5 hf5))
          have hgo1 : g ≠ go := by have h1 := HLT.out; have h2 := HGO.out; have h3 := HB03.out.size; omega
          have HB5 : Aside0 (Below W.heap.size W w5) := ⟨below_on3 HB4.out HF5.out.bel⟩
          have HBL5 := Aside0.mk ((HF5.out.far go (Ne.symm hgo1) ⟨_, _, HBL.out⟩).trans HBL.out)
          have HAL : Aside0 (0 < r.length → ∃ p, A3 = some ⟨p, 0, none⟩ ∧ Alive w5 p 3 r.length ∧ w0.heap.size ≤ p ∧ p < w4.heap.size) := ⟨fun hp => by
            obtain ⟨p, cap, e, ha, hok, _⟩ := R_alive (Kd.R_bound HR3.out) hp 0
            injection e with e _ _
            have ha4 := ha.below HB34.out
            obtain ⟨cells, q1, q2⟩ := ha4
            have hne : p ≠ g := by have h1 := HLT.out; have h2 := hok.1; omega
            exact ⟨p, e, ⟨cells, (HF5.out.far p hne ⟨_, _, q1⟩).trans q1, by have h3 : kI.sz = 1 := rfl; rw [h3, Nat.mul_one] at q2; exact q2⟩, hok.1, Nat.lt_of_lt_of_le hok.2.2.1 HB34.out.size⟩⟩
          clear HBL HR3 HC3 HCW HK HKB HB03 HB34 HB04 HC0 HF5 hx1'' HB3
          go_cut [] (fun wx => Aside0 (Kst wx g W.heap.size (i + 1) (.slice none 0 0) (fun k => (P k ∧ k < w0.heap.size) ∨ w4.heap.size ≤ k) (keepF S L (i + 1))) ∧ Aside0 (Below W.heap.size W wx) ∧ Aside0 (w5.heap.size ≤ wx.heap.size))
          case first =>
            as_aux_lemma =>
              have hrl : r.length ≤ 9223372036854775807 := by omega
              have HGLT := Aside0.mk HLT.out
              go_wp2
              go_loopw [13] (fun s13 wr => ∃ k : Nat, k ≤ r.length ∧ s13 = .int .i64 k ∧ Aside0 (Kst wr g W.heap.size (i + 1) (.slice none 0 0) (fun k => (P k ∧ k < w0.heap.size) ∨ w4.heap.size ≤ k) (keepF S L (i + 1))) ∧ Aside0 (Below W.heap.size W wr) ∧ Aside0 (wr.heap[go]? = some (.cells #[.slice A3 r.length c3, .slice none 0 0] 53 (0, 0))) ∧ Aside0 (0 < r.length → ∃ p, A3 = some ⟨p, 0, none⟩ ∧ Alive wr p 3 r.length ∧ w0.heap.size ≤ p ∧ p < w4.heap.size) ∧ Aside0 (w5.heap.size ≤ wr.heap.size)) (fun s13 _ => r.length - (intOf s13).toNat)
              case atStart => exact ⟨0, Nat.zero_le _, rfl, HK5, HB5, HBL5, HAL, ⟨Nat.le_refl _⟩⟩
              case round =>
                clear HK5 HB5 HBL5 HAL
                obtain ⟨k, hk, rfl, HK6, HB6, HBL6, HAL6, HSZ6⟩ := hrel
                have hb0 := (blk_cell HBL6.out 0).trans rfl
                by_cases hkt : k < r.length
                · obtain ⟨p, ep, ha, hp1, hp2⟩ := HAL6.out (by omega)
                  subst ep
                  obtain ⟨y0, hy0, hf0⟩ := ha.cell k hkt
                  have hpg : p ≠ g := by have := HGLT.out; omega
                  have hpgo : go ≠ p := Alive.ne (ty := 53) (ty' := 3) (n := 0) (n' := r.length) ⟨_, HBL6.out, Nat.zero_le _⟩ ha (by decide)
                  have HK7 := Aside0.mk (HK6.out.set (o := k) (p := p) (fun h => by rcases h with h | h <;> omega) hpg ha (.int .i64 (-9)))
                  have HB7 := Aside0.mk (below_set (j := k) (v := .int .i64 (-9)) HB6.out (g := p) (by have := HBW0.out; omega))
                  have HBL7 := Aside0.mk ((Below.heap_setCell wr ⟨p, k, none⟩ (.int .i64 (-9)) go hpgo).trans HBL6.out)
                  have ha7 := ha.set p k (.int .i64 (-9))
                  go_wp2_with fail
                  go_roundw
                  case rel => exact ⟨k + 1, by omega, by go_num, HK7, HB7, HBL7, ⟨fun _ => ⟨p, rfl, ha7, hp1, hp2⟩⟩, ⟨by have := HSZ6.out; simpa using this⟩⟩
                  case measure => simp [intOf]; omega
                · go_wp2_with fail
                  go_meet
                  exact ⟨HK6, HB6, HSZ6⟩
          case rest =>
          obtain ⟨w6, rfl⟩ : ∃ x, x = wc := ⟨_, rfl⟩
          obtain ⟨HK6, HB6, HSZ6⟩ := hcut
          have HFS : Aside0 (keepF S L (i + 1) s = some [r, []]) := ⟨by rw [hkf.out]; simp⟩
          have HK7 := Aside0.mk HK6.out.bound
          have HG7 := Aside0.mk HK6.out.lt
          have hx8 := (hx1c.out w6 HB6.out)
          clear HK5 HB5 HBL5 HAL HK6
          by_cases hev : i % 2 = 0
          · have hev2 : ((i : Int) % 2 == 0) = true := by rw [beq_iff_eq]; omega
            have HKT := Aside0.mk (store_Kept w6 g W.heap.size (i + 1) (.slice none 0 0) _ (keepF S L (i + 1)) s HK7.out hssz (fun L' hL' => by rw [HFS.out] at hL'; injection hL' with hL'; subst hL'; exact ⟨by simp, fun r' hr' => by rcases List.mem_cons.1 hr' with h | h; rw [h]; omega; rw [List.mem_singleton.1 h]; decide⟩))
            rw [HFS.out] at HKT
            go_upto_block 4 with (first | (go_at_call 21; refine HKT.out.mono ?_; rintro e w7 ⟨v7, rfl, hR7, hb7⟩; have HR7 : Aside0 (Kd.R (Kd.slice 3 kI) 53 w7 w6.heap.size (fun _ => True) v7 [r, []]) := ⟨hR7⟩; have HB67 := Aside0.mk hb7; clear hR7 hb7 HKT))
            obtain ⟨gg, cg, A7, c7, e7, hgot⟩ := got_of HK7.out HB6.out HB67.out HR7.out
            subst e7
            have HGT := Aside0.mk hgot
            have HW6 := Aside0.mk HB6.out.size
            have hrl : r.length ≤ 9223372036854775807 := by omega
            clear hgot HR7 HB67 HFS
            go_wp2
            go_loopw [16] (fun s16 wr => ∃ q : Nat, q ≤ 1 ∧ s16 = .int .i64 q ∧ Aside0 (GotS W wr g (i + 1) w6.heap.size gg c7 r.length A7 (fun k => ((P k ∧ k < w0.heap.size) ∨ w4.heap.size ≤ k) ∧ k < w6.heap.size) (keepF S L (i + 1)))) (fun s16 _ => 1 - (intOf s16).toNat)
            case atStart => exact ⟨0, by decide, rfl, HGT⟩
            case round =>
              obtain ⟨q, hq, rfl, HG8⟩ := hrel
              by_cases hq0 : q = 0
              · subst hq0
                go_wp2_with fail
                go_loopw [17] (fun s17 wr => ∃ j : Nat, j ≤ r.length ∧ s17 = .int .i64 j ∧ Aside0 (GotS W wr g (i + 1) w6.heap.size gg c7 r.length A7 (fun k => ((P k ∧ k < w0.heap.size) ∨ w4.heap.size ≤ k) ∧ k < w6.heap.size) (keepF S L (i + 1)))) (fun s17 _ => r.length - (intOf s17).toNat)
                case atStart => exact ⟨0, Nat.zero_le _, rfl, HG8⟩
                case round =>
                  obtain ⟨j, hj, rfl, HG9⟩ := hrel
                  have hgc := HG9.out.c
                  by_cases hjt : j < r.length
                  · obtain ⟨p, ep, ha, hp1⟩ := HG9.out.p (by omega)
                    subst ep
                    obtain ⟨y0, hy0, hf0⟩ := ha.cell j hjt
                    have HGA := Aside0.mk (HG9.out.set rfl ha hp1 (fun h => by have := h.2; omega) (by have := HG7.out; omega) (by have := HW6.out; omega) j (-8))
                    go_wp2_with fail
                    go_roundw
                    case rel => exact ⟨j + 1, by omega, by go_num, HGA⟩
                    case measure => simp [intOf]; omega
                  · go_wp2_with fail
                    go_roundw
                    case rel => exact ⟨1, by decide, rfl, HG9⟩
                    case measure => simp [intOf]
              · have e : q = 1 := by omega
                subst e
                go_wp2_with fail
                go_roundw
                case rel => exact ⟨i + 1, _, by omega, by go_num, ⟨HG8.out.k⟩, ⟨HG8.out.b⟩⟩
                case measure => simp [intOf]; omega
          · have hev2 : ((i : Int) % 2 == 0) = false := by rw [beq_eq_false_iff_ne]; omega
            go_wp2_with fail
            go_roundw
            case rel => exact ⟨i + 1, _, by omega, by go_num, HK7, HB6⟩
            case measure => simp [intOf]; omega
        · have hi1 : ¬ ((i : Int) < (mn : Int)) := by omega
          have e : i = mn := by omega
          subst e
          go_wp2_with fail
          go_meet
          exact ⟨⟨P, HK.out⟩, HB⟩
  case rest =>
  obtain ⟨wK, rfl⟩ : ∃ x, x = wc := ⟨_, rfl⟩
  obtain ⟨hK, HB3⟩ := hcut
  obtain ⟨P, hK⟩ := hK.out
  have HK := Aside0.mk hK
  clear hK HK2 HB2 em
  go_upto_block 8 with fail
  go_cut [18] (fun s18 wx => s18 = .bool (decide (other ∈ S.take mn)) ∧ Aside0 (Below wK.heap.size wK wx))
  case first =>
    as_aux_lemma =>
      have HKT : Aside0 (∀ (t : ByteArray) (w : World), t.size ≤ maxLen → Below wK.heap.size wK w → Calls Try.prog 21 #[.pointer (some ⟨g, 0, none⟩), .string t] w fun e w' => ∃ v : Value, e = .returned (.tuple #[v, .bool (keepF S L mn t).isSome]) ∧ Kd.R (Kd.slice 3 kI) 53 w' w.heap.size (fun _ => True) v ((keepF S L mn t).getD []) ∧ Below w.heap.size w w') := ⟨fun t w ht hb => store_Kept w g W.heap.size mn (.slice none 0 0) P (keepF S L mn) t (HK.out.below hb) ht (fun l hl => by
        obtain ⟨k, hk, rfl⟩ := keepF_form t mn l hl
        refine ⟨by simp, fun r hr => ?_⟩
        rcases List.mem_cons.1 hr with h | h
        · rw [h, List.getD_eq_getElem?_getD, List.getElem?_eq_getElem (show k < L.length by omega)]
          have := HL.out _ (List.getElem_mem (show k < L.length by omega))
          show (L[k]'(by omega)).length < _
          omega
        · rw [List.mem_singleton.1 h]
          decide)⟩
      go_wp2
      go_loopw [18, 19] (fun s18 s19 wr => ∃ i : Nat, i ≤ mn ∧ s19 = .int .i64 i ∧ s18 = .bool (decide (other ∈ S.take i)) ∧ Aside0 (Below wK.heap.size wK wr)) (fun _ s19 _ => mn - (intOf s19).toNat)
      case atStart => exact ⟨0, Nat.zero_le _, rfl, rfl, ⟨Below.refl _ _⟩⟩
      case round =>
        obtain ⟨i, hi, rfl, rfl, HB4⟩ := hrel
        obtain ⟨w0, rfl⟩ : ∃ x, x = wr := ⟨_, rfl⟩
        by_cases hlt : i < mn
        · have hi1 : (i : Int) < (mn : Int) := by omega
          have his : (i : Int) < (S.length : Int) := by omega
          have hil : (i : Int) < (L.length : Int) := by omega
          have HBW : Aside0 (∀ w, Below wK.heap.size wK w → Below W.heap.size W w) := ⟨fun w hb => below_step HB3.out hb⟩
          go_upto_block 10 with fail
          go_cut [20] (fun s20 wx => ∃ la : Nat, s20 = .int .i64 la ∧ la < mn ∧ Aside0 (keepF S L mn (S[i]'(by omega)) = some [L.getD la [], []]) ∧ Aside0 (Below wK.heap.size wK wx))
          case first =>
            as_aux_lemma =>
              go_wp2
              go_loopw [20, 21] (fun s20 s21 wr => ∃ la k : Nat, k ≤ mn ∧ s21 = .int .i64 k ∧ s20 = .int .i64 la ∧ la < mn ∧ Aside0 (la < k ∨ (k = i ∧ la = i)) ∧ Aside0 (S.getD la ⟨#[]⟩ = S[i]'(by omega) ∧ ∀ j, la < j → j < k → S.getD j ⟨#[]⟩ ≠ S[i]'(by omega)) ∧ Aside0 (Below wK.heap.size wK wr)) (fun _ s21 _ => mn - (intOf s21).toNat)
              case atStart => exact ⟨i, i, by omega, rfl, rfl, hlt, ⟨.inr ⟨rfl, rfl⟩⟩, ⟨by rw [List.getD_eq_getElem?_getD, List.getElem?_eq_getElem (show i < S.length by omega)]; rfl, fun j h1 h2 => by omega⟩, HB4⟩
              case round =>
                obtain ⟨la, k, hk, rfl, rfl, hla, HLK, HLA, HB5⟩ := hrel
                have hkS : mn ≤ S.length := hm1
                by_cases hkt : k < mn
                · have hk1 : (k : Int) < (mn : Int) := by omega
                  have hk2 : (k : Int) < (S.length : Int) := by omega
                  obtain ⟨ad, e, hx⟩ := atS (Kd.C_below HR1.out (HBW.out _ HB5.out)) k (by omega)
                  cases e
                  obtain ⟨ad', e, hy⟩ := atS (Kd.C_below HR1.out (HBW.out _ HB5.out)) i (by omega)
                  cases e
                  have hSk : Aside0 (S.getD k ⟨#[]⟩ = S[k]'(by omega)) := ⟨by rw [List.getD_eq_getElem?_getD, List.getElem?_eq_getElem (show k < S.length by omega)]; rfl⟩
                  generalize (S[i]'(by omega)) = si at *
                  generalize (S[k]'(by omega)) = sk at *
                  by_cases he : sk = si
                  · have hq : (sk.toList == si.toList) = true := by rw [str_eq_dec]; exact decide_eq_true he
                    go_wp2
                    go_quiet (fail)
                    go_wp2_with fail
                    go_roundw
                    case rel => exact ⟨k, k + 1, by omega, by go_num, rfl, hkt, ⟨.inl (by omega)⟩, ⟨by rw [hSk.out, he], fun j h1 h2 => by omega⟩, ⟨pw_below_drewN HB5.out _⟩⟩
                    case measure => simp [intOf]; omega
                  · have hq : (sk.toList == si.toList) = false := by rw [str_eq_dec]; exact decide_eq_false he
                    go_wp2
                    go_quiet (fail)
                    go_wp2_with fail
                    go_roundw
                    case rel => exact ⟨la, k + 1, by omega, by go_num, rfl, hla, ⟨.inl (by have := HLK.out; omega)⟩, ⟨HLA.out.1, fun j h1 h2 => by
                      by_cases e : j = k
                      · subst e
                        rw [hSk.out]
                        exact he
                      · exact HLA.out.2 j h1 (by omega)⟩, ⟨pw_below_drewN HB5.out _⟩⟩
                    case measure => simp [intOf]; omega
                · have e : k = mn := by omega
                  have hk1 : ¬ ((k : Int) < (mn : Int)) := by omega
                  go_wp2_with fail
                  go_meet
                  exact ⟨la, rfl, hla, ⟨keepF_last HLA.out.1 mn hla (fun j h1 h2 => HLA.out.2 j h1 (by omega))⟩, HB5⟩
          case rest =>
          obtain ⟨w6, rfl⟩ : ∃ x, x = wc := ⟨_, rfl⟩
          obtain ⟨la, rfl, hla, HKF, HB6⟩ := hcut
          have hla1 : (la : Int) < (L.length : Int) := by omega
          have hgd : L.getD la [] = L[la]'(by omega) := by rw [List.getD_eq_getElem?_getD, List.getElem?_eq_getElem (show la < L.length by omega)]; rfl
          rw [hgd] at HKF
          obtain ⟨ad1, e, hx1⟩ := atS (Kd.C_below HR1.out (HBW.out _ HB6.out)) i (by omega)
          cases e
          have HT := Aside0.mk (List.take_succ_eq_append_getElem (l := S) (i := i) (by omega))
          have hssz := HS.out _ (List.getElem_mem (show i < S.length by omega))
          have HLC := Aside0.mk (fun w hb => atLI (Kd.C_below HR2.out (HBW.out w hb)) la (by omega))
          have hrl : (L[la]'(by omega)).length ≤ 9223372036854775807 := by have := HL.out _ (List.getElem_mem (show la < L.length by omega)); omega
          have HKT1 := Aside0.mk (fun w hb => HKT.out (S[i]'(by omega)) w hssz hb)
          rw [HKF.out] at HKT1
          generalize (L[la]'(by omega)) = r at *
          generalize (S[i]'(by omega)) = si at *
          generalize S.take i = xs at *
          cases hq : decide (other ∈ xs)
          · go_upto_region 36 with (first | (go_at_call 21; refine (HKT1.out _ HB6.out).mono ?_; rintro e w7 ⟨v7, rfl, hR7, hb7⟩; have HR7 : Aside0 (Kd.R (Kd.slice 3 kI) 53 w7 w6.heap.size (fun _ => True) v7 [r, []]) := ⟨hR7⟩; have HB7 := Aside0.mk (below_step HB6.out hb7); clear hR7 hb7 HKT1))
            obtain ⟨gg, cg, A7, c7, A8, c8, e7, hz0, hz1, hC7⟩ := got_two HR7.out
            subst e7
            obtain ⟨ad2, A0, c0, e, hx2, _, hC0⟩ := HLC.out w7 HB7.out
            cases e
            have HC7 := Aside0.mk hC7
            have HC0 := Aside0.mk hC0
            have HZ0 := Aside0.mk hz0
            have HX2 := Aside0.mk hx2
            have hnn : ((r.length : Int) != (r.length : Int)) = false := by simp
            clear hC7 hC0 HR7 HLC hx1
            go_quiet (fail)
            go_wp2_with fail
            go_loopw [24] (fun s24 wr => ∃ k : Nat, k ≤ r.length ∧ s24 = .int .i64 k ∧ Aside0 (Below w7.heap.size w7 wr)) (fun s24 _ => r.length - (intOf s24).toNat)
            case atStart => exact ⟨0, Nat.zero_le _, rfl, ⟨pw_below_drewN (Below.refl _ _) _⟩⟩
            case round =>
              obtain ⟨k, hk, rfl, HB8⟩ := hrel
              have hz0' := cells_later HB8.out HZ0.out
              have hx2' := cells_later HB8.out HX2.out
              clear hz0 hz1 hx2
              by_cases hkt : k < r.length
              · obtain ⟨ad3, e, p0⟩ := atI (Kd.C_below HC7.out HB8.out) k hkt
                cases e
                obtain ⟨ad4, e, p1⟩ := atI (Kd.C_below HC0.out HB8.out) k hkt
                cases e
                generalize r[k] = x at *
                have hxx : (x != x) = false := by simp
                go_wp2_with fail
                go_quiet (fail)
                go_wp2_with fail
                go_roundw
                case rel => exact ⟨k + 1, by omega, by go_num, ⟨pw_below_drewN HB8.out _⟩⟩
                case measure => simp [intOf]; omega
              · go_wp2_with fail
                go_roundw
                case rel => exact ⟨i + 1, by omega, by go_num, by rw [HT.out, mem_snoc_f hq], ⟨below_step HB7.out HB8.out⟩⟩
                case measure => simp [intOf]; omega
          · go_upto_region 36 with (first | (go_at_call 21; refine (HKT1.out _ HB6.out).mono ?_; rintro e w7 ⟨v7, rfl, hR7, hb7⟩; have HR7 : Aside0 (Kd.R (Kd.slice 3 kI) 53 w7 w6.heap.size (fun _ => True) v7 [r, []]) := ⟨hR7⟩; have HB7 := Aside0.mk (below_step HB6.out hb7); clear hR7 hb7 HKT1))
            obtain ⟨gg, cg, A7, c7, A8, c8, e7, hz0, hz1, hC7⟩ := got_two HR7.out
            subst e7
            obtain ⟨ad2, A0, c0, e, hx2, _, hC0⟩ := HLC.out w7 HB7.out
            cases e
            have HC7 := Aside0.mk hC7
            have HC0 := Aside0.mk hC0
            have HZ0 := Aside0.mk hz0
            have HX2 := Aside0.mk hx2
            have hnn : ((r.length : Int) != (r.length : Int)) = false := by simp
            clear hC7 hC0 HR7 HLC hx1
            go_quiet (fail)
            go_wp2_with fail
            go_loopw [24] (fun s24 wr => ∃ k : Nat, k ≤ r.length ∧ s24 = .int .i64 k ∧ Aside0 (Below w7.heap.size w7 wr)) (fun s24 _ => r.length - (intOf s24).toNat)
            case atStart => exact ⟨0, Nat.zero_le _, rfl, ⟨pw_below_drewN (Below.refl _ _) _⟩⟩
            case round =>
              obtain ⟨k, hk, rfl, HB8⟩ := hrel
              have hz0' := cells_later HB8.out HZ0.out
              have hx2' := cells_later HB8.out HX2.out
              clear hz0 hz1 hx2
              by_cases hkt : k < r.length
              · obtain ⟨ad3, e, p0⟩ := atI (Kd.C_below HC7.out HB8.out) k hkt
                cases e
                obtain ⟨ad4, e, p1⟩ := atI (Kd.C_below HC0.out HB8.out) k hkt
                cases e
                generalize r[k] = x at *
                have hxx : (x != x) = false := by simp
                go_wp2_with fail
                go_quiet (fail)
                go_wp2_with fail
                go_roundw
                case rel => exact ⟨k + 1, by omega, by go_num, ⟨pw_below_drewN HB8.out _⟩⟩
                case measure => simp [intOf]; omega
              · go_wp2_with fail
                go_roundw
                case rel => exact ⟨i + 1, by omega, by go_num, by rw [HT.out, mem_snoc_t hq], ⟨below_step HB7.out HB8.out⟩⟩
                case measure => simp [intOf]; omega
        · have hi1 : ¬ ((i : Int) < (mn : Int)) := by omega
          have e : i = mn := by omega
          subst e
          go_wp2_with fail
          go_meet
          exact ⟨rfl, HB4⟩
  case rest =>
  obtain ⟨w6, rfl⟩ : ∃ x, x = wc := ⟨_, rfl⟩
  obtain ⟨rfl, HB6⟩ := hcut
  have HK6 := Aside0.mk (HK.out.below HB6.out)
  have HBW6 : Aside0 (Below W.heap.size W w6) := ⟨below_step HB3.out HB6.out⟩
  have HKS := Aside0.mk (keepF_some (L := L) other mn hm1)
  have HSG := Aside0.mk (store_Signs w6 g W.heap.size mn (.slice none 0 0) P (keepF S L mn) HK6.out (by omega))
  have HNE : Aside0 (0 < mn → (keepF S L mn (S.getD (mn - 1) ⟨#[]⟩)).isSome = true) := ⟨fun hp => by
    rw [keepF_last (la := mn - 1) rfl mn (by omega) (fun j h1 h2 => by omega)]
    rfl⟩
  have HKT : Aside0 (∀ (w : World), Below w6.heap.size w6 w → Calls Try.prog 21 #[.pointer (some ⟨g, 0, none⟩), .string other] w fun e w' => ∃ v : Value, e = .returned (.tuple #[v, .bool (keepF S L mn other).isSome]) ∧ Kd.R (Kd.slice 3 kI) 53 w' w.heap.size (fun _ => True) v ((keepF S L mn other).getD []) ∧ Below w.heap.size w w') := ⟨fun w hb => store_Kept w g W.heap.size mn (.slice none 0 0) P (keepF S L mn) other (HK6.out.below hb) HO.out (fun l hl => by
    obtain ⟨k, hk, rfl⟩ := keepF_form other mn l hl
    refine ⟨by simp, fun r hr => ?_⟩
    rcases List.mem_cons.1 hr with h | h
    · rw [h, List.getD_eq_getElem?_getD, List.getElem?_eq_getElem (show k < L.length by omega)]
      have := HL.out _ (List.getElem_mem (show k < L.length by omega))
      show (L[k]'(by omega)).length < _
      omega
    · rw [List.mem_singleton.1 h]
      decide)⟩
  rw [HKS.out] at HKT
  clear HK HB3 HKS
  go_upto_block 14 with (first | (go_at_call 22; refine HSG.out.mono ?_; rintro e w7 ⟨A7, c7, ks, rfl, hkl, hkc, hkk, hb7⟩; have HKL := Aside0.mk hkl; have HKC := Aside0.mk hkc; have HKK := Aside0.mk hkk; have HB7 := Aside0.mk hb7; clear hkl hkc hkk hb7 HSG))
  go_cut [] (fun wx => Aside0 (Below w7.heap.size w7 wx))
  case first =>
    as_aux_lemma =>
      have hkn : ks.length ≤ 9223372036854775807 := HKC.out.2.1
      go_wp2
      go_loopw [26] (fun s26 wr => ∃ k : Nat, 1 ≤ k ∧ k ≤ ks.length + 1 ∧ s26 = .int .i64 k ∧ Aside0 (Below w7.heap.size w7 wr)) (fun s26 _ => ks.length + 1 - (intOf s26).toNat)
      case atStart => exact ⟨1, by decide, by omega, rfl, ⟨Below.refl _ _⟩⟩
      case round =>
        obtain ⟨k, hk1, hk2, rfl, HB8⟩ := hrel
        by_cases hkt : k < ks.length
        · have hkl2 : (k : Int) < (ks.length : Int) := by omega
          obtain ⟨p, hp⟩ : ∃ p, p + 1 = k := ⟨k - 1, by omega⟩
          have hpk : p < ks.length := by omega
          have hpl : (p : Int) < (ks.length : Int) := by omega
          obtain ⟨ad, e, hx⟩ := atS (Kd.C_below HKC.out HB8.out) k hkt
          cases e
          obtain ⟨ad', e, hy⟩ := atS (Kd.C_below HKC.out HB8.out) p hpk
          cases e
          have hlt2 : ltB (ks[p]'hpk) (ks[k]'hkt) := (List.pairwise_iff_getElem.1 HKK.out.1) p k hpk hkt (by omega)
          have hw1 : wrap64 ((k : Int) - 1) = (p : Int) := by unfold Go.RowKit.wrap64; omega
          generalize (ks[p]'hpk) = x at *
          generalize (ks[k]'hkt) = y at *
          have hlt3 : x.toList < y.toList := by
            unfold ltB at hlt2
            rw [Lib.toList_data, Lib.toList_data]
            exact hlt2
          have hb1 : Op.bytesLess y.toList x.toList = false := by
            rw [Go.Proofs.bytesLess_eq]
            exact decide_eq_false (fun h => List.lt_irrefl _ (List.lt_trans h hlt3))
          have hb2 : (y.toList == x.toList) = false := by
            rw [beq_eq_false_iff_ne]
            intro h
            rw [h] at hlt3
            exact List.lt_irrefl _ hlt3
          clear hp hlt2
          have hx9 : wr.drew.cell? (ad.add k) = some (.string y) := hx
          have hy9 : wr.drew.cell? (ad.add p) = some (.string x) := hy
          go_wp2
          refine start_ (n := 10) (S := fun w' => w'.cell? (ad.add k) = some (.string y) ∧ w'.cell? (ad.add p) = some (.string x)) (ds := []) #[false, false, false, false, false, false, false, false, false, false] (by kernel_rfl) rfl rfl ⟨hx9, hy9⟩ (fun hHeld => ?_)
          refine pure_ (i := 0) (N := some 205) (v := ?_) (a' := ?_) #[true, false, false, false, false, false, false, false, false, false] rfl rfl (by kernel_rfl) (fun _ _ _ h => h) (Or.inl ⟨by rfl, ?_⟩) ?_ ?_
          rotate_left
          · intro w'
            go_simp
            with_reducible rfl
          rotate_left
          · simp only [Act.put, List.setIfInBounds_toArray, List.set_cons_zero, List.set_cons_succ, i64_w, i32_w]
            rfl
          refine pure_ (i := 1) (N := some 206) (v := ?_) (a' := ?_) #[true, true, false, false, false, false, false, false, false, false] rfl rfl (by kernel_rfl) (fun _ _ _ h => h) (Or.inl ⟨by rfl, ?_⟩) ?_ ?_
          rotate_left
          · intro w'
            go_simp
            with_reducible rfl
          rotate_left
          · simp only [Act.put, List.setIfInBounds_toArray, List.set_cons_zero, List.set_cons_succ, i64_w, i32_w]
            rfl
          refine pure_ (i := 2) (N := some 207) (v := ?_) (a' := ?_) #[true, true, true, false, false, false, false, false, false, false] rfl rfl (by kernel_rfl) (fun _ _ _ h => h) (Or.inl ⟨by rfl, ?_⟩) ?_ ?_
          rotate_left
          · intro w'
            go_simp
            with_reducible rfl
          rotate_left
          · simp only [Act.put, List.setIfInBounds_toArray, List.set_cons_zero, List.set_cons_succ, i64_w, i32_w]
            rfl
          refine pure_ (i := 4) (N := some 209) (v := ?_) (a' := ?_) #[true, true, true, false, true, false, false, false, false, false] rfl rfl (by kernel_rfl) (fun _ _ _ h => h) (Or.inl ⟨by rfl, ?_⟩) ?_ ?_
          rotate_left
          · intro w'
            go_simp
            with_reducible rfl
          rotate_left
          · simp only [Act.put, List.setIfInBounds_toArray, List.set_cons_zero, List.set_cons_succ, i64_w, i32_w]
            rfl
          refine pure_ (i := 5) (N := some 210) (v := ?_) (a' := ?_) #[true, true, true, false, true, true, false, false, false, false] rfl rfl (by kernel_rfl) (fun _ _ _ h => h) (Or.inl ⟨by rfl, ?_⟩) ?_ ?_
          rotate_left
          · intro w'
            go_simp
            with_reducible rfl
          rotate_left
          · simp only [Act.put, List.setIfInBounds_toArray, List.set_cons_zero, List.set_cons_succ, i64_w, i32_w]
            rfl
          refine pure_ (i := 6) (N := some 211) (v := ?_) (a' := ?_) #[true, true, true, false, true, true, true, false, false, false] rfl rfl (by kernel_rfl) (fun _ _ _ h => h) (Or.inl ⟨by rfl, ?_⟩) ?_ ?_
          rotate_left
          · intro w'
            go_simp
            with_reducible rfl
          rotate_left
          · simp only [Act.put, List.setIfInBounds_toArray, List.set_cons_zero, List.set_cons_succ, i64_w, i32_w]
            rfl
          refine pure_ (i := 7) (N := some 212) (v := ?_) (a' := ?_) #[true, true, true, false, true, true, true, true, false, false] rfl rfl (by kernel_rfl) (fun _ _ _ h => h) (Or.inl ⟨by rfl, ?_⟩) ?_ ?_
          rotate_left
          · intro w'
            go_simp
            with_reducible rfl
          rotate_left
          · simp only [Act.put, List.setIfInBounds_toArray, List.set_cons_zero, List.set_cons_succ, i64_w, i32_w]
            rfl
          refine take_ (i := 3) (N := some 208) (v := ?_) (a' := ?_) #[true, true, true, true, true, true, true, true, false, false] rfl rfl (by kernel_rfl) (fun _ _ _ h => h) (Or.inl ⟨by rfl, ?_⟩) hHeld ?_ ?_
          rotate_left
          · rintro w' ⟨s0, s1⟩
            go_simp
            with_reducible rfl
          rotate_left
          · simp only [Act.put, List.setIfInBounds_toArray, List.set_cons_zero, List.set_cons_succ, i64_w, i32_w]
            rfl
          refine take_ (i := 8) (N := some 213) (v := ?_) (a' := ?_) #[true, true, true, true, true, true, true, true, true, false] rfl rfl (by kernel_rfl) (fun _ _ _ h => h) (Or.inl ⟨by rfl, ?_⟩) hHeld ?_ ?_
          rotate_left
          · rintro w' ⟨s0, s1⟩
            go_simp
            with_reducible rfl
          rotate_left
          · simp only [Act.put, List.setIfInBounds_toArray, List.set_cons_zero, List.set_cons_succ, i64_w, i32_w]
            rfl
          refine pure_ (i := 9) (N := some 214) (v := ?_) (a' := ?_) #[true, true, true, true, true, true, true, true, true, true] rfl rfl (by kernel_rfl) (fun _ _ _ h => h) (Or.inl ⟨by rfl, ?_⟩) ?_ ?_
          rotate_left
          · intro w'
            go_simp
            with_reducible rfl
          rotate_left
          · simp only [Act.put, List.setIfInBounds_toArray, List.set_cons_zero, List.set_cons_succ, i64_w, i32_w]
            rfl
          refine done_ (by kernel_rfl) ?_
          go_wp2_with fail
          go_roundw
          case rel => exact ⟨k + 1, by omega, by omega, by go_num, ⟨below_drew HB8.out⟩⟩
          case measure => simp [intOf]; omega
        · have hkl2 : ¬ ((k : Int) < (ks.length : Int)) := by omega
          go_wp2_with fail
          go_meet
          exact HB8
  case rest =>
  obtain ⟨w8, rfl⟩ : ∃ x, x = wc := ⟨_, rfl⟩
  have HB8 : Aside0 (Below w6.heap.size w6 w8) := ⟨below_step HB7.out hcut.out⟩
  have hkl : ((ks.length : Int) ≤ (mn : Int)) := by have := HKL.out; omega
  have hdd : (decide (other ∈ S.take mn) == decide (other ∈ S.take mn)) = true := beq_self_eq_true _
  generalize decide (other ∈ S.take mn) = dd at *
  by_cases hz : mn = 0
  · subst hz
    have hkl0 : ((ks.length : Int) ≤ 0) := by omega
    have hkl1 : ks.length = 0 := by omega
    go_wp2_with (first | (go_at_call 21; refine (HKT.out _ HB8.out).mono ?_; rintro e w9 ⟨v9, rfl, _, hb9⟩; have HB9 := Aside0.mk (below_step HB8.out hb9); clear hb9))
    go_ret
    exact ⟨by first | rfl | (simp; done) | (simp [*]; done), below_step HBW6.out HB9.out⟩
  · have hz2 : ((mn : Int) == 0) = false := by rw [beq_eq_false_iff_ne]; omega
    have hk0 : (0 : Int) < (ks.length : Int) := by
      have h1 := (HKK.out.2 _).2 (HNE.out (by omega))
      have := List.length_pos_of_mem h1
      omega
    have hk1 : 0 < ks.length := by omega
    go_wp2_with (first | (go_at_call 21; refine (HKT.out _ HB8.out).mono ?_; rintro e w9 ⟨v9, rfl, _, hb9⟩; have HB9 := Aside0.mk (below_step HB8.out hb9); clear hb9))
    go_ret
    exact ⟨by first | rfl | (simp; exact hk1) | (simp [*]; done), below_step HBW6.out HB9.out⟩
theorem keeps_row (W : World) (hw : ShB W) (A1 : Option Addr) (c1 : Nat) (S : List ByteArray) (A2 : Option Addr) (c2 : Nat) (L : List (List Int)) (other : ByteArray) (hr1 : Kd.C Kd.string W A1 S.length S) (hc1 : S.length ≤ c1) (hs : szL 16 (fun y : ByteArray => y.size ≤ 140737488351232) S) (hr2 : (Kd.slice 3 kI).C W A2 L.length L) (hc2 : L.length ≤ c2) (hl : szL 24 (szL 8 (fun n : Int => (Lit.int .i64 n).wf = true)) L) (ho : other.size ≤ 140737488351232) :
    Calls Try.prog 7 #[.slice A1 S.length c1, .slice A2 L.length c2, .string other] W fun e w' => e = .returned (.bool true) ∧ Below W.heap.size W w' :=
  keeps_walk W A1 A2 c1 c2 S L other hw hr1 hr2 (fun s h => Nat.le_trans (hs.1 s h) (by decide)) (fun r h => (hl.1 r h).2.1) (Nat.le_trans ho (by decide))

end Go.Proofs.Ytkogfjphpklioaa.QStoreNames
