import Derived.Test.YtacfemgmnfkjoaaBagX
/- Bag: walks of the bag's functions, by hand; the conditions stand in each theorem. -/
namespace Go.Proofs.Ytacfemgmnfkjoaa.QBag
open Go.RowKit Go.Proofs.YtacfemgmnfkjoaaW.PrintWords Go.Proofs.YtacfemgmnfkjoaaW.PrintLast Go.Proofs.YtacfemgmnfkjoaaW.PrintMore
attribute [local go_sem] max2_int min2_int max_two min_two max_three min_three max_four min_four
set_option linter.unusedVariables false
set_option linter.unusedSimpArgs false
/- The bag and the document's own, apart. -/
structure Play (W0 w : World) (gb gx n : Nat) (l L : List ByteArray) : Prop where
  ex : ∃ oB oX : Nat → Prop, Bg w oB gb n l ∧ RefB w oX gx L ∧ (∀ j, oB j → oX j → False) ∧ (∀ j, oB j → W0.heap.size ≤ j ∧ j < w.heap.size) ∧ (∀ j, oX j → W0.heap.size ≤ j ∧ j < w.heap.size)
  bel : Below W0.heap.size W0 w
theorem Play.on {W0 w wz : World} {gb gx n : Nat} {l L : List ByteArray} (h : Play W0 w gb gx n l L) (hb : Below w.heap.size w wz) : Play W0 wz gb gx n l L := by
  obtain ⟨⟨oB, oX, h1, h2, h3, h4, h5⟩, h6⟩ := h
  have hs := hb.size
  exact ⟨⟨oB, oX, h1.on hb, h2.on hb, h3, fun j hj => ⟨(h4 j hj).1, Nat.lt_of_lt_of_le (h4 j hj).2 hs⟩, fun j hj => ⟨(h5 j hj).1, Nat.lt_of_lt_of_le (h5 j hj).2 hs⟩⟩, below_on h6 hb⟩
theorem Play.moveB {W0 w w' : World} {gb gx n' : Nat} {l' L : List ByteArray} {oB oX : Nat → Prop} (h2 : RefB w oX gx L) (h3 : ∀ j, oB j → oX j → False) (h4 : ∀ j, oB j → W0.heap.size ≤ j ∧ j < w.heap.size) (h5 : ∀ j, oX j → W0.heap.size ≤ j ∧ j < w.heap.size) (h6 : Below W0.heap.size W0 w) (hf : Bg w' (fun j => oB j ∨ w.heap.size ≤ j) gb n' l') (hu : Upd oB w w') : Play W0 w' gb gx n' l' L := by
  have hs := hu.size
  have hs6 := h6.size
  refine ⟨⟨_, oX, hf.bound, h2.by hu (fun j hj _ h => h3 j h hj), fun j hj hx => ?_, fun j hj => ⟨?_, hj.2⟩, fun j hj => ⟨(h5 j hj).1, Nat.lt_of_lt_of_le (h5 j hj).2 hs⟩⟩, below_upd h6 hu (fun j hj => (h4 j hj).1)⟩
  · rcases hj.1 with h | h
    · exact h3 j h hx
    · have := (h5 j hx).2
      omega
  · rcases hj.1 with h | h
    · exact (h4 j h).1
    · omega
theorem Play.moveX {W0 w w' : World} {gb gx n : Nat} {l L' : List ByteArray} {oB oX : Nat → Prop} (h1 : Bg w oB gb n l) (h3 : ∀ j, oB j → oX j → False) (h4 : ∀ j, oB j → W0.heap.size ≤ j ∧ j < w.heap.size) (h5 : ∀ j, oX j → W0.heap.size ≤ j ∧ j < w.heap.size) (h6 : Below W0.heap.size W0 w) (hf : RefB w' (fun j => oX j ∨ w.heap.size ≤ j) gx L') (hu : Upd oX w w') : Play W0 w' gb gx n l L' := by
  have hs := hu.size
  have hs6 := h6.size
  refine ⟨⟨oB, _, h1.by hu (fun j hj _ hx => h3 j hj hx), hf.bound, fun j hj hx => ?_, fun j hj => ⟨(h4 j hj).1, Nat.lt_of_lt_of_le (h4 j hj).2 hs⟩, fun j hj => ⟨?_, hj.2⟩⟩, below_upd h6 hu (fun j hj => (h5 j hj).1)⟩
  · rcases hx.1 with h | h
    · exact h3 j hj h
    · have := (h4 j hj).2
      omega
  · rcases hj.1 with h | h
    · exact (h5 j h).1
    · omega
theorem Play.addB {W0 w : World} {gb gx n : Nat} {l L : List ByteArray} (h : Play W0 w gb gx n l L) (k : ByteArray) (hk : k.size ≤ maxLen) (hn : n < 4611686018427387904) :
    Calls Try.prog 17 #[.pointer (some ⟨gb, 0, none⟩), .string k] w fun e w' => e = .returned (.tuple #[]) ∧ Play W0 w' gb gx (n + 1) (l ++ [k]) L := by
  obtain ⟨⟨oB, oX, h1, h2, h3, h4, h5⟩, h6⟩ := h
  refine (bag_Add w oB gb n l k h1 hk hn).mono ?_
  rintro e w' ⟨rfl, hf, hu⟩
  exact ⟨rfl, Play.moveB h2 h3 h4 h5 h6 hf hu⟩
theorem Play.takeB {W0 w : World} {gb gx n : Nat} {l L : List ByteArray} (h : Play W0 w gb gx n l L) (k : ByteArray) (hk : k.size ≤ maxLen) (hn : n < 4611686018427387904) :
    Calls Try.prog 15 #[.pointer (some ⟨gb, 0, none⟩), .string k] w fun e w' => e = .returned (.bool (decide (0 < l.count k))) ∧ Play W0 w' gb gx (n + 1) (l.erase k) L := by
  obtain ⟨⟨oB, oX, h1, h2, h3, h4, h5⟩, h6⟩ := h
  refine (bag_Take w oB gb n l k h1 hk hn).mono ?_
  rintro e w' ⟨rfl, hf, hu⟩
  exact ⟨rfl, Play.moveB h2 h3 h4 h5 h6 hf hu⟩
theorem Play.addX {W0 w : World} {gb gx n : Nat} {l L : List ByteArray} (h : Play W0 w gb gx n l L) (k : ByteArray) (hk : k.size ≤ maxLen) (hl : (L.length + 1) * 16 ≤ 140737488355328) :
    Calls Try.prog 18 #[.pointer (some ⟨gx, 0, none⟩), .string k] w fun e w' => ∃ L', e = .returned (.tuple #[]) ∧ Play W0 w' gb gx n l L' ∧ L'.Perm (L ++ [k]) ∧ (SortedB L → SortedB L') := by
  obtain ⟨⟨oB, oX, h1, h2, h3, h4, h5⟩, h6⟩ := h
  refine (ref_AddB w oX gx L k h2 hk hl).mono ?_
  rintro e w' ⟨L', rfl, hf, hp, hs, hu⟩
  exact ⟨L', rfl, Play.moveX h1 h3 h4 h5 h6 hf hu, hp, hs⟩
theorem Play.takeX {W0 w : World} {gb gx n : Nat} {l L : List ByteArray} (h : Play W0 w gb gx n l L) (k : ByteArray) (hl : (L.length + 1) * 16 ≤ 140737488355328) :
    Calls Try.prog 16 #[.pointer (some ⟨gx, 0, none⟩), .string k] w fun e w' => e = .returned (.bool (decide (0 < L.count k))) ∧ Play W0 w' gb gx n l (L.erase k) := by
  obtain ⟨⟨oB, oX, h1, h2, h3, h4, h5⟩, h6⟩ := h
  refine (ref_TakeB w oX gx L k h2 hl).mono ?_
  rintro e w' ⟨rfl, hf, hu⟩
  exact ⟨rfl, Play.moveX h1 h3 h4 h5 h6 hf hu⟩
theorem Play.cntB {W0 w : World} {gb gx n : Nat} {l L : List ByteArray} (h : Play W0 w gb gx n l L) (k : ByteArray) (hk : k.size ≤ maxLen) :
    Calls Try.prog 12 #[.pointer (some ⟨gb, 0, none⟩), .string k] w fun e w' => e = .returned (.int .i64 (l.count k : Int)) ∧ w' = w := by
  obtain ⟨⟨oB, oX, h1, h2, h3, h4, h5⟩, h6⟩ := h
  exact bag_Count w oB gb n l k h1 hk
theorem Play.cntX {W0 w : World} {gb gx n : Nat} {l L : List ByteArray} (h : Play W0 w gb gx n l L) (k : ByteArray) :
    Calls Try.prog 19 #[.pointer (some ⟨gx, 0, none⟩), .string k] w fun e w' => e = .returned (.int .i64 (L.count k : Int)) ∧ w' = w := by
  obtain ⟨⟨oB, oX, h1, h2, h3, h4, h5⟩, h6⟩ := h
  exact ref_CountB w oX gx L k h2
theorem Play.same {W0 w : World} {gb gx n : Nat} {l L : List ByteArray} (h : Play W0 w gb gx n l L) (hp : L.Perm l) (hS : SortedB L) (hnb : n * 16 ≤ 140737488355328) (hl : (L.length + 1) * 16 ≤ 140737488355328) :
    Calls Try.prog 20 #[.pointer (some ⟨gb, 0, none⟩), .pointer (some ⟨gx, 0, none⟩)] w fun e w' => e = .returned (.bool true) ∧ Below W0.heap.size W0 w' := by
  obtain ⟨⟨oB, oX, h1, h2, h3, h4, h5⟩, h6⟩ := h
  refine (law_same w oB oX gb gx n l L h1 h2 hp hS hnb hl).mono ?_
  rintro e w' ⟨rfl, hb⟩
  exact ⟨rfl, below_on h6 hb⟩
theorem Play.start {W w1 w2 w3 : World} {gb gx n : Nat} {l L : List ByteArray} (hb1 : Below W.heap.size W w1) (hf : Bg w2 (fun j => w1.heap.size ≤ j ∧ j < w2.heap.size) gb n l) (hb2 : Below w1.heap.size w1 w2) (hx : RefB w3 (fun j => w2.heap.size ≤ j ∧ j < w3.heap.size) gx L) (hb3 : Below w2.heap.size w2 w3) : Play W w3 gb gx n l L := by
  have hs1 := hb1.size
  have hs2 := hb2.size
  have hs3 := hb3.size
  exact ⟨⟨_, _, hf.on hb3, hx, fun j hj hx => by have := hj.2; have := hx.1; omega, fun j hj => ⟨by have := hj.1; omega, Nat.lt_of_lt_of_le hj.2 hs3⟩, fun j hj => ⟨by have := hj.1; omega, hj.2⟩⟩, below_on (below_on hb1 hb2) hb3⟩
theorem at_bool {w : World} {A : Option Addr} {n : Nat} {xs : List Bool} (h : Kd.C Kd.bool w A n xs) (i : Nat) (hi : i < xs.length) : ∃ ad, A = some ad ∧ w.cell? (ad.add i) = some (.bool xs[i]) := by
  obtain ⟨ad, cs, e, hcl, hK, hx⟩ := Kd.C_get h false (i : Int) (by omega) (by have := h.1; omega)
  have hcs : cs = [.bool (xs.getD ((i : Int)).toNat false)] := hK
  have hx0 := hx 0 _ (by rw [hcs]; rfl)
  rw [Int.toNat_natCast, Nat.add_zero, show i * Kd.bool.sz = i from Nat.mul_one i] at hx0
  refine ⟨ad, e, hx0.trans ?_⟩
  simp [List.getD_eq_getElem?_getD, List.getElem?_eq_getElem hi]
set_option maxHeartbeats 16000000 in
set_option maxRecDepth 20000 in
theorem bag_PlaysLaw (W : World) (A0 : Option Addr) (c0 : Nat) (l : List ByteArray) (A1 : Option Addr) (c1 : Nat) (tk : List Bool) (A2 : Option Addr) (c2 : Nat) (fs : List ByteArray) (hr0 : Kd.C Kd.string W A0 l.length l) (hc0 : l.length ≤ c0) (hk0 : ∀ s ∈ l, s.size ≤ maxLen) (hr1 : Kd.C Kd.bool W A1 tk.length tk) (hc1 : tk.length ≤ c1) (hr2 : Kd.C Kd.string W A2 fs.length fs) (hc2 : fs.length ≤ c2) (hk2 : ∀ s ∈ fs, s.size ≤ maxLen) (hfs : fs.length ≤ 1048576) :
    Calls Try.prog 4 #[.slice A0 l.length c0, .slice A1 tk.length c1, .slice A2 fs.length c2] W fun e w' => e = .returned (.bool true) ∧ Below W.heap.size W w' := by
  have HR0 : Aside0 (∀ w', Below W.heap.size W w' → Kd.C Kd.string w' A0 l.length l) := ⟨fun w' hb => Kd.C_below hr0 hb⟩
  have HR1 : Aside0 (∀ w', Below W.heap.size W w' → Kd.C Kd.bool w' A1 tk.length tk) := ⟨fun w' hb => Kd.C_below hr1 hb⟩
  have HR2 : Aside0 (∀ w', Below W.heap.size W w' → Kd.C Kd.string w' A2 fs.length fs) := ⟨fun w' hb => Kd.C_below hr2 hb⟩
  have HK0 := Aside0.mk hk0
  have HK2 := Aside0.mk hk2
  have HFS := Aside0.mk hfs
  have htl : tk.length ≤ 9223372036854775807 := hr1.2.1
  clear hr0 hr1 hr2 hk0 hk2
  go_enter Try.func4, Try.ntmps4
  go_wp2_with (first
    | (go_at_call 9; refine (bag_examples W).mono ?_; rintro e w1 ⟨rfl, hb⟩; have HB1 := Aside0.mk hb; clear hb)
    | (go_at_call 10; refine (bag_Of_n w1 A2 c2 fs.length fs rfl (HR2.out w1 HB1.out) hc2 HK2.out (by omega)).mono ?_; rintro e w2 ⟨gb, rfl, hg, hb⟩; have HG := Aside0.mk hg; have HB2 := Aside0.mk hb; clear hg hb)
    | (go_at_call 14; refine (ref_OfB w2 A2 c2 fs.length fs rfl (HR2.out w2 (below_on HB1.out HB2.out)) hc2 HK2.out (by omega)).mono ?_; rintro e w3 ⟨gx, L0, rfl, hx, hp, hs, hb⟩; have HPL := Aside0.mk (Play.start HB1.out HG.out HB2.out hx hb); have HPM := Aside0.mk hp; have HST := Aside0.mk hs; clear hx hp hs hb HG HB1 HB2))
  go_loopw [10] (fun s10 wr => ∃ (m : Nat) (b L : List ByteArray), m ≤ l.length ∧ m ≤ 200 ∧ s10 = .int .i64 m ∧ Aside0 (Play W wr gb gx (fs.length + m) b L) ∧ Aside0 (L.Perm b) ∧ Aside0 (SortedB L) ∧ Aside0 (L.length ≤ 1048576 + m)) (fun i _ => l.length - (intOf i).toNat)
  case atStart => exact ⟨0, fs, L0, Nat.zero_le _, Nat.zero_le _, rfl, HPL, HPM, HST, ⟨by rw [HPM.out.length_eq]; omega⟩⟩
  case round =>
    clear HPL HPM HST L0
    obtain ⟨m, b, L, hm, hm2, rfl, HPL, HPM, HST, HLN⟩ := hrel
    by_cases hlt : m < l.length ∧ m < 200
    · obtain ⟨hlt1, hlt2⟩ := hlt
      obtain ⟨ad, e, hx0⟩ := at_str (HR0.out wr HPL.out.bel) m hlt1
      cases e
      have HXR : Aside0 (∀ w', Below W.heap.size W w' → w'.cell? (ad.add m) = some (.string l[m])) := ⟨fun w' hb => by
        obtain ⟨ad', e, h0⟩ := at_str (HR0.out w' hb) m hlt1
        cases e
        exact h0⟩
      have HSz := Aside0.mk (HK0.out _ (List.getElem_mem hlt1))
      generalize l[m] = s at *
      rcases (show (m < tk.length ∧ tk[m]? = some true) ∨ (m < tk.length ∧ tk[m]? = some false) ∨ ¬ m < tk.length by
        by_cases c : m < tk.length
        · cases h : tk[m] with
          | true => exact .inl ⟨c, by rw [List.getElem?_eq_getElem c, h]⟩
          | false => exact .inr (.inl ⟨c, by rw [List.getElem?_eq_getElem c, h]⟩)
        · exact .inr (.inr c)) with ⟨ht, hv⟩ | ht
      · obtain ⟨ad1, e1, hy0⟩ := at_bool (HR1.out wr HPL.out.bel) m ht
        cases e1
        rw [List.getElem?_eq_getElem ht] at hv
        injection hv with hv
        rw [hv] at hy0
        clear hv
        obtain ⟨v, hv⟩ : ∃ v, decide (0 < b.count s) = v := ⟨_, rfl⟩
        have hv2 : decide (0 < L.count s) = v := by rw [List.perm_iff_count.1 HPM.out s]; exact hv
        have HT1 : Aside0 (∀ wz, Below wr.heap.size wr wz → Calls Try.prog 15 #[.pointer (some ⟨gb, 0, none⟩), .string s] wz fun e w' => e = .returned (.bool v) ∧ Play W w' gb gx (fs.length + (m + 1)) (b.erase s) L) := ⟨fun wz hb => by
          have := (HPL.out.on hb).takeB s HSz.out (by omega)
          rw [hv] at this
          exact this⟩
        have HLL : Aside0 ((L.length + 1) * 16 ≤ 140737488355328) := ⟨by have := HLN.out; omega⟩
        have HV2 := Aside0.mk hv2
        have HPM2 : Aside0 ((L.erase s).Perm (b.erase s)) := ⟨HPM.out.erase s⟩
        have HST2 : Aside0 (SortedB (L.erase s)) := ⟨List.Pairwise.sublist List.erase_sublist HST.out⟩
        have HLN2 : Aside0 ((L.erase s).length ≤ 1048576 + (m + 1)) := ⟨by have := HLN.out; have := List.length_erase_le (a := s) (l := L); omega⟩
        clear hv hv2
        go_wp2
        refine start_ (n := 13) (S := fun w' => w'.cell? (ad.add m) = some (.string s)) (ds := []) #[false, false, false, false, false, false, false, false, false, false, false, false, false] (by kernel_rfl) rfl rfl ((show wr.drew.cell? _ = _ from hx0)) (fun hHeld => ?_)
        refine pure_ (i := 0) (N := some 39) (v := ?_) (a' := ?_) #[true, false, false, false, false, false, false, false, false, false, false, false, false] rfl rfl (by kernel_rfl) (fun _ _ _ h => h) (Or.inl ⟨by rfl, ?_⟩) ?_ ?_
        rotate_left
        · intro w'
          go_simp
          with_reducible rfl
        rotate_left
        · simp only [Act.put, List.setIfInBounds_toArray, List.set_cons_zero, List.set_cons_succ, i64_w, i32_w]
          rfl
        refine pure_ (i := 1) (N := some 40) (v := ?_) (a' := ?_) #[true, true, false, false, false, false, false, false, false, false, false, false, false] rfl rfl (by kernel_rfl) (fun _ _ _ h => h) (Or.inl ⟨by rfl, ?_⟩) ?_ ?_
        rotate_left
        · intro w'
          go_simp
          with_reducible rfl
        rotate_left
        · simp only [Act.put, List.setIfInBounds_toArray, List.set_cons_zero, List.set_cons_succ, i64_w, i32_w]
          rfl
        refine pure_ (i := 2) (N := some 41) (v := ?_) (a' := ?_) #[true, true, true, false, false, false, false, false, false, false, false, false, false] rfl rfl (by kernel_rfl) (fun _ _ _ h => h) (Or.inl ⟨by rfl, ?_⟩) ?_ ?_
        rotate_left
        · intro w'
          go_simp
          with_reducible rfl
        rotate_left
        · simp only [Act.put, List.setIfInBounds_toArray, List.set_cons_zero, List.set_cons_succ, i64_w, i32_w]
          rfl
        refine pure_ (i := 3) (N := some 42) (v := ?_) (a' := ?_) #[true, true, true, true, false, false, false, false, false, false, false, false, false] rfl rfl (by kernel_rfl) (fun _ _ _ h => h) (Or.inl ⟨by rfl, ?_⟩) ?_ ?_
        rotate_left
        · intro w'
          go_simp
          with_reducible rfl
        rotate_left
        · simp only [Act.put, List.setIfInBounds_toArray, List.set_cons_zero, List.set_cons_succ, i64_w, i32_w]
          rfl
        refine pure_ (i := 6) (N := some 45) (v := ?_) (a' := ?_) #[true, true, true, true, false, false, true, false, false, false, false, false, false] rfl rfl (by kernel_rfl) (fun _ _ _ h => h) (Or.inl ⟨by rfl, ?_⟩) ?_ ?_
        rotate_left
        · intro w'
          go_simp
          with_reducible rfl
        rotate_left
        · simp only [Act.put, List.setIfInBounds_toArray, List.set_cons_zero, List.set_cons_succ, i64_w, i32_w]
          rfl
        refine pure_ (i := 7) (N := some 46) (v := ?_) (a' := ?_) #[true, true, true, true, false, false, true, true, false, false, false, false, false] rfl rfl (by kernel_rfl) (fun _ _ _ h => h) (Or.inl ⟨by rfl, ?_⟩) ?_ ?_
        rotate_left
        · intro w'
          go_simp
          with_reducible rfl
        rotate_left
        · simp only [Act.put, List.setIfInBounds_toArray, List.set_cons_zero, List.set_cons_succ, i64_w, i32_w]
          rfl
        refine pure_ (i := 8) (N := some 47) (v := ?_) (a' := ?_) #[true, true, true, true, false, false, true, true, true, false, false, false, false] rfl rfl (by kernel_rfl) (fun _ _ _ h => h) (Or.inl ⟨by rfl, ?_⟩) ?_ ?_
        rotate_left
        · intro w'
          go_simp
          with_reducible rfl
        rotate_left
        · simp only [Act.put, List.setIfInBounds_toArray, List.set_cons_zero, List.set_cons_succ, i64_w, i32_w]
          rfl
        refine pure_ (i := 9) (N := some 48) (v := ?_) (a' := ?_) #[true, true, true, true, false, false, true, true, true, true, false, false, false] rfl rfl (by kernel_rfl) (fun _ _ _ h => h) (Or.inl ⟨by rfl, ?_⟩) ?_ ?_
        rotate_left
        · intro w'
          go_simp
          with_reducible rfl
        rotate_left
        · simp only [Act.put, List.setIfInBounds_toArray, List.set_cons_zero, List.set_cons_succ, i64_w, i32_w]
          rfl
        refine take_ (i := 4) (N := some 43) (v := ?_) (a' := ?_) #[true, true, true, true, true, false, true, true, true, true, false, false, false] rfl rfl (by kernel_rfl) (fun _ _ _ h => h) (Or.inl ⟨by rfl, ?_⟩) hHeld ?_ ?_
        rotate_left
        · intro w' s0
          go_simp
          with_reducible rfl
        rotate_left
        · simp only [Act.put, List.setIfInBounds_toArray, List.set_cons_zero, List.set_cons_succ, i64_w, i32_w]
          rfl
        refine take_ (i := 10) (N := some 49) (v := ?_) (a' := ?_) #[true, true, true, true, true, false, true, true, true, true, true, false, false] rfl rfl (by kernel_rfl) (fun _ _ _ h => h) (Or.inl ⟨by rfl, ?_⟩) hHeld ?_ ?_
        rotate_left
        · intro w' s0
          go_simp
          with_reducible rfl
        rotate_left
        · simp only [Act.put, List.setIfInBounds_toArray, List.set_cons_zero, List.set_cons_succ, i64_w, i32_w]
          rfl
        refine one_ (i := 5) (N := some 44) #[true, true, true, true, true, true, true, true, true, true, true, false, false] rfl rfl (by kernel_rfl) (by decide) (fun K hK => ?_)
        refine goes_ Try.func15 (by kernel_rfl) rfl #[.pointer (some ⟨gb, 0, none⟩), .string s] (by rfl) rfl rfl (by simp only [List.map_toArray, List.map_cons, List.map_nil]; rfl) ?_
        with_reducible refine (HT1.out _ (below_drew (Below.refl _ _))).mono ?_
        rintro e w5 ⟨rfl, ht5⟩
        refine ⟨_, rfl, ?_⟩
        refine hK.out _ _ ((HXR.out _ ht5.bel)) (fun hHeld => ?_)
        clear hK K
        refine norm_ (a' := ?_) ?_ ?_
        rotate_left
        · show Act.put _ (some 44) _ = _
          simp only [Act.put, List.setIfInBounds_toArray, List.set_cons_zero, List.set_cons_succ, i64_w, i32_w]
          rfl
        refine one_ (i := 11) (N := some 50) #[true, true, true, true, true, true, true, true, true, true, true, true, false] rfl rfl (by kernel_rfl) (by decide) (fun K hK => ?_)
        have HTX := ht5.takeX s HLL.out
        rw [HV2.out] at HTX
        refine goes_ Try.func16 (by kernel_rfl) rfl #[.pointer (some ⟨gx, 0, none⟩), .string s] (by rfl) rfl rfl (by simp only [List.map_toArray, List.map_cons, List.map_nil]; rfl) ?_
        with_reducible refine (HTX).mono ?_
        rintro e w6 ⟨rfl, ht6⟩
        refine ⟨_, rfl, ?_⟩
        refine hK.out _ _ ((HXR.out _ ht6.bel)) (fun hHeld => ?_)
        clear hK K
        refine norm_ (a' := ?_) ?_ ?_
        rotate_left
        · show Act.put _ (some 50) _ = _
          simp only [Act.put, List.setIfInBounds_toArray, List.set_cons_zero, List.set_cons_succ, i64_w, i32_w]
          rfl
        refine pure_ (i := 12) (N := some 51) (v := ?_) (a' := ?_) #[true, true, true, true, true, true, true, true, true, true, true, true, true] rfl rfl (by kernel_rfl) (fun _ _ _ h => h) (Or.inl ⟨by rfl, ?_⟩) ?_ ?_
        rotate_left
        · intro w'
          go_simp
          with_reducible rfl
        rotate_left
        · simp only [Act.put, List.setIfInBounds_toArray, List.set_cons_zero, List.set_cons_succ, i64_w, i32_w]
          rfl
        refine done_ (by kernel_rfl) ?_
        have HP6 := Aside0.mk ht6
        clear ht5 ht6
        have hx6 := HXR.out _ HP6.out.bel
        obtain ⟨cv, hcv⟩ : ∃ cv : Int, ((b.erase s).count s : Int) = cv := ⟨_, rfl⟩
        have HN1 : Aside0 (∀ wz, Below w6.heap.size w6 wz → Calls Try.prog 12 #[.pointer (some ⟨gb, 0, none⟩), .string s] wz fun e w' => e = .returned (.int .i64 cv) ∧ w' = wz) := ⟨fun wz hb => by
          have := (HP6.out.on hb).cntB s HSz.out
          rw [hcv] at this
          exact this⟩
        have HN2 : Aside0 (∀ wz, Below w6.heap.size w6 wz → Calls Try.prog 19 #[.pointer (some ⟨gx, 0, none⟩), .string s] wz fun e w' => e = .returned (.int .i64 cv) ∧ w' = wz) := ⟨fun wz hb => by
          have := (HP6.out.on hb).cntX s
          rw [List.perm_iff_count.1 HPM2.out s, hcv] at this
          exact this⟩
        clear hcv
        go_wp2
        refine start_ (n := 13) (S := fun w' => w'.cell? (ad.add m) = some (.string s)) (ds := []) #[false, false, false, false, false, false, false, false, false, false, false, false, false] (by kernel_rfl) rfl rfl ((show w6.drew.cell? _ = _ from hx6)) (fun hHeld => ?_)
        refine pure_ (i := 0) (N := some 64) (v := ?_) (a' := ?_) #[true, false, false, false, false, false, false, false, false, false, false, false, false] rfl rfl (by kernel_rfl) (fun _ _ _ h => h) (Or.inl ⟨by rfl, ?_⟩) ?_ ?_
        rotate_left
        · intro w'
          go_simp
          with_reducible rfl
        rotate_left
        · simp only [Act.put, List.setIfInBounds_toArray, List.set_cons_zero, List.set_cons_succ, i64_w, i32_w]
          rfl
        refine pure_ (i := 1) (N := some 65) (v := ?_) (a' := ?_) #[true, true, false, false, false, false, false, false, false, false, false, false, false] rfl rfl (by kernel_rfl) (fun _ _ _ h => h) (Or.inl ⟨by rfl, ?_⟩) ?_ ?_
        rotate_left
        · intro w'
          go_simp
          with_reducible rfl
        rotate_left
        · simp only [Act.put, List.setIfInBounds_toArray, List.set_cons_zero, List.set_cons_succ, i64_w, i32_w]
          rfl
        refine pure_ (i := 2) (N := some 66) (v := ?_) (a' := ?_) #[true, true, true, false, false, false, false, false, false, false, false, false, false] rfl rfl (by kernel_rfl) (fun _ _ _ h => h) (Or.inl ⟨by rfl, ?_⟩) ?_ ?_
        rotate_left
        · intro w'
          go_simp
          with_reducible rfl
        rotate_left
        · simp only [Act.put, List.setIfInBounds_toArray, List.set_cons_zero, List.set_cons_succ, i64_w, i32_w]
          rfl
        refine pure_ (i := 3) (N := some 67) (v := ?_) (a' := ?_) #[true, true, true, true, false, false, false, false, false, false, false, false, false] rfl rfl (by kernel_rfl) (fun _ _ _ h => h) (Or.inl ⟨by rfl, ?_⟩) ?_ ?_
        rotate_left
        · intro w'
          go_simp
          with_reducible rfl
        rotate_left
        · simp only [Act.put, List.setIfInBounds_toArray, List.set_cons_zero, List.set_cons_succ, i64_w, i32_w]
          rfl
        refine pure_ (i := 6) (N := some 70) (v := ?_) (a' := ?_) #[true, true, true, true, false, false, true, false, false, false, false, false, false] rfl rfl (by kernel_rfl) (fun _ _ _ h => h) (Or.inl ⟨by rfl, ?_⟩) ?_ ?_
        rotate_left
        · intro w'
          go_simp
          with_reducible rfl
        rotate_left
        · simp only [Act.put, List.setIfInBounds_toArray, List.set_cons_zero, List.set_cons_succ, i64_w, i32_w]
          rfl
        refine pure_ (i := 7) (N := some 71) (v := ?_) (a' := ?_) #[true, true, true, true, false, false, true, true, false, false, false, false, false] rfl rfl (by kernel_rfl) (fun _ _ _ h => h) (Or.inl ⟨by rfl, ?_⟩) ?_ ?_
        rotate_left
        · intro w'
          go_simp
          with_reducible rfl
        rotate_left
        · simp only [Act.put, List.setIfInBounds_toArray, List.set_cons_zero, List.set_cons_succ, i64_w, i32_w]
          rfl
        refine pure_ (i := 8) (N := some 72) (v := ?_) (a' := ?_) #[true, true, true, true, false, false, true, true, true, false, false, false, false] rfl rfl (by kernel_rfl) (fun _ _ _ h => h) (Or.inl ⟨by rfl, ?_⟩) ?_ ?_
        rotate_left
        · intro w'
          go_simp
          with_reducible rfl
        rotate_left
        · simp only [Act.put, List.setIfInBounds_toArray, List.set_cons_zero, List.set_cons_succ, i64_w, i32_w]
          rfl
        refine pure_ (i := 9) (N := some 73) (v := ?_) (a' := ?_) #[true, true, true, true, false, false, true, true, true, true, false, false, false] rfl rfl (by kernel_rfl) (fun _ _ _ h => h) (Or.inl ⟨by rfl, ?_⟩) ?_ ?_
        rotate_left
        · intro w'
          go_simp
          with_reducible rfl
        rotate_left
        · simp only [Act.put, List.setIfInBounds_toArray, List.set_cons_zero, List.set_cons_succ, i64_w, i32_w]
          rfl
        refine take_ (i := 4) (N := some 68) (v := ?_) (a' := ?_) #[true, true, true, true, true, false, true, true, true, true, false, false, false] rfl rfl (by kernel_rfl) (fun _ _ _ h => h) (Or.inl ⟨by rfl, ?_⟩) hHeld ?_ ?_
        rotate_left
        · intro w' s0
          go_simp
          with_reducible rfl
        rotate_left
        · simp only [Act.put, List.setIfInBounds_toArray, List.set_cons_zero, List.set_cons_succ, i64_w, i32_w]
          rfl
        refine take_ (i := 10) (N := some 74) (v := ?_) (a' := ?_) #[true, true, true, true, true, false, true, true, true, true, true, false, false] rfl rfl (by kernel_rfl) (fun _ _ _ h => h) (Or.inl ⟨by rfl, ?_⟩) hHeld ?_ ?_
        rotate_left
        · intro w' s0
          go_simp
          with_reducible rfl
        rotate_left
        · simp only [Act.put, List.setIfInBounds_toArray, List.set_cons_zero, List.set_cons_succ, i64_w, i32_w]
          rfl
        refine one_ (i := 5) (N := some 69) #[true, true, true, true, true, true, true, true, true, true, true, false, false] rfl rfl (by kernel_rfl) (by decide) (fun K hK => ?_)
        refine goes_ Try.func12 (by kernel_rfl) rfl #[.pointer (some ⟨gb, 0, none⟩), .string s] (by rfl) rfl rfl (by simp only [List.map_toArray, List.map_cons, List.map_nil]; rfl) ?_
        with_reducible refine (HN1.out _ (below_drew (Below.refl _ _))).mono ?_
        rintro e w9 ⟨rfl, rfl⟩
        refine ⟨_, rfl, ?_⟩
        refine hK.out _ _ (hHeld) (fun hHeld => ?_)
        clear hK K
        refine norm_ (a' := ?_) ?_ ?_
        rotate_left
        · show Act.put _ (some 69) _ = _
          simp only [Act.put, List.setIfInBounds_toArray, List.set_cons_zero, List.set_cons_succ, i64_w, i32_w]
          rfl
        refine one_ (i := 11) (N := some 75) #[true, true, true, true, true, true, true, true, true, true, true, true, false] rfl rfl (by kernel_rfl) (by decide) (fun K hK => ?_)
        refine goes_ Try.func19 (by kernel_rfl) rfl #[.pointer (some ⟨gx, 0, none⟩), .string s] (by rfl) rfl rfl (by simp only [List.map_toArray, List.map_cons, List.map_nil]; rfl) ?_
        with_reducible refine (HN2.out _ (below_drew (Below.refl _ _))).mono ?_
        rintro e w9 ⟨rfl, rfl⟩
        refine ⟨_, rfl, ?_⟩
        refine hK.out _ _ (hHeld) (fun hHeld => ?_)
        clear hK K
        refine norm_ (a' := ?_) ?_ ?_
        rotate_left
        · show Act.put _ (some 75) _ = _
          simp only [Act.put, List.setIfInBounds_toArray, List.set_cons_zero, List.set_cons_succ, i64_w, i32_w]
          rfl
        refine pure_ (i := 12) (N := some 76) (v := ?_) (a' := ?_) #[true, true, true, true, true, true, true, true, true, true, true, true, true] rfl rfl (by kernel_rfl) (fun _ _ _ h => h) (Or.inl ⟨by rfl, ?_⟩) ?_ ?_
        rotate_left
        · intro w'
          go_simp
          with_reducible rfl
        rotate_left
        · simp only [Act.put, List.setIfInBounds_toArray, List.set_cons_zero, List.set_cons_succ, i64_w, i32_w]
          rfl
        refine done_ (by kernel_rfl) ?_
        go_wp2
        go_roundw
        case rel => exact ⟨m + 1, b.erase s, L.erase s, by omega, by omega, by go_num, ⟨HP6.out.on (below_drew (Below.refl _ _))⟩, HPM2, HST2, HLN2⟩
        case measure => simp [intOf]; omega
      · have hno : True := trivial
        have HLL : Aside0 ((L.length + 1) * 16 ≤ 140737488355328) := ⟨by have := HLN.out; omega⟩
        rcases ht with ⟨ht, hv⟩ | ht
        · obtain ⟨ad1, e1, hy0⟩ := at_bool (HR1.out wr HPL.out.bel) m ht
          cases e1
          rw [List.getElem?_eq_getElem ht] at hv
          injection hv with hv
          rw [hv] at hy0
          clear hv
          go_wp2_with (first
            | (go_at_call 17; refine (HPL.out.addB s HSz.out (by omega)).mono ?_; rintro e w5 ⟨rfl, h5⟩; have hx5 := HXR.out _ h5.bel; have HP5 := Aside0.mk h5; clear h5)
            | (go_at_call 18; refine (HP5.out.addX s HSz.out HLL.out).mono ?_; rintro e w6 ⟨L6, rfl, h6, hp6, hs6⟩; have hx6 := HXR.out _ h6.bel; have HP6 := Aside0.mk h6; have HPM6 := Aside0.mk hp6; have HST6 := Aside0.mk hs6; clear h6 hp6 hs6))
          have HPM2 : Aside0 (L6.Perm (b ++ [s])) := ⟨HPM6.out.trans (List.Perm.append_right _ HPM.out)⟩
          have HST2 := Aside0.mk (HST6.out HST.out)
          have HLN2 : Aside0 (L6.length ≤ 1048576 + (m + 1)) := ⟨by have := HLN.out; rw [HPM6.out.length_eq, List.length_append, List.length_singleton]; omega⟩
          obtain ⟨cv, hcv⟩ : ∃ cv : Int, ((b ++ [s]).count s : Int) = cv := ⟨_, rfl⟩
          have HN1 : Aside0 (∀ wz, Below w6.heap.size w6 wz → Calls Try.prog 12 #[.pointer (some ⟨gb, 0, none⟩), .string s] wz fun e w' => e = .returned (.int .i64 cv) ∧ w' = wz) := ⟨fun wz hb => by
            have := (HP6.out.on hb).cntB s HSz.out
            rw [hcv] at this
            exact this⟩
          have HN2 : Aside0 (∀ wz, Below w6.heap.size w6 wz → Calls Try.prog 19 #[.pointer (some ⟨gx, 0, none⟩), .string s] wz fun e w' => e = .returned (.int .i64 cv) ∧ w' = wz) := ⟨fun wz hb => by
            have := (HP6.out.on hb).cntX s
            rw [List.perm_iff_count.1 HPM2.out s, hcv] at this
            exact this⟩
          clear hcv
          go_wp2
          refine start_ (n := 13) (S := fun w' => w'.cell? (ad.add m) = some (.string s)) (ds := []) #[false, false, false, false, false, false, false, false, false, false, false, false, false] (by kernel_rfl) rfl rfl ((show w6.drew.cell? _ = _ from hx6)) (fun hHeld => ?_)
          refine pure_ (i := 0) (N := some 64) (v := ?_) (a' := ?_) #[true, false, false, false, false, false, false, false, false, false, false, false, false] rfl rfl (by kernel_rfl) (fun _ _ _ h => h) (Or.inl ⟨by rfl, ?_⟩) ?_ ?_
          rotate_left
          · intro w'
            go_simp
            with_reducible rfl
          rotate_left
          · simp only [Act.put, List.setIfInBounds_toArray, List.set_cons_zero, List.set_cons_succ, i64_w, i32_w]
            rfl
          refine pure_ (i := 1) (N := some 65) (v := ?_) (a' := ?_) #[true, true, false, false, false, false, false, false, false, false, false, false, false] rfl rfl (by kernel_rfl) (fun _ _ _ h => h) (Or.inl ⟨by rfl, ?_⟩) ?_ ?_
          rotate_left
          · intro w'
            go_simp
            with_reducible rfl
          rotate_left
          · simp only [Act.put, List.setIfInBounds_toArray, List.set_cons_zero, List.set_cons_succ, i64_w, i32_w]
            rfl
          refine pure_ (i := 2) (N := some 66) (v := ?_) (a' := ?_) #[true, true, true, false, false, false, false, false, false, false, false, false, false] rfl rfl (by kernel_rfl) (fun _ _ _ h => h) (Or.inl ⟨by rfl, ?_⟩) ?_ ?_
          rotate_left
          · intro w'
            go_simp
            with_reducible rfl
          rotate_left
          · simp only [Act.put, List.setIfInBounds_toArray, List.set_cons_zero, List.set_cons_succ, i64_w, i32_w]
            rfl
          refine pure_ (i := 3) (N := some 67) (v := ?_) (a' := ?_) #[true, true, true, true, false, false, false, false, false, false, false, false, false] rfl rfl (by kernel_rfl) (fun _ _ _ h => h) (Or.inl ⟨by rfl, ?_⟩) ?_ ?_
          rotate_left
          · intro w'
            go_simp
            with_reducible rfl
          rotate_left
          · simp only [Act.put, List.setIfInBounds_toArray, List.set_cons_zero, List.set_cons_succ, i64_w, i32_w]
            rfl
          refine pure_ (i := 6) (N := some 70) (v := ?_) (a' := ?_) #[true, true, true, true, false, false, true, false, false, false, false, false, false] rfl rfl (by kernel_rfl) (fun _ _ _ h => h) (Or.inl ⟨by rfl, ?_⟩) ?_ ?_
          rotate_left
          · intro w'
            go_simp
            with_reducible rfl
          rotate_left
          · simp only [Act.put, List.setIfInBounds_toArray, List.set_cons_zero, List.set_cons_succ, i64_w, i32_w]
            rfl
          refine pure_ (i := 7) (N := some 71) (v := ?_) (a' := ?_) #[true, true, true, true, false, false, true, true, false, false, false, false, false] rfl rfl (by kernel_rfl) (fun _ _ _ h => h) (Or.inl ⟨by rfl, ?_⟩) ?_ ?_
          rotate_left
          · intro w'
            go_simp
            with_reducible rfl
          rotate_left
          · simp only [Act.put, List.setIfInBounds_toArray, List.set_cons_zero, List.set_cons_succ, i64_w, i32_w]
            rfl
          refine pure_ (i := 8) (N := some 72) (v := ?_) (a' := ?_) #[true, true, true, true, false, false, true, true, true, false, false, false, false] rfl rfl (by kernel_rfl) (fun _ _ _ h => h) (Or.inl ⟨by rfl, ?_⟩) ?_ ?_
          rotate_left
          · intro w'
            go_simp
            with_reducible rfl
          rotate_left
          · simp only [Act.put, List.setIfInBounds_toArray, List.set_cons_zero, List.set_cons_succ, i64_w, i32_w]
            rfl
          refine pure_ (i := 9) (N := some 73) (v := ?_) (a' := ?_) #[true, true, true, true, false, false, true, true, true, true, false, false, false] rfl rfl (by kernel_rfl) (fun _ _ _ h => h) (Or.inl ⟨by rfl, ?_⟩) ?_ ?_
          rotate_left
          · intro w'
            go_simp
            with_reducible rfl
          rotate_left
          · simp only [Act.put, List.setIfInBounds_toArray, List.set_cons_zero, List.set_cons_succ, i64_w, i32_w]
            rfl
          refine take_ (i := 4) (N := some 68) (v := ?_) (a' := ?_) #[true, true, true, true, true, false, true, true, true, true, false, false, false] rfl rfl (by kernel_rfl) (fun _ _ _ h => h) (Or.inl ⟨by rfl, ?_⟩) hHeld ?_ ?_
          rotate_left
          · intro w' s0
            go_simp
            with_reducible rfl
          rotate_left
          · simp only [Act.put, List.setIfInBounds_toArray, List.set_cons_zero, List.set_cons_succ, i64_w, i32_w]
            rfl
          refine take_ (i := 10) (N := some 74) (v := ?_) (a' := ?_) #[true, true, true, true, true, false, true, true, true, true, true, false, false] rfl rfl (by kernel_rfl) (fun _ _ _ h => h) (Or.inl ⟨by rfl, ?_⟩) hHeld ?_ ?_
          rotate_left
          · intro w' s0
            go_simp
            with_reducible rfl
          rotate_left
          · simp only [Act.put, List.setIfInBounds_toArray, List.set_cons_zero, List.set_cons_succ, i64_w, i32_w]
            rfl
          refine one_ (i := 5) (N := some 69) #[true, true, true, true, true, true, true, true, true, true, true, false, false] rfl rfl (by kernel_rfl) (by decide) (fun K hK => ?_)
          refine goes_ Try.func12 (by kernel_rfl) rfl #[.pointer (some ⟨gb, 0, none⟩), .string s] (by rfl) rfl rfl (by simp only [List.map_toArray, List.map_cons, List.map_nil]; rfl) ?_
          with_reducible refine (HN1.out _ (below_drew (Below.refl _ _))).mono ?_
          rintro e w9 ⟨rfl, rfl⟩
          refine ⟨_, rfl, ?_⟩
          refine hK.out _ _ (hHeld) (fun hHeld => ?_)
          clear hK K
          refine norm_ (a' := ?_) ?_ ?_
          rotate_left
          · show Act.put _ (some 69) _ = _
            simp only [Act.put, List.setIfInBounds_toArray, List.set_cons_zero, List.set_cons_succ, i64_w, i32_w]
            rfl
          refine one_ (i := 11) (N := some 75) #[true, true, true, true, true, true, true, true, true, true, true, true, false] rfl rfl (by kernel_rfl) (by decide) (fun K hK => ?_)
          refine goes_ Try.func19 (by kernel_rfl) rfl #[.pointer (some ⟨gx, 0, none⟩), .string s] (by rfl) rfl rfl (by simp only [List.map_toArray, List.map_cons, List.map_nil]; rfl) ?_
          with_reducible refine (HN2.out _ (below_drew (Below.refl _ _))).mono ?_
          rintro e w9 ⟨rfl, rfl⟩
          refine ⟨_, rfl, ?_⟩
          refine hK.out _ _ (hHeld) (fun hHeld => ?_)
          clear hK K
          refine norm_ (a' := ?_) ?_ ?_
          rotate_left
          · show Act.put _ (some 75) _ = _
            simp only [Act.put, List.setIfInBounds_toArray, List.set_cons_zero, List.set_cons_succ, i64_w, i32_w]
            rfl
          refine pure_ (i := 12) (N := some 76) (v := ?_) (a' := ?_) #[true, true, true, true, true, true, true, true, true, true, true, true, true] rfl rfl (by kernel_rfl) (fun _ _ _ h => h) (Or.inl ⟨by rfl, ?_⟩) ?_ ?_
          rotate_left
          · intro w'
            go_simp
            with_reducible rfl
          rotate_left
          · simp only [Act.put, List.setIfInBounds_toArray, List.set_cons_zero, List.set_cons_succ, i64_w, i32_w]
            rfl
          refine done_ (by kernel_rfl) ?_
          go_wp2
          go_roundw
          case rel => exact ⟨m + 1, b ++ [s], L6, by omega, by omega, by go_num, ⟨HP6.out.on (below_drew (Below.refl _ _))⟩, HPM2, HST2, HLN2⟩
          case measure => simp [intOf]; omega
        · skip
          go_wp2_with (first
            | (go_at_call 17; refine (HPL.out.addB s HSz.out (by omega)).mono ?_; rintro e w5 ⟨rfl, h5⟩; have hx5 := HXR.out _ h5.bel; have HP5 := Aside0.mk h5; clear h5)
            | (go_at_call 18; refine (HP5.out.addX s HSz.out HLL.out).mono ?_; rintro e w6 ⟨L6, rfl, h6, hp6, hs6⟩; have hx6 := HXR.out _ h6.bel; have HP6 := Aside0.mk h6; have HPM6 := Aside0.mk hp6; have HST6 := Aside0.mk hs6; clear h6 hp6 hs6))
          have HPM2 : Aside0 (L6.Perm (b ++ [s])) := ⟨HPM6.out.trans (List.Perm.append_right _ HPM.out)⟩
          have HST2 := Aside0.mk (HST6.out HST.out)
          have HLN2 : Aside0 (L6.length ≤ 1048576 + (m + 1)) := ⟨by have := HLN.out; rw [HPM6.out.length_eq, List.length_append, List.length_singleton]; omega⟩
          obtain ⟨cv, hcv⟩ : ∃ cv : Int, ((b ++ [s]).count s : Int) = cv := ⟨_, rfl⟩
          have HN1 : Aside0 (∀ wz, Below w6.heap.size w6 wz → Calls Try.prog 12 #[.pointer (some ⟨gb, 0, none⟩), .string s] wz fun e w' => e = .returned (.int .i64 cv) ∧ w' = wz) := ⟨fun wz hb => by
            have := (HP6.out.on hb).cntB s HSz.out
            rw [hcv] at this
            exact this⟩
          have HN2 : Aside0 (∀ wz, Below w6.heap.size w6 wz → Calls Try.prog 19 #[.pointer (some ⟨gx, 0, none⟩), .string s] wz fun e w' => e = .returned (.int .i64 cv) ∧ w' = wz) := ⟨fun wz hb => by
            have := (HP6.out.on hb).cntX s
            rw [List.perm_iff_count.1 HPM2.out s, hcv] at this
            exact this⟩
          clear hcv
          go_wp2
          refine start_ (n := 13) (S := fun w' => w'.cell? (ad.add m) = some (.string s)) (ds := []) #[false, false, false, false, false, false, false, false, false, false, false, false, false] (by kernel_rfl) rfl rfl ((show w6.drew.cell? _ = _ from hx6)) (fun hHeld => ?_)
          refine pure_ (i := 0) (N := some 64) (v := ?_) (a' := ?_) #[true, false, false, false, false, false, false, false, false, false, false, false, false] rfl rfl (by kernel_rfl) (fun _ _ _ h => h) (Or.inl ⟨by rfl, ?_⟩) ?_ ?_
          rotate_left
          · intro w'
            go_simp
            with_reducible rfl
          rotate_left
          · simp only [Act.put, List.setIfInBounds_toArray, List.set_cons_zero, List.set_cons_succ, i64_w, i32_w]
            rfl
          refine pure_ (i := 1) (N := some 65) (v := ?_) (a' := ?_) #[true, true, false, false, false, false, false, false, false, false, false, false, false] rfl rfl (by kernel_rfl) (fun _ _ _ h => h) (Or.inl ⟨by rfl, ?_⟩) ?_ ?_
          rotate_left
          · intro w'
            go_simp
            with_reducible rfl
          rotate_left
          · simp only [Act.put, List.setIfInBounds_toArray, List.set_cons_zero, List.set_cons_succ, i64_w, i32_w]
            rfl
          refine pure_ (i := 2) (N := some 66) (v := ?_) (a' := ?_) #[true, true, true, false, false, false, false, false, false, false, false, false, false] rfl rfl (by kernel_rfl) (fun _ _ _ h => h) (Or.inl ⟨by rfl, ?_⟩) ?_ ?_
          rotate_left
          · intro w'
            go_simp
            with_reducible rfl
          rotate_left
          · simp only [Act.put, List.setIfInBounds_toArray, List.set_cons_zero, List.set_cons_succ, i64_w, i32_w]
            rfl
          refine pure_ (i := 3) (N := some 67) (v := ?_) (a' := ?_) #[true, true, true, true, false, false, false, false, false, false, false, false, false] rfl rfl (by kernel_rfl) (fun _ _ _ h => h) (Or.inl ⟨by rfl, ?_⟩) ?_ ?_
          rotate_left
          · intro w'
            go_simp
            with_reducible rfl
          rotate_left
          · simp only [Act.put, List.setIfInBounds_toArray, List.set_cons_zero, List.set_cons_succ, i64_w, i32_w]
            rfl
          refine pure_ (i := 6) (N := some 70) (v := ?_) (a' := ?_) #[true, true, true, true, false, false, true, false, false, false, false, false, false] rfl rfl (by kernel_rfl) (fun _ _ _ h => h) (Or.inl ⟨by rfl, ?_⟩) ?_ ?_
          rotate_left
          · intro w'
            go_simp
            with_reducible rfl
          rotate_left
          · simp only [Act.put, List.setIfInBounds_toArray, List.set_cons_zero, List.set_cons_succ, i64_w, i32_w]
            rfl
          refine pure_ (i := 7) (N := some 71) (v := ?_) (a' := ?_) #[true, true, true, true, false, false, true, true, false, false, false, false, false] rfl rfl (by kernel_rfl) (fun _ _ _ h => h) (Or.inl ⟨by rfl, ?_⟩) ?_ ?_
          rotate_left
          · intro w'
            go_simp
            with_reducible rfl
          rotate_left
          · simp only [Act.put, List.setIfInBounds_toArray, List.set_cons_zero, List.set_cons_succ, i64_w, i32_w]
            rfl
          refine pure_ (i := 8) (N := some 72) (v := ?_) (a' := ?_) #[true, true, true, true, false, false, true, true, true, false, false, false, false] rfl rfl (by kernel_rfl) (fun _ _ _ h => h) (Or.inl ⟨by rfl, ?_⟩) ?_ ?_
          rotate_left
          · intro w'
            go_simp
            with_reducible rfl
          rotate_left
          · simp only [Act.put, List.setIfInBounds_toArray, List.set_cons_zero, List.set_cons_succ, i64_w, i32_w]
            rfl
          refine pure_ (i := 9) (N := some 73) (v := ?_) (a' := ?_) #[true, true, true, true, false, false, true, true, true, true, false, false, false] rfl rfl (by kernel_rfl) (fun _ _ _ h => h) (Or.inl ⟨by rfl, ?_⟩) ?_ ?_
          rotate_left
          · intro w'
            go_simp
            with_reducible rfl
          rotate_left
          · simp only [Act.put, List.setIfInBounds_toArray, List.set_cons_zero, List.set_cons_succ, i64_w, i32_w]
            rfl
          refine take_ (i := 4) (N := some 68) (v := ?_) (a' := ?_) #[true, true, true, true, true, false, true, true, true, true, false, false, false] rfl rfl (by kernel_rfl) (fun _ _ _ h => h) (Or.inl ⟨by rfl, ?_⟩) hHeld ?_ ?_
          rotate_left
          · intro w' s0
            go_simp
            with_reducible rfl
          rotate_left
          · simp only [Act.put, List.setIfInBounds_toArray, List.set_cons_zero, List.set_cons_succ, i64_w, i32_w]
            rfl
          refine take_ (i := 10) (N := some 74) (v := ?_) (a' := ?_) #[true, true, true, true, true, false, true, true, true, true, true, false, false] rfl rfl (by kernel_rfl) (fun _ _ _ h => h) (Or.inl ⟨by rfl, ?_⟩) hHeld ?_ ?_
          rotate_left
          · intro w' s0
            go_simp
            with_reducible rfl
          rotate_left
          · simp only [Act.put, List.setIfInBounds_toArray, List.set_cons_zero, List.set_cons_succ, i64_w, i32_w]
            rfl
          refine one_ (i := 5) (N := some 69) #[true, true, true, true, true, true, true, true, true, true, true, false, false] rfl rfl (by kernel_rfl) (by decide) (fun K hK => ?_)
          refine goes_ Try.func12 (by kernel_rfl) rfl #[.pointer (some ⟨gb, 0, none⟩), .string s] (by rfl) rfl rfl (by simp only [List.map_toArray, List.map_cons, List.map_nil]; rfl) ?_
          with_reducible refine (HN1.out _ (below_drew (Below.refl _ _))).mono ?_
          rintro e w9 ⟨rfl, rfl⟩
          refine ⟨_, rfl, ?_⟩
          refine hK.out _ _ (hHeld) (fun hHeld => ?_)
          clear hK K
          refine norm_ (a' := ?_) ?_ ?_
          rotate_left
          · show Act.put _ (some 69) _ = _
            simp only [Act.put, List.setIfInBounds_toArray, List.set_cons_zero, List.set_cons_succ, i64_w, i32_w]
            rfl
          refine one_ (i := 11) (N := some 75) #[true, true, true, true, true, true, true, true, true, true, true, true, false] rfl rfl (by kernel_rfl) (by decide) (fun K hK => ?_)
          refine goes_ Try.func19 (by kernel_rfl) rfl #[.pointer (some ⟨gx, 0, none⟩), .string s] (by rfl) rfl rfl (by simp only [List.map_toArray, List.map_cons, List.map_nil]; rfl) ?_
          with_reducible refine (HN2.out _ (below_drew (Below.refl _ _))).mono ?_
          rintro e w9 ⟨rfl, rfl⟩
          refine ⟨_, rfl, ?_⟩
          refine hK.out _ _ (hHeld) (fun hHeld => ?_)
          clear hK K
          refine norm_ (a' := ?_) ?_ ?_
          rotate_left
          · show Act.put _ (some 75) _ = _
            simp only [Act.put, List.setIfInBounds_toArray, List.set_cons_zero, List.set_cons_succ, i64_w, i32_w]
            rfl
          refine pure_ (i := 12) (N := some 76) (v := ?_) (a' := ?_) #[true, true, true, true, true, true, true, true, true, true, true, true, true] rfl rfl (by kernel_rfl) (fun _ _ _ h => h) (Or.inl ⟨by rfl, ?_⟩) ?_ ?_
          rotate_left
          · intro w'
            go_simp
            with_reducible rfl
          rotate_left
          · simp only [Act.put, List.setIfInBounds_toArray, List.set_cons_zero, List.set_cons_succ, i64_w, i32_w]
            rfl
          refine done_ (by kernel_rfl) ?_
          go_wp2
          go_roundw
          case rel => exact ⟨m + 1, b ++ [s], L6, by omega, by omega, by go_num, ⟨HP6.out.on (below_drew (Below.refl _ _))⟩, HPM2, HST2, HLN2⟩
          case measure => simp [intOf]; omega
    · by_cases h1 : m < l.length
      · have h2 : ¬ m < 200 := fun h => hlt ⟨h1, h⟩
        clear hlt
        go_wp2_with (go_at_call 20; refine (HPL.out.same HPM.out HST.out (by omega) (by have := HLN.out; omega)).mono ?_; rintro e w7 ⟨rfl, hb⟩; have HE := Aside0.mk hb; clear hb)
        go_ret
        exact ⟨rfl, HE.out⟩
      · clear hlt
        go_wp2_with (go_at_call 20; refine (HPL.out.same HPM.out HST.out (by omega) (by have := HLN.out; omega)).mono ?_; rintro e w7 ⟨rfl, hb⟩; have HE := Aside0.mk hb; clear hb)
        go_ret
        exact ⟨rfl, HE.out⟩

end Go.Proofs.Ytacfemgmnfkjoaa.QBag
