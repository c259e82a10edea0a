import Derived.Test.YtpkhdljlhdomlaaIxH
/- Index: walks by hand; the conditions stand in each theorem. -/
namespace Go.Proofs.Ytpkhdljlhdomlaa.QIndexFinds
open Go.RowKit Go.Proofs.YtpkhdljlhdomlaaW.PrintWords Go.Proofs.YtpkhdljlhdomlaaW.PrintLast Go.Proofs.YtpkhdljlhdomlaaW.PrintMore
attribute [local go_sem] max2_int min2_int max_two min_two max_three min_three max_four min_four
set_option linter.unusedVariables false
set_option linter.unusedSimpArgs false
theorem mk42 (w : World) : (Instr.makeMap 42 none).run Try.prog w = .ok (.map (some w.heap.size)) (w.alloc (.map #[] 0)) := rfl
attribute [local go_sem] mk42
theorem Ix0.start (w : World) : ∃ w2 : World, ∃ own : Nat → Tg, w2 = (((w.alloc (.map #[] 0)).alloc (.cells #[.slice none 0 0, .slice none 0 0, .map (some w.heap.size)] 44)).alloc (.cells #[.pointer (some ⟨w.heap.size + 1, 0, none⟩)] 27)) ∧
    Ix0 w2 w.heap.size (w.heap.size + 1) w.heap.size 0 own (.slice none 0 0) (.slice none 0 0) [] [] (bkt []) ∧ w2.heap[w.heap.size + 1 + 1]? = some (.cells #[.pointer (some ⟨w.heap.size + 1, 0, none⟩)] 27 (0, 0)) ∧ own (w.heap.size + 1 + 1) = .no ∧ Below w.heap.size w w2 := by
  have s1 : (w.alloc (.map #[] 0)).heap.size = w.heap.size + 1 := by simp
  have s2 : ((w.alloc (.map #[] 0)).alloc (.cells #[.slice none 0 0, .slice none 0 0, .map (some w.heap.size)] 44)).heap.size = w.heap.size + 1 + 1 := by simp
  refine ⟨_, fun j => if j = w.heap.size then .mp else .no, rfl, ⟨?_, Kd.R_nil _ _ _ _ _, Kd.R_nil _ _ _ _ _, ⟨⟨fun _ => none, mapv_far (mapv_new w) ?_, fun k => .inl ⟨rfl, rfl⟩⟩, if_pos rfl⟩, if_neg (by omega), by omega, fun j hj => if_neg (by omega)⟩, ?_, if_neg (by omega), below_alloc (below_alloc (below_alloc (Below.refl _ _) _) _) _⟩
  · have := blk_new (w.alloc (.map #[] 0)) (.cells #[.slice none 0 0, .slice none 0 0, .map (some w.heap.size)] 44)
    rw [s1] at this
    exact (Below.heap_alloc _ _ _ (by omega)).trans this
  · rw [Below.heap_alloc _ _ _ (by omega), Below.heap_alloc _ _ _ (by omega)]
  · have := blk_new ((w.alloc (.map #[] 0)).alloc (.cells #[.slice none 0 0, .slice none 0 0, .map (some w.heap.size)] 44)) (.cells #[.pointer (some ⟨w.heap.size + 1, 0, none⟩)] 27)
    rw [s2] at this
    exact this
set_option maxRecDepth 8000 in
set_option maxHeartbeats 8000000 in
theorem index_Build (w : World) (A : Option Addr) (c : Nat) (rows : List (List S24)) (col : Nat) (hr : Kd.C (Kd.slice 24 k24) w A rows.length rows) (hcol : ∀ r ∈ rows, col < r.length) (hok : ∀ r ∈ rows, ∀ x ∈ r, okS x) (hl : rows.length ≤ 1000) :
    Calls Try.prog 6 #[.slice A rows.length c, .int .i64 col] w fun e w' => ∃ g, e = .returned (.tuple #[.pointer (some ⟨g, 0, none⟩), .int .i64 0]) ∧ Ix w' w.heap.size g (vals rows col rows.length) ∧ Below w.heap.size w w' := by
  have HR := Aside0.mk hr
  have HC := Aside0.mk hcol
  have HO := Aside0.mk hok
  clear hr hcol hok
  go_enter Try.func6, Try.ntmps6
  go_wp2
  obtain ⟨w2, own0, hw2, hx2, hp2, ho2, hb2⟩ := Ix0.start w
  rw [← hw2]
  have GE : Aside0 (w.heap.size + 1 + 1 < w2.heap.size) := ⟨blk_lt hp2⟩
  have HX2 := Aside0.mk hx2
  have HP2 := Aside0.mk hp2
  have HO2 := Aside0.mk ho2
  have HB2 := Aside0.mk hb2
  clear hw2 hx2 hp2 ho2 hb2
  obtain ⟨b0, hb0⟩ : ∃ b0, b0 = w.heap.size := ⟨_, rfl⟩
  obtain ⟨g, hg⟩ : ∃ g, g = w.heap.size + 1 := ⟨_, rfl⟩
  obtain ⟨p, hp⟩ : ∃ p, p = w.heap.size + 1 + 1 := ⟨_, rfl⟩
  have HGP : Aside0 (b0 ≤ g ∧ b0 ≤ p ∧ p ≠ g) := ⟨by omega, by omega, by omega⟩
  rw [← hp] at HP2 HO2 ⊢
  rw [← hg] at HX2 HP2 ⊢
  rw [← hb0] at HX2 HB2 ⊢
  have HB0 := Aside0.mk hb0
  clear hg hp GE hb0
  go_loopw [14] (fun s14 wr => ∃ (i : Nat) (own : Nat → Tg) (vl vs : Value), i ≤ rows.length ∧ s14 = .int .i64 i ∧ Aside0 (Ix0 wr b0 g b0 i own vl vs (vals rows col i) (places i) (bkt (vals rows col i))) ∧ Aside0 (wr.heap[p]? = some (.cells #[.pointer (some ⟨g, 0, none⟩)] 27 (0, 0))) ∧ Aside0 (own p = .no) ∧ Aside0 (Below b0 w wr)) (fun s14 _ => rows.length - (intOf s14).toNat)
  case atStart => exact ⟨0, own0, _, _, Nat.zero_le _, rfl, HX2, HP2, HO2, HB2⟩
  case round =>
    clear HX2 HP2 HO2 HB2
    obtain ⟨i, own, vl, vs, hi, rfl, HX, HP, HOP, HB⟩ := hrel
    by_cases hlt : i < rows.length
    · obtain ⟨adr, A0, c0, e, hrow, hc0, hC0⟩ := at_rows HR.out i hlt hlt
      cases e
      have hcl : col < rows[i].length := HC.out _ (List.getElem_mem hlt)
      obtain ⟨ad, e, hx0, hx1, hx2⟩ := at_row hC0 col hcl
      cases e
      have hcl0 : ∀ {a : Addr} {v : Value}, w.cell? a = some v → a.block < b0 := fun h => by rw [HB0.out]; exact World.block_lt_of_cell? w _ h
      have hup : ∀ {a : Addr} {v : Value}, w.cell? a = some v → wr.cell? a = some v := fun h => (HB.out.cell (hcl0 h)).trans h
      have HADB : Aside0 ((ad.add (col * 3)).block < b0) := ⟨hcl0 hx0⟩
      replace hrow := hup hrow
      replace hx0 := hup hx0
      replace hx1 := hup hx1
      replace hx2 := hup hx2
      clear hcl0 hup
      have hcz : ¬ (rows[i].length : Int) ≤ (col : Int) := by omega
      have hcn : ¬ (col : Int) < 0 := by omega
      clear hC0
      have hxo : okS (rd_T24 rows[i] (col : Int)) := by
        have : rd_T24 rows[i] (col : Int) = rows[i][col] := by unfold rd_T24; rw [Int.toNat_natCast, List.getD_eq_getElem?_getD, List.getElem?_eq_getElem hcl]; rfl
        rw [this]
        exact HO.out _ (List.getElem_mem hlt) _ (List.getElem_mem hcl)
      have HXO := Aside0.mk hxo
      have HVS : Aside0 (vals rows col (i + 1) = vals rows col i ++ [rd_T24 rows[i] (col : Int)]) := ⟨by unfold vals; rw [List.take_succ_eq_append_getElem hlt, List.map_append]; rfl⟩
      have HVL : Aside0 ((vals rows col i).length = i) := ⟨by unfold vals; rw [List.length_map, List.length_take]; omega⟩
      clear hxo
      generalize hxx : rd_T24 rows[i] (col : Int) = x at *
      generalize rows[i].length = rl at *
      clear hxx hcl
      have HI := Aside0.mk hi
      have HLT := Aside0.mk hlt
      go_wp2
      obtain ⟨W3, hW3⟩ : ∃ W3, W3 = wr := ⟨_, rfl⟩
      rw [← hW3] at HX HP HB hx0 hx1 hx2 hrow ⊢
      clear hW3
      obtain ⟨L1, hL1⟩ : ∃ L1, L1 = vals rows col i ++ [x] := ⟨_, rfl⟩
      obtain ⟨S1, hS1⟩ : ∃ S1, S1 = places i ++ [(i : Int)] := ⟨_, rfl⟩
      have HL1 := Aside0.mk hL1
      have HS1 := Aside0.mk hS1
      clear hL1 hS1
      obtain ⟨own2, ho2⟩ : ∃ own2, own2 = lab own W3.heap.size .vs := ⟨_, rfl⟩
      have hadb : (ad.add (col * 3)).block < W3.heap.size := World.block_lt_of_cell? W3 _ hx0
      have hado := HX.out.low _ HADB.out
      have hadn : own (ad.add (col * 3)).block ≠ .vs ∧ own (ad.add (col * 3)).block ≠ .ps := ⟨(fun h => by rw [hado] at h; cases h), (fun h => by rw [hado] at h; cases h)⟩
      have HS : Aside0 (∀ w', Kp W3 w' (fun j => own j = .vs ∨ own j = .ps) → w'.cell? ⟨p, 0, none⟩ = some (.pointer (some ⟨g, 0, none⟩)) ∧ w'.cell? ⟨g, 0, none⟩ = some vl ∧ w'.cell? ⟨g, 1, none⟩ = some vs ∧ w'.cell? (ad.add (col * 3)) = some (.int .i64 x.f0) ∧ w'.cell? ⟨(ad.add (col * 3)).block, (ad.add (col * 3)).off + 1, none⟩ = some (.int .i64 x.f1) ∧ w'.cell? ⟨(ad.add (col * 3)).block, (ad.add (col * 3)).off + 2, none⟩ = some (.string x.f2)) := ⟨fun w' hk => by
        have hg' := (hk.far g (blk_lt HX.out.blk) (fun h => by rw [HX.out.tg] at h; rcases h with h | h <;> cases h)).trans HX.out.blk
        have hp' := (hk.far p (blk_lt HP.out) (fun h => by rw [HOP.out] at h; rcases h with h | h <;> cases h)).trans HP.out
        have hr' := hk.far (ad.add (col * 3)).block hadb (fun h => by rcases h with h | h; exact hadn.1 h; exact hadn.2 h)
        exact ⟨(blk_cell hp' 0).trans rfl, (blk_cell hg' 0).trans rfl, (blk_cell hg' 1).trans rfl, (World.cell?_of_block hr').trans hx0, (World.cell?_of_block (a := ⟨(ad.add (col * 3)).block, (ad.add (col * 3)).off + 1, none⟩) hr').trans hx1, (World.cell?_of_block (a := ⟨(ad.add (col * 3)).block, (ad.add (col * 3)).off + 2, none⟩) hr').trans hx2⟩⟩
      have ST0 : RgA W3 W3.drew b0 own own2 vl (vals rows col i) := ⟨Kp.below (below_drew (Below.refl _ _)), Kp.below (below_drew (Below.refl _ _)), Kd.R_drew (by rw [ho2]; exact Kd.R_mono (Kd.R_bound HX.out.rl) (fun j hj => by rw [lab_old hj.2.2.1]; exact hj.1))⟩
      have n4_ : Aside0 (∀ j, W3.heap.size ≤ j → own2 j = .vs) := ⟨fun j hj => by rw [ho2]; exact lab_new hj⟩
      have n5_ : Aside0 (b0 ≤ W3.heap.size) := ⟨by have := HX.out.lo; have := blk_lt HX.out.blk; omega⟩
      have n6_ : Aside0 ((vals rows col i).length ≤ 1000 ∧ (places i).length ≤ 1000) := ⟨by rw [HVL.out]; unfold places; rw [List.length_map, List.length_range]; omega⟩
      have n7_ : Aside0 (∀ j, vl.ownBlock = some j → own j = .vs) := ⟨HX.out.rl.1⟩
      have n8_ : Aside0 (∀ j, vl.ownBlock = some j → j < W3.heap.size) := ⟨Kd.R_lt HX.out.rl⟩
      have n9_ : Aside0 (∀ wJ own3, own3 = lab own2 wJ.heap.size .ps → Kp W3 wJ (fun j => own j = .vs) → kI.R 3 wJ b0 (fun j => own3 j = .ps) vs (places i)) := ⟨fun wJ own3 h1 h2 => rg_places HX.out ho2 h1 h2⟩
      have n10_ : Aside0 (∀ wJ w6 own3 v38 v45, own3 = lab own2 wJ.heap.size .ps → RgA W3 wJ b0 own own2 v38 L1 → kI.R 3 w6 b0 (fun j => own3 j = .ps) v45 S1 → wJ.grownBy w6 vs.ownBlock → Kp W3 w6 (fun j => own j = .vs ∨ own j = .ps) ∧ w6.heap[g]? = some (.cells #[vl, vs, .map (some b0)] 44 (0, 0)) ∧
          (Ix0 ((w6.setCell ⟨g, 0, none⟩ v38).setCell ⟨g, 1, none⟩ v45) b0 g b0 i own3 v38 v45 L1 S1 (bkt (vals rows col i)) ∧ Kp W3 ((w6.setCell ⟨g, 0, none⟩ v38).setCell ⟨g, 1, none⟩ v45) (fun j => own j = .vs ∨ own j = .ps ∨ j = g) ∧ (∀ j, j < W3.heap.size → own3 j = own j))) :=
        ⟨fun wJ w6 own3 v38 v45 h1 h2 h3 h4 => by
          obtain ⟨q1, q2, q3⟩ := rg_done (v45 := v45) (S1 := S1) HX.out ho2 h1 h2 h4
          exact ⟨q1, q2, rg_end HX.out ho2 h1 h2.kv.size q1 q2 q3 h3⟩⟩
      have n11_ : Aside0 (∀ w6 v38, Kp W3 w6 (fun j => own j = .vs ∨ own j = .ps) → (w6.setCell ⟨g, 0, none⟩ v38).cell? ⟨p, 0, none⟩ = some (.pointer (some ⟨g, 0, none⟩))) := ⟨fun w6 v38 hk => (World.cell?_of_block (a := ⟨p, 0, none⟩) (Below.heap_setCell w6 ⟨g, 0, none⟩ v38 p HGP.out.2.2)).trans (HS.out _ hk).1⟩
      have n12_ : Aside0 (∀ w6 v38 v45, Kp W3 w6 (fun j => own j = .vs ∨ own j = .ps) → ((w6.setCell ⟨g, 0, none⟩ v38).setCell ⟨g, 1, none⟩ v45).cell? ⟨p, 0, none⟩ = some (.pointer (some ⟨g, 0, none⟩))) := ⟨fun w6 v38 v45 hk => (World.cell?_of_block (a := ⟨p, 0, none⟩) (Below.heap_setCell _ ⟨g, 1, none⟩ v45 p HGP.out.2.2)).trans (n11_.out w6 v38 hk)⟩
      have HXC : Aside0 (W3.cell? (ad.add (col * 3)) = some (.int .i64 x.f0) ∧ W3.cell? ⟨(ad.add (col * 3)).block, (ad.add (col * 3)).off + 1, none⟩ = some (.int .i64 x.f1) ∧ W3.cell? ⟨(ad.add (col * 3)).block, (ad.add (col * 3)).off + 2, none⟩ = some (.string x.f2)) := ⟨hx0, hx1, hx2⟩
      clear hx0 hx1 hx2 hadb hadn ho2 hrow hado
      refine start2_ (n := 25) (A := fun w' => w'.cell? ⟨p, 0, none⟩ = some (.pointer (some ⟨g, 0, none⟩))) (B := fun w' => w'.cell? ⟨g, 0, none⟩ = some vl ∧ w'.cell? ⟨g, 1, none⟩ = some vs ∧ w'.cell? (ad.add (col * 3)) = some (.int .i64 x.f0) ∧ w'.cell? ⟨(ad.add (col * 3)).block, (ad.add (col * 3)).off + 1, none⟩ = some (.int .i64 x.f1) ∧ w'.cell? ⟨(ad.add (col * 3)).block, (ad.add (col * 3)).off + 2, none⟩ = some (.string x.f2)) (ds := [21, 24]) #[false, false, false, false, false, false, false, false, false, false, false, false, false, false, false, false, false, false, false, false, false, false, false, false, false] (by kernel_rfl) rfl rfl ⟨(HS.out _ ST0.kp).1, (HS.out _ ST0.kp).2.1, (HS.out _ ST0.kp).2.2.1, (HS.out _ ST0.kp).2.2.2.1, (HS.out _ ST0.kp).2.2.2.2.1, (HS.out _ ST0.kp).2.2.2.2.2⟩ (fun hHeld => ?_)
      refine pure2_ (i := 6) (N := some 33) (v := ?_) (a' := ?_) #[false, false, false, false, false, false, true, false, false, false, false, false, false, false, false, false, false, false, false, false, false, false, false, false, false] rfl rfl (by kernel_rfl) (fun _ _ _ h => h) (Or.inl ⟨by rfl, ?_⟩) ?_ ?_
      rotate_left
      · intro w'
        go_simp
        with_reducible rfl
      rotate_left
      · simp only [Act.put, List.setIfInBounds_toArray, List.set_cons_zero, List.set_cons_succ, i64_w, i32_w]
        rfl
      refine pure2_ (i := 7) (N := some 34) (v := ?_) (a' := ?_) #[false, false, false, false, false, false, true, true, false, false, false, false, false, false, false, false, false, false, false, false, false, false, false, false, false] rfl rfl (by kernel_rfl) (fun _ _ _ h => h) (Or.inl ⟨by rfl, ?_⟩) ?_ ?_
      rotate_left
      · intro w'
        go_simp
        with_reducible rfl
      rotate_left
      · simp only [Act.put, List.setIfInBounds_toArray, List.set_cons_zero, List.set_cons_succ, i64_w, i32_w]
        rfl
      refine pure2_ (i := 8) (N := some 35) (v := ?_) (a' := ?_) #[false, false, false, false, false, false, true, true, true, false, false, false, false, false, false, false, false, false, false, false, false, false, false, false, false] rfl rfl (by kernel_rfl) (fun _ _ _ h => h) (Or.inl ⟨by rfl, ?_⟩) ?_ ?_
      rotate_left
      · intro w'
        go_simp
        with_reducible rfl
      rotate_left
      · simp only [Act.put, List.setIfInBounds_toArray, List.set_cons_zero, List.set_cons_succ, i64_w, i32_w]
        rfl
      refine pure2_ (i := 16) (N := some 43) (v := ?_) (a' := ?_) #[false, false, false, false, false, false, true, true, true, false, false, false, false, false, false, false, true, false, false, false, false, false, false, false, false] rfl rfl (by kernel_rfl) (fun _ _ _ h => h) (Or.inl ⟨by rfl, ?_⟩) ?_ ?_
      rotate_left
      · intro w'
        go_simp
        with_reducible rfl
      rotate_left
      · simp only [Act.put, List.setIfInBounds_toArray, List.set_cons_zero, List.set_cons_succ, i64_w, i32_w]
        rfl
      refine take2_ (i := 0) (N := some 27) (v := ?_) (a' := ?_) #[true, false, false, false, false, false, true, true, true, false, false, false, false, false, false, false, true, false, false, false, false, false, false, false, false] rfl rfl (by kernel_rfl) (fun _ _ _ h => h) (Or.inl ⟨by rfl, ?_⟩) hHeld ?_ ?_
      rotate_left
      · rintro w' ⟨s0, s1, s2, s3, s4, s5⟩
        go_simp
        with_reducible rfl
      rotate_left
      · simp only [Act.put, List.setIfInBounds_toArray, List.set_cons_zero, List.set_cons_succ, i64_w, i32_w]
        rfl
      refine takeA_ (i := 1) (N := some 28) (v := ?_) (a' := ?_) #[true, true, false, false, false, false, true, true, true, false, false, false, false, false, false, false, true, false, false, false, false, false, false, false, false] rfl rfl (by kernel_rfl) (fun _ _ _ h => h) (Or.inl ⟨by rfl, ?_⟩) hHeld.1 ?_ ?_
      rotate_left
      · intro w' s0
        go_simp
        with_reducible rfl
      rotate_left
      · simp only [Act.put, List.setIfInBounds_toArray, List.set_cons_zero, List.set_cons_succ, i64_w, i32_w]
        rfl
      refine take2_ (i := 2) (N := some 29) (v := ?_) (a' := ?_) #[true, true, true, false, false, false, true, true, true, false, false, false, false, false, false, false, true, false, false, false, false, false, false, false, false] rfl rfl (by kernel_rfl) (fun _ _ _ h => h) (Or.inl ⟨by rfl, ?_⟩) hHeld ?_ ?_
      rotate_left
      · rintro w' ⟨s0, s1, s2, s3, s4, s5⟩
        go_simp
        with_reducible rfl
      rotate_left
      · simp only [Act.put, List.setIfInBounds_toArray, List.set_cons_zero, List.set_cons_succ, i64_w, i32_w]
        rfl
      refine pure2_ (i := 3) (N := some 30) (v := ?_) (a' := ?_) #[true, true, true, true, false, false, true, true, true, false, false, false, false, false, false, false, true, false, false, false, false, false, false, false, false] rfl rfl (by kernel_rfl) (fun _ _ _ h => h) (Or.inl ⟨by rfl, ?_⟩) ?_ ?_
      rotate_left
      · intro w'
        go_simp
        with_reducible rfl
      rotate_left
      · simp only [Act.put, List.setIfInBounds_toArray, List.set_cons_zero, List.set_cons_succ, i64_w, i32_w]
        rfl
      refine pure2_ (i := 4) (N := some 31) (v := ?_) (a' := ?_) #[true, true, true, true, true, false, true, true, true, false, false, false, false, false, false, false, true, false, false, false, false, false, false, false, false] rfl rfl (by kernel_rfl) (fun _ _ _ h => h) (Or.inl ⟨by rfl, ?_⟩) ?_ ?_
      rotate_left
      · intro w'
        go_simp
        with_reducible rfl
      rotate_left
      · simp only [Act.put, List.setIfInBounds_toArray, List.set_cons_zero, List.set_cons_succ, i64_w, i32_w]
        rfl
      refine take2_ (i := 5) (N := some 32) (v := ?_) (a' := ?_) #[true, true, true, true, true, true, true, true, true, false, false, false, false, false, false, false, true, false, false, false, false, false, false, false, false] rfl rfl (by kernel_rfl) (fun _ _ _ h => h) (Or.inl ⟨by rfl, ?_⟩) hHeld ?_ ?_
      rotate_left
      · rintro w' ⟨s0, s1, s2, s3, s4, s5⟩
        go_simp
        with_reducible rfl
      rotate_left
      · simp only [Act.put, List.setIfInBounds_toArray, List.set_cons_zero, List.set_cons_succ, i64_w, i32_w]
        rfl
      refine take2_ (i := 9) (N := some 36) (v := ?_) (a' := ?_) #[true, true, true, true, true, true, true, true, true, true, false, false, false, false, false, false, true, false, false, false, false, false, false, false, false] rfl rfl (by kernel_rfl) (fun _ _ _ h => h) (Or.inl ⟨by rfl, ?_⟩) hHeld ?_ ?_
      rotate_left
      · rintro w' ⟨s0, s1, s2, s3, s4, s5⟩
        go_simp
        with_reducible rfl
      rotate_left
      · simp only [Act.put, List.setIfInBounds_toArray, List.set_cons_zero, List.set_cons_succ, i64_w, i32_w]
        rfl
      refine take2_ (i := 12) (N := some 39) (v := ?_) (a' := ?_) #[true, true, true, true, true, true, true, true, true, true, false, false, true, false, false, false, true, false, false, false, false, false, false, false, false] rfl rfl (by kernel_rfl) (fun _ _ _ h => h) (Or.inl ⟨by rfl, ?_⟩) hHeld ?_ ?_
      rotate_left
      · rintro w' ⟨s0, s1, s2, s3, s4, s5⟩
        go_simp
        with_reducible rfl
      rotate_left
      · simp only [Act.put, List.setIfInBounds_toArray, List.set_cons_zero, List.set_cons_succ, i64_w, i32_w]
        rfl
      refine pure2_ (i := 13) (N := some 40) (v := ?_) (a' := ?_) #[true, true, true, true, true, true, true, true, true, true, false, false, true, true, false, false, true, false, false, false, false, false, false, false, false] rfl rfl (by kernel_rfl) (fun _ _ _ h => h) (Or.inl ⟨by rfl, ?_⟩) ?_ ?_
      rotate_left
      · intro w'
        go_simp
        with_reducible rfl
      rotate_left
      · simp only [Act.put, List.setIfInBounds_toArray, List.set_cons_zero, List.set_cons_succ, i64_w, i32_w]
        rfl
      refine pure2_ (i := 14) (N := some 41) (v := ?_) (a' := ?_) #[true, true, true, true, true, true, true, true, true, true, false, false, true, true, true, false, true, false, false, false, false, false, false, false, false] rfl rfl (by kernel_rfl) (fun _ _ _ h => h) (Or.inl ⟨by rfl, ?_⟩) ?_ ?_
      rotate_left
      · intro w'
        go_simp
        with_reducible rfl
      rotate_left
      · simp only [Act.put, List.setIfInBounds_toArray, List.set_cons_zero, List.set_cons_succ, i64_w, i32_w]
        rfl
      refine take2_ (i := 15) (N := some 42) (v := ?_) (a' := ?_) #[true, true, true, true, true, true, true, true, true, true, false, false, true, true, true, true, true, false, false, false, false, false, false, false, false] rfl rfl (by kernel_rfl) (fun _ _ _ h => h) (Or.inl ⟨by rfl, ?_⟩) hHeld ?_ ?_
      rotate_left
      · rintro w' ⟨s0, s1, s2, s3, s4, s5⟩
        go_simp
        with_reducible rfl
      rotate_left
      · simp only [Act.put, List.setIfInBounds_toArray, List.set_cons_zero, List.set_cons_succ, i64_w, i32_w]
        rfl
      refine join2_ (σ := Value × Value × Value) 7 #[true, true, true, true, true, true, true, true, true, true, true, true, true, true, true, true, true, true, false, false, false, false, false, false, false] (fun s => [(37, s.1), (38, s.2.1), (44, s.2.2)]) (fun s w' => ∃ n44 : Nat, s.2.2 = .slice (some ⟨n44, 0, none⟩) 1 1 ∧ Lit44 W3 w' n44 (i : Int) ∧ RgA W3 w' b0 own own2 s.2.1 L1) ?_ ?_
      rotate_left
      · intro hCont
        refine two2_ (i := 10) (j := 17) (Ni := some 37) (Nj := some 44) #[true, true, true, true, true, true, true, true, true, true, true, false, true, true, true, true, true, false, false, false, false, false, false, false, false] #[true, true, true, true, true, true, true, true, true, true, false, false, true, true, true, true, true, true, false, false, false, false, false, false, false] rfl rfl rfl rfl (by kernel_rfl) (by decide) (by decide) (fun K hK => ?_) (fun K hK => ?_)
        · skip
          refine value_ (w1 := W3.drew.alloc (.cells #[.int .i64 x.f0, .int .i64 x.f1, .string x.f2] 24)) (v := .slice (some ⟨W3.drew.heap.size, 0, none⟩) 1 1) (by rfl) rfl ?_ ?_
          · first | (go_simp; done) | (go_simp; rfl)
          have ST1 := ST0.alloc (.cells #[.int .i64 x.f0, .int .i64 x.f1, .string x.f2] 24)
          have h37 : k24.C (W3.drew.alloc (.cells #[.int .i64 x.f0, .int .i64 x.f1, .string x.f2] 24)) (some ⟨W3.drew.heap.size, 0, none⟩) 1 [x] := C_lit k24 24 W3.drew [x] _ (Reps.c3 (k24_mk _ _) (Reps.none _ _)) (by simp) rfl
          generalize W3.drew.alloc (.cells #[.int .i64 x.f0, .int .i64 x.f1, .string x.f2] 24) = wq1 at *
          generalize W3.drew.heap.size = n37 at *
          refine hK.out _ _ ⟨(HS.out _ ST1.kp).1, (HS.out _ ST1.kp).2.1, (HS.out _ ST1.kp).2.2.1, (HS.out _ ST1.kp).2.2.2.1, (HS.out _ ST1.kp).2.2.2.2.1, (HS.out _ ST1.kp).2.2.2.2.2⟩ (fun hHeld => ?_)
          clear hK K
          refine norm2_ (a' := ?_) ?_ ?_
          rotate_left
          · show Act.put _ (some 37) _ = _
            simp only [Act.put, List.setIfInBounds_toArray, List.set_cons_zero, List.set_cons_succ, i64_w, i32_w]
            rfl
          refine two2_ (i := 11) (j := 17) (Ni := some 38) (Nj := some 44) #[true, true, true, true, true, true, true, true, true, true, true, true, true, true, true, true, true, false, false, false, false, false, false, false, false] #[true, true, true, true, true, true, true, true, true, true, true, false, true, true, true, true, true, true, false, false, false, false, false, false, false] rfl rfl rfl rfl (by kernel_rfl) (by decide) (by decide) (fun K hK => ?_) (fun K hK => ?_)
          · skip
            refine Kd.R_append_rows_step k24 (Rr := k24.K wq1) (w0 := wq1) b0 (by rfl) (.tmp 32) (.tmp 37) 22 24 (.agg #[.int .i64 0, .int .i64 0, .string (⟨#[]⟩ : ByteArray)]) 32 (by rfl) Try.underlying22 info24 rfl (by decide) (by decide) vl (vals rows col i) [x] (some ⟨n37, 0, none⟩) 1 1 (fun k_ => own2 k_ = .vs) (fun _ => False) (by rfl) (by rfl) ST1.rl h37 (fun x_ cs_ h_ => by rw [k24_open h_]; exact k24_mkM _ _ _ _) (fun _ hk => hk.elim) (fun k_ hk_ => n4_.out k_ (Nat.le_trans ST1.kv.size hk_)) (Below.refl _ _) (Nat.le_trans n5_.out ST1.kv.size) ?aL ?_
            (case aL => have := n6_.out; omega)
            intro v38 wq2 hR38 hb38 hg38 hat38
            clear hb38 hat38
            rw [← HL1.out] at hR38
            have ST2 := ST1.app n7_.out hR38 hg38
            refine hK.out _ _ ⟨(HS.out _ ST2.kp).1, (HS.out _ ST2.kp).2.1, (HS.out _ ST2.kp).2.2.1, (HS.out _ ST2.kp).2.2.2.1, (HS.out _ ST2.kp).2.2.2.2.1, (HS.out _ ST2.kp).2.2.2.2.2⟩ (fun hHeld => ?_)
            clear hK K
            refine norm2_ (a' := ?_) ?_ ?_
            rotate_left
            · show Act.put _ (some 38) _ = _
              simp only [Act.put, List.setIfInBounds_toArray, List.set_cons_zero, List.set_cons_succ, i64_w, i32_w]
              rfl
            refine one2_ (i := 17) (N := some 44) #[true, true, true, true, true, true, true, true, true, true, true, true, true, true, true, true, true, true, false, false, false, false, false, false, false] rfl rfl (by kernel_rfl) (by decide) (fun K hK => ?_)
            refine value_ (w1 := wq2.alloc (.cells #[.int .i64 (i : Int)] 3)) (v := .slice (some ⟨wq2.heap.size, 0, none⟩) 1 1) (by rfl) rfl ?_ ?_
            · first | (go_simp; done) | (go_simp; rfl)
            have ST3 := ST2.alloc (.cells #[.int .i64 (i : Int)] 3)
            have h44 : Lit44 W3 (wq2.alloc (.cells #[.int .i64 (i : Int)] 3)) wq2.heap.size (i : Int) := ⟨blk_new _ _, ST2.kv.size⟩
            generalize wq2.alloc (.cells #[.int .i64 (i : Int)] 3) = wq3 at *
            generalize wq2.heap.size = n44 at *
            refine hK.out _ _ ⟨(HS.out _ ST3.kp).1, (HS.out _ ST3.kp).2.1, (HS.out _ ST3.kp).2.2.1, (HS.out _ ST3.kp).2.2.2.1, (HS.out _ ST3.kp).2.2.2.2.1, (HS.out _ ST3.kp).2.2.2.2.2⟩ (fun hHeld => ?_)
            clear hK K
            refine norm2_ (a' := ?_) ?_ ?_
            rotate_left
            · show Act.put _ (some 44) _ = _
              simp only [Act.put, List.setIfInBounds_toArray, List.set_cons_zero, List.set_cons_succ, i64_w, i32_w]
              rfl
            exact norm2_ (by simp only [putAll, Act.put, List.setIfInBounds_toArray, List.set_cons_zero, List.set_cons_succ]) (hCont (.slice (some ⟨n37, 0, none⟩) 1 1, v38, .slice (some ⟨n44, 0, none⟩) 1 1) _ ⟨n44, rfl, h44, ST3⟩)
          · skip
            refine value_ (w1 := wq1.alloc (.cells #[.int .i64 (i : Int)] 3)) (v := .slice (some ⟨wq1.heap.size, 0, none⟩) 1 1) (by rfl) rfl ?_ ?_
            · first | (go_simp; done) | (go_simp; rfl)
            have ST2 := ST1.alloc (.cells #[.int .i64 (i : Int)] 3)
            have h44 : Lit44 W3 (wq1.alloc (.cells #[.int .i64 (i : Int)] 3)) wq1.heap.size (i : Int) := ⟨blk_new _ _, ST1.kv.size⟩
            replace h37 := Kd.C_alloc h37 (.cells #[.int .i64 (i : Int)] 3)
            generalize wq1.alloc (.cells #[.int .i64 (i : Int)] 3) = wq2 at *
            generalize wq1.heap.size = n44 at *
            refine hK.out _ _ ⟨(HS.out _ ST2.kp).1, (HS.out _ ST2.kp).2.1, (HS.out _ ST2.kp).2.2.1, (HS.out _ ST2.kp).2.2.2.1, (HS.out _ ST2.kp).2.2.2.2.1, (HS.out _ ST2.kp).2.2.2.2.2⟩ (fun hHeld => ?_)
            clear hK K
            refine norm2_ (a' := ?_) ?_ ?_
            rotate_left
            · show Act.put _ (some 44) _ = _
              simp only [Act.put, List.setIfInBounds_toArray, List.set_cons_zero, List.set_cons_succ, i64_w, i32_w]
              rfl
            refine one2_ (i := 11) (N := some 38) #[true, true, true, true, true, true, true, true, true, true, true, true, true, true, true, true, true, true, false, false, false, false, false, false, false] rfl rfl (by kernel_rfl) (by decide) (fun K hK => ?_)
            refine Kd.R_append_rows_step k24 (Rr := k24.K wq2) (w0 := wq2) b0 (by rfl) (.tmp 32) (.tmp 37) 22 24 (.agg #[.int .i64 0, .int .i64 0, .string (⟨#[]⟩ : ByteArray)]) 32 (by rfl) Try.underlying22 info24 rfl (by decide) (by decide) vl (vals rows col i) [x] (some ⟨n37, 0, none⟩) 1 1 (fun k_ => own2 k_ = .vs) (fun _ => False) (by rfl) (by rfl) ST2.rl h37 (fun x_ cs_ h_ => by rw [k24_open h_]; exact k24_mkM _ _ _ _) (fun _ hk => hk.elim) (fun k_ hk_ => n4_.out k_ (Nat.le_trans ST2.kv.size hk_)) (Below.refl _ _) (Nat.le_trans n5_.out ST2.kv.size) ?aL ?_
            (case aL => have := n6_.out; omega)
            intro v38 wq3 hR38 hb38 hg38 hat38
            clear hb38 hat38
            rw [← HL1.out] at hR38
            have ST3 := ST2.app n7_.out hR38 hg38
            replace h44 := Lit44.app h44 hg38 n8_.out
            refine hK.out _ _ ⟨(HS.out _ ST3.kp).1, (HS.out _ ST3.kp).2.1, (HS.out _ ST3.kp).2.2.1, (HS.out _ ST3.kp).2.2.2.1, (HS.out _ ST3.kp).2.2.2.2.1, (HS.out _ ST3.kp).2.2.2.2.2⟩ (fun hHeld => ?_)
            clear hK K
            refine norm2_ (a' := ?_) ?_ ?_
            rotate_left
            · show Act.put _ (some 38) _ = _
              simp only [Act.put, List.setIfInBounds_toArray, List.set_cons_zero, List.set_cons_succ, i64_w, i32_w]
              rfl
            exact norm2_ (by simp only [putAll, Act.put, List.setIfInBounds_toArray, List.set_cons_zero, List.set_cons_succ]) (hCont (.slice (some ⟨n37, 0, none⟩) 1 1, v38, .slice (some ⟨n44, 0, none⟩) 1 1) _ ⟨n44, rfl, h44, ST3⟩)
        · skip
          refine value_ (w1 := W3.drew.alloc (.cells #[.int .i64 (i : Int)] 3)) (v := .slice (some ⟨W3.drew.heap.size, 0, none⟩) 1 1) (by rfl) rfl ?_ ?_
          · first | (go_simp; done) | (go_simp; rfl)
          have ST1 := ST0.alloc (.cells #[.int .i64 (i : Int)] 3)
          have h44 : Lit44 W3 (W3.drew.alloc (.cells #[.int .i64 (i : Int)] 3)) W3.drew.heap.size (i : Int) := ⟨blk_new _ _, ST0.kv.size⟩
          generalize W3.drew.alloc (.cells #[.int .i64 (i : Int)] 3) = wq1 at *
          generalize W3.drew.heap.size = n44 at *
          refine hK.out _ _ ⟨(HS.out _ ST1.kp).1, (HS.out _ ST1.kp).2.1, (HS.out _ ST1.kp).2.2.1, (HS.out _ ST1.kp).2.2.2.1, (HS.out _ ST1.kp).2.2.2.2.1, (HS.out _ ST1.kp).2.2.2.2.2⟩ (fun hHeld => ?_)
          clear hK K
          refine norm2_ (a' := ?_) ?_ ?_
          rotate_left
          · show Act.put _ (some 44) _ = _
            simp only [Act.put, List.setIfInBounds_toArray, List.set_cons_zero, List.set_cons_succ, i64_w, i32_w]
            rfl
          refine one2_ (i := 10) (N := some 37) #[true, true, true, true, true, true, true, true, true, true, true, false, true, true, true, true, true, true, false, false, false, false, false, false, false] rfl rfl (by kernel_rfl) (by decide) (fun K hK => ?_)
          refine value_ (w1 := wq1.alloc (.cells #[.int .i64 x.f0, .int .i64 x.f1, .string x.f2] 24)) (v := .slice (some ⟨wq1.heap.size, 0, none⟩) 1 1) (by rfl) rfl ?_ ?_
          · first | (go_simp; done) | (go_simp; rfl)
          have ST2 := ST1.alloc (.cells #[.int .i64 x.f0, .int .i64 x.f1, .string x.f2] 24)
          have h37 : k24.C (wq1.alloc (.cells #[.int .i64 x.f0, .int .i64 x.f1, .string x.f2] 24)) (some ⟨wq1.heap.size, 0, none⟩) 1 [x] := C_lit k24 24 wq1 [x] _ (Reps.c3 (k24_mk _ _) (Reps.none _ _)) (by simp) rfl
          replace h44 := Lit44.alloc h44 (.cells #[.int .i64 x.f0, .int .i64 x.f1, .string x.f2] 24)
          generalize wq1.alloc (.cells #[.int .i64 x.f0, .int .i64 x.f1, .string x.f2] 24) = wq2 at *
          generalize wq1.heap.size = n37 at *
          refine hK.out _ _ ⟨(HS.out _ ST2.kp).1, (HS.out _ ST2.kp).2.1, (HS.out _ ST2.kp).2.2.1, (HS.out _ ST2.kp).2.2.2.1, (HS.out _ ST2.kp).2.2.2.2.1, (HS.out _ ST2.kp).2.2.2.2.2⟩ (fun hHeld => ?_)
          clear hK K
          refine norm2_ (a' := ?_) ?_ ?_
          rotate_left
          · show Act.put _ (some 37) _ = _
            simp only [Act.put, List.setIfInBounds_toArray, List.set_cons_zero, List.set_cons_succ, i64_w, i32_w]
            rfl
          refine one2_ (i := 11) (N := some 38) #[true, true, true, true, true, true, true, true, true, true, true, true, true, true, true, true, true, true, false, false, false, false, false, false, false] rfl rfl (by kernel_rfl) (by decide) (fun K hK => ?_)
          refine Kd.R_append_rows_step k24 (Rr := k24.K wq2) (w0 := wq2) b0 (by rfl) (.tmp 32) (.tmp 37) 22 24 (.agg #[.int .i64 0, .int .i64 0, .string (⟨#[]⟩ : ByteArray)]) 32 (by rfl) Try.underlying22 info24 rfl (by decide) (by decide) vl (vals rows col i) [x] (some ⟨n37, 0, none⟩) 1 1 (fun k_ => own2 k_ = .vs) (fun _ => False) (by rfl) (by rfl) ST2.rl h37 (fun x_ cs_ h_ => by rw [k24_open h_]; exact k24_mkM _ _ _ _) (fun _ hk => hk.elim) (fun k_ hk_ => n4_.out k_ (Nat.le_trans ST2.kv.size hk_)) (Below.refl _ _) (Nat.le_trans n5_.out ST2.kv.size) ?aL ?_
          (case aL => have := n6_.out; omega)
          intro v38 wq3 hR38 hb38 hg38 hat38
          clear hb38 hat38
          rw [← HL1.out] at hR38
          have ST3 := ST2.app n7_.out hR38 hg38
          replace h44 := Lit44.app h44 hg38 n8_.out
          refine hK.out _ _ ⟨(HS.out _ ST3.kp).1, (HS.out _ ST3.kp).2.1, (HS.out _ ST3.kp).2.2.1, (HS.out _ ST3.kp).2.2.2.1, (HS.out _ ST3.kp).2.2.2.2.1, (HS.out _ ST3.kp).2.2.2.2.2⟩ (fun hHeld => ?_)
          clear hK K
          refine norm2_ (a' := ?_) ?_ ?_
          rotate_left
          · show Act.put _ (some 38) _ = _
            simp only [Act.put, List.setIfInBounds_toArray, List.set_cons_zero, List.set_cons_succ, i64_w, i32_w]
            rfl
          exact norm2_ (by simp only [putAll, Act.put, List.setIfInBounds_toArray, List.set_cons_zero, List.set_cons_succ]) (hCont (.slice (some ⟨n37, 0, none⟩) 1 1, v38, .slice (some ⟨n44, 0, none⟩) 1 1) _ ⟨n44, rfl, h44, ST3⟩)
      rintro ⟨v37, v38, v44⟩ wJ ⟨n44, hq, h44, STJ⟩
      simp only at hq STJ
      subst hq
      obtain ⟨A38, c38, e38⟩ := Kd.R_slice STJ.rl
      subst e38
      have hHeld : (wJ.cell? ⟨p, 0, none⟩ = some (.pointer (some ⟨g, 0, none⟩)) ∧ wJ.cell? ⟨g, 0, none⟩ = some vl ∧ wJ.cell? ⟨g, 1, none⟩ = some vs ∧ wJ.cell? (ad.add (col * 3)) = some (.int .i64 x.f0) ∧ wJ.cell? ⟨(ad.add (col * 3)).block, (ad.add (col * 3)).off + 1, none⟩ = some (.int .i64 x.f1) ∧ wJ.cell? ⟨(ad.add (col * 3)).block, (ad.add (col * 3)).off + 2, none⟩ = some (.string x.f2)) := HS.out _ STJ.kp
      refine norm2_ (a' := ?_) ?_ ?_
      rotate_left
      · simp only [putAll, Act.put, List.setIfInBounds_toArray, List.set_cons_zero, List.set_cons_succ]
        rfl
      refine one2_ (i := 18) (N := some 45) #[true, true, true, true, true, true, true, true, true, true, true, true, true, true, true, true, true, true, true, false, false, false, false, false, false] rfl rfl (by kernel_rfl) (by decide) (fun K hK => ?_)
      obtain ⟨own3, ho3⟩ : ∃ own3, own3 = lab own2 wJ.heap.size .ps := ⟨_, rfl⟩
      have hp3 := n9_.out wJ own3 ho3 STJ.kv
      refine Kd.R_append_rows_step kI (Rr := kI.K wJ) (w0 := wJ) b0 (by rfl) (.tmp 42) (.tmp 44) 31 3 (.int .i64 0) 8 (by rfl) Try.underlying31 info3 rfl (by decide) (by decide) vs (places i) [(i : Int)] (some ⟨n44, 0, none⟩) 1 1 (fun k_ => own3 k_ = .ps) (fun _ => False) (by rfl) (by rfl) hp3 h44.toC (fun x_ cs_ h_ => h_) (fun _ hk => hk.elim) (fun k_ hk_ => by rw [ho3]; exact lab_new hk_) (Below.refl _ _) (Nat.le_trans n5_.out STJ.kv.size) ?aL ?_
      (case aL => have := n6_.out; omega)
      intro v45 w6 hR45 hb45 hg45 hat45
      clear hb45 hat45
      rw [← HS1.out] at hR45
      obtain ⟨A45, c45, e45⟩ := Kd.R_slice hR45
      subst e45
      have hD := n10_.out wJ w6 own3 (.slice A38 L1.length c38) (.slice A45 S1.length c45) ho3 STJ hR45 hg45
      have hKP := hD.1
      have g6 := hD.2.1
      have HEND := Aside0.mk hD.2.2
      clear hD hR45 hg45
      refine hK.out _ _ ⟨(HS.out _ hKP).1, (HS.out _ hKP).2.1, (HS.out _ hKP).2.2.1, (HS.out _ hKP).2.2.2.1, (HS.out _ hKP).2.2.2.2.1, (HS.out _ hKP).2.2.2.2.2⟩ (fun hHeld => ?_)
      clear hK K
      refine norm2_ (a' := ?_) ?_ ?_
      rotate_left
      · show Act.put _ (some 45) _ = _
        simp only [Act.put, List.setIfInBounds_toArray, List.set_cons_zero, List.set_cons_succ, i64_w, i32_w]
        rfl
      refine pure2_ (i := 19) (N := some 46) (v := ?_) (a' := ?_) #[true, true, true, true, true, true, true, true, true, true, true, true, true, true, true, true, true, true, true, true, false, false, false, false, false] rfl rfl (by kernel_rfl) (fun _ _ _ h => h) (Or.inl ⟨by rfl, ?_⟩) ?_ ?_
      rotate_left
      · intro w'
        go_simp
        with_reducible rfl
      rotate_left
      · simp only [Act.put, List.setIfInBounds_toArray, List.set_cons_zero, List.set_cons_succ, i64_w, i32_w]
        rfl
      refine pure2_ (i := 20) (N := some 47) (v := ?_) (a' := ?_) #[true, true, true, true, true, true, true, true, true, true, true, true, true, true, true, true, true, true, true, true, true, false, false, false, false] rfl rfl (by kernel_rfl) (fun _ _ _ h => h) (Or.inl ⟨by rfl, ?_⟩) ?_ ?_
      rotate_left
      · intro w'
        go_simp
        with_reducible rfl
      rotate_left
      · simp only [Act.put, List.setIfInBounds_toArray, List.set_cons_zero, List.set_cons_succ, i64_w, i32_w]
        rfl
      refine last2_ (i := 21) (N := none) #[true, true, true, true, true, true, true, true, true, true, true, true, true, true, true, true, true, true, true, true, true, true, false, false, false] rfl rfl (by kernel_rfl) (by decide) (fun K hK => ?_)
      have hs20 := (blk_cell g6 0).trans rfl
      have hfs20 := blk_frozen g6 0
      have hpA := n11_.out _ (.slice A38 L1.length c38) hKP
      refine skip_ (w1 := ?_) (by rfl) rfl ?_ ?_
      rotate_left
      · go_simp
        rfl
      refine hK.out _ _ hpA ?_
      clear hK K
      refine pure2_ (i := 22) (N := some 48) (v := ?_) (a' := ?_) #[true, true, true, true, true, true, true, true, true, true, true, true, true, true, true, true, true, true, true, true, true, true, true, false, false] rfl rfl (by kernel_rfl) (fun _ _ _ h => h) (Or.inl ⟨by rfl, ?_⟩) ?_ ?_
      rotate_left
      · intro w'
        go_simp
        with_reducible rfl
      rotate_left
      · simp only [Act.put, List.setIfInBounds_toArray, List.set_cons_zero, List.set_cons_succ, i64_w, i32_w]
        rfl
      refine pure2_ (i := 23) (N := some 49) (v := ?_) (a' := ?_) #[true, true, true, true, true, true, true, true, true, true, true, true, true, true, true, true, true, true, true, true, true, true, true, true, false] rfl rfl (by kernel_rfl) (fun _ _ _ h => h) (Or.inl ⟨by rfl, ?_⟩) ?_ ?_
      rotate_left
      · intro w'
        go_simp
        with_reducible rfl
      rotate_left
      · simp only [Act.put, List.setIfInBounds_toArray, List.set_cons_zero, List.set_cons_succ, i64_w, i32_w]
        rfl
      refine last2_ (i := 24) (N := none) #[true, true, true, true, true, true, true, true, true, true, true, true, true, true, true, true, true, true, true, true, true, true, true, true, true] rfl rfl (by kernel_rfl) (by decide) (fun K hK => ?_)
      have g7 : (w6.setCell ⟨g, 0, none⟩ (.slice A38 L1.length c38)).heap[g]? = some (.cells #[(.slice A38 L1.length c38), vs, .map (some b0)] 44 (0, 0)) := blk_set g6 0 (.slice A38 L1.length c38)
      have hs21 := (blk_cell g7 1).trans rfl
      have hfs21 := blk_frozen g7 1
      have hpB := n12_.out _ (.slice A38 L1.length c38) (.slice A45 S1.length c45) hKP
      refine skip_ (w1 := ?_) (by rfl) rfl ?_ ?_
      rotate_left
      · go_simp
        rfl
      refine hK.out _ _ hpB ?_
      clear hK K
      refine done2_ (by kernel_rfl) ?_
      obtain ⟨w8, hw8⟩ : ∃ w8, w8 = ((w6.setCell ⟨g, 0, none⟩ (.slice A38 L1.length c38)).setCell ⟨g, 1, none⟩ (.slice A45 S1.length c45)) := ⟨_, rfl⟩
      rw [← hw8] at HEND ⊢
      generalize Value.slice A38 L1.length c38 = v38 at *
      generalize Value.slice A45 S1.length c45 = v45 at *
      have hx8 := HEND.out.1
      have hk8 := HEND.out.2.1
      have ho8 := HEND.out.2.2
      clear HEND STJ g7 g6 hs20 hfs20 hs21 hfs21 hpA hpB hKP hp3 h44 ho3 hHeld hw8 n12_ n11_ n10_ n9_ n4_ n6_ n7_ n8_ ST0
      have hx3 := HXC.out
      have hadf : w8.heap[(ad.add (col * 3)).block]? = W3.heap[(ad.add (col * 3)).block]? := hk8.far _ (World.block_lt_of_cell? W3 _ hx3.1) (fun h => by
        have h0 := HX.out.low _ HADB.out
        rcases h with h | h | h
        · rw [h0] at h; cases h
        · rw [h0] at h; cases h
        · have := HADB.out; have := HX.out.lo; omega)
      have hpf : w8.heap[p]? = some (.cells #[.pointer (some ⟨g, 0, none⟩)] 27 (0, 0)) := (hk8.far p (blk_lt HP.out) (fun h => by
        have h0 := HOP.out
        rcases h with h | h | h
        · rw [h0] at h; cases h
        · rw [h0] at h; cases h
        · exact HGP.out.2.2 h)).trans HP.out
      have hb8 : Below b0 w w8 := HB.out.trans (hk8.bel n5_.out (fun j hj h => by
        have h0 := HX.out.low _ hj
        rcases h with h | h | h
        · rw [h0] at h; cases h
        · rw [h0] at h; cases h
        · have := HX.out.lo; omega))
      have ho8p : own3 p = .no := (ho8 p (blk_lt HP.out)).trans HOP.out
      have m0_ : Aside0 (w8.drew.cell? ⟨p, 0, none⟩ = some (.pointer (some ⟨g, 0, none⟩))) := ⟨(blk_cell (blk_drew hpf) 0).trans rfl⟩
      have m1_ : Aside0 (w8.drew.cell? ⟨g, 2, none⟩ = some (.map (some b0))) := ⟨(blk_cell (blk_drew hx8.blk) 2).trans rfl⟩
      have m2_ : Aside0 (w8.drew.cell? (ad.add (col * 3)) = some (.int .i64 x.f0)) := ⟨(World.cell?_of_block hadf).trans hx3.1⟩
      have m3_ : Aside0 (w8.drew.cell? ⟨(ad.add (col * 3)).block, (ad.add (col * 3)).off + 1, none⟩ = some (.int .i64 x.f1)) := ⟨(World.cell?_of_block (a := ⟨(ad.add (col * 3)).block, (ad.add (col * 3)).off + 1, none⟩) hadf).trans hx3.2.1⟩
      have m4_ : Aside0 (w8.drew.cell? ⟨(ad.add (col * 3)).block, (ad.add (col * 3)).off + 2, none⟩ = some (.string x.f2)) := ⟨(World.cell?_of_block (a := ⟨(ad.add (col * 3)).block, (ad.add (col * 3)).off + 2, none⟩) hadf).trans hx3.2.2⟩
      have hbl : (bkt (vals rows col i) x).length < 1099511627776 := by
        have h1 := List.length_filter_le (fun j => decide ((vals rows col i)[j]? = some x)) (List.range (vals rows col i).length)
        unfold bkt
        rw [List.length_map]
        rw [List.length_range] at h1
        have h2 := HVL.out
        omega
      have m5_ : Aside0 (Calls Try.prog 15 #[.map (some b0), .agg #[.int .i64 x.f0, .int .i64 x.f1, .string x.f2], .int .i64 (i : Int)] w8.drew fun e w' => e = .returned (.tuple #[]) ∧ Bks w' b0 b0 (i + 1) (lab own3 w8.heap.size (.key x)) (updL (bkt (vals rows col i)) x (bkt (vals rows col i) x ++ [(i : Int)])) ∧ Kp w8 w' (fun j => own3 j = .mp ∨ own3 j = .key x)) :=
        ⟨(put24 w8.drew b0 b0 i own3 (bkt (vals rows col i)) x (i : Int) (hx8.bk.move (fun _ _ => rfl) (fun _ _ _ => rfl)) HXO.out (by unfold maxLen; omega) hbl (Nat.le_trans n5_.out hk8.size)).mono (fun e w' h => ⟨h.1, h.2.1, ⟨h.2.2.os, h.2.2.tape, h.2.2.output, h.2.2.size, h.2.2.far⟩⟩)⟩
      have M6 : Aside0 (∀ w9, Bks w9 b0 b0 (i + 1) (lab own3 w8.heap.size (.key x)) (updL (bkt (vals rows col i)) x (bkt (vals rows col i) x ++ [(i : Int)])) → Kp w8 w9 (fun j => own3 j = .mp ∨ own3 j = .key x) → ∃ own4, Ix0 w9 b0 g b0 (i + 1) own4 v38 v45 (vals rows col (i + 1)) (places (i + 1)) (bkt (vals rows col (i + 1))) ∧ w9.heap[p]? = some (.cells #[.pointer (some ⟨g, 0, none⟩)] 27 (0, 0)) ∧ own4 p = .no ∧ Below b0 w w9) := ⟨fun w9 h1 h2 => by
        obtain ⟨q1, q2⟩ := hx8.put rfl h1 h2
        refine ⟨_, ?_, ?_, (q2 p (blk_lt hpf)).trans ho8p, hb8.trans (h2.bel (Nat.le_trans n5_.out hk8.size) (fun j hj h => by rw [hx8.low j hj] at h; rcases h with h | h <;> cases h))⟩
        · rw [HVS.out, places_succ, bkt_app, HVL.out, ← HL1.out, ← HS1.out]
          exact q1
        · exact (h2.far p (blk_lt hpf) (fun h => by rw [ho8p] at h; rcases h with h | h <;> cases h)).trans hpf⟩
      clear hx8 hk8 ho8 hx3 hadf hpf hb8 ho8p hbl HX HP HOP HB HXC HADB n5_
      go_wp2
      refine start_ (n := 10) (S := fun w' => w'.cell? ⟨p, 0, none⟩ = some (.pointer (some ⟨g, 0, none⟩)) ∧ w'.cell? ⟨g, 2, none⟩ = some (.map (some b0)) ∧ w'.cell? (ad.add (col * 3)) = some (.int .i64 x.f0) ∧ w'.cell? ⟨(ad.add (col * 3)).block, (ad.add (col * 3)).off + 1, none⟩ = some (.int .i64 x.f1) ∧ w'.cell? ⟨(ad.add (col * 3)).block, (ad.add (col * 3)).off + 2, none⟩ = some (.string x.f2)) (ds := [9]) #[false, false, false, false, false, false, false, false, false, false] (by kernel_rfl) rfl rfl ⟨m0_.out, m1_.out, m2_.out, m3_.out, m4_.out⟩ (fun hHeld => ?_)
      refine pure_ (i := 4) (N := some 54) (v := ?_) (a' := ?_) #[false, false, false, false, true, false, false, false, false, false] rfl rfl (by kernel_rfl) (fun _ _ _ h => h) (Or.inl ⟨by rfl, ?_⟩) ?_ ?_
      rotate_left
      · intro w'
        go_simp
        with_reducible rfl
      rotate_left
      · simp only [Act.put, List.setIfInBounds_toArray, List.set_cons_zero, List.set_cons_succ, i64_w, i32_w]
        rfl
      refine pure_ (i := 5) (N := some 55) (v := ?_) (a' := ?_) #[false, false, false, false, true, true, false, false, false, false] rfl rfl (by kernel_rfl) (fun _ _ _ h => h) (Or.inl ⟨by rfl, ?_⟩) ?_ ?_
      rotate_left
      · intro w'
        go_simp
        with_reducible rfl
      rotate_left
      · simp only [Act.put, List.setIfInBounds_toArray, List.set_cons_zero, List.set_cons_succ, i64_w, i32_w]
        rfl
      refine pure_ (i := 6) (N := some 56) (v := ?_) (a' := ?_) #[false, false, false, false, true, true, true, false, false, false] rfl rfl (by kernel_rfl) (fun _ _ _ h => h) (Or.inl ⟨by rfl, ?_⟩) ?_ ?_
      rotate_left
      · intro w'
        go_simp
        with_reducible rfl
      rotate_left
      · simp only [Act.put, List.setIfInBounds_toArray, List.set_cons_zero, List.set_cons_succ, i64_w, i32_w]
        rfl
      refine pure_ (i := 8) (N := some 58) (v := ?_) (a' := ?_) #[false, false, false, false, true, true, true, false, true, false] rfl rfl (by kernel_rfl) (fun _ _ _ h => h) (Or.inl ⟨by rfl, ?_⟩) ?_ ?_
      rotate_left
      · intro w'
        go_simp
        with_reducible rfl
      rotate_left
      · simp only [Act.put, List.setIfInBounds_toArray, List.set_cons_zero, List.set_cons_succ, i64_w, i32_w]
        rfl
      refine take_ (i := 0) (N := some 50) (v := ?_) (a' := ?_) #[true, false, false, false, true, true, true, false, true, false] rfl rfl (by kernel_rfl) (fun _ _ _ h => h) (Or.inl ⟨by rfl, ?_⟩) hHeld ?_ ?_
      rotate_left
      · rintro w' ⟨s0, s1, s2, s3, s4⟩
        go_simp
        with_reducible rfl
      rotate_left
      · simp only [Act.put, List.setIfInBounds_toArray, List.set_cons_zero, List.set_cons_succ, i64_w, i32_w]
        rfl
      refine pure_ (i := 1) (N := some 51) (v := ?_) (a' := ?_) #[true, true, false, false, true, true, true, false, true, false] rfl rfl (by kernel_rfl) (fun _ _ _ h => h) (Or.inl ⟨by rfl, ?_⟩) ?_ ?_
      rotate_left
      · intro w'
        go_simp
        with_reducible rfl
      rotate_left
      · simp only [Act.put, List.setIfInBounds_toArray, List.set_cons_zero, List.set_cons_succ, i64_w, i32_w]
        rfl
      refine pure_ (i := 2) (N := some 52) (v := ?_) (a' := ?_) #[true, true, true, false, true, true, true, false, true, false] rfl rfl (by kernel_rfl) (fun _ _ _ h => h) (Or.inl ⟨by rfl, ?_⟩) ?_ ?_
      rotate_left
      · intro w'
        go_simp
        with_reducible rfl
      rotate_left
      · simp only [Act.put, List.setIfInBounds_toArray, List.set_cons_zero, List.set_cons_succ, i64_w, i32_w]
        rfl
      refine take_ (i := 3) (N := some 53) (v := ?_) (a' := ?_) #[true, true, true, true, true, true, true, false, true, false] rfl rfl (by kernel_rfl) (fun _ _ _ h => h) (Or.inl ⟨by rfl, ?_⟩) hHeld ?_ ?_
      rotate_left
      · rintro w' ⟨s0, s1, s2, s3, s4⟩
        go_simp
        with_reducible rfl
      rotate_left
      · simp only [Act.put, List.setIfInBounds_toArray, List.set_cons_zero, List.set_cons_succ, i64_w, i32_w]
        rfl
      refine take_ (i := 7) (N := some 57) (v := ?_) (a' := ?_) #[true, true, true, true, true, true, true, true, true, false] rfl rfl (by kernel_rfl) (fun _ _ _ h => h) (Or.inl ⟨by rfl, ?_⟩) hHeld ?_ ?_
      rotate_left
      · rintro w' ⟨s0, s1, s2, s3, s4⟩
        go_simp
        with_reducible rfl
      rotate_left
      · simp only [Act.put, List.setIfInBounds_toArray, List.set_cons_zero, List.set_cons_succ, i64_w, i32_w]
        rfl
      refine last_ (i := 9) (N := some 59) #[true, true, true, true, true, true, true, true, true, true] rfl rfl (by kernel_rfl) (by decide) (fun K hK => ?_)
      refine goes_ Try.func15 (by kernel_rfl) rfl #[.map (some b0), .agg #[.int .i64 x.f0, .int .i64 x.f1, .string x.f2], .int .i64 (i : Int)] (by rfl) rfl rfl (by simp only [List.map_toArray, List.map_cons, List.map_nil]; rfl) ?_
      with_reducible refine (m5_.out).mono ?_
      rintro e w9 ⟨rfl, hBk, hKp9⟩
      refine ⟨_, rfl, ?_⟩
      refine hK.out _ _ ?_
      clear hK K
      refine norm_ (a' := ?_) ?_ ?_
      rotate_left
      · show Act.put _ (some 59) _ = _
        simp only [Act.put, List.setIfInBounds_toArray, List.set_cons_zero, List.set_cons_succ, i64_w, i32_w]
        rfl
      refine done_ (by kernel_rfl) ?_
      obtain ⟨own4, q1, q2, q3, q4⟩ := M6.out _ hBk hKp9
      have Q1 := Aside0.mk q1
      have Q2 := Aside0.mk q2
      have Q3 := Aside0.mk q3
      have Q4 := Aside0.mk q4
      clear q1 q2 q3 q4 hBk hKp9 M6 m0_ m1_ m2_ m3_ m4_ m5_
      go_wp2
      go_roundw
      case rel => exact ⟨i + 1, own4, v38, v45, by omega, by go_num, Q1, Q2, Q3, Q4⟩
      case measure => simp [intOf]; omega
    · have hin : i = rows.length := by omega
      subst hin
      have hVL : (vals rows col rows.length).length = rows.length := by unfold vals; rw [List.length_map, List.length_take]; omega
      have hx := HX.out
      rw [show places rows.length = places (vals rows col rows.length).length by rw [hVL]] at hx
      have hM := by16 wr b0 g b0 rows.length p own vl vs _ _ hx HP.out HOP.out (by omega)
      have HM := Aside0.mk hM
      have k0 : wr.cell? ⟨p, 0, none⟩ = some (.pointer (some ⟨g, 0, none⟩)) := (blk_cell HP.out 0).trans rfl
      have k1 : wr.cell? ⟨g, 1, none⟩ = some vs := (blk_cell hx.blk 1).trans rfl
      have HOK : Aside0 (∀ x ∈ vals rows col rows.length, okS x) := ⟨fun x hx => by
        unfold vals at hx
        rw [List.take_length] at hx
        obtain ⟨r, hr, rfl⟩ := List.mem_map.1 hx
        have h1 := HC.out r hr
        have : rd_T24 r (col : Int) = r[col] := by unfold rd_T24; rw [Int.toNat_natCast, List.getD_eq_getElem?_getD, List.getElem?_eq_getElem h1]; rfl
        rw [this]
        exact HO.out r hr _ (List.getElem_mem h1)⟩
      have HVL := Aside0.mk hVL
      clear hx hM hVL
      go_wp2_with (go_at_call 16; refine HM.out.mono ?_; rintro e w9 ⟨rfl, S, h1, h2, h3⟩; have k9 : w9.cell? ⟨p, 0, none⟩ = some (.pointer (some ⟨g, 0, none⟩)) := (blk_cell ((h3.far p (blk_lt HP.out) (fun h => by rw [HOP.out] at h; cases h)).trans HP.out) 0).trans rfl; have HE : Aside0 (Ix w9 b0 g (vals rows col rows.length) ∧ Below b0 w w9) := ⟨⟨⟨_, _, _, _, _, S, h2, h1⟩, by rw [HVL.out]; exact hl, HOK.out⟩, HB.out.trans (h3.bel (by have := HX.out.lo; have := blk_lt HX.out.blk; omega) (fun j hj h => by rw [HX.out.low j hj] at h; cases h))⟩; clear h1 h2 h3 k0 k1 HM)
      refine bodyPost_ret (v := .tuple #[.pointer (some ⟨g, 0, none⟩), .int .i64 0]) (by simp [results, Try.results6, go_sem]) rfl ⟨g, rfl, ?_⟩
      rw [← HB0.out]
      exact HE.out

end Go.Proofs.Ytpkhdljlhdomlaa.QIndexFinds
