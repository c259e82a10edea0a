import Derived.Test.YtkogfjphpklioaaStP
/- Store: walks by hand; the conditions stand in each theorem. -/
namespace Go.Proofs.Ytkogfjphpklioaa.QStoreNames
open Go.RowKit Go.Proofs.YtkogfjphpklioaaW.PrintWords Go.Proofs.YtkogfjphpklioaaW.PrintLast Go.Proofs.YtkogfjphpklioaaW.PrintMore
attribute [local go_sem] max2_int min2_int max_two min_two max_three min_three max_four min_four
set_option linter.unusedVariables false
set_option linter.unusedSimpArgs false
set_option maxRecDepth 8000 in
set_option maxHeartbeats 1000000 in
theorem spoils_no1 (W : World) (A : Option Addr) (c : Nat) (l : List S33) (a h : Int) (hw : ShB W) (hr : Kd.C k33 W A l.length l) (hl : l.length ≤ 4611686018427387904) (ho : ∀ t ∈ l, okT t) (hq : rightB l = false) :
    Calls Try.prog 5 #[.slice A l.length c, .int .i64 a, .int .i64 h] W fun e w' => e = .returned (.bool true) ∧ Below W.heap.size W w' := by
  have HW := Aside0.mk hw
  have HR := Aside0.mk hr
  have HO := Aside0.mk ho
  clear hw hr ho
  have HX := Aside0.mk (fun w (hb : Below W.heap.size W w) => store_Right A c l w (Kd.C_below HR.out hb) (HW.out.on hb) hl HO.out)
  rw [hq] at HX
  clear hq
  go_enter Try.func5, Try.ntmps5
  go_wp2_with (first | (go_at_call 8; refine (examples_true W HW.out).mono ?_; rintro e w1 ⟨rfl, hb⟩; have HB1 := Aside0.mk hb; clear hb) | (go_at_call 11; refine (HX.out _ HB1.out).mono ?_; rintro e w2 ⟨rfl, hb⟩; have HB2 := Aside0.mk (below_step HB1.out hb); clear hb))
  go_ret
  exact ⟨rfl, HB2.out⟩
set_option maxRecDepth 8000 in
set_option maxHeartbeats 1000000 in
theorem spoils_no2 (W : World) (A : Option Addr) (c : Nat) (a h : Int) (hw : ShB W) :
    Calls Try.prog 5 #[.slice A 0 c, .int .i64 a, .int .i64 h] W fun e w' => e = .returned (.bool true) ∧ Below W.heap.size W w' := by
  have HW := Aside0.mk hw
  clear hw
  have HX : Aside0 (∀ w, Below W.heap.size W w → Calls Try.prog 11 #[.slice A 0 c] w fun e w' => e = .returned (.bool true) ∧ Below w.heap.size w w') := ⟨fun w hb => store_Right A c [] w ⟨rfl, by decide, fun hp => absurd hp (by decide)⟩ (HW.out.on hb) (by decide) (fun t ht => by cases ht)⟩
  go_enter Try.func5, Try.ntmps5
  go_wp2_with (first | (go_at_call 8; refine (examples_true W HW.out).mono ?_; rintro e w1 ⟨rfl, hb⟩; have HB1 := Aside0.mk hb; clear hb) | (go_at_call 11; refine (HX.out _ HB1.out).mono ?_; rintro e w2 ⟨rfl, hb⟩; have HB2 := Aside0.mk (below_step HB1.out hb); clear hb))
  go_ret
  exact ⟨rfl, HB2.out⟩
theorem i64_sgn {a : Int} (ha : (Lit.int .i64 a).wf = true) : ∃ a2 : Int, 0 ≤ a2 ∧ (0 ≤ a → a2 = a) ∧ (a < 0 → ∃ a1, IntKind.i64.wrap (a + 1) = a1 ∧ IntKind.i64.wrap (-a1) = a2) := by
  by_cases hn : a < 0
  · obtain ⟨a1, a2, e1, e2, h⟩ := neg_fix ha hn
    exact ⟨a2, h, fun h => absurd hn (by omega), fun _ => ⟨a1, e1, e2⟩⟩
  · exact ⟨a, by omega, fun _ => rfl, fun h => absurd h hn⟩
theorem heap36 : Kd.Heap k36 := Kd.heap_iso _ (Kd.heap_pair (Kd.heap_int _) (Kd.heap_pair (Kd.heap_int _) Kd.heap_string))
theorem heap38 : Kd.Heap k38 := Kd.heap_iso _ (Kd.heap_pair Kd.heap_string (Kd.heap_int _))
theorem heap33 : Kd.Heap k33 := Kd.heap_iso _ (Kd.heap_pair Kd.heap_string (Kd.heap_pair (Kd.heap_slice 38 heap38) (Kd.heap_slice 34 (Kd.heap_slice 36 heap36))))
theorem idx_of {n : Nat} (a : Int) (hz : ¬ n = 0) : ∃ i : Nat, a % (n : Int) = (i : Int) ∧ i < n := by
  have h1 : (n : Int) ≠ 0 := by omega
  have h2 := Int.emod_nonneg a h1
  have h3 := Int.emod_lt_of_pos a (show (0 : Int) < (n : Int) by omega)
  exact ⟨(a % (n : Int)).toNat, by omega, by omega⟩
theorem F_on {α : Type} {d : Kd α} {W w : World} {n : Nat} {A : Option Addr} {xs : List α} (h : Kd.F d W (fun k => k < W.heap.size) A n xs) (hb : Below W.heap.size W w) : Kd.F d w (fun k => k < W.heap.size) A n xs := Kd.F_step h (fun k hk _ => hb.block k hk)
theorem FK_slice {α : Type} {e : Nat} {d : Kd α} {W : World} {ok : Nat → Prop} {r : List α} {cs : List Value} (h : Kd.FK (Kd.slice e d) W ok r cs) : ∃ A c, cs = [.slice A r.length c] ∧ r.length ≤ c ∧ Kd.F d W ok A r.length r := by
  obtain ⟨A, c, rfl, hc, _⟩ := Kd.FK_now h
  refine ⟨A, c, rfl, hc, fun W' hW => ?_⟩
  obtain ⟨A', c', e', _, hC⟩ := h W' hW
  simp only [List.cons.injEq, Value.slice.injEq, and_true] at e'
  obtain ⟨rfl, _, rfl⟩ := e'
  exact hC
theorem N_head {α : Type} {e e2 : Nat} {d : Kd α} {W : World} {base g n cap : Nat} {ok : Nat → Prop} {xs : List (List α)} (h : Kd.N (Kd.slice e d) e2 W base ok (.slice (some ⟨g, 0, none⟩) n cap) xs) (k : Nat) (hk : k < xs.length) :
    ∃ A c, W.cell? ⟨g, k, none⟩ = some (.slice A (xs[k]).length c) ∧ (xs[k]).length ≤ c ∧ Kd.F d W (fun k => ok k ∧ k ≠ g) A (xs[k]).length (xs[k]) ∧ W.frozen? ⟨g, k, none⟩ = false := by
  have hn := (Kd.N_reads' h).1
  obtain ⟨cs, hcl, hF, hcc, hfr⟩ := Kd.N_elem h [] (k : Int) (by omega) (by omega)
  rw [Int.toNat_natCast, List.getD_eq_getElem?_getD, List.getElem?_eq_getElem hk] at hF
  obtain ⟨A, c, rfl, hc, hF2⟩ := FK_slice hF
  have hsz : (Kd.slice e d).sz = 1 := rfl
  have h1 := hcc 0 _ rfl
  have h2 := hfr 0
  rw [Int.toNat_natCast, hsz, Nat.mul_one, Nat.add_zero] at h1 h2
  exact ⟨A, c, h1, hc, hF2, h2⟩
structure SpPost (W wx : World) (b i : Nat) (vm : Value) : Prop where
  out : ∃ (g cm : Nat) (ml : List S33) (t' : S33) (vc vr : Value), vm = .slice (some ⟨g, 0, none⟩) ml.length cm ∧ W.heap.size ≤ g ∧ Below W.heap.size W wx ∧ wx.heap[b]? = some (.cells #[.string t'.f0, vc, vr] 33 (0, 0)) ∧ Kd.N k33 33 wx W.heap.size (fun k => k ≠ b) vm ml ∧ i < ml.length ∧ ml.length ≤ 9 ∧ Kd.FK k33 wx (fun k => k ≠ b ∧ k ≠ g) t' [.string t'.f0, vc, vr] ∧ rightB (ml.set i t') = false ∧ (∀ x ∈ ml.set i t', okT x)
theorem size33 : (Try.prog.info? 33).map (·.size) = some 3 := by kernel_rfl
theorem take_seg {c seg : List Value} (h : c.length = 3) (hs : seg.length = 3) : c.take 0 ++ seg ++ c.drop (0 + seg.length) = seg := by
  rw [List.drop_eq_nil_of_le (by omega), List.take_zero, List.nil_append, List.append_nil]
structure Tail (W : World) (g cm n : Nat) (L : List S33) : Prop where
  h13 : ∀ w, Kd.C k33 w (some ⟨g, 0, none⟩) L.length L → Below W.heap.size W w → Calls Try.prog 13 #[.slice (some ⟨g, 0, none⟩) n cm] w fun e w' => e = .returned (.tuple #[.pointer none, .int .i64 1]) ∧ Below w.heap.size w w'
  h11 : ∀ w, Kd.C k33 w (some ⟨g, 0, none⟩) L.length L → Below W.heap.size W w → Calls Try.prog 11 #[.slice (some ⟨g, 0, none⟩) n cm] w fun e w' => e = .returned (.bool false) ∧ Below w.heap.size w w'
theorem tail_of (W : World) (g cm n : Nat) (L : List S33) (hw : ShB W) (hn : L.length = n) (hl : n ≤ 9) (ho : ∀ x ∈ L, okT x) (hr : rightB L = false) : Tail W g cm n L := by
  subst hn
  refine ⟨fun w hC hb => store_Open_no _ cm L w hC (hw.on hb) (by omega) ho hr, fun w hC hb => ?_⟩
  have h := store_Right (some ⟨g, 0, none⟩) cm L w hC (hw.on hb) (by omega) ho
  rw [hr] at h
  exact h
theorem unlike_dup (xs : List ByteArray) (x : ByteArray) (h : x ∈ xs) : unlikeB (xs ++ [x]) = false := by
  refine unlike_false xs.length (by simp) (.inl ?_)
  have e1 : (xs ++ [x])[xs.length]'(by simp) = x := by simp
  have e2 : (xs ++ [x]).take xs.length = xs := by simp
  rw [e1, e2]
  exact h
theorem bad_name (l : List S33) (i : Nat) (t' : S33) (hi : i < l.length) (h : nameB t'.f0 = false) : rightB (l.set i t') = false := by
  refine right_b (unlike_false i (by rw [nms33_len, List.length_set]; exact hi) (.inr ?_))
  rw [nms33_get]
  simp only [List.getElem_set_self]
  exact h
theorem bad_table (l : List S33) (i : Nat) (t' : S33) (hi : i < l.length) (h : tableB t' = false) : rightB (l.set i t') = false := by
  unfold rightB
  have : (l.set i t').all tableB = false := List.all_eq_false.2 ⟨t', List.mem_set hi _, by rw [h]; simp⟩
  rw [this, Bool.and_false]
theorem bad_dup (l : List S33) (i : Nat) (t : S33) (h : l[i]? = some t) : rightB ((l ++ [t]).set i t) = false := by
  have hi : i < l.length := (List.getElem?_eq_some_iff.1 h).1
  have e : (l ++ [t]).set i t = l ++ [t] := by
    rw [List.set_append_left _ _ hi]
    have : l.set i t = l := by
      have h2 := (List.getElem?_eq_some_iff.1 h).2
      rw [← h2]
      exact List.set_getElem_self hi
    rw [this]
  rw [e]
  refine right_b ?_
  unfold nms33
  rw [List.map_append]
  exact unlike_dup _ _ (List.mem_map.2 ⟨t, List.mem_iff_getElem?.2 ⟨i, h⟩, rfl⟩)
theorem row_bad (f0 : ByteArray) (f1 : List S38) (f2 : List (List S36)) (x : List S36) (h0 : 0 < f2.length) (h : rowB f1 x = false) : tableB ⟨f0, f1, f2.set 0 x⟩ = false := by
  unfold tableB
  have : (f2.set 0 x).all (rowB f1) = false := List.all_eq_false.2 ⟨x, List.mem_set h0 _, by rw [h]; simp⟩
  simp only [this, Bool.and_false]
theorem tableB_parts {t : S33} (h : tableB t = true) : 1 ≤ t.f1.length ∧ ∀ r ∈ t.f2, r.length = t.f1.length := by
  unfold tableB at h
  simp only [Bool.and_eq_true, decide_eq_true_eq] at h
  refine ⟨h.1.1.1.1.1, fun r hr => ?_⟩
  have h7 := List.all_eq_true.1 h.2 r hr
  unfold rowB at h7
  simp only [Bool.and_eq_true, decide_eq_true_eq] at h7
  exact h7.1
theorem row_short (f1 : List S38) (r : List S36) (h1 : 1 ≤ f1.length) (h : r.length = f1.length) : rowB f1 (r.take (r.length - 1)) = false := by
  unfold rowB
  rw [decide_eq_false (by rw [List.length_take]; omega), Bool.false_and]
theorem row_kind (f1 : List S38) (r : List S36) (h1 : 1 ≤ f1.length) (h : r.length = f1.length) : rowB f1 (r.set 0 ⟨4, 0, ⟨#[]⟩⟩) = false := by
  have hv : vR ⟨4, 0, ⟨#[]⟩⟩ = false := by kernel_rfl
  unfold rowB
  cases r with
  | nil => simp at h; omega
  | cons a ys =>
    cases f1 with
    | nil => simp at h1
    | cons b bs =>
      simp only [List.set_cons_zero, List.zip_cons_cons, List.all_cons, cellB, hv, Bool.false_and, Bool.and_false]
theorem cols_dup (f0 : ByteArray) (f1 : List S38) (f2 : List (List S36)) (h : 0 < f1.length) : tableB ⟨f0, f1 ++ [f1[0]], f2⟩ = false := by
  have : unlikeB (nms38 (f1 ++ [f1[0]])) = false := by
    unfold nms38
    rw [List.map_append]
    exact unlike_dup _ _ (List.mem_map.2 ⟨f1[0], List.getElem_mem h, rfl⟩)
  unfold tableB
  simp only [this, Bool.and_false, Bool.false_and]
theorem cols_kind (f0 : ByteArray) (f1 : List S38) (f2 : List (List S36)) (n : ByteArray) (h : 0 < f1.length) : tableB ⟨f0, f1.set 0 ⟨n, 0⟩, f2⟩ = false := by
  have : (f1.set 0 ⟨n, 0⟩).all kindB = false := List.all_eq_false.2 ⟨⟨n, 0⟩, List.mem_set h _, by simp [kindB]⟩
  unfold tableB
  simp only [this, Bool.and_false, Bool.false_and]
theorem ok_set {l : List S33} {i : Nat} {t' : S33} (h : ∀ x ∈ l, okT x) (ht : okT t') : ∀ x ∈ l.set i t', okT x := fun x hx => by
  rcases List.mem_or_eq_of_mem_set hx with h1 | rfl
  · exact h x h1
  · exact ht
theorem from_bad : nameB ⟨#[102, 114, 111, 109]⟩ = false := by kernel_rfl
theorem sp_make {W wx : World} {b i g cm cc cr n1 n2 : Nat} {ml : List S33} {t' : S33} {A1 A2 : Option Addr} {okm okc okr : Nat → Prop} (hWg : W.heap.size ≤ g) (hB : Below W.heap.size W wx) (e1 : n1 = t'.f1.length) (e2 : n2 = t'.f2.length) (hbx : wx.heap[b]? = some (.cells #[.string t'.f0, .slice A1 n1 cc, .slice A2 n2 cr] 33 (0, 0)))
    (hN : Kd.N k33 33 wx W.heap.size okm (.slice (some ⟨g, 0, none⟩) ml.length cm) ml) (hm : ∀ k, okm k → k ≠ b) (hi : i < ml.length) (h9 : ml.length ≤ 9)
    (hC : Kd.F k38 wx okc A1 n1 t'.f1) (hcc : n1 ≤ cc) (hc : ∀ k, okc k → k ≠ b ∧ k ≠ g) (hR : Kd.F (Kd.slice 36 k36) wx okr A2 n2 t'.f2) (hcr : n2 ≤ cr) (hr : ∀ k, okr k → k ≠ b ∧ k ≠ g)
    (hbad : rightB (ml.set i t') = false) (hok : ∀ x ∈ ml.set i t', okT x) : SpPost W wx b i (.slice (some ⟨g, 0, none⟩) ml.length cm) := by
  subst e1
  subst e2
  exact ⟨g, cm, ml, t', _, _, rfl, hWg, hB, hbx, Kd.N_mono hN hm, hi, h9, fun W' hW => k33_mk W' t' hcc (hC W' fun k hk hlt => hW k (hc k hk) hlt) hcr (hR W' fun k hk hlt => hW k (hr k hk) hlt), hbad, hok⟩
theorem FK_33 {W : World} {t : S33} {cc cr : Nat} {A1 A2 : Option Addr} {okc okr ok : Nat → Prop} (hC : Kd.F k38 W okc A1 t.f1.length t.f1) (hcc : t.f1.length ≤ cc) (hc : ∀ k, okc k → ok k) (hR : Kd.F (Kd.slice 36 k36) W okr A2 t.f2.length t.f2) (hcr : t.f2.length ≤ cr) (hr : ∀ k, okr k → ok k) : Kd.FK k33 W ok t [.string t.f0, .slice A1 t.f1.length cc, .slice A2 t.f2.length cr] :=
  fun W' hW => k33_mk W' t hcc (hC W' fun k hk hlt => hW k (hc k hk) hlt) hcr (hR W' fun k hk hlt => hW k (hr k hk) hlt)
theorem FK_row {α : Type} {d : Kd α} {e : Nat} {w : World} {base n c : Nat} {A : Option Addr} {ok : Nat → Prop} {xs : List α} (h : Kd.N d e w base ok (.slice A n c) xs) : Kd.FK (Kd.slice e d) w ok xs [.slice A n c] := by
  have h1 := Kd.N_reads' h
  have hF := Kd.N_F h
  obtain ⟨e1, h2, _⟩ := h1
  subst e1
  exact fun W' hW => ⟨A, c, rfl, h2, hF W' hW⟩
theorem sp_case0 {W w9 w10 : World} {b i gm cc cr s6 s8 gr : Nat} {l : List S33} {t : S33} {vm' : Value} {Ac : Option Addr} (hb9 : b < w9.heap.size) (hl8 : l.length ≤ 8) (hi : i < l.length) (hli : l[i]? = some t) (hok : ∀ x ∈ l, okT x) (hs8 : s8 ≤ w9.heap.size) (hs68 : s6 ≤ s8) (hWb : W.heap.size ≤ b) (hbs : b < s6) (hWg : W.heap.size ≤ gm) (hgb : gm < b)
    (hbx : w9.heap[b]? = some (.cells #[.string t.f0, .slice Ac t.f1.length cc, .slice (some ⟨gr, 0, none⟩) t.f2.length cr] 33 (0, 0)))
    (hC : Kd.F k38 w9 (fun k => s6 ≤ k ∧ k < s8) Ac t.f1.length t.f1) (hcc : t.f1.length ≤ cc) (hR : Kd.F (Kd.slice 36 k36) w9 (fun k => (k < W.heap.size ∨ b < k) ∧ k < s6) (some ⟨gr, 0, none⟩) t.f2.length t.f2) (hcr : t.f2.length ≤ cr)
    (hn : Kd.N k33 33 w10 W.heap.size (fun k => k ≠ b) vm' (l ++ [t])) (hB : Below W.heap.size W w10) (hg : w9.grownBy w10 (some gm)) (hat : vm'.ownBlock = some gm ∨ ∃ k, vm'.ownBlock = some k ∧ w9.heap.size ≤ k) : SpPost W w10 b i vm' := by
  obtain ⟨g, cm', rfl, hWg', _, _⟩ := Kd.N_form hn (by simp)
  have hg2 : g = gm ∨ w9.heap.size ≤ g := by
    rcases hat with h | ⟨k, h, hk⟩
    · exact .inl (by simpa [Value.ownBlock] using h)
    · have : g = k := by simpa [Value.ownBlock] using h
      exact .inr (by omega)
  refine sp_make (t' := t) hWg' hB rfl rfl ((hg.block b hb9 (fun e => by injection e with e; omega)).trans hbx) hn (fun _ hk => hk) (by simp; omega) (by simp; omega) (Kd.F_grown hC hg (fun k hk e => by injection e with e; omega)) hcc (fun k hk => by rcases hg2 with h | h <;> omega) (Kd.F_grown hR hg (fun k hk e => by injection e with e; omega)) hcr (fun k hk => by rcases hg2 with h | h <;> omega) (bad_dup l i t hli) (ok_set (fun x hx => ?_) (hok t (List.mem_iff_getElem?.2 ⟨i, hli⟩)))
  rcases List.mem_append.1 hx with h | h
  · exact hok x h
  · rw [List.mem_singleton.1 h]
    exact hok t (List.mem_iff_getElem?.2 ⟨i, hli⟩)
theorem size36 : (Try.prog.info? 36).map (·.size) = some 3 := by kernel_rfl
theorem size34 : (Try.prog.info? 34).map (·.size) = some 1 := by kernel_rfl
theorem size3 : (Try.prog.info? 3).map (·.size) = some 1 := by kernel_rfl
theorem take_seg1 {c seg : List Value} (h : c.length = 1) (hs : seg.length = 1) : c.take 0 ++ seg ++ c.drop (0 + seg.length) = seg := by
  rw [List.drop_eq_nil_of_le (by omega), List.take_zero, List.nil_append, List.append_nil]
theorem cell_grown {w w' : World} {g k : Nat} {j : Nat} {v : Value} (hg : w.grownBy w' (some g)) (h : w.cell? ⟨k, j, none⟩ = some v) (hk : k ≠ g) : w'.cell? ⟨k, j, none⟩ = some v := by
  have h1 := World.block_lt_of_cell? w _ h
  have h2 := hg.block k h1 (fun e => hk (by injection e))
  have : w'.cell? ⟨k, j, none⟩ = w.cell? ⟨k, j, none⟩ := by simp [World.cell?, h2]
  rw [this]
  exact h
theorem ok_rows {t : S33} {x : List S36} (h : okT t) (hx : x.length ≤ 4611686018427387904) : okT ⟨t.f0, t.f1, t.f2.set 0 x⟩ := by
  obtain ⟨q0, q1, q2, q3, q4⟩ := h
  refine ⟨q0, q1, (by simpa using q2), q3, fun r hr => ?_⟩
  rcases List.mem_or_eq_of_mem_set hr with h1 | rfl
  · exact q4 r h1
  · exact hx
theorem ok_cols {t : S33} {f1 : List S38} (h : okT t) (h1 : f1.length ≤ 4611686018427387904) (h2 : ∀ x ∈ f1, x.f0.size ≤ maxLen) : okT ⟨t.f0, f1, t.f2⟩ := by
  obtain ⟨q0, q1, q2, q3, q4⟩ := h
  exact ⟨q0, h1, q2, h2, q4⟩
theorem getD_zero {l : List S38} (h : 0 < l.length) : l.getD (0 : Int).toNat z38 = l[0] := by
  show l.getD 0 z38 = l[0]
  rw [List.getD_eq_getElem?_getD, List.getElem?_eq_getElem h]
  rfl

end Go.Proofs.Ytkogfjphpklioaa.QStoreNames
