import Derived.Test.YtkogfjphpklioaaStB
import Derived.Lib.QuietBelow
/- Store: walks by hand; the conditions stand in each theorem. -/
namespace Go.Proofs.Ytkogfjphpklioaa.QStoreNames
open Go.RowKit Go.Proofs.YtkogfjphpklioaaW.PrintWords Go.Proofs.YtkogfjphpklioaaW.PrintLast Go.Proofs.YtkogfjphpklioaaW.PrintMore
attribute [local go_sem] max2_int min2_int max_two min_two max_three min_three max_four min_four
set_option linter.unusedVariables false
set_option linter.unusedSimpArgs false
def vR (v : S36) : Bool := (value_Right.f v.f0 v.f1 v.f2).getD false
theorem vR_f (v : S36) : value_Right.f v.f0 v.f1 v.f2 = some (vR v) := by
  have : ∃ b, value_Right.f v.f0 v.f1 v.f2 = some b := by
    unfold value_Right.f
    split
    · exact ⟨_, rfl⟩
    · split
      · exact ⟨_, rfl⟩
      · split
        · split <;> exact ⟨_, rfl⟩
        · split
          · split <;> exact ⟨_, rfl⟩
          · exact ⟨_, rfl⟩
  obtain ⟨b, hb⟩ := this
  unfold vR
  rw [hb]
  rfl
theorem val_Right (v : S36) (w : World) : Calls Try.prog 44 #[.agg #[.int .i64 v.f0, .int .i64 v.f1, .string v.f2]] w fun e w' => e = .returned (.bool (vR v)) ∧ Below w.heap.size w w' := value_Right.calls v.f0 v.f1 v.f2 _ w (vR_f v)
def kindB (c : S38) : Bool := decide (1 ≤ c.f1) && decide (c.f1 ≤ 3)
def cellB (v : S36) (c : S38) : Bool := vR v && (v.f0 == 0 || v.f0 == c.f1)
def rowB (cols : List S38) (r : List S36) : Bool := decide (r.length = cols.length) && (r.zip cols).all (fun p => cellB p.1 p.2)
def tableB (t : S33) : Bool := decide (1 ≤ t.f1.length) && decide (t.f1.length ≤ 6) && decide (t.f2.length ≤ 20) && unlikeB (nms38 t.f1) && t.f1.all kindB && t.f2.all (rowB t.f1)
theorem rdT36_at (l : List S36) (i : Nat) (h : i < l.length) : rd_T36 l (i : Int) = l[i] := by unfold rd_T36; rw [Int.toNat_natCast, List.getD_eq_getElem?_getD, List.getElem?_eq_getElem h]; rfl
theorem rdT38_at (l : List S38) (i : Nat) (h : i < l.length) : rd_T38 l (i : Int) = l[i] := by unfold rd_T38; rw [Int.toNat_natCast, List.getD_eq_getElem?_getD, List.getElem?_eq_getElem h]; rfl
theorem rdT33_at (l : List S33) (i : Nat) (h : i < l.length) : rd_T33 l (i : Int) = l[i] := by unfold rd_T33; rw [Int.toNat_natCast, List.getD_eq_getElem?_getD, List.getElem?_eq_getElem h]; rfl
theorem rdL3_at (l : List (List S36)) (i : Nat) (h : i < l.length) : rd_L3 l (i : Int) = l[i] := by unfold rd_L3; rw [Int.toNat_natCast, List.getD_eq_getElem?_getD, List.getElem?_eq_getElem h]; rfl
theorem at36 {w : World} {A : Option Addr} {l : List S36} (h : Kd.C k36 w A l.length l) (i : Nat) (hi : i < l.length) : ∃ ad, A = some ad ∧ w.cell? (ad.add (i * 3)) = some (.int .i64 l[i].f0) ∧ w.cell? ⟨(ad.add (i * 3)).block, (ad.add (i * 3)).off + 1, none⟩ = some (.int .i64 l[i].f1) ∧ w.cell? ⟨(ad.add (i * 3)).block, (ad.add (i * 3)).off + 2, none⟩ = some (.string l[i].f2) := by
  obtain ⟨ad, e, h0, h1, h2⟩ := at_T36 h (i : Int) (by omega) (by omega)
  rw [rdT36_at l i hi] at h0 h1 h2
  rw [Int.toNat_natCast] at h0 h1 h2
  exact ⟨ad, e, h0, h1, h2⟩
theorem at38 {w : World} {A : Option Addr} {l : List S38} (h : Kd.C k38 w A l.length l) (i : Nat) (hi : i < l.length) : ∃ ad, A = some ad ∧ w.cell? (ad.add (i * 2)) = some (.string l[i].f0) ∧ w.cell? ⟨(ad.add (i * 2)).block, (ad.add (i * 2)).off + 1, none⟩ = some (.int .i64 l[i].f1) := by
  obtain ⟨ad, e, h0, h1⟩ := at_T38 h (i : Int) (by omega) (by omega)
  rw [rdT38_at l i hi] at h0 h1
  rw [Int.toNat_natCast] at h0 h1
  exact ⟨ad, e, h0, h1⟩
theorem atL3 {w : World} {A : Option Addr} {l : List (List S36)} (h : Kd.C (Kd.slice 36 k36) w A l.length l) (i : Nat) (hi : i < l.length) : ∃ ad A0 c0, A = some ad ∧ w.cell? (ad.add i) = some (.slice A0 l[i].length c0) ∧ l[i].length ≤ c0 ∧ k36.C w A0 l[i].length l[i] := by
  obtain ⟨ad, A0, c0, e, h1, h2, h3⟩ := at_L3 h (i : Int) (by omega) (by omega)
  rw [rdL3_at l i hi] at h1 h2 h3
  rw [Int.toNat_natCast] at h1
  exact ⟨ad, A0, c0, e, h1, h2, h3⟩
theorem at33 {w : World} {A : Option Addr} {l : List S33} (h : Kd.C k33 w A l.length l) (i : Nat) (hi : i < l.length) : ∃ ad A1 c1 A2 c2, A = some ad ∧ w.cell? (ad.add (i * 3)) = some (.string l[i].f0) ∧ w.cell? ⟨(ad.add (i * 3)).block, (ad.add (i * 3)).off + 1, none⟩ = some (.slice A1 l[i].f1.length c1) ∧ w.cell? ⟨(ad.add (i * 3)).block, (ad.add (i * 3)).off + 2, none⟩ = some (.slice A2 l[i].f2.length c2) ∧ l[i].f1.length ≤ c1 ∧ k38.C w A1 l[i].f1.length l[i].f1 ∧ l[i].f2.length ≤ c2 ∧ (Kd.slice 36 k36).C w A2 l[i].f2.length l[i].f2 := by
  obtain ⟨ad, A1, c1, A2, c2, e, h0, h1, h2, h3, h4, h5, h6⟩ := at_T33 h (i : Int) (by omega) (by omega)
  rw [rdT33_at l i hi] at h0 h1 h2 h3 h4 h5 h6
  rw [Int.toNat_natCast] at h0 h1 h2
  exact ⟨ad, A1, c1, A2, c2, e, h0, h1, h2, h3, h4, h5, h6⟩
theorem table_no (t : S33) (h : ¬ (1 ≤ t.f1.length ∧ t.f1.length ≤ 6 ∧ t.f2.length ≤ 20 ∧ unlikeB (nms38 t.f1) = true ∧ t.f1.all kindB = true ∧ t.f2.all (rowB t.f1) = true)) : tableB t = false := by
  cases e : tableB t with
  | false => rfl
  | true =>
    exfalso
    apply h
    unfold tableB at e
    simp only [Bool.and_eq_true, decide_eq_true_eq] at e
    exact ⟨e.1.1.1.1.1, e.1.1.1.1.2, e.1.1.1.2, e.1.1.2, e.1.2, e.2⟩
theorem table_yes (t : S33) (h : 1 ≤ t.f1.length ∧ t.f1.length ≤ 6 ∧ t.f2.length ≤ 20 ∧ unlikeB (nms38 t.f1) = true ∧ t.f1.all kindB = true ∧ t.f2.all (rowB t.f1) = true) : tableB t = true := by
  unfold tableB
  rw [decide_eq_true h.1, decide_eq_true h.2.1, decide_eq_true h.2.2.1, h.2.2.2.1, h.2.2.2.2.1, h.2.2.2.2.2]
  rfl
theorem box3 {w : World} {g e : Nat} {a b c : Value} (h : w.heap[g]? = some (.cells #[a, b, c] e (0, 0))) (x y z : Value) : (w.setCells g 0 [x, y, z]).heap[g]? = some (.cells #[x, y, z] e (0, 0)) := blk_set (blk_set (blk_set h 0 x) 1 y) 2 z
theorem store3 {w : World} {g e : Nat} {cc : Array Value} (h : w.heap[g]? = some (.cells cc e (0, 0))) (o : Nat) (ho : o + 2 < cc.size) (x y : Value) :
    w.frozen? ⟨g, o, none⟩ = false ∧ (∃ u, w.cell? ⟨g, o, none⟩ = some u) ∧ (w.setCell ⟨g, o, none⟩ x).frozen? ⟨g, o + 1, none⟩ = false ∧ (∃ u, (w.setCell ⟨g, o, none⟩ x).cell? ⟨g, o + 1, none⟩ = some u) ∧ ((w.setCell ⟨g, o, none⟩ x).setCell ⟨g, o + 1, none⟩ y).frozen? ⟨g, o + 2, none⟩ = false ∧ (∃ u, ((w.setCell ⟨g, o, none⟩ x).setCell ⟨g, o + 1, none⟩ y).cell? ⟨g, o + 2, none⟩ = some u) := by
  have h1 := blk_set h o x
  have h2 := blk_set h1 (o + 1) y
  exact ⟨blk_frozen h o, ⟨_, (blk_cell h o).trans (Array.getElem?_eq_getElem (by omega))⟩, blk_frozen h1 _, ⟨_, (blk_cell h1 _).trans (Array.getElem?_eq_getElem (by simp; omega))⟩, blk_frozen h2 _, ⟨_, (blk_cell h2 _).trans (Array.getElem?_eq_getElem (by simp; omega))⟩⟩
theorem all_take {α : Type} {p : α → Bool} {l : List α} {n : Nat} (h : (l.take n).all p = true) (hn : l.length ≤ n) : l.all p = true := by rw [List.take_of_length_le hn] at h; exact h
attribute [local irreducible] wpQuiet
set_option maxHeartbeats 16000000 in
theorem store_table (t : S33) (A1 : Option Addr) (c1 : Nat) (A2 : Option Addr) (c2 : Nat) (w : World) (h1 : Kd.C k38 w A1 t.f1.length t.f1) (hc1 : t.f1.length ≤ c1) (h2 : (Kd.slice 36 k36).C w A2 t.f2.length t.f2) (hc2 : t.f2.length ≤ c2) (hw : ShB w) (hl1 : t.f1.length ≤ 4611686018427387904) (hl2 : t.f2.length ≤ 4611686018427387904) (hs : ∀ x ∈ t.f1, x.f0.size ≤ maxLen) (hr : ∀ r ∈ t.f2, r.length ≤ 4611686018427387904) :
    Calls Try.prog 29 #[.agg #[.string t.f0, .slice A1 t.f1.length c1, .slice A2 t.f2.length c2]] w fun e w' => e = .returned (.bool (tableB t)) ∧ Below w.heap.size w w' := by
  have H1 := Aside0.mk h1
  have H2 := Aside0.mk h2
  have HW := Aside0.mk hw
  have HS := Aside0.mk hs
  have HRL := Aside0.mk hr
  have HNO := Aside0.mk (table_no t)
  have HYES := Aside0.mk (table_yes t)
  have HB0 : Aside0 (Below w.heap.size w (w.alloc (.cells #[.string t.f0, .slice A1 t.f1.length c1, .slice A2 t.f2.length c2] 33))) := ⟨below_alloc (Below.refl _ _) _⟩
  have HX0 : Aside0 ((w.alloc (.cells #[.string t.f0, .slice A1 t.f1.length c1, .slice A2 t.f2.length c2] 33)).heap[w.heap.size]? = some (.cells #[.string t.f0, .slice A1 t.f1.length c1, .slice A2 t.f2.length c2] 33 (0, 0))) := ⟨blk_new w _⟩
  clear h1 h2 hw hs hr
  by_cases q1 : t.f1.length < 1
  · have HU := Aside0.mk (HNO.out (fun h => by omega))
    go_enter Try.func29, Try.ntmps29
    go_wp2
    go_ret
    exact ⟨by rw [HU.out]; rfl, HB0.out⟩
  · by_cases q2 : 6 < t.f1.length
    · have HU := Aside0.mk (HNO.out (fun h => by omega))
      go_enter Try.func29, Try.ntmps29
      go_wp2
      go_ret
      exact ⟨by rw [HU.out]; rfl, HB0.out⟩
    · by_cases q3 : 20 < t.f2.length
      · have HU := Aside0.mk (HNO.out (fun h => by omega))
        go_enter Try.func29, Try.ntmps29
        go_wp2
        go_ret
        exact ⟨by rw [HU.out]; rfl, HB0.out⟩
      · cases hun : unlikeB (nms38 t.f1) with
        | false =>
          have HU := Aside0.mk (HNO.out (fun h => by rw [hun] at h; exact absurd h.2.2.2.1 (by decide)))
          have HUN := Aside0.mk hun
          clear hun
          go_enter Try.func29, Try.ntmps29
          go_wp2_with (go_at_call 42; refine (unlike42 A1 c1 t.f1 _ (Kd.C_below H1.out HB0.out) (HW.out.on HB0.out) hl1 HS.out).mono ?_; rw [HUN.out]; rintro e w1 ⟨rfl, hb⟩; have HB1 := Aside0.mk (below_step HB0.out hb); clear hb)
          go_ret
          exact ⟨by rw [HU.out]; rfl, HB1.out⟩
        | true =>
          have HUN := Aside0.mk hun
          clear hun
          go_enter Try.func29, Try.ntmps29
          go_wp2_with (go_at_call 42; refine (unlike42 A1 c1 t.f1 _ (Kd.C_below H1.out HB0.out) (HW.out.on HB0.out) hl1 HS.out).mono ?_; rw [HUN.out]; rintro e w1 ⟨rfl, hb⟩; have HB1 := Aside0.mk (below_step HB0.out hb); have HX1 := Aside0.mk ((hb.block _ (blk_lt HX0.out)).trans HX0.out); clear hb HX0 HB0; have hc0 : w1.cell? ⟨w.heap.size, 0, none⟩ = some (Value.string t.f0) := (blk_cell HX1.out 0).trans rfl; have hc1 : w1.cell? ⟨w.heap.size, 1, none⟩ = some (Value.slice A1 t.f1.length c1) := (blk_cell HX1.out 1).trans rfl; have hc2 : w1.cell? ⟨w.heap.size, 2, none⟩ = some (Value.slice A2 t.f2.length c2) := (blk_cell HX1.out 2).trans rfl)
          clear hc0 hc1 hc2
          go_loopw [34] (fun s34 wr => ∃ k : Nat, k ≤ t.f1.length ∧ s34 = .int .i64 k ∧ Aside0 ((t.f1.take k).all kindB = true) ∧ Aside0 (Below w1.heap.size w1 wr)) (fun s34 _ => t.f1.length - (intOf s34).toNat)
          case atStart => exact ⟨0, Nat.zero_le _, rfl, ⟨by rfl⟩, ⟨Below.refl _ _⟩⟩
          case round =>
            obtain ⟨k, hk, rfl, HK, HBW⟩ := hrel
            have HXR := Aside0.mk ((HBW.out.block _ (blk_lt HX1.out)).trans HX1.out)
            have hc0 : wr.cell? ⟨w.heap.size, 0, none⟩ = some (Value.string t.f0) := (blk_cell HXR.out 0).trans rfl
            have hc1 : wr.cell? ⟨w.heap.size, 1, none⟩ = some (Value.slice A1 t.f1.length c1) := (blk_cell HXR.out 1).trans rfl
            have hc2 : wr.cell? ⟨w.heap.size, 2, none⟩ = some (Value.slice A2 t.f2.length c2) := (blk_cell HXR.out 2).trans rfl
            by_cases hlt : k < t.f1.length
            · obtain ⟨ad, e, hx0, hx1⟩ := at38 (Kd.C_below H1.out (below_step HB1.out HBW.out)) k hlt
              cases e
              have HT := Aside0.mk (List.take_succ_eq_append_getElem hlt)
              have HKF : Aside0 (kindB t.f1[k] = false → tableB t = false) := ⟨fun h => HNO.out (fun hh => by
                have := List.all_eq_true.1 hh.2.2.2.2.1 _ (List.getElem_mem hlt)
                rw [h] at this
                cases this)⟩
              generalize t.f1[k] = x at *
              by_cases qa : x.f1 < 1
              · have HU := Aside0.mk (HKF.out (by unfold kindB; rw [decide_eq_false (by omega : ¬ (1 ≤ x.f1))]; rfl))
                go_wp2_with ((with_reducible refine gate_dst (N := 4) rfl ?_); (try (refine gate_guard (by rfl) ?_; dsimp only)); refine box_event ?hg (N := 4) ?hd (cs := #[.string (⟨#[]⟩ : ByteArray), .int .i64 0]) (t := 38) ?hr ?_; (case hd => rfl); (case hg => rfl); (case hr => first | (go_simp; done) | (go_simp; rfl)); intro gb hg w2 hbox hb; have HX2 := Aside0.mk hbox; have GE := Aside0.mk ((by rw [hg]; exact HBW.out.size) : w1.heap.size ≤ gb); have HB2 := Aside0.mk (below_step HBW.out hb); have hz0 : w2.cell? ⟨gb, 0, none⟩ = some (.string (⟨#[]⟩ : ByteArray)) := (blk_cell HX2.out 0).trans rfl; have hz1 : w2.cell? ⟨gb, 1, none⟩ = some (.int .i64 0) := (blk_cell HX2.out 1).trans rfl; have hf0 := blk_frozen HX2.out 0; have hf1 := blk_frozen HX2.out 1; clear hb hbox hg hc0 hc1 hc2)
                go_ret
                exact ⟨by rw [HU.out]; rfl, below_step HB1.out (by repeat (first | (with_reducible first | exact HB2.out | apply below_alloc | apply pw_below_drewN | apply below_drew1 | refine below_set ?_ GE.out) | exact HB2.out))⟩
              · by_cases qb : 3 < x.f1
                · have HU := Aside0.mk (HKF.out (by unfold kindB; rw [decide_eq_false (by omega : ¬ (x.f1 ≤ 3))]; simp))
                  go_wp2_with ((with_reducible refine gate_dst (N := 4) rfl ?_); (try (refine gate_guard (by rfl) ?_; dsimp only)); refine box_event ?hg (N := 4) ?hd (cs := #[.string (⟨#[]⟩ : ByteArray), .int .i64 0]) (t := 38) ?hr ?_; (case hd => rfl); (case hg => rfl); (case hr => first | (go_simp; done) | (go_simp; rfl)); intro gb hg w2 hbox hb; have HX2 := Aside0.mk hbox; have GE := Aside0.mk ((by rw [hg]; exact HBW.out.size) : w1.heap.size ≤ gb); have HB2 := Aside0.mk (below_step HBW.out hb); have hz0 : w2.cell? ⟨gb, 0, none⟩ = some (.string (⟨#[]⟩ : ByteArray)) := (blk_cell HX2.out 0).trans rfl; have hz1 : w2.cell? ⟨gb, 1, none⟩ = some (.int .i64 0) := (blk_cell HX2.out 1).trans rfl; have hf0 := blk_frozen HX2.out 0; have hf1 := blk_frozen HX2.out 1; clear hb hbox hg hc0 hc1 hc2)
                  go_ret
                  exact ⟨by rw [HU.out]; rfl, below_step HB1.out (by repeat (first | (with_reducible first | exact HB2.out | apply below_alloc | apply pw_below_drewN | apply below_drew1 | refine below_set ?_ GE.out) | exact HB2.out))⟩
                · have HKB : Aside0 (kindB x = true) := ⟨by unfold kindB; rw [decide_eq_true (by omega : 1 ≤ x.f1), decide_eq_true (by omega : x.f1 ≤ 3)]; rfl⟩
                  go_wp2_with ((with_reducible refine gate_dst (N := 4) rfl ?_); (try (refine gate_guard (by rfl) ?_; dsimp only)); refine box_event ?hg (N := 4) ?hd (cs := #[.string (⟨#[]⟩ : ByteArray), .int .i64 0]) (t := 38) ?hr ?_; (case hd => rfl); (case hg => rfl); (case hr => first | (go_simp; done) | (go_simp; rfl)); intro gb hg w2 hbox hb; have HX2 := Aside0.mk hbox; have GE := Aside0.mk ((by rw [hg]; exact HBW.out.size) : w1.heap.size ≤ gb); have HB2 := Aside0.mk (below_step HBW.out hb); have hz0 : w2.cell? ⟨gb, 0, none⟩ = some (.string (⟨#[]⟩ : ByteArray)) := (blk_cell HX2.out 0).trans rfl; have hz1 : w2.cell? ⟨gb, 1, none⟩ = some (.int .i64 0) := (blk_cell HX2.out 1).trans rfl; have hf0 := blk_frozen HX2.out 0; have hf1 := blk_frozen HX2.out 1; clear hb hbox hg hc0 hc1 hc2)
                  go_roundw
                  case rel => exact ⟨k + 1, by omega, by go_num, ⟨by rw [HT.out, List.all_append, HK.out]; simp [HKB.out]⟩, ⟨by repeat (first | (with_reducible first | exact HB2.out | apply below_alloc | apply pw_below_drewN | apply below_drew1 | refine below_set ?_ GE.out) | exact HB2.out)⟩⟩
                  case measure => simp [intOf]; omega
            · have HKA : Aside0 (t.f1.all kindB = true) := ⟨by have h := HK.out; rw [List.take_of_length_le (by omega)] at h; exact h⟩
              clear HK
              go_wp2
              clear hc0 hc1 hc2 hlt hk
              generalize hwb : wr = wa at *
              clear hwb
              go_loopw [50] (fun s50 wr => ∃ m : Nat, m ≤ t.f2.length ∧ s50 = .int .i64 m ∧ Aside0 ((t.f2.take m).all (rowB t.f1) = true) ∧ Aside0 (Below w1.heap.size w1 wr)) (fun s50 _ => t.f2.length - (intOf s50).toNat)
              case atStart => exact ⟨0, Nat.zero_le _, rfl, ⟨by rfl⟩, HBW⟩
              case round =>
                clear HBW
                obtain ⟨m, hm, rfl, HM, HBR⟩ := hrel
                have HXR := Aside0.mk ((HBR.out.block _ (blk_lt HX1.out)).trans HX1.out)
                have hc0 : wr.cell? ⟨w.heap.size, 0, none⟩ = some (Value.string t.f0) := (blk_cell HXR.out 0).trans rfl
                have hc1 : wr.cell? ⟨w.heap.size, 1, none⟩ = some (Value.slice A1 t.f1.length c1) := (blk_cell HXR.out 1).trans rfl
                have hc2 : wr.cell? ⟨w.heap.size, 2, none⟩ = some (Value.slice A2 t.f2.length c2) := (blk_cell HXR.out 2).trans rfl
                by_cases hml : m < t.f2.length
                · obtain ⟨ad, A0, c0, e, hx, hlc, hC⟩ := atL3 H2.out m hml
                  cases e
                  replace hx := ((below_step HB1.out HBR.out).cell (World.block_lt_of_cell? w _ hx)).trans hx
                  have HC := Aside0.mk hC
                  have HT := Aside0.mk (List.take_succ_eq_append_getElem hml)
                  have HKF : Aside0 (rowB t.f1 t.f2[m] = false → tableB t = false) := ⟨fun h => HNO.out (fun hh => by
                    have := List.all_eq_true.1 hh.2.2.2.2.2 _ (List.getElem_mem hml)
                    rw [h] at this
                    cases this)⟩
                  have hrm := HRL.out _ (List.getElem_mem hml)
                  clear hC
                  generalize t.f2[m] = r at *
                  by_cases hrl : r.length = t.f1.length
                  · go_wp2
                    clear hc0 hc1 hc2 hx
                    generalize hwb : wr = wb at *
                    clear hwb
                    go_loopw [62] (fun s62 wr => ∃ i : Nat, i ≤ r.length ∧ s62 = .int .i64 i ∧ Aside0 (((r.zip t.f1).take i).all (fun p => cellB p.1 p.2) = true) ∧ Aside0 (Below w1.heap.size w1 wr)) (fun s62 _ => r.length - (intOf s62).toNat)
                    case atStart => exact ⟨0, Nat.zero_le _, rfl, ⟨by rfl⟩, HBR⟩
                    case round =>
                      clear HBR HXR
                      obtain ⟨i, hi, rfl, HI, HBI⟩ := hrel
                      by_cases hil : i < r.length
                      · have hil2 : i < t.f1.length := by omega
                        obtain ⟨ad3, e, hv0, hv1, hv2⟩ := at36 HC.out i hil
                        cases e
                        replace hv0 := ((below_step HB1.out HBI.out).cell (World.block_lt_of_cell? w _ hv0)).trans hv0
                        replace hv1 := ((below_step HB1.out HBI.out).cell (World.block_lt_of_cell? w _ hv1)).trans hv1
                        replace hv2 := ((below_step HB1.out HBI.out).cell (World.block_lt_of_cell? w _ hv2)).trans hv2
                        obtain ⟨ad4, e, hk0, hk1⟩ := at38 H1.out i hil2
                        cases e
                        have hzl : i < (r.zip t.f1).length := by rw [List.length_zip]; omega
                        have HTI := Aside0.mk (List.take_succ_eq_append_getElem hzl)
                        rw [List.getElem_zip] at HTI
                        have HKC : Aside0 (cellB r[i] t.f1[i] = false → tableB t = false) := ⟨fun h => HKF.out (by
                          unfold rowB
                          rw [List.all_eq_false.2 ⟨_, List.getElem_mem hzl, by rw [List.getElem_zip]; simp [h]⟩]
                          simp)⟩
                        generalize r[i] = v at *
                        generalize t.f1[i] = cc at *
                        obtain ⟨f0, f1, f2⟩ := v
                        clear hk0
                        cases hvr : vR ⟨f0, f1, f2⟩ with
                        | false =>
                          have HU := Aside0.mk (HKC.out (by unfold cellB; rw [hvr]; rfl))
                          have HCM : Aside0 (∀ (w4 : World) (d : Nat) (os : Array Obj), Calls Try.prog 44 #[.agg #[.int .i64 f0, .int .i64 f1, .string f2]] (Go.Sort.grow (redrawn w4 d) os) fun e w'' => e = .returned (.bool false) ∧ ∃ p : Regrown, w'' = Go.Sort.grow (redrawn w4 p.d) p.os) := ⟨fun w4 d os => by have := val_Right ⟨f0, f1, f2⟩ (Go.Sort.grow (redrawn w4 d) os); rw [hvr] at this; exact Calls.regrown_of this⟩
                          clear hvr HKC
                          go_wp2_with ((with_reducible refine gate_dst (N := 8) rfl ?_); (try (refine gate_guard (by rfl) ?_; dsimp only)); refine box_event ?hg (N := 8) ?hd (cs := #[.int .i64 0, .int .i64 0, .string (⟨#[]⟩ : ByteArray)]) (t := 36) ?hr ?_; (case hd => rfl); (case hg => rfl); (case hr => first | (go_simp; done) | (go_simp; rfl)); intro gb hg w3 hbox hb; have HX3 := Aside0.mk hbox; have GE3 := Aside0.mk ((by rw [hg]; exact HBI.out.size) : w1.heap.size ≤ gb); have HB3 := Aside0.mk (below_step HBI.out hb); have hz0 : w3.cell? ⟨gb, 0, none⟩ = some (.int .i64 0) := (blk_cell HX3.out 0).trans rfl; have hz1 : w3.cell? ⟨gb, 1, none⟩ = some (.int .i64 0) := (blk_cell HX3.out 1).trans rfl; have hz2 : w3.cell? ⟨gb, 2, none⟩ = some (.string (⟨#[]⟩ : ByteArray)) := (blk_cell HX3.out 2).trans rfl; have hf0 := blk_frozen HX3.out 0; have hf1 := blk_frozen HX3.out 1; have hf2 := blk_frozen HX3.out 2; clear hb hbox hg)
                          have HX4 : Aside0 ((((w3.setCell ⟨gb, 0, none⟩ (.int .i64 f0)).setCell ⟨gb, 1, none⟩ (.int .i64 f1)).setCell ⟨gb, 2, none⟩ (.string f2)).heap[gb]? = some (.cells #[.int .i64 f0, .int .i64 f1, .string f2] 36 (0, 0))) := ⟨blk_set (blk_set (blk_set HX3.out 0 _) 1 _) 2 _⟩
                          have HB4 : Aside0 (Below w1.heap.size w1 (((w3.setCell ⟨gb, 0, none⟩ (.int .i64 f0)).setCell ⟨gb, 1, none⟩ (.int .i64 f1)).setCell ⟨gb, 2, none⟩ (.string f2))) := ⟨below_set (below_set (below_set HB3.out GE3.out) GE3.out) GE3.out⟩
                          clear hz0 hz1 hz2 hf0 hf1 hf2
                          generalize ((w3.setCell ⟨gb, 0, none⟩ (.int .i64 f0)).setCell ⟨gb, 1, none⟩ (.int .i64 f1)).setCell ⟨gb, 2, none⟩ (.string f2) = w4 at *
                          have mixed : Try.prog.follows Departure.mixedOrders = true := by kernel_rfl
                          have la0 := fun d os => cell_regrown (((blk_cell HX4.out 0).trans rfl) : w4.cell? ⟨gb, 0, none⟩ = some (.int .i64 f0)) d os
                          have la1 := fun d os => cell_regrown (((blk_cell HX4.out 1).trans rfl) : w4.cell? ⟨gb, 1, none⟩ = some (.int .i64 f1)) d os
                          have la2 := fun d os => cell_regrown (((blk_cell HX4.out 2).trans rfl) : w4.cell? ⟨gb, 2, none⟩ = some (.string f2)) d os
                          have la3 := fun d os => cell_regrown (((blk_cell ((HB4.out.block _ (blk_lt HX1.out)).trans HX1.out) 1).trans rfl) : w4.cell? ⟨w.heap.size, 1, none⟩ = some (.slice (some ad4) t.f1.length c1)) d os
                          have la4 := fun d os => cell_regrown ((((below_step HB1.out HB4.out).cell (World.block_lt_of_cell? w _ hk1)).trans hk1)) d os
                          refine wp_region_quiet_below (by assumption) (by kernel_rfl) ?_
                          repeat (quiet_step (first | (go_at_call 44; refine HCM.out w4 _ _)))
                          refine wpQuiet_nil ?_
                          intro _ hw'
                          obtain ⟨⟨nq, osq⟩, hw''⟩ := hw'
                          subst hw''
                          have HB5 : Aside0 (Below w1.heap.size w1 (Go.Sort.grow (redrawn w4 nq) osq)) := ⟨below_step HB4.out (below_regrown w4 nq osq)⟩
                          clear la0 la1 la2 la3 la4
                          generalize Go.Sort.grow (redrawn w4 nq) osq = w5 at HB5 ⊢
                          go_wp2
                          go_ret
                          exact ⟨by rw [HU.out]; rfl, below_step HB1.out HB5.out⟩
                        | true =>
                          have HCM : Aside0 (∀ (w4 : World) (d : Nat) (os : Array Obj), Calls Try.prog 44 #[.agg #[.int .i64 f0, .int .i64 f1, .string f2]] (Go.Sort.grow (redrawn w4 d) os) fun e w'' => e = .returned (.bool true) ∧ ∃ p : Regrown, w'' = Go.Sort.grow (redrawn w4 p.d) p.os) := ⟨fun w4 d os => by have := val_Right ⟨f0, f1, f2⟩ (Go.Sort.grow (redrawn w4 d) os); rw [hvr] at this; exact Calls.regrown_of this⟩
                          by_cases hz : f0 = 0
                          · subst hz
                            have HOK : Aside0 (cellB ⟨0, f1, f2⟩ cc = true) := ⟨by unfold cellB; rw [hvr]; rfl⟩
                            clear hvr HKC
                            go_wp2_with ((with_reducible refine gate_dst (N := 8) rfl ?_); (try (refine gate_guard (by rfl) ?_; dsimp only)); refine box_event ?hg (N := 8) ?hd (cs := #[.int .i64 0, .int .i64 0, .string (⟨#[]⟩ : ByteArray)]) (t := 36) ?hr ?_; (case hd => rfl); (case hg => rfl); (case hr => first | (go_simp; done) | (go_simp; rfl)); intro gb hg w3 hbox hb; have HX3 := Aside0.mk hbox; have GE3 := Aside0.mk ((by rw [hg]; exact HBI.out.size) : w1.heap.size ≤ gb); have HB3 := Aside0.mk (below_step HBI.out hb); have hz0 : w3.cell? ⟨gb, 0, none⟩ = some (.int .i64 0) := (blk_cell HX3.out 0).trans rfl; have hz1 : w3.cell? ⟨gb, 1, none⟩ = some (.int .i64 0) := (blk_cell HX3.out 1).trans rfl; have hz2 : w3.cell? ⟨gb, 2, none⟩ = some (.string (⟨#[]⟩ : ByteArray)) := (blk_cell HX3.out 2).trans rfl; have hf0 := blk_frozen HX3.out 0; have hf1 := blk_frozen HX3.out 1; have hf2 := blk_frozen HX3.out 2; clear hb hbox hg)
                            have HX4 : Aside0 ((((w3.setCell ⟨gb, 0, none⟩ (.int .i64 0)).setCell ⟨gb, 1, none⟩ (.int .i64 f1)).setCell ⟨gb, 2, none⟩ (.string f2)).heap[gb]? = some (.cells #[.int .i64 0, .int .i64 f1, .string f2] 36 (0, 0))) := ⟨blk_set (blk_set (blk_set HX3.out 0 _) 1 _) 2 _⟩
                            have HB4 : Aside0 (Below w1.heap.size w1 (((w3.setCell ⟨gb, 0, none⟩ (.int .i64 0)).setCell ⟨gb, 1, none⟩ (.int .i64 f1)).setCell ⟨gb, 2, none⟩ (.string f2))) := ⟨below_set (below_set (below_set HB3.out GE3.out) GE3.out) GE3.out⟩
                            clear hz0 hz1 hz2 hf0 hf1 hf2
                            generalize ((w3.setCell ⟨gb, 0, none⟩ (.int .i64 0)).setCell ⟨gb, 1, none⟩ (.int .i64 f1)).setCell ⟨gb, 2, none⟩ (.string f2) = w4 at *
                            have mixed : Try.prog.follows Departure.mixedOrders = true := by kernel_rfl
                            have la0 := fun d os => cell_regrown (((blk_cell HX4.out 0).trans rfl) : w4.cell? ⟨gb, 0, none⟩ = some (.int .i64 0)) d os
                            have la1 := fun d os => cell_regrown (((blk_cell HX4.out 1).trans rfl) : w4.cell? ⟨gb, 1, none⟩ = some (.int .i64 f1)) d os
                            have la2 := fun d os => cell_regrown (((blk_cell HX4.out 2).trans rfl) : w4.cell? ⟨gb, 2, none⟩ = some (.string f2)) d os
                            have la3 := fun d os => cell_regrown (((blk_cell ((HB4.out.block _ (blk_lt HX1.out)).trans HX1.out) 1).trans rfl) : w4.cell? ⟨w.heap.size, 1, none⟩ = some (.slice (some ad4) t.f1.length c1)) d os
                            have la4 := fun d os => cell_regrown ((((below_step HB1.out HB4.out).cell (World.block_lt_of_cell? w _ hk1)).trans hk1)) d os
                            refine wp_region_quiet_below (by assumption) (by kernel_rfl) ?_
                            repeat (quiet_step (first | (go_at_call 44; refine HCM.out w4 _ _)))
                            refine wpQuiet_nil ?_
                            intro _ hw'
                            obtain ⟨⟨nq, osq⟩, hw''⟩ := hw'
                            subst hw''
                            have HB5 : Aside0 (Below w1.heap.size w1 (Go.Sort.grow (redrawn w4 nq) osq)) := ⟨below_step HB4.out (below_regrown w4 nq osq)⟩
                            clear la0 la1 la2 la3 la4
                            generalize Go.Sort.grow (redrawn w4 nq) osq = w5 at HB5 ⊢
                            go_wp2
                            go_roundw
                            case rel => exact ⟨i + 1, by omega, by go_num, ⟨by rw [HTI.out, List.all_append, HI.out]; simp [HOK.out]⟩, HB5⟩
                            case measure => simp [intOf]; omega
                          · by_cases hzc : f0 = cc.f1
                            · subst hzc
                              have HOK : Aside0 (cellB ⟨cc.f1, f1, f2⟩ cc = true) := ⟨by unfold cellB; rw [hvr]; simp⟩
                              clear hvr HKC
                              go_wp2_with ((with_reducible refine gate_dst (N := 8) rfl ?_); (try (refine gate_guard (by rfl) ?_; dsimp only)); refine box_event ?hg (N := 8) ?hd (cs := #[.int .i64 0, .int .i64 0, .string (⟨#[]⟩ : ByteArray)]) (t := 36) ?hr ?_; (case hd => rfl); (case hg => rfl); (case hr => first | (go_simp; done) | (go_simp; rfl)); intro gb hg w3 hbox hb; have HX3 := Aside0.mk hbox; have GE3 := Aside0.mk ((by rw [hg]; exact HBI.out.size) : w1.heap.size ≤ gb); have HB3 := Aside0.mk (below_step HBI.out hb); have hz0 : w3.cell? ⟨gb, 0, none⟩ = some (.int .i64 0) := (blk_cell HX3.out 0).trans rfl; have hz1 : w3.cell? ⟨gb, 1, none⟩ = some (.int .i64 0) := (blk_cell HX3.out 1).trans rfl; have hz2 : w3.cell? ⟨gb, 2, none⟩ = some (.string (⟨#[]⟩ : ByteArray)) := (blk_cell HX3.out 2).trans rfl; have hf0 := blk_frozen HX3.out 0; have hf1 := blk_frozen HX3.out 1; have hf2 := blk_frozen HX3.out 2; clear hb hbox hg)
                              have HX4 : Aside0 ((((w3.setCell ⟨gb, 0, none⟩ (.int .i64 cc.f1)).setCell ⟨gb, 1, none⟩ (.int .i64 f1)).setCell ⟨gb, 2, none⟩ (.string f2)).heap[gb]? = some (.cells #[.int .i64 cc.f1, .int .i64 f1, .string f2] 36 (0, 0))) := ⟨blk_set (blk_set (blk_set HX3.out 0 _) 1 _) 2 _⟩
                              have HB4 : Aside0 (Below w1.heap.size w1 (((w3.setCell ⟨gb, 0, none⟩ (.int .i64 cc.f1)).setCell ⟨gb, 1, none⟩ (.int .i64 f1)).setCell ⟨gb, 2, none⟩ (.string f2))) := ⟨below_set (below_set (below_set HB3.out GE3.out) GE3.out) GE3.out⟩
                              clear hz0 hz1 hz2 hf0 hf1 hf2
                              generalize ((w3.setCell ⟨gb, 0, none⟩ (.int .i64 cc.f1)).setCell ⟨gb, 1, none⟩ (.int .i64 f1)).setCell ⟨gb, 2, none⟩ (.string f2) = w4 at *
                              have mixed : Try.prog.follows Departure.mixedOrders = true := by kernel_rfl
                              have la0 := fun d os => cell_regrown (((blk_cell HX4.out 0).trans rfl) : w4.cell? ⟨gb, 0, none⟩ = some (.int .i64 cc.f1)) d os
                              have la1 := fun d os => cell_regrown (((blk_cell HX4.out 1).trans rfl) : w4.cell? ⟨gb, 1, none⟩ = some (.int .i64 f1)) d os
                              have la2 := fun d os => cell_regrown (((blk_cell HX4.out 2).trans rfl) : w4.cell? ⟨gb, 2, none⟩ = some (.string f2)) d os
                              have la3 := fun d os => cell_regrown (((blk_cell ((HB4.out.block _ (blk_lt HX1.out)).trans HX1.out) 1).trans rfl) : w4.cell? ⟨w.heap.size, 1, none⟩ = some (.slice (some ad4) t.f1.length c1)) d os
                              have la4 := fun d os => cell_regrown ((((below_step HB1.out HB4.out).cell (World.block_lt_of_cell? w _ hk1)).trans hk1)) d os
                              refine wp_region_quiet_below (by assumption) (by kernel_rfl) ?_
                              repeat (quiet_step (first | (go_at_call 44; refine HCM.out w4 _ _)))
                              refine wpQuiet_nil ?_
                              intro _ hw'
                              obtain ⟨⟨nq, osq⟩, hw''⟩ := hw'
                              subst hw''
                              have HB5 : Aside0 (Below w1.heap.size w1 (Go.Sort.grow (redrawn w4 nq) osq)) := ⟨below_step HB4.out (below_regrown w4 nq osq)⟩
                              clear la0 la1 la2 la3 la4
                              generalize Go.Sort.grow (redrawn w4 nq) osq = w5 at HB5 ⊢
                              go_wp2
                              go_roundw
                              case rel => exact ⟨i + 1, by omega, by go_num, ⟨by rw [HTI.out, List.all_append, HI.out]; simp [HOK.out]⟩, HB5⟩
                              case measure => simp [intOf]; omega
                            · have hzd : decide (f0 = cc.f1) = false := decide_eq_false hzc
                              have hze : (f0 != cc.f1) = true := by simp [hzc]
                              have hzf : (f0 != 0) = true := by simp [hz]
                              have HU := Aside0.mk (HKC.out (by unfold cellB; rw [hvr]; simp [hzc, hz]))
                              clear hvr HKC
                              go_wp2_with ((with_reducible refine gate_dst (N := 8) rfl ?_); (try (refine gate_guard (by rfl) ?_; dsimp only)); refine box_event ?hg (N := 8) ?hd (cs := #[.int .i64 0, .int .i64 0, .string (⟨#[]⟩ : ByteArray)]) (t := 36) ?hr ?_; (case hd => rfl); (case hg => rfl); (case hr => first | (go_simp; done) | (go_simp; rfl)); intro gb hg w3 hbox hb; have HX3 := Aside0.mk hbox; have GE3 := Aside0.mk ((by rw [hg]; exact HBI.out.size) : w1.heap.size ≤ gb); have HB3 := Aside0.mk (below_step HBI.out hb); have hz0 : w3.cell? ⟨gb, 0, none⟩ = some (.int .i64 0) := (blk_cell HX3.out 0).trans rfl; have hz1 : w3.cell? ⟨gb, 1, none⟩ = some (.int .i64 0) := (blk_cell HX3.out 1).trans rfl; have hz2 : w3.cell? ⟨gb, 2, none⟩ = some (.string (⟨#[]⟩ : ByteArray)) := (blk_cell HX3.out 2).trans rfl; have hf0 := blk_frozen HX3.out 0; have hf1 := blk_frozen HX3.out 1; have hf2 := blk_frozen HX3.out 2; clear hb hbox hg)
                              have HX4 : Aside0 ((((w3.setCell ⟨gb, 0, none⟩ (.int .i64 f0)).setCell ⟨gb, 1, none⟩ (.int .i64 f1)).setCell ⟨gb, 2, none⟩ (.string f2)).heap[gb]? = some (.cells #[.int .i64 f0, .int .i64 f1, .string f2] 36 (0, 0))) := ⟨blk_set (blk_set (blk_set HX3.out 0 _) 1 _) 2 _⟩
                              have HB4 : Aside0 (Below w1.heap.size w1 (((w3.setCell ⟨gb, 0, none⟩ (.int .i64 f0)).setCell ⟨gb, 1, none⟩ (.int .i64 f1)).setCell ⟨gb, 2, none⟩ (.string f2))) := ⟨below_set (below_set (below_set HB3.out GE3.out) GE3.out) GE3.out⟩
                              clear hz0 hz1 hz2 hf0 hf1 hf2
                              generalize ((w3.setCell ⟨gb, 0, none⟩ (.int .i64 f0)).setCell ⟨gb, 1, none⟩ (.int .i64 f1)).setCell ⟨gb, 2, none⟩ (.string f2) = w4 at *
                              have mixed : Try.prog.follows Departure.mixedOrders = true := by kernel_rfl
                              have la0 := fun d os => cell_regrown (((blk_cell HX4.out 0).trans rfl) : w4.cell? ⟨gb, 0, none⟩ = some (.int .i64 f0)) d os
                              have la1 := fun d os => cell_regrown (((blk_cell HX4.out 1).trans rfl) : w4.cell? ⟨gb, 1, none⟩ = some (.int .i64 f1)) d os
                              have la2 := fun d os => cell_regrown (((blk_cell HX4.out 2).trans rfl) : w4.cell? ⟨gb, 2, none⟩ = some (.string f2)) d os
                              have la3 := fun d os => cell_regrown (((blk_cell ((HB4.out.block _ (blk_lt HX1.out)).trans HX1.out) 1).trans rfl) : w4.cell? ⟨w.heap.size, 1, none⟩ = some (.slice (some ad4) t.f1.length c1)) d os
                              have la4 := fun d os => cell_regrown ((((below_step HB1.out HB4.out).cell (World.block_lt_of_cell? w _ hk1)).trans hk1)) d os
                              refine wp_region_quiet_below (by assumption) (by kernel_rfl) ?_
                              repeat (quiet_step (first | (go_at_call 44; refine HCM.out w4 _ _)))
                              refine wpQuiet_nil ?_
                              intro _ hw'
                              obtain ⟨⟨nq, osq⟩, hw''⟩ := hw'
                              subst hw''
                              have HB5 : Aside0 (Below w1.heap.size w1 (Go.Sort.grow (redrawn w4 nq) osq)) := ⟨below_step HB4.out (below_regrown w4 nq osq)⟩
                              clear la0 la1 la2 la3 la4
                              generalize Go.Sort.grow (redrawn w4 nq) osq = w5 at HB5 ⊢
                              go_wp2
                              go_ret
                              exact ⟨by rw [HU.out]; rfl, below_step HB1.out HB5.out⟩
                      · have HRB : Aside0 (rowB t.f1 r = true) := ⟨by unfold rowB; rw [decide_eq_true hrl, all_take HI.out (by rw [List.length_zip]; omega)]; rfl⟩
                        go_wp2
                        go_roundw
                        case rel => exact ⟨m + 1, by omega, by go_num, ⟨by rw [HT.out, List.all_append, HM.out]; simp [HRB.out]⟩, HBI⟩
                        case measure => simp [intOf]; omega
                  · have HU := Aside0.mk (HKF.out (by unfold rowB; rw [decide_eq_false hrl]; rfl))
                    have hd : ¬ ((r.length : Int) = (t.f1.length : Int)) := by omega
                    go_wp2
                    go_ret
                    exact ⟨by rw [HU.out]; rfl, below_step HB1.out HBR.out⟩
                · have HU := Aside0.mk (HYES.out ⟨by omega, by omega, by omega, HUN.out, HKA.out, all_take HM.out (by omega)⟩)
                  go_wp2
                  go_ret
                  exact ⟨by rw [HU.out]; rfl, below_step HB1.out HBR.out⟩

end Go.Proofs.Ytkogfjphpklioaa.QStoreNames
