import Derived.Test.YtmnjaihalajhcaaDoorPlG
import Derived.Test.YtmnjaihalajhcaaDoorPlH
/- Plan: walks by hand; the conditions stand in each theorem. -/
namespace Go.Proofs.YtmnjaihalajhcaaDoor.QPlanConds
open Go.RowKit Go.Proofs.YtmnjaihalajhcaaDoorW.PrintWords Go.Proofs.YtmnjaihalajhcaaDoorW.PrintLast Go.Proofs.YtmnjaihalajhcaaDoorW.PrintMore
attribute [local go_sem] max2_int min2_int max_two min_two max_three min_three max_four min_four
set_option linter.unusedVariables false
set_option linter.unusedSimpArgs false
theorem at_int {w : World} {A : Option Addr} {xs : List Int} (h : (Kd.int .i64).C w A xs.length xs) (i : Nat) (h1 : i < xs.length) : ∃ ad, A = some ad ∧ w.cell? (ad.add i) = some (.int .i64 xs[i]) := by
  obtain ⟨ad, c, e, _, hK, hc⟩ := Kd.C_get h (0 : Int) (i : Int) (by omega) (by omega)
  refine ⟨ad, e, ?_⟩
  have hz : xs.getD i 0 = xs[i] := by rw [List.getD_eq_getElem?_getD, List.getElem?_eq_getElem h1]; rfl
  rw [Int.toNat_natCast, hz] at hK
  have h2 : c = [Value.int .i64 xs[i]] := hK
  have := hc 0 (Value.int .i64 xs[i]) (by rw [h2]; rfl)
  rw [Int.toNat_natCast, show (Kd.int IntKind.i64).sz = 1 from rfl, Nat.mul_one, Nat.add_zero] at this
  exact this
def hasX (T : List Int) (v : Int) : Bool := T.any (fun x => v == x)
set_option maxHeartbeats 2000000 in
theorem index51 (A : Option Addr) (c : Nat) (T : List Int) (v : Int) (w : World) (hC : (Kd.int .i64).C w A T.length T) :
    Calls Tryd.prog 51 #[.slice A T.length c, .int .i64 v] w fun e_ w' => (∃ r : Int, e_ = .returned (.int .i64 r) ∧ decide (r ≥ 0) = hasX T v) ∧ Below w.heap.size w w' := by
  have HC := Aside0.mk hC
  have HMX := Aside0.mk (Kd.C_max hC)
  clear hC
  go_enter Tryd.func51, Tryd.ntmps51
  go_wp2
  go_loopw [8] (fun s_ wr => ∃ i : Nat, i ≤ T.length ∧ s_ = .int .i64 (i : Int) ∧ Aside0 ((T.take i).any (fun x => v == x) = false) ∧ Aside0 (Below w.heap.size w wr)) (fun s_ _ => T.length - (intOf s_).toNat)
  case atStart => exact ⟨0, Nat.zero_le _, rfl, ⟨by simp⟩, ⟨Below.refl _ _⟩⟩
  case round =>
    obtain ⟨i, hi, rfl, HT, HW⟩ := hrel
    by_cases hlt : i < T.length
    · have hin : (i : Int) < (T.length : Int) := by omega
      have hwi : wrap64 ((i : Int) + 1) = (i : Int) + 1 := w64_ (by omega) (by have := HMX.out; omega)
      obtain ⟨ad, e0, x0⟩ := at_int (HC.out) i hlt
      subst e0
      have y0 := cells_later HW.out x0
      have HTS : Aside0 ((T.take (i + 1)).any (fun x => v == x) = (v == T[i])) := ⟨by rw [List.take_succ_eq_append_getElem hlt, List.any_append, HT.out]; simp⟩
      have HIN : Aside0 ((v == T[i]) = true → hasX T v = true) := ⟨fun h => List.any_eq_true.2 ⟨T[i], List.getElem_mem hlt, h⟩⟩
      clear x0
      generalize T[i] = u at *
      rcases Bool.eq_false_or_eq_true (v == u) with q | q
      · have HQ := Aside0.mk (HIN.out q)
        go_wp2
        go_ret
        rw [HQ.out]
        exact ⟨⟨_, rfl, decide_eq_true (by omega)⟩, HW.out⟩
      · have HQ := Aside0.mk q
        go_wp2
        go_roundw
        case rel => exact ⟨i + 1, by omega, by go_num, ⟨by rw [HTS.out]; exact HQ.out⟩, HW⟩
        case measure => rw [hwi]; exact meas_ hlt
    · have HI : Aside0 (hasX T v = false) := ⟨by unfold hasX; have := HT.out; rwa [List.take_of_length_le (by omega)] at this⟩
      have hle : T.length ≤ i := by omega
      go_wp2
      go_ret
      rw [HI.out]
      exact ⟨⟨_, rfl, by decide⟩, HW.out⟩
theorem contains29 (A : Option Addr) (c : Nat) (T : List Int) (v : Int) (w : World) (hC : (Kd.int .i64).C w A T.length T) :
    Calls Tryd.prog 29 #[.slice A T.length c, .int .i64 v] w fun e_ w' => e_ = .returned (.bool (hasX T v)) ∧ Below w.heap.size w w' := by
  have HC := Aside0.mk hC
  clear hC
  go_enter Tryd.func29, Tryd.ntmps29
  go_wp2_with (go_at_call 51; refine (index51 A c T v _ HC.out).mono ?_; rintro e_ w1 ⟨⟨r, rfl, hr⟩, hb⟩; have HB := Aside0.mk hb; have HR := Aside0.mk hr; clear hb hr)
  go_ret
  rw [← HR.out]
  exact ⟨rfl, HB.out⟩
def joinB (p : S34) : Bool := (p.f0 == 3) || ((p.f0 == 4) || (p.f0 == 5))
set_option maxHeartbeats 2000000 in
theorem join28 (p : S34) (A : Option Addr) (c : Nat) (w : World) :
    Calls Tryd.prog 28 #[encP p A c] w fun e_ w' => e_ = .returned (.bool (joinB p)) ∧ Below w.heap.size w w' := by
  have hu34 := Tryd.underlying34
  obtain ⟨r, hr⟩ : ∃ r, r = joinB p := ⟨_, rfl⟩
  rw [← hr]
  rcases Bool.eq_false_or_eq_true (p.f0 == 3) with q3 | q3
  · have HR : Aside0 (r = true) := ⟨by rw [hr]; unfold joinB; rw [q3]; rfl⟩
    clear hr
    go_enter Tryd.func28, Tryd.ntmps28
    go_wp2_with (((with_reducible refine gate_dst (N := 1) rfl ?_); refine box_event ?hg (N := 1) ?hd (cs := cellsP p (.slice A p.f7.length c)) (t := 34) ?hr ?_; (case hd => rfl); (case hg => rfl); (case hr => unfold cellsP encP; first | (go_simp; done) | (go_simp; rfl)); intro gb hg1 w1 hbox hb; have BK := Aside0.mk hbox; have HB := Aside0.mk hb; have c0 := (blk_cell BK.out 0).trans (rfl : _ = some (Value.int .i64 p.f0)); have c1 := (blk_cell BK.out 1).trans (rfl : _ = some (Value.int .i64 p.f1)); have c2 := (blk_cell BK.out 2).trans (rfl : _ = some (Value.int .i64 p.f2)); have c3 := (blk_cell BK.out 3).trans (rfl : _ = some (Value.int .i64 p.f3)); have c4 := (blk_cell BK.out 4).trans (rfl : _ = some (Value.bool p.f4)); have c5 := (blk_cell BK.out 5).trans (rfl : _ = some (Value.int .i64 p.f5)); have c6 := (blk_cell BK.out 6).trans (rfl : _ = some (Value.int .i64 p.f6)); have c7 := (blk_cell BK.out 7).trans (rfl : _ = some (Value.slice A p.f7.length c)); clear hbox hb hg1))
    go_ret
    rw [HR.out]
    exact ⟨rfl, HB.out⟩
  · rcases Bool.eq_false_or_eq_true (p.f0 == 4) with q4 | q4
    · have HR : Aside0 (r = true) := ⟨by rw [hr]; unfold joinB; rw [q3, q4]; rfl⟩
      clear hr
      go_enter Tryd.func28, Tryd.ntmps28
      go_wp2_with (((with_reducible refine gate_dst (N := 1) rfl ?_); refine box_event ?hg (N := 1) ?hd (cs := cellsP p (.slice A p.f7.length c)) (t := 34) ?hr ?_; (case hd => rfl); (case hg => rfl); (case hr => unfold cellsP encP; first | (go_simp; done) | (go_simp; rfl)); intro gb hg1 w1 hbox hb; have BK := Aside0.mk hbox; have HB := Aside0.mk hb; have c0 := (blk_cell BK.out 0).trans (rfl : _ = some (Value.int .i64 p.f0)); have c1 := (blk_cell BK.out 1).trans (rfl : _ = some (Value.int .i64 p.f1)); have c2 := (blk_cell BK.out 2).trans (rfl : _ = some (Value.int .i64 p.f2)); have c3 := (blk_cell BK.out 3).trans (rfl : _ = some (Value.int .i64 p.f3)); have c4 := (blk_cell BK.out 4).trans (rfl : _ = some (Value.bool p.f4)); have c5 := (blk_cell BK.out 5).trans (rfl : _ = some (Value.int .i64 p.f5)); have c6 := (blk_cell BK.out 6).trans (rfl : _ = some (Value.int .i64 p.f6)); have c7 := (blk_cell BK.out 7).trans (rfl : _ = some (Value.slice A p.f7.length c)); clear hbox hb hg1))
      go_ret
      rw [HR.out]
      exact ⟨rfl, HB.out⟩
    · have HR : Aside0 (r = (p.f0 == 5)) := ⟨by rw [hr]; unfold joinB; rw [q3, q4]; rfl⟩
      clear hr
      go_enter Tryd.func28, Tryd.ntmps28
      go_wp2_with (((with_reducible refine gate_dst (N := 1) rfl ?_); refine box_event ?hg (N := 1) ?hd (cs := cellsP p (.slice A p.f7.length c)) (t := 34) ?hr ?_; (case hd => rfl); (case hg => rfl); (case hr => unfold cellsP encP; first | (go_simp; done) | (go_simp; rfl)); intro gb hg1 w1 hbox hb; have BK := Aside0.mk hbox; have HB := Aside0.mk hb; have c0 := (blk_cell BK.out 0).trans (rfl : _ = some (Value.int .i64 p.f0)); have c1 := (blk_cell BK.out 1).trans (rfl : _ = some (Value.int .i64 p.f1)); have c2 := (blk_cell BK.out 2).trans (rfl : _ = some (Value.int .i64 p.f2)); have c3 := (blk_cell BK.out 3).trans (rfl : _ = some (Value.int .i64 p.f3)); have c4 := (blk_cell BK.out 4).trans (rfl : _ = some (Value.bool p.f4)); have c5 := (blk_cell BK.out 5).trans (rfl : _ = some (Value.int .i64 p.f5)); have c6 := (blk_cell BK.out 6).trans (rfl : _ = some (Value.int .i64 p.f6)); have c7 := (blk_cell BK.out 7).trans (rfl : _ = some (Value.slice A p.f7.length c)); clear hbox hb hg1))
      go_ret
      rw [HR.out]
      exact ⟨rfl, HB.out⟩

end Go.Proofs.YtmnjaihalajhcaaDoor.QPlanConds
