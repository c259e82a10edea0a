-- Written by wip/tools/myprint.py of this project (the kit's printer with lines replaced in memory, and texts of ours)
import Derived.Test.YtihfljdcmncicaaQValueTestsx0
import Derived.Test.YtihfljdcmncicaaQValueTestsx1
import Derived.Test.YtihfljdcmncicaaQValueTestsx2
import Derived.Test.YtihfljdcmncicaaQValueTestsx3
import Derived.Test.YtihfljdcmncicaaQValueTestsx4
import Derived.Test.YtihfljdcmncicaaQValueTestsx5
namespace Go.Proofs.Ytihfljdcmncicaa.QValueTests
open Go.RowKit Go.Proofs.YtihfljdcmncicaaW.PrintWords Go.Proofs.YtihfljdcmncicaaW.PrintLast Go.Proofs.YtihfljdcmncicaaW.PrintMore
attribute [local go_sem] max2_int min2_int max_two min_two max_three min_three max_four min_four   -- for this text's walks alone
set_option linter.unusedVariables false
set_option linter.unusedSimpArgs false

attribute [local go_sem high] eqA23
/-! ### value_Test: function 17 -/
def testB (op c : Int) : Bool := if op = 9 then c == 0 else if op = 10 then c != 0 else if op = 11 then decide (c < 0) else if op = 12 then decide (c ≤ 0) else if op = 13 then decide (0 < c) else decide (0 ≤ c)
def value_Test.f (k : Nat) (op : Int) (a0_0 : Int) (a0_1 : Int) (a0_2 : ByteArray) (a1_0 : Int) (a1_1 : Int) (a1_2 : ByteArray) : Option (Int × Int × ByteArray × Int) :=
  if 9 ≤ op ∧ op ≤ 14 then (value_null.f k (mx a0_0 a1_0) [(⟨a0_0, a0_1, a0_2⟩ : S23), ⟨a1_0, a1_1, a1_2⟩]).bind fun p => if p.2 = true then some (0, 0, (⟨#[]⟩ : ByteArray), p.1) else (value_Compare.f k a0_0 a0_1 a0_2 a1_0 a1_1 a1_2).bind fun c => some (2, bi (testB op c), (⟨#[]⟩ : ByteArray), 0) else some (0, 0, (⟨#[]⟩ : ByteArray), 1)
theorem value_Test.mono : ∀ op a0 a1 a2 a3 a4 a5 k, LeO (value_Test.f k op a0 a1 a2 a3 a4 a5) (value_Test.f (k + 1) op a0 a1 a2 a3 a4 a5) := by
  intro op a0 a1 a2 a3 a4 a5 k
  unfold value_Test.f
  split
  · exact LeO.bind (value_null.mono _ _ _) (fun p => by split; exact LeO.refl _; exact LeO.bind (value_Compare.mono _ _ _ _ _ _ _) (fun _ => LeO.refl _))
  · exact LeO.refl _
theorem value_Test.tr (b : Bool) (w : World) : Calls Try.prog 41 #[.bool b] w fun e w' => e = .returned (.agg #[.int .i64 2, .int .i64 (bi b), .string (⟨#[]⟩ : ByteArray)]) ∧ Below w.heap.size w w' := value_truth.calls b 2 _ _ w rfl
theorem value_Test.ix0 (x0 x1 x2 x3 x4 x5 : Value) (w : World) : Sem.run Try.prog (Instr.index 51 (.agg #[x0, x1, x2, x3, x4, x5]) (.int .i64 0)) w = .ok x0 w := by with_unfolding_all rfl
theorem value_Test.ix1 (x0 x1 x2 x3 x4 x5 : Value) (w : World) : Sem.run Try.prog (Instr.index 51 (.agg #[x0, x1, x2, x3, x4, x5]) (.int .i64 1)) w = .ok x1 w := by with_unfolding_all rfl
theorem value_Test.ix2 (x0 x1 x2 x3 x4 x5 : Value) (w : World) : Sem.run Try.prog (Instr.index 51 (.agg #[x0, x1, x2, x3, x4, x5]) (.int .i64 2)) w = .ok x2 w := by with_unfolding_all rfl
theorem value_Test.ix3 (x0 x1 x2 x3 x4 x5 : Value) (w : World) : Sem.run Try.prog (Instr.index 51 (.agg #[x0, x1, x2, x3, x4, x5]) (.int .i64 3)) w = .ok x3 w := by with_unfolding_all rfl
theorem value_Test.ix4 (x0 x1 x2 x3 x4 x5 : Value) (w : World) : Sem.run Try.prog (Instr.index 51 (.agg #[x0, x1, x2, x3, x4, x5]) (.int .i64 4)) w = .ok x4 w := by with_unfolding_all rfl
theorem value_Test.ix5 (x0 x1 x2 x3 x4 x5 : Value) (w : World) : Sem.run Try.prog (Instr.index 51 (.agg #[x0, x1, x2, x3, x4, x5]) (.int .i64 5)) w = .ok x5 w := by with_unfolding_all rfl
attribute [local go_sem] value_Test.ix0 value_Test.ix1 value_Test.ix2 value_Test.ix3 value_Test.ix4 value_Test.ix5
set_option maxHeartbeats 4000000 in
theorem value_Test.in (op : Int) (hop : op = 9 ∨ op = 10 ∨ op = 11 ∨ op = 12 ∨ op = 13 ∨ op = 14) (k : Nat) (a0_0 : Int) (a0_1 : Int) (a0_2 : ByteArray) (a1_0 : Int) (a1_1 : Int) (a1_2 : ByteArray) (r1 : Int) (r2 : Int) (r3 : ByteArray) (r4 : Int) (w : World) (e0 : Int) (ok : Bool) (hN : value_null.f k (mx a0_0 a1_0) [(⟨a0_0, a0_1, a0_2⟩ : S23), ⟨a1_0, a1_1, a1_2⟩] = some (e0, ok)) (H : (if ok = true then some (0, 0, (⟨#[]⟩ : ByteArray), e0) else (value_Compare.f k a0_0 a0_1 a0_2 a1_0 a1_1 a1_2).bind fun c => some (2, bi (testB op c), (⟨#[]⟩ : ByteArray), 0)) = some (r1, r2, r3, r4)) :
    Calls Try.prog 17 #[.int .i64 op, .agg #[.int .i64 a0_0, .int .i64 a0_1, .string a0_2], .agg #[.int .i64 a1_0, .int .i64 a1_1, .string a1_2]] w fun e w' => e = .returned (.tuple #[.agg #[.int .i64 r1, .int .i64 r2, .string r3], .int .i64 r4]) ∧ Below w.heap.size w w' := by
  have hu := Try.underlying23
  have HN := Aside0.mk hN
  clear hN
  cases ok with
  | true =>
    simp only [if_pos, Option.some.injEq, Prod.mk.injEq] at H
    obtain ⟨rfl, rfl, rfl, rfl⟩ := H
    rcases hop with rfl | rfl | rfl | rfl | rfl | rfl
    all_goals
      go_enter Try.func17, Try.ntmps17
      go_wp2_with (first | (go_at_call 40; refine (value_null.calls k (mx a0_0 a1_0) _ _ [(⟨a0_0, a0_1, a0_2⟩ : S23), ⟨a1_0, a1_1, a1_2⟩] e0 true _ (two_vals _ _ _ _ ?hh) (Nat.le_refl 2) HN.out).mono ?_; (case hh => exact heap_new_ _ _ (by simp)); rintro e w1 ⟨rfl, hb⟩; obtain ⟨hc, hf⟩ := bcell_ hb; have HZ := hb.size; simp at HZ; have HB : Aside0 (Below w.heap.size w w1) := Aside0.mk (below_step (by repeat (first | exact Below.refl _ _ | apply below_alloc)) hb); clear hb))
    all_goals refine bodyPost_ret (v := .tuple #[.agg #[.int .i64 0, .int .i64 0, .string (⟨#[]⟩ : ByteArray)], .int .i64 e0]) (by simp [results, Try.results17, go_sem, hc, hf]) rfl ⟨rfl, (by repeat (first | exact Aside0.out (by assumption) | refine below_set ?_ (by omega) | apply below_alloc))⟩
  | false =>
    simp only [Bool.false_eq_true, if_false] at H
    obtain ⟨c, hC, H'⟩ := Option.bind_eq_some_iff.mp H
    clear H
    have H := H'
    clear H'
    simp only [Option.some.injEq, Prod.mk.injEq] at H
    obtain ⟨rfl, rfl, rfl, rfl⟩ := H
    have HC := Aside0.mk hC
    clear hC
    rcases hop with rfl | rfl | rfl | rfl | rfl | rfl
    all_goals
      go_enter Try.func17, Try.ntmps17
      go_wp2_with (first | (go_at_call 40; refine (value_null.calls k (mx a0_0 a1_0) _ _ [(⟨a0_0, a0_1, a0_2⟩ : S23), ⟨a1_0, a1_1, a1_2⟩] e0 false _ (two_vals _ _ _ _ ?hh) (Nat.le_refl 2) HN.out).mono ?_; (case hh => exact heap_new_ _ _ (by simp)); rintro e w1 ⟨rfl, hb⟩; obtain ⟨hc, hf⟩ := bcell_ hb; have HZ := hb.size; simp at HZ; have HB : Aside0 (Below w.heap.size w w1) := Aside0.mk (below_step (by repeat (first | exact Below.refl _ _ | apply below_alloc)) hb); clear hb) | (go_at_call 11; refine (value_Compare.calls k a0_0 a0_1 a0_2 a1_0 a1_1 a1_2 c _ HC.out).mono ?_; rintro e w2 ⟨rfl, hb2⟩; obtain ⟨hc2, hf2⟩ := bcell_ hb2; have q2 := fun o => hc2 (w.heap.size + 1 + 1) o (by omega); have q2f := fun o => hf2 (w.heap.size + 1 + 1) o (by omega); have HZ2 := hb2.size; have HB2 : Aside0 (Below w.heap.size w w2) := Aside0.mk (below_step HB.out hb2); clear HB hb2 hc2 hf2; have HB := HB2; clear HB2) | (go_at_call 41; refine (value_Test.tr _ _).mono ?_; rintro e w3 ⟨rfl, hb3⟩; obtain ⟨hc3, hf3⟩ := bcell_ hb3; have q3 := fun o => hc3 (w.heap.size + 1 + 1) o (by omega); have q3f := fun o => hf3 (w.heap.size + 1 + 1) o (by omega); have HZ3 := hb3.size; have HB2 : Aside0 (Below w.heap.size w w3) := Aside0.mk (below_step HB.out hb3); clear HB hb3 hc3 hf3; have HB := HB2; clear HB2))
    all_goals
      refine bodyPost_ret ?_ rfl ⟨rfl, (by repeat (first | exact Aside0.out (by assumption) | refine below_set ?_ (by omega) | apply below_alloc))⟩
    all_goals
      simp [results, Try.results17, go_sem, q3, q3f, q2, q2f, hc, hf, testB]
theorem value_Test.calls (k : Nat) (op : Int) (a0_0 : Int) (a0_1 : Int) (a0_2 : ByteArray) (a1_0 : Int) (a1_1 : Int) (a1_2 : ByteArray) (r1 : Int) (r2 : Int) (r3 : ByteArray) (r4 : Int) (w : World) (h : value_Test.f k op a0_0 a0_1 a0_2 a1_0 a1_1 a1_2 = some (r1, r2, r3, r4)) :
    Calls Try.prog 17 #[.int .i64 op, .agg #[.int .i64 a0_0, .int .i64 a0_1, .string a0_2], .agg #[.int .i64 a1_0, .int .i64 a1_1, .string a1_2]] w fun e w' => e = .returned (.tuple #[.agg #[.int .i64 r1, .int .i64 r2, .string r3], .int .i64 r4]) ∧ Below w.heap.size w w' := by
  unfold value_Test.f at h
  by_cases hop : 9 ≤ op ∧ op ≤ 14
  · rw [if_pos hop] at h
    obtain ⟨⟨e0, ok⟩, hN, H⟩ := Option.bind_eq_some_iff.mp h
    exact value_Test.in op (by omega) k a0_0 a0_1 a0_2 a1_0 a1_1 a1_2 r1 r2 r3 r4 w e0 ok hN H
  · rw [if_neg hop] at h
    simp only [Option.some.injEq, Prod.mk.injEq] at h
    obtain ⟨rfl, rfl, rfl, rfl⟩ := h
    have hu := Try.underlying23
    have c2 : (op < 9) ∨ (9 ≤ op ∧ 14 < op) := by omega
    rcases c2 with c2 | ⟨c1, c2⟩
    all_goals
      go_enter Try.func17, Try.ntmps17
      go_wp2
    all_goals try omega
    all_goals refine bodyPost_ret ?_ rfl ⟨rfl, (by repeat (first | exact Below.refl _ _ | refine below_set ?_ (by omega) | apply below_alloc))⟩
    all_goals simp [results, Try.results17, go_sem]

/-! ### weathercocklaw01_ValueTests: function 5 -/
def weathercocklaw01_ValueTests.j0 : Nat → Bool → Int → Int → Bool → Int → Int → ByteArray → Int → Int → ByteArray → Int → Int → ByteArray → Int → Int → ByteArray → Int → Int → ByteArray → Int → Int → ByteArray → Int → Int → ByteArray → Int → Int → ByteArray → Option (Bool)
  | 0, _, _, _, _, _, _, _, _, _, _, _, _, _, _, _, _, _, _, _, _, _, _, _, _, _, _, _, _ => none
  | k + 1, x5, x7, x9, x60, x246000, x246001, x246002, x247000, x247001, x247002, x253000, x253001, x253002, x258000, x258001, x258002, x263000, x263001, x263002, x268000, x268001, x268002, x273000, x273001, x273002, x278000, x278001, x278002 => if x60 = true then (if x5 = true then (if x7 = 1 then (some (x9 == 1)) else (some false)) else (some false)) else (if x246000 = 0 then (if x5 = true then (if (x253000 == 0 && (x253001 == 0 && (x253002.toList == ([] : List UInt8)))) = true then (if (x258000 == 0 && (x258001 == 0 && (x258002.toList == ([] : List UInt8)))) = true then (some (x273000 == 0 && (x273001 == 0 && (x273002.toList == ([] : List UInt8))))) else (some false)) else (some false)) else (some false)) else (if x247000 = 0 then (if x5 = true then (if (x253000 == 0 && (x253001 == 0 && (x253002.toList == ([] : List UInt8)))) = true then (if (x258000 == 0 && (x258001 == 0 && (x258002.toList == ([] : List UInt8)))) = true then (some (x273000 == 0 && (x273001 == 0 && (x273002.toList == ([] : List UInt8))))) else (some false)) else (some false)) else (some false)) else (if x5 = true then (if (wrap64 ((wrap64 (x253001 + x258001)) + x263001)) = 1 then (if x268001 = (wrap64 (x253001 + x258001)) then (if x273001 = (wrap64 (x263001 + x258001)) then (some (x278001 == (wrap64 (1 - x258001)))) else (some false)) else (some false)) else (some false)) else (some false))))
def weathercocklaw01_ValueTests.f (k : Nat) (a0_0 : Int) (a0_1 : Int) (a0_2 : ByteArray) (a1_0 : Int) (a1_1 : Int) (a1_2 : ByteArray) : Option (Bool) := (weathercocklaw01_examples.f k).bind fun t247 => ((value_Test.f k 11 a0_0 a0_1 a0_2 a1_0 a1_1 a1_2).bind fun bt248 => ((value_Test.f k 9 a0_0 a0_1 a0_2 a1_0 a1_1 a1_2).bind fun bt253 => ((value_Test.f k 13 a0_0 a0_1 a0_2 a1_0 a1_1 a1_2).bind fun bt258 => ((value_Test.f k 12 a0_0 a0_1 a0_2 a1_0 a1_1 a1_2).bind fun bt263 => ((value_Test.f k 14 a0_0 a0_1 a0_2 a1_0 a1_1 a1_2).bind fun bt268 => ((value_Test.f k 10 a0_0 a0_1 a0_2 a1_0 a1_1 a1_2).bind fun bt273 => (if bt248.2.2.2 = 0 then (weathercocklaw01_ValueTests.j0 k t247 bt248.2.2.2 bt253.2.2.2 (bt253.2.2.2 != 0) a0_0 a0_1 a0_2 a1_0 a1_1 a1_2 bt248.1 bt248.2.1 bt248.2.2.1 bt253.1 bt253.2.1 bt253.2.2.1 bt258.1 bt258.2.1 bt258.2.2.1 bt263.1 bt263.2.1 bt263.2.2.1 bt268.1 bt268.2.1 bt268.2.2.1 bt273.1 bt273.2.1 bt273.2.2.1) else (weathercocklaw01_ValueTests.j0 k t247 bt248.2.2.2 bt253.2.2.2 true a0_0 a0_1 a0_2 a1_0 a1_1 a1_2 bt248.1 bt248.2.1 bt248.2.2.1 bt253.1 bt253.2.1 bt253.2.2.1 bt258.1 bt258.2.1 bt258.2.2.1 bt263.1 bt263.2.1 bt263.2.2.1 bt268.1 bt268.2.1 bt268.2.2.1 bt273.1 bt273.2.1 bt273.2.2.1))))))))
theorem weathercocklaw01_ValueTests.mono_l : ∀ k, (∀ y0 y1 y2 y3 y4 y5 y6 y7 y8 y9 y10 y11 y12 y13 y14 y15 y16 y17 y18 y19 y20 y21 y22 y23 y24 y25 y26 y27, LeO (weathercocklaw01_ValueTests.j0 k y0 y1 y2 y3 y4 y5 y6 y7 y8 y9 y10 y11 y12 y13 y14 y15 y16 y17 y18 y19 y20 y21 y22 y23 y24 y25 y26 y27) (weathercocklaw01_ValueTests.j0 (k + 1) y0 y1 y2 y3 y4 y5 y6 y7 y8 y9 y10 y11 y12 y13 y14 y15 y16 y17 y18 y19 y20 y21 y22 y23 y24 y25 y26 y27))
  | 0 => fun _ _ _ _ _ _ _ _ _ _ _ _ _ _ _ _ _ _ _ _ _ _ _ _ _ _ _ _ r h => by simp [weathercocklaw01_ValueTests.j0] at h
  | k + 1 => by
    have ih0 := weathercocklaw01_ValueTests.mono_l k
    · intro y0 y1 y2 y3 y4 y5 y6 y7 y8 y9 y10 y11 y12 y13 y14 y15 y16 y17 y18 y19 y20 y21 y22 y23 y24 y25 y26 y27
      unfold weathercocklaw01_ValueTests.j0
      repeat' first
      | (with_reducible exact ih0 _ _ _ _ _ _ _ _ _ _ _ _ _ _ _ _ _ _ _ _ _ _ _ _ _ _ _ _)
      | (with_reducible exact value_Test.mono _ _ _ _ _ _ _ _)
      | (with_reducible exact weathercocklaw01_examples.mono _)
      | (with_reducible exact LeO.refl _)
      | (with_reducible exact LeO.none _)
      | (with_reducible refine LeO.ite ?_ ?_)
      | (with_reducible refine LeO.bind ?_ (fun _ => ?_))
      | exact ih0 _ _ _ _ _ _ _ _ _ _ _ _ _ _ _ _ _ _ _ _ _ _ _ _ _ _ _ _
      | exact value_Test.mono _ _ _ _ _ _ _ _
      | exact weathercocklaw01_examples.mono _
      | exact LeO.none _
      | refine LeO.ite ?_ ?_
      | refine LeO.bind ?_ (fun _ => ?_)
theorem weathercocklaw01_ValueTests.mono : ∀ a0 a1 a2 a3 a4 a5 k, LeO (weathercocklaw01_ValueTests.f k a0 a1 a2 a3 a4 a5) (weathercocklaw01_ValueTests.f (k + 1) a0 a1 a2 a3 a4 a5) := by
  intro a0 a1 a2 a3 a4 a5 k
  have ih0 := weathercocklaw01_ValueTests.mono_l k
  unfold weathercocklaw01_ValueTests.f
  repeat' first
      | (with_reducible exact ih0 _ _ _ _ _ _ _ _ _ _ _ _ _ _ _ _ _ _ _ _ _ _ _ _ _ _ _ _)
      | (with_reducible exact value_Test.mono _ _ _ _ _ _ _ _)
      | (with_reducible exact weathercocklaw01_examples.mono _)
      | (with_reducible exact LeO.refl _)
      | (with_reducible exact LeO.none _)
      | (with_reducible refine LeO.ite ?_ ?_)
      | (with_reducible refine LeO.bind ?_ (fun _ => ?_))
      | exact ih0 _ _ _ _ _ _ _ _ _ _ _ _ _ _ _ _ _ _ _ _ _ _ _ _ _ _ _ _
      | exact value_Test.mono _ _ _ _ _ _ _ _
      | exact weathercocklaw01_examples.mono _
      | exact LeO.none _
      | refine LeO.ite ?_ ?_
      | refine LeO.bind ?_ (fun _ => ?_)
set_option maxHeartbeats 8000000 in
set_option maxRecDepth 100000 in
theorem weathercocklaw01_ValueTests.calls (k : Nat) (a0_0 : Int) (a0_1 : Int) (a0_2 : ByteArray) (a1_0 : Int) (a1_1 : Int) (a1_2 : ByteArray) (r : Bool) (w : World) (h : weathercocklaw01_ValueTests.f k a0_0 a0_1 a0_2 a1_0 a1_1 a1_2 = some r) (hrt : r = true) :
    Calls Try.prog 5 #[.agg #[.int .i64 a0_0, .int .i64 a0_1, .string a0_2], .agg #[.int .i64 a1_0, .int .i64 a1_1, .string a1_2]] w fun e w' => e = .returned (.bool r) ∧ Below w.heap.size w w' := by
  have HRT := Aside0.mk hrt
  clear hrt
  have hu23 := Try.underlying23
  have HB := Aside0.mk (Below.refl w.heap.size w)
  have H : ((weathercocklaw01_examples.f k).bind fun t247 => ((value_Test.f k 11 a0_0 a0_1 a0_2 a1_0 a1_1 a1_2).bind fun bt248 => ((value_Test.f k 9 a0_0 a0_1 a0_2 a1_0 a1_1 a1_2).bind fun bt253 => ((value_Test.f k 13 a0_0 a0_1 a0_2 a1_0 a1_1 a1_2).bind fun bt258 => ((value_Test.f k 12 a0_0 a0_1 a0_2 a1_0 a1_1 a1_2).bind fun bt263 => ((value_Test.f k 14 a0_0 a0_1 a0_2 a1_0 a1_1 a1_2).bind fun bt268 => ((value_Test.f k 10 a0_0 a0_1 a0_2 a1_0 a1_1 a1_2).bind fun bt273 => (if bt248.2.2.2 = 0 then (weathercocklaw01_ValueTests.j0 k t247 bt248.2.2.2 bt253.2.2.2 (bt253.2.2.2 != 0) a0_0 a0_1 a0_2 a1_0 a1_1 a1_2 bt248.1 bt248.2.1 bt248.2.2.1 bt253.1 bt253.2.1 bt253.2.2.1 bt258.1 bt258.2.1 bt258.2.2.1 bt263.1 bt263.2.1 bt263.2.2.1 bt268.1 bt268.2.1 bt268.2.2.1 bt273.1 bt273.2.1 bt273.2.2.1) else (weathercocklaw01_ValueTests.j0 k t247 bt248.2.2.2 bt253.2.2.2 true a0_0 a0_1 a0_2 a1_0 a1_1 a1_2 bt248.1 bt248.2.1 bt248.2.2.1 bt253.1 bt253.2.1 bt253.2.2.1 bt258.1 bt258.2.1 bt258.2.2.1 bt263.1 bt263.2.1 bt263.2.2.1 bt268.1 bt268.2.1 bt268.2.2.1 bt273.1 bt273.2.1 bt273.2.2.1))))))))) = some r := h
  clear h
  replace H := Option.bind_eq_some_iff.mp H
  obtain ⟨t247, A30, H⟩ := H
  replace H : ((value_Test.f k 11 a0_0 a0_1 a0_2 a1_0 a1_1 a1_2).bind fun bt248 => ((value_Test.f k 9 a0_0 a0_1 a0_2 a1_0 a1_1 a1_2).bind fun bt253 => ((value_Test.f k 13 a0_0 a0_1 a0_2 a1_0 a1_1 a1_2).bind fun bt258 => ((value_Test.f k 12 a0_0 a0_1 a0_2 a1_0 a1_1 a1_2).bind fun bt263 => ((value_Test.f k 14 a0_0 a0_1 a0_2 a1_0 a1_1 a1_2).bind fun bt268 => ((value_Test.f k 10 a0_0 a0_1 a0_2 a1_0 a1_1 a1_2).bind fun bt273 => (if bt248.2.2.2 = 0 then (weathercocklaw01_ValueTests.j0 k t247 bt248.2.2.2 bt253.2.2.2 (bt253.2.2.2 != 0) a0_0 a0_1 a0_2 a1_0 a1_1 a1_2 bt248.1 bt248.2.1 bt248.2.2.1 bt253.1 bt253.2.1 bt253.2.2.1 bt258.1 bt258.2.1 bt258.2.2.1 bt263.1 bt263.2.1 bt263.2.2.1 bt268.1 bt268.2.1 bt268.2.2.1 bt273.1 bt273.2.1 bt273.2.2.1) else (weathercocklaw01_ValueTests.j0 k t247 bt248.2.2.2 bt253.2.2.2 true a0_0 a0_1 a0_2 a1_0 a1_1 a1_2 bt248.1 bt248.2.1 bt248.2.2.1 bt253.1 bt253.2.1 bt253.2.2.1 bt258.1 bt258.2.1 bt258.2.2.1 bt263.1 bt263.2.1 bt263.2.2.1 bt268.1 bt268.2.1 bt268.2.2.1 bt273.1 bt273.2.1 bt273.2.2.1)))))))) = some r := H
  have A3 := Aside0.mk A30
  clear A30
  replace H := Option.bind_eq_some_iff.mp H
  obtain ⟨⟨t248, t249, t250, t251⟩, A40, H⟩ := H
  replace H : ((value_Test.f k 9 a0_0 a0_1 a0_2 a1_0 a1_1 a1_2).bind fun bt253 => ((value_Test.f k 13 a0_0 a0_1 a0_2 a1_0 a1_1 a1_2).bind fun bt258 => ((value_Test.f k 12 a0_0 a0_1 a0_2 a1_0 a1_1 a1_2).bind fun bt263 => ((value_Test.f k 14 a0_0 a0_1 a0_2 a1_0 a1_1 a1_2).bind fun bt268 => ((value_Test.f k 10 a0_0 a0_1 a0_2 a1_0 a1_1 a1_2).bind fun bt273 => (if t251 = 0 then (weathercocklaw01_ValueTests.j0 k t247 t251 bt253.2.2.2 (bt253.2.2.2 != 0) a0_0 a0_1 a0_2 a1_0 a1_1 a1_2 t248 t249 t250 bt253.1 bt253.2.1 bt253.2.2.1 bt258.1 bt258.2.1 bt258.2.2.1 bt263.1 bt263.2.1 bt263.2.2.1 bt268.1 bt268.2.1 bt268.2.2.1 bt273.1 bt273.2.1 bt273.2.2.1) else (weathercocklaw01_ValueTests.j0 k t247 t251 bt253.2.2.2 true a0_0 a0_1 a0_2 a1_0 a1_1 a1_2 t248 t249 t250 bt253.1 bt253.2.1 bt253.2.2.1 bt258.1 bt258.2.1 bt258.2.2.1 bt263.1 bt263.2.1 bt263.2.2.1 bt268.1 bt268.2.1 bt268.2.2.1 bt273.1 bt273.2.1 bt273.2.2.1))))))) = some r := H
  have A4 := Aside0.mk A40
  clear A40
  replace H := Option.bind_eq_some_iff.mp H
  obtain ⟨⟨t253, t254, t255, t256⟩, A50, H⟩ := H
  replace H : ((value_Test.f k 13 a0_0 a0_1 a0_2 a1_0 a1_1 a1_2).bind fun bt258 => ((value_Test.f k 12 a0_0 a0_1 a0_2 a1_0 a1_1 a1_2).bind fun bt263 => ((value_Test.f k 14 a0_0 a0_1 a0_2 a1_0 a1_1 a1_2).bind fun bt268 => ((value_Test.f k 10 a0_0 a0_1 a0_2 a1_0 a1_1 a1_2).bind fun bt273 => (if t251 = 0 then (weathercocklaw01_ValueTests.j0 k t247 t251 t256 (t256 != 0) a0_0 a0_1 a0_2 a1_0 a1_1 a1_2 t248 t249 t250 t253 t254 t255 bt258.1 bt258.2.1 bt258.2.2.1 bt263.1 bt263.2.1 bt263.2.2.1 bt268.1 bt268.2.1 bt268.2.2.1 bt273.1 bt273.2.1 bt273.2.2.1) else (weathercocklaw01_ValueTests.j0 k t247 t251 t256 true a0_0 a0_1 a0_2 a1_0 a1_1 a1_2 t248 t249 t250 t253 t254 t255 bt258.1 bt258.2.1 bt258.2.2.1 bt263.1 bt263.2.1 bt263.2.2.1 bt268.1 bt268.2.1 bt268.2.2.1 bt273.1 bt273.2.1 bt273.2.2.1)))))) = some r := H
  have A5 := Aside0.mk A50
  clear A50
  replace H := Option.bind_eq_some_iff.mp H
  obtain ⟨⟨t258, t259, t260, t261⟩, A60, H⟩ := H
  replace H : ((value_Test.f k 12 a0_0 a0_1 a0_2 a1_0 a1_1 a1_2).bind fun bt263 => ((value_Test.f k 14 a0_0 a0_1 a0_2 a1_0 a1_1 a1_2).bind fun bt268 => ((value_Test.f k 10 a0_0 a0_1 a0_2 a1_0 a1_1 a1_2).bind fun bt273 => (if t251 = 0 then (weathercocklaw01_ValueTests.j0 k t247 t251 t256 (t256 != 0) a0_0 a0_1 a0_2 a1_0 a1_1 a1_2 t248 t249 t250 t253 t254 t255 t258 t259 t260 bt263.1 bt263.2.1 bt263.2.2.1 bt268.1 bt268.2.1 bt268.2.2.1 bt273.1 bt273.2.1 bt273.2.2.1) else (weathercocklaw01_ValueTests.j0 k t247 t251 t256 true a0_0 a0_1 a0_2 a1_0 a1_1 a1_2 t248 t249 t250 t253 t254 t255 t258 t259 t260 bt263.1 bt263.2.1 bt263.2.2.1 bt268.1 bt268.2.1 bt268.2.2.1 bt273.1 bt273.2.1 bt273.2.2.1))))) = some r := H
  have A6 := Aside0.mk A60
  clear A60
  replace H := Option.bind_eq_some_iff.mp H
  obtain ⟨⟨t263, t264, t265, t266⟩, A70, H⟩ := H
  replace H : ((value_Test.f k 14 a0_0 a0_1 a0_2 a1_0 a1_1 a1_2).bind fun bt268 => ((value_Test.f k 10 a0_0 a0_1 a0_2 a1_0 a1_1 a1_2).bind fun bt273 => (if t251 = 0 then (weathercocklaw01_ValueTests.j0 k t247 t251 t256 (t256 != 0) a0_0 a0_1 a0_2 a1_0 a1_1 a1_2 t248 t249 t250 t253 t254 t255 t258 t259 t260 t263 t264 t265 bt268.1 bt268.2.1 bt268.2.2.1 bt273.1 bt273.2.1 bt273.2.2.1) else (weathercocklaw01_ValueTests.j0 k t247 t251 t256 true a0_0 a0_1 a0_2 a1_0 a1_1 a1_2 t248 t249 t250 t253 t254 t255 t258 t259 t260 t263 t264 t265 bt268.1 bt268.2.1 bt268.2.2.1 bt273.1 bt273.2.1 bt273.2.2.1)))) = some r := H
  have A7 := Aside0.mk A70
  clear A70
  replace H := Option.bind_eq_some_iff.mp H
  obtain ⟨⟨t268, t269, t270, t271⟩, A80, H⟩ := H
  replace H : ((value_Test.f k 10 a0_0 a0_1 a0_2 a1_0 a1_1 a1_2).bind fun bt273 => (if t251 = 0 then (weathercocklaw01_ValueTests.j0 k t247 t251 t256 (t256 != 0) a0_0 a0_1 a0_2 a1_0 a1_1 a1_2 t248 t249 t250 t253 t254 t255 t258 t259 t260 t263 t264 t265 t268 t269 t270 bt273.1 bt273.2.1 bt273.2.2.1) else (weathercocklaw01_ValueTests.j0 k t247 t251 t256 true a0_0 a0_1 a0_2 a1_0 a1_1 a1_2 t248 t249 t250 t253 t254 t255 t258 t259 t260 t263 t264 t265 t268 t269 t270 bt273.1 bt273.2.1 bt273.2.2.1))) = some r := H
  have A8 := Aside0.mk A80
  clear A80
  replace H := Option.bind_eq_some_iff.mp H
  obtain ⟨⟨t273, t274, t275, t276⟩, A90, H⟩ := H
  replace H : (if t251 = 0 then (weathercocklaw01_ValueTests.j0 k t247 t251 t256 (t256 != 0) a0_0 a0_1 a0_2 a1_0 a1_1 a1_2 t248 t249 t250 t253 t254 t255 t258 t259 t260 t263 t264 t265 t268 t269 t270 t273 t274 t275) else (weathercocklaw01_ValueTests.j0 k t247 t251 t256 true a0_0 a0_1 a0_2 a1_0 a1_1 a1_2 t248 t249 t250 t253 t254 t255 t258 t259 t260 t263 t264 t265 t268 t269 t270 t273 t274 t275)) = some r := H
  have A9 := Aside0.mk A90
  clear A90
  have HC10 := Aside0.mk H
  clear H
  go_enter Try.func5, Try.ntmps5
  go_upto_region 8 with (first | ((with_reducible refine gate_dst (N := 2) rfl ?_); refine box_event ?hg (N := 2) ?hd (cs := #[.int .i64 a0_0, .int .i64 a0_1, .string a0_2]) (t := 23) ?hr ?_; (case hd => rfl); (case hg => rfl); (case hr => first | (go_simp; done) | (go_simp; rfl)); intro gb245 hg w11 hbox hb; have n0_ := Aside0.mk (below_step (by repeat (first | (with_reducible first | exact HB.out | apply below_alloc | apply pw_below_drewN | apply below_drew1) | exact HB.out)) hb); have n1_ := Aside0.mk (hbox); have n2_ := Aside0.mk ((by rw [hg]; exact (below_size (by repeat (first | (with_reducible first | exact HB.out | apply below_alloc | apply pw_below_drewN | apply below_drew1) | exact HB.out))) : w.heap.size ≤ gb245)); have n3_ := Aside0.mk ((by rw [hg]; exact (below_size (by repeat (first | (with_reducible first | exact HB.out | apply below_alloc | apply pw_below_drewN | apply below_drew1) | exact HB.out))) : w.heap.size ≤ gb245)); clear HB; have HB := n0_; have BK245 := n1_; have GW245 := n2_; have GE245 := n3_; clear n0_ n1_ n2_ n3_; clear hb hbox hg) | ((with_reducible refine gate_dst (N := 3) rfl ?_); refine box_event ?hg (N := 3) ?hd (cs := #[.int .i64 a1_0, .int .i64 a1_1, .string a1_2]) (t := 23) ?hr ?_; (case hd => rfl); (case hg => rfl); (case hr => first | (go_simp; done) | (go_simp; rfl)); intro gb246 hg w12 hbox hb; have n0_ := Aside0.mk (blk_below (g := gb245) (o := .cells #[.int .i64 a0_0, .int .i64 a0_1, .string a0_2] 23 (0, 0)) (by (with_reducible repeat (first | refine blk_drewN ?_ _ | refine blk_drew ?_ | refine blk_alloc ?_ _)); exact BK245.out) hb); have n1_ := Aside0.mk (below_step (by repeat (first | (with_reducible first | exact HB.out | apply below_alloc | apply pw_below_drewN | apply below_drew1 | refine below_set ?_ GE245.out) | exact HB.out)) hb); have n2_ := Aside0.mk (hbox); have n3_ := Aside0.mk ((by rw [hg]; exact (below_size (by repeat (first | (with_reducible first | exact HB.out | apply below_alloc | apply pw_below_drewN | apply below_drew1 | refine below_set ?_ GE245.out) | exact HB.out))) : w.heap.size ≤ gb246)); have n4_ := Aside0.mk ((by rw [hg]; exact (below_size (by repeat (first | (with_reducible first | exact HB.out | apply below_alloc | apply pw_below_drewN | apply below_drew1 | refine below_set ?_ GE245.out) | exact HB.out))) : w.heap.size ≤ gb246)); have n5_ := Aside0.mk ((by rw [hg]; exact Nat.ne_of_lt (blk_lt (g := gb245) (o := .cells #[.int .i64 a0_0, .int .i64 a0_1, .string a0_2] 23 (0, 0)) (by (with_reducible repeat (first | refine blk_drewN ?_ _ | refine blk_drew ?_ | refine blk_alloc ?_ _)); exact BK245.out)) : gb245 ≠ gb246)); have n6_ := Aside0.mk ((by rw [hg]; exact Nat.ne_of_gt (blk_lt (g := gb245) (o := .cells #[.int .i64 a0_0, .int .i64 a0_1, .string a0_2] 23 (0, 0)) (by (with_reducible repeat (first | refine blk_drewN ?_ _ | refine blk_drew ?_ | refine blk_alloc ?_ _)); exact BK245.out)) : gb246 ≠ gb245)); clear BK245; clear HB; have BK245 := n0_; have HB := n1_; have BK246 := n2_; have GW246 := n3_; have GE246 := n4_; have NB245_246 := n5_; have NB246_245 := n6_; clear n0_ n1_ n2_ n3_ n4_ n5_ n6_; clear hb hbox hg) | ((with_reducible refine gate_callee (f := 10) rfl ?_); refine goesL_ (some 18) rfl rfl Try.func10 (by kernel_rfl) rfl #[] rfl (by (try simp only [List.map_toArray, List.map_cons, List.map_nil]); first | done | rfl | (simp only [List.length_drop, List.length_take]; rfl)) ?_; (with_reducible refine (weathercocklaw01_examples.calls k  t247 _ A3.out).mono ?_); rintro e w13 ⟨rfl, hb⟩; refine ⟨_, rfl, ?_⟩; have n0_ := Aside0.mk (blk_below (g := gb245) (o := .cells #[.int .i64 a0_0, .int .i64 a0_1, .string a0_2] 23 (0, 0)) (by (with_reducible repeat (first | refine blk_drewN ?_ _ | refine blk_drew ?_ | refine blk_alloc ?_ _)); exact BK245.out) hb); have n1_ := Aside0.mk (blk_below (g := gb246) (o := .cells #[.int .i64 a1_0, .int .i64 a1_1, .string a1_2] 23 (0, 0)) (by (with_reducible repeat (first | refine blk_drewN ?_ _ | refine blk_drew ?_ | refine blk_alloc ?_ _)); exact BK246.out) hb); have n2_ := Aside0.mk (below_step (by repeat (first | (with_reducible first | exact HB.out | apply below_alloc | apply pw_below_drewN | apply below_drew1 | refine below_set ?_ GE245.out | refine below_set ?_ GE246.out) | exact HB.out)) hb); clear BK245; clear BK246; clear HB; have BK245 := n0_; have BK246 := n1_; have HB := n2_; clear n0_ n1_ n2_; (try clear hb); (try clear hb2); (try clear hk); (try clear hi); have hnb14 := NB245_246.out; have hnc14 := NB246_245.out; have hcz15_0 : w13.cell? ⟨gb245, 0, none⟩ = some (.int .i64 a0_0) := (blk_cell BK245.out 0).trans rfl; have hcz15_1 : w13.cell? ⟨gb245, 1, none⟩ = some (.int .i64 a0_1) := (blk_cell BK245.out 1).trans rfl; have hcz15_2 : w13.cell? ⟨gb245, 2, none⟩ = some (.string a0_2) := (blk_cell BK245.out 2).trans rfl; have hfz15_0 := blk_frozen BK245.out 0; have hfz15_1 := blk_frozen BK245.out 1; have hfz15_2 := blk_frozen BK245.out 2; have hcz16_0 : w13.cell? ⟨gb246, 0, none⟩ = some (.int .i64 a1_0) := (blk_cell BK246.out 0).trans rfl; have hcz16_1 : w13.cell? ⟨gb246, 1, none⟩ = some (.int .i64 a1_1) := (blk_cell BK246.out 1).trans rfl; have hcz16_2 : w13.cell? ⟨gb246, 2, none⟩ = some (.string a1_2) := (blk_cell BK246.out 2).trans rfl; have hfz16_0 := blk_frozen BK246.out 0; have hfz16_1 := blk_frozen BK246.out 1; have hfz16_2 := blk_frozen BK246.out 2) | ((with_reducible refine gate_callee (f := 17) rfl ?_); refine goesL_ (some 22) rfl rfl Try.func17 (by kernel_rfl) rfl #[.int .i64 11, .agg #[.int .i64 a0_0, .int .i64 a0_1, .string a0_2], .agg #[.int .i64 a1_0, .int .i64 a1_1, .string a1_2]] rfl (by (try simp only [List.map_toArray, List.map_cons, List.map_nil]); first | done | rfl | (simp only [List.length_drop, List.length_take]; rfl)) ?_; (with_reducible refine (value_Test.calls k 11 a0_0 a0_1 a0_2 a1_0 a1_1 a1_2 t248 t249 t250 t251 _ A4.out).mono ?_); rintro e w17 ⟨rfl, hb⟩; refine ⟨_, rfl, ?_⟩; have n0_ := Aside0.mk (blk_below (g := gb245) (o := .cells #[.int .i64 a0_0, .int .i64 a0_1, .string a0_2] 23 (0, 0)) (by (with_reducible repeat (first | refine blk_drewN ?_ _ | refine blk_drew ?_ | refine blk_alloc ?_ _)); exact BK245.out) hb); have n1_ := Aside0.mk (blk_below (g := gb246) (o := .cells #[.int .i64 a1_0, .int .i64 a1_1, .string a1_2] 23 (0, 0)) (by (with_reducible repeat (first | refine blk_drewN ?_ _ | refine blk_drew ?_ | refine blk_alloc ?_ _)); exact BK246.out) hb); have n2_ := Aside0.mk (below_step (by repeat (first | (with_reducible first | exact HB.out | apply below_alloc | apply pw_below_drewN | apply below_drew1 | refine below_set ?_ GE245.out | refine below_set ?_ GE246.out) | exact HB.out)) hb); clear BK245; clear BK246; clear HB; have BK245 := n0_; have BK246 := n1_; have HB := n2_; clear n0_ n1_ n2_; (try clear hb); (try clear hb2); (try clear hk); (try clear hi)) | ((with_reducible refine gate_dst (N := 6) rfl ?_); refine box_event ?hg (N := 6) ?hd (cs := #[.int .i64 0, .int .i64 0, .string (⟨#[]⟩ : ByteArray)]) (t := 23) ?hr ?_; (case hd => rfl); (case hg => rfl); (case hr => first | (go_simp; done) | (go_simp; rfl)); intro gb252 hg w18 hbox hb; have n0_ := Aside0.mk (blk_below (g := gb245) (o := .cells #[.int .i64 a0_0, .int .i64 a0_1, .string a0_2] 23 (0, 0)) (by (with_reducible repeat (first | refine blk_drewN ?_ _ | refine blk_drew ?_ | refine blk_alloc ?_ _)); exact BK245.out) hb); have n1_ := Aside0.mk (blk_below (g := gb246) (o := .cells #[.int .i64 a1_0, .int .i64 a1_1, .string a1_2] 23 (0, 0)) (by (with_reducible repeat (first | refine blk_drewN ?_ _ | refine blk_drew ?_ | refine blk_alloc ?_ _)); exact BK246.out) hb); have n2_ := Aside0.mk (below_step (by repeat (first | (with_reducible first | exact HB.out | apply below_alloc | apply pw_below_drewN | apply below_drew1 | refine below_set ?_ GE245.out | refine below_set ?_ GE246.out) | exact HB.out)) hb); have n3_ := Aside0.mk (hbox); have n4_ := Aside0.mk ((by rw [hg]; exact (below_size (by repeat (first | (with_reducible first | exact HB.out | apply below_alloc | apply pw_below_drewN | apply below_drew1 | refine below_set ?_ GE245.out | refine below_set ?_ GE246.out) | exact HB.out))) : w.heap.size ≤ gb252)); have n5_ := Aside0.mk ((by rw [hg]; exact (below_size (by repeat (first | (with_reducible first | exact HB.out | apply below_alloc | apply pw_below_drewN | apply below_drew1 | refine below_set ?_ GE245.out | refine below_set ?_ GE246.out) | exact HB.out))) : w.heap.size ≤ gb252)); have n6_ := Aside0.mk ((by rw [hg]; exact Nat.ne_of_lt (blk_lt (g := gb245) (o := .cells #[.int .i64 a0_0, .int .i64 a0_1, .string a0_2] 23 (0, 0)) (by (with_reducible repeat (first | refine blk_drewN ?_ _ | refine blk_drew ?_ | refine blk_alloc ?_ _)); exact BK245.out)) : gb245 ≠ gb252)); have n7_ := Aside0.mk ((by rw [hg]; exact Nat.ne_of_gt (blk_lt (g := gb245) (o := .cells #[.int .i64 a0_0, .int .i64 a0_1, .string a0_2] 23 (0, 0)) (by (with_reducible repeat (first | refine blk_drewN ?_ _ | refine blk_drew ?_ | refine blk_alloc ?_ _)); exact BK245.out)) : gb252 ≠ gb245)); have n8_ := Aside0.mk ((by rw [hg]; exact Nat.ne_of_lt (blk_lt (g := gb246) (o := .cells #[.int .i64 a1_0, .int .i64 a1_1, .string a1_2] 23 (0, 0)) (by (with_reducible repeat (first | refine blk_drewN ?_ _ | refine blk_drew ?_ | refine blk_alloc ?_ _)); exact BK246.out)) : gb246 ≠ gb252)); have n9_ := Aside0.mk ((by rw [hg]; exact Nat.ne_of_gt (blk_lt (g := gb246) (o := .cells #[.int .i64 a1_0, .int .i64 a1_1, .string a1_2] 23 (0, 0)) (by (with_reducible repeat (first | refine blk_drewN ?_ _ | refine blk_drew ?_ | refine blk_alloc ?_ _)); exact BK246.out)) : gb252 ≠ gb246)); clear BK245; clear BK246; clear HB; have BK245 := n0_; have BK246 := n1_; have HB := n2_; have BK252 := n3_; have GW252 := n4_; have GE252 := n5_; have NB245_252 := n6_; have NB252_245 := n7_; have NB246_252 := n8_; have NB252_246 := n9_; clear n0_ n1_ n2_ n3_ n4_ n5_ n6_ n7_ n8_ n9_; clear hb hbox hg; have hnb19 := NB252_245.out; have hnc19 := NB245_252.out; have hnb20 := NB252_246.out; have hnc20 := NB246_252.out; have hcz21_0 : w18.cell? ⟨gb252, 0, none⟩ = some (.int .i64 0) := (blk_cell BK252.out 0).trans rfl; have hcz21_1 : w18.cell? ⟨gb252, 1, none⟩ = some (.int .i64 0) := (blk_cell BK252.out 1).trans rfl; have hcz21_2 : w18.cell? ⟨gb252, 2, none⟩ = some (.string (⟨#[]⟩ : ByteArray)) := (blk_cell BK252.out 2).trans rfl; have hfz21_0 := blk_frozen BK252.out 0; have hfz21_1 := blk_frozen BK252.out 1; have hfz21_2 := blk_frozen BK252.out 2; have hcz22_0 : w18.cell? ⟨gb245, 0, none⟩ = some (.int .i64 a0_0) := (blk_cell BK245.out 0).trans rfl; have hcz22_1 : w18.cell? ⟨gb245, 1, none⟩ = some (.int .i64 a0_1) := (blk_cell BK245.out 1).trans rfl; have hcz22_2 : w18.cell? ⟨gb245, 2, none⟩ = some (.string a0_2) := (blk_cell BK245.out 2).trans rfl; have hfz22_0 := blk_frozen BK245.out 0; have hfz22_1 := blk_frozen BK245.out 1; have hfz22_2 := blk_frozen BK245.out 2; have hcz23_0 : w18.cell? ⟨gb246, 0, none⟩ = some (.int .i64 a1_0) := (blk_cell BK246.out 0).trans rfl; have hcz23_1 : w18.cell? ⟨gb246, 1, none⟩ = some (.int .i64 a1_1) := (blk_cell BK246.out 1).trans rfl; have hcz23_2 : w18.cell? ⟨gb246, 2, none⟩ = some (.string a1_2) := (blk_cell BK246.out 2).trans rfl; have hfz23_0 := blk_frozen BK246.out 0; have hfz23_1 := blk_frozen BK246.out 1; have hfz23_2 := blk_frozen BK246.out 2) | ((with_reducible refine gate_callee (f := 17) rfl ?_); refine goesL_ (some 28) rfl rfl Try.func17 (by kernel_rfl) rfl #[.int .i64 9, .agg #[.int .i64 a0_0, .int .i64 a0_1, .string a0_2], .agg #[.int .i64 a1_0, .int .i64 a1_1, .string a1_2]] rfl (by (try simp only [List.map_toArray, List.map_cons, List.map_nil]); first | done | rfl | (simp only [List.length_drop, List.length_take]; rfl)) ?_; (with_reducible refine (value_Test.calls k 9 a0_0 a0_1 a0_2 a1_0 a1_1 a1_2 t253 t254 t255 t256 _ A5.out).mono ?_); rintro e w24 ⟨rfl, hb⟩; refine ⟨_, rfl, ?_⟩; have n0_ := Aside0.mk (blk_below (g := gb245) (o := .cells #[.int .i64 a0_0, .int .i64 a0_1, .string a0_2] 23 (0, 0)) (by (with_reducible repeat (first | refine blk_drewN ?_ _ | refine blk_drew ?_ | refine blk_alloc ?_ _)); refine blk_far ?_ NB245_252.out _; (with_reducible repeat (first | refine blk_drewN ?_ _ | refine blk_drew ?_ | refine blk_alloc ?_ _)); refine blk_far ?_ NB245_252.out _; (with_reducible repeat (first | refine blk_drewN ?_ _ | refine blk_drew ?_ | refine blk_alloc ?_ _)); refine blk_far ?_ NB245_252.out _; (with_reducible repeat (first | refine blk_drewN ?_ _ | refine blk_drew ?_ | refine blk_alloc ?_ _)); exact BK245.out) hb); have n1_ := Aside0.mk (blk_below (g := gb246) (o := .cells #[.int .i64 a1_0, .int .i64 a1_1, .string a1_2] 23 (0, 0)) (by (with_reducible repeat (first | refine blk_drewN ?_ _ | refine blk_drew ?_ | refine blk_alloc ?_ _)); refine blk_far ?_ NB246_252.out _; (with_reducible repeat (first | refine blk_drewN ?_ _ | refine blk_drew ?_ | refine blk_alloc ?_ _)); refine blk_far ?_ NB246_252.out _; (with_reducible repeat (first | refine blk_drewN ?_ _ | refine blk_drew ?_ | refine blk_alloc ?_ _)); refine blk_far ?_ NB246_252.out _; (with_reducible repeat (first | refine blk_drewN ?_ _ | refine blk_drew ?_ | refine blk_alloc ?_ _)); exact BK246.out) hb); have n2_ := Aside0.mk (blk_below (g := gb252) (o := .cells #[.int .i64 t248, .int .i64 t249, .string t250] 23 (0, 0)) (by (with_reducible repeat (first | refine blk_drewN ?_ _ | refine blk_drew ?_ | refine blk_alloc ?_ _)); refine blk_put (cs := #[.int .i64 t248, .int .i64 t249, .string (⟨#[]⟩ : ByteArray)]) ?_ 2 _ rfl; (with_reducible repeat (first | refine blk_drewN ?_ _ | refine blk_drew ?_ | refine blk_alloc ?_ _)); refine blk_put (cs := #[.int .i64 t248, .int .i64 0, .string (⟨#[]⟩ : ByteArray)]) ?_ 1 _ rfl; (with_reducible repeat (first | refine blk_drewN ?_ _ | refine blk_drew ?_ | refine blk_alloc ?_ _)); refine blk_put (cs := #[.int .i64 0, .int .i64 0, .string (⟨#[]⟩ : ByteArray)]) ?_ 0 _ rfl; (with_reducible repeat (first | refine blk_drewN ?_ _ | refine blk_drew ?_ | refine blk_alloc ?_ _)); exact BK252.out) hb); have n3_ := Aside0.mk (below_step (by repeat (first | (with_reducible first | exact HB.out | apply below_alloc | apply pw_below_drewN | apply below_drew1 | refine below_set ?_ GE245.out | refine below_set ?_ GE246.out | refine below_set ?_ GE252.out) | exact HB.out)) hb); clear BK245; clear BK246; clear BK252; clear HB; have BK245 := n0_; have BK246 := n1_; have BK252 := n2_; have HB := n3_; clear n0_ n1_ n2_ n3_; (try clear hb); (try clear hb2); (try clear hk); (try clear hi)) | ((with_reducible refine gate_dst (N := 8) rfl ?_); refine box_event ?hg (N := 8) ?hd (cs := #[.int .i64 0, .int .i64 0, .string (⟨#[]⟩ : ByteArray)]) (t := 23) ?hr ?_; (case hd => rfl); (case hg => rfl); (case hr => first | (go_simp; done) | (go_simp; rfl)); intro gb257 hg w25 hbox hb; have n0_ := Aside0.mk (blk_below (g := gb245) (o := .cells #[.int .i64 a0_0, .int .i64 a0_1, .string a0_2] 23 (0, 0)) (by (with_reducible repeat (first | refine blk_drewN ?_ _ | refine blk_drew ?_ | refine blk_alloc ?_ _)); exact BK245.out) hb); have n1_ := Aside0.mk (blk_below (g := gb246) (o := .cells #[.int .i64 a1_0, .int .i64 a1_1, .string a1_2] 23 (0, 0)) (by (with_reducible repeat (first | refine blk_drewN ?_ _ | refine blk_drew ?_ | refine blk_alloc ?_ _)); exact BK246.out) hb); have n2_ := Aside0.mk (blk_below (g := gb252) (o := .cells #[.int .i64 t248, .int .i64 t249, .string t250] 23 (0, 0)) (by (with_reducible repeat (first | refine blk_drewN ?_ _ | refine blk_drew ?_ | refine blk_alloc ?_ _)); exact BK252.out) hb); have n3_ := Aside0.mk (below_step (by repeat (first | (with_reducible first | exact HB.out | apply below_alloc | apply pw_below_drewN | apply below_drew1 | refine below_set ?_ GE245.out | refine below_set ?_ GE246.out | refine below_set ?_ GE252.out) | exact HB.out)) hb); have n4_ := Aside0.mk (hbox); have n5_ := Aside0.mk ((by rw [hg]; exact (below_size (by repeat (first | (with_reducible first | exact HB.out | apply below_alloc | apply pw_below_drewN | apply below_drew1 | refine below_set ?_ GE245.out | refine below_set ?_ GE246.out | refine below_set ?_ GE252.out) | exact HB.out))) : w.heap.size ≤ gb257)); have n6_ := Aside0.mk ((by rw [hg]; exact (below_size (by repeat (first | (with_reducible first | exact HB.out | apply below_alloc | apply pw_below_drewN | apply below_drew1 | refine below_set ?_ GE245.out | refine below_set ?_ GE246.out | refine below_set ?_ GE252.out) | exact HB.out))) : w.heap.size ≤ gb257)); have n7_ := Aside0.mk ((by rw [hg]; exact Nat.ne_of_lt (blk_lt (g := gb245) (o := .cells #[.int .i64 a0_0, .int .i64 a0_1, .string a0_2] 23 (0, 0)) (by (with_reducible repeat (first | refine blk_drewN ?_ _ | refine blk_drew ?_ | refine blk_alloc ?_ _)); exact BK245.out)) : gb245 ≠ gb257)); have n8_ := Aside0.mk ((by rw [hg]; exact Nat.ne_of_gt (blk_lt (g := gb245) (o := .cells #[.int .i64 a0_0, .int .i64 a0_1, .string a0_2] 23 (0, 0)) (by (with_reducible repeat (first | refine blk_drewN ?_ _ | refine blk_drew ?_ | refine blk_alloc ?_ _)); exact BK245.out)) : gb257 ≠ gb245)); have n9_ := Aside0.mk ((by rw [hg]; exact Nat.ne_of_lt (blk_lt (g := gb246) (o := .cells #[.int .i64 a1_0, .int .i64 a1_1, .string a1_2] 23 (0, 0)) (by (with_reducible repeat (first | refine blk_drewN ?_ _ | refine blk_drew ?_ | refine blk_alloc ?_ _)); exact BK246.out)) : gb246 ≠ gb257)); have n10_ := Aside0.mk ((by rw [hg]; exact Nat.ne_of_gt (blk_lt (g := gb246) (o := .cells #[.int .i64 a1_0, .int .i64 a1_1, .string a1_2] 23 (0, 0)) (by (with_reducible repeat (first | refine blk_drewN ?_ _ | refine blk_drew ?_ | refine blk_alloc ?_ _)); exact BK246.out)) : gb257 ≠ gb246)); have n11_ := Aside0.mk ((by rw [hg]; exact Nat.ne_of_lt (blk_lt (g := gb252) (o := .cells #[.int .i64 t248, .int .i64 t249, .string t250] 23 (0, 0)) (by (with_reducible repeat (first | refine blk_drewN ?_ _ | refine blk_drew ?_ | refine blk_alloc ?_ _)); exact BK252.out)) : gb252 ≠ gb257)); have n12_ := Aside0.mk ((by rw [hg]; exact Nat.ne_of_gt (blk_lt (g := gb252) (o := .cells #[.int .i64 t248, .int .i64 t249, .string t250] 23 (0, 0)) (by (with_reducible repeat (first | refine blk_drewN ?_ _ | refine blk_drew ?_ | refine blk_alloc ?_ _)); exact BK252.out)) : gb257 ≠ gb252)); clear BK245; clear BK246; clear BK252; clear HB; have BK245 := n0_; have BK246 := n1_; have BK252 := n2_; have HB := n3_; have BK257 := n4_; have GW257 := n5_; have GE257 := n6_; have NB245_257 := n7_; have NB257_245 := n8_; have NB246_257 := n9_; have NB257_246 := n10_; have NB252_257 := n11_; have NB257_252 := n12_; clear n0_ n1_ n2_ n3_ n4_ n5_ n6_ n7_ n8_ n9_ n10_ n11_ n12_; clear hb hbox hg; have hnb26 := NB257_245.out; have hnc26 := NB245_257.out; have hnb27 := NB257_246.out; have hnc27 := NB246_257.out; have hnb28 := NB257_252.out; have hnc28 := NB252_257.out; have hcz29_0 : w25.cell? ⟨gb257, 0, none⟩ = some (.int .i64 0) := (blk_cell BK257.out 0).trans rfl; have hcz29_1 : w25.cell? ⟨gb257, 1, none⟩ = some (.int .i64 0) := (blk_cell BK257.out 1).trans rfl; have hcz29_2 : w25.cell? ⟨gb257, 2, none⟩ = some (.string (⟨#[]⟩ : ByteArray)) := (blk_cell BK257.out 2).trans rfl; have hfz29_0 := blk_frozen BK257.out 0; have hfz29_1 := blk_frozen BK257.out 1; have hfz29_2 := blk_frozen BK257.out 2; have hcz30_0 : w25.cell? ⟨gb245, 0, none⟩ = some (.int .i64 a0_0) := (blk_cell BK245.out 0).trans rfl; have hcz30_1 : w25.cell? ⟨gb245, 1, none⟩ = some (.int .i64 a0_1) := (blk_cell BK245.out 1).trans rfl; have hcz30_2 : w25.cell? ⟨gb245, 2, none⟩ = some (.string a0_2) := (blk_cell BK245.out 2).trans rfl; have hfz30_0 := blk_frozen BK245.out 0; have hfz30_1 := blk_frozen BK245.out 1; have hfz30_2 := blk_frozen BK245.out 2; have hcz31_0 : w25.cell? ⟨gb246, 0, none⟩ = some (.int .i64 a1_0) := (blk_cell BK246.out 0).trans rfl; have hcz31_1 : w25.cell? ⟨gb246, 1, none⟩ = some (.int .i64 a1_1) := (blk_cell BK246.out 1).trans rfl; have hcz31_2 : w25.cell? ⟨gb246, 2, none⟩ = some (.string a1_2) := (blk_cell BK246.out 2).trans rfl; have hfz31_0 := blk_frozen BK246.out 0; have hfz31_1 := blk_frozen BK246.out 1; have hfz31_2 := blk_frozen BK246.out 2) | ((with_reducible refine gate_callee (f := 17) rfl ?_); refine goesL_ (some 34) rfl rfl Try.func17 (by kernel_rfl) rfl #[.int .i64 13, .agg #[.int .i64 a0_0, .int .i64 a0_1, .string a0_2], .agg #[.int .i64 a1_0, .int .i64 a1_1, .string a1_2]] rfl (by (try simp only [List.map_toArray, List.map_cons, List.map_nil]); first | done | rfl | (simp only [List.length_drop, List.length_take]; rfl)) ?_; (with_reducible refine (value_Test.calls k 13 a0_0 a0_1 a0_2 a1_0 a1_1 a1_2 t258 t259 t260 t261 _ A6.out).mono ?_); rintro e w32 ⟨rfl, hb⟩; refine ⟨_, rfl, ?_⟩; have n0_ := Aside0.mk (blk_below (g := gb245) (o := .cells #[.int .i64 a0_0, .int .i64 a0_1, .string a0_2] 23 (0, 0)) (by (with_reducible repeat (first | refine blk_drewN ?_ _ | refine blk_drew ?_ | refine blk_alloc ?_ _)); refine blk_far ?_ NB245_257.out _; (with_reducible repeat (first | refine blk_drewN ?_ _ | refine blk_drew ?_ | refine blk_alloc ?_ _)); refine blk_far ?_ NB245_257.out _; (with_reducible repeat (first | refine blk_drewN ?_ _ | refine blk_drew ?_ | refine blk_alloc ?_ _)); refine blk_far ?_ NB245_257.out _; (with_reducible repeat (first | refine blk_drewN ?_ _ | refine blk_drew ?_ | refine blk_alloc ?_ _)); exact BK245.out) hb); have n1_ := Aside0.mk (blk_below (g := gb246) (o := .cells #[.int .i64 a1_0, .int .i64 a1_1, .string a1_2] 23 (0, 0)) (by (with_reducible repeat (first | refine blk_drewN ?_ _ | refine blk_drew ?_ | refine blk_alloc ?_ _)); refine blk_far ?_ NB246_257.out _; (with_reducible repeat (first | refine blk_drewN ?_ _ | refine blk_drew ?_ | refine blk_alloc ?_ _)); refine blk_far ?_ NB246_257.out _; (with_reducible repeat (first | refine blk_drewN ?_ _ | refine blk_drew ?_ | refine blk_alloc ?_ _)); refine blk_far ?_ NB246_257.out _; (with_reducible repeat (first | refine blk_drewN ?_ _ | refine blk_drew ?_ | refine blk_alloc ?_ _)); exact BK246.out) hb); have n2_ := Aside0.mk (blk_below (g := gb252) (o := .cells #[.int .i64 t248, .int .i64 t249, .string t250] 23 (0, 0)) (by (with_reducible repeat (first | refine blk_drewN ?_ _ | refine blk_drew ?_ | refine blk_alloc ?_ _)); refine blk_far ?_ NB252_257.out _; (with_reducible repeat (first | refine blk_drewN ?_ _ | refine blk_drew ?_ | refine blk_alloc ?_ _)); refine blk_far ?_ NB252_257.out _; (with_reducible repeat (first | refine blk_drewN ?_ _ | refine blk_drew ?_ | refine blk_alloc ?_ _)); refine blk_far ?_ NB252_257.out _; (with_reducible repeat (first | refine blk_drewN ?_ _ | refine blk_drew ?_ | refine blk_alloc ?_ _)); exact BK252.out) hb); have n3_ := Aside0.mk (blk_below (g := gb257) (o := .cells #[.int .i64 t253, .int .i64 t254, .string t255] 23 (0, 0)) (by (with_reducible repeat (first | refine blk_drewN ?_ _ | refine blk_drew ?_ | refine blk_alloc ?_ _)); refine blk_put (cs := #[.int .i64 t253, .int .i64 t254, .string (⟨#[]⟩ : ByteArray)]) ?_ 2 _ rfl; (with_reducible repeat (first | refine blk_drewN ?_ _ | refine blk_drew ?_ | refine blk_alloc ?_ _)); refine blk_put (cs := #[.int .i64 t253, .int .i64 0, .string (⟨#[]⟩ : ByteArray)]) ?_ 1 _ rfl; (with_reducible repeat (first | refine blk_drewN ?_ _ | refine blk_drew ?_ | refine blk_alloc ?_ _)); refine blk_put (cs := #[.int .i64 0, .int .i64 0, .string (⟨#[]⟩ : ByteArray)]) ?_ 0 _ rfl; (with_reducible repeat (first | refine blk_drewN ?_ _ | refine blk_drew ?_ | refine blk_alloc ?_ _)); exact BK257.out) hb); have n4_ := Aside0.mk (below_step (by repeat (first | (with_reducible first | exact HB.out | apply below_alloc | apply pw_below_drewN | apply below_drew1 | refine below_set ?_ GE245.out | refine below_set ?_ GE246.out | refine below_set ?_ GE252.out | refine below_set ?_ GE257.out) | exact HB.out)) hb); clear BK245; clear BK246; clear BK252; clear BK257; clear HB; have BK245 := n0_; have BK246 := n1_; have BK252 := n2_; have BK257 := n3_; have HB := n4_; clear n0_ n1_ n2_ n3_ n4_; (try clear hb); (try clear hb2); (try clear hk); (try clear hi)) | ((with_reducible refine gate_dst (N := 10) rfl ?_); refine box_event ?hg (N := 10) ?hd (cs := #[.int .i64 0, .int .i64 0, .string (⟨#[]⟩ : ByteArray)]) (t := 23) ?hr ?_; (case hd => rfl); (case hg => rfl); (case hr => first | (go_simp; done) | (go_simp; rfl)); intro gb262 hg w33 hbox hb; have n0_ := Aside0.mk (blk_below (g := gb245) (o := .cells #[.int .i64 a0_0, .int .i64 a0_1, .string a0_2] 23 (0, 0)) (by (with_reducible repeat (first | refine blk_drewN ?_ _ | refine blk_drew ?_ | refine blk_alloc ?_ _)); exact BK245.out) hb); have n1_ := Aside0.mk (blk_below (g := gb246) (o := .cells #[.int .i64 a1_0, .int .i64 a1_1, .string a1_2] 23 (0, 0)) (by (with_reducible repeat (first | refine blk_drewN ?_ _ | refine blk_drew ?_ | refine blk_alloc ?_ _)); exact BK246.out) hb); have n2_ := Aside0.mk (blk_below (g := gb252) (o := .cells #[.int .i64 t248, .int .i64 t249, .string t250] 23 (0, 0)) (by (with_reducible repeat (first | refine blk_drewN ?_ _ | refine blk_drew ?_ | refine blk_alloc ?_ _)); exact BK252.out) hb); have n3_ := Aside0.mk (blk_below (g := gb257) (o := .cells #[.int .i64 t253, .int .i64 t254, .string t255] 23 (0, 0)) (by (with_reducible repeat (first | refine blk_drewN ?_ _ | refine blk_drew ?_ | refine blk_alloc ?_ _)); exact BK257.out) hb); have n4_ := Aside0.mk (below_step (by repeat (first | (with_reducible first | exact HB.out | apply below_alloc | apply pw_below_drewN | apply below_drew1 | refine below_set ?_ GE245.out | refine below_set ?_ GE246.out | refine below_set ?_ GE252.out | refine below_set ?_ GE257.out) | exact HB.out)) hb); have n5_ := Aside0.mk (hbox); have n6_ := Aside0.mk ((by rw [hg]; exact (below_size (by repeat (first | (with_reducible first | exact HB.out | apply below_alloc | apply pw_below_drewN | apply below_drew1 | refine below_set ?_ GE245.out | refine below_set ?_ GE246.out | refine below_set ?_ GE252.out | refine below_set ?_ GE257.out) | exact HB.out))) : w.heap.size ≤ gb262)); have n7_ := Aside0.mk ((by rw [hg]; exact (below_size (by repeat (first | (with_reducible first | exact HB.out | apply below_alloc | apply pw_below_drewN | apply below_drew1 | refine below_set ?_ GE245.out | refine below_set ?_ GE246.out | refine below_set ?_ GE252.out | refine below_set ?_ GE257.out) | exact HB.out))) : w.heap.size ≤ gb262)); have n8_ := Aside0.mk ((by rw [hg]; exact Nat.ne_of_lt (blk_lt (g := gb245) (o := .cells #[.int .i64 a0_0, .int .i64 a0_1, .string a0_2] 23 (0, 0)) (by (with_reducible repeat (first | refine blk_drewN ?_ _ | refine blk_drew ?_ | refine blk_alloc ?_ _)); exact BK245.out)) : gb245 ≠ gb262)); have n9_ := Aside0.mk ((by rw [hg]; exact Nat.ne_of_gt (blk_lt (g := gb245) (o := .cells #[.int .i64 a0_0, .int .i64 a0_1, .string a0_2] 23 (0, 0)) (by (with_reducible repeat (first | refine blk_drewN ?_ _ | refine blk_drew ?_ | refine blk_alloc ?_ _)); exact BK245.out)) : gb262 ≠ gb245)); have n10_ := Aside0.mk ((by rw [hg]; exact Nat.ne_of_lt (blk_lt (g := gb246) (o := .cells #[.int .i64 a1_0, .int .i64 a1_1, .string a1_2] 23 (0, 0)) (by (with_reducible repeat (first | refine blk_drewN ?_ _ | refine blk_drew ?_ | refine blk_alloc ?_ _)); exact BK246.out)) : gb246 ≠ gb262)); have n11_ := Aside0.mk ((by rw [hg]; exact Nat.ne_of_gt (blk_lt (g := gb246) (o := .cells #[.int .i64 a1_0, .int .i64 a1_1, .string a1_2] 23 (0, 0)) (by (with_reducible repeat (first | refine blk_drewN ?_ _ | refine blk_drew ?_ | refine blk_alloc ?_ _)); exact BK246.out)) : gb262 ≠ gb246)); have n12_ := Aside0.mk ((by rw [hg]; exact Nat.ne_of_lt (blk_lt (g := gb252) (o := .cells #[.int .i64 t248, .int .i64 t249, .string t250] 23 (0, 0)) (by (with_reducible repeat (first | refine blk_drewN ?_ _ | refine blk_drew ?_ | refine blk_alloc ?_ _)); exact BK252.out)) : gb252 ≠ gb262)); have n13_ := Aside0.mk ((by rw [hg]; exact Nat.ne_of_gt (blk_lt (g := gb252) (o := .cells #[.int .i64 t248, .int .i64 t249, .string t250] 23 (0, 0)) (by (with_reducible repeat (first | refine blk_drewN ?_ _ | refine blk_drew ?_ | refine blk_alloc ?_ _)); exact BK252.out)) : gb262 ≠ gb252)); have n14_ := Aside0.mk ((by rw [hg]; exact Nat.ne_of_lt (blk_lt (g := gb257) (o := .cells #[.int .i64 t253, .int .i64 t254, .string t255] 23 (0, 0)) (by (with_reducible repeat (first | refine blk_drewN ?_ _ | refine blk_drew ?_ | refine blk_alloc ?_ _)); exact BK257.out)) : gb257 ≠ gb262)); have n15_ := Aside0.mk ((by rw [hg]; exact Nat.ne_of_gt (blk_lt (g := gb257) (o := .cells #[.int .i64 t253, .int .i64 t254, .string t255] 23 (0, 0)) (by (with_reducible repeat (first | refine blk_drewN ?_ _ | refine blk_drew ?_ | refine blk_alloc ?_ _)); exact BK257.out)) : gb262 ≠ gb257)); clear BK245; clear BK246; clear BK252; clear BK257; clear HB; have BK245 := n0_; have BK246 := n1_; have BK252 := n2_; have BK257 := n3_; have HB := n4_; have BK262 := n5_; have GW262 := n6_; have GE262 := n7_; have NB245_262 := n8_; have NB262_245 := n9_; have NB246_262 := n10_; have NB262_246 := n11_; have NB252_262 := n12_; have NB262_252 := n13_; have NB257_262 := n14_; have NB262_257 := n15_; clear n0_ n1_ n2_ n3_ n4_ n5_ n6_ n7_ n8_ n9_ n10_ n11_ n12_ n13_ n14_ n15_; clear hb hbox hg; have hnb34 := NB262_245.out; have hnc34 := NB245_262.out; have hnb35 := NB262_246.out; have hnc35 := NB246_262.out; have hnb36 := NB262_252.out; have hnc36 := NB252_262.out; have hnb37 := NB262_257.out; have hnc37 := NB257_262.out; have hcz38_0 : w33.cell? ⟨gb262, 0, none⟩ = some (.int .i64 0) := (blk_cell BK262.out 0).trans rfl; have hcz38_1 : w33.cell? ⟨gb262, 1, none⟩ = some (.int .i64 0) := (blk_cell BK262.out 1).trans rfl; have hcz38_2 : w33.cell? ⟨gb262, 2, none⟩ = some (.string (⟨#[]⟩ : ByteArray)) := (blk_cell BK262.out 2).trans rfl; have hfz38_0 := blk_frozen BK262.out 0; have hfz38_1 := blk_frozen BK262.out 1; have hfz38_2 := blk_frozen BK262.out 2; have hcz39_0 : w33.cell? ⟨gb245, 0, none⟩ = some (.int .i64 a0_0) := (blk_cell BK245.out 0).trans rfl; have hcz39_1 : w33.cell? ⟨gb245, 1, none⟩ = some (.int .i64 a0_1) := (blk_cell BK245.out 1).trans rfl; have hcz39_2 : w33.cell? ⟨gb245, 2, none⟩ = some (.string a0_2) := (blk_cell BK245.out 2).trans rfl; have hfz39_0 := blk_frozen BK245.out 0; have hfz39_1 := blk_frozen BK245.out 1; have hfz39_2 := blk_frozen BK245.out 2; have hcz40_0 : w33.cell? ⟨gb246, 0, none⟩ = some (.int .i64 a1_0) := (blk_cell BK246.out 0).trans rfl; have hcz40_1 : w33.cell? ⟨gb246, 1, none⟩ = some (.int .i64 a1_1) := (blk_cell BK246.out 1).trans rfl; have hcz40_2 : w33.cell? ⟨gb246, 2, none⟩ = some (.string a1_2) := (blk_cell BK246.out 2).trans rfl; have hfz40_0 := blk_frozen BK246.out 0; have hfz40_1 := blk_frozen BK246.out 1; have hfz40_2 := blk_frozen BK246.out 2) | ((with_reducible refine gate_callee (f := 17) rfl ?_); refine goesL_ (some 40) rfl rfl Try.func17 (by kernel_rfl) rfl #[.int .i64 12, .agg #[.int .i64 a0_0, .int .i64 a0_1, .string a0_2], .agg #[.int .i64 a1_0, .int .i64 a1_1, .string a1_2]] rfl (by (try simp only [List.map_toArray, List.map_cons, List.map_nil]); first | done | rfl | (simp only [List.length_drop, List.length_take]; rfl)) ?_; (with_reducible refine (value_Test.calls k 12 a0_0 a0_1 a0_2 a1_0 a1_1 a1_2 t263 t264 t265 t266 _ A7.out).mono ?_); rintro e w41 ⟨rfl, hb⟩; refine ⟨_, rfl, ?_⟩; have n0_ := Aside0.mk (blk_below (g := gb245) (o := .cells #[.int .i64 a0_0, .int .i64 a0_1, .string a0_2] 23 (0, 0)) (by (with_reducible repeat (first | refine blk_drewN ?_ _ | refine blk_drew ?_ | refine blk_alloc ?_ _)); refine blk_far ?_ NB245_262.out _; (with_reducible repeat (first | refine blk_drewN ?_ _ | refine blk_drew ?_ | refine blk_alloc ?_ _)); refine blk_far ?_ NB245_262.out _; (with_reducible repeat (first | refine blk_drewN ?_ _ | refine blk_drew ?_ | refine blk_alloc ?_ _)); refine blk_far ?_ NB245_262.out _; (with_reducible repeat (first | refine blk_drewN ?_ _ | refine blk_drew ?_ | refine blk_alloc ?_ _)); exact BK245.out) hb); have n1_ := Aside0.mk (blk_below (g := gb246) (o := .cells #[.int .i64 a1_0, .int .i64 a1_1, .string a1_2] 23 (0, 0)) (by (with_reducible repeat (first | refine blk_drewN ?_ _ | refine blk_drew ?_ | refine blk_alloc ?_ _)); refine blk_far ?_ NB246_262.out _; (with_reducible repeat (first | refine blk_drewN ?_ _ | refine blk_drew ?_ | refine blk_alloc ?_ _)); refine blk_far ?_ NB246_262.out _; (with_reducible repeat (first | refine blk_drewN ?_ _ | refine blk_drew ?_ | refine blk_alloc ?_ _)); refine blk_far ?_ NB246_262.out _; (with_reducible repeat (first | refine blk_drewN ?_ _ | refine blk_drew ?_ | refine blk_alloc ?_ _)); exact BK246.out) hb); have n2_ := Aside0.mk (blk_below (g := gb252) (o := .cells #[.int .i64 t248, .int .i64 t249, .string t250] 23 (0, 0)) (by (with_reducible repeat (first | refine blk_drewN ?_ _ | refine blk_drew ?_ | refine blk_alloc ?_ _)); refine blk_far ?_ NB252_262.out _; (with_reducible repeat (first | refine blk_drewN ?_ _ | refine blk_drew ?_ | refine blk_alloc ?_ _)); refine blk_far ?_ NB252_262.out _; (with_reducible repeat (first | refine blk_drewN ?_ _ | refine blk_drew ?_ | refine blk_alloc ?_ _)); refine blk_far ?_ NB252_262.out _; (with_reducible repeat (first | refine blk_drewN ?_ _ | refine blk_drew ?_ | refine blk_alloc ?_ _)); exact BK252.out) hb); have n3_ := Aside0.mk (blk_below (g := gb257) (o := .cells #[.int .i64 t253, .int .i64 t254, .string t255] 23 (0, 0)) (by (with_reducible repeat (first | refine blk_drewN ?_ _ | refine blk_drew ?_ | refine blk_alloc ?_ _)); refine blk_far ?_ NB257_262.out _; (with_reducible repeat (first | refine blk_drewN ?_ _ | refine blk_drew ?_ | refine blk_alloc ?_ _)); refine blk_far ?_ NB257_262.out _; (with_reducible repeat (first | refine blk_drewN ?_ _ | refine blk_drew ?_ | refine blk_alloc ?_ _)); refine blk_far ?_ NB257_262.out _; (with_reducible repeat (first | refine blk_drewN ?_ _ | refine blk_drew ?_ | refine blk_alloc ?_ _)); exact BK257.out) hb); have n4_ := Aside0.mk (blk_below (g := gb262) (o := .cells #[.int .i64 t258, .int .i64 t259, .string t260] 23 (0, 0)) (by (with_reducible repeat (first | refine blk_drewN ?_ _ | refine blk_drew ?_ | refine blk_alloc ?_ _)); refine blk_put (cs := #[.int .i64 t258, .int .i64 t259, .string (⟨#[]⟩ : ByteArray)]) ?_ 2 _ rfl; (with_reducible repeat (first | refine blk_drewN ?_ _ | refine blk_drew ?_ | refine blk_alloc ?_ _)); refine blk_put (cs := #[.int .i64 t258, .int .i64 0, .string (⟨#[]⟩ : ByteArray)]) ?_ 1 _ rfl; (with_reducible repeat (first | refine blk_drewN ?_ _ | refine blk_drew ?_ | refine blk_alloc ?_ _)); refine blk_put (cs := #[.int .i64 0, .int .i64 0, .string (⟨#[]⟩ : ByteArray)]) ?_ 0 _ rfl; (with_reducible repeat (first | refine blk_drewN ?_ _ | refine blk_drew ?_ | refine blk_alloc ?_ _)); exact BK262.out) hb); have n5_ := Aside0.mk (below_step (by repeat (first | (with_reducible first | exact HB.out | apply below_alloc | apply pw_below_drewN | apply below_drew1 | refine below_set ?_ GE245.out | refine below_set ?_ GE246.out | refine below_set ?_ GE252.out | refine below_set ?_ GE257.out | refine below_set ?_ GE262.out) | exact HB.out)) hb); clear BK245; clear BK246; clear BK252; clear BK257; clear BK262; clear HB; have BK245 := n0_; have BK246 := n1_; have BK252 := n2_; have BK257 := n3_; have BK262 := n4_; have HB := n5_; clear n0_ n1_ n2_ n3_ n4_ n5_; (try clear hb); (try clear hb2); (try clear hk); (try clear hi)) | ((with_reducible refine gate_dst (N := 12) rfl ?_); refine box_event ?hg (N := 12) ?hd (cs := #[.int .i64 0, .int .i64 0, .string (⟨#[]⟩ : ByteArray)]) (t := 23) ?hr ?_; (case hd => rfl); (case hg => rfl); (case hr => first | (go_simp; done) | (go_simp; rfl)); intro gb267 hg w42 hbox hb; have n0_ := Aside0.mk (blk_below (g := gb245) (o := .cells #[.int .i64 a0_0, .int .i64 a0_1, .string a0_2] 23 (0, 0)) (by (with_reducible repeat (first | refine blk_drewN ?_ _ | refine blk_drew ?_ | refine blk_alloc ?_ _)); exact BK245.out) hb); have n1_ := Aside0.mk (blk_below (g := gb246) (o := .cells #[.int .i64 a1_0, .int .i64 a1_1, .string a1_2] 23 (0, 0)) (by (with_reducible repeat (first | refine blk_drewN ?_ _ | refine blk_drew ?_ | refine blk_alloc ?_ _)); exact BK246.out) hb); have n2_ := Aside0.mk (blk_below (g := gb252) (o := .cells #[.int .i64 t248, .int .i64 t249, .string t250] 23 (0, 0)) (by (with_reducible repeat (first | refine blk_drewN ?_ _ | refine blk_drew ?_ | refine blk_alloc ?_ _)); exact BK252.out) hb); have n3_ := Aside0.mk (blk_below (g := gb257) (o := .cells #[.int .i64 t253, .int .i64 t254, .string t255] 23 (0, 0)) (by (with_reducible repeat (first | refine blk_drewN ?_ _ | refine blk_drew ?_ | refine blk_alloc ?_ _)); exact BK257.out) hb); have n4_ := Aside0.mk (blk_below (g := gb262) (o := .cells #[.int .i64 t258, .int .i64 t259, .string t260] 23 (0, 0)) (by (with_reducible repeat (first | refine blk_drewN ?_ _ | refine blk_drew ?_ | refine blk_alloc ?_ _)); exact BK262.out) hb); have n5_ := Aside0.mk (below_step (by repeat (first | (with_reducible first | exact HB.out | apply below_alloc | apply pw_below_drewN | apply below_drew1 | refine below_set ?_ GE245.out | refine below_set ?_ GE246.out | refine below_set ?_ GE252.out | refine below_set ?_ GE257.out | refine below_set ?_ GE262.out) | exact HB.out)) hb); have n6_ := Aside0.mk (hbox); have n7_ := Aside0.mk ((by rw [hg]; exact (below_size (by repeat (first | (with_reducible first | exact HB.out | apply below_alloc | apply pw_below_drewN | apply below_drew1 | refine below_set ?_ GE245.out | refine below_set ?_ GE246.out | refine below_set ?_ GE252.out | refine below_set ?_ GE257.out | refine below_set ?_ GE262.out) | exact HB.out))) : w.heap.size ≤ gb267)); have n8_ := Aside0.mk ((by rw [hg]; exact (below_size (by repeat (first | (with_reducible first | exact HB.out | apply below_alloc | apply pw_below_drewN | apply below_drew1 | refine below_set ?_ GE245.out | refine below_set ?_ GE246.out | refine below_set ?_ GE252.out | refine below_set ?_ GE257.out | refine below_set ?_ GE262.out) | exact HB.out))) : w.heap.size ≤ gb267)); have n9_ := Aside0.mk ((by rw [hg]; exact Nat.ne_of_lt (blk_lt (g := gb245) (o := .cells #[.int .i64 a0_0, .int .i64 a0_1, .string a0_2] 23 (0, 0)) (by (with_reducible repeat (first | refine blk_drewN ?_ _ | refine blk_drew ?_ | refine blk_alloc ?_ _)); exact BK245.out)) : gb245 ≠ gb267)); have n10_ := Aside0.mk ((by rw [hg]; exact Nat.ne_of_gt (blk_lt (g := gb245) (o := .cells #[.int .i64 a0_0, .int .i64 a0_1, .string a0_2] 23 (0, 0)) (by (with_reducible repeat (first | refine blk_drewN ?_ _ | refine blk_drew ?_ | refine blk_alloc ?_ _)); exact BK245.out)) : gb267 ≠ gb245)); have n11_ := Aside0.mk ((by rw [hg]; exact Nat.ne_of_lt (blk_lt (g := gb246) (o := .cells #[.int .i64 a1_0, .int .i64 a1_1, .string a1_2] 23 (0, 0)) (by (with_reducible repeat (first | refine blk_drewN ?_ _ | refine blk_drew ?_ | refine blk_alloc ?_ _)); exact BK246.out)) : gb246 ≠ gb267)); have n12_ := Aside0.mk ((by rw [hg]; exact Nat.ne_of_gt (blk_lt (g := gb246) (o := .cells #[.int .i64 a1_0, .int .i64 a1_1, .string a1_2] 23 (0, 0)) (by (with_reducible repeat (first | refine blk_drewN ?_ _ | refine blk_drew ?_ | refine blk_alloc ?_ _)); exact BK246.out)) : gb267 ≠ gb246)); have n13_ := Aside0.mk ((by rw [hg]; exact Nat.ne_of_lt (blk_lt (g := gb252) (o := .cells #[.int .i64 t248, .int .i64 t249, .string t250] 23 (0, 0)) (by (with_reducible repeat (first | refine blk_drewN ?_ _ | refine blk_drew ?_ | refine blk_alloc ?_ _)); exact BK252.out)) : gb252 ≠ gb267)); have n14_ := Aside0.mk ((by rw [hg]; exact Nat.ne_of_gt (blk_lt (g := gb252) (o := .cells #[.int .i64 t248, .int .i64 t249, .string t250] 23 (0, 0)) (by (with_reducible repeat (first | refine blk_drewN ?_ _ | refine blk_drew ?_ | refine blk_alloc ?_ _)); exact BK252.out)) : gb267 ≠ gb252)); have n15_ := Aside0.mk ((by rw [hg]; exact Nat.ne_of_lt (blk_lt (g := gb257) (o := .cells #[.int .i64 t253, .int .i64 t254, .string t255] 23 (0, 0)) (by (with_reducible repeat (first | refine blk_drewN ?_ _ | refine blk_drew ?_ | refine blk_alloc ?_ _)); exact BK257.out)) : gb257 ≠ gb267)); have n16_ := Aside0.mk ((by rw [hg]; exact Nat.ne_of_gt (blk_lt (g := gb257) (o := .cells #[.int .i64 t253, .int .i64 t254, .string t255] 23 (0, 0)) (by (with_reducible repeat (first | refine blk_drewN ?_ _ | refine blk_drew ?_ | refine blk_alloc ?_ _)); exact BK257.out)) : gb267 ≠ gb257)); have n17_ := Aside0.mk ((by rw [hg]; exact Nat.ne_of_lt (blk_lt (g := gb262) (o := .cells #[.int .i64 t258, .int .i64 t259, .string t260] 23 (0, 0)) (by (with_reducible repeat (first | refine blk_drewN ?_ _ | refine blk_drew ?_ | refine blk_alloc ?_ _)); exact BK262.out)) : gb262 ≠ gb267)); have n18_ := Aside0.mk ((by rw [hg]; exact Nat.ne_of_gt (blk_lt (g := gb262) (o := .cells #[.int .i64 t258, .int .i64 t259, .string t260] 23 (0, 0)) (by (with_reducible repeat (first | refine blk_drewN ?_ _ | refine blk_drew ?_ | refine blk_alloc ?_ _)); exact BK262.out)) : gb267 ≠ gb262)); clear BK245; clear BK246; clear BK252; clear BK257; clear BK262; clear HB; have BK245 := n0_; have BK246 := n1_; have BK252 := n2_; have BK257 := n3_; have BK262 := n4_; have HB := n5_; have BK267 := n6_; have GW267 := n7_; have GE267 := n8_; have NB245_267 := n9_; have NB267_245 := n10_; have NB246_267 := n11_; have NB267_246 := n12_; have NB252_267 := n13_; have NB267_252 := n14_; have NB257_267 := n15_; have NB267_257 := n16_; have NB262_267 := n17_; have NB267_262 := n18_; clear n0_ n1_ n2_ n3_ n4_ n5_ n6_ n7_ n8_ n9_ n10_ n11_ n12_ n13_ n14_ n15_ n16_ n17_ n18_; clear hb hbox hg; have hnb43 := NB267_245.out; have hnc43 := NB245_267.out; have hnb44 := NB267_246.out; have hnc44 := NB246_267.out; have hnb45 := NB267_252.out; have hnc45 := NB252_267.out; have hnb46 := NB267_257.out; have hnc46 := NB257_267.out; have hnb47 := NB267_262.out; have hnc47 := NB262_267.out; have hcz48_0 : w42.cell? ⟨gb267, 0, none⟩ = some (.int .i64 0) := (blk_cell BK267.out 0).trans rfl; have hcz48_1 : w42.cell? ⟨gb267, 1, none⟩ = some (.int .i64 0) := (blk_cell BK267.out 1).trans rfl; have hcz48_2 : w42.cell? ⟨gb267, 2, none⟩ = some (.string (⟨#[]⟩ : ByteArray)) := (blk_cell BK267.out 2).trans rfl; have hfz48_0 := blk_frozen BK267.out 0; have hfz48_1 := blk_frozen BK267.out 1; have hfz48_2 := blk_frozen BK267.out 2; have hcz49_0 : w42.cell? ⟨gb245, 0, none⟩ = some (.int .i64 a0_0) := (blk_cell BK245.out 0).trans rfl; have hcz49_1 : w42.cell? ⟨gb245, 1, none⟩ = some (.int .i64 a0_1) := (blk_cell BK245.out 1).trans rfl; have hcz49_2 : w42.cell? ⟨gb245, 2, none⟩ = some (.string a0_2) := (blk_cell BK245.out 2).trans rfl; have hfz49_0 := blk_frozen BK245.out 0; have hfz49_1 := blk_frozen BK245.out 1; have hfz49_2 := blk_frozen BK245.out 2; have hcz50_0 : w42.cell? ⟨gb246, 0, none⟩ = some (.int .i64 a1_0) := (blk_cell BK246.out 0).trans rfl; have hcz50_1 : w42.cell? ⟨gb246, 1, none⟩ = some (.int .i64 a1_1) := (blk_cell BK246.out 1).trans rfl; have hcz50_2 : w42.cell? ⟨gb246, 2, none⟩ = some (.string a1_2) := (blk_cell BK246.out 2).trans rfl; have hfz50_0 := blk_frozen BK246.out 0; have hfz50_1 := blk_frozen BK246.out 1; have hfz50_2 := blk_frozen BK246.out 2) | ((with_reducible refine gate_callee (f := 17) rfl ?_); refine goesL_ (some 46) rfl rfl Try.func17 (by kernel_rfl) rfl #[.int .i64 14, .agg #[.int .i64 a0_0, .int .i64 a0_1, .string a0_2], .agg #[.int .i64 a1_0, .int .i64 a1_1, .string a1_2]] rfl (by (try simp only [List.map_toArray, List.map_cons, List.map_nil]); first | done | rfl | (simp only [List.length_drop, List.length_take]; rfl)) ?_; (with_reducible refine (value_Test.calls k 14 a0_0 a0_1 a0_2 a1_0 a1_1 a1_2 t268 t269 t270 t271 _ A8.out).mono ?_); rintro e w51 ⟨rfl, hb⟩; refine ⟨_, rfl, ?_⟩; have n0_ := Aside0.mk (blk_below (g := gb245) (o := .cells #[.int .i64 a0_0, .int .i64 a0_1, .string a0_2] 23 (0, 0)) (by (with_reducible repeat (first | refine blk_drewN ?_ _ | refine blk_drew ?_ | refine blk_alloc ?_ _)); refine blk_far ?_ NB245_267.out _; (with_reducible repeat (first | refine blk_drewN ?_ _ | refine blk_drew ?_ | refine blk_alloc ?_ _)); refine blk_far ?_ NB245_267.out _; (with_reducible repeat (first | refine blk_drewN ?_ _ | refine blk_drew ?_ | refine blk_alloc ?_ _)); refine blk_far ?_ NB245_267.out _; (with_reducible repeat (first | refine blk_drewN ?_ _ | refine blk_drew ?_ | refine blk_alloc ?_ _)); exact BK245.out) hb); have n1_ := Aside0.mk (blk_below (g := gb246) (o := .cells #[.int .i64 a1_0, .int .i64 a1_1, .string a1_2] 23 (0, 0)) (by (with_reducible repeat (first | refine blk_drewN ?_ _ | refine blk_drew ?_ | refine blk_alloc ?_ _)); refine blk_far ?_ NB246_267.out _; (with_reducible repeat (first | refine blk_drewN ?_ _ | refine blk_drew ?_ | refine blk_alloc ?_ _)); refine blk_far ?_ NB246_267.out _; (with_reducible repeat (first | refine blk_drewN ?_ _ | refine blk_drew ?_ | refine blk_alloc ?_ _)); refine blk_far ?_ NB246_267.out _; (with_reducible repeat (first | refine blk_drewN ?_ _ | refine blk_drew ?_ | refine blk_alloc ?_ _)); exact BK246.out) hb); have n2_ := Aside0.mk (blk_below (g := gb252) (o := .cells #[.int .i64 t248, .int .i64 t249, .string t250] 23 (0, 0)) (by (with_reducible repeat (first | refine blk_drewN ?_ _ | refine blk_drew ?_ | refine blk_alloc ?_ _)); refine blk_far ?_ NB252_267.out _; (with_reducible repeat (first | refine blk_drewN ?_ _ | refine blk_drew ?_ | refine blk_alloc ?_ _)); refine blk_far ?_ NB252_267.out _; (with_reducible repeat (first | refine blk_drewN ?_ _ | refine blk_drew ?_ | refine blk_alloc ?_ _)); refine blk_far ?_ NB252_267.out _; (with_reducible repeat (first | refine blk_drewN ?_ _ | refine blk_drew ?_ | refine blk_alloc ?_ _)); exact BK252.out) hb); have n3_ := Aside0.mk (blk_below (g := gb257) (o := .cells #[.int .i64 t253, .int .i64 t254, .string t255] 23 (0, 0)) (by (with_reducible repeat (first | refine blk_drewN ?_ _ | refine blk_drew ?_ | refine blk_alloc ?_ _)); refine blk_far ?_ NB257_267.out _; (with_reducible repeat (first | refine blk_drewN ?_ _ | refine blk_drew ?_ | refine blk_alloc ?_ _)); refine blk_far ?_ NB257_267.out _; (with_reducible repeat (first | refine blk_drewN ?_ _ | refine blk_drew ?_ | refine blk_alloc ?_ _)); refine blk_far ?_ NB257_267.out _; (with_reducible repeat (first | refine blk_drewN ?_ _ | refine blk_drew ?_ | refine blk_alloc ?_ _)); exact BK257.out) hb); have n4_ := Aside0.mk (blk_below (g := gb262) (o := .cells #[.int .i64 t258, .int .i64 t259, .string t260] 23 (0, 0)) (by (with_reducible repeat (first | refine blk_drewN ?_ _ | refine blk_drew ?_ | refine blk_alloc ?_ _)); refine blk_far ?_ NB262_267.out _; (with_reducible repeat (first | refine blk_drewN ?_ _ | refine blk_drew ?_ | refine blk_alloc ?_ _)); refine blk_far ?_ NB262_267.out _; (with_reducible repeat (first | refine blk_drewN ?_ _ | refine blk_drew ?_ | refine blk_alloc ?_ _)); refine blk_far ?_ NB262_267.out _; (with_reducible repeat (first | refine blk_drewN ?_ _ | refine blk_drew ?_ | refine blk_alloc ?_ _)); exact BK262.out) hb); have n5_ := Aside0.mk (blk_below (g := gb267) (o := .cells #[.int .i64 t263, .int .i64 t264, .string t265] 23 (0, 0)) (by (with_reducible repeat (first | refine blk_drewN ?_ _ | refine blk_drew ?_ | refine blk_alloc ?_ _)); refine blk_put (cs := #[.int .i64 t263, .int .i64 t264, .string (⟨#[]⟩ : ByteArray)]) ?_ 2 _ rfl; (with_reducible repeat (first | refine blk_drewN ?_ _ | refine blk_drew ?_ | refine blk_alloc ?_ _)); refine blk_put (cs := #[.int .i64 t263, .int .i64 0, .string (⟨#[]⟩ : ByteArray)]) ?_ 1 _ rfl; (with_reducible repeat (first | refine blk_drewN ?_ _ | refine blk_drew ?_ | refine blk_alloc ?_ _)); refine blk_put (cs := #[.int .i64 0, .int .i64 0, .string (⟨#[]⟩ : ByteArray)]) ?_ 0 _ rfl; (with_reducible repeat (first | refine blk_drewN ?_ _ | refine blk_drew ?_ | refine blk_alloc ?_ _)); exact BK267.out) hb); have n6_ := Aside0.mk (below_step (by repeat (first | (with_reducible first | exact HB.out | apply below_alloc | apply pw_below_drewN | apply below_drew1 | refine below_set ?_ GE245.out | refine below_set ?_ GE246.out | refine below_set ?_ GE252.out | refine below_set ?_ GE257.out | refine below_set ?_ GE262.out | refine below_set ?_ GE267.out) | exact HB.out)) hb); clear BK245; clear BK246; clear BK252; clear BK257; clear BK262; clear BK267; clear HB; have BK245 := n0_; have BK246 := n1_; have BK252 := n2_; have BK257 := n3_; have BK262 := n4_; have BK267 := n5_; have HB := n6_; clear n0_ n1_ n2_ n3_ n4_ n5_ n6_; (try clear hb); (try clear hb2); (try clear hk); (try clear hi)) | ((with_reducible refine gate_dst (N := 14) rfl ?_); refine box_event ?hg (N := 14) ?hd (cs := #[.int .i64 0, .int .i64 0, .string (⟨#[]⟩ : ByteArray)]) (t := 23) ?hr ?_; (case hd => rfl); (case hg => rfl); (case hr => first | (go_simp; done) | (go_simp; rfl)); intro gb272 hg w52 hbox hb; have n0_ := Aside0.mk (blk_below (g := gb245) (o := .cells #[.int .i64 a0_0, .int .i64 a0_1, .string a0_2] 23 (0, 0)) (by (with_reducible repeat (first | refine blk_drewN ?_ _ | refine blk_drew ?_ | refine blk_alloc ?_ _)); exact BK245.out) hb); have n1_ := Aside0.mk (blk_below (g := gb246) (o := .cells #[.int .i64 a1_0, .int .i64 a1_1, .string a1_2] 23 (0, 0)) (by (with_reducible repeat (first | refine blk_drewN ?_ _ | refine blk_drew ?_ | refine blk_alloc ?_ _)); exact BK246.out) hb); have n2_ := Aside0.mk (blk_below (g := gb252) (o := .cells #[.int .i64 t248, .int .i64 t249, .string t250] 23 (0, 0)) (by (with_reducible repeat (first | refine blk_drewN ?_ _ | refine blk_drew ?_ | refine blk_alloc ?_ _)); exact BK252.out) hb); have n3_ := Aside0.mk (blk_below (g := gb257) (o := .cells #[.int .i64 t253, .int .i64 t254, .string t255] 23 (0, 0)) (by (with_reducible repeat (first | refine blk_drewN ?_ _ | refine blk_drew ?_ | refine blk_alloc ?_ _)); exact BK257.out) hb); have n4_ := Aside0.mk (blk_below (g := gb262) (o := .cells #[.int .i64 t258, .int .i64 t259, .string t260] 23 (0, 0)) (by (with_reducible repeat (first | refine blk_drewN ?_ _ | refine blk_drew ?_ | refine blk_alloc ?_ _)); exact BK262.out) hb); have n5_ := Aside0.mk (blk_below (g := gb267) (o := .cells #[.int .i64 t263, .int .i64 t264, .string t265] 23 (0, 0)) (by (with_reducible repeat (first | refine blk_drewN ?_ _ | refine blk_drew ?_ | refine blk_alloc ?_ _)); exact BK267.out) hb); have n6_ := Aside0.mk (below_step (by repeat (first | (with_reducible first | exact HB.out | apply below_alloc | apply pw_below_drewN | apply below_drew1 | refine below_set ?_ GE245.out | refine below_set ?_ GE246.out | refine below_set ?_ GE252.out | refine below_set ?_ GE257.out | refine below_set ?_ GE262.out | refine below_set ?_ GE267.out) | exact HB.out)) hb); have n7_ := Aside0.mk (hbox); have n8_ := Aside0.mk ((by rw [hg]; exact (below_size (by repeat (first | (with_reducible first | exact HB.out | apply below_alloc | apply pw_below_drewN | apply below_drew1 | refine below_set ?_ GE245.out | refine below_set ?_ GE246.out | refine below_set ?_ GE252.out | refine below_set ?_ GE257.out | refine below_set ?_ GE262.out | refine below_set ?_ GE267.out) | exact HB.out))) : w.heap.size ≤ gb272)); have n9_ := Aside0.mk ((by rw [hg]; exact (below_size (by repeat (first | (with_reducible first | exact HB.out | apply below_alloc | apply pw_below_drewN | apply below_drew1 | refine below_set ?_ GE245.out | refine below_set ?_ GE246.out | refine below_set ?_ GE252.out | refine below_set ?_ GE257.out | refine below_set ?_ GE262.out | refine below_set ?_ GE267.out) | exact HB.out))) : w.heap.size ≤ gb272)); have n10_ := Aside0.mk ((by rw [hg]; exact Nat.ne_of_lt (blk_lt (g := gb245) (o := .cells #[.int .i64 a0_0, .int .i64 a0_1, .string a0_2] 23 (0, 0)) (by (with_reducible repeat (first | refine blk_drewN ?_ _ | refine blk_drew ?_ | refine blk_alloc ?_ _)); exact BK245.out)) : gb245 ≠ gb272)); have n11_ := Aside0.mk ((by rw [hg]; exact Nat.ne_of_gt (blk_lt (g := gb245) (o := .cells #[.int .i64 a0_0, .int .i64 a0_1, .string a0_2] 23 (0, 0)) (by (with_reducible repeat (first | refine blk_drewN ?_ _ | refine blk_drew ?_ | refine blk_alloc ?_ _)); exact BK245.out)) : gb272 ≠ gb245)); have n12_ := Aside0.mk ((by rw [hg]; exact Nat.ne_of_lt (blk_lt (g := gb246) (o := .cells #[.int .i64 a1_0, .int .i64 a1_1, .string a1_2] 23 (0, 0)) (by (with_reducible repeat (first | refine blk_drewN ?_ _ | refine blk_drew ?_ | refine blk_alloc ?_ _)); exact BK246.out)) : gb246 ≠ gb272)); have n13_ := Aside0.mk ((by rw [hg]; exact Nat.ne_of_gt (blk_lt (g := gb246) (o := .cells #[.int .i64 a1_0, .int .i64 a1_1, .string a1_2] 23 (0, 0)) (by (with_reducible repeat (first | refine blk_drewN ?_ _ | refine blk_drew ?_ | refine blk_alloc ?_ _)); exact BK246.out)) : gb272 ≠ gb246)); have n14_ := Aside0.mk ((by rw [hg]; exact Nat.ne_of_lt (blk_lt (g := gb252) (o := .cells #[.int .i64 t248, .int .i64 t249, .string t250] 23 (0, 0)) (by (with_reducible repeat (first | refine blk_drewN ?_ _ | refine blk_drew ?_ | refine blk_alloc ?_ _)); exact BK252.out)) : gb252 ≠ gb272)); have n15_ := Aside0.mk ((by rw [hg]; exact Nat.ne_of_gt (blk_lt (g := gb252) (o := .cells #[.int .i64 t248, .int .i64 t249, .string t250] 23 (0, 0)) (by (with_reducible repeat (first | refine blk_drewN ?_ _ | refine blk_drew ?_ | refine blk_alloc ?_ _)); exact BK252.out)) : gb272 ≠ gb252)); have n16_ := Aside0.mk ((by rw [hg]; exact Nat.ne_of_lt (blk_lt (g := gb257) (o := .cells #[.int .i64 t253, .int .i64 t254, .string t255] 23 (0, 0)) (by (with_reducible repeat (first | refine blk_drewN ?_ _ | refine blk_drew ?_ | refine blk_alloc ?_ _)); exact BK257.out)) : gb257 ≠ gb272)); have n17_ := Aside0.mk ((by rw [hg]; exact Nat.ne_of_gt (blk_lt (g := gb257) (o := .cells #[.int .i64 t253, .int .i64 t254, .string t255] 23 (0, 0)) (by (with_reducible repeat (first | refine blk_drewN ?_ _ | refine blk_drew ?_ | refine blk_alloc ?_ _)); exact BK257.out)) : gb272 ≠ gb257)); have n18_ := Aside0.mk ((by rw [hg]; exact Nat.ne_of_lt (blk_lt (g := gb262) (o := .cells #[.int .i64 t258, .int .i64 t259, .string t260] 23 (0, 0)) (by (with_reducible repeat (first | refine blk_drewN ?_ _ | refine blk_drew ?_ | refine blk_alloc ?_ _)); exact BK262.out)) : gb262 ≠ gb272)); have n19_ := Aside0.mk ((by rw [hg]; exact Nat.ne_of_gt (blk_lt (g := gb262) (o := .cells #[.int .i64 t258, .int .i64 t259, .string t260] 23 (0, 0)) (by (with_reducible repeat (first | refine blk_drewN ?_ _ | refine blk_drew ?_ | refine blk_alloc ?_ _)); exact BK262.out)) : gb272 ≠ gb262)); have n20_ := Aside0.mk ((by rw [hg]; exact Nat.ne_of_lt (blk_lt (g := gb267) (o := .cells #[.int .i64 t263, .int .i64 t264, .string t265] 23 (0, 0)) (by (with_reducible repeat (first | refine blk_drewN ?_ _ | refine blk_drew ?_ | refine blk_alloc ?_ _)); exact BK267.out)) : gb267 ≠ gb272)); have n21_ := Aside0.mk ((by rw [hg]; exact Nat.ne_of_gt (blk_lt (g := gb267) (o := .cells #[.int .i64 t263, .int .i64 t264, .string t265] 23 (0, 0)) (by (with_reducible repeat (first | refine blk_drewN ?_ _ | refine blk_drew ?_ | refine blk_alloc ?_ _)); exact BK267.out)) : gb272 ≠ gb267)); clear BK245; clear BK246; clear BK252; clear BK257; clear BK262; clear BK267; clear HB; have BK245 := n0_; have BK246 := n1_; have BK252 := n2_; have BK257 := n3_; have BK262 := n4_; have BK267 := n5_; have HB := n6_; have BK272 := n7_; have GW272 := n8_; have GE272 := n9_; have NB245_272 := n10_; have NB272_245 := n11_; have NB246_272 := n12_; have NB272_246 := n13_; have NB252_272 := n14_; have NB272_252 := n15_; have NB257_272 := n16_; have NB272_257 := n17_; have NB262_272 := n18_; have NB272_262 := n19_; have NB267_272 := n20_; have NB272_267 := n21_; clear n0_ n1_ n2_ n3_ n4_ n5_ n6_ n7_ n8_ n9_ n10_ n11_ n12_ n13_ n14_ n15_ n16_ n17_ n18_ n19_ n20_ n21_; clear hb hbox hg; have hnb53 := NB272_245.out; have hnc53 := NB245_272.out; have hnb54 := NB272_246.out; have hnc54 := NB246_272.out; have hnb55 := NB272_252.out; have hnc55 := NB252_272.out; have hnb56 := NB272_257.out; have hnc56 := NB257_272.out; have hnb57 := NB272_262.out; have hnc57 := NB262_272.out; have hnb58 := NB272_267.out; have hnc58 := NB267_272.out; have hcz59_0 : w52.cell? ⟨gb272, 0, none⟩ = some (.int .i64 0) := (blk_cell BK272.out 0).trans rfl; have hcz59_1 : w52.cell? ⟨gb272, 1, none⟩ = some (.int .i64 0) := (blk_cell BK272.out 1).trans rfl; have hcz59_2 : w52.cell? ⟨gb272, 2, none⟩ = some (.string (⟨#[]⟩ : ByteArray)) := (blk_cell BK272.out 2).trans rfl; have hfz59_0 := blk_frozen BK272.out 0; have hfz59_1 := blk_frozen BK272.out 1; have hfz59_2 := blk_frozen BK272.out 2; have hcz60_0 : w52.cell? ⟨gb245, 0, none⟩ = some (.int .i64 a0_0) := (blk_cell BK245.out 0).trans rfl; have hcz60_1 : w52.cell? ⟨gb245, 1, none⟩ = some (.int .i64 a0_1) := (blk_cell BK245.out 1).trans rfl; have hcz60_2 : w52.cell? ⟨gb245, 2, none⟩ = some (.string a0_2) := (blk_cell BK245.out 2).trans rfl; have hfz60_0 := blk_frozen BK245.out 0; have hfz60_1 := blk_frozen BK245.out 1; have hfz60_2 := blk_frozen BK245.out 2; have hcz61_0 : w52.cell? ⟨gb246, 0, none⟩ = some (.int .i64 a1_0) := (blk_cell BK246.out 0).trans rfl; have hcz61_1 : w52.cell? ⟨gb246, 1, none⟩ = some (.int .i64 a1_1) := (blk_cell BK246.out 1).trans rfl; have hcz61_2 : w52.cell? ⟨gb246, 2, none⟩ = some (.string a1_2) := (blk_cell BK246.out 2).trans rfl; have hfz61_0 := blk_frozen BK246.out 0; have hfz61_1 := blk_frozen BK246.out 1; have hfz61_2 := blk_frozen BK246.out 2) | ((with_reducible refine gate_callee (f := 17) rfl ?_); refine goesL_ (some 52) rfl rfl Try.func17 (by kernel_rfl) rfl #[.int .i64 10, .agg #[.int .i64 a0_0, .int .i64 a0_1, .string a0_2], .agg #[.int .i64 a1_0, .int .i64 a1_1, .string a1_2]] rfl (by (try simp only [List.map_toArray, List.map_cons, List.map_nil]); first | done | rfl | (simp only [List.length_drop, List.length_take]; rfl)) ?_; (with_reducible refine (value_Test.calls k 10 a0_0 a0_1 a0_2 a1_0 a1_1 a1_2 t273 t274 t275 t276 _ A9.out).mono ?_); rintro e w62 ⟨rfl, hb⟩; refine ⟨_, rfl, ?_⟩; have n0_ := Aside0.mk (blk_below (g := gb245) (o := .cells #[.int .i64 a0_0, .int .i64 a0_1, .string a0_2] 23 (0, 0)) (by (with_reducible repeat (first | refine blk_drewN ?_ _ | refine blk_drew ?_ | refine blk_alloc ?_ _)); refine blk_far ?_ NB245_272.out _; (with_reducible repeat (first | refine blk_drewN ?_ _ | refine blk_drew ?_ | refine blk_alloc ?_ _)); refine blk_far ?_ NB245_272.out _; (with_reducible repeat (first | refine blk_drewN ?_ _ | refine blk_drew ?_ | refine blk_alloc ?_ _)); refine blk_far ?_ NB245_272.out _; (with_reducible repeat (first | refine blk_drewN ?_ _ | refine blk_drew ?_ | refine blk_alloc ?_ _)); exact BK245.out) hb); have n1_ := Aside0.mk (blk_below (g := gb246) (o := .cells #[.int .i64 a1_0, .int .i64 a1_1, .string a1_2] 23 (0, 0)) (by (with_reducible repeat (first | refine blk_drewN ?_ _ | refine blk_drew ?_ | refine blk_alloc ?_ _)); refine blk_far ?_ NB246_272.out _; (with_reducible repeat (first | refine blk_drewN ?_ _ | refine blk_drew ?_ | refine blk_alloc ?_ _)); refine blk_far ?_ NB246_272.out _; (with_reducible repeat (first | refine blk_drewN ?_ _ | refine blk_drew ?_ | refine blk_alloc ?_ _)); refine blk_far ?_ NB246_272.out _; (with_reducible repeat (first | refine blk_drewN ?_ _ | refine blk_drew ?_ | refine blk_alloc ?_ _)); exact BK246.out) hb); have n2_ := Aside0.mk (blk_below (g := gb252) (o := .cells #[.int .i64 t248, .int .i64 t249, .string t250] 23 (0, 0)) (by (with_reducible repeat (first | refine blk_drewN ?_ _ | refine blk_drew ?_ | refine blk_alloc ?_ _)); refine blk_far ?_ NB252_272.out _; (with_reducible repeat (first | refine blk_drewN ?_ _ | refine blk_drew ?_ | refine blk_alloc ?_ _)); refine blk_far ?_ NB252_272.out _; (with_reducible repeat (first | refine blk_drewN ?_ _ | refine blk_drew ?_ | refine blk_alloc ?_ _)); refine blk_far ?_ NB252_272.out _; (with_reducible repeat (first | refine blk_drewN ?_ _ | refine blk_drew ?_ | refine blk_alloc ?_ _)); exact BK252.out) hb); have n3_ := Aside0.mk (blk_below (g := gb257) (o := .cells #[.int .i64 t253, .int .i64 t254, .string t255] 23 (0, 0)) (by (with_reducible repeat (first | refine blk_drewN ?_ _ | refine blk_drew ?_ | refine blk_alloc ?_ _)); refine blk_far ?_ NB257_272.out _; (with_reducible repeat (first | refine blk_drewN ?_ _ | refine blk_drew ?_ | refine blk_alloc ?_ _)); refine blk_far ?_ NB257_272.out _; (with_reducible repeat (first | refine blk_drewN ?_ _ | refine blk_drew ?_ | refine blk_alloc ?_ _)); refine blk_far ?_ NB257_272.out _; (with_reducible repeat (first | refine blk_drewN ?_ _ | refine blk_drew ?_ | refine blk_alloc ?_ _)); exact BK257.out) hb); have n4_ := Aside0.mk (blk_below (g := gb262) (o := .cells #[.int .i64 t258, .int .i64 t259, .string t260] 23 (0, 0)) (by (with_reducible repeat (first | refine blk_drewN ?_ _ | refine blk_drew ?_ | refine blk_alloc ?_ _)); refine blk_far ?_ NB262_272.out _; (with_reducible repeat (first | refine blk_drewN ?_ _ | refine blk_drew ?_ | refine blk_alloc ?_ _)); refine blk_far ?_ NB262_272.out _; (with_reducible repeat (first | refine blk_drewN ?_ _ | refine blk_drew ?_ | refine blk_alloc ?_ _)); refine blk_far ?_ NB262_272.out _; (with_reducible repeat (first | refine blk_drewN ?_ _ | refine blk_drew ?_ | refine blk_alloc ?_ _)); exact BK262.out) hb); have n5_ := Aside0.mk (blk_below (g := gb267) (o := .cells #[.int .i64 t263, .int .i64 t264, .string t265] 23 (0, 0)) (by (with_reducible repeat (first | refine blk_drewN ?_ _ | refine blk_drew ?_ | refine blk_alloc ?_ _)); refine blk_far ?_ NB267_272.out _; (with_reducible repeat (first | refine blk_drewN ?_ _ | refine blk_drew ?_ | refine blk_alloc ?_ _)); refine blk_far ?_ NB267_272.out _; (with_reducible repeat (first | refine blk_drewN ?_ _ | refine blk_drew ?_ | refine blk_alloc ?_ _)); refine blk_far ?_ NB267_272.out _; (with_reducible repeat (first | refine blk_drewN ?_ _ | refine blk_drew ?_ | refine blk_alloc ?_ _)); exact BK267.out) hb); have n6_ := Aside0.mk (blk_below (g := gb272) (o := .cells #[.int .i64 t268, .int .i64 t269, .string t270] 23 (0, 0)) (by (with_reducible repeat (first | refine blk_drewN ?_ _ | refine blk_drew ?_ | refine blk_alloc ?_ _)); refine blk_put (cs := #[.int .i64 t268, .int .i64 t269, .string (⟨#[]⟩ : ByteArray)]) ?_ 2 _ rfl; (with_reducible repeat (first | refine blk_drewN ?_ _ | refine blk_drew ?_ | refine blk_alloc ?_ _)); refine blk_put (cs := #[.int .i64 t268, .int .i64 0, .string (⟨#[]⟩ : ByteArray)]) ?_ 1 _ rfl; (with_reducible repeat (first | refine blk_drewN ?_ _ | refine blk_drew ?_ | refine blk_alloc ?_ _)); refine blk_put (cs := #[.int .i64 0, .int .i64 0, .string (⟨#[]⟩ : ByteArray)]) ?_ 0 _ rfl; (with_reducible repeat (first | refine blk_drewN ?_ _ | refine blk_drew ?_ | refine blk_alloc ?_ _)); exact BK272.out) hb); have n7_ := Aside0.mk (below_step (by repeat (first | (with_reducible first | exact HB.out | apply below_alloc | apply pw_below_drewN | apply below_drew1 | refine below_set ?_ GE245.out | refine below_set ?_ GE246.out | refine below_set ?_ GE252.out | refine below_set ?_ GE257.out | refine below_set ?_ GE262.out | refine below_set ?_ GE267.out | refine below_set ?_ GE272.out) | exact HB.out)) hb); clear BK245; clear BK246; clear BK252; clear BK257; clear BK262; clear BK267; clear BK272; clear HB; have BK245 := n0_; have BK246 := n1_; have BK252 := n2_; have BK257 := n3_; have BK262 := n4_; have BK267 := n5_; have BK272 := n6_; have HB := n7_; clear n0_ n1_ n2_ n3_ n4_ n5_ n6_ n7_; (try clear hb); (try clear hb2); (try clear hk); (try clear hi)) | ((with_reducible refine gate_dst (N := 16) rfl ?_); refine box_event ?hg (N := 16) ?hd (cs := #[.int .i64 0, .int .i64 0, .string (⟨#[]⟩ : ByteArray)]) (t := 23) ?hr ?_; (case hd => rfl); (case hg => rfl); (case hr => first | (go_simp; done) | (go_simp; rfl)); intro gb277 hg w63 hbox hb; have n0_ := Aside0.mk (blk_below (g := gb245) (o := .cells #[.int .i64 a0_0, .int .i64 a0_1, .string a0_2] 23 (0, 0)) (by (with_reducible repeat (first | refine blk_drewN ?_ _ | refine blk_drew ?_ | refine blk_alloc ?_ _)); exact BK245.out) hb); have n1_ := Aside0.mk (blk_below (g := gb246) (o := .cells #[.int .i64 a1_0, .int .i64 a1_1, .string a1_2] 23 (0, 0)) (by (with_reducible repeat (first | refine blk_drewN ?_ _ | refine blk_drew ?_ | refine blk_alloc ?_ _)); exact BK246.out) hb); have n2_ := Aside0.mk (blk_below (g := gb252) (o := .cells #[.int .i64 t248, .int .i64 t249, .string t250] 23 (0, 0)) (by (with_reducible repeat (first | refine blk_drewN ?_ _ | refine blk_drew ?_ | refine blk_alloc ?_ _)); exact BK252.out) hb); have n3_ := Aside0.mk (blk_below (g := gb257) (o := .cells #[.int .i64 t253, .int .i64 t254, .string t255] 23 (0, 0)) (by (with_reducible repeat (first | refine blk_drewN ?_ _ | refine blk_drew ?_ | refine blk_alloc ?_ _)); exact BK257.out) hb); have n4_ := Aside0.mk (blk_below (g := gb262) (o := .cells #[.int .i64 t258, .int .i64 t259, .string t260] 23 (0, 0)) (by (with_reducible repeat (first | refine blk_drewN ?_ _ | refine blk_drew ?_ | refine blk_alloc ?_ _)); exact BK262.out) hb); have n5_ := Aside0.mk (blk_below (g := gb267) (o := .cells #[.int .i64 t263, .int .i64 t264, .string t265] 23 (0, 0)) (by (with_reducible repeat (first | refine blk_drewN ?_ _ | refine blk_drew ?_ | refine blk_alloc ?_ _)); exact BK267.out) hb); have n6_ := Aside0.mk (blk_below (g := gb272) (o := .cells #[.int .i64 t268, .int .i64 t269, .string t270] 23 (0, 0)) (by (with_reducible repeat (first | refine blk_drewN ?_ _ | refine blk_drew ?_ | refine blk_alloc ?_ _)); exact BK272.out) hb); have n7_ := Aside0.mk (below_step (by repeat (first | (with_reducible first | exact HB.out | apply below_alloc | apply pw_below_drewN | apply below_drew1 | refine below_set ?_ GE245.out | refine below_set ?_ GE246.out | refine below_set ?_ GE252.out | refine below_set ?_ GE257.out | refine below_set ?_ GE262.out | refine below_set ?_ GE267.out | refine below_set ?_ GE272.out) | exact HB.out)) hb); have n8_ := Aside0.mk (hbox); have n9_ := Aside0.mk ((by rw [hg]; exact (below_size (by repeat (first | (with_reducible first | exact HB.out | apply below_alloc | apply pw_below_drewN | apply below_drew1 | refine below_set ?_ GE245.out | refine below_set ?_ GE246.out | refine below_set ?_ GE252.out | refine below_set ?_ GE257.out | refine below_set ?_ GE262.out | refine below_set ?_ GE267.out | refine below_set ?_ GE272.out) | exact HB.out))) : w.heap.size ≤ gb277)); have n10_ := Aside0.mk ((by rw [hg]; exact (below_size (by repeat (first | (with_reducible first | exact HB.out | apply below_alloc | apply pw_below_drewN | apply below_drew1 | refine below_set ?_ GE245.out | refine below_set ?_ GE246.out | refine below_set ?_ GE252.out | refine below_set ?_ GE257.out | refine below_set ?_ GE262.out | refine below_set ?_ GE267.out | refine below_set ?_ GE272.out) | exact HB.out))) : w.heap.size ≤ gb277)); have n11_ := Aside0.mk ((by rw [hg]; exact Nat.ne_of_lt (blk_lt (g := gb245) (o := .cells #[.int .i64 a0_0, .int .i64 a0_1, .string a0_2] 23 (0, 0)) (by (with_reducible repeat (first | refine blk_drewN ?_ _ | refine blk_drew ?_ | refine blk_alloc ?_ _)); exact BK245.out)) : gb245 ≠ gb277)); have n12_ := Aside0.mk ((by rw [hg]; exact Nat.ne_of_gt (blk_lt (g := gb245) (o := .cells #[.int .i64 a0_0, .int .i64 a0_1, .string a0_2] 23 (0, 0)) (by (with_reducible repeat (first | refine blk_drewN ?_ _ | refine blk_drew ?_ | refine blk_alloc ?_ _)); exact BK245.out)) : gb277 ≠ gb245)); have n13_ := Aside0.mk ((by rw [hg]; exact Nat.ne_of_lt (blk_lt (g := gb246) (o := .cells #[.int .i64 a1_0, .int .i64 a1_1, .string a1_2] 23 (0, 0)) (by (with_reducible repeat (first | refine blk_drewN ?_ _ | refine blk_drew ?_ | refine blk_alloc ?_ _)); exact BK246.out)) : gb246 ≠ gb277)); have n14_ := Aside0.mk ((by rw [hg]; exact Nat.ne_of_gt (blk_lt (g := gb246) (o := .cells #[.int .i64 a1_0, .int .i64 a1_1, .string a1_2] 23 (0, 0)) (by (with_reducible repeat (first | refine blk_drewN ?_ _ | refine blk_drew ?_ | refine blk_alloc ?_ _)); exact BK246.out)) : gb277 ≠ gb246)); have n15_ := Aside0.mk ((by rw [hg]; exact Nat.ne_of_lt (blk_lt (g := gb252) (o := .cells #[.int .i64 t248, .int .i64 t249, .string t250] 23 (0, 0)) (by (with_reducible repeat (first | refine blk_drewN ?_ _ | refine blk_drew ?_ | refine blk_alloc ?_ _)); exact BK252.out)) : gb252 ≠ gb277)); have n16_ := Aside0.mk ((by rw [hg]; exact Nat.ne_of_gt (blk_lt (g := gb252) (o := .cells #[.int .i64 t248, .int .i64 t249, .string t250] 23 (0, 0)) (by (with_reducible repeat (first | refine blk_drewN ?_ _ | refine blk_drew ?_ | refine blk_alloc ?_ _)); exact BK252.out)) : gb277 ≠ gb252)); have n17_ := Aside0.mk ((by rw [hg]; exact Nat.ne_of_lt (blk_lt (g := gb257) (o := .cells #[.int .i64 t253, .int .i64 t254, .string t255] 23 (0, 0)) (by (with_reducible repeat (first | refine blk_drewN ?_ _ | refine blk_drew ?_ | refine blk_alloc ?_ _)); exact BK257.out)) : gb257 ≠ gb277)); have n18_ := Aside0.mk ((by rw [hg]; exact Nat.ne_of_gt (blk_lt (g := gb257) (o := .cells #[.int .i64 t253, .int .i64 t254, .string t255] 23 (0, 0)) (by (with_reducible repeat (first | refine blk_drewN ?_ _ | refine blk_drew ?_ | refine blk_alloc ?_ _)); exact BK257.out)) : gb277 ≠ gb257)); have n19_ := Aside0.mk ((by rw [hg]; exact Nat.ne_of_lt (blk_lt (g := gb262) (o := .cells #[.int .i64 t258, .int .i64 t259, .string t260] 23 (0, 0)) (by (with_reducible repeat (first | refine blk_drewN ?_ _ | refine blk_drew ?_ | refine blk_alloc ?_ _)); exact BK262.out)) : gb262 ≠ gb277)); have n20_ := Aside0.mk ((by rw [hg]; exact Nat.ne_of_gt (blk_lt (g := gb262) (o := .cells #[.int .i64 t258, .int .i64 t259, .string t260] 23 (0, 0)) (by (with_reducible repeat (first | refine blk_drewN ?_ _ | refine blk_drew ?_ | refine blk_alloc ?_ _)); exact BK262.out)) : gb277 ≠ gb262)); have n21_ := Aside0.mk ((by rw [hg]; exact Nat.ne_of_lt (blk_lt (g := gb267) (o := .cells #[.int .i64 t263, .int .i64 t264, .string t265] 23 (0, 0)) (by (with_reducible repeat (first | refine blk_drewN ?_ _ | refine blk_drew ?_ | refine blk_alloc ?_ _)); exact BK267.out)) : gb267 ≠ gb277)); have n22_ := Aside0.mk ((by rw [hg]; exact Nat.ne_of_gt (blk_lt (g := gb267) (o := .cells #[.int .i64 t263, .int .i64 t264, .string t265] 23 (0, 0)) (by (with_reducible repeat (first | refine blk_drewN ?_ _ | refine blk_drew ?_ | refine blk_alloc ?_ _)); exact BK267.out)) : gb277 ≠ gb267)); have n23_ := Aside0.mk ((by rw [hg]; exact Nat.ne_of_lt (blk_lt (g := gb272) (o := .cells #[.int .i64 t268, .int .i64 t269, .string t270] 23 (0, 0)) (by (with_reducible repeat (first | refine blk_drewN ?_ _ | refine blk_drew ?_ | refine blk_alloc ?_ _)); exact BK272.out)) : gb272 ≠ gb277)); have n24_ := Aside0.mk ((by rw [hg]; exact Nat.ne_of_gt (blk_lt (g := gb272) (o := .cells #[.int .i64 t268, .int .i64 t269, .string t270] 23 (0, 0)) (by (with_reducible repeat (first | refine blk_drewN ?_ _ | refine blk_drew ?_ | refine blk_alloc ?_ _)); exact BK272.out)) : gb277 ≠ gb272)); clear BK245; clear BK246; clear BK252; clear BK257; clear BK262; clear BK267; clear BK272; clear HB; have BK245 := n0_; have BK246 := n1_; have BK252 := n2_; have BK257 := n3_; have BK262 := n4_; have BK267 := n5_; have BK272 := n6_; have HB := n7_; have BK277 := n8_; have GW277 := n9_; have GE277 := n10_; have NB245_277 := n11_; have NB277_245 := n12_; have NB246_277 := n13_; have NB277_246 := n14_; have NB252_277 := n15_; have NB277_252 := n16_; have NB257_277 := n17_; have NB277_257 := n18_; have NB262_277 := n19_; have NB277_262 := n20_; have NB267_277 := n21_; have NB277_267 := n22_; have NB272_277 := n23_; have NB277_272 := n24_; clear n0_ n1_ n2_ n3_ n4_ n5_ n6_ n7_ n8_ n9_ n10_ n11_ n12_ n13_ n14_ n15_ n16_ n17_ n18_ n19_ n20_ n21_ n22_ n23_ n24_; clear hb hbox hg; have hnb64 := NB277_245.out; have hnc64 := NB245_277.out; have hnb65 := NB277_246.out; have hnc65 := NB246_277.out; have hnb66 := NB277_252.out; have hnc66 := NB252_277.out; have hnb67 := NB277_257.out; have hnc67 := NB257_277.out; have hnb68 := NB277_262.out; have hnc68 := NB262_277.out; have hnb69 := NB277_267.out; have hnc69 := NB267_277.out; have hnb70 := NB277_272.out; have hnc70 := NB272_277.out; have hcz71_0 : w63.cell? ⟨gb277, 0, none⟩ = some (.int .i64 0) := (blk_cell BK277.out 0).trans rfl; have hcz71_1 : w63.cell? ⟨gb277, 1, none⟩ = some (.int .i64 0) := (blk_cell BK277.out 1).trans rfl; have hcz71_2 : w63.cell? ⟨gb277, 2, none⟩ = some (.string (⟨#[]⟩ : ByteArray)) := (blk_cell BK277.out 2).trans rfl; have hfz71_0 := blk_frozen BK277.out 0; have hfz71_1 := blk_frozen BK277.out 1; have hfz71_2 := blk_frozen BK277.out 2))
  (try simp only [Act.put, List.setIfInBounds_toArray, List.set_cons_zero, List.set_cons_succ])
  go_cut [60] (fun v60 wc => ∃ (kq : Nat) (x60_9 : Bool), v60 = .bool x60_9 ∧ Aside0 (weathercocklaw01_ValueTests.j0 kq t247 t251 t256 x60_9 a0_0 a0_1 a0_2 a1_0 a1_1 a1_2 t248 t249 t250 t253 t254 t255 t258 t259 t260 t263 t264 t265 t268 t269 t270 t273 t274 t275 = some r) ∧ Aside0 (kq ≤ k) ∧ Aside0 (wc.heap[gb245]? = some (.cells #[.int .i64 a0_0, .int .i64 a0_1, .string a0_2] 23 (0, 0))) ∧ Aside0 (wc.heap[gb246]? = some (.cells #[.int .i64 a1_0, .int .i64 a1_1, .string a1_2] 23 (0, 0))) ∧ Aside0 (wc.heap[gb252]? = some (.cells #[.int .i64 t248, .int .i64 t249, .string t250] 23 (0, 0))) ∧ Aside0 (wc.heap[gb257]? = some (.cells #[.int .i64 t253, .int .i64 t254, .string t255] 23 (0, 0))) ∧ Aside0 (wc.heap[gb262]? = some (.cells #[.int .i64 t258, .int .i64 t259, .string t260] 23 (0, 0))) ∧ Aside0 (wc.heap[gb267]? = some (.cells #[.int .i64 t263, .int .i64 t264, .string t265] 23 (0, 0))) ∧ Aside0 (wc.heap[gb272]? = some (.cells #[.int .i64 t268, .int .i64 t269, .string t270] 23 (0, 0))) ∧ Aside0 (wc.heap[gb277]? = some (.cells #[.int .i64 t273, .int .i64 t274, .string t275] 23 (0, 0))) ∧ Aside0 (Below w.heap.size w wc))
  case first =>
    have H := HC10.out
    clear HC10
    by_cases c72 : t251 = 0
    · rw [if_pos c72] at H
      have c72b0 : (t251 == 0) = true := beq_iff_eq.mpr c72
      have c72b1 : (t251 != 0) = false := bne_eq_false_iff_eq.mpr c72
      clear c72
      (first | rw [c72b0] | rw [c72b1] | (simp only [i64_w, i32_w]; rw [c72b0]) | skip)
      have H' := Aside0.mk H
      clear H
      go_wp2
      go_meet
      case rel => exact ⟨_, ((t256 != 0)), (by first | rfl | (simp; done) | (simp [*]; done)), H', ⟨by first | omega | exact Nat.le_refl _⟩, ⟨by (with_reducible repeat (first | refine blk_drewN ?_ _ | refine blk_drew ?_ | refine blk_alloc ?_ _)); refine blk_far ?_ NB245_277.out _; (with_reducible repeat (first | refine blk_drewN ?_ _ | refine blk_drew ?_ | refine blk_alloc ?_ _)); refine blk_far ?_ NB245_277.out _; (with_reducible repeat (first | refine blk_drewN ?_ _ | refine blk_drew ?_ | refine blk_alloc ?_ _)); refine blk_far ?_ NB245_277.out _; (with_reducible repeat (first | refine blk_drewN ?_ _ | refine blk_drew ?_ | refine blk_alloc ?_ _)); exact BK245.out⟩, ⟨by (with_reducible repeat (first | refine blk_drewN ?_ _ | refine blk_drew ?_ | refine blk_alloc ?_ _)); refine blk_far ?_ NB246_277.out _; (with_reducible repeat (first | refine blk_drewN ?_ _ | refine blk_drew ?_ | refine blk_alloc ?_ _)); refine blk_far ?_ NB246_277.out _; (with_reducible repeat (first | refine blk_drewN ?_ _ | refine blk_drew ?_ | refine blk_alloc ?_ _)); refine blk_far ?_ NB246_277.out _; (with_reducible repeat (first | refine blk_drewN ?_ _ | refine blk_drew ?_ | refine blk_alloc ?_ _)); exact BK246.out⟩, ⟨by (with_reducible repeat (first | refine blk_drewN ?_ _ | refine blk_drew ?_ | refine blk_alloc ?_ _)); refine blk_far ?_ NB252_277.out _; (with_reducible repeat (first | refine blk_drewN ?_ _ | refine blk_drew ?_ | refine blk_alloc ?_ _)); refine blk_far ?_ NB252_277.out _; (with_reducible repeat (first | refine blk_drewN ?_ _ | refine blk_drew ?_ | refine blk_alloc ?_ _)); refine blk_far ?_ NB252_277.out _; (with_reducible repeat (first | refine blk_drewN ?_ _ | refine blk_drew ?_ | refine blk_alloc ?_ _)); exact BK252.out⟩, ⟨by (with_reducible repeat (first | refine blk_drewN ?_ _ | refine blk_drew ?_ | refine blk_alloc ?_ _)); refine blk_far ?_ NB257_277.out _; (with_reducible repeat (first | refine blk_drewN ?_ _ | refine blk_drew ?_ | refine blk_alloc ?_ _)); refine blk_far ?_ NB257_277.out _; (with_reducible repeat (first | refine blk_drewN ?_ _ | refine blk_drew ?_ | refine blk_alloc ?_ _)); refine blk_far ?_ NB257_277.out _; (with_reducible repeat (first | refine blk_drewN ?_ _ | refine blk_drew ?_ | refine blk_alloc ?_ _)); exact BK257.out⟩, ⟨by (with_reducible repeat (first | refine blk_drewN ?_ _ | refine blk_drew ?_ | refine blk_alloc ?_ _)); refine blk_far ?_ NB262_277.out _; (with_reducible repeat (first | refine blk_drewN ?_ _ | refine blk_drew ?_ | refine blk_alloc ?_ _)); refine blk_far ?_ NB262_277.out _; (with_reducible repeat (first | refine blk_drewN ?_ _ | refine blk_drew ?_ | refine blk_alloc ?_ _)); refine blk_far ?_ NB262_277.out _; (with_reducible repeat (first | refine blk_drewN ?_ _ | refine blk_drew ?_ | refine blk_alloc ?_ _)); exact BK262.out⟩, ⟨by (with_reducible repeat (first | refine blk_drewN ?_ _ | refine blk_drew ?_ | refine blk_alloc ?_ _)); refine blk_far ?_ NB267_277.out _; (with_reducible repeat (first | refine blk_drewN ?_ _ | refine blk_drew ?_ | refine blk_alloc ?_ _)); refine blk_far ?_ NB267_277.out _; (with_reducible repeat (first | refine blk_drewN ?_ _ | refine blk_drew ?_ | refine blk_alloc ?_ _)); refine blk_far ?_ NB267_277.out _; (with_reducible repeat (first | refine blk_drewN ?_ _ | refine blk_drew ?_ | refine blk_alloc ?_ _)); exact BK267.out⟩, ⟨by (with_reducible repeat (first | refine blk_drewN ?_ _ | refine blk_drew ?_ | refine blk_alloc ?_ _)); refine blk_far ?_ NB272_277.out _; (with_reducible repeat (first | refine blk_drewN ?_ _ | refine blk_drew ?_ | refine blk_alloc ?_ _)); refine blk_far ?_ NB272_277.out _; (with_reducible repeat (first | refine blk_drewN ?_ _ | refine blk_drew ?_ | refine blk_alloc ?_ _)); refine blk_far ?_ NB272_277.out _; (with_reducible repeat (first | refine blk_drewN ?_ _ | refine blk_drew ?_ | refine blk_alloc ?_ _)); exact BK272.out⟩, ⟨by (with_reducible repeat (first | refine blk_drewN ?_ _ | refine blk_drew ?_ | refine blk_alloc ?_ _)); refine blk_put (cs := #[.int .i64 t273, .int .i64 t274, .string (⟨#[]⟩ : ByteArray)]) ?_ 2 _ rfl; (with_reducible repeat (first | refine blk_drewN ?_ _ | refine blk_drew ?_ | refine blk_alloc ?_ _)); refine blk_put (cs := #[.int .i64 t273, .int .i64 0, .string (⟨#[]⟩ : ByteArray)]) ?_ 1 _ rfl; (with_reducible repeat (first | refine blk_drewN ?_ _ | refine blk_drew ?_ | refine blk_alloc ?_ _)); refine blk_put (cs := #[.int .i64 0, .int .i64 0, .string (⟨#[]⟩ : ByteArray)]) ?_ 0 _ rfl; (with_reducible repeat (first | refine blk_drewN ?_ _ | refine blk_drew ?_ | refine blk_alloc ?_ _)); exact BK277.out⟩, ⟨by repeat (first | (with_reducible first | exact HB.out | apply below_alloc | apply pw_below_drewN | apply below_drew1 | refine below_set ?_ GE245.out | refine below_set ?_ GE246.out | refine below_set ?_ GE252.out | refine below_set ?_ GE257.out | refine below_set ?_ GE262.out | refine below_set ?_ GE267.out | refine below_set ?_ GE272.out | refine below_set ?_ GE277.out) | exact HB.out)⟩⟩
    · rw [if_neg c72] at H
      have c72b0 : (t251 == 0) = false := beq_eq_false_iff_ne.mpr c72
      have c72b1 : (t251 != 0) = true := bne_iff_ne.mpr c72
      (first | rw [c72b0] | rw [c72b1] | (simp only [i64_w, i32_w]; rw [c72b0]) | skip)
      have H' := Aside0.mk H
      clear H
      go_wp2
      go_meet
      case rel => exact ⟨_, (true), (by first | rfl | (simp; done) | (simp [*]; done)), H', ⟨by first | omega | exact Nat.le_refl _⟩, ⟨by (with_reducible repeat (first | refine blk_drewN ?_ _ | refine blk_drew ?_ | refine blk_alloc ?_ _)); refine blk_far ?_ NB245_277.out _; (with_reducible repeat (first | refine blk_drewN ?_ _ | refine blk_drew ?_ | refine blk_alloc ?_ _)); refine blk_far ?_ NB245_277.out _; (with_reducible repeat (first | refine blk_drewN ?_ _ | refine blk_drew ?_ | refine blk_alloc ?_ _)); refine blk_far ?_ NB245_277.out _; (with_reducible repeat (first | refine blk_drewN ?_ _ | refine blk_drew ?_ | refine blk_alloc ?_ _)); exact BK245.out⟩, ⟨by (with_reducible repeat (first | refine blk_drewN ?_ _ | refine blk_drew ?_ | refine blk_alloc ?_ _)); refine blk_far ?_ NB246_277.out _; (with_reducible repeat (first | refine blk_drewN ?_ _ | refine blk_drew ?_ | refine blk_alloc ?_ _)); refine blk_far ?_ NB246_277.out _; (with_reducible repeat (first | refine blk_drewN ?_ _ | refine blk_drew ?_ | refine blk_alloc ?_ _)); refine blk_far ?_ NB246_277.out _; (with_reducible repeat (first | refine blk_drewN ?_ _ | refine blk_drew ?_ | refine blk_alloc ?_ _)); exact BK246.out⟩, ⟨by (with_reducible repeat (first | refine blk_drewN ?_ _ | refine blk_drew ?_ | refine blk_alloc ?_ _)); refine blk_far ?_ NB252_277.out _; (with_reducible repeat (first | refine blk_drewN ?_ _ | refine blk_drew ?_ | refine blk_alloc ?_ _)); refine blk_far ?_ NB252_277.out _; (with_reducible repeat (first | refine blk_drewN ?_ _ | refine blk_drew ?_ | refine blk_alloc ?_ _)); refine blk_far ?_ NB252_277.out _; (with_reducible repeat (first | refine blk_drewN ?_ _ | refine blk_drew ?_ | refine blk_alloc ?_ _)); exact BK252.out⟩, ⟨by (with_reducible repeat (first | refine blk_drewN ?_ _ | refine blk_drew ?_ | refine blk_alloc ?_ _)); refine blk_far ?_ NB257_277.out _; (with_reducible repeat (first | refine blk_drewN ?_ _ | refine blk_drew ?_ | refine blk_alloc ?_ _)); refine blk_far ?_ NB257_277.out _; (with_reducible repeat (first | refine blk_drewN ?_ _ | refine blk_drew ?_ | refine blk_alloc ?_ _)); refine blk_far ?_ NB257_277.out _; (with_reducible repeat (first | refine blk_drewN ?_ _ | refine blk_drew ?_ | refine blk_alloc ?_ _)); exact BK257.out⟩, ⟨by (with_reducible repeat (first | refine blk_drewN ?_ _ | refine blk_drew ?_ | refine blk_alloc ?_ _)); refine blk_far ?_ NB262_277.out _; (with_reducible repeat (first | refine blk_drewN ?_ _ | refine blk_drew ?_ | refine blk_alloc ?_ _)); refine blk_far ?_ NB262_277.out _; (with_reducible repeat (first | refine blk_drewN ?_ _ | refine blk_drew ?_ | refine blk_alloc ?_ _)); refine blk_far ?_ NB262_277.out _; (with_reducible repeat (first | refine blk_drewN ?_ _ | refine blk_drew ?_ | refine blk_alloc ?_ _)); exact BK262.out⟩, ⟨by (with_reducible repeat (first | refine blk_drewN ?_ _ | refine blk_drew ?_ | refine blk_alloc ?_ _)); refine blk_far ?_ NB267_277.out _; (with_reducible repeat (first | refine blk_drewN ?_ _ | refine blk_drew ?_ | refine blk_alloc ?_ _)); refine blk_far ?_ NB267_277.out _; (with_reducible repeat (first | refine blk_drewN ?_ _ | refine blk_drew ?_ | refine blk_alloc ?_ _)); refine blk_far ?_ NB267_277.out _; (with_reducible repeat (first | refine blk_drewN ?_ _ | refine blk_drew ?_ | refine blk_alloc ?_ _)); exact BK267.out⟩, ⟨by (with_reducible repeat (first | refine blk_drewN ?_ _ | refine blk_drew ?_ | refine blk_alloc ?_ _)); refine blk_far ?_ NB272_277.out _; (with_reducible repeat (first | refine blk_drewN ?_ _ | refine blk_drew ?_ | refine blk_alloc ?_ _)); refine blk_far ?_ NB272_277.out _; (with_reducible repeat (first | refine blk_drewN ?_ _ | refine blk_drew ?_ | refine blk_alloc ?_ _)); refine blk_far ?_ NB272_277.out _; (with_reducible repeat (first | refine blk_drewN ?_ _ | refine blk_drew ?_ | refine blk_alloc ?_ _)); exact BK272.out⟩, ⟨by (with_reducible repeat (first | refine blk_drewN ?_ _ | refine blk_drew ?_ | refine blk_alloc ?_ _)); refine blk_put (cs := #[.int .i64 t273, .int .i64 t274, .string (⟨#[]⟩ : ByteArray)]) ?_ 2 _ rfl; (with_reducible repeat (first | refine blk_drewN ?_ _ | refine blk_drew ?_ | refine blk_alloc ?_ _)); refine blk_put (cs := #[.int .i64 t273, .int .i64 0, .string (⟨#[]⟩ : ByteArray)]) ?_ 1 _ rfl; (with_reducible repeat (first | refine blk_drewN ?_ _ | refine blk_drew ?_ | refine blk_alloc ?_ _)); refine blk_put (cs := #[.int .i64 0, .int .i64 0, .string (⟨#[]⟩ : ByteArray)]) ?_ 0 _ rfl; (with_reducible repeat (first | refine blk_drewN ?_ _ | refine blk_drew ?_ | refine blk_alloc ?_ _)); exact BK277.out⟩, ⟨by repeat (first | (with_reducible first | exact HB.out | apply below_alloc | apply pw_below_drewN | apply below_drew1 | refine below_set ?_ GE245.out | refine below_set ?_ GE246.out | refine below_set ?_ GE252.out | refine below_set ?_ GE257.out | refine below_set ?_ GE262.out | refine below_set ?_ GE267.out | refine below_set ?_ GE272.out | refine below_set ?_ GE277.out) | exact HB.out)⟩⟩
  case rest =>
    clear HC10
    try clear c1
    try clear c2
    try clear p2
    try clear c3
    try clear c4
    try clear c5
    try clear c6
    try clear c7
    try clear c10
    try clear c14
    try clear c17
    try clear c19
    try clear c20
    try clear c26
    try clear c27
    try clear c28
    try clear c34
    try clear c35
    try clear c36
    try clear c37
    try clear c43
    try clear c44
    try clear c45
    try clear c46
    try clear c47
    try clear c53
    try clear c54
    try clear c55
    try clear c56
    try clear c57
    try clear c58
    try clear c64
    try clear c65
    try clear c66
    try clear c67
    try clear c68
    try clear c69
    try clear c70
    try clear c72
    try clear c72b0
    try clear c72b1
    try clear hcz15_0
    try clear hcz15_1
    try clear hcz15_2
    try clear hcz16_0
    try clear hcz16_1
    try clear hcz16_2
    try clear hcz21_0
    try clear hcz21_1
    try clear hcz21_2
    try clear hcz22_0
    try clear hcz22_1
    try clear hcz22_2
    try clear hcz23_0
    try clear hcz23_1
    try clear hcz23_2
    try clear hcz29_0
    try clear hcz29_1
    try clear hcz29_2
    try clear hcz30_0
    try clear hcz30_1
    try clear hcz30_2
    try clear hcz31_0
    try clear hcz31_1
    try clear hcz31_2
    try clear hcz38_0
    try clear hcz38_1
    try clear hcz38_2
    try clear hcz39_0
    try clear hcz39_1
    try clear hcz39_2
    try clear hcz40_0
    try clear hcz40_1
    try clear hcz40_2
    try clear hcz48_0
    try clear hcz48_1
    try clear hcz48_2
    try clear hcz49_0
    try clear hcz49_1
    try clear hcz49_2
    try clear hcz50_0
    try clear hcz50_1
    try clear hcz50_2
    try clear hcz59_0
    try clear hcz59_1
    try clear hcz59_2
    try clear hcz60_0
    try clear hcz60_1
    try clear hcz60_2
    try clear hcz61_0
    try clear hcz61_1
    try clear hcz61_2
    try clear hcz71_0
    try clear hcz71_1
    try clear hcz71_2
    try clear hfz15_0
    try clear hfz15_1
    try clear hfz15_2
    try clear hfz16_0
    try clear hfz16_1
    try clear hfz16_2
    try clear hfz21_0
    try clear hfz21_1
    try clear hfz21_2
    try clear hfz22_0
    try clear hfz22_1
    try clear hfz22_2
    try clear hfz23_0
    try clear hfz23_1
    try clear hfz23_2
    try clear hfz29_0
    try clear hfz29_1
    try clear hfz29_2
    try clear hfz30_0
    try clear hfz30_1
    try clear hfz30_2
    try clear hfz31_0
    try clear hfz31_1
    try clear hfz31_2
    try clear hfz38_0
    try clear hfz38_1
    try clear hfz38_2
    try clear hfz39_0
    try clear hfz39_1
    try clear hfz39_2
    try clear hfz40_0
    try clear hfz40_1
    try clear hfz40_2
    try clear hfz48_0
    try clear hfz48_1
    try clear hfz48_2
    try clear hfz49_0
    try clear hfz49_1
    try clear hfz49_2
    try clear hfz50_0
    try clear hfz50_1
    try clear hfz50_2
    try clear hfz59_0
    try clear hfz59_1
    try clear hfz59_2
    try clear hfz60_0
    try clear hfz60_1
    try clear hfz60_2
    try clear hfz61_0
    try clear hfz61_1
    try clear hfz61_2
    try clear hfz71_0
    try clear hfz71_1
    try clear hfz71_2
    obtain ⟨kq, x60_9, rfl, HA, HJ9, BK245, BK246, BK252, BK257, BK262, BK267, BK272, BK277, HB⟩ := hcut
    cases kq with
    | zero => exact absurd HA.out (by simp [weathercocklaw01_ValueTests.j0])
    | succ kj9 =>
      have H := HA.out
      clear HA
      simp only [weathercocklaw01_ValueTests.j0] at H
      by_cases c73 : x60_9 = true
      · subst c73
        have H1 : (if t247 = true then (if t251 = 1 then (some (t256 == 1)) else (some false)) else (some false)) = some r := by rw [if_pos rfl] at H; exact H
        clear H
        have H := H1
        clear H1
        by_cases c74 : t247 = true
        · subst c74
          have H1 : (if t251 = 1 then (some (t256 == 1)) else (some false)) = some r := by rw [if_pos rfl] at H; exact H
          clear H
          have H := H1
          clear H1
          by_cases c75 : t251 = 1
          · rw [if_pos c75] at H
            have c75b0 : (t251 == 1) = true := beq_iff_eq.mpr c75
            have c75b1 : (t251 != 1) = false := bne_eq_false_iff_eq.mpr c75
            clear c75
            obtain rfl := Option.some.inj H
            go_wp2
            go_ret
            exact ⟨by first | rfl | (simp [errW_none, errW_some] <;> rfl) | (simp [*, errW_none, errW_some] <;> rfl), by repeat (first | (with_reducible first | exact HB.out | apply below_alloc | apply pw_below_drewN | apply below_drew1 | refine below_set ?_ GE245.out | refine below_set ?_ GE246.out | refine below_set ?_ GE252.out | refine below_set ?_ GE257.out | refine below_set ?_ GE262.out | refine below_set ?_ GE267.out | refine below_set ?_ GE272.out | refine below_set ?_ GE277.out) | exact HB.out)⟩
          · rw [if_neg c75] at H
            have c75b0 : (t251 == 1) = false := beq_eq_false_iff_ne.mpr c75
            have c75b1 : (t251 != 1) = true := bne_iff_ne.mpr c75
            exact absurd (Option.some.inj H) (fun h_ => absurd (h_.trans HRT.out) (by decide))
        · replace c74 := Bool.eq_false_iff.mpr c74
          subst c74
          have H1 : (some false) = some r := by rw [if_neg (show ¬ (false = true) by decide)] at H; exact H
          clear H
          have H := H1
          clear H1
          exact absurd (Option.some.inj H) (fun h_ => absurd (h_.trans HRT.out) (by decide))
      · replace c73 := Bool.eq_false_iff.mpr c73
        subst c73
        have H1 : (if a0_0 = 0 then (if t247 = true then (if (t248 == 0 && (t249 == 0 && (t250.toList == ([] : List UInt8)))) = true then (if (t253 == 0 && (t254 == 0 && (t255.toList == ([] : List UInt8)))) = true then (some (t268 == 0 && (t269 == 0 && (t270.toList == ([] : List UInt8))))) else (some false)) else (some false)) else (some false)) else (if a1_0 = 0 then (if t247 = true then (if (t248 == 0 && (t249 == 0 && (t250.toList == ([] : List UInt8)))) = true then (if (t253 == 0 && (t254 == 0 && (t255.toList == ([] : List UInt8)))) = true then (some (t268 == 0 && (t269 == 0 && (t270.toList == ([] : List UInt8))))) else (some false)) else (some false)) else (some false)) else (if t247 = true then (if (wrap64 ((wrap64 (t249 + t254)) + t259)) = 1 then (if t264 = (wrap64 (t249 + t254)) then (if t269 = (wrap64 (t259 + t254)) then (some (t274 == (wrap64 (1 - t254)))) else (some false)) else (some false)) else (some false)) else (some false)))) = some r := by rw [if_neg (show ¬ (false = true) by decide)] at H; exact H
        clear H
        have H := H1
        clear H1
        by_cases c76 : a0_0 = 0
        · rw [if_pos c76] at H
          have c76b0 : (a0_0 == 0) = true := beq_iff_eq.mpr c76
          have c76b1 : (a0_0 != 0) = false := bne_eq_false_iff_eq.mpr c76
          clear c76
          by_cases c77 : t247 = true
          · subst c77
            have H1 : (if (t248 == 0 && (t249 == 0 && (t250.toList == ([] : List UInt8)))) = true then (if (t253 == 0 && (t254 == 0 && (t255.toList == ([] : List UInt8)))) = true then (some (t268 == 0 && (t269 == 0 && (t270.toList == ([] : List UInt8))))) else (some false)) else (some false)) = some r := by rw [if_pos rfl] at H; exact H
            clear H
            have H := H1
            clear H1
            by_cases c78 : (t248 == 0 && (t249 == 0 && (t250.toList == ([] : List UInt8)))) = true
            · rw [if_pos c78] at H
              have c78z := c78
              try simp only [Bool.and_eq_true, beq_iff_eq] at c78z
              have c78b0 : (t248 == 0 && (t249 == 0 && (t250.toList == ([] : List UInt8)))) = true := c78
              (try (have c78b1 : decide (t248 = 0 && (t249 == 0 && (t250.toList == ([] : List UInt8)))) = true := by simpa using c78))
              (try (have c78b2 : (t248 == 0 && (t249 == 0 && (t250.toList == ([] : List UInt8)))) = true := by simpa using c78))
              clear c78
              by_cases c79 : (t253 == 0 && (t254 == 0 && (t255.toList == ([] : List UInt8)))) = true
              · rw [if_pos c79] at H
                have c79z := c79
                try simp only [Bool.and_eq_true, beq_iff_eq] at c79z
                have c79b0 : (t253 == 0 && (t254 == 0 && (t255.toList == ([] : List UInt8)))) = true := c79
                (try (have c79b1 : decide (t253 = 0 && (t254 == 0 && (t255.toList == ([] : List UInt8)))) = true := by simpa using c79))
                (try (have c79b2 : (t253 == 0 && (t254 == 0 && (t255.toList == ([] : List UInt8)))) = true := by simpa using c79))
                clear c79
                obtain rfl := Option.some.inj H
                have hnb80 := NB245_246.out
                have hnc80 := NB246_245.out
                have hnb81 := NB245_252.out
                have hnc81 := NB252_245.out
                have hnb82 := NB245_257.out
                have hnc82 := NB257_245.out
                have hnb83 := NB245_262.out
                have hnc83 := NB262_245.out
                have hnb84 := NB245_267.out
                have hnc84 := NB267_245.out
                have hnb85 := NB245_272.out
                have hnc85 := NB272_245.out
                have hnb86 := NB245_277.out
                have hnc86 := NB277_245.out
                have hcz87_0 : wc.cell? ⟨gb245, 0, none⟩ = some (.int .i64 a0_0) := (blk_cell BK245.out 0).trans rfl
                have hcz87_1 : wc.cell? ⟨gb245, 1, none⟩ = some (.int .i64 a0_1) := (blk_cell BK245.out 1).trans rfl
                have hcz87_2 : wc.cell? ⟨gb245, 2, none⟩ = some (.string a0_2) := (blk_cell BK245.out 2).trans rfl
                have hfz87_0 := blk_frozen BK245.out 0
                have hfz87_1 := blk_frozen BK245.out 1
                have hfz87_2 := blk_frozen BK245.out 2
                have hnb88 := NB252_246.out
                have hnc88 := NB246_252.out
                have hnb89 := NB252_257.out
                have hnc89 := NB257_252.out
                have hnb90 := NB252_262.out
                have hnc90 := NB262_252.out
                have hnb91 := NB252_267.out
                have hnc91 := NB267_252.out
                have hnb92 := NB252_272.out
                have hnc92 := NB272_252.out
                have hnb93 := NB252_277.out
                have hnc93 := NB277_252.out
                have hcz94_0 : wc.cell? ⟨gb252, 0, none⟩ = some (.int .i64 t248) := (blk_cell BK252.out 0).trans rfl
                have hcz94_1 : wc.cell? ⟨gb252, 1, none⟩ = some (.int .i64 t249) := (blk_cell BK252.out 1).trans rfl
                have hcz94_2 : wc.cell? ⟨gb252, 2, none⟩ = some (.string t250) := (blk_cell BK252.out 2).trans rfl
                have hfz94_0 := blk_frozen BK252.out 0
                have hfz94_1 := blk_frozen BK252.out 1
                have hfz94_2 := blk_frozen BK252.out 2
                have hnb95 := NB257_246.out
                have hnc95 := NB246_257.out
                have hnb96 := NB257_262.out
                have hnc96 := NB262_257.out
                have hnb97 := NB257_267.out
                have hnc97 := NB267_257.out
                have hnb98 := NB257_272.out
                have hnc98 := NB272_257.out
                have hnb99 := NB257_277.out
                have hnc99 := NB277_257.out
                have hcz100_0 : wc.cell? ⟨gb257, 0, none⟩ = some (.int .i64 t253) := (blk_cell BK257.out 0).trans rfl
                have hcz100_1 : wc.cell? ⟨gb257, 1, none⟩ = some (.int .i64 t254) := (blk_cell BK257.out 1).trans rfl
                have hcz100_2 : wc.cell? ⟨gb257, 2, none⟩ = some (.string t255) := (blk_cell BK257.out 2).trans rfl
                have hfz100_0 := blk_frozen BK257.out 0
                have hfz100_1 := blk_frozen BK257.out 1
                have hfz100_2 := blk_frozen BK257.out 2
                have hnb101 := NB272_246.out
                have hnc101 := NB246_272.out
                have hnb102 := NB272_262.out
                have hnc102 := NB262_272.out
                have hnb103 := NB272_267.out
                have hnc103 := NB267_272.out
                have hnb104 := NB272_277.out
                have hnc104 := NB277_272.out
                have hcz105_0 : wc.cell? ⟨gb272, 0, none⟩ = some (.int .i64 t268) := (blk_cell BK272.out 0).trans rfl
                have hcz105_1 : wc.cell? ⟨gb272, 1, none⟩ = some (.int .i64 t269) := (blk_cell BK272.out 1).trans rfl
                have hcz105_2 : wc.cell? ⟨gb272, 2, none⟩ = some (.string t270) := (blk_cell BK272.out 2).trans rfl
                have hfz105_0 := blk_frozen BK272.out 0
                have hfz105_1 := blk_frozen BK272.out 1
                have hfz105_2 := blk_frozen BK272.out 2
                go_wp2
                go_ret
                exact ⟨by first | rfl | (simp [errW_none, errW_some] <;> rfl) | (simp [*, errW_none, errW_some] <;> rfl), by repeat (first | (with_reducible first | exact HB.out | apply below_alloc | apply pw_below_drewN | apply below_drew1 | refine below_set ?_ GE245.out | refine below_set ?_ GE246.out | refine below_set ?_ GE252.out | refine below_set ?_ GE257.out | refine below_set ?_ GE262.out | refine below_set ?_ GE267.out | refine below_set ?_ GE272.out | refine below_set ?_ GE277.out) | exact HB.out)⟩
              · rw [if_neg c79] at H
                have c79b0 : (t253 == 0 && (t254 == 0 && (t255.toList == ([] : List UInt8)))) = false := by simpa using c79
                (try (have c79b1 : decide (t253 = 0 && (t254 == 0 && (t255.toList == ([] : List UInt8)))) = false := by simpa using c79))
                (try (have c79b2 : (t253 == 0 && (t254 == 0 && (t255.toList == ([] : List UInt8)))) = false := by simpa using c79))
                (try (have c79b3 : ¬ (t253 = 0 && (t254 == 0 && (t255.toList == ([] : List UInt8)))) := by simpa using c79))
                clear c79
                exact absurd (Option.some.inj H) (fun h_ => absurd (h_.trans HRT.out) (by decide))
            · rw [if_neg c78] at H
              have c78b0 : (t248 == 0 && (t249 == 0 && (t250.toList == ([] : List UInt8)))) = false := by simpa using c78
              (try (have c78b1 : decide (t248 = 0 && (t249 == 0 && (t250.toList == ([] : List UInt8)))) = false := by simpa using c78))
              (try (have c78b2 : (t248 == 0 && (t249 == 0 && (t250.toList == ([] : List UInt8)))) = false := by simpa using c78))
              (try (have c78b3 : ¬ (t248 = 0 && (t249 == 0 && (t250.toList == ([] : List UInt8)))) := by simpa using c78))
              clear c78
              exact absurd (Option.some.inj H) (fun h_ => absurd (h_.trans HRT.out) (by decide))
          · replace c77 := Bool.eq_false_iff.mpr c77
            subst c77
            have H1 : (some false) = some r := by rw [if_neg (show ¬ (false = true) by decide)] at H; exact H
            clear H
            have H := H1
            clear H1
            exact absurd (Option.some.inj H) (fun h_ => absurd (h_.trans HRT.out) (by decide))
        · rw [if_neg c76] at H
          have c76b0 : (a0_0 == 0) = false := beq_eq_false_iff_ne.mpr c76
          have c76b1 : (a0_0 != 0) = true := bne_iff_ne.mpr c76
          by_cases c106 : a1_0 = 0
          · rw [if_pos c106] at H
            have c106b0 : (a1_0 == 0) = true := beq_iff_eq.mpr c106
            have c106b1 : (a1_0 != 0) = false := bne_eq_false_iff_eq.mpr c106
            clear c106
            by_cases c107 : t247 = true
            · subst c107
              have H1 : (if (t248 == 0 && (t249 == 0 && (t250.toList == ([] : List UInt8)))) = true then (if (t253 == 0 && (t254 == 0 && (t255.toList == ([] : List UInt8)))) = true then (some (t268 == 0 && (t269 == 0 && (t270.toList == ([] : List UInt8))))) else (some false)) else (some false)) = some r := by rw [if_pos rfl] at H; exact H
              clear H
              have H := H1
              clear H1
              by_cases c108 : (t248 == 0 && (t249 == 0 && (t250.toList == ([] : List UInt8)))) = true
              · rw [if_pos c108] at H
                have c108z := c108
                try simp only [Bool.and_eq_true, beq_iff_eq] at c108z
                have c108b0 : (t248 == 0 && (t249 == 0 && (t250.toList == ([] : List UInt8)))) = true := c108
                (try (have c108b1 : decide (t248 = 0 && (t249 == 0 && (t250.toList == ([] : List UInt8)))) = true := by simpa using c108))
                (try (have c108b2 : (t248 == 0 && (t249 == 0 && (t250.toList == ([] : List UInt8)))) = true := by simpa using c108))
                clear c108
                by_cases c109 : (t253 == 0 && (t254 == 0 && (t255.toList == ([] : List UInt8)))) = true
                · rw [if_pos c109] at H
                  have c109z := c109
                  try simp only [Bool.and_eq_true, beq_iff_eq] at c109z
                  have c109b0 : (t253 == 0 && (t254 == 0 && (t255.toList == ([] : List UInt8)))) = true := c109
                  (try (have c109b1 : decide (t253 = 0 && (t254 == 0 && (t255.toList == ([] : List UInt8)))) = true := by simpa using c109))
                  (try (have c109b2 : (t253 == 0 && (t254 == 0 && (t255.toList == ([] : List UInt8)))) = true := by simpa using c109))
                  clear c109
                  obtain rfl := Option.some.inj H
                  have hnb110 := NB245_246.out
                  have hnc110 := NB246_245.out
                  have hnb111 := NB245_252.out
                  have hnc111 := NB252_245.out
                  have hnb112 := NB245_257.out
                  have hnc112 := NB257_245.out
                  have hnb113 := NB245_262.out
                  have hnc113 := NB262_245.out
                  have hnb114 := NB245_267.out
                  have hnc114 := NB267_245.out
                  have hnb115 := NB245_272.out
                  have hnc115 := NB272_245.out
                  have hnb116 := NB245_277.out
                  have hnc116 := NB277_245.out
                  have hcz117_0 : wc.cell? ⟨gb245, 0, none⟩ = some (.int .i64 a0_0) := (blk_cell BK245.out 0).trans rfl
                  have hcz117_1 : wc.cell? ⟨gb245, 1, none⟩ = some (.int .i64 a0_1) := (blk_cell BK245.out 1).trans rfl
                  have hcz117_2 : wc.cell? ⟨gb245, 2, none⟩ = some (.string a0_2) := (blk_cell BK245.out 2).trans rfl
                  have hfz117_0 := blk_frozen BK245.out 0
                  have hfz117_1 := blk_frozen BK245.out 1
                  have hfz117_2 := blk_frozen BK245.out 2
                  have hnb118 := NB246_252.out
                  have hnc118 := NB252_246.out
                  have hnb119 := NB246_257.out
                  have hnc119 := NB257_246.out
                  have hnb120 := NB246_262.out
                  have hnc120 := NB262_246.out
                  have hnb121 := NB246_267.out
                  have hnc121 := NB267_246.out
                  have hnb122 := NB246_272.out
                  have hnc122 := NB272_246.out
                  have hnb123 := NB246_277.out
                  have hnc123 := NB277_246.out
                  have hcz124_0 : wc.cell? ⟨gb246, 0, none⟩ = some (.int .i64 a1_0) := (blk_cell BK246.out 0).trans rfl
                  have hcz124_1 : wc.cell? ⟨gb246, 1, none⟩ = some (.int .i64 a1_1) := (blk_cell BK246.out 1).trans rfl
                  have hcz124_2 : wc.cell? ⟨gb246, 2, none⟩ = some (.string a1_2) := (blk_cell BK246.out 2).trans rfl
                  have hfz124_0 := blk_frozen BK246.out 0
                  have hfz124_1 := blk_frozen BK246.out 1
                  have hfz124_2 := blk_frozen BK246.out 2
                  have hnb125 := NB252_257.out
                  have hnc125 := NB257_252.out
                  have hnb126 := NB252_262.out
                  have hnc126 := NB262_252.out
                  have hnb127 := NB252_267.out
                  have hnc127 := NB267_252.out
                  have hnb128 := NB252_272.out
                  have hnc128 := NB272_252.out
                  have hnb129 := NB252_277.out
                  have hnc129 := NB277_252.out
                  have hcz130_0 : wc.cell? ⟨gb252, 0, none⟩ = some (.int .i64 t248) := (blk_cell BK252.out 0).trans rfl
                  have hcz130_1 : wc.cell? ⟨gb252, 1, none⟩ = some (.int .i64 t249) := (blk_cell BK252.out 1).trans rfl
                  have hcz130_2 : wc.cell? ⟨gb252, 2, none⟩ = some (.string t250) := (blk_cell BK252.out 2).trans rfl
                  have hfz130_0 := blk_frozen BK252.out 0
                  have hfz130_1 := blk_frozen BK252.out 1
                  have hfz130_2 := blk_frozen BK252.out 2
                  have hnb131 := NB257_262.out
                  have hnc131 := NB262_257.out
                  have hnb132 := NB257_267.out
                  have hnc132 := NB267_257.out
                  have hnb133 := NB257_272.out
                  have hnc133 := NB272_257.out
                  have hnb134 := NB257_277.out
                  have hnc134 := NB277_257.out
                  have hcz135_0 : wc.cell? ⟨gb257, 0, none⟩ = some (.int .i64 t253) := (blk_cell BK257.out 0).trans rfl
                  have hcz135_1 : wc.cell? ⟨gb257, 1, none⟩ = some (.int .i64 t254) := (blk_cell BK257.out 1).trans rfl
                  have hcz135_2 : wc.cell? ⟨gb257, 2, none⟩ = some (.string t255) := (blk_cell BK257.out 2).trans rfl
                  have hfz135_0 := blk_frozen BK257.out 0
                  have hfz135_1 := blk_frozen BK257.out 1
                  have hfz135_2 := blk_frozen BK257.out 2
                  have hnb136 := NB272_262.out
                  have hnc136 := NB262_272.out
                  have hnb137 := NB272_267.out
                  have hnc137 := NB267_272.out
                  have hnb138 := NB272_277.out
                  have hnc138 := NB277_272.out
                  have hcz139_0 : wc.cell? ⟨gb272, 0, none⟩ = some (.int .i64 t268) := (blk_cell BK272.out 0).trans rfl
                  have hcz139_1 : wc.cell? ⟨gb272, 1, none⟩ = some (.int .i64 t269) := (blk_cell BK272.out 1).trans rfl
                  have hcz139_2 : wc.cell? ⟨gb272, 2, none⟩ = some (.string t270) := (blk_cell BK272.out 2).trans rfl
                  have hfz139_0 := blk_frozen BK272.out 0
                  have hfz139_1 := blk_frozen BK272.out 1
                  have hfz139_2 := blk_frozen BK272.out 2
                  go_wp2
                  go_ret
                  exact ⟨by first | rfl | (simp [errW_none, errW_some] <;> rfl) | (simp [*, errW_none, errW_some] <;> rfl), by repeat (first | (with_reducible first | exact HB.out | apply below_alloc | apply pw_below_drewN | apply below_drew1 | refine below_set ?_ GE245.out | refine below_set ?_ GE246.out | refine below_set ?_ GE252.out | refine below_set ?_ GE257.out | refine below_set ?_ GE262.out | refine below_set ?_ GE267.out | refine below_set ?_ GE272.out | refine below_set ?_ GE277.out) | exact HB.out)⟩
                · rw [if_neg c109] at H
                  have c109b0 : (t253 == 0 && (t254 == 0 && (t255.toList == ([] : List UInt8)))) = false := by simpa using c109
                  (try (have c109b1 : decide (t253 = 0 && (t254 == 0 && (t255.toList == ([] : List UInt8)))) = false := by simpa using c109))
                  (try (have c109b2 : (t253 == 0 && (t254 == 0 && (t255.toList == ([] : List UInt8)))) = false := by simpa using c109))
                  (try (have c109b3 : ¬ (t253 = 0 && (t254 == 0 && (t255.toList == ([] : List UInt8)))) := by simpa using c109))
                  clear c109
                  exact absurd (Option.some.inj H) (fun h_ => absurd (h_.trans HRT.out) (by decide))
              · rw [if_neg c108] at H
                have c108b0 : (t248 == 0 && (t249 == 0 && (t250.toList == ([] : List UInt8)))) = false := by simpa using c108
                (try (have c108b1 : decide (t248 = 0 && (t249 == 0 && (t250.toList == ([] : List UInt8)))) = false := by simpa using c108))
                (try (have c108b2 : (t248 == 0 && (t249 == 0 && (t250.toList == ([] : List UInt8)))) = false := by simpa using c108))
                (try (have c108b3 : ¬ (t248 = 0 && (t249 == 0 && (t250.toList == ([] : List UInt8)))) := by simpa using c108))
                clear c108
                exact absurd (Option.some.inj H) (fun h_ => absurd (h_.trans HRT.out) (by decide))
            · replace c107 := Bool.eq_false_iff.mpr c107
              subst c107
              have H1 : (some false) = some r := by rw [if_neg (show ¬ (false = true) by decide)] at H; exact H
              clear H
              have H := H1
              clear H1
              exact absurd (Option.some.inj H) (fun h_ => absurd (h_.trans HRT.out) (by decide))
          · rw [if_neg c106] at H
            have c106b0 : (a1_0 == 0) = false := beq_eq_false_iff_ne.mpr c106
            have c106b1 : (a1_0 != 0) = true := bne_iff_ne.mpr c106
            by_cases c140 : t247 = true
            · subst c140
              have H1 : (if (wrap64 ((wrap64 (t249 + t254)) + t259)) = 1 then (if t264 = (wrap64 (t249 + t254)) then (if t269 = (wrap64 (t259 + t254)) then (some (t274 == (wrap64 (1 - t254)))) else (some false)) else (some false)) else (some false)) = some r := by rw [if_pos rfl] at H; exact H
              clear H
              have H := H1
              clear H1
              by_cases c141 : (wrap64 ((wrap64 (t249 + t254)) + t259)) = 1
              · rw [if_pos c141] at H
                have c141b0 : ((wrap64 ((wrap64 (t249 + t254)) + t259)) == 1) = true := beq_iff_eq.mpr c141
                have c141b1 : ((wrap64 ((wrap64 (t249 + t254)) + t259)) != 1) = false := bne_eq_false_iff_eq.mpr c141
                clear c141
                by_cases c142 : t264 = (wrap64 (t249 + t254))
                · rw [if_pos c142] at H
                  have c142b0 : (t264 == (wrap64 (t249 + t254))) = true := beq_iff_eq.mpr c142
                  have c142b1 : (t264 != (wrap64 (t249 + t254))) = false := bne_eq_false_iff_eq.mpr c142
                  clear c142
                  by_cases c143 : t269 = (wrap64 (t259 + t254))
                  · rw [if_pos c143] at H
                    have c143b0 : (t269 == (wrap64 (t259 + t254))) = true := beq_iff_eq.mpr c143
                    have c143b1 : (t269 != (wrap64 (t259 + t254))) = false := bne_eq_false_iff_eq.mpr c143
                    clear c143
                    obtain rfl := Option.some.inj H
                    have hnb144 := NB245_246.out
                    have hnc144 := NB246_245.out
                    have hnb145 := NB245_252.out
                    have hnc145 := NB252_245.out
                    have hnb146 := NB245_257.out
                    have hnc146 := NB257_245.out
                    have hnb147 := NB245_262.out
                    have hnc147 := NB262_245.out
                    have hnb148 := NB245_267.out
                    have hnc148 := NB267_245.out
                    have hnb149 := NB245_272.out
                    have hnc149 := NB272_245.out
                    have hnb150 := NB245_277.out
                    have hnc150 := NB277_245.out
                    have hcz151_0 : wc.cell? ⟨gb245, 0, none⟩ = some (.int .i64 a0_0) := (blk_cell BK245.out 0).trans rfl
                    have hcz151_1 : wc.cell? ⟨gb245, 1, none⟩ = some (.int .i64 a0_1) := (blk_cell BK245.out 1).trans rfl
                    have hcz151_2 : wc.cell? ⟨gb245, 2, none⟩ = some (.string a0_2) := (blk_cell BK245.out 2).trans rfl
                    have hfz151_0 := blk_frozen BK245.out 0
                    have hfz151_1 := blk_frozen BK245.out 1
                    have hfz151_2 := blk_frozen BK245.out 2
                    have hnb152 := NB246_252.out
                    have hnc152 := NB252_246.out
                    have hnb153 := NB246_257.out
                    have hnc153 := NB257_246.out
                    have hnb154 := NB246_262.out
                    have hnc154 := NB262_246.out
                    have hnb155 := NB246_267.out
                    have hnc155 := NB267_246.out
                    have hnb156 := NB246_272.out
                    have hnc156 := NB272_246.out
                    have hnb157 := NB246_277.out
                    have hnc157 := NB277_246.out
                    have hcz158_0 : wc.cell? ⟨gb246, 0, none⟩ = some (.int .i64 a1_0) := (blk_cell BK246.out 0).trans rfl
                    have hcz158_1 : wc.cell? ⟨gb246, 1, none⟩ = some (.int .i64 a1_1) := (blk_cell BK246.out 1).trans rfl
                    have hcz158_2 : wc.cell? ⟨gb246, 2, none⟩ = some (.string a1_2) := (blk_cell BK246.out 2).trans rfl
                    have hfz158_0 := blk_frozen BK246.out 0
                    have hfz158_1 := blk_frozen BK246.out 1
                    have hfz158_2 := blk_frozen BK246.out 2
                    have hnb159 := NB252_257.out
                    have hnc159 := NB257_252.out
                    have hnb160 := NB252_262.out
                    have hnc160 := NB262_252.out
                    have hnb161 := NB252_267.out
                    have hnc161 := NB267_252.out
                    have hnb162 := NB252_272.out
                    have hnc162 := NB272_252.out
                    have hnb163 := NB252_277.out
                    have hnc163 := NB277_252.out
                    have hcz164_0 : wc.cell? ⟨gb252, 0, none⟩ = some (.int .i64 t248) := (blk_cell BK252.out 0).trans rfl
                    have hcz164_1 : wc.cell? ⟨gb252, 1, none⟩ = some (.int .i64 t249) := (blk_cell BK252.out 1).trans rfl
                    have hcz164_2 : wc.cell? ⟨gb252, 2, none⟩ = some (.string t250) := (blk_cell BK252.out 2).trans rfl
                    have hfz164_0 := blk_frozen BK252.out 0
                    have hfz164_1 := blk_frozen BK252.out 1
                    have hfz164_2 := blk_frozen BK252.out 2
                    have hnb165 := NB257_262.out
                    have hnc165 := NB262_257.out
                    have hnb166 := NB257_267.out
                    have hnc166 := NB267_257.out
                    have hnb167 := NB257_272.out
                    have hnc167 := NB272_257.out
                    have hnb168 := NB257_277.out
                    have hnc168 := NB277_257.out
                    have hcz169_0 : wc.cell? ⟨gb257, 0, none⟩ = some (.int .i64 t253) := (blk_cell BK257.out 0).trans rfl
                    have hcz169_1 : wc.cell? ⟨gb257, 1, none⟩ = some (.int .i64 t254) := (blk_cell BK257.out 1).trans rfl
                    have hcz169_2 : wc.cell? ⟨gb257, 2, none⟩ = some (.string t255) := (blk_cell BK257.out 2).trans rfl
                    have hfz169_0 := blk_frozen BK257.out 0
                    have hfz169_1 := blk_frozen BK257.out 1
                    have hfz169_2 := blk_frozen BK257.out 2
                    have hnb170 := NB262_267.out
                    have hnc170 := NB267_262.out
                    have hnb171 := NB262_272.out
                    have hnc171 := NB272_262.out
                    have hnb172 := NB262_277.out
                    have hnc172 := NB277_262.out
                    have hcz173_0 : wc.cell? ⟨gb262, 0, none⟩ = some (.int .i64 t258) := (blk_cell BK262.out 0).trans rfl
                    have hcz173_1 : wc.cell? ⟨gb262, 1, none⟩ = some (.int .i64 t259) := (blk_cell BK262.out 1).trans rfl
                    have hcz173_2 : wc.cell? ⟨gb262, 2, none⟩ = some (.string t260) := (blk_cell BK262.out 2).trans rfl
                    have hfz173_0 := blk_frozen BK262.out 0
                    have hfz173_1 := blk_frozen BK262.out 1
                    have hfz173_2 := blk_frozen BK262.out 2
                    have hnb174 := NB267_272.out
                    have hnc174 := NB272_267.out
                    have hnb175 := NB267_277.out
                    have hnc175 := NB277_267.out
                    have hcz176_0 : wc.cell? ⟨gb267, 0, none⟩ = some (.int .i64 t263) := (blk_cell BK267.out 0).trans rfl
                    have hcz176_1 : wc.cell? ⟨gb267, 1, none⟩ = some (.int .i64 t264) := (blk_cell BK267.out 1).trans rfl
                    have hcz176_2 : wc.cell? ⟨gb267, 2, none⟩ = some (.string t265) := (blk_cell BK267.out 2).trans rfl
                    have hfz176_0 := blk_frozen BK267.out 0
                    have hfz176_1 := blk_frozen BK267.out 1
                    have hfz176_2 := blk_frozen BK267.out 2
                    have hnb177 := NB272_277.out
                    have hnc177 := NB277_272.out
                    have hcz178_0 : wc.cell? ⟨gb272, 0, none⟩ = some (.int .i64 t268) := (blk_cell BK272.out 0).trans rfl
                    have hcz178_1 : wc.cell? ⟨gb272, 1, none⟩ = some (.int .i64 t269) := (blk_cell BK272.out 1).trans rfl
                    have hcz178_2 : wc.cell? ⟨gb272, 2, none⟩ = some (.string t270) := (blk_cell BK272.out 2).trans rfl
                    have hfz178_0 := blk_frozen BK272.out 0
                    have hfz178_1 := blk_frozen BK272.out 1
                    have hfz178_2 := blk_frozen BK272.out 2
                    have hcz179_0 : wc.cell? ⟨gb277, 0, none⟩ = some (.int .i64 t273) := (blk_cell BK277.out 0).trans rfl
                    have hcz179_1 : wc.cell? ⟨gb277, 1, none⟩ = some (.int .i64 t274) := (blk_cell BK277.out 1).trans rfl
                    have hcz179_2 : wc.cell? ⟨gb277, 2, none⟩ = some (.string t275) := (blk_cell BK277.out 2).trans rfl
                    have hfz179_0 := blk_frozen BK277.out 0
                    have hfz179_1 := blk_frozen BK277.out 1
                    have hfz179_2 := blk_frozen BK277.out 2
                    go_wp2
                    go_ret
                    exact ⟨by first | rfl | (simp [errW_none, errW_some] <;> rfl) | (simp [*, errW_none, errW_some] <;> rfl), by repeat (first | (with_reducible first | exact HB.out | apply below_alloc | apply pw_below_drewN | apply below_drew1 | refine below_set ?_ GE245.out | refine below_set ?_ GE246.out | refine below_set ?_ GE252.out | refine below_set ?_ GE257.out | refine below_set ?_ GE262.out | refine below_set ?_ GE267.out | refine below_set ?_ GE272.out | refine below_set ?_ GE277.out) | exact HB.out)⟩
                  · rw [if_neg c143] at H
                    have c143b0 : (t269 == (wrap64 (t259 + t254))) = false := beq_eq_false_iff_ne.mpr c143
                    have c143b1 : (t269 != (wrap64 (t259 + t254))) = true := bne_iff_ne.mpr c143
                    exact absurd (Option.some.inj H) (fun h_ => absurd (h_.trans HRT.out) (by decide))
                · rw [if_neg c142] at H
                  have c142b0 : (t264 == (wrap64 (t249 + t254))) = false := beq_eq_false_iff_ne.mpr c142
                  have c142b1 : (t264 != (wrap64 (t249 + t254))) = true := bne_iff_ne.mpr c142
                  exact absurd (Option.some.inj H) (fun h_ => absurd (h_.trans HRT.out) (by decide))
              · rw [if_neg c141] at H
                have c141b0 : ((wrap64 ((wrap64 (t249 + t254)) + t259)) == 1) = false := beq_eq_false_iff_ne.mpr c141
                have c141b1 : ((wrap64 ((wrap64 (t249 + t254)) + t259)) != 1) = true := bne_iff_ne.mpr c141
                exact absurd (Option.some.inj H) (fun h_ => absurd (h_.trans HRT.out) (by decide))
            · replace c140 := Bool.eq_false_iff.mpr c140
              subst c140
              have H1 : (some false) = some r := by rw [if_neg (show ¬ (false = true) by decide)] at H; exact H
              clear H
              have H := H1
              clear H1
              exact absurd (Option.some.inj H) (fun h_ => absurd (h_.trans HRT.out) (by decide))

/-- THE ONE PURE STATEMENT of weathercocklaw01_ValueTests: ours. -/
def weathercocklaw01_ValueTests.Pure : Prop := ∀ (a0_0 : Int) (a0_1 : Int) (a0_2 : ByteArray) (a1_0 : Int) (a1_1 : Int) (a1_2 : ByteArray), ((Lit.int .i64 a0_0).wf = true) → ((Lit.int .i64 a0_1).wf = true) → (a0_2.size ≤ 140737488351232) → ((Lit.int .i64 a1_0).wf = true) → ((Lit.int .i64 a1_1).wf = true) → (a1_2.size ≤ 140737488351232) → ∃ k, weathercocklaw01_ValueTests.f k a0_0 a0_1 a0_2 a1_0 a1_1 a1_2 = some true

end Go.Proofs.Ytihfljdcmncicaa.QValueTests
