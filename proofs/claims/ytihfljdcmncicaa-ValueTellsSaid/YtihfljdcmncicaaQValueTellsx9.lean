-- Written by wip/tools/myprint.py of this project (the kit's printer with lines replaced in memory, and texts of ours)
import Derived.Test.YtihfljdcmncicaaQValueTellsx0
import Derived.Test.YtihfljdcmncicaaQValueTellsx1
import Derived.Test.YtihfljdcmncicaaQValueTellsx2
import Derived.Test.YtihfljdcmncicaaQValueTellsx3
import Derived.Test.YtihfljdcmncicaaQValueTellsx4
import Derived.Test.YtihfljdcmncicaaQValueTellsx5
import Derived.Test.YtihfljdcmncicaaQValueTellsx6
import Derived.Test.YtihfljdcmncicaaQValueTellsx7
import Derived.Test.YtihfljdcmncicaaQValueTellsx8
namespace Go.Proofs.Ytihfljdcmncicaa.QValueTells
open Go.RowKit Go.Proofs.YtihfljdcmncicaaW.PrintWords Go.Proofs.YtihfljdcmncicaaW.PrintLast Go.Proofs.YtihfljdcmncicaaW.PrintMore
attribute [local go_sem] max2_int min2_int max_two min_two max_three min_three max_four min_four   -- for this text's walks alone
set_option linter.unusedVariables false
set_option linter.unusedSimpArgs false

attribute [local go_sem high] eqA23
/-! ### weathercocklaw01_ValueTells: function 6 -/
mutual
def weathercocklaw01_ValueTells.j0 : Nat → Bool → Bool → Int → Int → ByteArray → Int → Int → ByteArray → Option (Bool)
  | 0, _, _, _, _, _, _, _, _ => none
  | k + 1, x7, x34, x301000, x301001, x301002, x302000, x302001, x302002 => if x34 = true then (some false) else ((value_And.f k x301000 x301001 x301002 x302000 x302001 x302002).bind fun bt313 => ((weathercockref01_And.f k x301000 x301001 x301002 x302000 x302001 x302002).bind fun bt317 => (if (!(bt313.1 == bt317.1) || (!(bt313.2.1 == bt317.2.1) || (!(bt313.2.2.1.toList == bt317.2.2.1.toList)))) = true then (weathercocklaw01_ValueTells.j1 k x7 true x301000 x301001 x301002 x302000 x302001 x302002) else (weathercocklaw01_ValueTells.j1 k x7 (bt313.2.2.2 != bt317.2.2.2) x301000 x301001 x301002 x302000 x302001 x302002))))
def weathercocklaw01_ValueTells.j1 : Nat → Bool → Bool → Int → Int → ByteArray → Int → Int → ByteArray → Option (Bool)
  | 0, _, _, _, _, _, _, _, _ => none
  | k + 1, x7, x54, x301000, x301001, x301002, x302000, x302001, x302002 => if x54 = true then (some false) else ((value_Or.f k x301000 x301001 x301002 x302000 x302001 x302002).bind fun bt321 => ((weathercockref01_Or.f k x301000 x301001 x301002 x302000 x302001 x302002).bind fun bt325 => (if (!(bt321.1 == bt325.1) || (!(bt321.2.1 == bt325.2.1) || (!(bt321.2.2.1.toList == bt325.2.2.1.toList)))) = true then (weathercocklaw01_ValueTells.j2 k x7 true x301000 x301001 x301002 x302000 x302001 x302002) else (weathercocklaw01_ValueTells.j2 k x7 (bt321.2.2.2 != bt325.2.2.2) x301000 x301001 x301002 x302000 x302001 x302002))))
def weathercocklaw01_ValueTells.j2 : Nat → Bool → Bool → Int → Int → ByteArray → Int → Int → ByteArray → Option (Bool)
  | 0, _, _, _, _, _, _, _, _ => none
  | k + 1, x7, x74, x301000, x301001, x301002, x302000, x302001, x302002 => if x74 = true then (some false) else ((value_Not.f k x301000 x301001 x301002).bind fun bt329 => ((weathercockref01_Not.f x301000 x301001 x301002).bind fun bt333 => (if x7 = true then (if (bt329.1 == bt333.1 && (bt329.2.1 == bt333.2.1 && (bt329.2.2.1.toList == bt333.2.2.1.toList))) = true then (if bt329.2.2.2 = bt333.2.2.2 then ((value_Right.f x301000 x301001 x301002).bind fun t337 => ((weathercockref01_Right.f x301000 x301001 x301002).bind fun t338 => (if (t337 == t338) = true then ((value_Compare.f k x301000 x301001 x301002 x302000 x302001 x302002).bind fun t339 => ((weathercockref01_Compare.f x301000 x301001 x301002 x302000 x302001 x302002).bind fun t340 => (some (t339 == t340)))) else (some false)))) else (some false)) else (some false)) else (some false))))
end
def weathercocklaw01_ValueTells.f (k : Nat) (a0 : Int) (a1_0 : Int) (a1_1 : Int) (a1_2 : ByteArray) (a2_0 : Int) (a2_1 : Int) (a2_2 : ByteArray) : Option (Bool) := (weathercocklaw01_examples.f k).bind fun t302 => ((value_Test.f k a0 a1_0 a1_1 a1_2 a2_0 a2_1 a2_2).bind fun bt303 => ((weathercockref01_Test.f k a0 a1_0 a1_1 a1_2 a2_0 a2_1 a2_2).bind fun bt308 => (if (!(bt303.1 == bt308.1) || (!(bt303.2.1 == bt308.2.1) || (!(bt303.2.2.1.toList == bt308.2.2.1.toList)))) = true then (weathercocklaw01_ValueTells.j0 k t302 true a1_0 a1_1 a1_2 a2_0 a2_1 a2_2) else (weathercocklaw01_ValueTells.j0 k t302 (bt303.2.2.2 != bt308.2.2.2) a1_0 a1_1 a1_2 a2_0 a2_1 a2_2))))
theorem weathercocklaw01_ValueTells.mono_l : ∀ k, (∀ y0 y1 y2 y3 y4 y5 y6 y7, LeO (weathercocklaw01_ValueTells.j0 k y0 y1 y2 y3 y4 y5 y6 y7) (weathercocklaw01_ValueTells.j0 (k + 1) y0 y1 y2 y3 y4 y5 y6 y7)) ∧ (∀ y0 y1 y2 y3 y4 y5 y6 y7, LeO (weathercocklaw01_ValueTells.j1 k y0 y1 y2 y3 y4 y5 y6 y7) (weathercocklaw01_ValueTells.j1 (k + 1) y0 y1 y2 y3 y4 y5 y6 y7)) ∧ (∀ y0 y1 y2 y3 y4 y5 y6 y7, LeO (weathercocklaw01_ValueTells.j2 k y0 y1 y2 y3 y4 y5 y6 y7) (weathercocklaw01_ValueTells.j2 (k + 1) y0 y1 y2 y3 y4 y5 y6 y7))
  | 0 => ⟨fun _ _ _ _ _ _ _ _ r h => by simp [weathercocklaw01_ValueTells.j0] at h, fun _ _ _ _ _ _ _ _ r h => by simp [weathercocklaw01_ValueTells.j1] at h, fun _ _ _ _ _ _ _ _ r h => by simp [weathercocklaw01_ValueTells.j2] at h⟩
  | k + 1 => by
    obtain ⟨ih0, ih1, ih2⟩ := weathercocklaw01_ValueTells.mono_l k
    refine ⟨?_, ?_, ?_⟩
    · intro y0 y1 y2 y3 y4 y5 y6 y7
      unfold weathercocklaw01_ValueTells.j0
      repeat' first
      | (with_reducible exact ih0 _ _ _ _ _ _ _ _)
      | (with_reducible exact ih1 _ _ _ _ _ _ _ _)
      | (with_reducible exact ih2 _ _ _ _ _ _ _ _)
      | (with_reducible exact value_And.mono _ _ _ _ _ _ _)
      | (with_reducible exact value_Compare.mono _ _ _ _ _ _ _)
      | (with_reducible exact value_Not.mono _ _ _ _)
      | (with_reducible exact value_Or.mono _ _ _ _ _ _ _)
      | (with_reducible exact value_Test.mono _ _ _ _ _ _ _ _)
      | (with_reducible exact weathercocklaw01_examples.mono _)
      | (with_reducible exact weathercockref01_And.mono _ _ _ _ _ _ _)
      | (with_reducible exact weathercockref01_Or.mono _ _ _ _ _ _ _)
      | (with_reducible exact weathercockref01_Test.mono _ _ _ _ _ _ _ _)
      | (with_reducible exact LeO.refl _)
      | (with_reducible exact LeO.none _)
      | (with_reducible refine LeO.ite ?_ ?_)
      | (with_reducible refine LeO.bind ?_ (fun _ => ?_))
      | exact ih0 _ _ _ _ _ _ _ _
      | exact ih1 _ _ _ _ _ _ _ _
      | exact ih2 _ _ _ _ _ _ _ _
      | exact value_And.mono _ _ _ _ _ _ _
      | exact value_Compare.mono _ _ _ _ _ _ _
      | exact value_Not.mono _ _ _ _
      | exact value_Or.mono _ _ _ _ _ _ _
      | exact value_Test.mono _ _ _ _ _ _ _ _
      | exact weathercocklaw01_examples.mono _
      | exact weathercockref01_And.mono _ _ _ _ _ _ _
      | exact weathercockref01_Or.mono _ _ _ _ _ _ _
      | exact weathercockref01_Test.mono _ _ _ _ _ _ _ _
      | exact LeO.none _
      | refine LeO.ite ?_ ?_
      | refine LeO.bind ?_ (fun _ => ?_)
    · intro y0 y1 y2 y3 y4 y5 y6 y7
      unfold weathercocklaw01_ValueTells.j1
      repeat' first
      | (with_reducible exact ih0 _ _ _ _ _ _ _ _)
      | (with_reducible exact ih1 _ _ _ _ _ _ _ _)
      | (with_reducible exact ih2 _ _ _ _ _ _ _ _)
      | (with_reducible exact value_And.mono _ _ _ _ _ _ _)
      | (with_reducible exact value_Compare.mono _ _ _ _ _ _ _)
      | (with_reducible exact value_Not.mono _ _ _ _)
      | (with_reducible exact value_Or.mono _ _ _ _ _ _ _)
      | (with_reducible exact value_Test.mono _ _ _ _ _ _ _ _)
      | (with_reducible exact weathercocklaw01_examples.mono _)
      | (with_reducible exact weathercockref01_And.mono _ _ _ _ _ _ _)
      | (with_reducible exact weathercockref01_Or.mono _ _ _ _ _ _ _)
      | (with_reducible exact weathercockref01_Test.mono _ _ _ _ _ _ _ _)
      | (with_reducible exact LeO.refl _)
      | (with_reducible exact LeO.none _)
      | (with_reducible refine LeO.ite ?_ ?_)
      | (with_reducible refine LeO.bind ?_ (fun _ => ?_))
      | exact ih0 _ _ _ _ _ _ _ _
      | exact ih1 _ _ _ _ _ _ _ _
      | exact ih2 _ _ _ _ _ _ _ _
      | exact value_And.mono _ _ _ _ _ _ _
      | exact value_Compare.mono _ _ _ _ _ _ _
      | exact value_Not.mono _ _ _ _
      | exact value_Or.mono _ _ _ _ _ _ _
      | exact value_Test.mono _ _ _ _ _ _ _ _
      | exact weathercocklaw01_examples.mono _
      | exact weathercockref01_And.mono _ _ _ _ _ _ _
      | exact weathercockref01_Or.mono _ _ _ _ _ _ _
      | exact weathercockref01_Test.mono _ _ _ _ _ _ _ _
      | exact LeO.none _
      | refine LeO.ite ?_ ?_
      | refine LeO.bind ?_ (fun _ => ?_)
    · intro y0 y1 y2 y3 y4 y5 y6 y7
      unfold weathercocklaw01_ValueTells.j2
      repeat' first
      | (with_reducible exact ih0 _ _ _ _ _ _ _ _)
      | (with_reducible exact ih1 _ _ _ _ _ _ _ _)
      | (with_reducible exact ih2 _ _ _ _ _ _ _ _)
      | (with_reducible exact value_And.mono _ _ _ _ _ _ _)
      | (with_reducible exact value_Compare.mono _ _ _ _ _ _ _)
      | (with_reducible exact value_Not.mono _ _ _ _)
      | (with_reducible exact value_Or.mono _ _ _ _ _ _ _)
      | (with_reducible exact value_Test.mono _ _ _ _ _ _ _ _)
      | (with_reducible exact weathercocklaw01_examples.mono _)
      | (with_reducible exact weathercockref01_And.mono _ _ _ _ _ _ _)
      | (with_reducible exact weathercockref01_Or.mono _ _ _ _ _ _ _)
      | (with_reducible exact weathercockref01_Test.mono _ _ _ _ _ _ _ _)
      | (with_reducible exact LeO.refl _)
      | (with_reducible exact LeO.none _)
      | (with_reducible refine LeO.ite ?_ ?_)
      | (with_reducible refine LeO.bind ?_ (fun _ => ?_))
      | exact ih0 _ _ _ _ _ _ _ _
      | exact ih1 _ _ _ _ _ _ _ _
      | exact ih2 _ _ _ _ _ _ _ _
      | exact value_And.mono _ _ _ _ _ _ _
      | exact value_Compare.mono _ _ _ _ _ _ _
      | exact value_Not.mono _ _ _ _
      | exact value_Or.mono _ _ _ _ _ _ _
      | exact value_Test.mono _ _ _ _ _ _ _ _
      | exact weathercocklaw01_examples.mono _
      | exact weathercockref01_And.mono _ _ _ _ _ _ _
      | exact weathercockref01_Or.mono _ _ _ _ _ _ _
      | exact weathercockref01_Test.mono _ _ _ _ _ _ _ _
      | exact LeO.none _
      | refine LeO.ite ?_ ?_
      | refine LeO.bind ?_ (fun _ => ?_)
theorem weathercocklaw01_ValueTells.mono : ∀ a0 a1 a2 a3 a4 a5 a6 k, LeO (weathercocklaw01_ValueTells.f k a0 a1 a2 a3 a4 a5 a6) (weathercocklaw01_ValueTells.f (k + 1) a0 a1 a2 a3 a4 a5 a6) := by
  intro a0 a1 a2 a3 a4 a5 a6 k
  obtain ⟨ih0, ih1, ih2⟩ := weathercocklaw01_ValueTells.mono_l k
  unfold weathercocklaw01_ValueTells.f
  repeat' first
      | (with_reducible exact ih0 _ _ _ _ _ _ _ _)
      | (with_reducible exact ih1 _ _ _ _ _ _ _ _)
      | (with_reducible exact ih2 _ _ _ _ _ _ _ _)
      | (with_reducible exact value_And.mono _ _ _ _ _ _ _)
      | (with_reducible exact value_Compare.mono _ _ _ _ _ _ _)
      | (with_reducible exact value_Not.mono _ _ _ _)
      | (with_reducible exact value_Or.mono _ _ _ _ _ _ _)
      | (with_reducible exact value_Test.mono _ _ _ _ _ _ _ _)
      | (with_reducible exact weathercocklaw01_examples.mono _)
      | (with_reducible exact weathercockref01_And.mono _ _ _ _ _ _ _)
      | (with_reducible exact weathercockref01_Or.mono _ _ _ _ _ _ _)
      | (with_reducible exact weathercockref01_Test.mono _ _ _ _ _ _ _ _)
      | (with_reducible exact LeO.refl _)
      | (with_reducible exact LeO.none _)
      | (with_reducible refine LeO.ite ?_ ?_)
      | (with_reducible refine LeO.bind ?_ (fun _ => ?_))
      | exact ih0 _ _ _ _ _ _ _ _
      | exact ih1 _ _ _ _ _ _ _ _
      | exact ih2 _ _ _ _ _ _ _ _
      | exact value_And.mono _ _ _ _ _ _ _
      | exact value_Compare.mono _ _ _ _ _ _ _
      | exact value_Not.mono _ _ _ _
      | exact value_Or.mono _ _ _ _ _ _ _
      | exact value_Test.mono _ _ _ _ _ _ _ _
      | exact weathercocklaw01_examples.mono _
      | exact weathercockref01_And.mono _ _ _ _ _ _ _
      | exact weathercockref01_Or.mono _ _ _ _ _ _ _
      | exact weathercockref01_Test.mono _ _ _ _ _ _ _ _
      | exact LeO.none _
      | refine LeO.ite ?_ ?_
      | refine LeO.bind ?_ (fun _ => ?_)
def weathercocklaw01_ValueTells.T16 : Bool × List (List Nat × List Nat) := (true, [([], []), ([0], [0]), ([1], [1]), ([1], [1]), ([2, 3, 1], [1, 2, 3]), ([1, 4], [1, 4]), ([5, 1], [5]), ([6], [6]), ([6], [6]), ([7, 8, 6], [6, 7, 8]), ([6, 9], [6, 9]), ([10, 6], [10]), ([11], [11]), ([12, 11, 11], [11, 12]), ([11], [11]), ([14, 13, 11], [11, 14]), ([13, 15, 11], [11, 13, 15]), ([11, 16], [11, 16]), ([17, 15], [17]), ([18], [18]), ([18], [18]), ([19, 20, 18, 18], [18, 19, 20]), ([18], [18]), ([18], [18]), ([22, 23, 21, 18], [18, 22, 23]), ([21, 24, 18], [18, 21, 24]), ([18, 25], [18, 25]), ([26, 24, 0, 1, 2, 3, 4, 5, 6, 7, 8, 9, 10, 11, 12, 13, 14, 15, 16, 17, 18, 19, 20, 21, 22, 23, 24, 25, 26], [26])])
def weathercocklaw01_ValueTells.B16 : List Nat := [0, 1, 3, 3, 15, 31, 63, 127, 127, 511, 1023, 2047, 4095, 8191, 4095, 32767, 65535, 131071, 262143, 524287, 524287, 2097151, 524287, 524287, 16777215, 33554431, 67108863, 134217727]
theorem weathercocklaw01_ValueTells.tab16 : rtab .any (opsOf Try.f6 16) = weathercocklaw01_ValueTells.T16 := by kernel_rfl
theorem weathercocklaw01_ValueTells.bits16 : waitsOk weathercocklaw01_ValueTells.T16.2 weathercocklaw01_ValueTells.B16 = true := by kernel_rfl
set_option maxHeartbeats 8000000 in
set_option maxRecDepth 100000 in
theorem weathercocklaw01_ValueTells.calls (k : Nat) (a0 : Int) (a1_0 : Int) (a1_1 : Int) (a1_2 : ByteArray) (a2_0 : Int) (a2_1 : Int) (a2_2 : ByteArray) (r : Bool) (w : World) (h : weathercocklaw01_ValueTells.f k a0 a1_0 a1_1 a1_2 a2_0 a2_1 a2_2 = some r) (hrt : r = true) :
    Calls Try.prog 6 #[.int .i64 a0, .agg #[.int .i64 a1_0, .int .i64 a1_1, .string a1_2], .agg #[.int .i64 a2_0, .int .i64 a2_1, .string a2_2]] w fun e w' => e = .returned (.bool r) ∧ Below w.heap.size w w' := by
  have HRT := Aside0.mk hrt
  clear hrt
  have hu23 := Try.underlying23
  have HB := Aside0.mk (Below.refl w.heap.size w)
  have H : ((weathercocklaw01_examples.f k).bind fun t302 => ((value_Test.f k a0 a1_0 a1_1 a1_2 a2_0 a2_1 a2_2).bind fun bt303 => ((weathercockref01_Test.f k a0 a1_0 a1_1 a1_2 a2_0 a2_1 a2_2).bind fun bt308 => (if (!(bt303.1 == bt308.1) || (!(bt303.2.1 == bt308.2.1) || (!(bt303.2.2.1.toList == bt308.2.2.1.toList)))) = true then (weathercocklaw01_ValueTells.j0 k t302 true a1_0 a1_1 a1_2 a2_0 a2_1 a2_2) else (weathercocklaw01_ValueTells.j0 k t302 (bt303.2.2.2 != bt308.2.2.2) a1_0 a1_1 a1_2 a2_0 a2_1 a2_2))))) = some r := h
  clear h
  replace H := Option.bind_eq_some_iff.mp H
  obtain ⟨t302, A40, H⟩ := H
  replace H : ((value_Test.f k a0 a1_0 a1_1 a1_2 a2_0 a2_1 a2_2).bind fun bt303 => ((weathercockref01_Test.f k a0 a1_0 a1_1 a1_2 a2_0 a2_1 a2_2).bind fun bt308 => (if (!(bt303.1 == bt308.1) || (!(bt303.2.1 == bt308.2.1) || (!(bt303.2.2.1.toList == bt308.2.2.1.toList)))) = true then (weathercocklaw01_ValueTells.j0 k t302 true a1_0 a1_1 a1_2 a2_0 a2_1 a2_2) else (weathercocklaw01_ValueTells.j0 k t302 (bt303.2.2.2 != bt308.2.2.2) a1_0 a1_1 a1_2 a2_0 a2_1 a2_2)))) = some r := H
  have A4 := Aside0.mk A40
  clear A40
  replace H := Option.bind_eq_some_iff.mp H
  obtain ⟨⟨t303, t304, t305, t306⟩, A50, H⟩ := H
  replace H : ((weathercockref01_Test.f k a0 a1_0 a1_1 a1_2 a2_0 a2_1 a2_2).bind fun bt308 => (if (!(t303 == bt308.1) || (!(t304 == bt308.2.1) || (!(t305.toList == bt308.2.2.1.toList)))) = true then (weathercocklaw01_ValueTells.j0 k t302 true a1_0 a1_1 a1_2 a2_0 a2_1 a2_2) else (weathercocklaw01_ValueTells.j0 k t302 (t306 != bt308.2.2.2) a1_0 a1_1 a1_2 a2_0 a2_1 a2_2))) = some r := H
  have A5 := Aside0.mk A50
  clear A50
  replace H := Option.bind_eq_some_iff.mp H
  obtain ⟨⟨t308, t309, t310, t311⟩, A60, H⟩ := H
  replace H : (if (!(t303 == t308) || (!(t304 == t309) || (!(t305.toList == t310.toList)))) = true then (weathercocklaw01_ValueTells.j0 k t302 true a1_0 a1_1 a1_2 a2_0 a2_1 a2_2) else (weathercocklaw01_ValueTells.j0 k t302 (t306 != t311) a1_0 a1_1 a1_2 a2_0 a2_1 a2_2)) = some r := H
  have A6 := Aside0.mk A60
  clear A60
  have HC7 := Aside0.mk H
  clear H
  go_enter Try.func6, Try.ntmps6
  go_upto_region 4 with (first | ((with_reducible refine gate_dst (N := 4) rfl ?_); refine box_event ?hg (N := 4) ?hd (cs := #[.int .i64 a1_0, .int .i64 a1_1, .string a1_2]) (t := 23) ?hr ?_; (case hd => rfl); (case hg => rfl); (case hr => first | (go_simp; done) | (go_simp; rfl)); intro gb300 hg w8 hbox hb; have n0_ := Aside0.mk (below_step (by repeat (first | (with_reducible first | exact HB.out | apply below_alloc | apply pw_below_drewN | apply below_drew1) | exact HB.out)) hb); have n1_ := Aside0.mk (hbox); have n2_ := Aside0.mk ((by rw [hg]; exact (below_size (by repeat (first | (with_reducible first | exact HB.out | apply below_alloc | apply pw_below_drewN | apply below_drew1) | exact HB.out))) : w.heap.size ≤ gb300)); have n3_ := Aside0.mk ((by rw [hg]; exact (below_size (by repeat (first | (with_reducible first | exact HB.out | apply below_alloc | apply pw_below_drewN | apply below_drew1) | exact HB.out))) : w.heap.size ≤ gb300)); clear HB; have HB := n0_; have BK300 := n1_; have GW300 := n2_; have GE300 := n3_; clear n0_ n1_ n2_ n3_; clear hb hbox hg) | ((with_reducible refine gate_dst (N := 5) rfl ?_); refine box_event ?hg (N := 5) ?hd (cs := #[.int .i64 a2_0, .int .i64 a2_1, .string a2_2]) (t := 23) ?hr ?_; (case hd => rfl); (case hg => rfl); (case hr => first | (go_simp; done) | (go_simp; rfl)); intro gb301 hg w9 hbox hb; have n0_ := Aside0.mk (blk_below (g := gb300) (o := .cells #[.int .i64 a1_0, .int .i64 a1_1, .string a1_2] 23 (0, 0)) (by (with_reducible repeat (first | refine blk_drewN ?_ _ | refine blk_drew ?_ | refine blk_alloc ?_ _)); exact BK300.out) hb); have n1_ := Aside0.mk (below_step (by repeat (first | (with_reducible first | exact HB.out | apply below_alloc | apply pw_below_drewN | apply below_drew1 | refine below_set ?_ GE300.out) | exact HB.out)) hb); have n2_ := Aside0.mk (hbox); have n3_ := Aside0.mk ((by rw [hg]; exact (below_size (by repeat (first | (with_reducible first | exact HB.out | apply below_alloc | apply pw_below_drewN | apply below_drew1 | refine below_set ?_ GE300.out) | exact HB.out))) : w.heap.size ≤ gb301)); have n4_ := Aside0.mk ((by rw [hg]; exact (below_size (by repeat (first | (with_reducible first | exact HB.out | apply below_alloc | apply pw_below_drewN | apply below_drew1 | refine below_set ?_ GE300.out) | exact HB.out))) : w.heap.size ≤ gb301)); have n5_ := Aside0.mk ((by rw [hg]; exact Nat.ne_of_lt (blk_lt (g := gb300) (o := .cells #[.int .i64 a1_0, .int .i64 a1_1, .string a1_2] 23 (0, 0)) (by (with_reducible repeat (first | refine blk_drewN ?_ _ | refine blk_drew ?_ | refine blk_alloc ?_ _)); exact BK300.out)) : gb300 ≠ gb301)); have n6_ := Aside0.mk ((by rw [hg]; exact Nat.ne_of_gt (blk_lt (g := gb300) (o := .cells #[.int .i64 a1_0, .int .i64 a1_1, .string a1_2] 23 (0, 0)) (by (with_reducible repeat (first | refine blk_drewN ?_ _ | refine blk_drew ?_ | refine blk_alloc ?_ _)); exact BK300.out)) : gb301 ≠ gb300)); clear BK300; clear HB; have BK300 := n0_; have HB := n1_; have BK301 := n2_; have GW301 := n3_; have GE301 := n4_; have NB300_301 := n5_; have NB301_300 := n6_; clear n0_ n1_ n2_ n3_ n4_ n5_ n6_; clear hb hbox hg) | ((with_reducible refine gate_callee (f := 10) rfl ?_); refine goesL_ (some 12) rfl rfl Try.func10 (by kernel_rfl) rfl #[] rfl (by (try simp only [List.map_toArray, List.map_cons, List.map_nil]); first | done | rfl | (simp only [List.length_drop, List.length_take]; rfl)) ?_; (with_reducible refine (weathercocklaw01_examples.calls k  t302 _ A4.out).mono ?_); rintro e w10 ⟨rfl, hb⟩; refine ⟨_, rfl, ?_⟩; have n0_ := Aside0.mk (blk_below (g := gb300) (o := .cells #[.int .i64 a1_0, .int .i64 a1_1, .string a1_2] 23 (0, 0)) (by (with_reducible repeat (first | refine blk_drewN ?_ _ | refine blk_drew ?_ | refine blk_alloc ?_ _)); exact BK300.out) hb); have n1_ := Aside0.mk (blk_below (g := gb301) (o := .cells #[.int .i64 a2_0, .int .i64 a2_1, .string a2_2] 23 (0, 0)) (by (with_reducible repeat (first | refine blk_drewN ?_ _ | refine blk_drew ?_ | refine blk_alloc ?_ _)); exact BK301.out) hb); have n2_ := Aside0.mk (below_step (by repeat (first | (with_reducible first | exact HB.out | apply below_alloc | apply pw_below_drewN | apply below_drew1 | refine below_set ?_ GE300.out | refine below_set ?_ GE301.out) | exact HB.out)) hb); clear BK300; clear BK301; clear HB; have BK300 := n0_; have BK301 := n1_; have HB := n2_; clear n0_ n1_ n2_; (try clear hb); (try clear hb2); (try clear hk); (try clear hi); have hnb11 := NB300_301.out; have hnc11 := NB301_300.out; have hcz12_0 : w10.cell? ⟨gb300, 0, none⟩ = some (.int .i64 a1_0) := (blk_cell BK300.out 0).trans rfl; have hcz12_1 : w10.cell? ⟨gb300, 1, none⟩ = some (.int .i64 a1_1) := (blk_cell BK300.out 1).trans rfl; have hcz12_2 : w10.cell? ⟨gb300, 2, none⟩ = some (.string a1_2) := (blk_cell BK300.out 2).trans rfl; have hfz12_0 := blk_frozen BK300.out 0; have hfz12_1 := blk_frozen BK300.out 1; have hfz12_2 := blk_frozen BK300.out 2; have hcz13_0 : w10.cell? ⟨gb301, 0, none⟩ = some (.int .i64 a2_0) := (blk_cell BK301.out 0).trans rfl; have hcz13_1 : w10.cell? ⟨gb301, 1, none⟩ = some (.int .i64 a2_1) := (blk_cell BK301.out 1).trans rfl; have hcz13_2 : w10.cell? ⟨gb301, 2, none⟩ = some (.string a2_2) := (blk_cell BK301.out 2).trans rfl; have hfz13_0 := blk_frozen BK301.out 0; have hfz13_1 := blk_frozen BK301.out 1; have hfz13_2 := blk_frozen BK301.out 2) | ((with_reducible refine gate_callee (f := 17) rfl ?_); refine goesL_ (some 17) rfl rfl Try.func17 (by kernel_rfl) rfl #[.int .i64 a0, .agg #[.int .i64 a1_0, .int .i64 a1_1, .string a1_2], .agg #[.int .i64 a2_0, .int .i64 a2_1, .string a2_2]] rfl (by (try simp only [List.map_toArray, List.map_cons, List.map_nil]); first | done | rfl | (simp only [List.length_drop, List.length_take]; rfl)) ?_; (with_reducible refine (value_Test.calls k a0 a1_0 a1_1 a1_2 a2_0 a2_1 a2_2 t303 t304 t305 t306 _ A5.out).mono ?_); rintro e w14 ⟨rfl, hb⟩; refine ⟨_, rfl, ?_⟩; have n0_ := Aside0.mk (blk_below (g := gb300) (o := .cells #[.int .i64 a1_0, .int .i64 a1_1, .string a1_2] 23 (0, 0)) (by (with_reducible repeat (first | refine blk_drewN ?_ _ | refine blk_drew ?_ | refine blk_alloc ?_ _)); exact BK300.out) hb); have n1_ := Aside0.mk (blk_below (g := gb301) (o := .cells #[.int .i64 a2_0, .int .i64 a2_1, .string a2_2] 23 (0, 0)) (by (with_reducible repeat (first | refine blk_drewN ?_ _ | refine blk_drew ?_ | refine blk_alloc ?_ _)); exact BK301.out) hb); have n2_ := Aside0.mk (below_step (by repeat (first | (with_reducible first | exact HB.out | apply below_alloc | apply pw_below_drewN | apply below_drew1 | refine below_set ?_ GE300.out | refine below_set ?_ GE301.out) | exact HB.out)) hb); clear BK300; clear BK301; clear HB; have BK300 := n0_; have BK301 := n1_; have HB := n2_; clear n0_ n1_ n2_; (try clear hb); (try clear hb2); (try clear hk); (try clear hi)) | ((with_reducible refine gate_dst (N := 8) rfl ?_); refine box_event ?hg (N := 8) ?hd (cs := #[.int .i64 0, .int .i64 0, .string (⟨#[]⟩ : ByteArray)]) (t := 23) ?hr ?_; (case hd => rfl); (case hg => rfl); (case hr => first | (go_simp; done) | (go_simp; rfl)); intro gb307 hg w15 hbox hb; have n0_ := Aside0.mk (blk_below (g := gb300) (o := .cells #[.int .i64 a1_0, .int .i64 a1_1, .string a1_2] 23 (0, 0)) (by (with_reducible repeat (first | refine blk_drewN ?_ _ | refine blk_drew ?_ | refine blk_alloc ?_ _)); exact BK300.out) hb); have n1_ := Aside0.mk (blk_below (g := gb301) (o := .cells #[.int .i64 a2_0, .int .i64 a2_1, .string a2_2] 23 (0, 0)) (by (with_reducible repeat (first | refine blk_drewN ?_ _ | refine blk_drew ?_ | refine blk_alloc ?_ _)); exact BK301.out) hb); have n2_ := Aside0.mk (below_step (by repeat (first | (with_reducible first | exact HB.out | apply below_alloc | apply pw_below_drewN | apply below_drew1 | refine below_set ?_ GE300.out | refine below_set ?_ GE301.out) | exact HB.out)) hb); have n3_ := Aside0.mk (hbox); have n4_ := Aside0.mk ((by rw [hg]; exact (below_size (by repeat (first | (with_reducible first | exact HB.out | apply below_alloc | apply pw_below_drewN | apply below_drew1 | refine below_set ?_ GE300.out | refine below_set ?_ GE301.out) | exact HB.out))) : w.heap.size ≤ gb307)); have n5_ := Aside0.mk ((by rw [hg]; exact (below_size (by repeat (first | (with_reducible first | exact HB.out | apply below_alloc | apply pw_below_drewN | apply below_drew1 | refine below_set ?_ GE300.out | refine below_set ?_ GE301.out) | exact HB.out))) : w.heap.size ≤ gb307)); have n6_ := Aside0.mk ((by rw [hg]; exact Nat.ne_of_lt (blk_lt (g := gb300) (o := .cells #[.int .i64 a1_0, .int .i64 a1_1, .string a1_2] 23 (0, 0)) (by (with_reducible repeat (first | refine blk_drewN ?_ _ | refine blk_drew ?_ | refine blk_alloc ?_ _)); exact BK300.out)) : gb300 ≠ gb307)); have n7_ := Aside0.mk ((by rw [hg]; exact Nat.ne_of_gt (blk_lt (g := gb300) (o := .cells #[.int .i64 a1_0, .int .i64 a1_1, .string a1_2] 23 (0, 0)) (by (with_reducible repeat (first | refine blk_drewN ?_ _ | refine blk_drew ?_ | refine blk_alloc ?_ _)); exact BK300.out)) : gb307 ≠ gb300)); have n8_ := Aside0.mk ((by rw [hg]; exact Nat.ne_of_lt (blk_lt (g := gb301) (o := .cells #[.int .i64 a2_0, .int .i64 a2_1, .string a2_2] 23 (0, 0)) (by (with_reducible repeat (first | refine blk_drewN ?_ _ | refine blk_drew ?_ | refine blk_alloc ?_ _)); exact BK301.out)) : gb301 ≠ gb307)); have n9_ := Aside0.mk ((by rw [hg]; exact Nat.ne_of_gt (blk_lt (g := gb301) (o := .cells #[.int .i64 a2_0, .int .i64 a2_1, .string a2_2] 23 (0, 0)) (by (with_reducible repeat (first | refine blk_drewN ?_ _ | refine blk_drew ?_ | refine blk_alloc ?_ _)); exact BK301.out)) : gb307 ≠ gb301)); clear BK300; clear BK301; clear HB; have BK300 := n0_; have BK301 := n1_; have HB := n2_; have BK307 := n3_; have GW307 := n4_; have GE307 := n5_; have NB300_307 := n6_; have NB307_300 := n7_; have NB301_307 := n8_; have NB307_301 := n9_; clear n0_ n1_ n2_ n3_ n4_ n5_ n6_ n7_ n8_ n9_; clear hb hbox hg; have hnb16 := NB307_300.out; have hnc16 := NB300_307.out; have hnb17 := NB307_301.out; have hnc17 := NB301_307.out; have hcz18_0 : w15.cell? ⟨gb307, 0, none⟩ = some (.int .i64 0) := (blk_cell BK307.out 0).trans rfl; have hcz18_1 : w15.cell? ⟨gb307, 1, none⟩ = some (.int .i64 0) := (blk_cell BK307.out 1).trans rfl; have hcz18_2 : w15.cell? ⟨gb307, 2, none⟩ = some (.string (⟨#[]⟩ : ByteArray)) := (blk_cell BK307.out 2).trans rfl; have hfz18_0 := blk_frozen BK307.out 0; have hfz18_1 := blk_frozen BK307.out 1; have hfz18_2 := blk_frozen BK307.out 2; have hcz19_0 : w15.cell? ⟨gb300, 0, none⟩ = some (.int .i64 a1_0) := (blk_cell BK300.out 0).trans rfl; have hcz19_1 : w15.cell? ⟨gb300, 1, none⟩ = some (.int .i64 a1_1) := (blk_cell BK300.out 1).trans rfl; have hcz19_2 : w15.cell? ⟨gb300, 2, none⟩ = some (.string a1_2) := (blk_cell BK300.out 2).trans rfl; have hfz19_0 := blk_frozen BK300.out 0; have hfz19_1 := blk_frozen BK300.out 1; have hfz19_2 := blk_frozen BK300.out 2; have hcz20_0 : w15.cell? ⟨gb301, 0, none⟩ = some (.int .i64 a2_0) := (blk_cell BK301.out 0).trans rfl; have hcz20_1 : w15.cell? ⟨gb301, 1, none⟩ = some (.int .i64 a2_1) := (blk_cell BK301.out 1).trans rfl; have hcz20_2 : w15.cell? ⟨gb301, 2, none⟩ = some (.string a2_2) := (blk_cell BK301.out 2).trans rfl; have hfz20_0 := blk_frozen BK301.out 0; have hfz20_1 := blk_frozen BK301.out 1; have hfz20_2 := blk_frozen BK301.out 2) | ((with_reducible refine gate_callee (f := 18) rfl ?_); refine goesL_ (some 24) rfl rfl Try.func18 (by kernel_rfl) rfl #[.int .i64 a0, .agg #[.int .i64 a1_0, .int .i64 a1_1, .string a1_2], .agg #[.int .i64 a2_0, .int .i64 a2_1, .string a2_2]] rfl (by (try simp only [List.map_toArray, List.map_cons, List.map_nil]); first | done | rfl | (simp only [List.length_drop, List.length_take]; rfl)) ?_; (with_reducible refine (weathercockref01_Test.calls k a0 a1_0 a1_1 a1_2 a2_0 a2_1 a2_2 t308 t309 t310 t311 _ A6.out).mono ?_); rintro e w21 ⟨rfl, hb⟩; refine ⟨_, rfl, ?_⟩; have n0_ := Aside0.mk (blk_below (g := gb300) (o := .cells #[.int .i64 a1_0, .int .i64 a1_1, .string a1_2] 23 (0, 0)) (by (with_reducible repeat (first | refine blk_drewN ?_ _ | refine blk_drew ?_ | refine blk_alloc ?_ _)); refine blk_far ?_ NB300_307.out _; (with_reducible repeat (first | refine blk_drewN ?_ _ | refine blk_drew ?_ | refine blk_alloc ?_ _)); refine blk_far ?_ NB300_307.out _; (with_reducible repeat (first | refine blk_drewN ?_ _ | refine blk_drew ?_ | refine blk_alloc ?_ _)); refine blk_far ?_ NB300_307.out _; (with_reducible repeat (first | refine blk_drewN ?_ _ | refine blk_drew ?_ | refine blk_alloc ?_ _)); exact BK300.out) hb); have n1_ := Aside0.mk (blk_below (g := gb301) (o := .cells #[.int .i64 a2_0, .int .i64 a2_1, .string a2_2] 23 (0, 0)) (by (with_reducible repeat (first | refine blk_drewN ?_ _ | refine blk_drew ?_ | refine blk_alloc ?_ _)); refine blk_far ?_ NB301_307.out _; (with_reducible repeat (first | refine blk_drewN ?_ _ | refine blk_drew ?_ | refine blk_alloc ?_ _)); refine blk_far ?_ NB301_307.out _; (with_reducible repeat (first | refine blk_drewN ?_ _ | refine blk_drew ?_ | refine blk_alloc ?_ _)); refine blk_far ?_ NB301_307.out _; (with_reducible repeat (first | refine blk_drewN ?_ _ | refine blk_drew ?_ | refine blk_alloc ?_ _)); exact BK301.out) hb); have n2_ := Aside0.mk (blk_below (g := gb307) (o := .cells #[.int .i64 t303, .int .i64 t304, .string t305] 23 (0, 0)) (by (with_reducible repeat (first | refine blk_drewN ?_ _ | refine blk_drew ?_ | refine blk_alloc ?_ _)); refine blk_put (cs := #[.int .i64 t303, .int .i64 t304, .string (⟨#[]⟩ : ByteArray)]) ?_ 2 _ rfl; (with_reducible repeat (first | refine blk_drewN ?_ _ | refine blk_drew ?_ | refine blk_alloc ?_ _)); refine blk_put (cs := #[.int .i64 t303, .int .i64 0, .string (⟨#[]⟩ : ByteArray)]) ?_ 1 _ rfl; (with_reducible repeat (first | refine blk_drewN ?_ _ | refine blk_drew ?_ | refine blk_alloc ?_ _)); refine blk_put (cs := #[.int .i64 0, .int .i64 0, .string (⟨#[]⟩ : ByteArray)]) ?_ 0 _ rfl; (with_reducible repeat (first | refine blk_drewN ?_ _ | refine blk_drew ?_ | refine blk_alloc ?_ _)); exact BK307.out) hb); have n3_ := Aside0.mk (below_step (by repeat (first | (with_reducible first | exact HB.out | apply below_alloc | apply pw_below_drewN | apply below_drew1 | refine below_set ?_ GE300.out | refine below_set ?_ GE301.out | refine below_set ?_ GE307.out) | exact HB.out)) hb); clear BK300; clear BK301; clear BK307; clear HB; have BK300 := n0_; have BK301 := n1_; have BK307 := n2_; have HB := n3_; clear n0_ n1_ n2_ n3_; (try clear hb); (try clear hb2); (try clear hk); (try clear hi)) | ((with_reducible refine gate_dst (N := 10) rfl ?_); refine box_event ?hg (N := 10) ?hd (cs := #[.int .i64 0, .int .i64 0, .string (⟨#[]⟩ : ByteArray)]) (t := 23) ?hr ?_; (case hd => rfl); (case hg => rfl); (case hr => first | (go_simp; done) | (go_simp; rfl)); intro gb312 hg w22 hbox hb; have n0_ := Aside0.mk (blk_below (g := gb300) (o := .cells #[.int .i64 a1_0, .int .i64 a1_1, .string a1_2] 23 (0, 0)) (by (with_reducible repeat (first | refine blk_drewN ?_ _ | refine blk_drew ?_ | refine blk_alloc ?_ _)); exact BK300.out) hb); have n1_ := Aside0.mk (blk_below (g := gb301) (o := .cells #[.int .i64 a2_0, .int .i64 a2_1, .string a2_2] 23 (0, 0)) (by (with_reducible repeat (first | refine blk_drewN ?_ _ | refine blk_drew ?_ | refine blk_alloc ?_ _)); exact BK301.out) hb); have n2_ := Aside0.mk (blk_below (g := gb307) (o := .cells #[.int .i64 t303, .int .i64 t304, .string t305] 23 (0, 0)) (by (with_reducible repeat (first | refine blk_drewN ?_ _ | refine blk_drew ?_ | refine blk_alloc ?_ _)); exact BK307.out) hb); have n3_ := Aside0.mk (below_step (by repeat (first | (with_reducible first | exact HB.out | apply below_alloc | apply pw_below_drewN | apply below_drew1 | refine below_set ?_ GE300.out | refine below_set ?_ GE301.out | refine below_set ?_ GE307.out) | exact HB.out)) hb); have n4_ := Aside0.mk (hbox); have n5_ := Aside0.mk ((by rw [hg]; exact (below_size (by repeat (first | (with_reducible first | exact HB.out | apply below_alloc | apply pw_below_drewN | apply below_drew1 | refine below_set ?_ GE300.out | refine below_set ?_ GE301.out | refine below_set ?_ GE307.out) | exact HB.out))) : w.heap.size ≤ gb312)); have n6_ := Aside0.mk ((by rw [hg]; exact (below_size (by repeat (first | (with_reducible first | exact HB.out | apply below_alloc | apply pw_below_drewN | apply below_drew1 | refine below_set ?_ GE300.out | refine below_set ?_ GE301.out | refine below_set ?_ GE307.out) | exact HB.out))) : w.heap.size ≤ gb312)); have n7_ := Aside0.mk ((by rw [hg]; exact Nat.ne_of_lt (blk_lt (g := gb300) (o := .cells #[.int .i64 a1_0, .int .i64 a1_1, .string a1_2] 23 (0, 0)) (by (with_reducible repeat (first | refine blk_drewN ?_ _ | refine blk_drew ?_ | refine blk_alloc ?_ _)); exact BK300.out)) : gb300 ≠ gb312)); have n8_ := Aside0.mk ((by rw [hg]; exact Nat.ne_of_gt (blk_lt (g := gb300) (o := .cells #[.int .i64 a1_0, .int .i64 a1_1, .string a1_2] 23 (0, 0)) (by (with_reducible repeat (first | refine blk_drewN ?_ _ | refine blk_drew ?_ | refine blk_alloc ?_ _)); exact BK300.out)) : gb312 ≠ gb300)); have n9_ := Aside0.mk ((by rw [hg]; exact Nat.ne_of_lt (blk_lt (g := gb301) (o := .cells #[.int .i64 a2_0, .int .i64 a2_1, .string a2_2] 23 (0, 0)) (by (with_reducible repeat (first | refine blk_drewN ?_ _ | refine blk_drew ?_ | refine blk_alloc ?_ _)); exact BK301.out)) : gb301 ≠ gb312)); have n10_ := Aside0.mk ((by rw [hg]; exact Nat.ne_of_gt (blk_lt (g := gb301) (o := .cells #[.int .i64 a2_0, .int .i64 a2_1, .string a2_2] 23 (0, 0)) (by (with_reducible repeat (first | refine blk_drewN ?_ _ | refine blk_drew ?_ | refine blk_alloc ?_ _)); exact BK301.out)) : gb312 ≠ gb301)); have n11_ := Aside0.mk ((by rw [hg]; exact Nat.ne_of_lt (blk_lt (g := gb307) (o := .cells #[.int .i64 t303, .int .i64 t304, .string t305] 23 (0, 0)) (by (with_reducible repeat (first | refine blk_drewN ?_ _ | refine blk_drew ?_ | refine blk_alloc ?_ _)); exact BK307.out)) : gb307 ≠ gb312)); have n12_ := Aside0.mk ((by rw [hg]; exact Nat.ne_of_gt (blk_lt (g := gb307) (o := .cells #[.int .i64 t303, .int .i64 t304, .string t305] 23 (0, 0)) (by (with_reducible repeat (first | refine blk_drewN ?_ _ | refine blk_drew ?_ | refine blk_alloc ?_ _)); exact BK307.out)) : gb312 ≠ gb307)); clear BK300; clear BK301; clear BK307; clear HB; have BK300 := n0_; have BK301 := n1_; have BK307 := n2_; have HB := n3_; have BK312 := n4_; have GW312 := n5_; have GE312 := n6_; have NB300_312 := n7_; have NB312_300 := n8_; have NB301_312 := n9_; have NB312_301 := n10_; have NB307_312 := n11_; have NB312_307 := n12_; clear n0_ n1_ n2_ n3_ n4_ n5_ n6_ n7_ n8_ n9_ n10_ n11_ n12_; clear hb hbox hg; have hnb23 := NB312_300.out; have hnc23 := NB300_312.out; have hnb24 := NB312_301.out; have hnc24 := NB301_312.out; have hnb25 := NB312_307.out; have hnc25 := NB307_312.out; have hcz26_0 : w22.cell? ⟨gb312, 0, none⟩ = some (.int .i64 0) := (blk_cell BK312.out 0).trans rfl; have hcz26_1 : w22.cell? ⟨gb312, 1, none⟩ = some (.int .i64 0) := (blk_cell BK312.out 1).trans rfl; have hcz26_2 : w22.cell? ⟨gb312, 2, none⟩ = some (.string (⟨#[]⟩ : ByteArray)) := (blk_cell BK312.out 2).trans rfl; have hfz26_0 := blk_frozen BK312.out 0; have hfz26_1 := blk_frozen BK312.out 1; have hfz26_2 := blk_frozen BK312.out 2))
  (try simp only [Act.put, List.setIfInBounds_toArray, List.set_cons_zero, List.set_cons_succ])
  go_cut [34] (fun v34 wc => ∃ (kq : Nat) (x34_6 : Bool), v34 = .bool x34_6 ∧ Aside0 (weathercocklaw01_ValueTells.j0 kq t302 x34_6 a1_0 a1_1 a1_2 a2_0 a2_1 a2_2 = some r) ∧ Aside0 (kq ≤ k) ∧ Aside0 (wc.heap[gb300]? = some (.cells #[.int .i64 a1_0, .int .i64 a1_1, .string a1_2] 23 (0, 0))) ∧ Aside0 (wc.heap[gb301]? = some (.cells #[.int .i64 a2_0, .int .i64 a2_1, .string a2_2] 23 (0, 0))) ∧ Aside0 (wc.heap[gb307]? = some (.cells #[.int .i64 t303, .int .i64 t304, .string t305] 23 (0, 0))) ∧ Aside0 (wc.heap[gb312]? = some (.cells #[.int .i64 t308, .int .i64 t309, .string t310] 23 (0, 0))) ∧ Aside0 (Below w.heap.size w wc))
  case first =>
    have H := HC7.out
    clear HC7
    by_cases c27 : (!(t303 == t308) || (!(t304 == t309) || (!(t305.toList == t310.toList)))) = true
    · rw [if_pos c27] at H
      have c27b0 : (!(t303 == t308) || (!(t304 == t309) || (!(t305.toList == t310.toList)))) = true := c27
      clear c27
      (first | rw [c27b0] | rw [c27b1] | (simp only [i64_w, i32_w]; rw [c27b0]) | skip)
      have H' := Aside0.mk H
      clear H
      have hnb28 := NB307_300.out
      have hnc28 := NB300_307.out
      have hnb29 := NB307_301.out
      have hnc29 := NB301_307.out
      have hnb30 := NB307_312.out
      have hnc30 := NB312_307.out
      have hcz31_0 : w22.cell? ⟨gb307, 0, none⟩ = some (.int .i64 t303) := (blk_cell BK307.out 0).trans rfl
      have hcz31_1 : w22.cell? ⟨gb307, 1, none⟩ = some (.int .i64 t304) := (blk_cell BK307.out 1).trans rfl
      have hcz31_2 : w22.cell? ⟨gb307, 2, none⟩ = some (.string t305) := (blk_cell BK307.out 2).trans rfl
      have hfz31_0 := blk_frozen BK307.out 0
      have hfz31_1 := blk_frozen BK307.out 1
      have hfz31_2 := blk_frozen BK307.out 2
      have hnb32 := NB312_300.out
      have hnc32 := NB300_312.out
      have hnb33 := NB312_301.out
      have hnc33 := NB301_312.out
      have hcz34_0 : w22.cell? ⟨gb312, 0, none⟩ = some (.int .i64 0) := (blk_cell BK312.out 0).trans rfl
      have hcz34_1 : w22.cell? ⟨gb312, 1, none⟩ = some (.int .i64 0) := (blk_cell BK312.out 1).trans rfl
      have hcz34_2 : w22.cell? ⟨gb312, 2, none⟩ = some (.string (⟨#[]⟩ : ByteArray)) := (blk_cell BK312.out 2).trans rfl
      have hfz34_0 := blk_frozen BK312.out 0
      have hfz34_1 := blk_frozen BK312.out 1
      have hfz34_2 := blk_frozen BK312.out 2
      go_wp2
      go_meet
      case rel => exact ⟨_, (true), (by first | rfl | (simp; done) | (simp [*]; done)), H', ⟨by first | omega | exact Nat.le_refl _⟩, ⟨by (with_reducible repeat (first | refine blk_drewN ?_ _ | refine blk_drew ?_ | refine blk_alloc ?_ _)); refine blk_far ?_ NB300_312.out _; (with_reducible repeat (first | refine blk_drewN ?_ _ | refine blk_drew ?_ | refine blk_alloc ?_ _)); refine blk_far ?_ NB300_312.out _; (with_reducible repeat (first | refine blk_drewN ?_ _ | refine blk_drew ?_ | refine blk_alloc ?_ _)); refine blk_far ?_ NB300_312.out _; (with_reducible repeat (first | refine blk_drewN ?_ _ | refine blk_drew ?_ | refine blk_alloc ?_ _)); exact BK300.out⟩, ⟨by (with_reducible repeat (first | refine blk_drewN ?_ _ | refine blk_drew ?_ | refine blk_alloc ?_ _)); refine blk_far ?_ NB301_312.out _; (with_reducible repeat (first | refine blk_drewN ?_ _ | refine blk_drew ?_ | refine blk_alloc ?_ _)); refine blk_far ?_ NB301_312.out _; (with_reducible repeat (first | refine blk_drewN ?_ _ | refine blk_drew ?_ | refine blk_alloc ?_ _)); refine blk_far ?_ NB301_312.out _; (with_reducible repeat (first | refine blk_drewN ?_ _ | refine blk_drew ?_ | refine blk_alloc ?_ _)); exact BK301.out⟩, ⟨by (with_reducible repeat (first | refine blk_drewN ?_ _ | refine blk_drew ?_ | refine blk_alloc ?_ _)); refine blk_far ?_ NB307_312.out _; (with_reducible repeat (first | refine blk_drewN ?_ _ | refine blk_drew ?_ | refine blk_alloc ?_ _)); refine blk_far ?_ NB307_312.out _; (with_reducible repeat (first | refine blk_drewN ?_ _ | refine blk_drew ?_ | refine blk_alloc ?_ _)); refine blk_far ?_ NB307_312.out _; (with_reducible repeat (first | refine blk_drewN ?_ _ | refine blk_drew ?_ | refine blk_alloc ?_ _)); exact BK307.out⟩, ⟨by (with_reducible repeat (first | refine blk_drewN ?_ _ | refine blk_drew ?_ | refine blk_alloc ?_ _)); refine blk_put (cs := #[.int .i64 t308, .int .i64 t309, .string (⟨#[]⟩ : ByteArray)]) ?_ 2 _ rfl; (with_reducible repeat (first | refine blk_drewN ?_ _ | refine blk_drew ?_ | refine blk_alloc ?_ _)); refine blk_put (cs := #[.int .i64 t308, .int .i64 0, .string (⟨#[]⟩ : ByteArray)]) ?_ 1 _ rfl; (with_reducible repeat (first | refine blk_drewN ?_ _ | refine blk_drew ?_ | refine blk_alloc ?_ _)); refine blk_put (cs := #[.int .i64 0, .int .i64 0, .string (⟨#[]⟩ : ByteArray)]) ?_ 0 _ rfl; (with_reducible repeat (first | refine blk_drewN ?_ _ | refine blk_drew ?_ | refine blk_alloc ?_ _)); exact BK312.out⟩, ⟨by repeat (first | (with_reducible first | exact HB.out | apply below_alloc | apply pw_below_drewN | apply below_drew1 | refine below_set ?_ GE300.out | refine below_set ?_ GE301.out | refine below_set ?_ GE307.out | refine below_set ?_ GE312.out) | exact HB.out)⟩⟩
    · rw [if_neg c27] at H
      have c27b0 : (!(t303 == t308) || (!(t304 == t309) || (!(t305.toList == t310.toList)))) = false := by simpa using c27
      clear c27
      (first | rw [c27b0] | rw [c27b1] | (simp only [i64_w, i32_w]; rw [c27b0]) | skip)
      have H' := Aside0.mk H
      clear H
      have hnb35 := NB307_300.out
      have hnc35 := NB300_307.out
      have hnb36 := NB307_301.out
      have hnc36 := NB301_307.out
      have hnb37 := NB307_312.out
      have hnc37 := NB312_307.out
      have hcz38_0 : w22.cell? ⟨gb307, 0, none⟩ = some (.int .i64 t303) := (blk_cell BK307.out 0).trans rfl
      have hcz38_1 : w22.cell? ⟨gb307, 1, none⟩ = some (.int .i64 t304) := (blk_cell BK307.out 1).trans rfl
      have hcz38_2 : w22.cell? ⟨gb307, 2, none⟩ = some (.string t305) := (blk_cell BK307.out 2).trans rfl
      have hfz38_0 := blk_frozen BK307.out 0
      have hfz38_1 := blk_frozen BK307.out 1
      have hfz38_2 := blk_frozen BK307.out 2
      have hnb39 := NB312_300.out
      have hnc39 := NB300_312.out
      have hnb40 := NB312_301.out
      have hnc40 := NB301_312.out
      have hcz41_0 : w22.cell? ⟨gb312, 0, none⟩ = some (.int .i64 0) := (blk_cell BK312.out 0).trans rfl
      have hcz41_1 : w22.cell? ⟨gb312, 1, none⟩ = some (.int .i64 0) := (blk_cell BK312.out 1).trans rfl
      have hcz41_2 : w22.cell? ⟨gb312, 2, none⟩ = some (.string (⟨#[]⟩ : ByteArray)) := (blk_cell BK312.out 2).trans rfl
      have hfz41_0 := blk_frozen BK312.out 0
      have hfz41_1 := blk_frozen BK312.out 1
      have hfz41_2 := blk_frozen BK312.out 2
      go_wp2
      go_meet
      case rel => exact ⟨_, ((t306 != t311)), (by first | rfl | (simp; done) | (simp [*]; done)), H', ⟨by first | omega | exact Nat.le_refl _⟩, ⟨by (with_reducible repeat (first | refine blk_drewN ?_ _ | refine blk_drew ?_ | refine blk_alloc ?_ _)); refine blk_far ?_ NB300_312.out _; (with_reducible repeat (first | refine blk_drewN ?_ _ | refine blk_drew ?_ | refine blk_alloc ?_ _)); refine blk_far ?_ NB300_312.out _; (with_reducible repeat (first | refine blk_drewN ?_ _ | refine blk_drew ?_ | refine blk_alloc ?_ _)); refine blk_far ?_ NB300_312.out _; (with_reducible repeat (first | refine blk_drewN ?_ _ | refine blk_drew ?_ | refine blk_alloc ?_ _)); exact BK300.out⟩, ⟨by (with_reducible repeat (first | refine blk_drewN ?_ _ | refine blk_drew ?_ | refine blk_alloc ?_ _)); refine blk_far ?_ NB301_312.out _; (with_reducible repeat (first | refine blk_drewN ?_ _ | refine blk_drew ?_ | refine blk_alloc ?_ _)); refine blk_far ?_ NB301_312.out _; (with_reducible repeat (first | refine blk_drewN ?_ _ | refine blk_drew ?_ | refine blk_alloc ?_ _)); refine blk_far ?_ NB301_312.out _; (with_reducible repeat (first | refine blk_drewN ?_ _ | refine blk_drew ?_ | refine blk_alloc ?_ _)); exact BK301.out⟩, ⟨by (with_reducible repeat (first | refine blk_drewN ?_ _ | refine blk_drew ?_ | refine blk_alloc ?_ _)); refine blk_far ?_ NB307_312.out _; (with_reducible repeat (first | refine blk_drewN ?_ _ | refine blk_drew ?_ | refine blk_alloc ?_ _)); refine blk_far ?_ NB307_312.out _; (with_reducible repeat (first | refine blk_drewN ?_ _ | refine blk_drew ?_ | refine blk_alloc ?_ _)); refine blk_far ?_ NB307_312.out _; (with_reducible repeat (first | refine blk_drewN ?_ _ | refine blk_drew ?_ | refine blk_alloc ?_ _)); exact BK307.out⟩, ⟨by (with_reducible repeat (first | refine blk_drewN ?_ _ | refine blk_drew ?_ | refine blk_alloc ?_ _)); refine blk_put (cs := #[.int .i64 t308, .int .i64 t309, .string (⟨#[]⟩ : ByteArray)]) ?_ 2 _ rfl; (with_reducible repeat (first | refine blk_drewN ?_ _ | refine blk_drew ?_ | refine blk_alloc ?_ _)); refine blk_put (cs := #[.int .i64 t308, .int .i64 0, .string (⟨#[]⟩ : ByteArray)]) ?_ 1 _ rfl; (with_reducible repeat (first | refine blk_drewN ?_ _ | refine blk_drew ?_ | refine blk_alloc ?_ _)); refine blk_put (cs := #[.int .i64 0, .int .i64 0, .string (⟨#[]⟩ : ByteArray)]) ?_ 0 _ rfl; (with_reducible repeat (first | refine blk_drewN ?_ _ | refine blk_drew ?_ | refine blk_alloc ?_ _)); exact BK312.out⟩, ⟨by repeat (first | (with_reducible first | exact HB.out | apply below_alloc | apply pw_below_drewN | apply below_drew1 | refine below_set ?_ GE300.out | refine below_set ?_ GE301.out | refine below_set ?_ GE307.out | refine below_set ?_ GE312.out) | exact HB.out)⟩⟩
  case rest =>
    clear HC7
    try clear c1
    try clear c2
    try clear p2
    try clear c3
    try clear c4
    try clear c6
    try clear c10
    try clear c11
    try clear c16
    try clear c17
    try clear c18
    try clear c23
    try clear c24
    try clear c25
    try clear c27
    try clear c27b0
    try clear c27b1
    try clear c28
    try clear c29
    try clear c30
    try clear c32
    try clear c33
    try clear c35
    try clear c36
    try clear c37
    try clear c39
    try clear c40
    try clear hcz12_0
    try clear hcz12_1
    try clear hcz12_2
    try clear hcz13_0
    try clear hcz13_1
    try clear hcz13_2
    try clear hcz18_0
    try clear hcz18_1
    try clear hcz18_2
    try clear hcz19_0
    try clear hcz19_1
    try clear hcz19_2
    try clear hcz20_0
    try clear hcz20_1
    try clear hcz20_2
    try clear hcz26_0
    try clear hcz26_1
    try clear hcz26_2
    try clear hcz31_0
    try clear hcz31_1
    try clear hcz31_2
    try clear hcz34_0
    try clear hcz34_1
    try clear hcz34_2
    try clear hcz38_0
    try clear hcz38_1
    try clear hcz38_2
    try clear hcz41_0
    try clear hcz41_1
    try clear hcz41_2
    try clear hfz12_0
    try clear hfz12_1
    try clear hfz12_2
    try clear hfz13_0
    try clear hfz13_1
    try clear hfz13_2
    try clear hfz18_0
    try clear hfz18_1
    try clear hfz18_2
    try clear hfz19_0
    try clear hfz19_1
    try clear hfz19_2
    try clear hfz20_0
    try clear hfz20_1
    try clear hfz20_2
    try clear hfz26_0
    try clear hfz26_1
    try clear hfz26_2
    try clear hfz31_0
    try clear hfz31_1
    try clear hfz31_2
    try clear hfz34_0
    try clear hfz34_1
    try clear hfz34_2
    try clear hfz38_0
    try clear hfz38_1
    try clear hfz38_2
    try clear hfz41_0
    try clear hfz41_1
    try clear hfz41_2
    obtain ⟨kq, x34_6, rfl, HA, HJ6, BK300, BK301, BK307, BK312, HB⟩ := hcut
    cases kq with
    | zero => exact absurd HA.out (by simp [weathercocklaw01_ValueTells.j0])
    | succ kj6 =>
      have H := HA.out
      clear HA
      simp only [weathercocklaw01_ValueTells.j0] at H
      by_cases c42 : x34_6 = true
      · subst c42
        have H1 : (some false) = some r := by rw [if_pos rfl] at H; exact H
        clear H
        have H := H1
        clear H1
        exact absurd (Option.some.inj H) (fun h_ => absurd (h_.trans HRT.out) (by decide))
      · replace c42 := Bool.eq_false_iff.mpr c42
        subst c42
        have H1 : ((value_And.f kj6 a1_0 a1_1 a1_2 a2_0 a2_1 a2_2).bind fun bt313 => ((weathercockref01_And.f kj6 a1_0 a1_1 a1_2 a2_0 a2_1 a2_2).bind fun bt317 => (if (!(bt313.1 == bt317.1) || (!(bt313.2.1 == bt317.2.1) || (!(bt313.2.2.1.toList == bt317.2.2.1.toList)))) = true then (weathercocklaw01_ValueTells.j1 kj6 t302 true a1_0 a1_1 a1_2 a2_0 a2_1 a2_2) else (weathercocklaw01_ValueTells.j1 kj6 t302 (bt313.2.2.2 != bt317.2.2.2) a1_0 a1_1 a1_2 a2_0 a2_1 a2_2)))) = some r := by rw [if_neg (show ¬ (false = true) by decide)] at H; exact H
        clear H
        have H := H1
        clear H1
        replace H := Option.bind_eq_some_iff.mp H
        obtain ⟨⟨t313, t314, t315, t316⟩, A430, H⟩ := H
        replace H : ((weathercockref01_And.f kj6 a1_0 a1_1 a1_2 a2_0 a2_1 a2_2).bind fun bt317 => (if (!(t313 == bt317.1) || (!(t314 == bt317.2.1) || (!(t315.toList == bt317.2.2.1.toList)))) = true then (weathercocklaw01_ValueTells.j1 kj6 t302 true a1_0 a1_1 a1_2 a2_0 a2_1 a2_2) else (weathercocklaw01_ValueTells.j1 kj6 t302 (t316 != bt317.2.2.2) a1_0 a1_1 a1_2 a2_0 a2_1 a2_2))) = some r := H
        have A43 := Aside0.mk A430
        clear A430
        replace H := Option.bind_eq_some_iff.mp H
        obtain ⟨⟨t317, t318, t319, t320⟩, A440, H⟩ := H
        replace H : (if (!(t313 == t317) || (!(t314 == t318) || (!(t315.toList == t319.toList)))) = true then (weathercocklaw01_ValueTells.j1 kj6 t302 true a1_0 a1_1 a1_2 a2_0 a2_1 a2_2) else (weathercocklaw01_ValueTells.j1 kj6 t302 (t316 != t320) a1_0 a1_1 a1_2 a2_0 a2_1 a2_2)) = some r := H
        have A44 := Aside0.mk A440
        clear A440
        have HC45 := Aside0.mk H
        clear H
        have hnb46 := NB300_301.out
        have hnc46 := NB301_300.out
        have hnb47 := NB300_307.out
        have hnc47 := NB307_300.out
        have hnb48 := NB300_312.out
        have hnc48 := NB312_300.out
        have hcz49_0 : wc.cell? ⟨gb300, 0, none⟩ = some (.int .i64 a1_0) := (blk_cell BK300.out 0).trans rfl
        have hcz49_1 : wc.cell? ⟨gb300, 1, none⟩ = some (.int .i64 a1_1) := (blk_cell BK300.out 1).trans rfl
        have hcz49_2 : wc.cell? ⟨gb300, 2, none⟩ = some (.string a1_2) := (blk_cell BK300.out 2).trans rfl
        have hfz49_0 := blk_frozen BK300.out 0
        have hfz49_1 := blk_frozen BK300.out 1
        have hfz49_2 := blk_frozen BK300.out 2
        have hnb50 := NB301_307.out
        have hnc50 := NB307_301.out
        have hnb51 := NB301_312.out
        have hnc51 := NB312_301.out
        have hcz52_0 : wc.cell? ⟨gb301, 0, none⟩ = some (.int .i64 a2_0) := (blk_cell BK301.out 0).trans rfl
        have hcz52_1 : wc.cell? ⟨gb301, 1, none⟩ = some (.int .i64 a2_1) := (blk_cell BK301.out 1).trans rfl
        have hcz52_2 : wc.cell? ⟨gb301, 2, none⟩ = some (.string a2_2) := (blk_cell BK301.out 2).trans rfl
        have hfz52_0 := blk_frozen BK301.out 0
        have hfz52_1 := blk_frozen BK301.out 1
        have hfz52_2 := blk_frozen BK301.out 2
        go_upto_region 8 with (first | ((with_reducible refine gate_callee (f := 14) rfl ?_); refine goesL_ (some 38) rfl rfl Try.func14 (by kernel_rfl) rfl #[.agg #[.int .i64 a1_0, .int .i64 a1_1, .string a1_2], .agg #[.int .i64 a2_0, .int .i64 a2_1, .string a2_2]] rfl (by (try simp only [List.map_toArray, List.map_cons, List.map_nil]); first | done | rfl | (simp only [List.length_drop, List.length_take]; rfl)) ?_; (with_reducible refine (value_And.calls kj6 a1_0 a1_1 a1_2 a2_0 a2_1 a2_2 t313 t314 t315 t316 _ A43.out).mono ?_); rintro e w53 ⟨rfl, hb⟩; refine ⟨_, rfl, ?_⟩; have n0_ := Aside0.mk (blk_below (g := gb300) (o := .cells #[.int .i64 a1_0, .int .i64 a1_1, .string a1_2] 23 (0, 0)) (by (with_reducible repeat (first | refine blk_drewN ?_ _ | refine blk_drew ?_ | refine blk_alloc ?_ _)); exact BK300.out) hb); have n1_ := Aside0.mk (blk_below (g := gb301) (o := .cells #[.int .i64 a2_0, .int .i64 a2_1, .string a2_2] 23 (0, 0)) (by (with_reducible repeat (first | refine blk_drewN ?_ _ | refine blk_drew ?_ | refine blk_alloc ?_ _)); exact BK301.out) hb); have n2_ := Aside0.mk (blk_below (g := gb307) (o := .cells #[.int .i64 t303, .int .i64 t304, .string t305] 23 (0, 0)) (by (with_reducible repeat (first | refine blk_drewN ?_ _ | refine blk_drew ?_ | refine blk_alloc ?_ _)); exact BK307.out) hb); have n3_ := Aside0.mk (blk_below (g := gb312) (o := .cells #[.int .i64 t308, .int .i64 t309, .string t310] 23 (0, 0)) (by (with_reducible repeat (first | refine blk_drewN ?_ _ | refine blk_drew ?_ | refine blk_alloc ?_ _)); exact BK312.out) hb); have n4_ := Aside0.mk (below_step (by repeat (first | (with_reducible first | exact HB.out | apply below_alloc | apply pw_below_drewN | apply below_drew1 | refine below_set ?_ GE300.out | refine below_set ?_ GE301.out | refine below_set ?_ GE307.out | refine below_set ?_ GE312.out) | exact HB.out)) hb); clear BK300; clear BK301; clear BK307; clear BK312; clear HB; have BK300 := n0_; have BK301 := n1_; have BK307 := n2_; have BK312 := n3_; have HB := n4_; clear n0_ n1_ n2_ n3_ n4_; (try clear hb); (try clear hb2); (try clear hk); (try clear hi); have hnb54 := NB307_312.out; have hnc54 := NB312_307.out; have hcz55_0 : w53.cell? ⟨gb307, 0, none⟩ = some (.int .i64 t303) := (blk_cell BK307.out 0).trans rfl; have hcz55_1 : w53.cell? ⟨gb307, 1, none⟩ = some (.int .i64 t304) := (blk_cell BK307.out 1).trans rfl; have hcz55_2 : w53.cell? ⟨gb307, 2, none⟩ = some (.string t305) := (blk_cell BK307.out 2).trans rfl; have hfz55_0 := blk_frozen BK307.out 0; have hfz55_1 := blk_frozen BK307.out 1; have hfz55_2 := blk_frozen BK307.out 2; have hcz56_0 : w53.cell? ⟨gb300, 0, none⟩ = some (.int .i64 a1_0) := (blk_cell BK300.out 0).trans rfl; have hcz56_1 : w53.cell? ⟨gb300, 1, none⟩ = some (.int .i64 a1_1) := (blk_cell BK300.out 1).trans rfl; have hcz56_2 : w53.cell? ⟨gb300, 2, none⟩ = some (.string a1_2) := (blk_cell BK300.out 2).trans rfl; have hfz56_0 := blk_frozen BK300.out 0; have hfz56_1 := blk_frozen BK300.out 1; have hfz56_2 := blk_frozen BK300.out 2; have hcz57_0 : w53.cell? ⟨gb301, 0, none⟩ = some (.int .i64 a2_0) := (blk_cell BK301.out 0).trans rfl; have hcz57_1 : w53.cell? ⟨gb301, 1, none⟩ = some (.int .i64 a2_1) := (blk_cell BK301.out 1).trans rfl; have hcz57_2 : w53.cell? ⟨gb301, 2, none⟩ = some (.string a2_2) := (blk_cell BK301.out 2).trans rfl; have hfz57_0 := blk_frozen BK301.out 0; have hfz57_1 := blk_frozen BK301.out 1; have hfz57_2 := blk_frozen BK301.out 2) | ((with_reducible refine gate_callee (f := 19) rfl ?_); refine goesL_ (some 44) rfl rfl Try.func19 (by kernel_rfl) rfl #[.agg #[.int .i64 a1_0, .int .i64 a1_1, .string a1_2], .agg #[.int .i64 a2_0, .int .i64 a2_1, .string a2_2]] rfl (by (try simp only [List.map_toArray, List.map_cons, List.map_nil]); first | done | rfl | (simp only [List.length_drop, List.length_take]; rfl)) ?_; (with_reducible refine (weathercockref01_And.calls kj6 a1_0 a1_1 a1_2 a2_0 a2_1 a2_2 t317 t318 t319 t320 _ A44.out).mono ?_); rintro e w58 ⟨rfl, hb⟩; refine ⟨_, rfl, ?_⟩; have n0_ := Aside0.mk (blk_below (g := gb300) (o := .cells #[.int .i64 a1_0, .int .i64 a1_1, .string a1_2] 23 (0, 0)) (by (with_reducible repeat (first | refine blk_drewN ?_ _ | refine blk_drew ?_ | refine blk_alloc ?_ _)); refine blk_far ?_ NB300_307.out _; (with_reducible repeat (first | refine blk_drewN ?_ _ | refine blk_drew ?_ | refine blk_alloc ?_ _)); refine blk_far ?_ NB300_307.out _; (with_reducible repeat (first | refine blk_drewN ?_ _ | refine blk_drew ?_ | refine blk_alloc ?_ _)); refine blk_far ?_ NB300_307.out _; (with_reducible repeat (first | refine blk_drewN ?_ _ | refine blk_drew ?_ | refine blk_alloc ?_ _)); exact BK300.out) hb); have n1_ := Aside0.mk (blk_below (g := gb301) (o := .cells #[.int .i64 a2_0, .int .i64 a2_1, .string a2_2] 23 (0, 0)) (by (with_reducible repeat (first | refine blk_drewN ?_ _ | refine blk_drew ?_ | refine blk_alloc ?_ _)); refine blk_far ?_ NB301_307.out _; (with_reducible repeat (first | refine blk_drewN ?_ _ | refine blk_drew ?_ | refine blk_alloc ?_ _)); refine blk_far ?_ NB301_307.out _; (with_reducible repeat (first | refine blk_drewN ?_ _ | refine blk_drew ?_ | refine blk_alloc ?_ _)); refine blk_far ?_ NB301_307.out _; (with_reducible repeat (first | refine blk_drewN ?_ _ | refine blk_drew ?_ | refine blk_alloc ?_ _)); exact BK301.out) hb); have n2_ := Aside0.mk (blk_below (g := gb307) (o := .cells #[.int .i64 t313, .int .i64 t314, .string t315] 23 (0, 0)) (by (with_reducible repeat (first | refine blk_drewN ?_ _ | refine blk_drew ?_ | refine blk_alloc ?_ _)); refine blk_put (cs := #[.int .i64 t313, .int .i64 t314, .string t305]) ?_ 2 _ rfl; (with_reducible repeat (first | refine blk_drewN ?_ _ | refine blk_drew ?_ | refine blk_alloc ?_ _)); refine blk_put (cs := #[.int .i64 t313, .int .i64 t304, .string t305]) ?_ 1 _ rfl; (with_reducible repeat (first | refine blk_drewN ?_ _ | refine blk_drew ?_ | refine blk_alloc ?_ _)); refine blk_put (cs := #[.int .i64 t303, .int .i64 t304, .string t305]) ?_ 0 _ rfl; (with_reducible repeat (first | refine blk_drewN ?_ _ | refine blk_drew ?_ | refine blk_alloc ?_ _)); exact BK307.out) hb); have n3_ := Aside0.mk (blk_below (g := gb312) (o := .cells #[.int .i64 t308, .int .i64 t309, .string t310] 23 (0, 0)) (by (with_reducible repeat (first | refine blk_drewN ?_ _ | refine blk_drew ?_ | refine blk_alloc ?_ _)); refine blk_far ?_ NB312_307.out _; (with_reducible repeat (first | refine blk_drewN ?_ _ | refine blk_drew ?_ | refine blk_alloc ?_ _)); refine blk_far ?_ NB312_307.out _; (with_reducible repeat (first | refine blk_drewN ?_ _ | refine blk_drew ?_ | refine blk_alloc ?_ _)); refine blk_far ?_ NB312_307.out _; (with_reducible repeat (first | refine blk_drewN ?_ _ | refine blk_drew ?_ | refine blk_alloc ?_ _)); exact BK312.out) hb); have n4_ := Aside0.mk (below_step (by repeat (first | (with_reducible first | exact HB.out | apply below_alloc | apply pw_below_drewN | apply below_drew1 | refine below_set ?_ GE300.out | refine below_set ?_ GE301.out | refine below_set ?_ GE307.out | refine below_set ?_ GE312.out) | exact HB.out)) hb); clear BK300; clear BK301; clear BK307; clear BK312; clear HB; have BK300 := n0_; have BK301 := n1_; have BK307 := n2_; have BK312 := n3_; have HB := n4_; clear n0_ n1_ n2_ n3_ n4_; (try clear hb); (try clear hb2); (try clear hk); (try clear hi); have hcz59_0 : w58.cell? ⟨gb312, 0, none⟩ = some (.int .i64 t308) := (blk_cell BK312.out 0).trans rfl; have hcz59_1 : w58.cell? ⟨gb312, 1, none⟩ = some (.int .i64 t309) := (blk_cell BK312.out 1).trans rfl; have hcz59_2 : w58.cell? ⟨gb312, 2, none⟩ = some (.string t310) := (blk_cell BK312.out 2).trans rfl; have hfz59_0 := blk_frozen BK312.out 0; have hfz59_1 := blk_frozen BK312.out 1; have hfz59_2 := blk_frozen BK312.out 2))
        (try simp only [Act.put, List.setIfInBounds_toArray, List.set_cons_zero, List.set_cons_succ])
        go_cut [54] (fun v54 wc => ∃ (kq : Nat) (x54_44 : Bool), v54 = .bool x54_44 ∧ Aside0 (weathercocklaw01_ValueTells.j1 kq t302 x54_44 a1_0 a1_1 a1_2 a2_0 a2_1 a2_2 = some r) ∧ Aside0 (kq ≤ kj6) ∧ Aside0 (wc.heap[gb300]? = some (.cells #[.int .i64 a1_0, .int .i64 a1_1, .string a1_2] 23 (0, 0))) ∧ Aside0 (wc.heap[gb301]? = some (.cells #[.int .i64 a2_0, .int .i64 a2_1, .string a2_2] 23 (0, 0))) ∧ Aside0 (wc.heap[gb307]? = some (.cells #[.int .i64 t313, .int .i64 t314, .string t315] 23 (0, 0))) ∧ Aside0 (wc.heap[gb312]? = some (.cells #[.int .i64 t317, .int .i64 t318, .string t319] 23 (0, 0))) ∧ Aside0 (Below w.heap.size w wc))
        case first =>
          have H := HC45.out
          clear HC45
          by_cases c60 : (!(t313 == t317) || (!(t314 == t318) || (!(t315.toList == t319.toList)))) = true
          · rw [if_pos c60] at H
            have c60b0 : (!(t313 == t317) || (!(t314 == t318) || (!(t315.toList == t319.toList)))) = true := c60
            clear c60
            (first | rw [c60b0] | rw [c60b1] | (simp only [i64_w, i32_w]; rw [c60b0]) | skip)
            have H' := Aside0.mk H
            clear H
            have hnb61 := NB307_300.out
            have hnc61 := NB300_307.out
            have hnb62 := NB307_301.out
            have hnc62 := NB301_307.out
            have hnb63 := NB307_312.out
            have hnc63 := NB312_307.out
            have hcz64_0 : w58.cell? ⟨gb307, 0, none⟩ = some (.int .i64 t313) := (blk_cell BK307.out 0).trans rfl
            have hcz64_1 : w58.cell? ⟨gb307, 1, none⟩ = some (.int .i64 t314) := (blk_cell BK307.out 1).trans rfl
            have hcz64_2 : w58.cell? ⟨gb307, 2, none⟩ = some (.string t315) := (blk_cell BK307.out 2).trans rfl
            have hfz64_0 := blk_frozen BK307.out 0
            have hfz64_1 := blk_frozen BK307.out 1
            have hfz64_2 := blk_frozen BK307.out 2
            have hnb65 := NB312_300.out
            have hnc65 := NB300_312.out
            have hnb66 := NB312_301.out
            have hnc66 := NB301_312.out
            have hcz67_0 : w58.cell? ⟨gb312, 0, none⟩ = some (.int .i64 t308) := (blk_cell BK312.out 0).trans rfl
            have hcz67_1 : w58.cell? ⟨gb312, 1, none⟩ = some (.int .i64 t309) := (blk_cell BK312.out 1).trans rfl
            have hcz67_2 : w58.cell? ⟨gb312, 2, none⟩ = some (.string t310) := (blk_cell BK312.out 2).trans rfl
            have hfz67_0 := blk_frozen BK312.out 0
            have hfz67_1 := blk_frozen BK312.out 1
            have hfz67_2 := blk_frozen BK312.out 2
            go_wp2
            go_meet
            case rel => exact ⟨_, (true), (by first | rfl | (simp; done) | (simp [*]; done)), H', ⟨by have := HJ6.out; first | omega | exact Nat.le_refl _⟩, ⟨by (with_reducible repeat (first | refine blk_drewN ?_ _ | refine blk_drew ?_ | refine blk_alloc ?_ _)); refine blk_far ?_ NB300_312.out _; (with_reducible repeat (first | refine blk_drewN ?_ _ | refine blk_drew ?_ | refine blk_alloc ?_ _)); refine blk_far ?_ NB300_312.out _; (with_reducible repeat (first | refine blk_drewN ?_ _ | refine blk_drew ?_ | refine blk_alloc ?_ _)); refine blk_far ?_ NB300_312.out _; (with_reducible repeat (first | refine blk_drewN ?_ _ | refine blk_drew ?_ | refine blk_alloc ?_ _)); exact BK300.out⟩, ⟨by (with_reducible repeat (first | refine blk_drewN ?_ _ | refine blk_drew ?_ | refine blk_alloc ?_ _)); refine blk_far ?_ NB301_312.out _; (with_reducible repeat (first | refine blk_drewN ?_ _ | refine blk_drew ?_ | refine blk_alloc ?_ _)); refine blk_far ?_ NB301_312.out _; (with_reducible repeat (first | refine blk_drewN ?_ _ | refine blk_drew ?_ | refine blk_alloc ?_ _)); refine blk_far ?_ NB301_312.out _; (with_reducible repeat (first | refine blk_drewN ?_ _ | refine blk_drew ?_ | refine blk_alloc ?_ _)); exact BK301.out⟩, ⟨by (with_reducible repeat (first | refine blk_drewN ?_ _ | refine blk_drew ?_ | refine blk_alloc ?_ _)); refine blk_far ?_ NB307_312.out _; (with_reducible repeat (first | refine blk_drewN ?_ _ | refine blk_drew ?_ | refine blk_alloc ?_ _)); refine blk_far ?_ NB307_312.out _; (with_reducible repeat (first | refine blk_drewN ?_ _ | refine blk_drew ?_ | refine blk_alloc ?_ _)); refine blk_far ?_ NB307_312.out _; (with_reducible repeat (first | refine blk_drewN ?_ _ | refine blk_drew ?_ | refine blk_alloc ?_ _)); exact BK307.out⟩, ⟨by (with_reducible repeat (first | refine blk_drewN ?_ _ | refine blk_drew ?_ | refine blk_alloc ?_ _)); refine blk_put (cs := #[.int .i64 t317, .int .i64 t318, .string t310]) ?_ 2 _ rfl; (with_reducible repeat (first | refine blk_drewN ?_ _ | refine blk_drew ?_ | refine blk_alloc ?_ _)); refine blk_put (cs := #[.int .i64 t317, .int .i64 t309, .string t310]) ?_ 1 _ rfl; (with_reducible repeat (first | refine blk_drewN ?_ _ | refine blk_drew ?_ | refine blk_alloc ?_ _)); refine blk_put (cs := #[.int .i64 t308, .int .i64 t309, .string t310]) ?_ 0 _ rfl; (with_reducible repeat (first | refine blk_drewN ?_ _ | refine blk_drew ?_ | refine blk_alloc ?_ _)); exact BK312.out⟩, ⟨by repeat (first | (with_reducible first | exact HB.out | apply below_alloc | apply pw_below_drewN | apply below_drew1 | refine below_set ?_ GE300.out | refine below_set ?_ GE301.out | refine below_set ?_ GE307.out | refine below_set ?_ GE312.out) | exact HB.out)⟩⟩
          · rw [if_neg c60] at H
            have c60b0 : (!(t313 == t317) || (!(t314 == t318) || (!(t315.toList == t319.toList)))) = false := by simpa using c60
            clear c60
            (first | rw [c60b0] | rw [c60b1] | (simp only [i64_w, i32_w]; rw [c60b0]) | skip)
            have H' := Aside0.mk H
            clear H
            have hnb68 := NB307_300.out
            have hnc68 := NB300_307.out
            have hnb69 := NB307_301.out
            have hnc69 := NB301_307.out
            have hnb70 := NB307_312.out
            have hnc70 := NB312_307.out
            have hcz71_0 : w58.cell? ⟨gb307, 0, none⟩ = some (.int .i64 t313) := (blk_cell BK307.out 0).trans rfl
            have hcz71_1 : w58.cell? ⟨gb307, 1, none⟩ = some (.int .i64 t314) := (blk_cell BK307.out 1).trans rfl
            have hcz71_2 : w58.cell? ⟨gb307, 2, none⟩ = some (.string t315) := (blk_cell BK307.out 2).trans rfl
            have hfz71_0 := blk_frozen BK307.out 0
            have hfz71_1 := blk_frozen BK307.out 1
            have hfz71_2 := blk_frozen BK307.out 2
            have hnb72 := NB312_300.out
            have hnc72 := NB300_312.out
            have hnb73 := NB312_301.out
            have hnc73 := NB301_312.out
            have hcz74_0 : w58.cell? ⟨gb312, 0, none⟩ = some (.int .i64 t308) := (blk_cell BK312.out 0).trans rfl
            have hcz74_1 : w58.cell? ⟨gb312, 1, none⟩ = some (.int .i64 t309) := (blk_cell BK312.out 1).trans rfl
            have hcz74_2 : w58.cell? ⟨gb312, 2, none⟩ = some (.string t310) := (blk_cell BK312.out 2).trans rfl
            have hfz74_0 := blk_frozen BK312.out 0
            have hfz74_1 := blk_frozen BK312.out 1
            have hfz74_2 := blk_frozen BK312.out 2
            go_wp2
            go_meet
            case rel => exact ⟨_, ((t316 != t320)), (by first | rfl | (simp; done) | (simp [*]; done)), H', ⟨by have := HJ6.out; first | omega | exact Nat.le_refl _⟩, ⟨by (with_reducible repeat (first | refine blk_drewN ?_ _ | refine blk_drew ?_ | refine blk_alloc ?_ _)); refine blk_far ?_ NB300_312.out _; (with_reducible repeat (first | refine blk_drewN ?_ _ | refine blk_drew ?_ | refine blk_alloc ?_ _)); refine blk_far ?_ NB300_312.out _; (with_reducible repeat (first | refine blk_drewN ?_ _ | refine blk_drew ?_ | refine blk_alloc ?_ _)); refine blk_far ?_ NB300_312.out _; (with_reducible repeat (first | refine blk_drewN ?_ _ | refine blk_drew ?_ | refine blk_alloc ?_ _)); exact BK300.out⟩, ⟨by (with_reducible repeat (first | refine blk_drewN ?_ _ | refine blk_drew ?_ | refine blk_alloc ?_ _)); refine blk_far ?_ NB301_312.out _; (with_reducible repeat (first | refine blk_drewN ?_ _ | refine blk_drew ?_ | refine blk_alloc ?_ _)); refine blk_far ?_ NB301_312.out _; (with_reducible repeat (first | refine blk_drewN ?_ _ | refine blk_drew ?_ | refine blk_alloc ?_ _)); refine blk_far ?_ NB301_312.out _; (with_reducible repeat (first | refine blk_drewN ?_ _ | refine blk_drew ?_ | refine blk_alloc ?_ _)); exact BK301.out⟩, ⟨by (with_reducible repeat (first | refine blk_drewN ?_ _ | refine blk_drew ?_ | refine blk_alloc ?_ _)); refine blk_far ?_ NB307_312.out _; (with_reducible repeat (first | refine blk_drewN ?_ _ | refine blk_drew ?_ | refine blk_alloc ?_ _)); refine blk_far ?_ NB307_312.out _; (with_reducible repeat (first | refine blk_drewN ?_ _ | refine blk_drew ?_ | refine blk_alloc ?_ _)); refine blk_far ?_ NB307_312.out _; (with_reducible repeat (first | refine blk_drewN ?_ _ | refine blk_drew ?_ | refine blk_alloc ?_ _)); exact BK307.out⟩, ⟨by (with_reducible repeat (first | refine blk_drewN ?_ _ | refine blk_drew ?_ | refine blk_alloc ?_ _)); refine blk_put (cs := #[.int .i64 t317, .int .i64 t318, .string t310]) ?_ 2 _ rfl; (with_reducible repeat (first | refine blk_drewN ?_ _ | refine blk_drew ?_ | refine blk_alloc ?_ _)); refine blk_put (cs := #[.int .i64 t317, .int .i64 t309, .string t310]) ?_ 1 _ rfl; (with_reducible repeat (first | refine blk_drewN ?_ _ | refine blk_drew ?_ | refine blk_alloc ?_ _)); refine blk_put (cs := #[.int .i64 t308, .int .i64 t309, .string t310]) ?_ 0 _ rfl; (with_reducible repeat (first | refine blk_drewN ?_ _ | refine blk_drew ?_ | refine blk_alloc ?_ _)); exact BK312.out⟩, ⟨by repeat (first | (with_reducible first | exact HB.out | apply below_alloc | apply pw_below_drewN | apply below_drew1 | refine below_set ?_ GE300.out | refine below_set ?_ GE301.out | refine below_set ?_ GE307.out | refine below_set ?_ GE312.out) | exact HB.out)⟩⟩
        case rest =>
          clear HC45
          try clear c1
          try clear c2
          try clear p2
          try clear c3
          try clear c4
          try clear c5
          try clear c6
          try clear c7
          try clear c10
          try clear c11
          try clear c14
          try clear c16
          try clear c17
          try clear c18
          try clear c19
          try clear c23
          try clear c24
          try clear c25
          try clear c27
          try clear c27b0
          try clear c27b1
          try clear c28
          try clear c29
          try clear c30
          try clear c32
          try clear c33
          try clear c35
          try clear c36
          try clear c37
          try clear c39
          try clear c40
          try clear c42
          try clear c46
          try clear c47
          try clear c48
          try clear c50
          try clear c51
          try clear c54
          try clear c60
          try clear c60b0
          try clear c60b1
          try clear c61
          try clear c62
          try clear c63
          try clear c65
          try clear c66
          try clear c68
          try clear c69
          try clear c70
          try clear c72
          try clear c73
          try clear hcz12_0
          try clear hcz12_1
          try clear hcz12_2
          try clear hcz13_0
          try clear hcz13_1
          try clear hcz13_2
          try clear hcz18_0
          try clear hcz18_1
          try clear hcz18_2
          try clear hcz19_0
          try clear hcz19_1
          try clear hcz19_2
          try clear hcz20_0
          try clear hcz20_1
          try clear hcz20_2
          try clear hcz26_0
          try clear hcz26_1
          try clear hcz26_2
          try clear hcz31_0
          try clear hcz31_1
          try clear hcz31_2
          try clear hcz34_0
          try clear hcz34_1
          try clear hcz34_2
          try clear hcz38_0
          try clear hcz38_1
          try clear hcz38_2
          try clear hcz41_0
          try clear hcz41_1
          try clear hcz41_2
          try clear hcz49_0
          try clear hcz49_1
          try clear hcz49_2
          try clear hcz52_0
          try clear hcz52_1
          try clear hcz52_2
          try clear hcz55_0
          try clear hcz55_1
          try clear hcz55_2
          try clear hcz56_0
          try clear hcz56_1
          try clear hcz56_2
          try clear hcz57_0
          try clear hcz57_1
          try clear hcz57_2
          try clear hcz59_0
          try clear hcz59_1
          try clear hcz59_2
          try clear hcz64_0
          try clear hcz64_1
          try clear hcz64_2
          try clear hcz67_0
          try clear hcz67_1
          try clear hcz67_2
          try clear hcz71_0
          try clear hcz71_1
          try clear hcz71_2
          try clear hcz74_0
          try clear hcz74_1
          try clear hcz74_2
          try clear hfz12_0
          try clear hfz12_1
          try clear hfz12_2
          try clear hfz13_0
          try clear hfz13_1
          try clear hfz13_2
          try clear hfz18_0
          try clear hfz18_1
          try clear hfz18_2
          try clear hfz19_0
          try clear hfz19_1
          try clear hfz19_2
          try clear hfz20_0
          try clear hfz20_1
          try clear hfz20_2
          try clear hfz26_0
          try clear hfz26_1
          try clear hfz26_2
          try clear hfz31_0
          try clear hfz31_1
          try clear hfz31_2
          try clear hfz34_0
          try clear hfz34_1
          try clear hfz34_2
          try clear hfz38_0
          try clear hfz38_1
          try clear hfz38_2
          try clear hfz41_0
          try clear hfz41_1
          try clear hfz41_2
          try clear hfz49_0
          try clear hfz49_1
          try clear hfz49_2
          try clear hfz52_0
          try clear hfz52_1
          try clear hfz52_2
          try clear hfz55_0
          try clear hfz55_1
          try clear hfz55_2
          try clear hfz56_0
          try clear hfz56_1
          try clear hfz56_2
          try clear hfz57_0
          try clear hfz57_1
          try clear hfz57_2
          try clear hfz59_0
          try clear hfz59_1
          try clear hfz59_2
          try clear hfz64_0
          try clear hfz64_1
          try clear hfz64_2
          try clear hfz67_0
          try clear hfz67_1
          try clear hfz67_2
          try clear hfz71_0
          try clear hfz71_1
          try clear hfz71_2
          try clear hfz74_0
          try clear hfz74_1
          try clear hfz74_2
          try clear p2
          obtain ⟨kq, x54_44, rfl, HA, HJ44, BK300, BK301, BK307, BK312, HB⟩ := hcut
          cases kq with
          | zero => exact absurd HA.out (by simp [weathercocklaw01_ValueTells.j1])
          | succ kj44 =>
            have H := HA.out
            clear HA
            simp only [weathercocklaw01_ValueTells.j1] at H
            by_cases c75 : x54_44 = true
            · subst c75
              have H1 : (some false) = some r := by rw [if_pos rfl] at H; exact H
              clear H
              have H := H1
              clear H1
              exact absurd (Option.some.inj H) (fun h_ => absurd (h_.trans HRT.out) (by decide))
            · replace c75 := Bool.eq_false_iff.mpr c75
              subst c75
              have H1 : ((value_Or.f kj44 a1_0 a1_1 a1_2 a2_0 a2_1 a2_2).bind fun bt321 => ((weathercockref01_Or.f kj44 a1_0 a1_1 a1_2 a2_0 a2_1 a2_2).bind fun bt325 => (if (!(bt321.1 == bt325.1) || (!(bt321.2.1 == bt325.2.1) || (!(bt321.2.2.1.toList == bt325.2.2.1.toList)))) = true then (weathercocklaw01_ValueTells.j2 kj44 t302 true a1_0 a1_1 a1_2 a2_0 a2_1 a2_2) else (weathercocklaw01_ValueTells.j2 kj44 t302 (bt321.2.2.2 != bt325.2.2.2) a1_0 a1_1 a1_2 a2_0 a2_1 a2_2)))) = some r := by rw [if_neg (show ¬ (false = true) by decide)] at H; exact H
              clear H
              have H := H1
              clear H1
              replace H := Option.bind_eq_some_iff.mp H
              obtain ⟨⟨t321, t322, t323, t324⟩, A760, H⟩ := H
              replace H : ((weathercockref01_Or.f kj44 a1_0 a1_1 a1_2 a2_0 a2_1 a2_2).bind fun bt325 => (if (!(t321 == bt325.1) || (!(t322 == bt325.2.1) || (!(t323.toList == bt325.2.2.1.toList)))) = true then (weathercocklaw01_ValueTells.j2 kj44 t302 true a1_0 a1_1 a1_2 a2_0 a2_1 a2_2) else (weathercocklaw01_ValueTells.j2 kj44 t302 (t324 != bt325.2.2.2) a1_0 a1_1 a1_2 a2_0 a2_1 a2_2))) = some r := H
              have A76 := Aside0.mk A760
              clear A760
              replace H := Option.bind_eq_some_iff.mp H
              obtain ⟨⟨t325, t326, t327, t328⟩, A770, H⟩ := H
              replace H : (if (!(t321 == t325) || (!(t322 == t326) || (!(t323.toList == t327.toList)))) = true then (weathercocklaw01_ValueTells.j2 kj44 t302 true a1_0 a1_1 a1_2 a2_0 a2_1 a2_2) else (weathercocklaw01_ValueTells.j2 kj44 t302 (t324 != t328) a1_0 a1_1 a1_2 a2_0 a2_1 a2_2)) = some r := H
              have A77 := Aside0.mk A770
              clear A770
              have HC78 := Aside0.mk H
              clear H
              have hnb79 := NB300_301.out
              have hnc79 := NB301_300.out
              have hnb80 := NB300_307.out
              have hnc80 := NB307_300.out
              have hnb81 := NB300_312.out
              have hnc81 := NB312_300.out
              have hcz82_0 : wc.cell? ⟨gb300, 0, none⟩ = some (.int .i64 a1_0) := (blk_cell BK300.out 0).trans rfl
              have hcz82_1 : wc.cell? ⟨gb300, 1, none⟩ = some (.int .i64 a1_1) := (blk_cell BK300.out 1).trans rfl
              have hcz82_2 : wc.cell? ⟨gb300, 2, none⟩ = some (.string a1_2) := (blk_cell BK300.out 2).trans rfl
              have hfz82_0 := blk_frozen BK300.out 0
              have hfz82_1 := blk_frozen BK300.out 1
              have hfz82_2 := blk_frozen BK300.out 2
              have hnb83 := NB301_307.out
              have hnc83 := NB307_301.out
              have hnb84 := NB301_312.out
              have hnc84 := NB312_301.out
              have hcz85_0 : wc.cell? ⟨gb301, 0, none⟩ = some (.int .i64 a2_0) := (blk_cell BK301.out 0).trans rfl
              have hcz85_1 : wc.cell? ⟨gb301, 1, none⟩ = some (.int .i64 a2_1) := (blk_cell BK301.out 1).trans rfl
              have hcz85_2 : wc.cell? ⟨gb301, 2, none⟩ = some (.string a2_2) := (blk_cell BK301.out 2).trans rfl
              have hfz85_0 := blk_frozen BK301.out 0
              have hfz85_1 := blk_frozen BK301.out 1
              have hfz85_2 := blk_frozen BK301.out 2
              go_upto_region 12 with (first | ((with_reducible refine gate_callee (f := 16) rfl ?_); refine goesL_ (some 58) rfl rfl Try.func16 (by kernel_rfl) rfl #[.agg #[.int .i64 a1_0, .int .i64 a1_1, .string a1_2], .agg #[.int .i64 a2_0, .int .i64 a2_1, .string a2_2]] rfl (by (try simp only [List.map_toArray, List.map_cons, List.map_nil]); first | done | rfl | (simp only [List.length_drop, List.length_take]; rfl)) ?_; (with_reducible refine (value_Or.calls kj44 a1_0 a1_1 a1_2 a2_0 a2_1 a2_2 t321 t322 t323 t324 _ A76.out).mono ?_); rintro e w86 ⟨rfl, hb⟩; refine ⟨_, rfl, ?_⟩; have n0_ := Aside0.mk (blk_below (g := gb300) (o := .cells #[.int .i64 a1_0, .int .i64 a1_1, .string a1_2] 23 (0, 0)) (by (with_reducible repeat (first | refine blk_drewN ?_ _ | refine blk_drew ?_ | refine blk_alloc ?_ _)); exact BK300.out) hb); have n1_ := Aside0.mk (blk_below (g := gb301) (o := .cells #[.int .i64 a2_0, .int .i64 a2_1, .string a2_2] 23 (0, 0)) (by (with_reducible repeat (first | refine blk_drewN ?_ _ | refine blk_drew ?_ | refine blk_alloc ?_ _)); exact BK301.out) hb); have n2_ := Aside0.mk (blk_below (g := gb307) (o := .cells #[.int .i64 t313, .int .i64 t314, .string t315] 23 (0, 0)) (by (with_reducible repeat (first | refine blk_drewN ?_ _ | refine blk_drew ?_ | refine blk_alloc ?_ _)); exact BK307.out) hb); have n3_ := Aside0.mk (blk_below (g := gb312) (o := .cells #[.int .i64 t317, .int .i64 t318, .string t319] 23 (0, 0)) (by (with_reducible repeat (first | refine blk_drewN ?_ _ | refine blk_drew ?_ | refine blk_alloc ?_ _)); exact BK312.out) hb); have n4_ := Aside0.mk (below_step (by repeat (first | (with_reducible first | exact HB.out | apply below_alloc | apply pw_below_drewN | apply below_drew1 | refine below_set ?_ GE300.out | refine below_set ?_ GE301.out | refine below_set ?_ GE307.out | refine below_set ?_ GE312.out) | exact HB.out)) hb); clear BK300; clear BK301; clear BK307; clear BK312; clear HB; have BK300 := n0_; have BK301 := n1_; have BK307 := n2_; have BK312 := n3_; have HB := n4_; clear n0_ n1_ n2_ n3_ n4_; (try clear hb); (try clear hb2); (try clear hk); (try clear hi); have hnb87 := NB307_312.out; have hnc87 := NB312_307.out; have hcz88_0 : w86.cell? ⟨gb307, 0, none⟩ = some (.int .i64 t313) := (blk_cell BK307.out 0).trans rfl; have hcz88_1 : w86.cell? ⟨gb307, 1, none⟩ = some (.int .i64 t314) := (blk_cell BK307.out 1).trans rfl; have hcz88_2 : w86.cell? ⟨gb307, 2, none⟩ = some (.string t315) := (blk_cell BK307.out 2).trans rfl; have hfz88_0 := blk_frozen BK307.out 0; have hfz88_1 := blk_frozen BK307.out 1; have hfz88_2 := blk_frozen BK307.out 2; have hcz89_0 : w86.cell? ⟨gb300, 0, none⟩ = some (.int .i64 a1_0) := (blk_cell BK300.out 0).trans rfl; have hcz89_1 : w86.cell? ⟨gb300, 1, none⟩ = some (.int .i64 a1_1) := (blk_cell BK300.out 1).trans rfl; have hcz89_2 : w86.cell? ⟨gb300, 2, none⟩ = some (.string a1_2) := (blk_cell BK300.out 2).trans rfl; have hfz89_0 := blk_frozen BK300.out 0; have hfz89_1 := blk_frozen BK300.out 1; have hfz89_2 := blk_frozen BK300.out 2; have hcz90_0 : w86.cell? ⟨gb301, 0, none⟩ = some (.int .i64 a2_0) := (blk_cell BK301.out 0).trans rfl; have hcz90_1 : w86.cell? ⟨gb301, 1, none⟩ = some (.int .i64 a2_1) := (blk_cell BK301.out 1).trans rfl; have hcz90_2 : w86.cell? ⟨gb301, 2, none⟩ = some (.string a2_2) := (blk_cell BK301.out 2).trans rfl; have hfz90_0 := blk_frozen BK301.out 0; have hfz90_1 := blk_frozen BK301.out 1; have hfz90_2 := blk_frozen BK301.out 2) | ((with_reducible refine gate_callee (f := 20) rfl ?_); refine goesL_ (some 64) rfl rfl Try.func20 (by kernel_rfl) rfl #[.agg #[.int .i64 a1_0, .int .i64 a1_1, .string a1_2], .agg #[.int .i64 a2_0, .int .i64 a2_1, .string a2_2]] rfl (by (try simp only [List.map_toArray, List.map_cons, List.map_nil]); first | done | rfl | (simp only [List.length_drop, List.length_take]; rfl)) ?_; (with_reducible refine (weathercockref01_Or.calls kj44 a1_0 a1_1 a1_2 a2_0 a2_1 a2_2 t325 t326 t327 t328 _ A77.out).mono ?_); rintro e w91 ⟨rfl, hb⟩; refine ⟨_, rfl, ?_⟩; have n0_ := Aside0.mk (blk_below (g := gb300) (o := .cells #[.int .i64 a1_0, .int .i64 a1_1, .string a1_2] 23 (0, 0)) (by (with_reducible repeat (first | refine blk_drewN ?_ _ | refine blk_drew ?_ | refine blk_alloc ?_ _)); refine blk_far ?_ NB300_307.out _; (with_reducible repeat (first | refine blk_drewN ?_ _ | refine blk_drew ?_ | refine blk_alloc ?_ _)); refine blk_far ?_ NB300_307.out _; (with_reducible repeat (first | refine blk_drewN ?_ _ | refine blk_drew ?_ | refine blk_alloc ?_ _)); refine blk_far ?_ NB300_307.out _; (with_reducible repeat (first | refine blk_drewN ?_ _ | refine blk_drew ?_ | refine blk_alloc ?_ _)); exact BK300.out) hb); have n1_ := Aside0.mk (blk_below (g := gb301) (o := .cells #[.int .i64 a2_0, .int .i64 a2_1, .string a2_2] 23 (0, 0)) (by (with_reducible repeat (first | refine blk_drewN ?_ _ | refine blk_drew ?_ | refine blk_alloc ?_ _)); refine blk_far ?_ NB301_307.out _; (with_reducible repeat (first | refine blk_drewN ?_ _ | refine blk_drew ?_ | refine blk_alloc ?_ _)); refine blk_far ?_ NB301_307.out _; (with_reducible repeat (first | refine blk_drewN ?_ _ | refine blk_drew ?_ | refine blk_alloc ?_ _)); refine blk_far ?_ NB301_307.out _; (with_reducible repeat (first | refine blk_drewN ?_ _ | refine blk_drew ?_ | refine blk_alloc ?_ _)); exact BK301.out) hb); have n2_ := Aside0.mk (blk_below (g := gb307) (o := .cells #[.int .i64 t321, .int .i64 t322, .string t323] 23 (0, 0)) (by (with_reducible repeat (first | refine blk_drewN ?_ _ | refine blk_drew ?_ | refine blk_alloc ?_ _)); refine blk_put (cs := #[.int .i64 t321, .int .i64 t322, .string t315]) ?_ 2 _ rfl; (with_reducible repeat (first | refine blk_drewN ?_ _ | refine blk_drew ?_ | refine blk_alloc ?_ _)); refine blk_put (cs := #[.int .i64 t321, .int .i64 t314, .string t315]) ?_ 1 _ rfl; (with_reducible repeat (first | refine blk_drewN ?_ _ | refine blk_drew ?_ | refine blk_alloc ?_ _)); refine blk_put (cs := #[.int .i64 t313, .int .i64 t314, .string t315]) ?_ 0 _ rfl; (with_reducible repeat (first | refine blk_drewN ?_ _ | refine blk_drew ?_ | refine blk_alloc ?_ _)); exact BK307.out) hb); have n3_ := Aside0.mk (blk_below (g := gb312) (o := .cells #[.int .i64 t317, .int .i64 t318, .string t319] 23 (0, 0)) (by (with_reducible repeat (first | refine blk_drewN ?_ _ | refine blk_drew ?_ | refine blk_alloc ?_ _)); refine blk_far ?_ NB312_307.out _; (with_reducible repeat (first | refine blk_drewN ?_ _ | refine blk_drew ?_ | refine blk_alloc ?_ _)); refine blk_far ?_ NB312_307.out _; (with_reducible repeat (first | refine blk_drewN ?_ _ | refine blk_drew ?_ | refine blk_alloc ?_ _)); refine blk_far ?_ NB312_307.out _; (with_reducible repeat (first | refine blk_drewN ?_ _ | refine blk_drew ?_ | refine blk_alloc ?_ _)); exact BK312.out) hb); have n4_ := Aside0.mk (below_step (by repeat (first | (with_reducible first | exact HB.out | apply below_alloc | apply pw_below_drewN | apply below_drew1 | refine below_set ?_ GE300.out | refine below_set ?_ GE301.out | refine below_set ?_ GE307.out | refine below_set ?_ GE312.out) | exact HB.out)) hb); clear BK300; clear BK301; clear BK307; clear BK312; clear HB; have BK300 := n0_; have BK301 := n1_; have BK307 := n2_; have BK312 := n3_; have HB := n4_; clear n0_ n1_ n2_ n3_ n4_; (try clear hb); (try clear hb2); (try clear hk); (try clear hi); have hcz92_0 : w91.cell? ⟨gb312, 0, none⟩ = some (.int .i64 t317) := (blk_cell BK312.out 0).trans rfl; have hcz92_1 : w91.cell? ⟨gb312, 1, none⟩ = some (.int .i64 t318) := (blk_cell BK312.out 1).trans rfl; have hcz92_2 : w91.cell? ⟨gb312, 2, none⟩ = some (.string t319) := (blk_cell BK312.out 2).trans rfl; have hfz92_0 := blk_frozen BK312.out 0; have hfz92_1 := blk_frozen BK312.out 1; have hfz92_2 := blk_frozen BK312.out 2))
              (try simp only [Act.put, List.setIfInBounds_toArray, List.set_cons_zero, List.set_cons_succ])
              go_cut [74] (fun v74 wc => ∃ (kq : Nat) (x74_77 : Bool), v74 = .bool x74_77 ∧ Aside0 (weathercocklaw01_ValueTells.j2 kq t302 x74_77 a1_0 a1_1 a1_2 a2_0 a2_1 a2_2 = some r) ∧ Aside0 (kq ≤ kj44) ∧ Aside0 (wc.heap[gb300]? = some (.cells #[.int .i64 a1_0, .int .i64 a1_1, .string a1_2] 23 (0, 0))) ∧ Aside0 (wc.heap[gb301]? = some (.cells #[.int .i64 a2_0, .int .i64 a2_1, .string a2_2] 23 (0, 0))) ∧ Aside0 (wc.heap[gb307]? = some (.cells #[.int .i64 t321, .int .i64 t322, .string t323] 23 (0, 0))) ∧ Aside0 (wc.heap[gb312]? = some (.cells #[.int .i64 t325, .int .i64 t326, .string t327] 23 (0, 0))) ∧ Aside0 (Below w.heap.size w wc))
              case first =>
                have H := HC78.out
                clear HC78
                by_cases c93 : (!(t321 == t325) || (!(t322 == t326) || (!(t323.toList == t327.toList)))) = true
                · rw [if_pos c93] at H
                  have c93b0 : (!(t321 == t325) || (!(t322 == t326) || (!(t323.toList == t327.toList)))) = true := c93
                  clear c93
                  (first | rw [c93b0] | rw [c93b1] | (simp only [i64_w, i32_w]; rw [c93b0]) | skip)
                  have H' := Aside0.mk H
                  clear H
                  have hnb94 := NB307_300.out
                  have hnc94 := NB300_307.out
                  have hnb95 := NB307_301.out
                  have hnc95 := NB301_307.out
                  have hnb96 := NB307_312.out
                  have hnc96 := NB312_307.out
                  have hcz97_0 : w91.cell? ⟨gb307, 0, none⟩ = some (.int .i64 t321) := (blk_cell BK307.out 0).trans rfl
                  have hcz97_1 : w91.cell? ⟨gb307, 1, none⟩ = some (.int .i64 t322) := (blk_cell BK307.out 1).trans rfl
                  have hcz97_2 : w91.cell? ⟨gb307, 2, none⟩ = some (.string t323) := (blk_cell BK307.out 2).trans rfl
                  have hfz97_0 := blk_frozen BK307.out 0
                  have hfz97_1 := blk_frozen BK307.out 1
                  have hfz97_2 := blk_frozen BK307.out 2
                  have hnb98 := NB312_300.out
                  have hnc98 := NB300_312.out
                  have hnb99 := NB312_301.out
                  have hnc99 := NB301_312.out
                  have hcz100_0 : w91.cell? ⟨gb312, 0, none⟩ = some (.int .i64 t317) := (blk_cell BK312.out 0).trans rfl
                  have hcz100_1 : w91.cell? ⟨gb312, 1, none⟩ = some (.int .i64 t318) := (blk_cell BK312.out 1).trans rfl
                  have hcz100_2 : w91.cell? ⟨gb312, 2, none⟩ = some (.string t319) := (blk_cell BK312.out 2).trans rfl
                  have hfz100_0 := blk_frozen BK312.out 0
                  have hfz100_1 := blk_frozen BK312.out 1
                  have hfz100_2 := blk_frozen BK312.out 2
                  go_wp2
                  go_meet
                  case rel => exact ⟨_, (true), (by first | rfl | (simp; done) | (simp [*]; done)), H', ⟨by have := HJ6.out; have := HJ44.out; first | omega | exact Nat.le_refl _⟩, ⟨by (with_reducible repeat (first | refine blk_drewN ?_ _ | refine blk_drew ?_ | refine blk_alloc ?_ _)); refine blk_far ?_ NB300_312.out _; (with_reducible repeat (first | refine blk_drewN ?_ _ | refine blk_drew ?_ | refine blk_alloc ?_ _)); refine blk_far ?_ NB300_312.out _; (with_reducible repeat (first | refine blk_drewN ?_ _ | refine blk_drew ?_ | refine blk_alloc ?_ _)); refine blk_far ?_ NB300_312.out _; (with_reducible repeat (first | refine blk_drewN ?_ _ | refine blk_drew ?_ | refine blk_alloc ?_ _)); exact BK300.out⟩, ⟨by (with_reducible repeat (first | refine blk_drewN ?_ _ | refine blk_drew ?_ | refine blk_alloc ?_ _)); refine blk_far ?_ NB301_312.out _; (with_reducible repeat (first | refine blk_drewN ?_ _ | refine blk_drew ?_ | refine blk_alloc ?_ _)); refine blk_far ?_ NB301_312.out _; (with_reducible repeat (first | refine blk_drewN ?_ _ | refine blk_drew ?_ | refine blk_alloc ?_ _)); refine blk_far ?_ NB301_312.out _; (with_reducible repeat (first | refine blk_drewN ?_ _ | refine blk_drew ?_ | refine blk_alloc ?_ _)); exact BK301.out⟩, ⟨by (with_reducible repeat (first | refine blk_drewN ?_ _ | refine blk_drew ?_ | refine blk_alloc ?_ _)); refine blk_far ?_ NB307_312.out _; (with_reducible repeat (first | refine blk_drewN ?_ _ | refine blk_drew ?_ | refine blk_alloc ?_ _)); refine blk_far ?_ NB307_312.out _; (with_reducible repeat (first | refine blk_drewN ?_ _ | refine blk_drew ?_ | refine blk_alloc ?_ _)); refine blk_far ?_ NB307_312.out _; (with_reducible repeat (first | refine blk_drewN ?_ _ | refine blk_drew ?_ | refine blk_alloc ?_ _)); exact BK307.out⟩, ⟨by (with_reducible repeat (first | refine blk_drewN ?_ _ | refine blk_drew ?_ | refine blk_alloc ?_ _)); refine blk_put (cs := #[.int .i64 t325, .int .i64 t326, .string t319]) ?_ 2 _ rfl; (with_reducible repeat (first | refine blk_drewN ?_ _ | refine blk_drew ?_ | refine blk_alloc ?_ _)); refine blk_put (cs := #[.int .i64 t325, .int .i64 t318, .string t319]) ?_ 1 _ rfl; (with_reducible repeat (first | refine blk_drewN ?_ _ | refine blk_drew ?_ | refine blk_alloc ?_ _)); refine blk_put (cs := #[.int .i64 t317, .int .i64 t318, .string t319]) ?_ 0 _ rfl; (with_reducible repeat (first | refine blk_drewN ?_ _ | refine blk_drew ?_ | refine blk_alloc ?_ _)); exact BK312.out⟩, ⟨by repeat (first | (with_reducible first | exact HB.out | apply below_alloc | apply pw_below_drewN | apply below_drew1 | refine below_set ?_ GE300.out | refine below_set ?_ GE301.out | refine below_set ?_ GE307.out | refine below_set ?_ GE312.out) | exact HB.out)⟩⟩
                · rw [if_neg c93] at H
                  have c93b0 : (!(t321 == t325) || (!(t322 == t326) || (!(t323.toList == t327.toList)))) = false := by simpa using c93
                  clear c93
                  (first | rw [c93b0] | rw [c93b1] | (simp only [i64_w, i32_w]; rw [c93b0]) | skip)
                  have H' := Aside0.mk H
                  clear H
                  have hnb101 := NB307_300.out
                  have hnc101 := NB300_307.out
                  have hnb102 := NB307_301.out
                  have hnc102 := NB301_307.out
                  have hnb103 := NB307_312.out
                  have hnc103 := NB312_307.out
                  have hcz104_0 : w91.cell? ⟨gb307, 0, none⟩ = some (.int .i64 t321) := (blk_cell BK307.out 0).trans rfl
                  have hcz104_1 : w91.cell? ⟨gb307, 1, none⟩ = some (.int .i64 t322) := (blk_cell BK307.out 1).trans rfl
                  have hcz104_2 : w91.cell? ⟨gb307, 2, none⟩ = some (.string t323) := (blk_cell BK307.out 2).trans rfl
                  have hfz104_0 := blk_frozen BK307.out 0
                  have hfz104_1 := blk_frozen BK307.out 1
                  have hfz104_2 := blk_frozen BK307.out 2
                  have hnb105 := NB312_300.out
                  have hnc105 := NB300_312.out
                  have hnb106 := NB312_301.out
                  have hnc106 := NB301_312.out
                  have hcz107_0 : w91.cell? ⟨gb312, 0, none⟩ = some (.int .i64 t317) := (blk_cell BK312.out 0).trans rfl
                  have hcz107_1 : w91.cell? ⟨gb312, 1, none⟩ = some (.int .i64 t318) := (blk_cell BK312.out 1).trans rfl
                  have hcz107_2 : w91.cell? ⟨gb312, 2, none⟩ = some (.string t319) := (blk_cell BK312.out 2).trans rfl
                  have hfz107_0 := blk_frozen BK312.out 0
                  have hfz107_1 := blk_frozen BK312.out 1
                  have hfz107_2 := blk_frozen BK312.out 2
                  go_wp2
                  go_meet
                  case rel => exact ⟨_, ((t324 != t328)), (by first | rfl | (simp; done) | (simp [*]; done)), H', ⟨by have := HJ6.out; have := HJ44.out; first | omega | exact Nat.le_refl _⟩, ⟨by (with_reducible repeat (first | refine blk_drewN ?_ _ | refine blk_drew ?_ | refine blk_alloc ?_ _)); refine blk_far ?_ NB300_312.out _; (with_reducible repeat (first | refine blk_drewN ?_ _ | refine blk_drew ?_ | refine blk_alloc ?_ _)); refine blk_far ?_ NB300_312.out _; (with_reducible repeat (first | refine blk_drewN ?_ _ | refine blk_drew ?_ | refine blk_alloc ?_ _)); refine blk_far ?_ NB300_312.out _; (with_reducible repeat (first | refine blk_drewN ?_ _ | refine blk_drew ?_ | refine blk_alloc ?_ _)); exact BK300.out⟩, ⟨by (with_reducible repeat (first | refine blk_drewN ?_ _ | refine blk_drew ?_ | refine blk_alloc ?_ _)); refine blk_far ?_ NB301_312.out _; (with_reducible repeat (first | refine blk_drewN ?_ _ | refine blk_drew ?_ | refine blk_alloc ?_ _)); refine blk_far ?_ NB301_312.out _; (with_reducible repeat (first | refine blk_drewN ?_ _ | refine blk_drew ?_ | refine blk_alloc ?_ _)); refine blk_far ?_ NB301_312.out _; (with_reducible repeat (first | refine blk_drewN ?_ _ | refine blk_drew ?_ | refine blk_alloc ?_ _)); exact BK301.out⟩, ⟨by (with_reducible repeat (first | refine blk_drewN ?_ _ | refine blk_drew ?_ | refine blk_alloc ?_ _)); refine blk_far ?_ NB307_312.out _; (with_reducible repeat (first | refine blk_drewN ?_ _ | refine blk_drew ?_ | refine blk_alloc ?_ _)); refine blk_far ?_ NB307_312.out _; (with_reducible repeat (first | refine blk_drewN ?_ _ | refine blk_drew ?_ | refine blk_alloc ?_ _)); refine blk_far ?_ NB307_312.out _; (with_reducible repeat (first | refine blk_drewN ?_ _ | refine blk_drew ?_ | refine blk_alloc ?_ _)); exact BK307.out⟩, ⟨by (with_reducible repeat (first | refine blk_drewN ?_ _ | refine blk_drew ?_ | refine blk_alloc ?_ _)); refine blk_put (cs := #[.int .i64 t325, .int .i64 t326, .string t319]) ?_ 2 _ rfl; (with_reducible repeat (first | refine blk_drewN ?_ _ | refine blk_drew ?_ | refine blk_alloc ?_ _)); refine blk_put (cs := #[.int .i64 t325, .int .i64 t318, .string t319]) ?_ 1 _ rfl; (with_reducible repeat (first | refine blk_drewN ?_ _ | refine blk_drew ?_ | refine blk_alloc ?_ _)); refine blk_put (cs := #[.int .i64 t317, .int .i64 t318, .string t319]) ?_ 0 _ rfl; (with_reducible repeat (first | refine blk_drewN ?_ _ | refine blk_drew ?_ | refine blk_alloc ?_ _)); exact BK312.out⟩, ⟨by repeat (first | (with_reducible first | exact HB.out | apply below_alloc | apply pw_below_drewN | apply below_drew1 | refine below_set ?_ GE300.out | refine below_set ?_ GE301.out | refine below_set ?_ GE307.out | refine below_set ?_ GE312.out) | exact HB.out)⟩⟩
              case rest =>
                clear HC78
                try clear c1
                try clear c2
                try clear p2
                try clear c3
                try clear c4
                try clear c5
                try clear c6
                try clear c7
                try clear c8
                try clear c9
                try clear c10
                try clear c11
                try clear c14
                try clear c16
                try clear c17
                try clear c18
                try clear c19
                try clear c20
                try clear c23
                try clear c24
                try clear c25
                try clear c27
                try clear c27b0
                try clear c27b1
                try clear c28
                try clear c29
                try clear c30
                try clear c32
                try clear c33
                try clear c35
                try clear c36
                try clear c37
                try clear c39
                try clear c40
                try clear c42
                try clear c46
                try clear c47
                try clear c48
                try clear c50
                try clear c51
                try clear c54
                try clear c60
                try clear c60b0
                try clear c60b1
                try clear c61
                try clear c62
                try clear c63
                try clear c65
                try clear c66
                try clear c68
                try clear c69
                try clear c70
                try clear c72
                try clear c73
                try clear c75
                try clear c79
                try clear c80
                try clear c81
                try clear c83
                try clear c84
                try clear c87
                try clear c93
                try clear c93b0
                try clear c93b1
                try clear c94
                try clear c95
                try clear c96
                try clear c98
                try clear c99
                try clear c101
                try clear c102
                try clear c103
                try clear c105
                try clear c106
                try clear hcz100_0
                try clear hcz100_1
                try clear hcz100_2
                try clear hcz104_0
                try clear hcz104_1
                try clear hcz104_2
                try clear hcz107_0
                try clear hcz107_1
                try clear hcz107_2
                try clear hcz12_0
                try clear hcz12_1
                try clear hcz12_2
                try clear hcz13_0
                try clear hcz13_1
                try clear hcz13_2
                try clear hcz18_0
                try clear hcz18_1
                try clear hcz18_2
                try clear hcz19_0
                try clear hcz19_1
                try clear hcz19_2
                try clear hcz20_0
                try clear hcz20_1
                try clear hcz20_2
                try clear hcz26_0
                try clear hcz26_1
                try clear hcz26_2
                try clear hcz31_0
                try clear hcz31_1
                try clear hcz31_2
                try clear hcz34_0
                try clear hcz34_1
                try clear hcz34_2
                try clear hcz38_0
                try clear hcz38_1
                try clear hcz38_2
                try clear hcz41_0
                try clear hcz41_1
                try clear hcz41_2
                try clear hcz49_0
                try clear hcz49_1
                try clear hcz49_2
                try clear hcz52_0
                try clear hcz52_1
                try clear hcz52_2
                try clear hcz55_0
                try clear hcz55_1
                try clear hcz55_2
                try clear hcz56_0
                try clear hcz56_1
                try clear hcz56_2
                try clear hcz57_0
                try clear hcz57_1
                try clear hcz57_2
                try clear hcz59_0
                try clear hcz59_1
                try clear hcz59_2
                try clear hcz64_0
                try clear hcz64_1
                try clear hcz64_2
                try clear hcz67_0
                try clear hcz67_1
                try clear hcz67_2
                try clear hcz71_0
                try clear hcz71_1
                try clear hcz71_2
                try clear hcz74_0
                try clear hcz74_1
                try clear hcz74_2
                try clear hcz82_0
                try clear hcz82_1
                try clear hcz82_2
                try clear hcz85_0
                try clear hcz85_1
                try clear hcz85_2
                try clear hcz88_0
                try clear hcz88_1
                try clear hcz88_2
                try clear hcz89_0
                try clear hcz89_1
                try clear hcz89_2
                try clear hcz90_0
                try clear hcz90_1
                try clear hcz90_2
                try clear hcz92_0
                try clear hcz92_1
                try clear hcz92_2
                try clear hcz97_0
                try clear hcz97_1
                try clear hcz97_2
                try clear hfz100_0
                try clear hfz100_1
                try clear hfz100_2
                try clear hfz104_0
                try clear hfz104_1
                try clear hfz104_2
                try clear hfz107_0
                try clear hfz107_1
                try clear hfz107_2
                try clear hfz12_0
                try clear hfz12_1
                try clear hfz12_2
                try clear hfz13_0
                try clear hfz13_1
                try clear hfz13_2
                try clear hfz18_0
                try clear hfz18_1
                try clear hfz18_2
                try clear hfz19_0
                try clear hfz19_1
                try clear hfz19_2
                try clear hfz20_0
                try clear hfz20_1
                try clear hfz20_2
                try clear hfz26_0
                try clear hfz26_1
                try clear hfz26_2
                try clear hfz31_0
                try clear hfz31_1
                try clear hfz31_2
                try clear hfz34_0
                try clear hfz34_1
                try clear hfz34_2
                try clear hfz38_0
                try clear hfz38_1
                try clear hfz38_2
                try clear hfz41_0
                try clear hfz41_1
                try clear hfz41_2
                try clear hfz49_0
                try clear hfz49_1
                try clear hfz49_2
                try clear hfz52_0
                try clear hfz52_1
                try clear hfz52_2
                try clear hfz55_0
                try clear hfz55_1
                try clear hfz55_2
                try clear hfz56_0
                try clear hfz56_1
                try clear hfz56_2
                try clear hfz57_0
                try clear hfz57_1
                try clear hfz57_2
                try clear hfz59_0
                try clear hfz59_1
                try clear hfz59_2
                try clear hfz64_0
                try clear hfz64_1
                try clear hfz64_2
                try clear hfz67_0
                try clear hfz67_1
                try clear hfz67_2
                try clear hfz71_0
                try clear hfz71_1
                try clear hfz71_2
                try clear hfz74_0
                try clear hfz74_1
                try clear hfz74_2
                try clear hfz82_0
                try clear hfz82_1
                try clear hfz82_2
                try clear hfz85_0
                try clear hfz85_1
                try clear hfz85_2
                try clear hfz88_0
                try clear hfz88_1
                try clear hfz88_2
                try clear hfz89_0
                try clear hfz89_1
                try clear hfz89_2
                try clear hfz90_0
                try clear hfz90_1
                try clear hfz90_2
                try clear hfz92_0
                try clear hfz92_1
                try clear hfz92_2
                try clear hfz97_0
                try clear hfz97_1
                try clear hfz97_2
                try clear p2
                obtain ⟨kq, x74_77, rfl, HA, HJ77, BK300, BK301, BK307, BK312, HB⟩ := hcut
                cases kq with
                | zero => exact absurd HA.out (by simp [weathercocklaw01_ValueTells.j2])
                | succ kj77 =>
                  have H := HA.out
                  clear HA
                  simp only [weathercocklaw01_ValueTells.j2] at H
                  by_cases c108 : x74_77 = true
                  · subst c108
                    have H1 : (some false) = some r := by rw [if_pos rfl] at H; exact H
                    clear H
                    have H := H1
                    clear H1
                    exact absurd (Option.some.inj H) (fun h_ => absurd (h_.trans HRT.out) (by decide))
                  · replace c108 := Bool.eq_false_iff.mpr c108
                    subst c108
                    have H1 : ((value_Not.f kj77 a1_0 a1_1 a1_2).bind fun bt329 => ((weathercockref01_Not.f a1_0 a1_1 a1_2).bind fun bt333 => (if t302 = true then (if (bt329.1 == bt333.1 && (bt329.2.1 == bt333.2.1 && (bt329.2.2.1.toList == bt333.2.2.1.toList))) = true then (if bt329.2.2.2 = bt333.2.2.2 then ((value_Right.f a1_0 a1_1 a1_2).bind fun t337 => ((weathercockref01_Right.f a1_0 a1_1 a1_2).bind fun t338 => (if (t337 == t338) = true then ((value_Compare.f kj77 a1_0 a1_1 a1_2 a2_0 a2_1 a2_2).bind fun t339 => ((weathercockref01_Compare.f a1_0 a1_1 a1_2 a2_0 a2_1 a2_2).bind fun t340 => (some (t339 == t340)))) else (some false)))) else (some false)) else (some false)) else (some false)))) = some r := by rw [if_neg (show ¬ (false = true) by decide)] at H; exact H
                    clear H
                    have H := H1
                    clear H1
                    replace H := Option.bind_eq_some_iff.mp H
                    obtain ⟨⟨t329, t330, t331, t332⟩, A1090, H⟩ := H
                    replace H : ((weathercockref01_Not.f a1_0 a1_1 a1_2).bind fun bt333 => (if t302 = true then (if (t329 == bt333.1 && (t330 == bt333.2.1 && (t331.toList == bt333.2.2.1.toList))) = true then (if t332 = bt333.2.2.2 then ((value_Right.f a1_0 a1_1 a1_2).bind fun t337 => ((weathercockref01_Right.f a1_0 a1_1 a1_2).bind fun t338 => (if (t337 == t338) = true then ((value_Compare.f kj77 a1_0 a1_1 a1_2 a2_0 a2_1 a2_2).bind fun t339 => ((weathercockref01_Compare.f a1_0 a1_1 a1_2 a2_0 a2_1 a2_2).bind fun t340 => (some (t339 == t340)))) else (some false)))) else (some false)) else (some false)) else (some false))) = some r := H
                    have A109 := Aside0.mk A1090
                    clear A1090
                    replace H := Option.bind_eq_some_iff.mp H
                    obtain ⟨⟨t333, t334, t335, t336⟩, A1100, H⟩ := H
                    replace H : (if t302 = true then (if (t329 == t333 && (t330 == t334 && (t331.toList == t335.toList))) = true then (if t332 = t336 then ((value_Right.f a1_0 a1_1 a1_2).bind fun t337 => ((weathercockref01_Right.f a1_0 a1_1 a1_2).bind fun t338 => (if (t337 == t338) = true then ((value_Compare.f kj77 a1_0 a1_1 a1_2 a2_0 a2_1 a2_2).bind fun t339 => ((weathercockref01_Compare.f a1_0 a1_1 a1_2 a2_0 a2_1 a2_2).bind fun t340 => (some (t339 == t340)))) else (some false)))) else (some false)) else (some false)) else (some false)) = some r := H
                    have A110 := Aside0.mk A1100
                    clear A1100
                    by_cases c111 : t302 = true
                    · subst c111
                      have H1 : (if (t329 == t333 && (t330 == t334 && (t331.toList == t335.toList))) = true then (if t332 = t336 then ((value_Right.f a1_0 a1_1 a1_2).bind fun t337 => ((weathercockref01_Right.f a1_0 a1_1 a1_2).bind fun t338 => (if (t337 == t338) = true then ((value_Compare.f kj77 a1_0 a1_1 a1_2 a2_0 a2_1 a2_2).bind fun t339 => ((weathercockref01_Compare.f a1_0 a1_1 a1_2 a2_0 a2_1 a2_2).bind fun t340 => (some (t339 == t340)))) else (some false)))) else (some false)) else (some false)) = some r := by rw [if_pos rfl] at H; exact H
                      clear H
                      have H := H1
                      clear H1
                      by_cases c112 : (t329 == t333 && (t330 == t334 && (t331.toList == t335.toList))) = true
                      · rw [if_pos c112] at H
                        have c112b0 : (t329 == t333 && (t330 == t334 && (t331.toList == t335.toList))) = true := c112
                        (try (have c112b1 : decide (t329 = t333 && (t330 == t334 && (t331.toList == t335.toList))) = true := by simpa using c112))
                        (try (have c112b2 : (t329 == t333 && (t330 == t334 && (t331.toList == t335.toList))) = true := by simpa using c112))
                        clear c112
                        by_cases c113 : t332 = t336
                        · rw [if_pos c113] at H
                          have c113b0 : (t332 == t336) = true := beq_iff_eq.mpr c113
                          have c113b1 : (t332 != t336) = false := bne_eq_false_iff_eq.mpr c113
                          clear c113
                          replace H := Option.bind_eq_some_iff.mp H
                          obtain ⟨t337, A1140, H⟩ := H
                          replace H : ((weathercockref01_Right.f a1_0 a1_1 a1_2).bind fun t338 => (if (t337 == t338) = true then ((value_Compare.f kj77 a1_0 a1_1 a1_2 a2_0 a2_1 a2_2).bind fun t339 => ((weathercockref01_Compare.f a1_0 a1_1 a1_2 a2_0 a2_1 a2_2).bind fun t340 => (some (t339 == t340)))) else (some false))) = some r := H
                          have A114 := Aside0.mk A1140
                          clear A1140
                          replace H := Option.bind_eq_some_iff.mp H
                          obtain ⟨t338, A1150, H⟩ := H
                          replace H : (if (t337 == t338) = true then ((value_Compare.f kj77 a1_0 a1_1 a1_2 a2_0 a2_1 a2_2).bind fun t339 => ((weathercockref01_Compare.f a1_0 a1_1 a1_2 a2_0 a2_1 a2_2).bind fun t340 => (some (t339 == t340)))) else (some false)) = some r := H
                          have A115 := Aside0.mk A1150
                          clear A1150
                          by_cases c116 : (t337 == t338) = true
                          · rw [if_pos c116] at H
                            have c116b0 : (t337 == t338) = true := c116
                            (try (have c116b1 : decide (t337 = t338) = true := by simpa using c116))
                            (try (have c116b2 : (t337 == t338) = true := by simpa using c116))
                            clear c116
                            replace H := Option.bind_eq_some_iff.mp H
                            obtain ⟨t339, A1170, H⟩ := H
                            replace H : ((weathercockref01_Compare.f a1_0 a1_1 a1_2 a2_0 a2_1 a2_2).bind fun t340 => (some (t339 == t340))) = some r := H
                            have A117 := Aside0.mk A1170
                            clear A1170
                            replace H := Option.bind_eq_some_iff.mp H
                            obtain ⟨t340, A1180, H⟩ := H
                            replace H : (some (t339 == t340)) = some r := H
                            have A118 := Aside0.mk A1180
                            clear A1180
                            obtain rfl := Option.some.inj H
                            have hnb119 := NB300_301.out
                            have hnc119 := NB301_300.out
                            have hnb120 := NB300_307.out
                            have hnc120 := NB307_300.out
                            have hnb121 := NB300_312.out
                            have hnc121 := NB312_300.out
                            have hcz122_0 : wc.cell? ⟨gb300, 0, none⟩ = some (.int .i64 a1_0) := (blk_cell BK300.out 0).trans rfl
                            have hcz122_1 : wc.cell? ⟨gb300, 1, none⟩ = some (.int .i64 a1_1) := (blk_cell BK300.out 1).trans rfl
                            have hcz122_2 : wc.cell? ⟨gb300, 2, none⟩ = some (.string a1_2) := (blk_cell BK300.out 2).trans rfl
                            have hfz122_0 := blk_frozen BK300.out 0
                            have hfz122_1 := blk_frozen BK300.out 1
                            have hfz122_2 := blk_frozen BK300.out 2
                            try go_wp2_with (first | ((with_reducible refine gate_callee (f := 15) rfl ?_); refine goesL_ (some 77) rfl rfl Try.func15 (by kernel_rfl) rfl #[.agg #[.int .i64 a1_0, .int .i64 a1_1, .string a1_2]] rfl (by (try simp only [List.map_toArray, List.map_cons, List.map_nil]); first | done | rfl | (simp only [List.length_drop, List.length_take]; rfl)) ?_; (with_reducible refine (value_Not.calls kj77 a1_0 a1_1 a1_2 t329 t330 t331 t332 _ A109.out).mono ?_); rintro e w123 ⟨rfl, hb⟩; refine ⟨_, rfl, ?_⟩; have n0_ := Aside0.mk (blk_below (g := gb300) (o := .cells #[.int .i64 a1_0, .int .i64 a1_1, .string a1_2] 23 (0, 0)) (by (with_reducible repeat (first | refine blk_drewN ?_ _ | refine blk_drew ?_ | refine blk_alloc ?_ _)); exact BK300.out) hb); have n1_ := Aside0.mk (blk_below (g := gb301) (o := .cells #[.int .i64 a2_0, .int .i64 a2_1, .string a2_2] 23 (0, 0)) (by (with_reducible repeat (first | refine blk_drewN ?_ _ | refine blk_drew ?_ | refine blk_alloc ?_ _)); exact BK301.out) hb); have n2_ := Aside0.mk (blk_below (g := gb307) (o := .cells #[.int .i64 t321, .int .i64 t322, .string t323] 23 (0, 0)) (by (with_reducible repeat (first | refine blk_drewN ?_ _ | refine blk_drew ?_ | refine blk_alloc ?_ _)); exact BK307.out) hb); have n3_ := Aside0.mk (blk_below (g := gb312) (o := .cells #[.int .i64 t325, .int .i64 t326, .string t327] 23 (0, 0)) (by (with_reducible repeat (first | refine blk_drewN ?_ _ | refine blk_drew ?_ | refine blk_alloc ?_ _)); exact BK312.out) hb); have n4_ := Aside0.mk (below_step (by repeat (first | (with_reducible first | exact HB.out | apply below_alloc | apply pw_below_drewN | apply below_drew1 | refine below_set ?_ GE300.out | refine below_set ?_ GE301.out | refine below_set ?_ GE307.out | refine below_set ?_ GE312.out) | exact HB.out)) hb); clear BK300; clear BK301; clear BK307; clear BK312; clear HB; have BK300 := n0_; have BK301 := n1_; have BK307 := n2_; have BK312 := n3_; have HB := n4_; clear n0_ n1_ n2_ n3_ n4_; (try clear hb); (try clear hb2); (try clear hk); (try clear hi); have hnb124 := NB307_301.out; have hnc124 := NB301_307.out; have hnb125 := NB307_312.out; have hnc125 := NB312_307.out; have hcz126_0 : w123.cell? ⟨gb307, 0, none⟩ = some (.int .i64 t321) := (blk_cell BK307.out 0).trans rfl; have hcz126_1 : w123.cell? ⟨gb307, 1, none⟩ = some (.int .i64 t322) := (blk_cell BK307.out 1).trans rfl; have hcz126_2 : w123.cell? ⟨gb307, 2, none⟩ = some (.string t323) := (blk_cell BK307.out 2).trans rfl; have hfz126_0 := blk_frozen BK307.out 0; have hfz126_1 := blk_frozen BK307.out 1; have hfz126_2 := blk_frozen BK307.out 2; have hcz127_0 : w123.cell? ⟨gb300, 0, none⟩ = some (.int .i64 a1_0) := (blk_cell BK300.out 0).trans rfl; have hcz127_1 : w123.cell? ⟨gb300, 1, none⟩ = some (.int .i64 a1_1) := (blk_cell BK300.out 1).trans rfl; have hcz127_2 : w123.cell? ⟨gb300, 2, none⟩ = some (.string a1_2) := (blk_cell BK300.out 2).trans rfl; have hfz127_0 := blk_frozen BK300.out 0; have hfz127_1 := blk_frozen BK300.out 1; have hfz127_2 := blk_frozen BK300.out 2) | ((with_reducible refine gate_callee (f := 21) rfl ?_); refine goesL_ (some 82) rfl rfl Try.func21 (by kernel_rfl) rfl #[.agg #[.int .i64 a1_0, .int .i64 a1_1, .string a1_2]] rfl (by (try simp only [List.map_toArray, List.map_cons, List.map_nil]); first | done | rfl | (simp only [List.length_drop, List.length_take]; rfl)) ?_; (with_reducible refine (weathercockref01_Not.calls a1_0 a1_1 a1_2 t333 t334 t335 t336 _ A110.out).mono ?_); rintro e w128 ⟨rfl, hb⟩; refine ⟨_, rfl, ?_⟩; have n0_ := Aside0.mk (blk_below (g := gb300) (o := .cells #[.int .i64 a1_0, .int .i64 a1_1, .string a1_2] 23 (0, 0)) (by (with_reducible repeat (first | refine blk_drewN ?_ _ | refine blk_drew ?_ | refine blk_alloc ?_ _)); refine blk_far ?_ NB300_307.out _; (with_reducible repeat (first | refine blk_drewN ?_ _ | refine blk_drew ?_ | refine blk_alloc ?_ _)); refine blk_far ?_ NB300_307.out _; (with_reducible repeat (first | refine blk_drewN ?_ _ | refine blk_drew ?_ | refine blk_alloc ?_ _)); refine blk_far ?_ NB300_307.out _; (with_reducible repeat (first | refine blk_drewN ?_ _ | refine blk_drew ?_ | refine blk_alloc ?_ _)); exact BK300.out) hb); have n1_ := Aside0.mk (blk_below (g := gb301) (o := .cells #[.int .i64 a2_0, .int .i64 a2_1, .string a2_2] 23 (0, 0)) (by (with_reducible repeat (first | refine blk_drewN ?_ _ | refine blk_drew ?_ | refine blk_alloc ?_ _)); refine blk_far ?_ NB301_307.out _; (with_reducible repeat (first | refine blk_drewN ?_ _ | refine blk_drew ?_ | refine blk_alloc ?_ _)); refine blk_far ?_ NB301_307.out _; (with_reducible repeat (first | refine blk_drewN ?_ _ | refine blk_drew ?_ | refine blk_alloc ?_ _)); refine blk_far ?_ NB301_307.out _; (with_reducible repeat (first | refine blk_drewN ?_ _ | refine blk_drew ?_ | refine blk_alloc ?_ _)); exact BK301.out) hb); have n2_ := Aside0.mk (blk_below (g := gb307) (o := .cells #[.int .i64 t329, .int .i64 t330, .string t331] 23 (0, 0)) (by (with_reducible repeat (first | refine blk_drewN ?_ _ | refine blk_drew ?_ | refine blk_alloc ?_ _)); refine blk_put (cs := #[.int .i64 t329, .int .i64 t330, .string t323]) ?_ 2 _ rfl; (with_reducible repeat (first | refine blk_drewN ?_ _ | refine blk_drew ?_ | refine blk_alloc ?_ _)); refine blk_put (cs := #[.int .i64 t329, .int .i64 t322, .string t323]) ?_ 1 _ rfl; (with_reducible repeat (first | refine blk_drewN ?_ _ | refine blk_drew ?_ | refine blk_alloc ?_ _)); refine blk_put (cs := #[.int .i64 t321, .int .i64 t322, .string t323]) ?_ 0 _ rfl; (with_reducible repeat (first | refine blk_drewN ?_ _ | refine blk_drew ?_ | refine blk_alloc ?_ _)); exact BK307.out) hb); have n3_ := Aside0.mk (blk_below (g := gb312) (o := .cells #[.int .i64 t325, .int .i64 t326, .string t327] 23 (0, 0)) (by (with_reducible repeat (first | refine blk_drewN ?_ _ | refine blk_drew ?_ | refine blk_alloc ?_ _)); refine blk_far ?_ NB312_307.out _; (with_reducible repeat (first | refine blk_drewN ?_ _ | refine blk_drew ?_ | refine blk_alloc ?_ _)); refine blk_far ?_ NB312_307.out _; (with_reducible repeat (first | refine blk_drewN ?_ _ | refine blk_drew ?_ | refine blk_alloc ?_ _)); refine blk_far ?_ NB312_307.out _; (with_reducible repeat (first | refine blk_drewN ?_ _ | refine blk_drew ?_ | refine blk_alloc ?_ _)); exact BK312.out) hb); have n4_ := Aside0.mk (below_step (by repeat (first | (with_reducible first | exact HB.out | apply below_alloc | apply pw_below_drewN | apply below_drew1 | refine below_set ?_ GE300.out | refine below_set ?_ GE301.out | refine below_set ?_ GE307.out | refine below_set ?_ GE312.out) | exact HB.out)) hb); clear BK300; clear BK301; clear BK307; clear BK312; clear HB; have BK300 := n0_; have BK301 := n1_; have BK307 := n2_; have BK312 := n3_; have HB := n4_; clear n0_ n1_ n2_ n3_ n4_; (try clear hb); (try clear hb2); (try clear hk); (try clear hi); have hnb129 := NB312_301.out; have hnc129 := NB301_312.out; have hcz130_0 : w128.cell? ⟨gb312, 0, none⟩ = some (.int .i64 t325) := (blk_cell BK312.out 0).trans rfl; have hcz130_1 : w128.cell? ⟨gb312, 1, none⟩ = some (.int .i64 t326) := (blk_cell BK312.out 1).trans rfl; have hcz130_2 : w128.cell? ⟨gb312, 2, none⟩ = some (.string t327) := (blk_cell BK312.out 2).trans rfl; have hfz130_0 := blk_frozen BK312.out 0; have hfz130_1 := blk_frozen BK312.out 1; have hfz130_2 := blk_frozen BK312.out 2))
                            have n0_ : Aside0 ((((w128.setCell ⟨gb312, 0, none⟩ (.int .i64 t333)).setCell ⟨gb312, 1, none⟩ (.int .i64 t334)).setCell ⟨gb312, 2, none⟩ (.string t335)).heap[gb300]? = some (.cells #[.int .i64 a1_0, .int .i64 a1_1, .string a1_2] 23 (0, 0))) := ⟨by (with_reducible repeat (first | refine blk_drewN ?_ _ | refine blk_drew ?_ | refine blk_alloc ?_ _)); refine blk_far ?_ NB300_312.out _; (with_reducible repeat (first | refine blk_drewN ?_ _ | refine blk_drew ?_ | refine blk_alloc ?_ _)); refine blk_far ?_ NB300_312.out _; (with_reducible repeat (first | refine blk_drewN ?_ _ | refine blk_drew ?_ | refine blk_alloc ?_ _)); refine blk_far ?_ NB300_312.out _; (with_reducible repeat (first | refine blk_drewN ?_ _ | refine blk_drew ?_ | refine blk_alloc ?_ _)); exact BK300.out⟩
                            have n1_ : Aside0 ((((w128.setCell ⟨gb312, 0, none⟩ (.int .i64 t333)).setCell ⟨gb312, 1, none⟩ (.int .i64 t334)).setCell ⟨gb312, 2, none⟩ (.string t335)).heap[gb301]? = some (.cells #[.int .i64 a2_0, .int .i64 a2_1, .string a2_2] 23 (0, 0))) := ⟨by (with_reducible repeat (first | refine blk_drewN ?_ _ | refine blk_drew ?_ | refine blk_alloc ?_ _)); refine blk_far ?_ NB301_312.out _; (with_reducible repeat (first | refine blk_drewN ?_ _ | refine blk_drew ?_ | refine blk_alloc ?_ _)); refine blk_far ?_ NB301_312.out _; (with_reducible repeat (first | refine blk_drewN ?_ _ | refine blk_drew ?_ | refine blk_alloc ?_ _)); refine blk_far ?_ NB301_312.out _; (with_reducible repeat (first | refine blk_drewN ?_ _ | refine blk_drew ?_ | refine blk_alloc ?_ _)); exact BK301.out⟩
                            have n2_ : Aside0 ((((w128.setCell ⟨gb312, 0, none⟩ (.int .i64 t333)).setCell ⟨gb312, 1, none⟩ (.int .i64 t334)).setCell ⟨gb312, 2, none⟩ (.string t335)).heap[gb307]? = some (.cells #[.int .i64 t329, .int .i64 t330, .string t331] 23 (0, 0))) := ⟨by (with_reducible repeat (first | refine blk_drewN ?_ _ | refine blk_drew ?_ | refine blk_alloc ?_ _)); refine blk_far ?_ NB307_312.out _; (with_reducible repeat (first | refine blk_drewN ?_ _ | refine blk_drew ?_ | refine blk_alloc ?_ _)); refine blk_far ?_ NB307_312.out _; (with_reducible repeat (first | refine blk_drewN ?_ _ | refine blk_drew ?_ | refine blk_alloc ?_ _)); refine blk_far ?_ NB307_312.out _; (with_reducible repeat (first | refine blk_drewN ?_ _ | refine blk_drew ?_ | refine blk_alloc ?_ _)); exact BK307.out⟩
                            have n3_ : Aside0 ((((w128.setCell ⟨gb312, 0, none⟩ (.int .i64 t333)).setCell ⟨gb312, 1, none⟩ (.int .i64 t334)).setCell ⟨gb312, 2, none⟩ (.string t335)).heap[gb312]? = some (.cells #[.int .i64 t333, .int .i64 t334, .string t335] 23 (0, 0))) := ⟨by (with_reducible repeat (first | refine blk_drewN ?_ _ | refine blk_drew ?_ | refine blk_alloc ?_ _)); refine blk_put (cs := #[.int .i64 t333, .int .i64 t334, .string t327]) ?_ 2 _ rfl; (with_reducible repeat (first | refine blk_drewN ?_ _ | refine blk_drew ?_ | refine blk_alloc ?_ _)); refine blk_put (cs := #[.int .i64 t333, .int .i64 t326, .string t327]) ?_ 1 _ rfl; (with_reducible repeat (first | refine blk_drewN ?_ _ | refine blk_drew ?_ | refine blk_alloc ?_ _)); refine blk_put (cs := #[.int .i64 t325, .int .i64 t326, .string t327]) ?_ 0 _ rfl; (with_reducible repeat (first | refine blk_drewN ?_ _ | refine blk_drew ?_ | refine blk_alloc ?_ _)); exact BK312.out⟩
                            have n4_ : Aside0 (Below w.heap.size w (((w128.setCell ⟨gb312, 0, none⟩ (.int .i64 t333)).setCell ⟨gb312, 1, none⟩ (.int .i64 t334)).setCell ⟨gb312, 2, none⟩ (.string t335))) := ⟨by repeat (first | (with_reducible first | exact HB.out | apply below_alloc | apply pw_below_drewN | apply below_drew1 | refine below_set ?_ GE300.out | refine below_set ?_ GE301.out | refine below_set ?_ GE307.out | refine below_set ?_ GE312.out) | exact HB.out)⟩
                            (try clear BK300)
                            (try clear BK301)
                            (try clear BK307)
                            (try clear BK312)
                            (try clear HB)
                            generalize (((w128.setCell ⟨gb312, 0, none⟩ (.int .i64 t333)).setCell ⟨gb312, 1, none⟩ (.int .i64 t334)).setCell ⟨gb312, 2, none⟩ (.string t335)) = w131 at n0_ n1_ n2_ n3_ n4_ ⊢
                            have BK300 := n0_
                            have BK301 := n1_
                            have BK307 := n2_
                            have BK312 := n3_
                            have HB := n4_
                            clear n0_ n1_ n2_ n3_ n4_
                            have n0_ := Aside0.mk (blk_drew BK300.out)
                            have n1_ := Aside0.mk (blk_drew BK301.out)
                            have n2_ := Aside0.mk (blk_drew BK307.out)
                            have n3_ := Aside0.mk (blk_drew BK312.out)
                            have n4_ := Aside0.mk (below_drew1 HB.out)
                            clear BK300
                            clear BK301
                            clear BK307
                            clear BK312
                            clear HB
                            have BK300 := n0_
                            have BK301 := n1_
                            have BK307 := n2_
                            have BK312 := n3_
                            have HB := n4_
                            clear n0_ n1_ n2_ n3_ n4_
                            refine start_ (n := 28) (S := fun w' => w'.cell? ⟨gb307, 0, none⟩ = some (.int .i64 t329) ∧ w'.cell? ⟨gb307, 1, none⟩ = some (.int .i64 t330) ∧ w'.cell? ⟨gb307, 2, none⟩ = some (.string t331) ∧ w'.cell? ⟨gb312, 0, none⟩ = some (.int .i64 t333) ∧ w'.cell? ⟨gb312, 1, none⟩ = some (.int .i64 t334) ∧ w'.cell? ⟨gb312, 2, none⟩ = some (.string t335) ∧ w'.cell? ⟨gb300, 0, none⟩ = some (.int .i64 a1_0) ∧ w'.cell? ⟨gb300, 1, none⟩ = some (.int .i64 a1_1) ∧ w'.cell? ⟨gb300, 2, none⟩ = some (.string a1_2) ∧ w'.cell? ⟨gb301, 0, none⟩ = some (.int .i64 a2_0) ∧ w'.cell? ⟨gb301, 1, none⟩ = some (.int .i64 a2_1) ∧ w'.cell? ⟨gb301, 2, none⟩ = some (.string a2_2)) (ds := []) #[false, false, false, false, false, false, false, false, false, false, false, false, false, false, false, false, false, false, false, false, false, false, false, false, false, false, false, false] (by kernel_rfl) rfl rfl ⟨(blk_cell BK307.out 0).trans rfl, (blk_cell BK307.out 1).trans rfl, (blk_cell BK307.out 2).trans rfl, (blk_cell BK312.out 0).trans rfl, (blk_cell BK312.out 1).trans rfl, (blk_cell BK312.out 2).trans rfl, (blk_cell BK300.out 0).trans rfl, (blk_cell BK300.out 1).trans rfl, (blk_cell BK300.out 2).trans rfl, (blk_cell BK301.out 0).trans rfl, (blk_cell BK301.out 1).trans rfl, (blk_cell BK301.out 2).trans rfl⟩ (fun hHeld => ?_); refine with_tabW weathercocklaw01_ValueTells.tab16 weathercocklaw01_ValueTells.bits16 (fun HT_ HW_ => ?_)
                            generalize w131.drew = w132 at BK300 BK301 BK307 BK312 HB hHeld ⊢
                            refine pure_ (i := 0) (N := some 85) (v := ?_) (a' := ?_) #[true, false, false, false, false, false, false, false, false, false, false, false, false, false, false, false, false, false, false, false, false, false, false, false, false, false, false, false] rfl rfl (any_of HT_.out (by kernel_rfl)) (fun _ _ _ h => h) (Or.inl ⟨by rfl, ?_⟩) ?_ ?_
                            rotate_left
                            · intro w'
                              go_simp
                              with_reducible rfl
                            rotate_left
                            · simp only [Act.put, List.setIfInBounds_toArray, List.set_cons_zero, List.set_cons_succ, i64_w, i32_w]
                              rfl
                            refine pure_ (i := 1) (N := some 86) (v := ?_) (a' := ?_) #[true, true, false, false, false, false, false, false, false, false, false, false, false, false, false, false, false, false, false, false, false, false, false, false, false, false, false, false] rfl rfl (any_of HT_.out (by kernel_rfl)) (fun _ _ _ h => h) (Or.inl ⟨by rfl, ?_⟩) ?_ ?_
                            rotate_left
                            · intro w'
                              go_simp
                              with_reducible rfl
                            rotate_left
                            · simp only [Act.put, List.setIfInBounds_toArray, List.set_cons_zero, List.set_cons_succ, i64_w, i32_w]
                              rfl
                            refine take_ (i := 2) (N := some 87) (v := ?_) (a' := ?_) #[true, true, true, false, false, false, false, false, false, false, false, false, false, false, false, false, false, false, false, false, false, false, false, false, false, false, false, false] rfl rfl (take_ofW HT_.out HW_.out (by kernel_rfl)) (fun _ _ _ h => h) (Or.inl ⟨by rfl, ?_⟩) hHeld ?_ ?_
                            rotate_left
                            · rintro w' ⟨s0, s1, s2, s3, s4, s5, s6, s7, s8, s9, s10, s11⟩
                              go_simp
                              with_reducible rfl
                            rotate_left
                            · simp only [Act.put, List.setIfInBounds_toArray, List.set_cons_zero, List.set_cons_succ, i64_w, i32_w]
                              rfl
                            refine take_ (i := 3) (N := some 88) (v := ?_) (a' := ?_) #[true, true, true, true, false, false, false, false, false, false, false, false, false, false, false, false, false, false, false, false, false, false, false, false, false, false, false, false] rfl rfl (take_ofW HT_.out HW_.out (by kernel_rfl)) (fun _ _ _ h => h) (Or.inl ⟨by rfl, ?_⟩) hHeld ?_ ?_
                            rotate_left
                            · rintro w' ⟨s0, s1, s2, s3, s4, s5, s6, s7, s8, s9, s10, s11⟩
                              go_simp
                              with_reducible rfl
                            rotate_left
                            · simp only [Act.put, List.setIfInBounds_toArray, List.set_cons_zero, List.set_cons_succ, i64_w, i32_w]
                              rfl
                            refine pure_ (i := 4) (N := some 89) (v := ?_) (a' := ?_) #[true, true, true, true, true, false, false, false, false, false, false, false, false, false, false, false, false, false, false, false, false, false, false, false, false, false, false, false] rfl rfl (any_of HT_.out (by kernel_rfl)) (fun _ _ _ h => h) (Or.inl ⟨by rfl, ?_⟩) ?_ ?_
                            rotate_left
                            · intro w'
                              go_simp
                              with_reducible rfl
                            rotate_left
                            · simp only [Act.put, List.setIfInBounds_toArray, List.set_cons_zero, List.set_cons_succ, i64_w, i32_w]
                              rfl
                            refine pure_ (i := 5) (N := some 90) (v := ?_) (a' := ?_) #[true, true, true, true, true, true, false, false, false, false, false, false, false, false, false, false, false, false, false, false, false, false, false, false, false, false, false, false] rfl rfl (any_of HT_.out (by kernel_rfl)) (fun _ _ _ h => h) (Or.inl ⟨by rfl, ?_⟩) ?_ ?_
                            rotate_left
                            · intro w'
                              go_simp
                              with_reducible rfl
                            rotate_left
                            · simp only [Act.put, List.setIfInBounds_toArray, List.set_cons_zero, List.set_cons_succ, i64_w, i32_w]
                              rfl
                            refine pure_ (i := 6) (N := some 91) (v := ?_) (a' := ?_) #[true, true, true, true, true, true, true, false, false, false, false, false, false, false, false, false, false, false, false, false, false, false, false, false, false, false, false, false] rfl rfl (any_of HT_.out (by kernel_rfl)) (fun _ _ _ h => h) (Or.inl ⟨by rfl, ?_⟩) ?_ ?_
                            rotate_left
                            · intro w'
                              go_simp
                              with_reducible rfl
                            rotate_left
                            · simp only [Act.put, List.setIfInBounds_toArray, List.set_cons_zero, List.set_cons_succ, i64_w, i32_w]
                              rfl
                            refine pure_ (i := 7) (N := some 92) (v := ?_) (a' := ?_) #[true, true, true, true, true, true, true, true, false, false, false, false, false, false, false, false, false, false, false, false, false, false, false, false, false, false, false, false] rfl rfl (any_of HT_.out (by kernel_rfl)) (fun _ _ _ h => h) (Or.inl ⟨by rfl, ?_⟩) ?_ ?_
                            rotate_left
                            · intro w'
                              go_simp
                              with_reducible rfl
                            rotate_left
                            · simp only [Act.put, List.setIfInBounds_toArray, List.set_cons_zero, List.set_cons_succ, i64_w, i32_w]
                              rfl
                            refine pure_ (i := 8) (N := some 93) (v := ?_) (a' := ?_) #[true, true, true, true, true, true, true, true, true, false, false, false, false, false, false, false, false, false, false, false, false, false, false, false, false, false, false, false] rfl rfl (any_of HT_.out (by kernel_rfl)) (fun _ _ _ h => h) (Or.inl ⟨by rfl, ?_⟩) ?_ ?_
                            rotate_left
                            · intro w'
                              go_simp
                              with_reducible rfl
                            rotate_left
                            · simp only [Act.put, List.setIfInBounds_toArray, List.set_cons_zero, List.set_cons_succ, i64_w, i32_w]
                              rfl
                            refine pure_ (i := 9) (N := some 94) (v := ?_) (a' := ?_) #[true, true, true, true, true, true, true, true, true, true, false, false, false, false, false, false, false, false, false, false, false, false, false, false, false, false, false, false] rfl rfl (any_of HT_.out (by kernel_rfl)) (fun _ _ _ h => h) (Or.inl ⟨by rfl, ?_⟩) ?_ ?_
                            rotate_left
                            · intro w'
                              go_simp
                              with_reducible rfl
                            rotate_left
                            · simp only [Act.put, List.setIfInBounds_toArray, List.set_cons_zero, List.set_cons_succ, i64_w, i32_w]
                              rfl
                            refine pure_ (i := 10) (N := some 95) (v := ?_) (a' := ?_) #[true, true, true, true, true, true, true, true, true, true, true, false, false, false, false, false, false, false, false, false, false, false, false, false, false, false, false, false] rfl rfl (any_of HT_.out (by kernel_rfl)) (fun _ _ _ h => h) (Or.inl ⟨by rfl, ?_⟩) ?_ ?_
                            rotate_left
                            · intro w'
                              go_simp
                              with_reducible rfl
                            rotate_left
                            · simp only [Act.put, List.setIfInBounds_toArray, List.set_cons_zero, List.set_cons_succ, i64_w, i32_w]
                              rfl
                            refine pure_ (i := 11) (N := some 96) (v := ?_) (a' := ?_) #[true, true, true, true, true, true, true, true, true, true, true, true, false, false, false, false, false, false, false, false, false, false, false, false, false, false, false, false] rfl rfl (any_of HT_.out (by kernel_rfl)) (fun _ _ _ h => h) (Or.inl ⟨by rfl, ?_⟩) ?_ ?_
                            rotate_left
                            · intro w'
                              go_simp
                              with_reducible rfl
                            rotate_left
                            · simp only [Act.put, List.setIfInBounds_toArray, List.set_cons_zero, List.set_cons_succ, i64_w, i32_w]
                              rfl
                            refine take_ (i := 12) (N := some 97) (v := ?_) (a' := ?_) #[true, true, true, true, true, true, true, true, true, true, true, true, true, false, false, false, false, false, false, false, false, false, false, false, false, false, false, false] rfl rfl (take_ofW HT_.out HW_.out (by kernel_rfl)) (fun _ _ _ h => h) (Or.inl ⟨by rfl, ?_⟩) hHeld ?_ ?_
                            rotate_left
                            · rintro w' ⟨s0, s1, s2, s3, s4, s5, s6, s7, s8, s9, s10, s11⟩
                              go_simp
                              with_reducible rfl
                            rotate_left
                            · simp only [Act.put, List.setIfInBounds_toArray, List.set_cons_zero, List.set_cons_succ, i64_w, i32_w]
                              rfl
                            refine take_ (i := 14) (N := some 99) (v := ?_) (a' := ?_) #[true, true, true, true, true, true, true, true, true, true, true, true, true, false, true, false, false, false, false, false, false, false, false, false, false, false, false, false] rfl rfl (take_ofW HT_.out HW_.out (by kernel_rfl)) (fun _ _ _ h => h) (Or.inl ⟨by rfl, ?_⟩) hHeld ?_ ?_
                            rotate_left
                            · rintro w' ⟨s0, s1, s2, s3, s4, s5, s6, s7, s8, s9, s10, s11⟩
                              go_simp
                              with_reducible rfl
                            rotate_left
                            · simp only [Act.put, List.setIfInBounds_toArray, List.set_cons_zero, List.set_cons_succ, i64_w, i32_w]
                              rfl
                            refine one_ (i := 13) (N := some 98) #[true, true, true, true, true, true, true, true, true, true, true, true, true, true, true, false, false, false, false, false, false, false, false, false, false, false, false, false] rfl rfl (one_of HT_.out (by kernel_rfl)) (by decide) (fun K hK => ?_)
                            refine goes_ Try.func22 (by kernel_rfl) rfl #[.agg #[.int .i64 a1_0, .int .i64 a1_1, .string a1_2]] (by rfl) rfl rfl (by (try simp only [List.map_toArray, List.map_cons, List.map_nil]); first | done | rfl | (simp only [List.length_drop, List.length_take]; rfl)) ?_
                            with_reducible refine (value_Right.calls a1_0 a1_1 a1_2 t337 _ A114.out).mono ?_
                            rintro e w133 ⟨rfl, hb⟩
                            refine ⟨_, rfl, ?_⟩
                            have n0_ := Aside0.mk (blk_below (g := gb300) (o := .cells #[.int .i64 a1_0, .int .i64 a1_1, .string a1_2] 23 (0, 0)) (by (with_reducible repeat (first | refine blk_drewN ?_ _ | refine blk_drew ?_ | refine blk_alloc ?_ _)); exact BK300.out) hb)
                            have n1_ := Aside0.mk (blk_below (g := gb301) (o := .cells #[.int .i64 a2_0, .int .i64 a2_1, .string a2_2] 23 (0, 0)) (by (with_reducible repeat (first | refine blk_drewN ?_ _ | refine blk_drew ?_ | refine blk_alloc ?_ _)); exact BK301.out) hb)
                            have n2_ := Aside0.mk (blk_below (g := gb307) (o := .cells #[.int .i64 t329, .int .i64 t330, .string t331] 23 (0, 0)) (by (with_reducible repeat (first | refine blk_drewN ?_ _ | refine blk_drew ?_ | refine blk_alloc ?_ _)); exact BK307.out) hb)
                            have n3_ := Aside0.mk (blk_below (g := gb312) (o := .cells #[.int .i64 t333, .int .i64 t334, .string t335] 23 (0, 0)) (by (with_reducible repeat (first | refine blk_drewN ?_ _ | refine blk_drew ?_ | refine blk_alloc ?_ _)); exact BK312.out) hb)
                            have n4_ := Aside0.mk (below_step (by repeat (first | (with_reducible first | exact HB.out | apply below_alloc | apply pw_below_drewN | apply below_drew1 | refine below_set ?_ GE300.out | refine below_set ?_ GE301.out | refine below_set ?_ GE307.out | refine below_set ?_ GE312.out) | exact HB.out)) hb)
                            clear BK300
                            clear BK301
                            clear BK307
                            clear BK312
                            clear HB
                            have BK300 := n0_
                            have BK301 := n1_
                            have BK307 := n2_
                            have BK312 := n3_
                            have HB := n4_
                            clear n0_ n1_ n2_ n3_ n4_
                            (try clear hb)
                            (try clear hb2)
                            (try clear hk)
                            (try clear hi)
                            refine hK.out _ _ ⟨(blk_cell BK307.out 0).trans rfl, (blk_cell BK307.out 1).trans rfl, (blk_cell BK307.out 2).trans rfl, (blk_cell BK312.out 0).trans rfl, (blk_cell BK312.out 1).trans rfl, (blk_cell BK312.out 2).trans rfl, (blk_cell BK300.out 0).trans rfl, (blk_cell BK300.out 1).trans rfl, (blk_cell BK300.out 2).trans rfl, (blk_cell BK301.out 0).trans rfl, (blk_cell BK301.out 1).trans rfl, (blk_cell BK301.out 2).trans rfl⟩ (fun hHeld => ?_)
                            clear hK K
                            refine norm_ (a' := ?_) ?_ ?_
                            rotate_left
                            · show Act.put _ (some 98) _ = _
                              simp only [Act.put, List.setIfInBounds_toArray, List.set_cons_zero, List.set_cons_succ, i64_w, i32_w]
                              rfl
                            refine one_ (i := 15) (N := some 100) #[true, true, true, true, true, true, true, true, true, true, true, true, true, true, true, true, false, false, false, false, false, false, false, false, false, false, false, false] rfl rfl (one_of HT_.out (by kernel_rfl)) (by decide) (fun K hK => ?_)
                            refine goes_ Try.func23 (by kernel_rfl) rfl #[.agg #[.int .i64 a1_0, .int .i64 a1_1, .string a1_2]] (by rfl) rfl rfl (by (try simp only [List.map_toArray, List.map_cons, List.map_nil]); first | done | rfl | (simp only [List.length_drop, List.length_take]; rfl)) ?_
                            with_reducible refine (weathercockref01_Right.calls a1_0 a1_1 a1_2 t338 _ A115.out).mono ?_
                            rintro e w134 ⟨rfl, hb⟩
                            refine ⟨_, rfl, ?_⟩
                            have n0_ := Aside0.mk (blk_below (g := gb300) (o := .cells #[.int .i64 a1_0, .int .i64 a1_1, .string a1_2] 23 (0, 0)) (by (with_reducible repeat (first | refine blk_drewN ?_ _ | refine blk_drew ?_ | refine blk_alloc ?_ _)); exact BK300.out) hb)
                            have n1_ := Aside0.mk (blk_below (g := gb301) (o := .cells #[.int .i64 a2_0, .int .i64 a2_1, .string a2_2] 23 (0, 0)) (by (with_reducible repeat (first | refine blk_drewN ?_ _ | refine blk_drew ?_ | refine blk_alloc ?_ _)); exact BK301.out) hb)
                            have n2_ := Aside0.mk (blk_below (g := gb307) (o := .cells #[.int .i64 t329, .int .i64 t330, .string t331] 23 (0, 0)) (by (with_reducible repeat (first | refine blk_drewN ?_ _ | refine blk_drew ?_ | refine blk_alloc ?_ _)); exact BK307.out) hb)
                            have n3_ := Aside0.mk (blk_below (g := gb312) (o := .cells #[.int .i64 t333, .int .i64 t334, .string t335] 23 (0, 0)) (by (with_reducible repeat (first | refine blk_drewN ?_ _ | refine blk_drew ?_ | refine blk_alloc ?_ _)); exact BK312.out) hb)
                            have n4_ := Aside0.mk (below_step (by repeat (first | (with_reducible first | exact HB.out | apply below_alloc | apply pw_below_drewN | apply below_drew1 | refine below_set ?_ GE300.out | refine below_set ?_ GE301.out | refine below_set ?_ GE307.out | refine below_set ?_ GE312.out) | exact HB.out)) hb)
                            clear BK300
                            clear BK301
                            clear BK307
                            clear BK312
                            clear HB
                            have BK300 := n0_
                            have BK301 := n1_
                            have BK307 := n2_
                            have BK312 := n3_
                            have HB := n4_
                            clear n0_ n1_ n2_ n3_ n4_
                            (try clear hb)
                            (try clear hb2)
                            (try clear hk)
                            (try clear hi)
                            refine hK.out _ _ ⟨(blk_cell BK307.out 0).trans rfl, (blk_cell BK307.out 1).trans rfl, (blk_cell BK307.out 2).trans rfl, (blk_cell BK312.out 0).trans rfl, (blk_cell BK312.out 1).trans rfl, (blk_cell BK312.out 2).trans rfl, (blk_cell BK300.out 0).trans rfl, (blk_cell BK300.out 1).trans rfl, (blk_cell BK300.out 2).trans rfl, (blk_cell BK301.out 0).trans rfl, (blk_cell BK301.out 1).trans rfl, (blk_cell BK301.out 2).trans rfl⟩ (fun hHeld => ?_)
                            clear hK K
                            refine norm_ (a' := ?_) ?_ ?_
                            rotate_left
                            · show Act.put _ (some 100) _ = _
                              simp only [Act.put, List.setIfInBounds_toArray, List.set_cons_zero, List.set_cons_succ, i64_w, i32_w]
                              rfl
                            refine pure_ (i := 16) (N := some 101) (v := ?_) (a' := ?_) #[true, true, true, true, true, true, true, true, true, true, true, true, true, true, true, true, true, false, false, false, false, false, false, false, false, false, false, false] rfl rfl (any_of HT_.out (by kernel_rfl)) (fun _ _ _ h => h) (Or.inl ⟨by rfl, ?_⟩) ?_ ?_
                            rotate_left
                            · intro w'
                              go_simp
                              with_reducible rfl
                            rotate_left
                            · simp only [Act.put, List.setIfInBounds_toArray, List.set_cons_zero, List.set_cons_succ, i64_w, i32_w]
                              rfl
                            refine pure_ (i := 17) (N := some 102) (v := ?_) (a' := ?_) #[true, true, true, true, true, true, true, true, true, true, true, true, true, true, true, true, true, true, false, false, false, false, false, false, false, false, false, false] rfl rfl (any_of HT_.out (by kernel_rfl)) (fun _ _ _ h => h) (Or.inl ⟨by rfl, ?_⟩) ?_ ?_
                            rotate_left
                            · intro w'
                              go_simp
                              with_reducible rfl
                            rotate_left
                            · simp only [Act.put, List.setIfInBounds_toArray, List.set_cons_zero, List.set_cons_succ, i64_w, i32_w]
                              rfl
                            refine pure_ (i := 18) (N := some 103) (v := ?_) (a' := ?_) #[true, true, true, true, true, true, true, true, true, true, true, true, true, true, true, true, true, true, true, false, false, false, false, false, false, false, false, false] rfl rfl (any_of HT_.out (by kernel_rfl)) (fun _ _ _ h => h) (Or.inl ⟨by rfl, ?_⟩) ?_ ?_
                            rotate_left
                            · intro w'
                              go_simp
                              with_reducible rfl
                            rotate_left
                            · simp only [Act.put, List.setIfInBounds_toArray, List.set_cons_zero, List.set_cons_succ, i64_w, i32_w]
                              rfl
                            refine take_ (i := 19) (N := some 104) (v := ?_) (a' := ?_) #[true, true, true, true, true, true, true, true, true, true, true, true, true, true, true, true, true, true, true, true, false, false, false, false, false, false, false, false] rfl rfl (take_ofW HT_.out HW_.out (by kernel_rfl)) (fun _ _ _ h => h) (Or.inl ⟨by rfl, ?_⟩) hHeld ?_ ?_
                            rotate_left
                            · rintro w' ⟨s0, s1, s2, s3, s4, s5, s6, s7, s8, s9, s10, s11⟩
                              go_simp
                              with_reducible rfl
                            rotate_left
                            · simp only [Act.put, List.setIfInBounds_toArray, List.set_cons_zero, List.set_cons_succ, i64_w, i32_w]
                              rfl
                            refine take_ (i := 20) (N := some 105) (v := ?_) (a' := ?_) #[true, true, true, true, true, true, true, true, true, true, true, true, true, true, true, true, true, true, true, true, true, false, false, false, false, false, false, false] rfl rfl (take_ofW HT_.out HW_.out (by kernel_rfl)) (fun _ _ _ h => h) (Or.inl ⟨by rfl, ?_⟩) hHeld ?_ ?_
                            rotate_left
                            · rintro w' ⟨s0, s1, s2, s3, s4, s5, s6, s7, s8, s9, s10, s11⟩
                              go_simp
                              with_reducible rfl
                            rotate_left
                            · simp only [Act.put, List.setIfInBounds_toArray, List.set_cons_zero, List.set_cons_succ, i64_w, i32_w]
                              rfl
                            refine take_ (i := 22) (N := some 107) (v := ?_) (a' := ?_) #[true, true, true, true, true, true, true, true, true, true, true, true, true, true, true, true, true, true, true, true, true, false, true, false, false, false, false, false] rfl rfl (take_ofW HT_.out HW_.out (by kernel_rfl)) (fun _ _ _ h => h) (Or.inl ⟨by rfl, ?_⟩) hHeld ?_ ?_
                            rotate_left
                            · rintro w' ⟨s0, s1, s2, s3, s4, s5, s6, s7, s8, s9, s10, s11⟩
                              go_simp
                              with_reducible rfl
                            rotate_left
                            · simp only [Act.put, List.setIfInBounds_toArray, List.set_cons_zero, List.set_cons_succ, i64_w, i32_w]
                              rfl
                            refine take_ (i := 23) (N := some 108) (v := ?_) (a' := ?_) #[true, true, true, true, true, true, true, true, true, true, true, true, true, true, true, true, true, true, true, true, true, false, true, true, false, false, false, false] rfl rfl (take_ofW HT_.out HW_.out (by kernel_rfl)) (fun _ _ _ h => h) (Or.inl ⟨by rfl, ?_⟩) hHeld ?_ ?_
                            rotate_left
                            · rintro w' ⟨s0, s1, s2, s3, s4, s5, s6, s7, s8, s9, s10, s11⟩
                              go_simp
                              with_reducible rfl
                            rotate_left
                            · simp only [Act.put, List.setIfInBounds_toArray, List.set_cons_zero, List.set_cons_succ, i64_w, i32_w]
                              rfl
                            refine one_ (i := 21) (N := some 106) #[true, true, true, true, true, true, true, true, true, true, true, true, true, true, true, true, true, true, true, true, true, true, true, true, false, false, false, false] rfl rfl (one_of HT_.out (by kernel_rfl)) (by decide) (fun K hK => ?_)
                            refine goes_ Try.func11 (by kernel_rfl) rfl #[.agg #[.int .i64 a1_0, .int .i64 a1_1, .string a1_2], .agg #[.int .i64 a2_0, .int .i64 a2_1, .string a2_2]] (by rfl) rfl rfl (by (try simp only [List.map_toArray, List.map_cons, List.map_nil]); first | done | rfl | (simp only [List.length_drop, List.length_take]; rfl)) ?_
                            with_reducible refine (value_Compare.calls kj77 a1_0 a1_1 a1_2 a2_0 a2_1 a2_2 t339 _ A117.out).mono ?_
                            rintro e w135 ⟨rfl, hb⟩
                            refine ⟨_, rfl, ?_⟩
                            have n0_ := Aside0.mk (blk_below (g := gb300) (o := .cells #[.int .i64 a1_0, .int .i64 a1_1, .string a1_2] 23 (0, 0)) (by (with_reducible repeat (first | refine blk_drewN ?_ _ | refine blk_drew ?_ | refine blk_alloc ?_ _)); exact BK300.out) hb)
                            have n1_ := Aside0.mk (blk_below (g := gb301) (o := .cells #[.int .i64 a2_0, .int .i64 a2_1, .string a2_2] 23 (0, 0)) (by (with_reducible repeat (first | refine blk_drewN ?_ _ | refine blk_drew ?_ | refine blk_alloc ?_ _)); exact BK301.out) hb)
                            have n2_ := Aside0.mk (blk_below (g := gb307) (o := .cells #[.int .i64 t329, .int .i64 t330, .string t331] 23 (0, 0)) (by (with_reducible repeat (first | refine blk_drewN ?_ _ | refine blk_drew ?_ | refine blk_alloc ?_ _)); exact BK307.out) hb)
                            have n3_ := Aside0.mk (blk_below (g := gb312) (o := .cells #[.int .i64 t333, .int .i64 t334, .string t335] 23 (0, 0)) (by (with_reducible repeat (first | refine blk_drewN ?_ _ | refine blk_drew ?_ | refine blk_alloc ?_ _)); exact BK312.out) hb)
                            have n4_ := Aside0.mk (below_step (by repeat (first | (with_reducible first | exact HB.out | apply below_alloc | apply pw_below_drewN | apply below_drew1 | refine below_set ?_ GE300.out | refine below_set ?_ GE301.out | refine below_set ?_ GE307.out | refine below_set ?_ GE312.out) | exact HB.out)) hb)
                            clear BK300
                            clear BK301
                            clear BK307
                            clear BK312
                            clear HB
                            have BK300 := n0_
                            have BK301 := n1_
                            have BK307 := n2_
                            have BK312 := n3_
                            have HB := n4_
                            clear n0_ n1_ n2_ n3_ n4_
                            (try clear hb)
                            (try clear hb2)
                            (try clear hk)
                            (try clear hi)
                            refine hK.out _ _ ⟨(blk_cell BK307.out 0).trans rfl, (blk_cell BK307.out 1).trans rfl, (blk_cell BK307.out 2).trans rfl, (blk_cell BK312.out 0).trans rfl, (blk_cell BK312.out 1).trans rfl, (blk_cell BK312.out 2).trans rfl, (blk_cell BK300.out 0).trans rfl, (blk_cell BK300.out 1).trans rfl, (blk_cell BK300.out 2).trans rfl, (blk_cell BK301.out 0).trans rfl, (blk_cell BK301.out 1).trans rfl, (blk_cell BK301.out 2).trans rfl⟩ (fun hHeld => ?_)
                            clear hK K
                            refine norm_ (a' := ?_) ?_ ?_
                            rotate_left
                            · show Act.put _ (some 106) _ = _
                              simp only [Act.put, List.setIfInBounds_toArray, List.set_cons_zero, List.set_cons_succ, i64_w, i32_w]
                              rfl
                            refine one_ (i := 24) (N := some 109) #[true, true, true, true, true, true, true, true, true, true, true, true, true, true, true, true, true, true, true, true, true, true, true, true, true, false, false, false] rfl rfl (one_of HT_.out (by kernel_rfl)) (by decide) (fun K hK => ?_)
                            refine goes_ Try.func24 (by kernel_rfl) rfl #[.agg #[.int .i64 a1_0, .int .i64 a1_1, .string a1_2], .agg #[.int .i64 a2_0, .int .i64 a2_1, .string a2_2]] (by rfl) rfl rfl (by (try simp only [List.map_toArray, List.map_cons, List.map_nil]); first | done | rfl | (simp only [List.length_drop, List.length_take]; rfl)) ?_
                            with_reducible refine (weathercockref01_Compare.calls a1_0 a1_1 a1_2 a2_0 a2_1 a2_2 t340 _ A118.out).mono ?_
                            rintro e w136 ⟨rfl, hb⟩
                            refine ⟨_, rfl, ?_⟩
                            have n0_ := Aside0.mk (blk_below (g := gb300) (o := .cells #[.int .i64 a1_0, .int .i64 a1_1, .string a1_2] 23 (0, 0)) (by (with_reducible repeat (first | refine blk_drewN ?_ _ | refine blk_drew ?_ | refine blk_alloc ?_ _)); exact BK300.out) hb)
                            have n1_ := Aside0.mk (blk_below (g := gb301) (o := .cells #[.int .i64 a2_0, .int .i64 a2_1, .string a2_2] 23 (0, 0)) (by (with_reducible repeat (first | refine blk_drewN ?_ _ | refine blk_drew ?_ | refine blk_alloc ?_ _)); exact BK301.out) hb)
                            have n2_ := Aside0.mk (blk_below (g := gb307) (o := .cells #[.int .i64 t329, .int .i64 t330, .string t331] 23 (0, 0)) (by (with_reducible repeat (first | refine blk_drewN ?_ _ | refine blk_drew ?_ | refine blk_alloc ?_ _)); exact BK307.out) hb)
                            have n3_ := Aside0.mk (blk_below (g := gb312) (o := .cells #[.int .i64 t333, .int .i64 t334, .string t335] 23 (0, 0)) (by (with_reducible repeat (first | refine blk_drewN ?_ _ | refine blk_drew ?_ | refine blk_alloc ?_ _)); exact BK312.out) hb)
                            have n4_ := Aside0.mk (below_step (by repeat (first | (with_reducible first | exact HB.out | apply below_alloc | apply pw_below_drewN | apply below_drew1 | refine below_set ?_ GE300.out | refine below_set ?_ GE301.out | refine below_set ?_ GE307.out | refine below_set ?_ GE312.out) | exact HB.out)) hb)
                            clear BK300
                            clear BK301
                            clear BK307
                            clear BK312
                            clear HB
                            have BK300 := n0_
                            have BK301 := n1_
                            have BK307 := n2_
                            have BK312 := n3_
                            have HB := n4_
                            clear n0_ n1_ n2_ n3_ n4_
                            (try clear hb)
                            (try clear hb2)
                            (try clear hk)
                            (try clear hi)
                            refine hK.out _ _ ⟨(blk_cell BK307.out 0).trans rfl, (blk_cell BK307.out 1).trans rfl, (blk_cell BK307.out 2).trans rfl, (blk_cell BK312.out 0).trans rfl, (blk_cell BK312.out 1).trans rfl, (blk_cell BK312.out 2).trans rfl, (blk_cell BK300.out 0).trans rfl, (blk_cell BK300.out 1).trans rfl, (blk_cell BK300.out 2).trans rfl, (blk_cell BK301.out 0).trans rfl, (blk_cell BK301.out 1).trans rfl, (blk_cell BK301.out 2).trans rfl⟩ (fun hHeld => ?_)
                            clear hK K
                            refine norm_ (a' := ?_) ?_ ?_
                            rotate_left
                            · show Act.put _ (some 109) _ = _
                              simp only [Act.put, List.setIfInBounds_toArray, List.set_cons_zero, List.set_cons_succ, i64_w, i32_w]
                              rfl
                            refine pure_ (i := 25) (N := some 110) (v := ?_) (a' := ?_) #[true, true, true, true, true, true, true, true, true, true, true, true, true, true, true, true, true, true, true, true, true, true, true, true, true, true, false, false] rfl rfl (any_of HT_.out (by kernel_rfl)) (fun _ _ _ h => h) (Or.inl ⟨by rfl, ?_⟩) ?_ ?_
                            rotate_left
                            · intro w'
                              go_simp
                              with_reducible rfl
                            rotate_left
                            · simp only [Act.put, List.setIfInBounds_toArray, List.set_cons_zero, List.set_cons_succ, i64_w, i32_w]
                              rfl
                            refine pure_ (i := 26) (N := some 111) (v := ?_) (a' := ?_) #[true, true, true, true, true, true, true, true, true, true, true, true, true, true, true, true, true, true, true, true, true, true, true, true, true, true, true, false] rfl rfl (any_of HT_.out (by kernel_rfl)) (fun _ _ _ h => h) (Or.inl ⟨by rfl, ?_⟩) ?_ ?_
                            rotate_left
                            · intro w'
                              go_simp
                              with_reducible rfl
                            rotate_left
                            · simp only [Act.put, List.setIfInBounds_toArray, List.set_cons_zero, List.set_cons_succ, i64_w, i32_w]
                              rfl
                            refine pure_ (i := 27) (N := some 6) (v := ?_) (a' := ?_) #[true, true, true, true, true, true, true, true, true, true, true, true, true, true, true, true, true, true, true, true, true, true, true, true, true, true, true, true] rfl rfl (any_of HT_.out (by kernel_rfl)) (fun _ _ _ h => h) (Or.inl ⟨by rfl, ?_⟩) ?_ ?_
                            rotate_left
                            · intro w'
                              go_simp
                              with_reducible rfl
                            rotate_left
                            · simp only [Act.put, List.setIfInBounds_toArray, List.set_cons_zero, List.set_cons_succ, i64_w, i32_w]
                              rfl
                            refine done_ (done_of HT_.out (by kernel_rfl)) ?_
                            try go_wp2
                            go_ret
                            exact ⟨by first | rfl | (simp [errW_none, errW_some] <;> rfl) | (simp [*, errW_none, errW_some] <;> rfl), by repeat (first | (with_reducible first | exact HB.out | apply below_alloc | apply pw_below_drewN | apply below_drew1 | refine below_set ?_ GE300.out | refine below_set ?_ GE301.out | refine below_set ?_ GE307.out | refine below_set ?_ GE312.out) | exact HB.out)⟩
                          · rw [if_neg c116] at H
                            have c116b0 : (t337 == t338) = false := by simpa using c116
                            (try (have c116b1 : decide (t337 = t338) = false := by simpa using c116))
                            (try (have c116b2 : (t337 == t338) = false := by simpa using c116))
                            (try (have c116b3 : ¬ (t337 = t338) := by simpa using c116))
                            clear c116
                            exact absurd (Option.some.inj H) (fun h_ => absurd (h_.trans HRT.out) (by decide))
                        · rw [if_neg c113] at H
                          have c113b0 : (t332 == t336) = false := beq_eq_false_iff_ne.mpr c113
                          have c113b1 : (t332 != t336) = true := bne_iff_ne.mpr c113
                          exact absurd (Option.some.inj H) (fun h_ => absurd (h_.trans HRT.out) (by decide))
                      · rw [if_neg c112] at H
                        have c112b0 : (t329 == t333 && (t330 == t334 && (t331.toList == t335.toList))) = false := by simpa using c112
                        (try (have c112b1 : decide (t329 = t333 && (t330 == t334 && (t331.toList == t335.toList))) = false := by simpa using c112))
                        (try (have c112b2 : (t329 == t333 && (t330 == t334 && (t331.toList == t335.toList))) = false := by simpa using c112))
                        (try (have c112b3 : ¬ (t329 = t333 && (t330 == t334 && (t331.toList == t335.toList))) := by simpa using c112))
                        clear c112
                        exact absurd (Option.some.inj H) (fun h_ => absurd (h_.trans HRT.out) (by decide))
                    · replace c111 := Bool.eq_false_iff.mpr c111
                      subst c111
                      have H1 : (some false) = some r := by rw [if_neg (show ¬ (false = true) by decide)] at H; exact H
                      clear H
                      have H := H1
                      clear H1
                      exact absurd (Option.some.inj H) (fun h_ => absurd (h_.trans HRT.out) (by decide))

/-- THE ONE PURE STATEMENT of weathercocklaw01_ValueTells: ours. -/
def weathercocklaw01_ValueTells.Pure : Prop := ∀ (a0 : Int) (a1_0 : Int) (a1_1 : Int) (a1_2 : ByteArray) (a2_0 : Int) (a2_1 : Int) (a2_2 : ByteArray), ((Lit.int .i64 a0).wf = true) → ((Lit.int .i64 a1_0).wf = true) → ((Lit.int .i64 a1_1).wf = true) → (a1_2.size ≤ 140737488351232) → ((Lit.int .i64 a2_0).wf = true) → ((Lit.int .i64 a2_1).wf = true) → (a2_2.size ≤ 140737488351232) → ∃ k, weathercocklaw01_ValueTells.f k a0 a1_0 a1_1 a1_2 a2_0 a2_1 a2_2 = some true

end Go.Proofs.Ytihfljdcmncicaa.QValueTells
