-- Written by wip/tools/myprint.py of this project (the kit's printer with lines replaced in memory, and texts of ours)
import Derived.Test.YtihfljdcmncicaaQValueRestx0
import Derived.Test.YtihfljdcmncicaaQValueRestx3
import Derived.Test.YtihfljdcmncicaaQValueRestx4
import Derived.Test.YtihfljdcmncicaaQValueRestx5
namespace Go.Proofs.Ytihfljdcmncicaa.QValueRest
open Go.RowKit Go.Proofs.YtihfljdcmncicaaW.PrintWords Go.Proofs.YtihfljdcmncicaaW.PrintLast Go.Proofs.YtihfljdcmncicaaW.PrintMore
attribute [local go_sem] max2_int min2_int max_two min_two max_three min_three max_four min_four   -- for this text's walks alone
set_option linter.unusedVariables false
set_option linter.unusedSimpArgs false

/-! ### weathercocklaw01_ValueRest: function 7 -/
def weathercocklaw01_ValueRest.f (k : Nat) (a0 : Int) (a1 : Int) : Option (Bool) := (weathercocklaw01_examples.f k).bind fun t231 => ((weathercocklaw01_n.f a0).bind fun bt232 => ((weathercocklaw01_n.f a1).bind fun bt235 => ((value_Div.f k bt232.1 bt232.2.1 bt232.2.2 bt235.1 bt235.2.1 bt235.2.2).bind fun bt238 => (if bt238.2.2.2 = 0 then ((weathercocklaw01_n.f a1).bind fun bt243 => ((value_Mul.f k bt238.1 bt238.2.1 bt238.2.2.1 bt243.1 bt243.2.1 bt243.2.2).bind fun bt246 => ((weathercocklaw01_n.f a0).bind fun bt251 => ((value_Sub.f k bt251.1 bt251.2.1 bt251.2.2 bt246.1 bt246.2.1 bt246.2.2.1).bind fun bt254 => (if bt246.2.2.2 = 0 then (if bt254.2.2.2 = 0 then (if t231 = true then (if a0 ≥ 0 then (if bt254.2.1 ≥ 0 then (if a1 > 0 then (if bt254.2.1 < a1 then (if bt254.2.1 > (wrap64 (-a1)) then (some true) else (if a1 < 0 then (if bt254.2.1 > a1 then (if a1 = (-9223372036854775808) then (some true) else (some (decide (bt254.2.1 < (wrap64 (-a1)))))) else (some false)) else (some false))) else (if a1 < 0 then (if bt254.2.1 > a1 then (if a1 = (-9223372036854775808) then (some true) else (some (decide (bt254.2.1 < (wrap64 (-a1)))))) else (some false)) else (some false))) else (if a1 < 0 then (if bt254.2.1 > a1 then (if a1 = (-9223372036854775808) then (some true) else (some (decide (bt254.2.1 < (wrap64 (-a1)))))) else (some false)) else (some false))) else (if a0 < 0 then (if bt254.2.1 ≤ 0 then (if a1 > 0 then (if bt254.2.1 < a1 then (if bt254.2.1 > (wrap64 (-a1)) then (some true) else (if a1 < 0 then (if bt254.2.1 > a1 then (if a1 = (-9223372036854775808) then (some true) else (some (decide (bt254.2.1 < (wrap64 (-a1)))))) else (some false)) else (some false))) else (if a1 < 0 then (if bt254.2.1 > a1 then (if a1 = (-9223372036854775808) then (some true) else (some (decide (bt254.2.1 < (wrap64 (-a1)))))) else (some false)) else (some false))) else (if a1 < 0 then (if bt254.2.1 > a1 then (if a1 = (-9223372036854775808) then (some true) else (some (decide (bt254.2.1 < (wrap64 (-a1)))))) else (some false)) else (some false))) else (some false)) else (some false))) else (if a0 < 0 then (if bt254.2.1 ≤ 0 then (if a1 > 0 then (if bt254.2.1 < a1 then (if bt254.2.1 > (wrap64 (-a1)) then (some true) else (if a1 < 0 then (if bt254.2.1 > a1 then (if a1 = (-9223372036854775808) then (some true) else (some (decide (bt254.2.1 < (wrap64 (-a1)))))) else (some false)) else (some false))) else (if a1 < 0 then (if bt254.2.1 > a1 then (if a1 = (-9223372036854775808) then (some true) else (some (decide (bt254.2.1 < (wrap64 (-a1)))))) else (some false)) else (some false))) else (if a1 < 0 then (if bt254.2.1 > a1 then (if a1 = (-9223372036854775808) then (some true) else (some (decide (bt254.2.1 < (wrap64 (-a1)))))) else (some false)) else (some false))) else (some false)) else (some false))) else (some false)) else (some false)) else (some false)))))) else (if t231 = true then (if a1 = 0 then (if bt238.2.2.2 = 4 then (some true) else (if a0 = (-9223372036854775808) then (if a1 = (-1) then (some (bt238.2.2.2 == 3)) else (some false)) else (some false))) else (if a0 = (-9223372036854775808) then (if a1 = (-1) then (some (bt238.2.2.2 == 3)) else (some false)) else (some false))) else (some false))))))
theorem weathercocklaw01_ValueRest.mono : ∀ a0 a1 k, LeO (weathercocklaw01_ValueRest.f k a0 a1) (weathercocklaw01_ValueRest.f (k + 1) a0 a1) := by
  intro a0 a1 k
  unfold weathercocklaw01_ValueRest.f
  repeat' first
      | (with_reducible exact value_Div.mono _ _ _ _ _ _ _)
      | (with_reducible exact value_Mul.mono _ _ _ _ _ _ _)
      | (with_reducible exact value_Sub.mono _ _ _ _ _ _ _)
      | (with_reducible exact weathercocklaw01_examples.mono _)
      | (with_reducible exact LeO.refl _)
      | (with_reducible exact LeO.none _)
      | (with_reducible refine LeO.ite ?_ ?_)
      | (with_reducible refine LeO.bind ?_ (fun _ => ?_))
      | exact value_Div.mono _ _ _ _ _ _ _
      | exact value_Mul.mono _ _ _ _ _ _ _
      | exact value_Sub.mono _ _ _ _ _ _ _
      | exact weathercocklaw01_examples.mono _
      | exact LeO.none _
      | refine LeO.ite ?_ ?_
      | refine LeO.bind ?_ (fun _ => ?_)
def weathercocklaw01_ValueRest.T5 : Bool × List (List Nat × List Nat) := (true, [([], []), ([], []), ([1], [1]), ([0, 2, 2], [0, 2]), ([3], [3]), ([4], [4]), ([4], [4]), ([], []), ([7, 5, 3, 0, 1, 2, 3, 4, 5, 7], [5, 7]), ([6, 8, 0, 1, 2, 3, 4, 5, 6, 7, 8], [6])])
def weathercocklaw01_ValueRest.B5 : List Nat := [0, 0, 2, 7, 15, 31, 31, 0, 191, 511]
theorem weathercocklaw01_ValueRest.tab5 : rtab .any (opsOf Try.f7 5) = weathercocklaw01_ValueRest.T5 := by kernel_rfl
theorem weathercocklaw01_ValueRest.bits5 : waitsOk weathercocklaw01_ValueRest.T5.2 weathercocklaw01_ValueRest.B5 = true := by kernel_rfl
def weathercocklaw01_ValueRest.T6 : Bool × List (List Nat × List Nat) := (true, [([], []), ([0], [0]), ([], []), ([1, 2, 1], [1, 2]), ([3], [3]), ([4], [4]), ([4], [4]), ([], []), ([7, 5, 3, 0, 1, 2, 3, 4, 5, 7], [5, 7]), ([6, 8, 0, 1, 2, 3, 4, 5, 6, 7, 8], [6])])
def weathercocklaw01_ValueRest.B6 : List Nat := [0, 1, 0, 7, 15, 31, 31, 0, 191, 511]
theorem weathercocklaw01_ValueRest.tab6 : rtab .any (opsOf Try.f7 6) = weathercocklaw01_ValueRest.T6 := by kernel_rfl
theorem weathercocklaw01_ValueRest.bits6 : waitsOk weathercocklaw01_ValueRest.T6.2 weathercocklaw01_ValueRest.B6 = true := by kernel_rfl
set_option maxHeartbeats 8000000 in
set_option maxRecDepth 100000 in
theorem weathercocklaw01_ValueRest.calls (k : Nat) (a0 : Int) (a1 : Int) (r : Bool) (w : World) (h : weathercocklaw01_ValueRest.f k a0 a1 = some r) (hrt : r = true) :
    Calls Try.prog 7 #[.int .i64 a0, .int .i64 a1] w fun e w' => e = .returned (.bool r) ∧ Below w.heap.size w w' := by
  have HRT := Aside0.mk hrt
  clear hrt
  have hu23 := Try.underlying23
  have HB := Aside0.mk (Below.refl w.heap.size w)
  have H : ((weathercocklaw01_examples.f k).bind fun t231 => ((weathercocklaw01_n.f a0).bind fun bt232 => ((weathercocklaw01_n.f a1).bind fun bt235 => ((value_Div.f k bt232.1 bt232.2.1 bt232.2.2 bt235.1 bt235.2.1 bt235.2.2).bind fun bt238 => (if bt238.2.2.2 = 0 then ((weathercocklaw01_n.f a1).bind fun bt243 => ((value_Mul.f k bt238.1 bt238.2.1 bt238.2.2.1 bt243.1 bt243.2.1 bt243.2.2).bind fun bt246 => ((weathercocklaw01_n.f a0).bind fun bt251 => ((value_Sub.f k bt251.1 bt251.2.1 bt251.2.2 bt246.1 bt246.2.1 bt246.2.2.1).bind fun bt254 => (if bt246.2.2.2 = 0 then (if bt254.2.2.2 = 0 then (if t231 = true then (if a0 ≥ 0 then (if bt254.2.1 ≥ 0 then (if a1 > 0 then (if bt254.2.1 < a1 then (if bt254.2.1 > (wrap64 (-a1)) then (some true) else (if a1 < 0 then (if bt254.2.1 > a1 then (if a1 = (-9223372036854775808) then (some true) else (some (decide (bt254.2.1 < (wrap64 (-a1)))))) else (some false)) else (some false))) else (if a1 < 0 then (if bt254.2.1 > a1 then (if a1 = (-9223372036854775808) then (some true) else (some (decide (bt254.2.1 < (wrap64 (-a1)))))) else (some false)) else (some false))) else (if a1 < 0 then (if bt254.2.1 > a1 then (if a1 = (-9223372036854775808) then (some true) else (some (decide (bt254.2.1 < (wrap64 (-a1)))))) else (some false)) else (some false))) else (if a0 < 0 then (if bt254.2.1 ≤ 0 then (if a1 > 0 then (if bt254.2.1 < a1 then (if bt254.2.1 > (wrap64 (-a1)) then (some true) else (if a1 < 0 then (if bt254.2.1 > a1 then (if a1 = (-9223372036854775808) then (some true) else (some (decide (bt254.2.1 < (wrap64 (-a1)))))) else (some false)) else (some false))) else (if a1 < 0 then (if bt254.2.1 > a1 then (if a1 = (-9223372036854775808) then (some true) else (some (decide (bt254.2.1 < (wrap64 (-a1)))))) else (some false)) else (some false))) else (if a1 < 0 then (if bt254.2.1 > a1 then (if a1 = (-9223372036854775808) then (some true) else (some (decide (bt254.2.1 < (wrap64 (-a1)))))) else (some false)) else (some false))) else (some false)) else (some false))) else (if a0 < 0 then (if bt254.2.1 ≤ 0 then (if a1 > 0 then (if bt254.2.1 < a1 then (if bt254.2.1 > (wrap64 (-a1)) then (some true) else (if a1 < 0 then (if bt254.2.1 > a1 then (if a1 = (-9223372036854775808) then (some true) else (some (decide (bt254.2.1 < (wrap64 (-a1)))))) else (some false)) else (some false))) else (if a1 < 0 then (if bt254.2.1 > a1 then (if a1 = (-9223372036854775808) then (some true) else (some (decide (bt254.2.1 < (wrap64 (-a1)))))) else (some false)) else (some false))) else (if a1 < 0 then (if bt254.2.1 > a1 then (if a1 = (-9223372036854775808) then (some true) else (some (decide (bt254.2.1 < (wrap64 (-a1)))))) else (some false)) else (some false))) else (some false)) else (some false))) else (some false)) else (some false)) else (some false)))))) else (if t231 = true then (if a1 = 0 then (if bt238.2.2.2 = 4 then (some true) else (if a0 = (-9223372036854775808) then (if a1 = (-1) then (some (bt238.2.2.2 == 3)) else (some false)) else (some false))) else (if a0 = (-9223372036854775808) then (if a1 = (-1) then (some (bt238.2.2.2 == 3)) else (some false)) else (some false))) else (some false))))))) = some r := h
  clear h
  replace H := Option.bind_eq_some_iff.mp H
  obtain ⟨t231, A30, H⟩ := H
  replace H : ((weathercocklaw01_n.f a0).bind fun bt232 => ((weathercocklaw01_n.f a1).bind fun bt235 => ((value_Div.f k bt232.1 bt232.2.1 bt232.2.2 bt235.1 bt235.2.1 bt235.2.2).bind fun bt238 => (if bt238.2.2.2 = 0 then ((weathercocklaw01_n.f a1).bind fun bt243 => ((value_Mul.f k bt238.1 bt238.2.1 bt238.2.2.1 bt243.1 bt243.2.1 bt243.2.2).bind fun bt246 => ((weathercocklaw01_n.f a0).bind fun bt251 => ((value_Sub.f k bt251.1 bt251.2.1 bt251.2.2 bt246.1 bt246.2.1 bt246.2.2.1).bind fun bt254 => (if bt246.2.2.2 = 0 then (if bt254.2.2.2 = 0 then (if t231 = true then (if a0 ≥ 0 then (if bt254.2.1 ≥ 0 then (if a1 > 0 then (if bt254.2.1 < a1 then (if bt254.2.1 > (wrap64 (-a1)) then (some true) else (if a1 < 0 then (if bt254.2.1 > a1 then (if a1 = (-9223372036854775808) then (some true) else (some (decide (bt254.2.1 < (wrap64 (-a1)))))) else (some false)) else (some false))) else (if a1 < 0 then (if bt254.2.1 > a1 then (if a1 = (-9223372036854775808) then (some true) else (some (decide (bt254.2.1 < (wrap64 (-a1)))))) else (some false)) else (some false))) else (if a1 < 0 then (if bt254.2.1 > a1 then (if a1 = (-9223372036854775808) then (some true) else (some (decide (bt254.2.1 < (wrap64 (-a1)))))) else (some false)) else (some false))) else (if a0 < 0 then (if bt254.2.1 ≤ 0 then (if a1 > 0 then (if bt254.2.1 < a1 then (if bt254.2.1 > (wrap64 (-a1)) then (some true) else (if a1 < 0 then (if bt254.2.1 > a1 then (if a1 = (-9223372036854775808) then (some true) else (some (decide (bt254.2.1 < (wrap64 (-a1)))))) else (some false)) else (some false))) else (if a1 < 0 then (if bt254.2.1 > a1 then (if a1 = (-9223372036854775808) then (some true) else (some (decide (bt254.2.1 < (wrap64 (-a1)))))) else (some false)) else (some false))) else (if a1 < 0 then (if bt254.2.1 > a1 then (if a1 = (-9223372036854775808) then (some true) else (some (decide (bt254.2.1 < (wrap64 (-a1)))))) else (some false)) else (some false))) else (some false)) else (some false))) else (if a0 < 0 then (if bt254.2.1 ≤ 0 then (if a1 > 0 then (if bt254.2.1 < a1 then (if bt254.2.1 > (wrap64 (-a1)) then (some true) else (if a1 < 0 then (if bt254.2.1 > a1 then (if a1 = (-9223372036854775808) then (some true) else (some (decide (bt254.2.1 < (wrap64 (-a1)))))) else (some false)) else (some false))) else (if a1 < 0 then (if bt254.2.1 > a1 then (if a1 = (-9223372036854775808) then (some true) else (some (decide (bt254.2.1 < (wrap64 (-a1)))))) else (some false)) else (some false))) else (if a1 < 0 then (if bt254.2.1 > a1 then (if a1 = (-9223372036854775808) then (some true) else (some (decide (bt254.2.1 < (wrap64 (-a1)))))) else (some false)) else (some false))) else (some false)) else (some false))) else (some false)) else (some false)) else (some false)))))) else (if t231 = true then (if a1 = 0 then (if bt238.2.2.2 = 4 then (some true) else (if a0 = (-9223372036854775808) then (if a1 = (-1) then (some (bt238.2.2.2 == 3)) else (some false)) else (some false))) else (if a0 = (-9223372036854775808) then (if a1 = (-1) then (some (bt238.2.2.2 == 3)) else (some false)) else (some false))) else (some false)))))) = some r := H
  have A3 := Aside0.mk A30
  clear A30
  replace H := Option.bind_eq_some_iff.mp H
  obtain ⟨⟨t232, t233, t234⟩, A40, H⟩ := H
  replace H : ((weathercocklaw01_n.f a1).bind fun bt235 => ((value_Div.f k t232 t233 t234 bt235.1 bt235.2.1 bt235.2.2).bind fun bt238 => (if bt238.2.2.2 = 0 then ((weathercocklaw01_n.f a1).bind fun bt243 => ((value_Mul.f k bt238.1 bt238.2.1 bt238.2.2.1 bt243.1 bt243.2.1 bt243.2.2).bind fun bt246 => ((weathercocklaw01_n.f a0).bind fun bt251 => ((value_Sub.f k bt251.1 bt251.2.1 bt251.2.2 bt246.1 bt246.2.1 bt246.2.2.1).bind fun bt254 => (if bt246.2.2.2 = 0 then (if bt254.2.2.2 = 0 then (if t231 = true then (if a0 ≥ 0 then (if bt254.2.1 ≥ 0 then (if a1 > 0 then (if bt254.2.1 < a1 then (if bt254.2.1 > (wrap64 (-a1)) then (some true) else (if a1 < 0 then (if bt254.2.1 > a1 then (if a1 = (-9223372036854775808) then (some true) else (some (decide (bt254.2.1 < (wrap64 (-a1)))))) else (some false)) else (some false))) else (if a1 < 0 then (if bt254.2.1 > a1 then (if a1 = (-9223372036854775808) then (some true) else (some (decide (bt254.2.1 < (wrap64 (-a1)))))) else (some false)) else (some false))) else (if a1 < 0 then (if bt254.2.1 > a1 then (if a1 = (-9223372036854775808) then (some true) else (some (decide (bt254.2.1 < (wrap64 (-a1)))))) else (some false)) else (some false))) else (if a0 < 0 then (if bt254.2.1 ≤ 0 then (if a1 > 0 then (if bt254.2.1 < a1 then (if bt254.2.1 > (wrap64 (-a1)) then (some true) else (if a1 < 0 then (if bt254.2.1 > a1 then (if a1 = (-9223372036854775808) then (some true) else (some (decide (bt254.2.1 < (wrap64 (-a1)))))) else (some false)) else (some false))) else (if a1 < 0 then (if bt254.2.1 > a1 then (if a1 = (-9223372036854775808) then (some true) else (some (decide (bt254.2.1 < (wrap64 (-a1)))))) else (some false)) else (some false))) else (if a1 < 0 then (if bt254.2.1 > a1 then (if a1 = (-9223372036854775808) then (some true) else (some (decide (bt254.2.1 < (wrap64 (-a1)))))) else (some false)) else (some false))) else (some false)) else (some false))) else (if a0 < 0 then (if bt254.2.1 ≤ 0 then (if a1 > 0 then (if bt254.2.1 < a1 then (if bt254.2.1 > (wrap64 (-a1)) then (some true) else (if a1 < 0 then (if bt254.2.1 > a1 then (if a1 = (-9223372036854775808) then (some true) else (some (decide (bt254.2.1 < (wrap64 (-a1)))))) else (some false)) else (some false))) else (if a1 < 0 then (if bt254.2.1 > a1 then (if a1 = (-9223372036854775808) then (some true) else (some (decide (bt254.2.1 < (wrap64 (-a1)))))) else (some false)) else (some false))) else (if a1 < 0 then (if bt254.2.1 > a1 then (if a1 = (-9223372036854775808) then (some true) else (some (decide (bt254.2.1 < (wrap64 (-a1)))))) else (some false)) else (some false))) else (some false)) else (some false))) else (some false)) else (some false)) else (some false)))))) else (if t231 = true then (if a1 = 0 then (if bt238.2.2.2 = 4 then (some true) else (if a0 = (-9223372036854775808) then (if a1 = (-1) then (some (bt238.2.2.2 == 3)) else (some false)) else (some false))) else (if a0 = (-9223372036854775808) then (if a1 = (-1) then (some (bt238.2.2.2 == 3)) else (some false)) else (some false))) else (some false))))) = some r := H
  have A4 := Aside0.mk A40
  clear A40
  replace H := Option.bind_eq_some_iff.mp H
  obtain ⟨⟨t235, t236, t237⟩, A50, H⟩ := H
  replace H : ((value_Div.f k t232 t233 t234 t235 t236 t237).bind fun bt238 => (if bt238.2.2.2 = 0 then ((weathercocklaw01_n.f a1).bind fun bt243 => ((value_Mul.f k bt238.1 bt238.2.1 bt238.2.2.1 bt243.1 bt243.2.1 bt243.2.2).bind fun bt246 => ((weathercocklaw01_n.f a0).bind fun bt251 => ((value_Sub.f k bt251.1 bt251.2.1 bt251.2.2 bt246.1 bt246.2.1 bt246.2.2.1).bind fun bt254 => (if bt246.2.2.2 = 0 then (if bt254.2.2.2 = 0 then (if t231 = true then (if a0 ≥ 0 then (if bt254.2.1 ≥ 0 then (if a1 > 0 then (if bt254.2.1 < a1 then (if bt254.2.1 > (wrap64 (-a1)) then (some true) else (if a1 < 0 then (if bt254.2.1 > a1 then (if a1 = (-9223372036854775808) then (some true) else (some (decide (bt254.2.1 < (wrap64 (-a1)))))) else (some false)) else (some false))) else (if a1 < 0 then (if bt254.2.1 > a1 then (if a1 = (-9223372036854775808) then (some true) else (some (decide (bt254.2.1 < (wrap64 (-a1)))))) else (some false)) else (some false))) else (if a1 < 0 then (if bt254.2.1 > a1 then (if a1 = (-9223372036854775808) then (some true) else (some (decide (bt254.2.1 < (wrap64 (-a1)))))) else (some false)) else (some false))) else (if a0 < 0 then (if bt254.2.1 ≤ 0 then (if a1 > 0 then (if bt254.2.1 < a1 then (if bt254.2.1 > (wrap64 (-a1)) then (some true) else (if a1 < 0 then (if bt254.2.1 > a1 then (if a1 = (-9223372036854775808) then (some true) else (some (decide (bt254.2.1 < (wrap64 (-a1)))))) else (some false)) else (some false))) else (if a1 < 0 then (if bt254.2.1 > a1 then (if a1 = (-9223372036854775808) then (some true) else (some (decide (bt254.2.1 < (wrap64 (-a1)))))) else (some false)) else (some false))) else (if a1 < 0 then (if bt254.2.1 > a1 then (if a1 = (-9223372036854775808) then (some true) else (some (decide (bt254.2.1 < (wrap64 (-a1)))))) else (some false)) else (some false))) else (some false)) else (some false))) else (if a0 < 0 then (if bt254.2.1 ≤ 0 then (if a1 > 0 then (if bt254.2.1 < a1 then (if bt254.2.1 > (wrap64 (-a1)) then (some true) else (if a1 < 0 then (if bt254.2.1 > a1 then (if a1 = (-9223372036854775808) then (some true) else (some (decide (bt254.2.1 < (wrap64 (-a1)))))) else (some false)) else (some false))) else (if a1 < 0 then (if bt254.2.1 > a1 then (if a1 = (-9223372036854775808) then (some true) else (some (decide (bt254.2.1 < (wrap64 (-a1)))))) else (some false)) else (some false))) else (if a1 < 0 then (if bt254.2.1 > a1 then (if a1 = (-9223372036854775808) then (some true) else (some (decide (bt254.2.1 < (wrap64 (-a1)))))) else (some false)) else (some false))) else (some false)) else (some false))) else (some false)) else (some false)) else (some false)))))) else (if t231 = true then (if a1 = 0 then (if bt238.2.2.2 = 4 then (some true) else (if a0 = (-9223372036854775808) then (if a1 = (-1) then (some (bt238.2.2.2 == 3)) else (some false)) else (some false))) else (if a0 = (-9223372036854775808) then (if a1 = (-1) then (some (bt238.2.2.2 == 3)) else (some false)) else (some false))) else (some false)))) = some r := H
  have A5 := Aside0.mk A50
  clear A50
  replace H := Option.bind_eq_some_iff.mp H
  obtain ⟨⟨t238, t239, t240, t241⟩, A60, H⟩ := H
  replace H : (if t241 = 0 then ((weathercocklaw01_n.f a1).bind fun bt243 => ((value_Mul.f k t238 t239 t240 bt243.1 bt243.2.1 bt243.2.2).bind fun bt246 => ((weathercocklaw01_n.f a0).bind fun bt251 => ((value_Sub.f k bt251.1 bt251.2.1 bt251.2.2 bt246.1 bt246.2.1 bt246.2.2.1).bind fun bt254 => (if bt246.2.2.2 = 0 then (if bt254.2.2.2 = 0 then (if t231 = true then (if a0 ≥ 0 then (if bt254.2.1 ≥ 0 then (if a1 > 0 then (if bt254.2.1 < a1 then (if bt254.2.1 > (wrap64 (-a1)) then (some true) else (if a1 < 0 then (if bt254.2.1 > a1 then (if a1 = (-9223372036854775808) then (some true) else (some (decide (bt254.2.1 < (wrap64 (-a1)))))) else (some false)) else (some false))) else (if a1 < 0 then (if bt254.2.1 > a1 then (if a1 = (-9223372036854775808) then (some true) else (some (decide (bt254.2.1 < (wrap64 (-a1)))))) else (some false)) else (some false))) else (if a1 < 0 then (if bt254.2.1 > a1 then (if a1 = (-9223372036854775808) then (some true) else (some (decide (bt254.2.1 < (wrap64 (-a1)))))) else (some false)) else (some false))) else (if a0 < 0 then (if bt254.2.1 ≤ 0 then (if a1 > 0 then (if bt254.2.1 < a1 then (if bt254.2.1 > (wrap64 (-a1)) then (some true) else (if a1 < 0 then (if bt254.2.1 > a1 then (if a1 = (-9223372036854775808) then (some true) else (some (decide (bt254.2.1 < (wrap64 (-a1)))))) else (some false)) else (some false))) else (if a1 < 0 then (if bt254.2.1 > a1 then (if a1 = (-9223372036854775808) then (some true) else (some (decide (bt254.2.1 < (wrap64 (-a1)))))) else (some false)) else (some false))) else (if a1 < 0 then (if bt254.2.1 > a1 then (if a1 = (-9223372036854775808) then (some true) else (some (decide (bt254.2.1 < (wrap64 (-a1)))))) else (some false)) else (some false))) else (some false)) else (some false))) else (if a0 < 0 then (if bt254.2.1 ≤ 0 then (if a1 > 0 then (if bt254.2.1 < a1 then (if bt254.2.1 > (wrap64 (-a1)) then (some true) else (if a1 < 0 then (if bt254.2.1 > a1 then (if a1 = (-9223372036854775808) then (some true) else (some (decide (bt254.2.1 < (wrap64 (-a1)))))) else (some false)) else (some false))) else (if a1 < 0 then (if bt254.2.1 > a1 then (if a1 = (-9223372036854775808) then (some true) else (some (decide (bt254.2.1 < (wrap64 (-a1)))))) else (some false)) else (some false))) else (if a1 < 0 then (if bt254.2.1 > a1 then (if a1 = (-9223372036854775808) then (some true) else (some (decide (bt254.2.1 < (wrap64 (-a1)))))) else (some false)) else (some false))) else (some false)) else (some false))) else (some false)) else (some false)) else (some false)))))) else (if t231 = true then (if a1 = 0 then (if t241 = 4 then (some true) else (if a0 = (-9223372036854775808) then (if a1 = (-1) then (some (t241 == 3)) else (some false)) else (some false))) else (if a0 = (-9223372036854775808) then (if a1 = (-1) then (some (t241 == 3)) else (some false)) else (some false))) else (some false))) = some r := H
  have A6 := Aside0.mk A60
  clear A60
  by_cases c7 : t241 = 0
  · rw [if_pos c7] at H
    have c7b0 : (t241 == 0) = true := beq_iff_eq.mpr c7
    have c7b1 : (t241 != 0) = false := bne_eq_false_iff_eq.mpr c7
    clear c7
    replace H := Option.bind_eq_some_iff.mp H
    obtain ⟨⟨t243, t244, t245⟩, A80, H⟩ := H
    replace H : ((value_Mul.f k t238 t239 t240 t243 t244 t245).bind fun bt246 => ((weathercocklaw01_n.f a0).bind fun bt251 => ((value_Sub.f k bt251.1 bt251.2.1 bt251.2.2 bt246.1 bt246.2.1 bt246.2.2.1).bind fun bt254 => (if bt246.2.2.2 = 0 then (if bt254.2.2.2 = 0 then (if t231 = true then (if a0 ≥ 0 then (if bt254.2.1 ≥ 0 then (if a1 > 0 then (if bt254.2.1 < a1 then (if bt254.2.1 > (wrap64 (-a1)) then (some true) else (if a1 < 0 then (if bt254.2.1 > a1 then (if a1 = (-9223372036854775808) then (some true) else (some (decide (bt254.2.1 < (wrap64 (-a1)))))) else (some false)) else (some false))) else (if a1 < 0 then (if bt254.2.1 > a1 then (if a1 = (-9223372036854775808) then (some true) else (some (decide (bt254.2.1 < (wrap64 (-a1)))))) else (some false)) else (some false))) else (if a1 < 0 then (if bt254.2.1 > a1 then (if a1 = (-9223372036854775808) then (some true) else (some (decide (bt254.2.1 < (wrap64 (-a1)))))) else (some false)) else (some false))) else (if a0 < 0 then (if bt254.2.1 ≤ 0 then (if a1 > 0 then (if bt254.2.1 < a1 then (if bt254.2.1 > (wrap64 (-a1)) then (some true) else (if a1 < 0 then (if bt254.2.1 > a1 then (if a1 = (-9223372036854775808) then (some true) else (some (decide (bt254.2.1 < (wrap64 (-a1)))))) else (some false)) else (some false))) else (if a1 < 0 then (if bt254.2.1 > a1 then (if a1 = (-9223372036854775808) then (some true) else (some (decide (bt254.2.1 < (wrap64 (-a1)))))) else (some false)) else (some false))) else (if a1 < 0 then (if bt254.2.1 > a1 then (if a1 = (-9223372036854775808) then (some true) else (some (decide (bt254.2.1 < (wrap64 (-a1)))))) else (some false)) else (some false))) else (some false)) else (some false))) else (if a0 < 0 then (if bt254.2.1 ≤ 0 then (if a1 > 0 then (if bt254.2.1 < a1 then (if bt254.2.1 > (wrap64 (-a1)) then (some true) else (if a1 < 0 then (if bt254.2.1 > a1 then (if a1 = (-9223372036854775808) then (some true) else (some (decide (bt254.2.1 < (wrap64 (-a1)))))) else (some false)) else (some false))) else (if a1 < 0 then (if bt254.2.1 > a1 then (if a1 = (-9223372036854775808) then (some true) else (some (decide (bt254.2.1 < (wrap64 (-a1)))))) else (some false)) else (some false))) else (if a1 < 0 then (if bt254.2.1 > a1 then (if a1 = (-9223372036854775808) then (some true) else (some (decide (bt254.2.1 < (wrap64 (-a1)))))) else (some false)) else (some false))) else (some false)) else (some false))) else (some false)) else (some false)) else (some false))))) = some r := H
    have A8 := Aside0.mk A80
    clear A80
    replace H := Option.bind_eq_some_iff.mp H
    obtain ⟨⟨t246, t247, t248, t249⟩, A90, H⟩ := H
    replace H : ((weathercocklaw01_n.f a0).bind fun bt251 => ((value_Sub.f k bt251.1 bt251.2.1 bt251.2.2 t246 t247 t248).bind fun bt254 => (if t249 = 0 then (if bt254.2.2.2 = 0 then (if t231 = true then (if a0 ≥ 0 then (if bt254.2.1 ≥ 0 then (if a1 > 0 then (if bt254.2.1 < a1 then (if bt254.2.1 > (wrap64 (-a1)) then (some true) else (if a1 < 0 then (if bt254.2.1 > a1 then (if a1 = (-9223372036854775808) then (some true) else (some (decide (bt254.2.1 < (wrap64 (-a1)))))) else (some false)) else (some false))) else (if a1 < 0 then (if bt254.2.1 > a1 then (if a1 = (-9223372036854775808) then (some true) else (some (decide (bt254.2.1 < (wrap64 (-a1)))))) else (some false)) else (some false))) else (if a1 < 0 then (if bt254.2.1 > a1 then (if a1 = (-9223372036854775808) then (some true) else (some (decide (bt254.2.1 < (wrap64 (-a1)))))) else (some false)) else (some false))) else (if a0 < 0 then (if bt254.2.1 ≤ 0 then (if a1 > 0 then (if bt254.2.1 < a1 then (if bt254.2.1 > (wrap64 (-a1)) then (some true) else (if a1 < 0 then (if bt254.2.1 > a1 then (if a1 = (-9223372036854775808) then (some true) else (some (decide (bt254.2.1 < (wrap64 (-a1)))))) else (some false)) else (some false))) else (if a1 < 0 then (if bt254.2.1 > a1 then (if a1 = (-9223372036854775808) then (some true) else (some (decide (bt254.2.1 < (wrap64 (-a1)))))) else (some false)) else (some false))) else (if a1 < 0 then (if bt254.2.1 > a1 then (if a1 = (-9223372036854775808) then (some true) else (some (decide (bt254.2.1 < (wrap64 (-a1)))))) else (some false)) else (some false))) else (some false)) else (some false))) else (if a0 < 0 then (if bt254.2.1 ≤ 0 then (if a1 > 0 then (if bt254.2.1 < a1 then (if bt254.2.1 > (wrap64 (-a1)) then (some true) else (if a1 < 0 then (if bt254.2.1 > a1 then (if a1 = (-9223372036854775808) then (some true) else (some (decide (bt254.2.1 < (wrap64 (-a1)))))) else (some false)) else (some false))) else (if a1 < 0 then (if bt254.2.1 > a1 then (if a1 = (-9223372036854775808) then (some true) else (some (decide (bt254.2.1 < (wrap64 (-a1)))))) else (some false)) else (some false))) else (if a1 < 0 then (if bt254.2.1 > a1 then (if a1 = (-9223372036854775808) then (some true) else (some (decide (bt254.2.1 < (wrap64 (-a1)))))) else (some false)) else (some false))) else (some false)) else (some false))) else (some false)) else (some false)) else (some false)))) = some r := H
    have A9 := Aside0.mk A90
    clear A90
    replace H := Option.bind_eq_some_iff.mp H
    obtain ⟨⟨t251, t252, t253⟩, A100, H⟩ := H
    replace H : ((value_Sub.f k t251 t252 t253 t246 t247 t248).bind fun bt254 => (if t249 = 0 then (if bt254.2.2.2 = 0 then (if t231 = true then (if a0 ≥ 0 then (if bt254.2.1 ≥ 0 then (if a1 > 0 then (if bt254.2.1 < a1 then (if bt254.2.1 > (wrap64 (-a1)) then (some true) else (if a1 < 0 then (if bt254.2.1 > a1 then (if a1 = (-9223372036854775808) then (some true) else (some (decide (bt254.2.1 < (wrap64 (-a1)))))) else (some false)) else (some false))) else (if a1 < 0 then (if bt254.2.1 > a1 then (if a1 = (-9223372036854775808) then (some true) else (some (decide (bt254.2.1 < (wrap64 (-a1)))))) else (some false)) else (some false))) else (if a1 < 0 then (if bt254.2.1 > a1 then (if a1 = (-9223372036854775808) then (some true) else (some (decide (bt254.2.1 < (wrap64 (-a1)))))) else (some false)) else (some false))) else (if a0 < 0 then (if bt254.2.1 ≤ 0 then (if a1 > 0 then (if bt254.2.1 < a1 then (if bt254.2.1 > (wrap64 (-a1)) then (some true) else (if a1 < 0 then (if bt254.2.1 > a1 then (if a1 = (-9223372036854775808) then (some true) else (some (decide (bt254.2.1 < (wrap64 (-a1)))))) else (some false)) else (some false))) else (if a1 < 0 then (if bt254.2.1 > a1 then (if a1 = (-9223372036854775808) then (some true) else (some (decide (bt254.2.1 < (wrap64 (-a1)))))) else (some false)) else (some false))) else (if a1 < 0 then (if bt254.2.1 > a1 then (if a1 = (-9223372036854775808) then (some true) else (some (decide (bt254.2.1 < (wrap64 (-a1)))))) else (some false)) else (some false))) else (some false)) else (some false))) else (if a0 < 0 then (if bt254.2.1 ≤ 0 then (if a1 > 0 then (if bt254.2.1 < a1 then (if bt254.2.1 > (wrap64 (-a1)) then (some true) else (if a1 < 0 then (if bt254.2.1 > a1 then (if a1 = (-9223372036854775808) then (some true) else (some (decide (bt254.2.1 < (wrap64 (-a1)))))) else (some false)) else (some false))) else (if a1 < 0 then (if bt254.2.1 > a1 then (if a1 = (-9223372036854775808) then (some true) else (some (decide (bt254.2.1 < (wrap64 (-a1)))))) else (some false)) else (some false))) else (if a1 < 0 then (if bt254.2.1 > a1 then (if a1 = (-9223372036854775808) then (some true) else (some (decide (bt254.2.1 < (wrap64 (-a1)))))) else (some false)) else (some false))) else (some false)) else (some false))) else (some false)) else (some false)) else (some false))) = some r := H
    have A10 := Aside0.mk A100
    clear A100
    replace H := Option.bind_eq_some_iff.mp H
    obtain ⟨⟨t254, t255, t256, t257⟩, A110, H⟩ := H
    replace H : (if t249 = 0 then (if t257 = 0 then (if t231 = true then (if a0 ≥ 0 then (if t255 ≥ 0 then (if a1 > 0 then (if t255 < a1 then (if t255 > (wrap64 (-a1)) then (some true) else (if a1 < 0 then (if t255 > a1 then (if a1 = (-9223372036854775808) then (some true) else (some (decide (t255 < (wrap64 (-a1)))))) else (some false)) else (some false))) else (if a1 < 0 then (if t255 > a1 then (if a1 = (-9223372036854775808) then (some true) else (some (decide (t255 < (wrap64 (-a1)))))) else (some false)) else (some false))) else (if a1 < 0 then (if t255 > a1 then (if a1 = (-9223372036854775808) then (some true) else (some (decide (t255 < (wrap64 (-a1)))))) else (some false)) else (some false))) else (if a0 < 0 then (if t255 ≤ 0 then (if a1 > 0 then (if t255 < a1 then (if t255 > (wrap64 (-a1)) then (some true) else (if a1 < 0 then (if t255 > a1 then (if a1 = (-9223372036854775808) then (some true) else (some (decide (t255 < (wrap64 (-a1)))))) else (some false)) else (some false))) else (if a1 < 0 then (if t255 > a1 then (if a1 = (-9223372036854775808) then (some true) else (some (decide (t255 < (wrap64 (-a1)))))) else (some false)) else (some false))) else (if a1 < 0 then (if t255 > a1 then (if a1 = (-9223372036854775808) then (some true) else (some (decide (t255 < (wrap64 (-a1)))))) else (some false)) else (some false))) else (some false)) else (some false))) else (if a0 < 0 then (if t255 ≤ 0 then (if a1 > 0 then (if t255 < a1 then (if t255 > (wrap64 (-a1)) then (some true) else (if a1 < 0 then (if t255 > a1 then (if a1 = (-9223372036854775808) then (some true) else (some (decide (t255 < (wrap64 (-a1)))))) else (some false)) else (some false))) else (if a1 < 0 then (if t255 > a1 then (if a1 = (-9223372036854775808) then (some true) else (some (decide (t255 < (wrap64 (-a1)))))) else (some false)) else (some false))) else (if a1 < 0 then (if t255 > a1 then (if a1 = (-9223372036854775808) then (some true) else (some (decide (t255 < (wrap64 (-a1)))))) else (some false)) else (some false))) else (some false)) else (some false))) else (some false)) else (some false)) else (some false)) = some r := H
    have A11 := Aside0.mk A110
    clear A110
    by_cases c12 : t249 = 0
    · rw [if_pos c12] at H
      have c12b0 : (t249 == 0) = true := beq_iff_eq.mpr c12
      have c12b1 : (t249 != 0) = false := bne_eq_false_iff_eq.mpr c12
      clear c12
      by_cases c13 : t257 = 0
      · rw [if_pos c13] at H
        have c13b0 : (t257 == 0) = true := beq_iff_eq.mpr c13
        have c13b1 : (t257 != 0) = false := bne_eq_false_iff_eq.mpr c13
        clear c13
        by_cases c14 : t231 = true
        · subst c14
          have H1 : (if a0 ≥ 0 then (if t255 ≥ 0 then (if a1 > 0 then (if t255 < a1 then (if t255 > (wrap64 (-a1)) then (some true) else (if a1 < 0 then (if t255 > a1 then (if a1 = (-9223372036854775808) then (some true) else (some (decide (t255 < (wrap64 (-a1)))))) else (some false)) else (some false))) else (if a1 < 0 then (if t255 > a1 then (if a1 = (-9223372036854775808) then (some true) else (some (decide (t255 < (wrap64 (-a1)))))) else (some false)) else (some false))) else (if a1 < 0 then (if t255 > a1 then (if a1 = (-9223372036854775808) then (some true) else (some (decide (t255 < (wrap64 (-a1)))))) else (some false)) else (some false))) else (if a0 < 0 then (if t255 ≤ 0 then (if a1 > 0 then (if t255 < a1 then (if t255 > (wrap64 (-a1)) then (some true) else (if a1 < 0 then (if t255 > a1 then (if a1 = (-9223372036854775808) then (some true) else (some (decide (t255 < (wrap64 (-a1)))))) else (some false)) else (some false))) else (if a1 < 0 then (if t255 > a1 then (if a1 = (-9223372036854775808) then (some true) else (some (decide (t255 < (wrap64 (-a1)))))) else (some false)) else (some false))) else (if a1 < 0 then (if t255 > a1 then (if a1 = (-9223372036854775808) then (some true) else (some (decide (t255 < (wrap64 (-a1)))))) else (some false)) else (some false))) else (some false)) else (some false))) else (if a0 < 0 then (if t255 ≤ 0 then (if a1 > 0 then (if t255 < a1 then (if t255 > (wrap64 (-a1)) then (some true) else (if a1 < 0 then (if t255 > a1 then (if a1 = (-9223372036854775808) then (some true) else (some (decide (t255 < (wrap64 (-a1)))))) else (some false)) else (some false))) else (if a1 < 0 then (if t255 > a1 then (if a1 = (-9223372036854775808) then (some true) else (some (decide (t255 < (wrap64 (-a1)))))) else (some false)) else (some false))) else (if a1 < 0 then (if t255 > a1 then (if a1 = (-9223372036854775808) then (some true) else (some (decide (t255 < (wrap64 (-a1)))))) else (some false)) else (some false))) else (some false)) else (some false))) = some r := by rw [if_pos rfl] at H; exact H
          clear H
          have H := H1
          clear H1
          go_enter Try.func7, Try.ntmps7
          try go_wp2_with (first | ((with_reducible refine gate_callee (f := 10) rfl ?_); refine goesL_ (some 12) rfl rfl Try.func10 (by kernel_rfl) rfl #[] rfl (by (try simp only [List.map_toArray, List.map_cons, List.map_nil]); first | done | rfl | (simp only [List.length_drop, List.length_take]; rfl)) ?_; (with_reducible refine (weathercocklaw01_examples.calls k  true _ A3.out).mono ?_); rintro e w20 ⟨rfl, hb⟩; refine ⟨_, rfl, ?_⟩; have n0_ := Aside0.mk (below_step (by repeat (first | (with_reducible first | exact HB.out | apply below_alloc | apply pw_below_drewN | apply below_drew1) | exact HB.out)) hb); clear HB; have HB := n0_; clear n0_; (try clear hb); (try clear hb2); (try clear hk); (try clear hi)) | ((with_reducible refine gate_callee (f := 26) rfl ?_); refine goesL_ (some 15) rfl rfl Try.func26 (by kernel_rfl) rfl #[.int .i64 a0] rfl (by (try simp only [List.map_toArray, List.map_cons, List.map_nil]); first | done | rfl | (simp only [List.length_drop, List.length_take]; rfl)) ?_; (with_reducible refine (weathercocklaw01_n.calls a0 t232 t233 t234 _ A4.out).mono ?_); rintro e w21 ⟨rfl, hb⟩; refine ⟨_, rfl, ?_⟩; have n0_ := Aside0.mk (below_step (by repeat (first | (with_reducible first | exact HB.out | apply below_alloc | apply pw_below_drewN | apply below_drew1) | exact HB.out)) hb); clear HB; have HB := n0_; clear n0_; (try clear hb); (try clear hb2); (try clear hk); (try clear hi)) | ((with_reducible refine gate_callee (f := 26) rfl ?_); refine goesL_ (some 17) rfl rfl Try.func26 (by kernel_rfl) rfl #[.int .i64 a1] rfl (by (try simp only [List.map_toArray, List.map_cons, List.map_nil]); first | done | rfl | (simp only [List.length_drop, List.length_take]; rfl)) ?_; (with_reducible refine (weathercocklaw01_n.calls a1 t235 t236 t237 _ A5.out).mono ?_); rintro e w22 ⟨rfl, hb⟩; refine ⟨_, rfl, ?_⟩; have n0_ := Aside0.mk (below_step (by repeat (first | (with_reducible first | exact HB.out | apply below_alloc | apply pw_below_drewN | apply below_drew1) | exact HB.out)) hb); clear HB; have HB := n0_; clear n0_; (try clear hb); (try clear hb2); (try clear hk); (try clear hi)) | ((with_reducible refine gate_callee (f := 25) rfl ?_); refine goesL_ (some 18) rfl rfl Try.func25 (by kernel_rfl) rfl #[.agg #[.int .i64 t232, .int .i64 t233, .string t234], .agg #[.int .i64 t235, .int .i64 t236, .string t237]] rfl (by (try simp only [List.map_toArray, List.map_cons, List.map_nil]); first | done | rfl | (simp only [List.length_drop, List.length_take]; rfl)) ?_; (with_reducible refine (value_Div.calls k t232 t233 t234 t235 t236 t237 t238 t239 t240 t241 _ A6.out).mono ?_); rintro e w23 ⟨rfl, hb⟩; refine ⟨_, rfl, ?_⟩; have n0_ := Aside0.mk (below_step (by repeat (first | (with_reducible first | exact HB.out | apply below_alloc | apply pw_below_drewN | apply below_drew1) | exact HB.out)) hb); clear HB; have HB := n0_; clear n0_; (try clear hb); (try clear hb2); (try clear hk); (try clear hi)) | ((with_reducible refine gate_dst (N := 6) rfl ?_); refine box_event ?hg (N := 6) ?hd (cs := #[.int .i64 0, .int .i64 0, .string (⟨#[]⟩ : ByteArray)]) (t := 23) ?hr ?_; (case hd => rfl); (case hg => rfl); (case hr => first | (go_simp; done) | (go_simp; rfl)); intro gb242 hg w24 hbox hb; have n0_ := Aside0.mk (below_step (by repeat (first | (with_reducible first | exact HB.out | apply below_alloc | apply pw_below_drewN | apply below_drew1) | exact HB.out)) hb); have n1_ := Aside0.mk (hbox); have n2_ := Aside0.mk ((by rw [hg]; exact (below_size (by repeat (first | (with_reducible first | exact HB.out | apply below_alloc | apply pw_below_drewN | apply below_drew1) | exact HB.out))) : w.heap.size ≤ gb242)); have n3_ := Aside0.mk ((by rw [hg]; exact (below_size (by repeat (first | (with_reducible first | exact HB.out | apply below_alloc | apply pw_below_drewN | apply below_drew1) | exact HB.out))) : w.heap.size ≤ gb242)); clear HB; have HB := n0_; have BK242 := n1_; have GW242 := n2_; have GE242 := n3_; clear n0_ n1_ n2_ n3_; clear hb hbox hg; have hcz25_0 : w24.cell? ⟨gb242, 0, none⟩ = some (.int .i64 0) := (blk_cell BK242.out 0).trans rfl; have hcz25_1 : w24.cell? ⟨gb242, 1, none⟩ = some (.int .i64 0) := (blk_cell BK242.out 1).trans rfl; have hcz25_2 : w24.cell? ⟨gb242, 2, none⟩ = some (.string (⟨#[]⟩ : ByteArray)) := (blk_cell BK242.out 2).trans rfl; have hfz25_0 := blk_frozen BK242.out 0; have hfz25_1 := blk_frozen BK242.out 1; have hfz25_2 := blk_frozen BK242.out 2))
          have n0_ : Aside0 ((((w24.setCell ⟨gb242, 0, none⟩ (.int .i64 t238)).setCell ⟨gb242, 1, none⟩ (.int .i64 t239)).setCell ⟨gb242, 2, none⟩ (.string t240)).heap[gb242]? = some (.cells #[.int .i64 t238, .int .i64 t239, .string t240] 23 (0, 0))) := ⟨by (with_reducible repeat (first | refine blk_drewN ?_ _ | refine blk_drew ?_ | refine blk_alloc ?_ _)); refine blk_put (cs := #[.int .i64 t238, .int .i64 t239, .string (⟨#[]⟩ : ByteArray)]) ?_ 2 _ rfl; (with_reducible repeat (first | refine blk_drewN ?_ _ | refine blk_drew ?_ | refine blk_alloc ?_ _)); refine blk_put (cs := #[.int .i64 t238, .int .i64 0, .string (⟨#[]⟩ : ByteArray)]) ?_ 1 _ rfl; (with_reducible repeat (first | refine blk_drewN ?_ _ | refine blk_drew ?_ | refine blk_alloc ?_ _)); refine blk_put (cs := #[.int .i64 0, .int .i64 0, .string (⟨#[]⟩ : ByteArray)]) ?_ 0 _ rfl; (with_reducible repeat (first | refine blk_drewN ?_ _ | refine blk_drew ?_ | refine blk_alloc ?_ _)); exact BK242.out⟩
          have n1_ : Aside0 (Below w.heap.size w (((w24.setCell ⟨gb242, 0, none⟩ (.int .i64 t238)).setCell ⟨gb242, 1, none⟩ (.int .i64 t239)).setCell ⟨gb242, 2, none⟩ (.string t240))) := ⟨by repeat (first | (with_reducible first | exact HB.out | apply below_alloc | apply pw_below_drewN | apply below_drew1 | refine below_set ?_ GE242.out) | exact HB.out)⟩
          (try clear BK242)
          (try clear HB)
          generalize (((w24.setCell ⟨gb242, 0, none⟩ (.int .i64 t238)).setCell ⟨gb242, 1, none⟩ (.int .i64 t239)).setCell ⟨gb242, 2, none⟩ (.string t240)) = w26 at n0_ n1_ ⊢
          have BK242 := n0_
          have HB := n1_
          clear n0_ n1_
          have n0_ := Aside0.mk (blk_drew BK242.out)
          have n1_ := Aside0.mk (below_drew1 HB.out)
          clear BK242
          clear HB
          have BK242 := n0_
          have HB := n1_
          clear n0_ n1_
          refine start_ (n := 10) (S := fun w' => w'.cell? ⟨gb242, 0, none⟩ = some (.int .i64 t238) ∧ w'.cell? ⟨gb242, 1, none⟩ = some (.int .i64 t239) ∧ w'.cell? ⟨gb242, 2, none⟩ = some (.string t240)) (ds := []) #[false, false, false, false, false, false, false, false, false, false] (by kernel_rfl) rfl rfl ⟨(blk_cell BK242.out 0).trans rfl, (blk_cell BK242.out 1).trans rfl, (blk_cell BK242.out 2).trans rfl⟩ (fun hHeld => ?_); refine with_tabW weathercocklaw01_ValueRest.tab5 weathercocklaw01_ValueRest.bits5 (fun HT_ HW_ => ?_)
          generalize w26.drew = w27 at BK242 HB hHeld ⊢
          refine pure_ (i := 1) (N := some 46) (v := ?_) (a' := ?_) #[false, true, false, false, false, false, false, false, false, false] rfl rfl (any_of HT_.out (by kernel_rfl)) (fun _ _ _ h => h) (Or.inl ⟨by rfl, ?_⟩) ?_ ?_
          rotate_left
          · intro w'
            go_simp
            with_reducible rfl
          rotate_left
          · simp only [Act.put, List.setIfInBounds_toArray, List.set_cons_zero, List.set_cons_succ, i64_w, i32_w]
            rfl
          refine take_ (i := 0) (N := some 45) (v := ?_) (a' := ?_) #[true, true, false, false, false, false, false, false, false, false] rfl rfl (take_ofW HT_.out HW_.out (by kernel_rfl)) (fun _ _ _ h => h) (Or.inl ⟨by rfl, ?_⟩) hHeld ?_ ?_
          rotate_left
          · rintro w' ⟨s0, s1, s2⟩
            go_simp
            with_reducible rfl
          rotate_left
          · simp only [Act.put, List.setIfInBounds_toArray, List.set_cons_zero, List.set_cons_succ, i64_w, i32_w]
            rfl
          refine join_ (σ := Nat) 2 #[true, true, true, true, true, true, true, true, false, false] (fun s_ => [(47, .agg #[.int .i64 t243, .int .i64 t244, .string t245]), (48, .tuple #[.agg #[.int .i64 t246, .int .i64 t247, .string t248], .int .i64 t249]), (8, .pointer (some ⟨s_, 0, none⟩)), (44, .tuple #[.agg #[.int .i64 t246, .int .i64 t247, .string t248], .int .i64 t249]), (49, .agg #[.int .i64 t246, .int .i64 t247, .string t248]), (50, .int .i64 t249)]) (fun s_ w' => (w'.cell? ⟨gb242, 0, none⟩ = some (.int .i64 t238) ∧ w'.cell? ⟨gb242, 1, none⟩ = some (.int .i64 t239) ∧ w'.cell? ⟨gb242, 2, none⟩ = some (.string t240)) ∧ (w'.heap[gb242]? = some (.cells #[.int .i64 t238, .int .i64 t239, .string t240] 23 (0, 0))) ∧ (w'.heap[s_]? = some (.cells #[.int .i64 0, .int .i64 0, .string (⟨#[]⟩ : ByteArray)] 23 (0, 0))) ∧ (w.heap.size ≤ s_) ∧ (w.heap.size ≤ s_) ∧ (gb242 ≠ s_) ∧ (s_ ≠ gb242) ∧ (Below w.heap.size w w')) ?_ ?_
          rotate_left
          · intro hCont
            refine two_ (i := 2) (j := 7) (Ni := some 47) (Nj := some 8) #[true, true, true, false, false, false, false, false, false, false] #[true, true, false, false, false, false, false, true, false, false] rfl rfl rfl rfl (two_of HT_.out (by kernel_rfl)) (by decide) (by decide) (fun K hK => ?_) (fun K hK => ?_)
            · skip
              refine goes_ Try.func26 (by kernel_rfl) rfl #[.int .i64 a1] (by rfl) rfl rfl (by (try simp only [List.map_toArray, List.map_cons, List.map_nil]); first | done | rfl | (simp only [List.length_drop, List.length_take]; rfl)) ?_
              with_reducible refine (weathercocklaw01_n.calls a1 t243 t244 t245 _ A8.out).mono ?_
              rintro e w28 ⟨rfl, hb⟩
              refine ⟨_, rfl, ?_⟩
              have n0_ := Aside0.mk (blk_below (g := gb242) (o := .cells #[.int .i64 t238, .int .i64 t239, .string t240] 23 (0, 0)) (by (with_reducible repeat (first | refine blk_drewN ?_ _ | refine blk_drew ?_ | refine blk_alloc ?_ _)); exact BK242.out) hb)
              have n1_ := Aside0.mk (below_step (by repeat (first | (with_reducible first | exact HB.out | apply below_alloc | apply pw_below_drewN | apply below_drew1 | refine below_set ?_ GE242.out) | exact HB.out)) hb)
              clear BK242
              clear HB
              have BK242 := n0_
              have HB := n1_
              clear n0_ n1_
              (try clear hb)
              (try clear hb2)
              (try clear hk)
              (try clear hi)
              refine hK.out _ _ ⟨(blk_cell BK242.out 0).trans rfl, (blk_cell BK242.out 1).trans rfl, (blk_cell BK242.out 2).trans rfl⟩ (fun hHeld => ?_)
              clear hK K
              refine norm_ (a' := ?_) ?_ ?_
              rotate_left
              · show Act.put _ (some 47) _ = _
                simp only [Act.put, List.setIfInBounds_toArray, List.set_cons_zero, List.set_cons_succ, i64_w, i32_w]
                rfl
              refine two_ (i := 3) (j := 7) (Ni := some 48) (Nj := some 8) #[true, true, true, true, false, false, false, false, false, false] #[true, true, true, false, false, false, false, true, false, false] rfl rfl rfl rfl (two_of HT_.out (by kernel_rfl)) (by decide) (by decide) (fun K hK => ?_) (fun K hK => ?_)
              · skip
                refine goes_ Try.func27 (by kernel_rfl) rfl #[.agg #[.int .i64 t238, .int .i64 t239, .string t240], .agg #[.int .i64 t243, .int .i64 t244, .string t245]] (by rfl) rfl rfl (by (try simp only [List.map_toArray, List.map_cons, List.map_nil]); first | done | rfl | (simp only [List.length_drop, List.length_take]; rfl)) ?_
                with_reducible refine (value_Mul.calls k t238 t239 t240 t243 t244 t245 t246 t247 t248 t249 _ A9.out).mono ?_
                rintro e w29 ⟨rfl, hb⟩
                refine ⟨_, rfl, ?_⟩
                have n0_ := Aside0.mk (blk_below (g := gb242) (o := .cells #[.int .i64 t238, .int .i64 t239, .string t240] 23 (0, 0)) (by (with_reducible repeat (first | refine blk_drewN ?_ _ | refine blk_drew ?_ | refine blk_alloc ?_ _)); exact BK242.out) hb)
                have n1_ := Aside0.mk (below_step (by repeat (first | (with_reducible first | exact HB.out | apply below_alloc | apply pw_below_drewN | apply below_drew1 | refine below_set ?_ GE242.out) | exact HB.out)) hb)
                clear BK242
                clear HB
                have BK242 := n0_
                have HB := n1_
                clear n0_ n1_
                (try clear hb)
                (try clear hb2)
                (try clear hk)
                (try clear hi)
                refine hK.out _ _ ⟨(blk_cell BK242.out 0).trans rfl, (blk_cell BK242.out 1).trans rfl, (blk_cell BK242.out 2).trans rfl⟩ (fun hHeld => ?_)
                clear hK K
                refine norm_ (a' := ?_) ?_ ?_
                rotate_left
                · show Act.put _ (some 48) _ = _
                  simp only [Act.put, List.setIfInBounds_toArray, List.set_cons_zero, List.set_cons_succ, i64_w, i32_w]
                  rfl
                refine pure_ (i := 4) (N := some 44) (v := ?_) (a' := ?_) #[true, true, true, true, true, false, false, false, false, false] rfl rfl (any_of HT_.out (by kernel_rfl)) (fun _ _ _ h => h) (Or.inl ⟨by rfl, ?_⟩) ?_ ?_
                rotate_left
                · intro w'
                  go_simp
                  with_reducible rfl
                rotate_left
                · simp only [Act.put, List.setIfInBounds_toArray, List.set_cons_zero, List.set_cons_succ, i64_w, i32_w]
                  rfl
                refine pure_ (i := 5) (N := some 49) (v := ?_) (a' := ?_) #[true, true, true, true, true, true, false, false, false, false] rfl rfl (any_of HT_.out (by kernel_rfl)) (fun _ _ _ h => h) (Or.inl ⟨by rfl, ?_⟩) ?_ ?_
                rotate_left
                · intro w'
                  go_simp
                  with_reducible rfl
                rotate_left
                · simp only [Act.put, List.setIfInBounds_toArray, List.set_cons_zero, List.set_cons_succ, i64_w, i32_w]
                  rfl
                refine pure_ (i := 6) (N := some 50) (v := ?_) (a' := ?_) #[true, true, true, true, true, true, true, false, false, false] rfl rfl (any_of HT_.out (by kernel_rfl)) (fun _ _ _ h => h) (Or.inl ⟨by rfl, ?_⟩) ?_ ?_
                rotate_left
                · intro w'
                  go_simp
                  with_reducible rfl
                rotate_left
                · simp only [Act.put, List.setIfInBounds_toArray, List.set_cons_zero, List.set_cons_succ, i64_w, i32_w]
                  rfl
                refine one_ (i := 7) (N := some 8) #[true, true, true, true, true, true, true, true, false, false] rfl rfl (one_of HT_.out (by kernel_rfl)) (by decide) (fun K hK => ?_)
                refine box_step ?hg (N := 8) ?hd (cs := #[.int .i64 0, .int .i64 0, .string (⟨#[]⟩ : ByteArray)]) (t := 23) ?hr ?_; (case hd => rfl); (case hg => rfl); (case hr => first | (go_simp; done) | (go_simp; rfl))
                intro gb250 hg w30 hbox hb
                have n0_ := Aside0.mk (blk_below (g := gb242) (o := .cells #[.int .i64 t238, .int .i64 t239, .string t240] 23 (0, 0)) (by (with_reducible repeat (first | refine blk_drewN ?_ _ | refine blk_drew ?_ | refine blk_alloc ?_ _)); exact BK242.out) hb)
                have n1_ := Aside0.mk (below_step (by repeat (first | (with_reducible first | exact HB.out | apply below_alloc | apply pw_below_drewN | apply below_drew1 | refine below_set ?_ GE242.out) | exact HB.out)) hb)
                have n2_ := Aside0.mk (hbox)
                have n3_ := Aside0.mk ((by rw [hg]; exact (below_size (by repeat (first | (with_reducible first | exact HB.out | apply below_alloc | apply pw_below_drewN | apply below_drew1 | refine below_set ?_ GE242.out) | exact HB.out))) : w.heap.size ≤ gb250))
                have n4_ := Aside0.mk ((by rw [hg]; exact (below_size (by repeat (first | (with_reducible first | exact HB.out | apply below_alloc | apply pw_below_drewN | apply below_drew1 | refine below_set ?_ GE242.out) | exact HB.out))) : w.heap.size ≤ gb250))
                have n5_ := Aside0.mk ((by rw [hg]; exact Nat.ne_of_lt (blk_lt (g := gb242) (o := .cells #[.int .i64 t238, .int .i64 t239, .string t240] 23 (0, 0)) (by (with_reducible repeat (first | refine blk_drewN ?_ _ | refine blk_drew ?_ | refine blk_alloc ?_ _)); exact BK242.out)) : gb242 ≠ gb250))
                have n6_ := Aside0.mk ((by rw [hg]; exact Nat.ne_of_gt (blk_lt (g := gb242) (o := .cells #[.int .i64 t238, .int .i64 t239, .string t240] 23 (0, 0)) (by (with_reducible repeat (first | refine blk_drewN ?_ _ | refine blk_drew ?_ | refine blk_alloc ?_ _)); exact BK242.out)) : gb250 ≠ gb242))
                clear BK242
                clear HB
                have BK242 := n0_
                have HB := n1_
                have BK250 := n2_
                have GW250 := n3_
                have GE250 := n4_
                have NB242_250 := n5_
                have NB250_242 := n6_
                clear n0_ n1_ n2_ n3_ n4_ n5_ n6_
                clear hb hbox hg
                refine hK.out _ _ ⟨(blk_cell BK242.out 0).trans rfl, (blk_cell BK242.out 1).trans rfl, (blk_cell BK242.out 2).trans rfl⟩ (fun hHeld => ?_)
                clear hK K
                refine norm_ (a' := ?_) ?_ ?_
                rotate_left
                · show Act.put _ (some 8) _ = _
                  simp only [Act.put, List.setIfInBounds_toArray, List.set_cons_zero, List.set_cons_succ, i64_w, i32_w]
                  rfl
                exact norm_ (by simp only [putAll, Act.put, List.setIfInBounds_toArray, List.set_cons_zero, List.set_cons_succ]) (hCont (gb250) _ ⟨hHeld, (by (with_reducible repeat (first | refine blk_drewN ?_ _ | refine blk_drew ?_ | refine blk_alloc ?_ _)); exact BK242.out), (by (with_reducible repeat (first | refine blk_drewN ?_ _ | refine blk_drew ?_ | refine blk_alloc ?_ _)); exact BK250.out), GW250.out, GE250.out, NB242_250.out, NB250_242.out, (by repeat (first | (with_reducible first | exact HB.out | apply below_alloc | apply pw_below_drewN | apply below_drew1 | refine below_set ?_ GE242.out | refine below_set ?_ GE250.out) | exact HB.out))⟩)
              · skip
                refine box_step ?hg (N := 8) ?hd (cs := #[.int .i64 0, .int .i64 0, .string (⟨#[]⟩ : ByteArray)]) (t := 23) ?hr ?_; (case hd => rfl); (case hg => rfl); (case hr => first | (go_simp; done) | (go_simp; rfl))
                intro gb250 hg w29 hbox hb
                have n0_ := Aside0.mk (blk_below (g := gb242) (o := .cells #[.int .i64 t238, .int .i64 t239, .string t240] 23 (0, 0)) (by (with_reducible repeat (first | refine blk_drewN ?_ _ | refine blk_drew ?_ | refine blk_alloc ?_ _)); exact BK242.out) hb)
                have n1_ := Aside0.mk (below_step (by repeat (first | (with_reducible first | exact HB.out | apply below_alloc | apply pw_below_drewN | apply below_drew1 | refine below_set ?_ GE242.out) | exact HB.out)) hb)
                have n2_ := Aside0.mk (hbox)
                have n3_ := Aside0.mk ((by rw [hg]; exact (below_size (by repeat (first | (with_reducible first | exact HB.out | apply below_alloc | apply pw_below_drewN | apply below_drew1 | refine below_set ?_ GE242.out) | exact HB.out))) : w.heap.size ≤ gb250))
                have n4_ := Aside0.mk ((by rw [hg]; exact (below_size (by repeat (first | (with_reducible first | exact HB.out | apply below_alloc | apply pw_below_drewN | apply below_drew1 | refine below_set ?_ GE242.out) | exact HB.out))) : w.heap.size ≤ gb250))
                have n5_ := Aside0.mk ((by rw [hg]; exact Nat.ne_of_lt (blk_lt (g := gb242) (o := .cells #[.int .i64 t238, .int .i64 t239, .string t240] 23 (0, 0)) (by (with_reducible repeat (first | refine blk_drewN ?_ _ | refine blk_drew ?_ | refine blk_alloc ?_ _)); exact BK242.out)) : gb242 ≠ gb250))
                have n6_ := Aside0.mk ((by rw [hg]; exact Nat.ne_of_gt (blk_lt (g := gb242) (o := .cells #[.int .i64 t238, .int .i64 t239, .string t240] 23 (0, 0)) (by (with_reducible repeat (first | refine blk_drewN ?_ _ | refine blk_drew ?_ | refine blk_alloc ?_ _)); exact BK242.out)) : gb250 ≠ gb242))
                clear BK242
                clear HB
                have BK242 := n0_
                have HB := n1_
                have BK250 := n2_
                have GW250 := n3_
                have GE250 := n4_
                have NB242_250 := n5_
                have NB250_242 := n6_
                clear n0_ n1_ n2_ n3_ n4_ n5_ n6_
                clear hb hbox hg
                refine hK.out _ _ ⟨(blk_cell BK242.out 0).trans rfl, (blk_cell BK242.out 1).trans rfl, (blk_cell BK242.out 2).trans rfl⟩ (fun hHeld => ?_)
                clear hK K
                refine norm_ (a' := ?_) ?_ ?_
                rotate_left
                · show Act.put _ (some 8) _ = _
                  simp only [Act.put, List.setIfInBounds_toArray, List.set_cons_zero, List.set_cons_succ, i64_w, i32_w]
                  rfl
                refine one_ (i := 3) (N := some 48) #[true, true, true, true, false, false, false, true, false, false] rfl rfl (one_of HT_.out (by kernel_rfl)) (by decide) (fun K hK => ?_)
                refine goes_ Try.func27 (by kernel_rfl) rfl #[.agg #[.int .i64 t238, .int .i64 t239, .string t240], .agg #[.int .i64 t243, .int .i64 t244, .string t245]] (by rfl) rfl rfl (by (try simp only [List.map_toArray, List.map_cons, List.map_nil]); first | done | rfl | (simp only [List.length_drop, List.length_take]; rfl)) ?_
                with_reducible refine (value_Mul.calls k t238 t239 t240 t243 t244 t245 t246 t247 t248 t249 _ A9.out).mono ?_
                rintro e w30 ⟨rfl, hb⟩
                refine ⟨_, rfl, ?_⟩
                have n0_ := Aside0.mk (blk_below (g := gb242) (o := .cells #[.int .i64 t238, .int .i64 t239, .string t240] 23 (0, 0)) (by (with_reducible repeat (first | refine blk_drewN ?_ _ | refine blk_drew ?_ | refine blk_alloc ?_ _)); exact BK242.out) hb)
                have n1_ := Aside0.mk (blk_below (g := gb250) (o := .cells #[.int .i64 0, .int .i64 0, .string (⟨#[]⟩ : ByteArray)] 23 (0, 0)) (by (with_reducible repeat (first | refine blk_drewN ?_ _ | refine blk_drew ?_ | refine blk_alloc ?_ _)); exact BK250.out) hb)
                have n2_ := Aside0.mk (below_step (by repeat (first | (with_reducible first | exact HB.out | apply below_alloc | apply pw_below_drewN | apply below_drew1 | refine below_set ?_ GE242.out | refine below_set ?_ GE250.out) | exact HB.out)) hb)
                clear BK242
                clear BK250
                clear HB
                have BK242 := n0_
                have BK250 := n1_
                have HB := n2_
                clear n0_ n1_ n2_
                (try clear hb)
                (try clear hb2)
                (try clear hk)
                (try clear hi)
                refine hK.out _ _ ⟨(blk_cell BK242.out 0).trans rfl, (blk_cell BK242.out 1).trans rfl, (blk_cell BK242.out 2).trans rfl⟩ (fun hHeld => ?_)
                clear hK K
                refine norm_ (a' := ?_) ?_ ?_
                rotate_left
                · show Act.put _ (some 48) _ = _
                  simp only [Act.put, List.setIfInBounds_toArray, List.set_cons_zero, List.set_cons_succ, i64_w, i32_w]
                  rfl
                refine pure_ (i := 4) (N := some 44) (v := ?_) (a' := ?_) #[true, true, true, true, true, false, false, true, false, false] rfl rfl (any_of HT_.out (by kernel_rfl)) (fun _ _ _ h => h) (Or.inl ⟨by rfl, ?_⟩) ?_ ?_
                rotate_left
                · intro w'
                  go_simp
                  with_reducible rfl
                rotate_left
                · simp only [Act.put, List.setIfInBounds_toArray, List.set_cons_zero, List.set_cons_succ, i64_w, i32_w]
                  rfl
                refine pure_ (i := 5) (N := some 49) (v := ?_) (a' := ?_) #[true, true, true, true, true, true, false, true, false, false] rfl rfl (any_of HT_.out (by kernel_rfl)) (fun _ _ _ h => h) (Or.inl ⟨by rfl, ?_⟩) ?_ ?_
                rotate_left
                · intro w'
                  go_simp
                  with_reducible rfl
                rotate_left
                · simp only [Act.put, List.setIfInBounds_toArray, List.set_cons_zero, List.set_cons_succ, i64_w, i32_w]
                  rfl
                refine pure_ (i := 6) (N := some 50) (v := ?_) (a' := ?_) #[true, true, true, true, true, true, true, true, false, false] rfl rfl (any_of HT_.out (by kernel_rfl)) (fun _ _ _ h => h) (Or.inl ⟨by rfl, ?_⟩) ?_ ?_
                rotate_left
                · intro w'
                  go_simp
                  with_reducible rfl
                rotate_left
                · simp only [Act.put, List.setIfInBounds_toArray, List.set_cons_zero, List.set_cons_succ, i64_w, i32_w]
                  rfl
                exact norm_ (by simp only [putAll, Act.put, List.setIfInBounds_toArray, List.set_cons_zero, List.set_cons_succ]) (hCont (gb250) _ ⟨hHeld, (by (with_reducible repeat (first | refine blk_drewN ?_ _ | refine blk_drew ?_ | refine blk_alloc ?_ _)); exact BK242.out), (by (with_reducible repeat (first | refine blk_drewN ?_ _ | refine blk_drew ?_ | refine blk_alloc ?_ _)); exact BK250.out), GW250.out, GE250.out, NB242_250.out, NB250_242.out, (by repeat (first | (with_reducible first | exact HB.out | apply below_alloc | apply pw_below_drewN | apply below_drew1 | refine below_set ?_ GE242.out | refine below_set ?_ GE250.out) | exact HB.out))⟩)
            · skip
              refine box_step ?hg (N := 8) ?hd (cs := #[.int .i64 0, .int .i64 0, .string (⟨#[]⟩ : ByteArray)]) (t := 23) ?hr ?_; (case hd => rfl); (case hg => rfl); (case hr => first | (go_simp; done) | (go_simp; rfl))
              intro gb250 hg w28 hbox hb
              have n0_ := Aside0.mk (blk_below (g := gb242) (o := .cells #[.int .i64 t238, .int .i64 t239, .string t240] 23 (0, 0)) (by (with_reducible repeat (first | refine blk_drewN ?_ _ | refine blk_drew ?_ | refine blk_alloc ?_ _)); exact BK242.out) hb)
              have n1_ := Aside0.mk (below_step (by repeat (first | (with_reducible first | exact HB.out | apply below_alloc | apply pw_below_drewN | apply below_drew1 | refine below_set ?_ GE242.out) | exact HB.out)) hb)
              have n2_ := Aside0.mk (hbox)
              have n3_ := Aside0.mk ((by rw [hg]; exact (below_size (by repeat (first | (with_reducible first | exact HB.out | apply below_alloc | apply pw_below_drewN | apply below_drew1 | refine below_set ?_ GE242.out) | exact HB.out))) : w.heap.size ≤ gb250))
              have n4_ := Aside0.mk ((by rw [hg]; exact (below_size (by repeat (first | (with_reducible first | exact HB.out | apply below_alloc | apply pw_below_drewN | apply below_drew1 | refine below_set ?_ GE242.out) | exact HB.out))) : w.heap.size ≤ gb250))
              have n5_ := Aside0.mk ((by rw [hg]; exact Nat.ne_of_lt (blk_lt (g := gb242) (o := .cells #[.int .i64 t238, .int .i64 t239, .string t240] 23 (0, 0)) (by (with_reducible repeat (first | refine blk_drewN ?_ _ | refine blk_drew ?_ | refine blk_alloc ?_ _)); exact BK242.out)) : gb242 ≠ gb250))
              have n6_ := Aside0.mk ((by rw [hg]; exact Nat.ne_of_gt (blk_lt (g := gb242) (o := .cells #[.int .i64 t238, .int .i64 t239, .string t240] 23 (0, 0)) (by (with_reducible repeat (first | refine blk_drewN ?_ _ | refine blk_drew ?_ | refine blk_alloc ?_ _)); exact BK242.out)) : gb250 ≠ gb242))
              clear BK242
              clear HB
              have BK242 := n0_
              have HB := n1_
              have BK250 := n2_
              have GW250 := n3_
              have GE250 := n4_
              have NB242_250 := n5_
              have NB250_242 := n6_
              clear n0_ n1_ n2_ n3_ n4_ n5_ n6_
              clear hb hbox hg
              refine hK.out _ _ ⟨(blk_cell BK242.out 0).trans rfl, (blk_cell BK242.out 1).trans rfl, (blk_cell BK242.out 2).trans rfl⟩ (fun hHeld => ?_)
              clear hK K
              refine norm_ (a' := ?_) ?_ ?_
              rotate_left
              · show Act.put _ (some 8) _ = _
                simp only [Act.put, List.setIfInBounds_toArray, List.set_cons_zero, List.set_cons_succ, i64_w, i32_w]
                rfl
              refine one_ (i := 2) (N := some 47) #[true, true, true, false, false, false, false, true, false, false] rfl rfl (one_of HT_.out (by kernel_rfl)) (by decide) (fun K hK => ?_)
              refine goes_ Try.func26 (by kernel_rfl) rfl #[.int .i64 a1] (by rfl) rfl rfl (by (try simp only [List.map_toArray, List.map_cons, List.map_nil]); first | done | rfl | (simp only [List.length_drop, List.length_take]; rfl)) ?_
              with_reducible refine (weathercocklaw01_n.calls a1 t243 t244 t245 _ A8.out).mono ?_
              rintro e w29 ⟨rfl, hb⟩
              refine ⟨_, rfl, ?_⟩
              have n0_ := Aside0.mk (blk_below (g := gb242) (o := .cells #[.int .i64 t238, .int .i64 t239, .string t240] 23 (0, 0)) (by (with_reducible repeat (first | refine blk_drewN ?_ _ | refine blk_drew ?_ | refine blk_alloc ?_ _)); exact BK242.out) hb)
              have n1_ := Aside0.mk (blk_below (g := gb250) (o := .cells #[.int .i64 0, .int .i64 0, .string (⟨#[]⟩ : ByteArray)] 23 (0, 0)) (by (with_reducible repeat (first | refine blk_drewN ?_ _ | refine blk_drew ?_ | refine blk_alloc ?_ _)); exact BK250.out) hb)
              have n2_ := Aside0.mk (below_step (by repeat (first | (with_reducible first | exact HB.out | apply below_alloc | apply pw_below_drewN | apply below_drew1 | refine below_set ?_ GE242.out | refine below_set ?_ GE250.out) | exact HB.out)) hb)
              clear BK242
              clear BK250
              clear HB
              have BK242 := n0_
              have BK250 := n1_
              have HB := n2_
              clear n0_ n1_ n2_
              (try clear hb)
              (try clear hb2)
              (try clear hk)
              (try clear hi)
              refine hK.out _ _ ⟨(blk_cell BK242.out 0).trans rfl, (blk_cell BK242.out 1).trans rfl, (blk_cell BK242.out 2).trans rfl⟩ (fun hHeld => ?_)
              clear hK K
              refine norm_ (a' := ?_) ?_ ?_
              rotate_left
              · show Act.put _ (some 47) _ = _
                simp only [Act.put, List.setIfInBounds_toArray, List.set_cons_zero, List.set_cons_succ, i64_w, i32_w]
                rfl
              refine one_ (i := 3) (N := some 48) #[true, true, true, true, false, false, false, true, false, false] rfl rfl (one_of HT_.out (by kernel_rfl)) (by decide) (fun K hK => ?_)
              refine goes_ Try.func27 (by kernel_rfl) rfl #[.agg #[.int .i64 t238, .int .i64 t239, .string t240], .agg #[.int .i64 t243, .int .i64 t244, .string t245]] (by rfl) rfl rfl (by (try simp only [List.map_toArray, List.map_cons, List.map_nil]); first | done | rfl | (simp only [List.length_drop, List.length_take]; rfl)) ?_
              with_reducible refine (value_Mul.calls k t238 t239 t240 t243 t244 t245 t246 t247 t248 t249 _ A9.out).mono ?_
              rintro e w30 ⟨rfl, hb⟩
              refine ⟨_, rfl, ?_⟩
              have n0_ := Aside0.mk (blk_below (g := gb242) (o := .cells #[.int .i64 t238, .int .i64 t239, .string t240] 23 (0, 0)) (by (with_reducible repeat (first | refine blk_drewN ?_ _ | refine blk_drew ?_ | refine blk_alloc ?_ _)); exact BK242.out) hb)
              have n1_ := Aside0.mk (blk_below (g := gb250) (o := .cells #[.int .i64 0, .int .i64 0, .string (⟨#[]⟩ : ByteArray)] 23 (0, 0)) (by (with_reducible repeat (first | refine blk_drewN ?_ _ | refine blk_drew ?_ | refine blk_alloc ?_ _)); exact BK250.out) hb)
              have n2_ := Aside0.mk (below_step (by repeat (first | (with_reducible first | exact HB.out | apply below_alloc | apply pw_below_drewN | apply below_drew1 | refine below_set ?_ GE242.out | refine below_set ?_ GE250.out) | exact HB.out)) hb)
              clear BK242
              clear BK250
              clear HB
              have BK242 := n0_
              have BK250 := n1_
              have HB := n2_
              clear n0_ n1_ n2_
              (try clear hb)
              (try clear hb2)
              (try clear hk)
              (try clear hi)
              refine hK.out _ _ ⟨(blk_cell BK242.out 0).trans rfl, (blk_cell BK242.out 1).trans rfl, (blk_cell BK242.out 2).trans rfl⟩ (fun hHeld => ?_)
              clear hK K
              refine norm_ (a' := ?_) ?_ ?_
              rotate_left
              · show Act.put _ (some 48) _ = _
                simp only [Act.put, List.setIfInBounds_toArray, List.set_cons_zero, List.set_cons_succ, i64_w, i32_w]
                rfl
              refine pure_ (i := 4) (N := some 44) (v := ?_) (a' := ?_) #[true, true, true, true, true, false, false, true, false, false] rfl rfl (any_of HT_.out (by kernel_rfl)) (fun _ _ _ h => h) (Or.inl ⟨by rfl, ?_⟩) ?_ ?_
              rotate_left
              · intro w'
                go_simp
                with_reducible rfl
              rotate_left
              · simp only [Act.put, List.setIfInBounds_toArray, List.set_cons_zero, List.set_cons_succ, i64_w, i32_w]
                rfl
              refine pure_ (i := 5) (N := some 49) (v := ?_) (a' := ?_) #[true, true, true, true, true, true, false, true, false, false] rfl rfl (any_of HT_.out (by kernel_rfl)) (fun _ _ _ h => h) (Or.inl ⟨by rfl, ?_⟩) ?_ ?_
              rotate_left
              · intro w'
                go_simp
                with_reducible rfl
              rotate_left
              · simp only [Act.put, List.setIfInBounds_toArray, List.set_cons_zero, List.set_cons_succ, i64_w, i32_w]
                rfl
              refine pure_ (i := 6) (N := some 50) (v := ?_) (a' := ?_) #[true, true, true, true, true, true, true, true, false, false] rfl rfl (any_of HT_.out (by kernel_rfl)) (fun _ _ _ h => h) (Or.inl ⟨by rfl, ?_⟩) ?_ ?_
              rotate_left
              · intro w'
                go_simp
                with_reducible rfl
              rotate_left
              · simp only [Act.put, List.setIfInBounds_toArray, List.set_cons_zero, List.set_cons_succ, i64_w, i32_w]
                rfl
              exact norm_ (by simp only [putAll, Act.put, List.setIfInBounds_toArray, List.set_cons_zero, List.set_cons_succ]) (hCont (gb250) _ ⟨hHeld, (by (with_reducible repeat (first | refine blk_drewN ?_ _ | refine blk_drew ?_ | refine blk_alloc ?_ _)); exact BK242.out), (by (with_reducible repeat (first | refine blk_drewN ?_ _ | refine blk_drew ?_ | refine blk_alloc ?_ _)); exact BK250.out), GW250.out, GE250.out, NB242_250.out, NB250_242.out, (by repeat (first | (with_reducible first | exact HB.out | apply below_alloc | apply pw_below_drewN | apply below_drew1 | refine below_set ?_ GE242.out | refine below_set ?_ GE250.out) | exact HB.out))⟩)
          rintro gb250 w31 ⟨hS_, h0_, h1_, h2_, h3_, h4_, h5_, h6_⟩
          have n0_ : Aside0 (w31.heap[gb242]? = some (.cells #[.int .i64 t238, .int .i64 t239, .string t240] 23 (0, 0))) := ⟨h0_⟩
          have n1_ : Aside0 (w31.heap[gb250]? = some (.cells #[.int .i64 0, .int .i64 0, .string (⟨#[]⟩ : ByteArray)] 23 (0, 0))) := ⟨h1_⟩
          have n2_ : Aside0 (w.heap.size ≤ gb250) := ⟨h2_⟩
          have n3_ : Aside0 (w.heap.size ≤ gb250) := ⟨h3_⟩
          have n4_ : Aside0 (gb242 ≠ gb250) := ⟨h4_⟩
          have n5_ : Aside0 (gb250 ≠ gb242) := ⟨h5_⟩
          have n6_ : Aside0 (Below w.heap.size w w31) := ⟨h6_⟩
          clear BK242
          clear HB
          clear h0_ h1_ h2_ h3_ h4_ h5_ h6_
          have BK242 := n0_
          have BK250 := n1_
          have GW250 := n2_
          have GE250 := n3_
          have NB242_250 := n4_
          have NB250_242 := n5_
          have HB := n6_
          clear n0_ n1_ n2_ n3_ n4_ n5_ n6_
          have hHeld : w31.cell? ⟨gb242, 0, none⟩ = some (.int .i64 t238) ∧ w31.cell? ⟨gb242, 1, none⟩ = some (.int .i64 t239) ∧ w31.cell? ⟨gb242, 2, none⟩ = some (.string t240) := hS_
          refine norm_ (a' := ?_) ?_ ?_
          rotate_left
          · simp only [putAll, Act.put, List.setIfInBounds_toArray, List.set_cons_zero, List.set_cons_succ]
            rfl
          refine one_ (i := 8) (N := none) #[true, true, true, true, true, true, true, true, true, false] rfl rfl (one_of HT_.out (by kernel_rfl)) (by decide) (fun K hK => ?_)
          have hs32 : w31.cell? ⟨gb250, 0, none⟩ = some (.int .i64 0) := (blk_cell BK250.out 0).trans rfl
          have hfs32 := blk_frozen BK250.out 0
          have hns32_0 := NB242_250.out
          have hms32_0 := NB250_242.out
          have hs33 : w31.cell? ⟨gb250, 1, none⟩ = some (.int .i64 0) := (blk_cell BK250.out 1).trans rfl
          have hfs33 := blk_frozen BK250.out 1
          have hns33_0 := NB242_250.out
          have hms33_0 := NB250_242.out
          have hs34 : w31.cell? ⟨gb250, 2, none⟩ = some (.string (⟨#[]⟩ : ByteArray)) := (blk_cell BK250.out 2).trans rfl
          have hfs34 := blk_frozen BK250.out 2
          have hns34_0 := NB242_250.out
          have hms34_0 := NB250_242.out
          refine skip_ (w1 := ?_) (by rfl) rfl ?_ ?_
          rotate_left
          · go_simp
            rfl
          refine hK.out _ _ ⟨((cell_far (p := ⟨gb250, _, none⟩) NB242_250.out _).trans (((cell_far (p := ⟨gb250, _, none⟩) NB242_250.out _).trans (((cell_far (p := ⟨gb250, _, none⟩) NB242_250.out _).trans (hHeld.1)))))), ((cell_far (p := ⟨gb250, _, none⟩) NB242_250.out _).trans (((cell_far (p := ⟨gb250, _, none⟩) NB242_250.out _).trans (((cell_far (p := ⟨gb250, _, none⟩) NB242_250.out _).trans (hHeld.2.1)))))), ((cell_far (p := ⟨gb250, _, none⟩) NB242_250.out _).trans (((cell_far (p := ⟨gb250, _, none⟩) NB242_250.out _).trans (((cell_far (p := ⟨gb250, _, none⟩) NB242_250.out _).trans (hHeld.2.2))))))⟩ (fun hHeld => ?_)
          clear hK K
          refine pure_ (i := 9) (N := some 9) (v := ?_) (a' := ?_) #[true, true, true, true, true, true, true, true, true, true] rfl rfl (any_of HT_.out (by kernel_rfl)) (fun _ _ _ h => h) (Or.inl ⟨by rfl, ?_⟩) ?_ ?_
          rotate_left
          · intro w'
            go_simp
            with_reducible rfl
          rotate_left
          · simp only [Act.put, List.setIfInBounds_toArray, List.set_cons_zero, List.set_cons_succ, i64_w, i32_w]
            rfl
          refine done_ (done_of HT_.out (by kernel_rfl)) ?_
          try go_wp2
          have n0_ : Aside0 ((((w31.setCell ⟨gb250, 0, none⟩ (.int .i64 t246)).setCell ⟨gb250, 1, none⟩ (.int .i64 t247)).setCell ⟨gb250, 2, none⟩ (.string t248)).heap[gb242]? = some (.cells #[.int .i64 t238, .int .i64 t239, .string t240] 23 (0, 0))) := ⟨by (with_reducible repeat (first | refine blk_drewN ?_ _ | refine blk_drew ?_ | refine blk_alloc ?_ _)); refine blk_far ?_ NB242_250.out _; (with_reducible repeat (first | refine blk_drewN ?_ _ | refine blk_drew ?_ | refine blk_alloc ?_ _)); refine blk_far ?_ NB242_250.out _; (with_reducible repeat (first | refine blk_drewN ?_ _ | refine blk_drew ?_ | refine blk_alloc ?_ _)); refine blk_far ?_ NB242_250.out _; (with_reducible repeat (first | refine blk_drewN ?_ _ | refine blk_drew ?_ | refine blk_alloc ?_ _)); exact BK242.out⟩
          have n1_ : Aside0 ((((w31.setCell ⟨gb250, 0, none⟩ (.int .i64 t246)).setCell ⟨gb250, 1, none⟩ (.int .i64 t247)).setCell ⟨gb250, 2, none⟩ (.string t248)).heap[gb250]? = some (.cells #[.int .i64 t246, .int .i64 t247, .string t248] 23 (0, 0))) := ⟨by (with_reducible repeat (first | refine blk_drewN ?_ _ | refine blk_drew ?_ | refine blk_alloc ?_ _)); refine blk_put (cs := #[.int .i64 t246, .int .i64 t247, .string (⟨#[]⟩ : ByteArray)]) ?_ 2 _ rfl; (with_reducible repeat (first | refine blk_drewN ?_ _ | refine blk_drew ?_ | refine blk_alloc ?_ _)); refine blk_put (cs := #[.int .i64 t246, .int .i64 0, .string (⟨#[]⟩ : ByteArray)]) ?_ 1 _ rfl; (with_reducible repeat (first | refine blk_drewN ?_ _ | refine blk_drew ?_ | refine blk_alloc ?_ _)); refine blk_put (cs := #[.int .i64 0, .int .i64 0, .string (⟨#[]⟩ : ByteArray)]) ?_ 0 _ rfl; (with_reducible repeat (first | refine blk_drewN ?_ _ | refine blk_drew ?_ | refine blk_alloc ?_ _)); exact BK250.out⟩
          have n2_ : Aside0 (Below w.heap.size w (((w31.setCell ⟨gb250, 0, none⟩ (.int .i64 t246)).setCell ⟨gb250, 1, none⟩ (.int .i64 t247)).setCell ⟨gb250, 2, none⟩ (.string t248))) := ⟨by repeat (first | (with_reducible first | exact HB.out | apply below_alloc | apply pw_below_drewN | apply below_drew1 | refine below_set ?_ GE242.out | refine below_set ?_ GE250.out) | exact HB.out)⟩
          (try clear BK242)
          (try clear BK250)
          (try clear HB)
          generalize (((w31.setCell ⟨gb250, 0, none⟩ (.int .i64 t246)).setCell ⟨gb250, 1, none⟩ (.int .i64 t247)).setCell ⟨gb250, 2, none⟩ (.string t248)) = w35 at n0_ n1_ n2_ ⊢
          have BK242 := n0_
          have BK250 := n1_
          have HB := n2_
          clear n0_ n1_ n2_
          have n0_ := Aside0.mk (blk_drew BK242.out)
          have n1_ := Aside0.mk (blk_drew BK250.out)
          have n2_ := Aside0.mk (below_drew1 HB.out)
          clear BK242
          clear BK250
          clear HB
          have BK242 := n0_
          have BK250 := n1_
          have HB := n2_
          clear n0_ n1_ n2_
          refine start_ (n := 10) (S := fun w' => w'.cell? ⟨gb250, 0, none⟩ = some (.int .i64 t246) ∧ w'.cell? ⟨gb250, 1, none⟩ = some (.int .i64 t247) ∧ w'.cell? ⟨gb250, 2, none⟩ = some (.string t248)) (ds := []) #[false, false, false, false, false, false, false, false, false, false] (by kernel_rfl) rfl rfl ⟨(blk_cell BK250.out 0).trans rfl, (blk_cell BK250.out 1).trans rfl, (blk_cell BK250.out 2).trans rfl⟩ (fun hHeld => ?_); refine with_tabW weathercocklaw01_ValueRest.tab6 weathercocklaw01_ValueRest.bits6 (fun HT_ HW_ => ?_)
          generalize w35.drew = w36 at BK242 BK250 HB hHeld ⊢
          refine pure_ (i := 0) (N := some 52) (v := ?_) (a' := ?_) #[true, false, false, false, false, false, false, false, false, false] rfl rfl (any_of HT_.out (by kernel_rfl)) (fun _ _ _ h => h) (Or.inl ⟨by rfl, ?_⟩) ?_ ?_
          rotate_left
          · intro w'
            go_simp
            with_reducible rfl
          rotate_left
          · simp only [Act.put, List.setIfInBounds_toArray, List.set_cons_zero, List.set_cons_succ, i64_w, i32_w]
            rfl
          refine take_ (i := 2) (N := some 54) (v := ?_) (a' := ?_) #[true, false, true, false, false, false, false, false, false, false] rfl rfl (take_ofW HT_.out HW_.out (by kernel_rfl)) (fun _ _ _ h => h) (Or.inl ⟨by rfl, ?_⟩) hHeld ?_ ?_
          rotate_left
          · rintro w' ⟨s0, s1, s2⟩
            go_simp
            with_reducible rfl
          rotate_left
          · simp only [Act.put, List.setIfInBounds_toArray, List.set_cons_zero, List.set_cons_succ, i64_w, i32_w]
            rfl
          refine join_ (σ := Nat) 2 #[true, true, true, true, true, true, true, true, false, false] (fun s_ => [(53, .agg #[.int .i64 t251, .int .i64 t252, .string t253]), (55, .tuple #[.agg #[.int .i64 t254, .int .i64 t255, .string t256], .int .i64 t257]), (10, .pointer (some ⟨s_, 0, none⟩)), (51, .tuple #[.agg #[.int .i64 t254, .int .i64 t255, .string t256], .int .i64 t257]), (56, .agg #[.int .i64 t254, .int .i64 t255, .string t256]), (57, .int .i64 t257)]) (fun s_ w' => (w'.cell? ⟨gb250, 0, none⟩ = some (.int .i64 t246) ∧ w'.cell? ⟨gb250, 1, none⟩ = some (.int .i64 t247) ∧ w'.cell? ⟨gb250, 2, none⟩ = some (.string t248)) ∧ (w'.heap[gb242]? = some (.cells #[.int .i64 t238, .int .i64 t239, .string t240] 23 (0, 0))) ∧ (w'.heap[gb250]? = some (.cells #[.int .i64 t246, .int .i64 t247, .string t248] 23 (0, 0))) ∧ (w'.heap[s_]? = some (.cells #[.int .i64 0, .int .i64 0, .string (⟨#[]⟩ : ByteArray)] 23 (0, 0))) ∧ (w.heap.size ≤ s_) ∧ (w.heap.size ≤ s_) ∧ (gb242 ≠ s_) ∧ (s_ ≠ gb242) ∧ (gb250 ≠ s_) ∧ (s_ ≠ gb250) ∧ (Below w.heap.size w w')) ?_ ?_
          rotate_left
          · intro hCont
            refine two_ (i := 1) (j := 7) (Ni := some 53) (Nj := some 10) #[true, true, true, false, false, false, false, false, false, false] #[true, false, true, false, false, false, false, true, false, false] rfl rfl rfl rfl (two_of HT_.out (by kernel_rfl)) (by decide) (by decide) (fun K hK => ?_) (fun K hK => ?_)
            · skip
              refine goes_ Try.func26 (by kernel_rfl) rfl #[.int .i64 a0] (by rfl) rfl rfl (by (try simp only [List.map_toArray, List.map_cons, List.map_nil]); first | done | rfl | (simp only [List.length_drop, List.length_take]; rfl)) ?_
              with_reducible refine (weathercocklaw01_n.calls a0 t251 t252 t253 _ A10.out).mono ?_
              rintro e w37 ⟨rfl, hb⟩
              refine ⟨_, rfl, ?_⟩
              have n0_ := Aside0.mk (blk_below (g := gb242) (o := .cells #[.int .i64 t238, .int .i64 t239, .string t240] 23 (0, 0)) (by (with_reducible repeat (first | refine blk_drewN ?_ _ | refine blk_drew ?_ | refine blk_alloc ?_ _)); exact BK242.out) hb)
              have n1_ := Aside0.mk (blk_below (g := gb250) (o := .cells #[.int .i64 t246, .int .i64 t247, .string t248] 23 (0, 0)) (by (with_reducible repeat (first | refine blk_drewN ?_ _ | refine blk_drew ?_ | refine blk_alloc ?_ _)); exact BK250.out) hb)
              have n2_ := Aside0.mk (below_step (by repeat (first | (with_reducible first | exact HB.out | apply below_alloc | apply pw_below_drewN | apply below_drew1 | refine below_set ?_ GE242.out | refine below_set ?_ GE250.out) | exact HB.out)) hb)
              clear BK242
              clear BK250
              clear HB
              have BK242 := n0_
              have BK250 := n1_
              have HB := n2_
              clear n0_ n1_ n2_
              (try clear hb)
              (try clear hb2)
              (try clear hk)
              (try clear hi)
              refine hK.out _ _ ⟨(blk_cell BK250.out 0).trans rfl, (blk_cell BK250.out 1).trans rfl, (blk_cell BK250.out 2).trans rfl⟩ (fun hHeld => ?_)
              clear hK K
              refine norm_ (a' := ?_) ?_ ?_
              rotate_left
              · show Act.put _ (some 53) _ = _
                simp only [Act.put, List.setIfInBounds_toArray, List.set_cons_zero, List.set_cons_succ, i64_w, i32_w]
                rfl
              refine two_ (i := 3) (j := 7) (Ni := some 55) (Nj := some 10) #[true, true, true, true, false, false, false, false, false, false] #[true, true, true, false, false, false, false, true, false, false] rfl rfl rfl rfl (two_of HT_.out (by kernel_rfl)) (by decide) (by decide) (fun K hK => ?_) (fun K hK => ?_)
              · skip
                refine goes_ Try.func28 (by kernel_rfl) rfl #[.agg #[.int .i64 t251, .int .i64 t252, .string t253], .agg #[.int .i64 t246, .int .i64 t247, .string t248]] (by rfl) rfl rfl (by (try simp only [List.map_toArray, List.map_cons, List.map_nil]); first | done | rfl | (simp only [List.length_drop, List.length_take]; rfl)) ?_
                with_reducible refine (value_Sub.calls k t251 t252 t253 t246 t247 t248 t254 t255 t256 t257 _ A11.out).mono ?_
                rintro e w38 ⟨rfl, hb⟩
                refine ⟨_, rfl, ?_⟩
                have n0_ := Aside0.mk (blk_below (g := gb242) (o := .cells #[.int .i64 t238, .int .i64 t239, .string t240] 23 (0, 0)) (by (with_reducible repeat (first | refine blk_drewN ?_ _ | refine blk_drew ?_ | refine blk_alloc ?_ _)); exact BK242.out) hb)
                have n1_ := Aside0.mk (blk_below (g := gb250) (o := .cells #[.int .i64 t246, .int .i64 t247, .string t248] 23 (0, 0)) (by (with_reducible repeat (first | refine blk_drewN ?_ _ | refine blk_drew ?_ | refine blk_alloc ?_ _)); exact BK250.out) hb)
                have n2_ := Aside0.mk (below_step (by repeat (first | (with_reducible first | exact HB.out | apply below_alloc | apply pw_below_drewN | apply below_drew1 | refine below_set ?_ GE242.out | refine below_set ?_ GE250.out) | exact HB.out)) hb)
                clear BK242
                clear BK250
                clear HB
                have BK242 := n0_
                have BK250 := n1_
                have HB := n2_
                clear n0_ n1_ n2_
                (try clear hb)
                (try clear hb2)
                (try clear hk)
                (try clear hi)
                refine hK.out _ _ ⟨(blk_cell BK250.out 0).trans rfl, (blk_cell BK250.out 1).trans rfl, (blk_cell BK250.out 2).trans rfl⟩ (fun hHeld => ?_)
                clear hK K
                refine norm_ (a' := ?_) ?_ ?_
                rotate_left
                · show Act.put _ (some 55) _ = _
                  simp only [Act.put, List.setIfInBounds_toArray, List.set_cons_zero, List.set_cons_succ, i64_w, i32_w]
                  rfl
                refine pure_ (i := 4) (N := some 51) (v := ?_) (a' := ?_) #[true, true, true, true, true, false, false, false, false, false] rfl rfl (any_of HT_.out (by kernel_rfl)) (fun _ _ _ h => h) (Or.inl ⟨by rfl, ?_⟩) ?_ ?_
                rotate_left
                · intro w'
                  go_simp
                  with_reducible rfl
                rotate_left
                · simp only [Act.put, List.setIfInBounds_toArray, List.set_cons_zero, List.set_cons_succ, i64_w, i32_w]
                  rfl
                refine pure_ (i := 5) (N := some 56) (v := ?_) (a' := ?_) #[true, true, true, true, true, true, false, false, false, false] rfl rfl (any_of HT_.out (by kernel_rfl)) (fun _ _ _ h => h) (Or.inl ⟨by rfl, ?_⟩) ?_ ?_
                rotate_left
                · intro w'
                  go_simp
                  with_reducible rfl
                rotate_left
                · simp only [Act.put, List.setIfInBounds_toArray, List.set_cons_zero, List.set_cons_succ, i64_w, i32_w]
                  rfl
                refine pure_ (i := 6) (N := some 57) (v := ?_) (a' := ?_) #[true, true, true, true, true, true, true, false, false, false] rfl rfl (any_of HT_.out (by kernel_rfl)) (fun _ _ _ h => h) (Or.inl ⟨by rfl, ?_⟩) ?_ ?_
                rotate_left
                · intro w'
                  go_simp
                  with_reducible rfl
                rotate_left
                · simp only [Act.put, List.setIfInBounds_toArray, List.set_cons_zero, List.set_cons_succ, i64_w, i32_w]
                  rfl
                refine one_ (i := 7) (N := some 10) #[true, true, true, true, true, true, true, true, false, false] rfl rfl (one_of HT_.out (by kernel_rfl)) (by decide) (fun K hK => ?_)
                refine box_step ?hg (N := 10) ?hd (cs := #[.int .i64 0, .int .i64 0, .string (⟨#[]⟩ : ByteArray)]) (t := 23) ?hr ?_; (case hd => rfl); (case hg => rfl); (case hr => first | (go_simp; done) | (go_simp; rfl))
                intro gb258 hg w39 hbox hb
                have n0_ := Aside0.mk (blk_below (g := gb242) (o := .cells #[.int .i64 t238, .int .i64 t239, .string t240] 23 (0, 0)) (by (with_reducible repeat (first | refine blk_drewN ?_ _ | refine blk_drew ?_ | refine blk_alloc ?_ _)); exact BK242.out) hb)
                have n1_ := Aside0.mk (blk_below (g := gb250) (o := .cells #[.int .i64 t246, .int .i64 t247, .string t248] 23 (0, 0)) (by (with_reducible repeat (first | refine blk_drewN ?_ _ | refine blk_drew ?_ | refine blk_alloc ?_ _)); exact BK250.out) hb)
                have n2_ := Aside0.mk (below_step (by repeat (first | (with_reducible first | exact HB.out | apply below_alloc | apply pw_below_drewN | apply below_drew1 | refine below_set ?_ GE242.out | refine below_set ?_ GE250.out) | exact HB.out)) hb)
                have n3_ := Aside0.mk (hbox)
                have n4_ := Aside0.mk ((by rw [hg]; exact (below_size (by repeat (first | (with_reducible first | exact HB.out | apply below_alloc | apply pw_below_drewN | apply below_drew1 | refine below_set ?_ GE242.out | refine below_set ?_ GE250.out) | exact HB.out))) : w.heap.size ≤ gb258))
                have n5_ := Aside0.mk ((by rw [hg]; exact (below_size (by repeat (first | (with_reducible first | exact HB.out | apply below_alloc | apply pw_below_drewN | apply below_drew1 | refine below_set ?_ GE242.out | refine below_set ?_ GE250.out) | exact HB.out))) : w.heap.size ≤ gb258))
                have n6_ := Aside0.mk ((by rw [hg]; exact Nat.ne_of_lt (blk_lt (g := gb242) (o := .cells #[.int .i64 t238, .int .i64 t239, .string t240] 23 (0, 0)) (by (with_reducible repeat (first | refine blk_drewN ?_ _ | refine blk_drew ?_ | refine blk_alloc ?_ _)); exact BK242.out)) : gb242 ≠ gb258))
                have n7_ := Aside0.mk ((by rw [hg]; exact Nat.ne_of_gt (blk_lt (g := gb242) (o := .cells #[.int .i64 t238, .int .i64 t239, .string t240] 23 (0, 0)) (by (with_reducible repeat (first | refine blk_drewN ?_ _ | refine blk_drew ?_ | refine blk_alloc ?_ _)); exact BK242.out)) : gb258 ≠ gb242))
                have n8_ := Aside0.mk ((by rw [hg]; exact Nat.ne_of_lt (blk_lt (g := gb250) (o := .cells #[.int .i64 t246, .int .i64 t247, .string t248] 23 (0, 0)) (by (with_reducible repeat (first | refine blk_drewN ?_ _ | refine blk_drew ?_ | refine blk_alloc ?_ _)); exact BK250.out)) : gb250 ≠ gb258))
                have n9_ := Aside0.mk ((by rw [hg]; exact Nat.ne_of_gt (blk_lt (g := gb250) (o := .cells #[.int .i64 t246, .int .i64 t247, .string t248] 23 (0, 0)) (by (with_reducible repeat (first | refine blk_drewN ?_ _ | refine blk_drew ?_ | refine blk_alloc ?_ _)); exact BK250.out)) : gb258 ≠ gb250))
                clear BK242
                clear BK250
                clear HB
                have BK242 := n0_
                have BK250 := n1_
                have HB := n2_
                have BK258 := n3_
                have GW258 := n4_
                have GE258 := n5_
                have NB242_258 := n6_
                have NB258_242 := n7_
                have NB250_258 := n8_
                have NB258_250 := n9_
                clear n0_ n1_ n2_ n3_ n4_ n5_ n6_ n7_ n8_ n9_
                clear hb hbox hg
                refine hK.out _ _ ⟨(blk_cell BK250.out 0).trans rfl, (blk_cell BK250.out 1).trans rfl, (blk_cell BK250.out 2).trans rfl⟩ (fun hHeld => ?_)
                clear hK K
                refine norm_ (a' := ?_) ?_ ?_
                rotate_left
                · show Act.put _ (some 10) _ = _
                  simp only [Act.put, List.setIfInBounds_toArray, List.set_cons_zero, List.set_cons_succ, i64_w, i32_w]
                  rfl
                exact norm_ (by simp only [putAll, Act.put, List.setIfInBounds_toArray, List.set_cons_zero, List.set_cons_succ]) (hCont (gb258) _ ⟨hHeld, (by (with_reducible repeat (first | refine blk_drewN ?_ _ | refine blk_drew ?_ | refine blk_alloc ?_ _)); exact BK242.out), (by (with_reducible repeat (first | refine blk_drewN ?_ _ | refine blk_drew ?_ | refine blk_alloc ?_ _)); exact BK250.out), (by (with_reducible repeat (first | refine blk_drewN ?_ _ | refine blk_drew ?_ | refine blk_alloc ?_ _)); exact BK258.out), GW258.out, GE258.out, NB242_258.out, NB258_242.out, NB250_258.out, NB258_250.out, (by repeat (first | (with_reducible first | exact HB.out | apply below_alloc | apply pw_below_drewN | apply below_drew1 | refine below_set ?_ GE242.out | refine below_set ?_ GE250.out | refine below_set ?_ GE258.out) | exact HB.out))⟩)
              · skip
                refine box_step ?hg (N := 10) ?hd (cs := #[.int .i64 0, .int .i64 0, .string (⟨#[]⟩ : ByteArray)]) (t := 23) ?hr ?_; (case hd => rfl); (case hg => rfl); (case hr => first | (go_simp; done) | (go_simp; rfl))
                intro gb258 hg w38 hbox hb
                have n0_ := Aside0.mk (blk_below (g := gb242) (o := .cells #[.int .i64 t238, .int .i64 t239, .string t240] 23 (0, 0)) (by (with_reducible repeat (first | refine blk_drewN ?_ _ | refine blk_drew ?_ | refine blk_alloc ?_ _)); exact BK242.out) hb)
                have n1_ := Aside0.mk (blk_below (g := gb250) (o := .cells #[.int .i64 t246, .int .i64 t247, .string t248] 23 (0, 0)) (by (with_reducible repeat (first | refine blk_drewN ?_ _ | refine blk_drew ?_ | refine blk_alloc ?_ _)); exact BK250.out) hb)
                have n2_ := Aside0.mk (below_step (by repeat (first | (with_reducible first | exact HB.out | apply below_alloc | apply pw_below_drewN | apply below_drew1 | refine below_set ?_ GE242.out | refine below_set ?_ GE250.out) | exact HB.out)) hb)
                have n3_ := Aside0.mk (hbox)
                have n4_ := Aside0.mk ((by rw [hg]; exact (below_size (by repeat (first | (with_reducible first | exact HB.out | apply below_alloc | apply pw_below_drewN | apply below_drew1 | refine below_set ?_ GE242.out | refine below_set ?_ GE250.out) | exact HB.out))) : w.heap.size ≤ gb258))
                have n5_ := Aside0.mk ((by rw [hg]; exact (below_size (by repeat (first | (with_reducible first | exact HB.out | apply below_alloc | apply pw_below_drewN | apply below_drew1 | refine below_set ?_ GE242.out | refine below_set ?_ GE250.out) | exact HB.out))) : w.heap.size ≤ gb258))
                have n6_ := Aside0.mk ((by rw [hg]; exact Nat.ne_of_lt (blk_lt (g := gb242) (o := .cells #[.int .i64 t238, .int .i64 t239, .string t240] 23 (0, 0)) (by (with_reducible repeat (first | refine blk_drewN ?_ _ | refine blk_drew ?_ | refine blk_alloc ?_ _)); exact BK242.out)) : gb242 ≠ gb258))
                have n7_ := Aside0.mk ((by rw [hg]; exact Nat.ne_of_gt (blk_lt (g := gb242) (o := .cells #[.int .i64 t238, .int .i64 t239, .string t240] 23 (0, 0)) (by (with_reducible repeat (first | refine blk_drewN ?_ _ | refine blk_drew ?_ | refine blk_alloc ?_ _)); exact BK242.out)) : gb258 ≠ gb242))
                have n8_ := Aside0.mk ((by rw [hg]; exact Nat.ne_of_lt (blk_lt (g := gb250) (o := .cells #[.int .i64 t246, .int .i64 t247, .string t248] 23 (0, 0)) (by (with_reducible repeat (first | refine blk_drewN ?_ _ | refine blk_drew ?_ | refine blk_alloc ?_ _)); exact BK250.out)) : gb250 ≠ gb258))
                have n9_ := Aside0.mk ((by rw [hg]; exact Nat.ne_of_gt (blk_lt (g := gb250) (o := .cells #[.int .i64 t246, .int .i64 t247, .string t248] 23 (0, 0)) (by (with_reducible repeat (first | refine blk_drewN ?_ _ | refine blk_drew ?_ | refine blk_alloc ?_ _)); exact BK250.out)) : gb258 ≠ gb250))
                clear BK242
                clear BK250
                clear HB
                have BK242 := n0_
                have BK250 := n1_
                have HB := n2_
                have BK258 := n3_
                have GW258 := n4_
                have GE258 := n5_
                have NB242_258 := n6_
                have NB258_242 := n7_
                have NB250_258 := n8_
                have NB258_250 := n9_
                clear n0_ n1_ n2_ n3_ n4_ n5_ n6_ n7_ n8_ n9_
                clear hb hbox hg
                refine hK.out _ _ ⟨(blk_cell BK250.out 0).trans rfl, (blk_cell BK250.out 1).trans rfl, (blk_cell BK250.out 2).trans rfl⟩ (fun hHeld => ?_)
                clear hK K
                refine norm_ (a' := ?_) ?_ ?_
                rotate_left
                · show Act.put _ (some 10) _ = _
                  simp only [Act.put, List.setIfInBounds_toArray, List.set_cons_zero, List.set_cons_succ, i64_w, i32_w]
                  rfl
                refine one_ (i := 3) (N := some 55) #[true, true, true, true, false, false, false, true, false, false] rfl rfl (one_of HT_.out (by kernel_rfl)) (by decide) (fun K hK => ?_)
                refine goes_ Try.func28 (by kernel_rfl) rfl #[.agg #[.int .i64 t251, .int .i64 t252, .string t253], .agg #[.int .i64 t246, .int .i64 t247, .string t248]] (by rfl) rfl rfl (by (try simp only [List.map_toArray, List.map_cons, List.map_nil]); first | done | rfl | (simp only [List.length_drop, List.length_take]; rfl)) ?_
                with_reducible refine (value_Sub.calls k t251 t252 t253 t246 t247 t248 t254 t255 t256 t257 _ A11.out).mono ?_
                rintro e w39 ⟨rfl, hb⟩
                refine ⟨_, rfl, ?_⟩
                have n0_ := Aside0.mk (blk_below (g := gb242) (o := .cells #[.int .i64 t238, .int .i64 t239, .string t240] 23 (0, 0)) (by (with_reducible repeat (first | refine blk_drewN ?_ _ | refine blk_drew ?_ | refine blk_alloc ?_ _)); exact BK242.out) hb)
                have n1_ := Aside0.mk (blk_below (g := gb250) (o := .cells #[.int .i64 t246, .int .i64 t247, .string t248] 23 (0, 0)) (by (with_reducible repeat (first | refine blk_drewN ?_ _ | refine blk_drew ?_ | refine blk_alloc ?_ _)); exact BK250.out) hb)
                have n2_ := Aside0.mk (blk_below (g := gb258) (o := .cells #[.int .i64 0, .int .i64 0, .string (⟨#[]⟩ : ByteArray)] 23 (0, 0)) (by (with_reducible repeat (first | refine blk_drewN ?_ _ | refine blk_drew ?_ | refine blk_alloc ?_ _)); exact BK258.out) hb)
                have n3_ := Aside0.mk (below_step (by repeat (first | (with_reducible first | exact HB.out | apply below_alloc | apply pw_below_drewN | apply below_drew1 | refine below_set ?_ GE242.out | refine below_set ?_ GE250.out | refine below_set ?_ GE258.out) | exact HB.out)) hb)
                clear BK242
                clear BK250
                clear BK258
                clear HB
                have BK242 := n0_
                have BK250 := n1_
                have BK258 := n2_
                have HB := n3_
                clear n0_ n1_ n2_ n3_
                (try clear hb)
                (try clear hb2)
                (try clear hk)
                (try clear hi)
                refine hK.out _ _ ⟨(blk_cell BK250.out 0).trans rfl, (blk_cell BK250.out 1).trans rfl, (blk_cell BK250.out 2).trans rfl⟩ (fun hHeld => ?_)
                clear hK K
                refine norm_ (a' := ?_) ?_ ?_
                rotate_left
                · show Act.put _ (some 55) _ = _
                  simp only [Act.put, List.setIfInBounds_toArray, List.set_cons_zero, List.set_cons_succ, i64_w, i32_w]
                  rfl
                refine pure_ (i := 4) (N := some 51) (v := ?_) (a' := ?_) #[true, true, true, true, true, false, false, true, false, false] rfl rfl (any_of HT_.out (by kernel_rfl)) (fun _ _ _ h => h) (Or.inl ⟨by rfl, ?_⟩) ?_ ?_
                rotate_left
                · intro w'
                  go_simp
                  with_reducible rfl
                rotate_left
                · simp only [Act.put, List.setIfInBounds_toArray, List.set_cons_zero, List.set_cons_succ, i64_w, i32_w]
                  rfl
                refine pure_ (i := 5) (N := some 56) (v := ?_) (a' := ?_) #[true, true, true, true, true, true, false, true, false, false] rfl rfl (any_of HT_.out (by kernel_rfl)) (fun _ _ _ h => h) (Or.inl ⟨by rfl, ?_⟩) ?_ ?_
                rotate_left
                · intro w'
                  go_simp
                  with_reducible rfl
                rotate_left
                · simp only [Act.put, List.setIfInBounds_toArray, List.set_cons_zero, List.set_cons_succ, i64_w, i32_w]
                  rfl
                refine pure_ (i := 6) (N := some 57) (v := ?_) (a' := ?_) #[true, true, true, true, true, true, true, true, false, false] rfl rfl (any_of HT_.out (by kernel_rfl)) (fun _ _ _ h => h) (Or.inl ⟨by rfl, ?_⟩) ?_ ?_
                rotate_left
                · intro w'
                  go_simp
                  with_reducible rfl
                rotate_left
                · simp only [Act.put, List.setIfInBounds_toArray, List.set_cons_zero, List.set_cons_succ, i64_w, i32_w]
                  rfl
                exact norm_ (by simp only [putAll, Act.put, List.setIfInBounds_toArray, List.set_cons_zero, List.set_cons_succ]) (hCont (gb258) _ ⟨hHeld, (by (with_reducible repeat (first | refine blk_drewN ?_ _ | refine blk_drew ?_ | refine blk_alloc ?_ _)); exact BK242.out), (by (with_reducible repeat (first | refine blk_drewN ?_ _ | refine blk_drew ?_ | refine blk_alloc ?_ _)); exact BK250.out), (by (with_reducible repeat (first | refine blk_drewN ?_ _ | refine blk_drew ?_ | refine blk_alloc ?_ _)); exact BK258.out), GW258.out, GE258.out, NB242_258.out, NB258_242.out, NB250_258.out, NB258_250.out, (by repeat (first | (with_reducible first | exact HB.out | apply below_alloc | apply pw_below_drewN | apply below_drew1 | refine below_set ?_ GE242.out | refine below_set ?_ GE250.out | refine below_set ?_ GE258.out) | exact HB.out))⟩)
            · skip
              refine box_step ?hg (N := 10) ?hd (cs := #[.int .i64 0, .int .i64 0, .string (⟨#[]⟩ : ByteArray)]) (t := 23) ?hr ?_; (case hd => rfl); (case hg => rfl); (case hr => first | (go_simp; done) | (go_simp; rfl))
              intro gb258 hg w37 hbox hb
              have n0_ := Aside0.mk (blk_below (g := gb242) (o := .cells #[.int .i64 t238, .int .i64 t239, .string t240] 23 (0, 0)) (by (with_reducible repeat (first | refine blk_drewN ?_ _ | refine blk_drew ?_ | refine blk_alloc ?_ _)); exact BK242.out) hb)
              have n1_ := Aside0.mk (blk_below (g := gb250) (o := .cells #[.int .i64 t246, .int .i64 t247, .string t248] 23 (0, 0)) (by (with_reducible repeat (first | refine blk_drewN ?_ _ | refine blk_drew ?_ | refine blk_alloc ?_ _)); exact BK250.out) hb)
              have n2_ := Aside0.mk (below_step (by repeat (first | (with_reducible first | exact HB.out | apply below_alloc | apply pw_below_drewN | apply below_drew1 | refine below_set ?_ GE242.out | refine below_set ?_ GE250.out) | exact HB.out)) hb)
              have n3_ := Aside0.mk (hbox)
              have n4_ := Aside0.mk ((by rw [hg]; exact (below_size (by repeat (first | (with_reducible first | exact HB.out | apply below_alloc | apply pw_below_drewN | apply below_drew1 | refine below_set ?_ GE242.out | refine below_set ?_ GE250.out) | exact HB.out))) : w.heap.size ≤ gb258))
              have n5_ := Aside0.mk ((by rw [hg]; exact (below_size (by repeat (first | (with_reducible first | exact HB.out | apply below_alloc | apply pw_below_drewN | apply below_drew1 | refine below_set ?_ GE242.out | refine below_set ?_ GE250.out) | exact HB.out))) : w.heap.size ≤ gb258))
              have n6_ := Aside0.mk ((by rw [hg]; exact Nat.ne_of_lt (blk_lt (g := gb242) (o := .cells #[.int .i64 t238, .int .i64 t239, .string t240] 23 (0, 0)) (by (with_reducible repeat (first | refine blk_drewN ?_ _ | refine blk_drew ?_ | refine blk_alloc ?_ _)); exact BK242.out)) : gb242 ≠ gb258))
              have n7_ := Aside0.mk ((by rw [hg]; exact Nat.ne_of_gt (blk_lt (g := gb242) (o := .cells #[.int .i64 t238, .int .i64 t239, .string t240] 23 (0, 0)) (by (with_reducible repeat (first | refine blk_drewN ?_ _ | refine blk_drew ?_ | refine blk_alloc ?_ _)); exact BK242.out)) : gb258 ≠ gb242))
              have n8_ := Aside0.mk ((by rw [hg]; exact Nat.ne_of_lt (blk_lt (g := gb250) (o := .cells #[.int .i64 t246, .int .i64 t247, .string t248] 23 (0, 0)) (by (with_reducible repeat (first | refine blk_drewN ?_ _ | refine blk_drew ?_ | refine blk_alloc ?_ _)); exact BK250.out)) : gb250 ≠ gb258))
              have n9_ := Aside0.mk ((by rw [hg]; exact Nat.ne_of_gt (blk_lt (g := gb250) (o := .cells #[.int .i64 t246, .int .i64 t247, .string t248] 23 (0, 0)) (by (with_reducible repeat (first | refine blk_drewN ?_ _ | refine blk_drew ?_ | refine blk_alloc ?_ _)); exact BK250.out)) : gb258 ≠ gb250))
              clear BK242
              clear BK250
              clear HB
              have BK242 := n0_
              have BK250 := n1_
              have HB := n2_
              have BK258 := n3_
              have GW258 := n4_
              have GE258 := n5_
              have NB242_258 := n6_
              have NB258_242 := n7_
              have NB250_258 := n8_
              have NB258_250 := n9_
              clear n0_ n1_ n2_ n3_ n4_ n5_ n6_ n7_ n8_ n9_
              clear hb hbox hg
              refine hK.out _ _ ⟨(blk_cell BK250.out 0).trans rfl, (blk_cell BK250.out 1).trans rfl, (blk_cell BK250.out 2).trans rfl⟩ (fun hHeld => ?_)
              clear hK K
              refine norm_ (a' := ?_) ?_ ?_
              rotate_left
              · show Act.put _ (some 10) _ = _
                simp only [Act.put, List.setIfInBounds_toArray, List.set_cons_zero, List.set_cons_succ, i64_w, i32_w]
                rfl
              refine one_ (i := 1) (N := some 53) #[true, true, true, false, false, false, false, true, false, false] rfl rfl (one_of HT_.out (by kernel_rfl)) (by decide) (fun K hK => ?_)
              refine goes_ Try.func26 (by kernel_rfl) rfl #[.int .i64 a0] (by rfl) rfl rfl (by (try simp only [List.map_toArray, List.map_cons, List.map_nil]); first | done | rfl | (simp only [List.length_drop, List.length_take]; rfl)) ?_
              with_reducible refine (weathercocklaw01_n.calls a0 t251 t252 t253 _ A10.out).mono ?_
              rintro e w38 ⟨rfl, hb⟩
              refine ⟨_, rfl, ?_⟩
              have n0_ := Aside0.mk (blk_below (g := gb242) (o := .cells #[.int .i64 t238, .int .i64 t239, .string t240] 23 (0, 0)) (by (with_reducible repeat (first | refine blk_drewN ?_ _ | refine blk_drew ?_ | refine blk_alloc ?_ _)); exact BK242.out) hb)
              have n1_ := Aside0.mk (blk_below (g := gb250) (o := .cells #[.int .i64 t246, .int .i64 t247, .string t248] 23 (0, 0)) (by (with_reducible repeat (first | refine blk_drewN ?_ _ | refine blk_drew ?_ | refine blk_alloc ?_ _)); exact BK250.out) hb)
              have n2_ := Aside0.mk (blk_below (g := gb258) (o := .cells #[.int .i64 0, .int .i64 0, .string (⟨#[]⟩ : ByteArray)] 23 (0, 0)) (by (with_reducible repeat (first | refine blk_drewN ?_ _ | refine blk_drew ?_ | refine blk_alloc ?_ _)); exact BK258.out) hb)
              have n3_ := Aside0.mk (below_step (by repeat (first | (with_reducible first | exact HB.out | apply below_alloc | apply pw_below_drewN | apply below_drew1 | refine below_set ?_ GE242.out | refine below_set ?_ GE250.out | refine below_set ?_ GE258.out) | exact HB.out)) hb)
              clear BK242
              clear BK250
              clear BK258
              clear HB
              have BK242 := n0_
              have BK250 := n1_
              have BK258 := n2_
              have HB := n3_
              clear n0_ n1_ n2_ n3_
              (try clear hb)
              (try clear hb2)
              (try clear hk)
              (try clear hi)
              refine hK.out _ _ ⟨(blk_cell BK250.out 0).trans rfl, (blk_cell BK250.out 1).trans rfl, (blk_cell BK250.out 2).trans rfl⟩ (fun hHeld => ?_)
              clear hK K
              refine norm_ (a' := ?_) ?_ ?_
              rotate_left
              · show Act.put _ (some 53) _ = _
                simp only [Act.put, List.setIfInBounds_toArray, List.set_cons_zero, List.set_cons_succ, i64_w, i32_w]
                rfl
              refine one_ (i := 3) (N := some 55) #[true, true, true, true, false, false, false, true, false, false] rfl rfl (one_of HT_.out (by kernel_rfl)) (by decide) (fun K hK => ?_)
              refine goes_ Try.func28 (by kernel_rfl) rfl #[.agg #[.int .i64 t251, .int .i64 t252, .string t253], .agg #[.int .i64 t246, .int .i64 t247, .string t248]] (by rfl) rfl rfl (by (try simp only [List.map_toArray, List.map_cons, List.map_nil]); first | done | rfl | (simp only [List.length_drop, List.length_take]; rfl)) ?_
              with_reducible refine (value_Sub.calls k t251 t252 t253 t246 t247 t248 t254 t255 t256 t257 _ A11.out).mono ?_
              rintro e w39 ⟨rfl, hb⟩
              refine ⟨_, rfl, ?_⟩
              have n0_ := Aside0.mk (blk_below (g := gb242) (o := .cells #[.int .i64 t238, .int .i64 t239, .string t240] 23 (0, 0)) (by (with_reducible repeat (first | refine blk_drewN ?_ _ | refine blk_drew ?_ | refine blk_alloc ?_ _)); exact BK242.out) hb)
              have n1_ := Aside0.mk (blk_below (g := gb250) (o := .cells #[.int .i64 t246, .int .i64 t247, .string t248] 23 (0, 0)) (by (with_reducible repeat (first | refine blk_drewN ?_ _ | refine blk_drew ?_ | refine blk_alloc ?_ _)); exact BK250.out) hb)
              have n2_ := Aside0.mk (blk_below (g := gb258) (o := .cells #[.int .i64 0, .int .i64 0, .string (⟨#[]⟩ : ByteArray)] 23 (0, 0)) (by (with_reducible repeat (first | refine blk_drewN ?_ _ | refine blk_drew ?_ | refine blk_alloc ?_ _)); exact BK258.out) hb)
              have n3_ := Aside0.mk (below_step (by repeat (first | (with_reducible first | exact HB.out | apply below_alloc | apply pw_below_drewN | apply below_drew1 | refine below_set ?_ GE242.out | refine below_set ?_ GE250.out | refine below_set ?_ GE258.out) | exact HB.out)) hb)
              clear BK242
              clear BK250
              clear BK258
              clear HB
              have BK242 := n0_
              have BK250 := n1_
              have BK258 := n2_
              have HB := n3_
              clear n0_ n1_ n2_ n3_
              (try clear hb)
              (try clear hb2)
              (try clear hk)
              (try clear hi)
              refine hK.out _ _ ⟨(blk_cell BK250.out 0).trans rfl, (blk_cell BK250.out 1).trans rfl, (blk_cell BK250.out 2).trans rfl⟩ (fun hHeld => ?_)
              clear hK K
              refine norm_ (a' := ?_) ?_ ?_
              rotate_left
              · show Act.put _ (some 55) _ = _
                simp only [Act.put, List.setIfInBounds_toArray, List.set_cons_zero, List.set_cons_succ, i64_w, i32_w]
                rfl
              refine pure_ (i := 4) (N := some 51) (v := ?_) (a' := ?_) #[true, true, true, true, true, false, false, true, false, false] rfl rfl (any_of HT_.out (by kernel_rfl)) (fun _ _ _ h => h) (Or.inl ⟨by rfl, ?_⟩) ?_ ?_
              rotate_left
              · intro w'
                go_simp
                with_reducible rfl
              rotate_left
              · simp only [Act.put, List.setIfInBounds_toArray, List.set_cons_zero, List.set_cons_succ, i64_w, i32_w]
                rfl
              refine pure_ (i := 5) (N := some 56) (v := ?_) (a' := ?_) #[true, true, true, true, true, true, false, true, false, false] rfl rfl (any_of HT_.out (by kernel_rfl)) (fun _ _ _ h => h) (Or.inl ⟨by rfl, ?_⟩) ?_ ?_
              rotate_left
              · intro w'
                go_simp
                with_reducible rfl
              rotate_left
              · simp only [Act.put, List.setIfInBounds_toArray, List.set_cons_zero, List.set_cons_succ, i64_w, i32_w]
                rfl
              refine pure_ (i := 6) (N := some 57) (v := ?_) (a' := ?_) #[true, true, true, true, true, true, true, true, false, false] rfl rfl (any_of HT_.out (by kernel_rfl)) (fun _ _ _ h => h) (Or.inl ⟨by rfl, ?_⟩) ?_ ?_
              rotate_left
              · intro w'
                go_simp
                with_reducible rfl
              rotate_left
              · simp only [Act.put, List.setIfInBounds_toArray, List.set_cons_zero, List.set_cons_succ, i64_w, i32_w]
                rfl
              exact norm_ (by simp only [putAll, Act.put, List.setIfInBounds_toArray, List.set_cons_zero, List.set_cons_succ]) (hCont (gb258) _ ⟨hHeld, (by (with_reducible repeat (first | refine blk_drewN ?_ _ | refine blk_drew ?_ | refine blk_alloc ?_ _)); exact BK242.out), (by (with_reducible repeat (first | refine blk_drewN ?_ _ | refine blk_drew ?_ | refine blk_alloc ?_ _)); exact BK250.out), (by (with_reducible repeat (first | refine blk_drewN ?_ _ | refine blk_drew ?_ | refine blk_alloc ?_ _)); exact BK258.out), GW258.out, GE258.out, NB242_258.out, NB258_242.out, NB250_258.out, NB258_250.out, (by repeat (first | (with_reducible first | exact HB.out | apply below_alloc | apply pw_below_drewN | apply below_drew1 | refine below_set ?_ GE242.out | refine below_set ?_ GE250.out | refine below_set ?_ GE258.out) | exact HB.out))⟩)
          rintro gb258 w40 ⟨hS_, h0_, h1_, h2_, h3_, h4_, h5_, h6_, h7_, h8_, h9_⟩
          have n0_ : Aside0 (w40.heap[gb242]? = some (.cells #[.int .i64 t238, .int .i64 t239, .string t240] 23 (0, 0))) := ⟨h0_⟩
          have n1_ : Aside0 (w40.heap[gb250]? = some (.cells #[.int .i64 t246, .int .i64 t247, .string t248] 23 (0, 0))) := ⟨h1_⟩
          have n2_ : Aside0 (w40.heap[gb258]? = some (.cells #[.int .i64 0, .int .i64 0, .string (⟨#[]⟩ : ByteArray)] 23 (0, 0))) := ⟨h2_⟩
          have n3_ : Aside0 (w.heap.size ≤ gb258) := ⟨h3_⟩
          have n4_ : Aside0 (w.heap.size ≤ gb258) := ⟨h4_⟩
          have n5_ : Aside0 (gb242 ≠ gb258) := ⟨h5_⟩
          have n6_ : Aside0 (gb258 ≠ gb242) := ⟨h6_⟩
          have n7_ : Aside0 (gb250 ≠ gb258) := ⟨h7_⟩
          have n8_ : Aside0 (gb258 ≠ gb250) := ⟨h8_⟩
          have n9_ : Aside0 (Below w.heap.size w w40) := ⟨h9_⟩
          clear BK242
          clear BK250
          clear HB
          clear h0_ h1_ h2_ h3_ h4_ h5_ h6_ h7_ h8_ h9_
          have BK242 := n0_
          have BK250 := n1_
          have BK258 := n2_
          have GW258 := n3_
          have GE258 := n4_
          have NB242_258 := n5_
          have NB258_242 := n6_
          have NB250_258 := n7_
          have NB258_250 := n8_
          have HB := n9_
          clear n0_ n1_ n2_ n3_ n4_ n5_ n6_ n7_ n8_ n9_
          have hHeld : w40.cell? ⟨gb250, 0, none⟩ = some (.int .i64 t246) ∧ w40.cell? ⟨gb250, 1, none⟩ = some (.int .i64 t247) ∧ w40.cell? ⟨gb250, 2, none⟩ = some (.string t248) := hS_
          refine norm_ (a' := ?_) ?_ ?_
          rotate_left
          · simp only [putAll, Act.put, List.setIfInBounds_toArray, List.set_cons_zero, List.set_cons_succ]
            rfl
          refine one_ (i := 8) (N := none) #[true, true, true, true, true, true, true, true, true, false] rfl rfl (one_of HT_.out (by kernel_rfl)) (by decide) (fun K hK => ?_)
          have hs41 : w40.cell? ⟨gb258, 0, none⟩ = some (.int .i64 0) := (blk_cell BK258.out 0).trans rfl
          have hfs41 := blk_frozen BK258.out 0
          have hns41_0 := NB242_258.out
          have hns41_1 := NB250_258.out
          have hms41_0 := NB258_242.out
          have hms41_1 := NB258_250.out
          have hs42 : w40.cell? ⟨gb258, 1, none⟩ = some (.int .i64 0) := (blk_cell BK258.out 1).trans rfl
          have hfs42 := blk_frozen BK258.out 1
          have hns42_0 := NB242_258.out
          have hns42_1 := NB250_258.out
          have hms42_0 := NB258_242.out
          have hms42_1 := NB258_250.out
          have hs43 : w40.cell? ⟨gb258, 2, none⟩ = some (.string (⟨#[]⟩ : ByteArray)) := (blk_cell BK258.out 2).trans rfl
          have hfs43 := blk_frozen BK258.out 2
          have hns43_0 := NB242_258.out
          have hns43_1 := NB250_258.out
          have hms43_0 := NB258_242.out
          have hms43_1 := NB258_250.out
          refine skip_ (w1 := ?_) (by rfl) rfl ?_ ?_
          rotate_left
          · go_simp
            rfl
          refine hK.out _ _ ⟨((cell_far (p := ⟨gb258, _, none⟩) NB250_258.out _).trans (((cell_far (p := ⟨gb258, _, none⟩) NB250_258.out _).trans (((cell_far (p := ⟨gb258, _, none⟩) NB250_258.out _).trans (hHeld.1)))))), ((cell_far (p := ⟨gb258, _, none⟩) NB250_258.out _).trans (((cell_far (p := ⟨gb258, _, none⟩) NB250_258.out _).trans (((cell_far (p := ⟨gb258, _, none⟩) NB250_258.out _).trans (hHeld.2.1)))))), ((cell_far (p := ⟨gb258, _, none⟩) NB250_258.out _).trans (((cell_far (p := ⟨gb258, _, none⟩) NB250_258.out _).trans (((cell_far (p := ⟨gb258, _, none⟩) NB250_258.out _).trans (hHeld.2.2))))))⟩ (fun hHeld => ?_)
          clear hK K
          refine pure_ (i := 9) (N := some 11) (v := ?_) (a' := ?_) #[true, true, true, true, true, true, true, true, true, true] rfl rfl (any_of HT_.out (by kernel_rfl)) (fun _ _ _ h => h) (Or.inl ⟨by rfl, ?_⟩) ?_ ?_
          rotate_left
          · intro w'
            go_simp
            with_reducible rfl
          rotate_left
          · simp only [Act.put, List.setIfInBounds_toArray, List.set_cons_zero, List.set_cons_succ, i64_w, i32_w]
            rfl
          refine done_ (done_of HT_.out (by kernel_rfl)) ?_
          have hnb44 := NB258_242.out
          have hnc44 := NB242_258.out
          have hnb45 := NB258_250.out
          have hnc45 := NB250_258.out
          have hcz46_0 : w40.cell? ⟨gb258, 0, none⟩ = some (.int .i64 0) := (blk_cell BK258.out 0).trans rfl
          have hcz46_1 : w40.cell? ⟨gb258, 1, none⟩ = some (.int .i64 0) := (blk_cell BK258.out 1).trans rfl
          have hcz46_2 : w40.cell? ⟨gb258, 2, none⟩ = some (.string (⟨#[]⟩ : ByteArray)) := (blk_cell BK258.out 2).trans rfl
          have hfz46_0 := blk_frozen BK258.out 0
          have hfz46_1 := blk_frozen BK258.out 1
          have hfz46_2 := blk_frozen BK258.out 2
          by_cases c15 : a0 ≥ 0
          · rw [if_pos c15] at H
            have c15b0 : decide (0 ≤ a0) = true := decide_eq_true c15
            clear c15
            by_cases c16 : t255 ≥ 0
            · rw [if_pos c16] at H
              have c16b0 : decide (0 ≤ t255) = true := decide_eq_true c16
              clear c16
              by_cases c17 : a1 > 0
              · rw [if_pos c17] at H
                have c17b0 : decide (0 < a1) = true := decide_eq_true c17
                clear c17
                by_cases c18 : t255 < a1
                · rw [if_pos c18] at H
                  have c18b0 : decide (t255 < a1) = true := decide_eq_true c18
                  clear c18
                  by_cases c19 : t255 > (wrap64 (-a1))
                  · rw [if_pos c19] at H
                    have c19b0 : decide ((wrap64 (-a1)) < t255) = true := decide_eq_true c19
                    clear c19
                    obtain rfl := Option.some.inj H
                    try go_wp2
                    go_ret
                    exact ⟨by first | rfl | (simp [errW_none, errW_some] <;> rfl) | (simp [*, errW_none, errW_some] <;> rfl), by repeat (first | (with_reducible first | exact HB.out | apply below_alloc | apply pw_below_drewN | apply below_drew1 | refine below_set ?_ GE242.out | refine below_set ?_ GE250.out | refine below_set ?_ GE258.out) | exact HB.out)⟩
                  · rw [if_neg c19] at H
                    have c19b0 : decide ((wrap64 (-a1)) < t255) = false := decide_eq_false c19
                    clear c19
                    by_cases c47 : a1 < 0
                    · rw [if_pos c47] at H
                      have c47b0 : decide (a1 < 0) = true := decide_eq_true c47
                      clear c47
                      by_cases c48 : t255 > a1
                      · rw [if_pos c48] at H
                        have c48b0 : decide (a1 < t255) = true := decide_eq_true c48
                        clear c48
                        by_cases c49 : a1 = (-9223372036854775808)
                        · rw [if_pos c49] at H
                          have c49b0 : (a1 == (-9223372036854775808)) = true := beq_iff_eq.mpr c49
                          have c49b1 : (a1 != (-9223372036854775808)) = false := bne_eq_false_iff_eq.mpr c49
                          clear c49
                          obtain rfl := Option.some.inj H
                          try go_wp2
                          go_ret
                          exact ⟨by first | rfl | (simp [errW_none, errW_some] <;> rfl) | (simp [*, errW_none, errW_some] <;> rfl), by repeat (first | (with_reducible first | exact HB.out | apply below_alloc | apply pw_below_drewN | apply below_drew1 | refine below_set ?_ GE242.out | refine below_set ?_ GE250.out | refine below_set ?_ GE258.out) | exact HB.out)⟩
                        · rw [if_neg c49] at H
                          have c49b0 : (a1 == (-9223372036854775808)) = false := beq_eq_false_iff_ne.mpr c49
                          have c49b1 : (a1 != (-9223372036854775808)) = true := bne_iff_ne.mpr c49
                          obtain rfl := Option.some.inj H
                          try go_wp2
                          go_ret
                          exact ⟨by first | rfl | (simp [errW_none, errW_some] <;> rfl) | (simp [*, errW_none, errW_some] <;> rfl), by repeat (first | (with_reducible first | exact HB.out | apply below_alloc | apply pw_below_drewN | apply below_drew1 | refine below_set ?_ GE242.out | refine below_set ?_ GE250.out | refine below_set ?_ GE258.out) | exact HB.out)⟩
                      · rw [if_neg c48] at H
                        have c48b0 : decide (a1 < t255) = false := decide_eq_false c48
                        clear c48
                        exact absurd (Option.some.inj H) (fun h_ => absurd (h_.trans HRT.out) (by decide))
                    · rw [if_neg c47] at H
                      have c47b0 : decide (a1 < 0) = false := decide_eq_false c47
                      clear c47
                      exact absurd (Option.some.inj H) (fun h_ => absurd (h_.trans HRT.out) (by decide))
                · rw [if_neg c18] at H
                  have c18b0 : decide (t255 < a1) = false := decide_eq_false c18
                  clear c18
                  by_cases c104 : a1 < 0
                  · rw [if_pos c104] at H
                    have c104b0 : decide (a1 < 0) = true := decide_eq_true c104
                    clear c104
                    by_cases c105 : t255 > a1
                    · rw [if_pos c105] at H
                      have c105b0 : decide (a1 < t255) = true := decide_eq_true c105
                      clear c105
                      by_cases c106 : a1 = (-9223372036854775808)
                      · rw [if_pos c106] at H
                        have c106b0 : (a1 == (-9223372036854775808)) = true := beq_iff_eq.mpr c106
                        have c106b1 : (a1 != (-9223372036854775808)) = false := bne_eq_false_iff_eq.mpr c106
                        clear c106
                        obtain rfl := Option.some.inj H
                        try go_wp2
                        go_ret
                        exact ⟨by first | rfl | (simp [errW_none, errW_some] <;> rfl) | (simp [*, errW_none, errW_some] <;> rfl), by repeat (first | (with_reducible first | exact HB.out | apply below_alloc | apply pw_below_drewN | apply below_drew1 | refine below_set ?_ GE242.out | refine below_set ?_ GE250.out | refine below_set ?_ GE258.out) | exact HB.out)⟩
                      · rw [if_neg c106] at H
                        have c106b0 : (a1 == (-9223372036854775808)) = false := beq_eq_false_iff_ne.mpr c106
                        have c106b1 : (a1 != (-9223372036854775808)) = true := bne_iff_ne.mpr c106
                        obtain rfl := Option.some.inj H
                        try go_wp2
                        go_ret
                        exact ⟨by first | rfl | (simp [errW_none, errW_some] <;> rfl) | (simp [*, errW_none, errW_some] <;> rfl), by repeat (first | (with_reducible first | exact HB.out | apply below_alloc | apply pw_below_drewN | apply below_drew1 | refine below_set ?_ GE242.out | refine below_set ?_ GE250.out | refine below_set ?_ GE258.out) | exact HB.out)⟩
                    · rw [if_neg c105] at H
                      have c105b0 : decide (a1 < t255) = false := decide_eq_false c105
                      clear c105
                      exact absurd (Option.some.inj H) (fun h_ => absurd (h_.trans HRT.out) (by decide))
                  · rw [if_neg c104] at H
                    have c104b0 : decide (a1 < 0) = false := decide_eq_false c104
                    clear c104
                    exact absurd (Option.some.inj H) (fun h_ => absurd (h_.trans HRT.out) (by decide))
              · rw [if_neg c17] at H
                have c17b0 : decide (0 < a1) = false := decide_eq_false c17
                clear c17
                by_cases c161 : a1 < 0
                · rw [if_pos c161] at H
                  have c161b0 : decide (a1 < 0) = true := decide_eq_true c161
                  clear c161
                  by_cases c162 : t255 > a1
                  · rw [if_pos c162] at H
                    have c162b0 : decide (a1 < t255) = true := decide_eq_true c162
                    clear c162
                    by_cases c163 : a1 = (-9223372036854775808)
                    · rw [if_pos c163] at H
                      have c163b0 : (a1 == (-9223372036854775808)) = true := beq_iff_eq.mpr c163
                      have c163b1 : (a1 != (-9223372036854775808)) = false := bne_eq_false_iff_eq.mpr c163
                      clear c163
                      obtain rfl := Option.some.inj H
                      try go_wp2
                      go_ret
                      exact ⟨by first | rfl | (simp [errW_none, errW_some] <;> rfl) | (simp [*, errW_none, errW_some] <;> rfl), by repeat (first | (with_reducible first | exact HB.out | apply below_alloc | apply pw_below_drewN | apply below_drew1 | refine below_set ?_ GE242.out | refine below_set ?_ GE250.out | refine below_set ?_ GE258.out) | exact HB.out)⟩
                    · rw [if_neg c163] at H
                      have c163b0 : (a1 == (-9223372036854775808)) = false := beq_eq_false_iff_ne.mpr c163
                      have c163b1 : (a1 != (-9223372036854775808)) = true := bne_iff_ne.mpr c163
                      obtain rfl := Option.some.inj H
                      try go_wp2
                      go_ret
                      exact ⟨by first | rfl | (simp [errW_none, errW_some] <;> rfl) | (simp [*, errW_none, errW_some] <;> rfl), by repeat (first | (with_reducible first | exact HB.out | apply below_alloc | apply pw_below_drewN | apply below_drew1 | refine below_set ?_ GE242.out | refine below_set ?_ GE250.out | refine below_set ?_ GE258.out) | exact HB.out)⟩
                  · rw [if_neg c162] at H
                    have c162b0 : decide (a1 < t255) = false := decide_eq_false c162
                    clear c162
                    exact absurd (Option.some.inj H) (fun h_ => absurd (h_.trans HRT.out) (by decide))
                · rw [if_neg c161] at H
                  have c161b0 : decide (a1 < 0) = false := decide_eq_false c161
                  clear c161
                  exact absurd (Option.some.inj H) (fun h_ => absurd (h_.trans HRT.out) (by decide))
            · rw [if_neg c16] at H
              have c16b0 : decide (0 ≤ t255) = false := decide_eq_false c16
              clear c16
              by_cases c218 : a0 < 0
              · rw [if_pos c218] at H
                have c218b0 : decide (a0 < 0) = true := decide_eq_true c218
                clear c218
                by_cases c219 : t255 ≤ 0
                · rw [if_pos c219] at H
                  have c219b0 : decide (t255 ≤ 0) = true := decide_eq_true c219
                  clear c219
                  by_cases c220 : a1 > 0
                  · rw [if_pos c220] at H
                    have c220b0 : decide (0 < a1) = true := decide_eq_true c220
                    clear c220
                    by_cases c221 : t255 < a1
                    · rw [if_pos c221] at H
                      have c221b0 : decide (t255 < a1) = true := decide_eq_true c221
                      clear c221
                      by_cases c222 : t255 > (wrap64 (-a1))
                      · rw [if_pos c222] at H
                        have c222b0 : decide ((wrap64 (-a1)) < t255) = true := decide_eq_true c222
                        clear c222
                        obtain rfl := Option.some.inj H
                        try go_wp2
                        go_ret
                        exact ⟨by first | rfl | (simp [errW_none, errW_some] <;> rfl) | (simp [*, errW_none, errW_some] <;> rfl), by repeat (first | (with_reducible first | exact HB.out | apply below_alloc | apply pw_below_drewN | apply below_drew1 | refine below_set ?_ GE242.out | refine below_set ?_ GE250.out | refine below_set ?_ GE258.out) | exact HB.out)⟩
                      · rw [if_neg c222] at H
                        have c222b0 : decide ((wrap64 (-a1)) < t255) = false := decide_eq_false c222
                        clear c222
                        by_cases c250 : a1 < 0
                        · rw [if_pos c250] at H
                          have c250b0 : decide (a1 < 0) = true := decide_eq_true c250
                          clear c250
                          by_cases c251 : t255 > a1
                          · rw [if_pos c251] at H
                            have c251b0 : decide (a1 < t255) = true := decide_eq_true c251
                            clear c251
                            by_cases c252 : a1 = (-9223372036854775808)
                            · rw [if_pos c252] at H
                              have c252b0 : (a1 == (-9223372036854775808)) = true := beq_iff_eq.mpr c252
                              have c252b1 : (a1 != (-9223372036854775808)) = false := bne_eq_false_iff_eq.mpr c252
                              clear c252
                              obtain rfl := Option.some.inj H
                              try go_wp2
                              go_ret
                              exact ⟨by first | rfl | (simp [errW_none, errW_some] <;> rfl) | (simp [*, errW_none, errW_some] <;> rfl), by repeat (first | (with_reducible first | exact HB.out | apply below_alloc | apply pw_below_drewN | apply below_drew1 | refine below_set ?_ GE242.out | refine below_set ?_ GE250.out | refine below_set ?_ GE258.out) | exact HB.out)⟩
                            · rw [if_neg c252] at H
                              have c252b0 : (a1 == (-9223372036854775808)) = false := beq_eq_false_iff_ne.mpr c252
                              have c252b1 : (a1 != (-9223372036854775808)) = true := bne_iff_ne.mpr c252
                              obtain rfl := Option.some.inj H
                              try go_wp2
                              go_ret
                              exact ⟨by first | rfl | (simp [errW_none, errW_some] <;> rfl) | (simp [*, errW_none, errW_some] <;> rfl), by repeat (first | (with_reducible first | exact HB.out | apply below_alloc | apply pw_below_drewN | apply below_drew1 | refine below_set ?_ GE242.out | refine below_set ?_ GE250.out | refine below_set ?_ GE258.out) | exact HB.out)⟩
                          · rw [if_neg c251] at H
                            have c251b0 : decide (a1 < t255) = false := decide_eq_false c251
                            clear c251
                            exact absurd (Option.some.inj H) (fun h_ => absurd (h_.trans HRT.out) (by decide))
                        · rw [if_neg c250] at H
                          have c250b0 : decide (a1 < 0) = false := decide_eq_false c250
                          clear c250
                          exact absurd (Option.some.inj H) (fun h_ => absurd (h_.trans HRT.out) (by decide))
                    · rw [if_neg c221] at H
                      have c221b0 : decide (t255 < a1) = false := decide_eq_false c221
                      clear c221
                      by_cases c307 : a1 < 0
                      · rw [if_pos c307] at H
                        have c307b0 : decide (a1 < 0) = true := decide_eq_true c307
                        clear c307
                        by_cases c308 : t255 > a1
                        · rw [if_pos c308] at H
                          have c308b0 : decide (a1 < t255) = true := decide_eq_true c308
                          clear c308
                          by_cases c309 : a1 = (-9223372036854775808)
                          · rw [if_pos c309] at H
                            have c309b0 : (a1 == (-9223372036854775808)) = true := beq_iff_eq.mpr c309
                            have c309b1 : (a1 != (-9223372036854775808)) = false := bne_eq_false_iff_eq.mpr c309
                            clear c309
                            obtain rfl := Option.some.inj H
                            try go_wp2
                            go_ret
                            exact ⟨by first | rfl | (simp [errW_none, errW_some] <;> rfl) | (simp [*, errW_none, errW_some] <;> rfl), by repeat (first | (with_reducible first | exact HB.out | apply below_alloc | apply pw_below_drewN | apply below_drew1 | refine below_set ?_ GE242.out | refine below_set ?_ GE250.out | refine below_set ?_ GE258.out) | exact HB.out)⟩
                          · rw [if_neg c309] at H
                            have c309b0 : (a1 == (-9223372036854775808)) = false := beq_eq_false_iff_ne.mpr c309
                            have c309b1 : (a1 != (-9223372036854775808)) = true := bne_iff_ne.mpr c309
                            obtain rfl := Option.some.inj H
                            try go_wp2
                            go_ret
                            exact ⟨by first | rfl | (simp [errW_none, errW_some] <;> rfl) | (simp [*, errW_none, errW_some] <;> rfl), by repeat (first | (with_reducible first | exact HB.out | apply below_alloc | apply pw_below_drewN | apply below_drew1 | refine below_set ?_ GE242.out | refine below_set ?_ GE250.out | refine below_set ?_ GE258.out) | exact HB.out)⟩
                        · rw [if_neg c308] at H
                          have c308b0 : decide (a1 < t255) = false := decide_eq_false c308
                          clear c308
                          exact absurd (Option.some.inj H) (fun h_ => absurd (h_.trans HRT.out) (by decide))
                      · rw [if_neg c307] at H
                        have c307b0 : decide (a1 < 0) = false := decide_eq_false c307
                        clear c307
                        exact absurd (Option.some.inj H) (fun h_ => absurd (h_.trans HRT.out) (by decide))
                  · rw [if_neg c220] at H
                    have c220b0 : decide (0 < a1) = false := decide_eq_false c220
                    clear c220
                    by_cases c364 : a1 < 0
                    · rw [if_pos c364] at H
                      have c364b0 : decide (a1 < 0) = true := decide_eq_true c364
                      clear c364
                      by_cases c365 : t255 > a1
                      · rw [if_pos c365] at H
                        have c365b0 : decide (a1 < t255) = true := decide_eq_true c365
                        clear c365
                        by_cases c366 : a1 = (-9223372036854775808)
                        · rw [if_pos c366] at H
                          have c366b0 : (a1 == (-9223372036854775808)) = true := beq_iff_eq.mpr c366
                          have c366b1 : (a1 != (-9223372036854775808)) = false := bne_eq_false_iff_eq.mpr c366
                          clear c366
                          obtain rfl := Option.some.inj H
                          try go_wp2
                          go_ret
                          exact ⟨by first | rfl | (simp [errW_none, errW_some] <;> rfl) | (simp [*, errW_none, errW_some] <;> rfl), by repeat (first | (with_reducible first | exact HB.out | apply below_alloc | apply pw_below_drewN | apply below_drew1 | refine below_set ?_ GE242.out | refine below_set ?_ GE250.out | refine below_set ?_ GE258.out) | exact HB.out)⟩
                        · rw [if_neg c366] at H
                          have c366b0 : (a1 == (-9223372036854775808)) = false := beq_eq_false_iff_ne.mpr c366
                          have c366b1 : (a1 != (-9223372036854775808)) = true := bne_iff_ne.mpr c366
                          obtain rfl := Option.some.inj H
                          try go_wp2
                          go_ret
                          exact ⟨by first | rfl | (simp [errW_none, errW_some] <;> rfl) | (simp [*, errW_none, errW_some] <;> rfl), by repeat (first | (with_reducible first | exact HB.out | apply below_alloc | apply pw_below_drewN | apply below_drew1 | refine below_set ?_ GE242.out | refine below_set ?_ GE250.out | refine below_set ?_ GE258.out) | exact HB.out)⟩
                      · rw [if_neg c365] at H
                        have c365b0 : decide (a1 < t255) = false := decide_eq_false c365
                        clear c365
                        exact absurd (Option.some.inj H) (fun h_ => absurd (h_.trans HRT.out) (by decide))
                    · rw [if_neg c364] at H
                      have c364b0 : decide (a1 < 0) = false := decide_eq_false c364
                      clear c364
                      exact absurd (Option.some.inj H) (fun h_ => absurd (h_.trans HRT.out) (by decide))
                · rw [if_neg c219] at H
                  have c219b0 : decide (t255 ≤ 0) = false := decide_eq_false c219
                  clear c219
                  exact absurd (Option.some.inj H) (fun h_ => absurd (h_.trans HRT.out) (by decide))
              · rw [if_neg c218] at H
                have c218b0 : decide (a0 < 0) = false := decide_eq_false c218
                clear c218
                exact absurd (Option.some.inj H) (fun h_ => absurd (h_.trans HRT.out) (by decide))
          · rw [if_neg c15] at H
            have c15b0 : decide (0 ≤ a0) = false := decide_eq_false c15
            clear c15
            by_cases c421 : a0 < 0
            · rw [if_pos c421] at H
              have c421b0 : decide (a0 < 0) = true := decide_eq_true c421
              clear c421
              by_cases c422 : t255 ≤ 0
              · rw [if_pos c422] at H
                have c422b0 : decide (t255 ≤ 0) = true := decide_eq_true c422
                clear c422
                by_cases c423 : a1 > 0
                · rw [if_pos c423] at H
                  have c423b0 : decide (0 < a1) = true := decide_eq_true c423
                  clear c423
                  by_cases c424 : t255 < a1
                  · rw [if_pos c424] at H
                    have c424b0 : decide (t255 < a1) = true := decide_eq_true c424
                    clear c424
                    by_cases c425 : t255 > (wrap64 (-a1))
                    · rw [if_pos c425] at H
                      have c425b0 : decide ((wrap64 (-a1)) < t255) = true := decide_eq_true c425
                      clear c425
                      obtain rfl := Option.some.inj H
                      try go_wp2
                      go_ret
                      exact ⟨by first | rfl | (simp [errW_none, errW_some] <;> rfl) | (simp [*, errW_none, errW_some] <;> rfl), by repeat (first | (with_reducible first | exact HB.out | apply below_alloc | apply pw_below_drewN | apply below_drew1 | refine below_set ?_ GE242.out | refine below_set ?_ GE250.out | refine below_set ?_ GE258.out) | exact HB.out)⟩
                    · rw [if_neg c425] at H
                      have c425b0 : decide ((wrap64 (-a1)) < t255) = false := decide_eq_false c425
                      clear c425
                      by_cases c453 : a1 < 0
                      · rw [if_pos c453] at H
                        have c453b0 : decide (a1 < 0) = true := decide_eq_true c453
                        clear c453
                        by_cases c454 : t255 > a1
                        · rw [if_pos c454] at H
                          have c454b0 : decide (a1 < t255) = true := decide_eq_true c454
                          clear c454
                          by_cases c455 : a1 = (-9223372036854775808)
                          · rw [if_pos c455] at H
                            have c455b0 : (a1 == (-9223372036854775808)) = true := beq_iff_eq.mpr c455
                            have c455b1 : (a1 != (-9223372036854775808)) = false := bne_eq_false_iff_eq.mpr c455
                            clear c455
                            obtain rfl := Option.some.inj H
                            try go_wp2
                            go_ret
                            exact ⟨by first | rfl | (simp [errW_none, errW_some] <;> rfl) | (simp [*, errW_none, errW_some] <;> rfl), by repeat (first | (with_reducible first | exact HB.out | apply below_alloc | apply pw_below_drewN | apply below_drew1 | refine below_set ?_ GE242.out | refine below_set ?_ GE250.out | refine below_set ?_ GE258.out) | exact HB.out)⟩
                          · rw [if_neg c455] at H
                            have c455b0 : (a1 == (-9223372036854775808)) = false := beq_eq_false_iff_ne.mpr c455
                            have c455b1 : (a1 != (-9223372036854775808)) = true := bne_iff_ne.mpr c455
                            obtain rfl := Option.some.inj H
                            try go_wp2
                            go_ret
                            exact ⟨by first | rfl | (simp [errW_none, errW_some] <;> rfl) | (simp [*, errW_none, errW_some] <;> rfl), by repeat (first | (with_reducible first | exact HB.out | apply below_alloc | apply pw_below_drewN | apply below_drew1 | refine below_set ?_ GE242.out | refine below_set ?_ GE250.out | refine below_set ?_ GE258.out) | exact HB.out)⟩
                        · rw [if_neg c454] at H
                          have c454b0 : decide (a1 < t255) = false := decide_eq_false c454
                          clear c454
                          exact absurd (Option.some.inj H) (fun h_ => absurd (h_.trans HRT.out) (by decide))
                      · rw [if_neg c453] at H
                        have c453b0 : decide (a1 < 0) = false := decide_eq_false c453
                        clear c453
                        exact absurd (Option.some.inj H) (fun h_ => absurd (h_.trans HRT.out) (by decide))
                  · rw [if_neg c424] at H
                    have c424b0 : decide (t255 < a1) = false := decide_eq_false c424
                    clear c424
                    by_cases c510 : a1 < 0
                    · rw [if_pos c510] at H
                      have c510b0 : decide (a1 < 0) = true := decide_eq_true c510
                      clear c510
                      by_cases c511 : t255 > a1
                      · rw [if_pos c511] at H
                        have c511b0 : decide (a1 < t255) = true := decide_eq_true c511
                        clear c511
                        by_cases c512 : a1 = (-9223372036854775808)
                        · rw [if_pos c512] at H
                          have c512b0 : (a1 == (-9223372036854775808)) = true := beq_iff_eq.mpr c512
                          have c512b1 : (a1 != (-9223372036854775808)) = false := bne_eq_false_iff_eq.mpr c512
                          clear c512
                          obtain rfl := Option.some.inj H
                          try go_wp2
                          go_ret
                          exact ⟨by first | rfl | (simp [errW_none, errW_some] <;> rfl) | (simp [*, errW_none, errW_some] <;> rfl), by repeat (first | (with_reducible first | exact HB.out | apply below_alloc | apply pw_below_drewN | apply below_drew1 | refine below_set ?_ GE242.out | refine below_set ?_ GE250.out | refine below_set ?_ GE258.out) | exact HB.out)⟩
                        · rw [if_neg c512] at H
                          have c512b0 : (a1 == (-9223372036854775808)) = false := beq_eq_false_iff_ne.mpr c512
                          have c512b1 : (a1 != (-9223372036854775808)) = true := bne_iff_ne.mpr c512
                          obtain rfl := Option.some.inj H
                          try go_wp2
                          go_ret
                          exact ⟨by first | rfl | (simp [errW_none, errW_some] <;> rfl) | (simp [*, errW_none, errW_some] <;> rfl), by repeat (first | (with_reducible first | exact HB.out | apply below_alloc | apply pw_below_drewN | apply below_drew1 | refine below_set ?_ GE242.out | refine below_set ?_ GE250.out | refine below_set ?_ GE258.out) | exact HB.out)⟩
                      · rw [if_neg c511] at H
                        have c511b0 : decide (a1 < t255) = false := decide_eq_false c511
                        clear c511
                        exact absurd (Option.some.inj H) (fun h_ => absurd (h_.trans HRT.out) (by decide))
                    · rw [if_neg c510] at H
                      have c510b0 : decide (a1 < 0) = false := decide_eq_false c510
                      clear c510
                      exact absurd (Option.some.inj H) (fun h_ => absurd (h_.trans HRT.out) (by decide))
                · rw [if_neg c423] at H
                  have c423b0 : decide (0 < a1) = false := decide_eq_false c423
                  clear c423
                  by_cases c567 : a1 < 0
                  · rw [if_pos c567] at H
                    have c567b0 : decide (a1 < 0) = true := decide_eq_true c567
                    clear c567
                    by_cases c568 : t255 > a1
                    · rw [if_pos c568] at H
                      have c568b0 : decide (a1 < t255) = true := decide_eq_true c568
                      clear c568
                      by_cases c569 : a1 = (-9223372036854775808)
                      · rw [if_pos c569] at H
                        have c569b0 : (a1 == (-9223372036854775808)) = true := beq_iff_eq.mpr c569
                        have c569b1 : (a1 != (-9223372036854775808)) = false := bne_eq_false_iff_eq.mpr c569
                        clear c569
                        obtain rfl := Option.some.inj H
                        try go_wp2
                        go_ret
                        exact ⟨by first | rfl | (simp [errW_none, errW_some] <;> rfl) | (simp [*, errW_none, errW_some] <;> rfl), by repeat (first | (with_reducible first | exact HB.out | apply below_alloc | apply pw_below_drewN | apply below_drew1 | refine below_set ?_ GE242.out | refine below_set ?_ GE250.out | refine below_set ?_ GE258.out) | exact HB.out)⟩
                      · rw [if_neg c569] at H
                        have c569b0 : (a1 == (-9223372036854775808)) = false := beq_eq_false_iff_ne.mpr c569
                        have c569b1 : (a1 != (-9223372036854775808)) = true := bne_iff_ne.mpr c569
                        obtain rfl := Option.some.inj H
                        try go_wp2
                        go_ret
                        exact ⟨by first | rfl | (simp [errW_none, errW_some] <;> rfl) | (simp [*, errW_none, errW_some] <;> rfl), by repeat (first | (with_reducible first | exact HB.out | apply below_alloc | apply pw_below_drewN | apply below_drew1 | refine below_set ?_ GE242.out | refine below_set ?_ GE250.out | refine below_set ?_ GE258.out) | exact HB.out)⟩
                    · rw [if_neg c568] at H
                      have c568b0 : decide (a1 < t255) = false := decide_eq_false c568
                      clear c568
                      exact absurd (Option.some.inj H) (fun h_ => absurd (h_.trans HRT.out) (by decide))
                  · rw [if_neg c567] at H
                    have c567b0 : decide (a1 < 0) = false := decide_eq_false c567
                    clear c567
                    exact absurd (Option.some.inj H) (fun h_ => absurd (h_.trans HRT.out) (by decide))
              · rw [if_neg c422] at H
                have c422b0 : decide (t255 ≤ 0) = false := decide_eq_false c422
                clear c422
                exact absurd (Option.some.inj H) (fun h_ => absurd (h_.trans HRT.out) (by decide))
            · rw [if_neg c421] at H
              have c421b0 : decide (a0 < 0) = false := decide_eq_false c421
              clear c421
              exact absurd (Option.some.inj H) (fun h_ => absurd (h_.trans HRT.out) (by decide))
        · replace c14 := Bool.eq_false_iff.mpr c14
          subst c14
          have H1 : (some false) = some r := by rw [if_neg (show ¬ (false = true) by decide)] at H; exact H
          clear H
          have H := H1
          clear H1
          exact absurd (Option.some.inj H) (fun h_ => absurd (h_.trans HRT.out) (by decide))
      · rw [if_neg c13] at H
        have c13b0 : (t257 == 0) = false := beq_eq_false_iff_ne.mpr c13
        have c13b1 : (t257 != 0) = true := bne_iff_ne.mpr c13
        exact absurd (Option.some.inj H) (fun h_ => absurd (h_.trans HRT.out) (by decide))
    · rw [if_neg c12] at H
      have c12b0 : (t249 == 0) = false := beq_eq_false_iff_ne.mpr c12
      have c12b1 : (t249 != 0) = true := bne_iff_ne.mpr c12
      exact absurd (Option.some.inj H) (fun h_ => absurd (h_.trans HRT.out) (by decide))
  · rw [if_neg c7] at H
    have c7b0 : (t241 == 0) = false := beq_eq_false_iff_ne.mpr c7
    have c7b1 : (t241 != 0) = true := bne_iff_ne.mpr c7
    by_cases c624 : t231 = true
    · subst c624
      have H1 : (if a1 = 0 then (if t241 = 4 then (some true) else (if a0 = (-9223372036854775808) then (if a1 = (-1) then (some (t241 == 3)) else (some false)) else (some false))) else (if a0 = (-9223372036854775808) then (if a1 = (-1) then (some (t241 == 3)) else (some false)) else (some false))) = some r := by rw [if_pos rfl] at H; exact H
      clear H
      have H := H1
      clear H1
      by_cases c625 : a1 = 0
      · rw [if_pos c625] at H
        have c625b0 : (a1 == 0) = true := beq_iff_eq.mpr c625
        have c625b1 : (a1 != 0) = false := bne_eq_false_iff_eq.mpr c625
        clear c625
        by_cases c626 : t241 = 4
        · rw [if_pos c626] at H
          have c626b0 : (t241 == 4) = true := beq_iff_eq.mpr c626
          have c626b1 : (t241 != 4) = false := bne_eq_false_iff_eq.mpr c626
          clear c626
          obtain rfl := Option.some.inj H
          go_enter Try.func7, Try.ntmps7
          go_wp2_with (first | ((with_reducible refine gate_callee (f := 10) rfl ?_); refine goesL_ (some 12) rfl rfl Try.func10 (by kernel_rfl) rfl #[] rfl (by (try simp only [List.map_toArray, List.map_cons, List.map_nil]); first | done | rfl | (simp only [List.length_drop, List.length_take]; rfl)) ?_; (with_reducible refine (weathercocklaw01_examples.calls k  true _ A3.out).mono ?_); rintro e w627 ⟨rfl, hb⟩; refine ⟨_, rfl, ?_⟩; have n0_ := Aside0.mk (below_step (by repeat (first | (with_reducible first | exact HB.out | apply below_alloc | apply pw_below_drewN | apply below_drew1) | exact HB.out)) hb); clear HB; have HB := n0_; clear n0_; (try clear hb); (try clear hb2); (try clear hk); (try clear hi)) | ((with_reducible refine gate_callee (f := 26) rfl ?_); refine goesL_ (some 15) rfl rfl Try.func26 (by kernel_rfl) rfl #[.int .i64 a0] rfl (by (try simp only [List.map_toArray, List.map_cons, List.map_nil]); first | done | rfl | (simp only [List.length_drop, List.length_take]; rfl)) ?_; (with_reducible refine (weathercocklaw01_n.calls a0 t232 t233 t234 _ A4.out).mono ?_); rintro e w628 ⟨rfl, hb⟩; refine ⟨_, rfl, ?_⟩; have n0_ := Aside0.mk (below_step (by repeat (first | (with_reducible first | exact HB.out | apply below_alloc | apply pw_below_drewN | apply below_drew1) | exact HB.out)) hb); clear HB; have HB := n0_; clear n0_; (try clear hb); (try clear hb2); (try clear hk); (try clear hi)) | ((with_reducible refine gate_callee (f := 26) rfl ?_); refine goesL_ (some 17) rfl rfl Try.func26 (by kernel_rfl) rfl #[.int .i64 a1] rfl (by (try simp only [List.map_toArray, List.map_cons, List.map_nil]); first | done | rfl | (simp only [List.length_drop, List.length_take]; rfl)) ?_; (with_reducible refine (weathercocklaw01_n.calls a1 t235 t236 t237 _ A5.out).mono ?_); rintro e w629 ⟨rfl, hb⟩; refine ⟨_, rfl, ?_⟩; have n0_ := Aside0.mk (below_step (by repeat (first | (with_reducible first | exact HB.out | apply below_alloc | apply pw_below_drewN | apply below_drew1) | exact HB.out)) hb); clear HB; have HB := n0_; clear n0_; (try clear hb); (try clear hb2); (try clear hk); (try clear hi)) | ((with_reducible refine gate_callee (f := 25) rfl ?_); refine goesL_ (some 18) rfl rfl Try.func25 (by kernel_rfl) rfl #[.agg #[.int .i64 t232, .int .i64 t233, .string t234], .agg #[.int .i64 t235, .int .i64 t236, .string t237]] rfl (by (try simp only [List.map_toArray, List.map_cons, List.map_nil]); first | done | rfl | (simp only [List.length_drop, List.length_take]; rfl)) ?_; (with_reducible refine (value_Div.calls k t232 t233 t234 t235 t236 t237 t238 t239 t240 t241 _ A6.out).mono ?_); rintro e w630 ⟨rfl, hb⟩; refine ⟨_, rfl, ?_⟩; have n0_ := Aside0.mk (below_step (by repeat (first | (with_reducible first | exact HB.out | apply below_alloc | apply pw_below_drewN | apply below_drew1) | exact HB.out)) hb); clear HB; have HB := n0_; clear n0_; (try clear hb); (try clear hb2); (try clear hk); (try clear hi)) | ((with_reducible refine gate_dst (N := 6) rfl ?_); refine box_event ?hg (N := 6) ?hd (cs := #[.int .i64 0, .int .i64 0, .string (⟨#[]⟩ : ByteArray)]) (t := 23) ?hr ?_; (case hd => rfl); (case hg => rfl); (case hr => first | (go_simp; done) | (go_simp; rfl)); intro gb242 hg w631 hbox hb; have n0_ := Aside0.mk (below_step (by repeat (first | (with_reducible first | exact HB.out | apply below_alloc | apply pw_below_drewN | apply below_drew1) | exact HB.out)) hb); have n1_ := Aside0.mk (hbox); have n2_ := Aside0.mk ((by rw [hg]; exact (below_size (by repeat (first | (with_reducible first | exact HB.out | apply below_alloc | apply pw_below_drewN | apply below_drew1) | exact HB.out))) : w.heap.size ≤ gb242)); have n3_ := Aside0.mk ((by rw [hg]; exact (below_size (by repeat (first | (with_reducible first | exact HB.out | apply below_alloc | apply pw_below_drewN | apply below_drew1) | exact HB.out))) : w.heap.size ≤ gb242)); clear HB; have HB := n0_; have BK242 := n1_; have GW242 := n2_; have GE242 := n3_; clear n0_ n1_ n2_ n3_; clear hb hbox hg; have hcz632_0 : w631.cell? ⟨gb242, 0, none⟩ = some (.int .i64 0) := (blk_cell BK242.out 0).trans rfl; have hcz632_1 : w631.cell? ⟨gb242, 1, none⟩ = some (.int .i64 0) := (blk_cell BK242.out 1).trans rfl; have hcz632_2 : w631.cell? ⟨gb242, 2, none⟩ = some (.string (⟨#[]⟩ : ByteArray)) := (blk_cell BK242.out 2).trans rfl; have hfz632_0 := blk_frozen BK242.out 0; have hfz632_1 := blk_frozen BK242.out 1; have hfz632_2 := blk_frozen BK242.out 2))
          go_ret
          exact ⟨by first | rfl | (simp [errW_none, errW_some] <;> rfl) | (simp [*, errW_none, errW_some] <;> rfl), by repeat (first | (with_reducible first | exact HB.out | apply below_alloc | apply pw_below_drewN | apply below_drew1 | refine below_set ?_ GE242.out) | exact HB.out)⟩
        · rw [if_neg c626] at H
          have c626b0 : (t241 == 4) = false := beq_eq_false_iff_ne.mpr c626
          have c626b1 : (t241 != 4) = true := bne_iff_ne.mpr c626
          by_cases c633 : a0 = (-9223372036854775808)
          · rw [if_pos c633] at H
            have c633b0 : (a0 == (-9223372036854775808)) = true := beq_iff_eq.mpr c633
            have c633b1 : (a0 != (-9223372036854775808)) = false := bne_eq_false_iff_eq.mpr c633
            clear c633
            by_cases c634 : a1 = (-1)
            · rw [if_pos c634] at H
              have c634b0 : (a1 == (-1)) = true := beq_iff_eq.mpr c634
              have c634b1 : (a1 != (-1)) = false := bne_eq_false_iff_eq.mpr c634
              clear c634
              obtain rfl := Option.some.inj H
              go_enter Try.func7, Try.ntmps7
              go_wp2_with (first | ((with_reducible refine gate_callee (f := 10) rfl ?_); refine goesL_ (some 12) rfl rfl Try.func10 (by kernel_rfl) rfl #[] rfl (by (try simp only [List.map_toArray, List.map_cons, List.map_nil]); first | done | rfl | (simp only [List.length_drop, List.length_take]; rfl)) ?_; (with_reducible refine (weathercocklaw01_examples.calls k  true _ A3.out).mono ?_); rintro e w635 ⟨rfl, hb⟩; refine ⟨_, rfl, ?_⟩; have n0_ := Aside0.mk (below_step (by repeat (first | (with_reducible first | exact HB.out | apply below_alloc | apply pw_below_drewN | apply below_drew1) | exact HB.out)) hb); clear HB; have HB := n0_; clear n0_; (try clear hb); (try clear hb2); (try clear hk); (try clear hi)) | ((with_reducible refine gate_callee (f := 26) rfl ?_); refine goesL_ (some 15) rfl rfl Try.func26 (by kernel_rfl) rfl #[.int .i64 a0] rfl (by (try simp only [List.map_toArray, List.map_cons, List.map_nil]); first | done | rfl | (simp only [List.length_drop, List.length_take]; rfl)) ?_; (with_reducible refine (weathercocklaw01_n.calls a0 t232 t233 t234 _ A4.out).mono ?_); rintro e w636 ⟨rfl, hb⟩; refine ⟨_, rfl, ?_⟩; have n0_ := Aside0.mk (below_step (by repeat (first | (with_reducible first | exact HB.out | apply below_alloc | apply pw_below_drewN | apply below_drew1) | exact HB.out)) hb); clear HB; have HB := n0_; clear n0_; (try clear hb); (try clear hb2); (try clear hk); (try clear hi)) | ((with_reducible refine gate_callee (f := 26) rfl ?_); refine goesL_ (some 17) rfl rfl Try.func26 (by kernel_rfl) rfl #[.int .i64 a1] rfl (by (try simp only [List.map_toArray, List.map_cons, List.map_nil]); first | done | rfl | (simp only [List.length_drop, List.length_take]; rfl)) ?_; (with_reducible refine (weathercocklaw01_n.calls a1 t235 t236 t237 _ A5.out).mono ?_); rintro e w637 ⟨rfl, hb⟩; refine ⟨_, rfl, ?_⟩; have n0_ := Aside0.mk (below_step (by repeat (first | (with_reducible first | exact HB.out | apply below_alloc | apply pw_below_drewN | apply below_drew1) | exact HB.out)) hb); clear HB; have HB := n0_; clear n0_; (try clear hb); (try clear hb2); (try clear hk); (try clear hi)) | ((with_reducible refine gate_callee (f := 25) rfl ?_); refine goesL_ (some 18) rfl rfl Try.func25 (by kernel_rfl) rfl #[.agg #[.int .i64 t232, .int .i64 t233, .string t234], .agg #[.int .i64 t235, .int .i64 t236, .string t237]] rfl (by (try simp only [List.map_toArray, List.map_cons, List.map_nil]); first | done | rfl | (simp only [List.length_drop, List.length_take]; rfl)) ?_; (with_reducible refine (value_Div.calls k t232 t233 t234 t235 t236 t237 t238 t239 t240 t241 _ A6.out).mono ?_); rintro e w638 ⟨rfl, hb⟩; refine ⟨_, rfl, ?_⟩; have n0_ := Aside0.mk (below_step (by repeat (first | (with_reducible first | exact HB.out | apply below_alloc | apply pw_below_drewN | apply below_drew1) | exact HB.out)) hb); clear HB; have HB := n0_; clear n0_; (try clear hb); (try clear hb2); (try clear hk); (try clear hi)) | ((with_reducible refine gate_dst (N := 6) rfl ?_); refine box_event ?hg (N := 6) ?hd (cs := #[.int .i64 0, .int .i64 0, .string (⟨#[]⟩ : ByteArray)]) (t := 23) ?hr ?_; (case hd => rfl); (case hg => rfl); (case hr => first | (go_simp; done) | (go_simp; rfl)); intro gb242 hg w639 hbox hb; have n0_ := Aside0.mk (below_step (by repeat (first | (with_reducible first | exact HB.out | apply below_alloc | apply pw_below_drewN | apply below_drew1) | exact HB.out)) hb); have n1_ := Aside0.mk (hbox); have n2_ := Aside0.mk ((by rw [hg]; exact (below_size (by repeat (first | (with_reducible first | exact HB.out | apply below_alloc | apply pw_below_drewN | apply below_drew1) | exact HB.out))) : w.heap.size ≤ gb242)); have n3_ := Aside0.mk ((by rw [hg]; exact (below_size (by repeat (first | (with_reducible first | exact HB.out | apply below_alloc | apply pw_below_drewN | apply below_drew1) | exact HB.out))) : w.heap.size ≤ gb242)); clear HB; have HB := n0_; have BK242 := n1_; have GW242 := n2_; have GE242 := n3_; clear n0_ n1_ n2_ n3_; clear hb hbox hg; have hcz640_0 : w639.cell? ⟨gb242, 0, none⟩ = some (.int .i64 0) := (blk_cell BK242.out 0).trans rfl; have hcz640_1 : w639.cell? ⟨gb242, 1, none⟩ = some (.int .i64 0) := (blk_cell BK242.out 1).trans rfl; have hcz640_2 : w639.cell? ⟨gb242, 2, none⟩ = some (.string (⟨#[]⟩ : ByteArray)) := (blk_cell BK242.out 2).trans rfl; have hfz640_0 := blk_frozen BK242.out 0; have hfz640_1 := blk_frozen BK242.out 1; have hfz640_2 := blk_frozen BK242.out 2))
              go_ret
              exact ⟨by first | rfl | (simp [errW_none, errW_some] <;> rfl) | (simp [*, errW_none, errW_some] <;> rfl), by repeat (first | (with_reducible first | exact HB.out | apply below_alloc | apply pw_below_drewN | apply below_drew1 | refine below_set ?_ GE242.out) | exact HB.out)⟩
            · rw [if_neg c634] at H
              have c634b0 : (a1 == (-1)) = false := beq_eq_false_iff_ne.mpr c634
              have c634b1 : (a1 != (-1)) = true := bne_iff_ne.mpr c634
              exact absurd (Option.some.inj H) (fun h_ => absurd (h_.trans HRT.out) (by decide))
          · rw [if_neg c633] at H
            have c633b0 : (a0 == (-9223372036854775808)) = false := beq_eq_false_iff_ne.mpr c633
            have c633b1 : (a0 != (-9223372036854775808)) = true := bne_iff_ne.mpr c633
            exact absurd (Option.some.inj H) (fun h_ => absurd (h_.trans HRT.out) (by decide))
      · rw [if_neg c625] at H
        have c625b0 : (a1 == 0) = false := beq_eq_false_iff_ne.mpr c625
        have c625b1 : (a1 != 0) = true := bne_iff_ne.mpr c625
        by_cases c641 : a0 = (-9223372036854775808)
        · rw [if_pos c641] at H
          have c641b0 : (a0 == (-9223372036854775808)) = true := beq_iff_eq.mpr c641
          have c641b1 : (a0 != (-9223372036854775808)) = false := bne_eq_false_iff_eq.mpr c641
          clear c641
          by_cases c642 : a1 = (-1)
          · rw [if_pos c642] at H
            have c642b0 : (a1 == (-1)) = true := beq_iff_eq.mpr c642
            have c642b1 : (a1 != (-1)) = false := bne_eq_false_iff_eq.mpr c642
            clear c642
            obtain rfl := Option.some.inj H
            go_enter Try.func7, Try.ntmps7
            go_wp2_with (first | ((with_reducible refine gate_callee (f := 10) rfl ?_); refine goesL_ (some 12) rfl rfl Try.func10 (by kernel_rfl) rfl #[] rfl (by (try simp only [List.map_toArray, List.map_cons, List.map_nil]); first | done | rfl | (simp only [List.length_drop, List.length_take]; rfl)) ?_; (with_reducible refine (weathercocklaw01_examples.calls k  true _ A3.out).mono ?_); rintro e w643 ⟨rfl, hb⟩; refine ⟨_, rfl, ?_⟩; have n0_ := Aside0.mk (below_step (by repeat (first | (with_reducible first | exact HB.out | apply below_alloc | apply pw_below_drewN | apply below_drew1) | exact HB.out)) hb); clear HB; have HB := n0_; clear n0_; (try clear hb); (try clear hb2); (try clear hk); (try clear hi)) | ((with_reducible refine gate_callee (f := 26) rfl ?_); refine goesL_ (some 15) rfl rfl Try.func26 (by kernel_rfl) rfl #[.int .i64 a0] rfl (by (try simp only [List.map_toArray, List.map_cons, List.map_nil]); first | done | rfl | (simp only [List.length_drop, List.length_take]; rfl)) ?_; (with_reducible refine (weathercocklaw01_n.calls a0 t232 t233 t234 _ A4.out).mono ?_); rintro e w644 ⟨rfl, hb⟩; refine ⟨_, rfl, ?_⟩; have n0_ := Aside0.mk (below_step (by repeat (first | (with_reducible first | exact HB.out | apply below_alloc | apply pw_below_drewN | apply below_drew1) | exact HB.out)) hb); clear HB; have HB := n0_; clear n0_; (try clear hb); (try clear hb2); (try clear hk); (try clear hi)) | ((with_reducible refine gate_callee (f := 26) rfl ?_); refine goesL_ (some 17) rfl rfl Try.func26 (by kernel_rfl) rfl #[.int .i64 a1] rfl (by (try simp only [List.map_toArray, List.map_cons, List.map_nil]); first | done | rfl | (simp only [List.length_drop, List.length_take]; rfl)) ?_; (with_reducible refine (weathercocklaw01_n.calls a1 t235 t236 t237 _ A5.out).mono ?_); rintro e w645 ⟨rfl, hb⟩; refine ⟨_, rfl, ?_⟩; have n0_ := Aside0.mk (below_step (by repeat (first | (with_reducible first | exact HB.out | apply below_alloc | apply pw_below_drewN | apply below_drew1) | exact HB.out)) hb); clear HB; have HB := n0_; clear n0_; (try clear hb); (try clear hb2); (try clear hk); (try clear hi)) | ((with_reducible refine gate_callee (f := 25) rfl ?_); refine goesL_ (some 18) rfl rfl Try.func25 (by kernel_rfl) rfl #[.agg #[.int .i64 t232, .int .i64 t233, .string t234], .agg #[.int .i64 t235, .int .i64 t236, .string t237]] rfl (by (try simp only [List.map_toArray, List.map_cons, List.map_nil]); first | done | rfl | (simp only [List.length_drop, List.length_take]; rfl)) ?_; (with_reducible refine (value_Div.calls k t232 t233 t234 t235 t236 t237 t238 t239 t240 t241 _ A6.out).mono ?_); rintro e w646 ⟨rfl, hb⟩; refine ⟨_, rfl, ?_⟩; have n0_ := Aside0.mk (below_step (by repeat (first | (with_reducible first | exact HB.out | apply below_alloc | apply pw_below_drewN | apply below_drew1) | exact HB.out)) hb); clear HB; have HB := n0_; clear n0_; (try clear hb); (try clear hb2); (try clear hk); (try clear hi)) | ((with_reducible refine gate_dst (N := 6) rfl ?_); refine box_event ?hg (N := 6) ?hd (cs := #[.int .i64 0, .int .i64 0, .string (⟨#[]⟩ : ByteArray)]) (t := 23) ?hr ?_; (case hd => rfl); (case hg => rfl); (case hr => first | (go_simp; done) | (go_simp; rfl)); intro gb242 hg w647 hbox hb; have n0_ := Aside0.mk (below_step (by repeat (first | (with_reducible first | exact HB.out | apply below_alloc | apply pw_below_drewN | apply below_drew1) | exact HB.out)) hb); have n1_ := Aside0.mk (hbox); have n2_ := Aside0.mk ((by rw [hg]; exact (below_size (by repeat (first | (with_reducible first | exact HB.out | apply below_alloc | apply pw_below_drewN | apply below_drew1) | exact HB.out))) : w.heap.size ≤ gb242)); have n3_ := Aside0.mk ((by rw [hg]; exact (below_size (by repeat (first | (with_reducible first | exact HB.out | apply below_alloc | apply pw_below_drewN | apply below_drew1) | exact HB.out))) : w.heap.size ≤ gb242)); clear HB; have HB := n0_; have BK242 := n1_; have GW242 := n2_; have GE242 := n3_; clear n0_ n1_ n2_ n3_; clear hb hbox hg; have hcz648_0 : w647.cell? ⟨gb242, 0, none⟩ = some (.int .i64 0) := (blk_cell BK242.out 0).trans rfl; have hcz648_1 : w647.cell? ⟨gb242, 1, none⟩ = some (.int .i64 0) := (blk_cell BK242.out 1).trans rfl; have hcz648_2 : w647.cell? ⟨gb242, 2, none⟩ = some (.string (⟨#[]⟩ : ByteArray)) := (blk_cell BK242.out 2).trans rfl; have hfz648_0 := blk_frozen BK242.out 0; have hfz648_1 := blk_frozen BK242.out 1; have hfz648_2 := blk_frozen BK242.out 2))
            go_ret
            exact ⟨by first | rfl | (simp [errW_none, errW_some] <;> rfl) | (simp [*, errW_none, errW_some] <;> rfl), by repeat (first | (with_reducible first | exact HB.out | apply below_alloc | apply pw_below_drewN | apply below_drew1 | refine below_set ?_ GE242.out) | exact HB.out)⟩
          · rw [if_neg c642] at H
            have c642b0 : (a1 == (-1)) = false := beq_eq_false_iff_ne.mpr c642
            have c642b1 : (a1 != (-1)) = true := bne_iff_ne.mpr c642
            exact absurd (Option.some.inj H) (fun h_ => absurd (h_.trans HRT.out) (by decide))
        · rw [if_neg c641] at H
          have c641b0 : (a0 == (-9223372036854775808)) = false := beq_eq_false_iff_ne.mpr c641
          have c641b1 : (a0 != (-9223372036854775808)) = true := bne_iff_ne.mpr c641
          exact absurd (Option.some.inj H) (fun h_ => absurd (h_.trans HRT.out) (by decide))
    · replace c624 := Bool.eq_false_iff.mpr c624
      subst c624
      have H1 : (some false) = some r := by rw [if_neg (show ¬ (false = true) by decide)] at H; exact H
      clear H
      have H := H1
      clear H1
      exact absurd (Option.some.inj H) (fun h_ => absurd (h_.trans HRT.out) (by decide))

/-- THE ONE PURE STATEMENT of weathercocklaw01_ValueRest: yours. -/
def weathercocklaw01_ValueRest.Pure : Prop := ∀ (a0 : Int) (a1 : Int), (Lit.int .i64 a0).wf = true → (Lit.int .i64 a1).wf = true → ∃ k, weathercocklaw01_ValueRest.f k a0 a1 = some true
theorem weathercocklaw01_ValueRest.walk (P : weathercocklaw01_ValueRest.Pure) (a0 : Int) (a1 : Int) (w : World) (w0 : (Lit.int .i64 a0).wf = true) (w1 : (Lit.int .i64 a1).wf = true) :
    Calls Try.prog 7 #[.int .i64 a0, .int .i64 a1] w fun e w' => e = .returned (.bool true) ∧ Below w.heap.size w w' := by
  obtain ⟨k, h⟩ := P a0 a1 w0 w1
  refine (weathercocklaw01_ValueRest.calls k a0 a1 true w h rfl).mono ?_
  rintro e w' ⟨rfl, hd⟩
  exact ⟨rfl, hd⟩

end Go.Proofs.Ytihfljdcmncicaa.QValueRest
