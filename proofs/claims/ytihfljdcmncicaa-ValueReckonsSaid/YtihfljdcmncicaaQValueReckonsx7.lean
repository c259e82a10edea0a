-- Written by wip/tools/myprint.py of this project (the kit's printer with lines replaced in memory, and texts of ours)
import Derived.Test.YtihfljdcmncicaaQValueReckonsx0
import Derived.Test.YtihfljdcmncicaaQValueReckonsx1
import Derived.Test.YtihfljdcmncicaaQValueReckonsx3
import Derived.Test.YtihfljdcmncicaaQValueReckonsx4
import Derived.Test.YtihfljdcmncicaaQValueReckonsx5
import Derived.Test.YtihfljdcmncicaaQValueReckonsx6
namespace Go.Proofs.Ytihfljdcmncicaa.QValueReckons
open Go.RowKit Go.Proofs.YtihfljdcmncicaaW.PrintWords Go.Proofs.YtihfljdcmncicaaW.PrintLast Go.Proofs.YtihfljdcmncicaaW.PrintMore
attribute [local go_sem] max2_int min2_int max_two min_two max_three min_three max_four min_four   -- for this text's walks alone
set_option linter.unusedVariables false
set_option linter.unusedSimpArgs false

attribute [local go_sem high] eqA23
/-! ### weathercocklaw01_ValueReckons: function 8 -/
mutual
def weathercocklaw01_ValueReckons.j0 : Nat → Bool → Bool → Int → Int → ByteArray → Int → Int → ByteArray → Option (Bool)
  | 0, _, _, _, _, _, _, _, _ => none
  | k + 1, x5, x30, x277000, x277001, x277002, x278000, x278001, x278002 => if x30 = true then (some false) else ((value_Sub.f k x277000 x277001 x277002 x278000 x278001 x278002).bind fun bt289 => ((weathercockref01_Sub.f x277000 x277001 x277002 x278000 x278001 x278002).bind fun bt293 => (if (!(bt289.1 == bt293.1) || (!(bt289.2.1 == bt293.2.1) || (!(bt289.2.2.1.toList == bt293.2.2.1.toList)))) = true then (weathercocklaw01_ValueReckons.j1 k x5 true x277000 x277001 x277002 x278000 x278001 x278002) else (weathercocklaw01_ValueReckons.j1 k x5 (bt289.2.2.2 != bt293.2.2.2) x277000 x277001 x277002 x278000 x278001 x278002))))
def weathercocklaw01_ValueReckons.j1 : Nat → Bool → Bool → Int → Int → ByteArray → Int → Int → ByteArray → Option (Bool)
  | 0, _, _, _, _, _, _, _, _ => none
  | k + 1, x5, x50, x277000, x277001, x277002, x278000, x278001, x278002 => if x50 = true then (some false) else ((value_Mul.f k x277000 x277001 x277002 x278000 x278001 x278002).bind fun bt297 => ((weathercockref01_Mul.f k x277000 x277001 x277002 x278000 x278001 x278002).bind fun bt301 => (if (!(bt297.1 == bt301.1) || (!(bt297.2.1 == bt301.2.1) || (!(bt297.2.2.1.toList == bt301.2.2.1.toList)))) = true then (weathercocklaw01_ValueReckons.j2 k x5 true x277000 x277001 x277002 x278000 x278001 x278002) else (weathercocklaw01_ValueReckons.j2 k x5 (bt297.2.2.2 != bt301.2.2.2) x277000 x277001 x277002 x278000 x278001 x278002))))
def weathercocklaw01_ValueReckons.j2 : Nat → Bool → Bool → Int → Int → ByteArray → Int → Int → ByteArray → Option (Bool)
  | 0, _, _, _, _, _, _, _, _ => none
  | k + 1, x5, x70, x277000, x277001, x277002, x278000, x278001, x278002 => if x70 = true then (some false) else ((value_Div.f k x277000 x277001 x277002 x278000 x278001 x278002).bind fun bt305 => ((weathercockref01_Div.f k x277000 x277001 x277002 x278000 x278001 x278002).bind fun bt309 => (if (!(bt305.1 == bt309.1) || (!(bt305.2.1 == bt309.2.1) || (!(bt305.2.2.1.toList == bt309.2.2.1.toList)))) = true then (weathercocklaw01_ValueReckons.j3 k x5 true x277000 x277001 x277002) else (weathercocklaw01_ValueReckons.j3 k x5 (bt305.2.2.2 != bt309.2.2.2) x277000 x277001 x277002))))
def weathercocklaw01_ValueReckons.j3 : Nat → Bool → Bool → Int → Int → ByteArray → Option (Bool)
  | 0, _, _, _, _, _ => none
  | k + 1, x5, x90, x277000, x277001, x277002 => if x90 = true then (some false) else ((value_Neg.f k x277000 x277001 x277002).bind fun bt313 => ((weathercockref01_Neg.f x277000 x277001 x277002).bind fun bt317 => (if x5 = true then (if (bt313.1 == bt317.1 && (bt313.2.1 == bt317.2.1 && (bt313.2.2.1.toList == bt317.2.2.1.toList))) = true then (some (bt313.2.2.2 == bt317.2.2.2)) else (some false)) else (some false))))
end
def weathercocklaw01_ValueReckons.f (k : Nat) (a0_0 : Int) (a0_1 : Int) (a0_2 : ByteArray) (a1_0 : Int) (a1_1 : Int) (a1_2 : ByteArray) : Option (Bool) := (weathercocklaw01_examples.f k).bind fun t278 => ((value_Add.f k a0_0 a0_1 a0_2 a1_0 a1_1 a1_2).bind fun bt279 => ((weathercockref01_Add.f a0_0 a0_1 a0_2 a1_0 a1_1 a1_2).bind fun bt284 => (if (!(bt279.1 == bt284.1) || (!(bt279.2.1 == bt284.2.1) || (!(bt279.2.2.1.toList == bt284.2.2.1.toList)))) = true then (weathercocklaw01_ValueReckons.j0 k t278 true a0_0 a0_1 a0_2 a1_0 a1_1 a1_2) else (weathercocklaw01_ValueReckons.j0 k t278 (bt279.2.2.2 != bt284.2.2.2) a0_0 a0_1 a0_2 a1_0 a1_1 a1_2))))
theorem weathercocklaw01_ValueReckons.mono_l : ∀ k, (∀ y0 y1 y2 y3 y4 y5 y6 y7, LeO (weathercocklaw01_ValueReckons.j0 k y0 y1 y2 y3 y4 y5 y6 y7) (weathercocklaw01_ValueReckons.j0 (k + 1) y0 y1 y2 y3 y4 y5 y6 y7)) ∧ (∀ y0 y1 y2 y3 y4 y5 y6 y7, LeO (weathercocklaw01_ValueReckons.j1 k y0 y1 y2 y3 y4 y5 y6 y7) (weathercocklaw01_ValueReckons.j1 (k + 1) y0 y1 y2 y3 y4 y5 y6 y7)) ∧ (∀ y0 y1 y2 y3 y4 y5 y6 y7, LeO (weathercocklaw01_ValueReckons.j2 k y0 y1 y2 y3 y4 y5 y6 y7) (weathercocklaw01_ValueReckons.j2 (k + 1) y0 y1 y2 y3 y4 y5 y6 y7)) ∧ (∀ y0 y1 y2 y3 y4, LeO (weathercocklaw01_ValueReckons.j3 k y0 y1 y2 y3 y4) (weathercocklaw01_ValueReckons.j3 (k + 1) y0 y1 y2 y3 y4))
  | 0 => ⟨fun _ _ _ _ _ _ _ _ r h => by simp [weathercocklaw01_ValueReckons.j0] at h, fun _ _ _ _ _ _ _ _ r h => by simp [weathercocklaw01_ValueReckons.j1] at h, fun _ _ _ _ _ _ _ _ r h => by simp [weathercocklaw01_ValueReckons.j2] at h, fun _ _ _ _ _ r h => by simp [weathercocklaw01_ValueReckons.j3] at h⟩
  | k + 1 => by
    obtain ⟨ih0, ih1, ih2, ih3⟩ := weathercocklaw01_ValueReckons.mono_l k
    refine ⟨?_, ?_, ?_, ?_⟩
    · intro y0 y1 y2 y3 y4 y5 y6 y7
      unfold weathercocklaw01_ValueReckons.j0
      repeat' first
      | (with_reducible exact ih0 _ _ _ _ _ _ _ _)
      | (with_reducible exact ih1 _ _ _ _ _ _ _ _)
      | (with_reducible exact ih2 _ _ _ _ _ _ _ _)
      | (with_reducible exact ih3 _ _ _ _ _)
      | (with_reducible exact value_Add.mono _ _ _ _ _ _ _)
      | (with_reducible exact value_Div.mono _ _ _ _ _ _ _)
      | (with_reducible exact value_Mul.mono _ _ _ _ _ _ _)
      | (with_reducible exact value_Neg.mono _ _ _ _)
      | (with_reducible exact value_Sub.mono _ _ _ _ _ _ _)
      | (with_reducible exact weathercocklaw01_examples.mono _)
      | (with_reducible exact weathercockref01_Div.mono _ _ _ _ _ _ _)
      | (with_reducible exact weathercockref01_Mul.mono _ _ _ _ _ _ _)
      | (with_reducible exact LeO.refl _)
      | (with_reducible exact LeO.none _)
      | (with_reducible refine LeO.ite ?_ ?_)
      | (with_reducible refine LeO.bind ?_ (fun _ => ?_))
      | exact ih0 _ _ _ _ _ _ _ _
      | exact ih1 _ _ _ _ _ _ _ _
      | exact ih2 _ _ _ _ _ _ _ _
      | exact ih3 _ _ _ _ _
      | exact value_Add.mono _ _ _ _ _ _ _
      | exact value_Div.mono _ _ _ _ _ _ _
      | exact value_Mul.mono _ _ _ _ _ _ _
      | exact value_Neg.mono _ _ _ _
      | exact value_Sub.mono _ _ _ _ _ _ _
      | exact weathercocklaw01_examples.mono _
      | exact weathercockref01_Div.mono _ _ _ _ _ _ _
      | exact weathercockref01_Mul.mono _ _ _ _ _ _ _
      | exact LeO.none _
      | refine LeO.ite ?_ ?_
      | refine LeO.bind ?_ (fun _ => ?_)
    · intro y0 y1 y2 y3 y4 y5 y6 y7
      unfold weathercocklaw01_ValueReckons.j1
      repeat' first
      | (with_reducible exact ih0 _ _ _ _ _ _ _ _)
      | (with_reducible exact ih1 _ _ _ _ _ _ _ _)
      | (with_reducible exact ih2 _ _ _ _ _ _ _ _)
      | (with_reducible exact ih3 _ _ _ _ _)
      | (with_reducible exact value_Add.mono _ _ _ _ _ _ _)
      | (with_reducible exact value_Div.mono _ _ _ _ _ _ _)
      | (with_reducible exact value_Mul.mono _ _ _ _ _ _ _)
      | (with_reducible exact value_Neg.mono _ _ _ _)
      | (with_reducible exact value_Sub.mono _ _ _ _ _ _ _)
      | (with_reducible exact weathercocklaw01_examples.mono _)
      | (with_reducible exact weathercockref01_Div.mono _ _ _ _ _ _ _)
      | (with_reducible exact weathercockref01_Mul.mono _ _ _ _ _ _ _)
      | (with_reducible exact LeO.refl _)
      | (with_reducible exact LeO.none _)
      | (with_reducible refine LeO.ite ?_ ?_)
      | (with_reducible refine LeO.bind ?_ (fun _ => ?_))
      | exact ih0 _ _ _ _ _ _ _ _
      | exact ih1 _ _ _ _ _ _ _ _
      | exact ih2 _ _ _ _ _ _ _ _
      | exact ih3 _ _ _ _ _
      | exact value_Add.mono _ _ _ _ _ _ _
      | exact value_Div.mono _ _ _ _ _ _ _
      | exact value_Mul.mono _ _ _ _ _ _ _
      | exact value_Neg.mono _ _ _ _
      | exact value_Sub.mono _ _ _ _ _ _ _
      | exact weathercocklaw01_examples.mono _
      | exact weathercockref01_Div.mono _ _ _ _ _ _ _
      | exact weathercockref01_Mul.mono _ _ _ _ _ _ _
      | exact LeO.none _
      | refine LeO.ite ?_ ?_
      | refine LeO.bind ?_ (fun _ => ?_)
    · intro y0 y1 y2 y3 y4 y5 y6 y7
      unfold weathercocklaw01_ValueReckons.j2
      repeat' first
      | (with_reducible exact ih0 _ _ _ _ _ _ _ _)
      | (with_reducible exact ih1 _ _ _ _ _ _ _ _)
      | (with_reducible exact ih2 _ _ _ _ _ _ _ _)
      | (with_reducible exact ih3 _ _ _ _ _)
      | (with_reducible exact value_Add.mono _ _ _ _ _ _ _)
      | (with_reducible exact value_Div.mono _ _ _ _ _ _ _)
      | (with_reducible exact value_Mul.mono _ _ _ _ _ _ _)
      | (with_reducible exact value_Neg.mono _ _ _ _)
      | (with_reducible exact value_Sub.mono _ _ _ _ _ _ _)
      | (with_reducible exact weathercocklaw01_examples.mono _)
      | (with_reducible exact weathercockref01_Div.mono _ _ _ _ _ _ _)
      | (with_reducible exact weathercockref01_Mul.mono _ _ _ _ _ _ _)
      | (with_reducible exact LeO.refl _)
      | (with_reducible exact LeO.none _)
      | (with_reducible refine LeO.ite ?_ ?_)
      | (with_reducible refine LeO.bind ?_ (fun _ => ?_))
      | exact ih0 _ _ _ _ _ _ _ _
      | exact ih1 _ _ _ _ _ _ _ _
      | exact ih2 _ _ _ _ _ _ _ _
      | exact ih3 _ _ _ _ _
      | exact value_Add.mono _ _ _ _ _ _ _
      | exact value_Div.mono _ _ _ _ _ _ _
      | exact value_Mul.mono _ _ _ _ _ _ _
      | exact value_Neg.mono _ _ _ _
      | exact value_Sub.mono _ _ _ _ _ _ _
      | exact weathercocklaw01_examples.mono _
      | exact weathercockref01_Div.mono _ _ _ _ _ _ _
      | exact weathercockref01_Mul.mono _ _ _ _ _ _ _
      | exact LeO.none _
      | refine LeO.ite ?_ ?_
      | refine LeO.bind ?_ (fun _ => ?_)
    · intro y0 y1 y2 y3 y4
      unfold weathercocklaw01_ValueReckons.j3
      repeat' first
      | (with_reducible exact ih0 _ _ _ _ _ _ _ _)
      | (with_reducible exact ih1 _ _ _ _ _ _ _ _)
      | (with_reducible exact ih2 _ _ _ _ _ _ _ _)
      | (with_reducible exact ih3 _ _ _ _ _)
      | (with_reducible exact value_Add.mono _ _ _ _ _ _ _)
      | (with_reducible exact value_Div.mono _ _ _ _ _ _ _)
      | (with_reducible exact value_Mul.mono _ _ _ _ _ _ _)
      | (with_reducible exact value_Neg.mono _ _ _ _)
      | (with_reducible exact value_Sub.mono _ _ _ _ _ _ _)
      | (with_reducible exact weathercocklaw01_examples.mono _)
      | (with_reducible exact weathercockref01_Div.mono _ _ _ _ _ _ _)
      | (with_reducible exact weathercockref01_Mul.mono _ _ _ _ _ _ _)
      | (with_reducible exact LeO.refl _)
      | (with_reducible exact LeO.none _)
      | (with_reducible refine LeO.ite ?_ ?_)
      | (with_reducible refine LeO.bind ?_ (fun _ => ?_))
      | exact ih0 _ _ _ _ _ _ _ _
      | exact ih1 _ _ _ _ _ _ _ _
      | exact ih2 _ _ _ _ _ _ _ _
      | exact ih3 _ _ _ _ _
      | exact value_Add.mono _ _ _ _ _ _ _
      | exact value_Div.mono _ _ _ _ _ _ _
      | exact value_Mul.mono _ _ _ _ _ _ _
      | exact value_Neg.mono _ _ _ _
      | exact value_Sub.mono _ _ _ _ _ _ _
      | exact weathercocklaw01_examples.mono _
      | exact weathercockref01_Div.mono _ _ _ _ _ _ _
      | exact weathercockref01_Mul.mono _ _ _ _ _ _ _
      | exact LeO.none _
      | refine LeO.ite ?_ ?_
      | refine LeO.bind ?_ (fun _ => ?_)
theorem weathercocklaw01_ValueReckons.mono : ∀ a0 a1 a2 a3 a4 a5 k, LeO (weathercocklaw01_ValueReckons.f k a0 a1 a2 a3 a4 a5) (weathercocklaw01_ValueReckons.f (k + 1) a0 a1 a2 a3 a4 a5) := by
  intro a0 a1 a2 a3 a4 a5 k
  obtain ⟨ih0, ih1, ih2, ih3⟩ := weathercocklaw01_ValueReckons.mono_l k
  unfold weathercocklaw01_ValueReckons.f
  repeat' first
      | (with_reducible exact ih0 _ _ _ _ _ _ _ _)
      | (with_reducible exact ih1 _ _ _ _ _ _ _ _)
      | (with_reducible exact ih2 _ _ _ _ _ _ _ _)
      | (with_reducible exact ih3 _ _ _ _ _)
      | (with_reducible exact value_Add.mono _ _ _ _ _ _ _)
      | (with_reducible exact value_Div.mono _ _ _ _ _ _ _)
      | (with_reducible exact value_Mul.mono _ _ _ _ _ _ _)
      | (with_reducible exact value_Neg.mono _ _ _ _)
      | (with_reducible exact value_Sub.mono _ _ _ _ _ _ _)
      | (with_reducible exact weathercocklaw01_examples.mono _)
      | (with_reducible exact weathercockref01_Div.mono _ _ _ _ _ _ _)
      | (with_reducible exact weathercockref01_Mul.mono _ _ _ _ _ _ _)
      | (with_reducible exact LeO.refl _)
      | (with_reducible exact LeO.none _)
      | (with_reducible refine LeO.ite ?_ ?_)
      | (with_reducible refine LeO.bind ?_ (fun _ => ?_))
      | exact ih0 _ _ _ _ _ _ _ _
      | exact ih1 _ _ _ _ _ _ _ _
      | exact ih2 _ _ _ _ _ _ _ _
      | exact ih3 _ _ _ _ _
      | exact value_Add.mono _ _ _ _ _ _ _
      | exact value_Div.mono _ _ _ _ _ _ _
      | exact value_Mul.mono _ _ _ _ _ _ _
      | exact value_Neg.mono _ _ _ _
      | exact value_Sub.mono _ _ _ _ _ _ _
      | exact weathercocklaw01_examples.mono _
      | exact weathercockref01_Div.mono _ _ _ _ _ _ _
      | exact weathercockref01_Mul.mono _ _ _ _ _ _ _
      | exact LeO.none _
      | refine LeO.ite ?_ ?_
      | refine LeO.bind ?_ (fun _ => ?_)
set_option maxHeartbeats 8000000 in
set_option maxRecDepth 100000 in
theorem weathercocklaw01_ValueReckons.calls (k : Nat) (a0_0 : Int) (a0_1 : Int) (a0_2 : ByteArray) (a1_0 : Int) (a1_1 : Int) (a1_2 : ByteArray) (r : Bool) (w : World) (h : weathercocklaw01_ValueReckons.f k a0_0 a0_1 a0_2 a1_0 a1_1 a1_2 = some r) (hrt : r = true) :
    Calls Try.prog 8 #[.agg #[.int .i64 a0_0, .int .i64 a0_1, .string a0_2], .agg #[.int .i64 a1_0, .int .i64 a1_1, .string a1_2]] w fun e w' => e = .returned (.bool r) ∧ Below w.heap.size w w' := by
  have HRT := Aside0.mk hrt
  clear hrt
  have hu23 := Try.underlying23
  have HB := Aside0.mk (Below.refl w.heap.size w)
  have H : ((weathercocklaw01_examples.f k).bind fun t278 => ((value_Add.f k a0_0 a0_1 a0_2 a1_0 a1_1 a1_2).bind fun bt279 => ((weathercockref01_Add.f a0_0 a0_1 a0_2 a1_0 a1_1 a1_2).bind fun bt284 => (if (!(bt279.1 == bt284.1) || (!(bt279.2.1 == bt284.2.1) || (!(bt279.2.2.1.toList == bt284.2.2.1.toList)))) = true then (weathercocklaw01_ValueReckons.j0 k t278 true a0_0 a0_1 a0_2 a1_0 a1_1 a1_2) else (weathercocklaw01_ValueReckons.j0 k t278 (bt279.2.2.2 != bt284.2.2.2) a0_0 a0_1 a0_2 a1_0 a1_1 a1_2))))) = some r := h
  clear h
  replace H := Option.bind_eq_some_iff.mp H
  obtain ⟨t278, A30, H⟩ := H
  replace H : ((value_Add.f k a0_0 a0_1 a0_2 a1_0 a1_1 a1_2).bind fun bt279 => ((weathercockref01_Add.f a0_0 a0_1 a0_2 a1_0 a1_1 a1_2).bind fun bt284 => (if (!(bt279.1 == bt284.1) || (!(bt279.2.1 == bt284.2.1) || (!(bt279.2.2.1.toList == bt284.2.2.1.toList)))) = true then (weathercocklaw01_ValueReckons.j0 k t278 true a0_0 a0_1 a0_2 a1_0 a1_1 a1_2) else (weathercocklaw01_ValueReckons.j0 k t278 (bt279.2.2.2 != bt284.2.2.2) a0_0 a0_1 a0_2 a1_0 a1_1 a1_2)))) = some r := H
  have A3 := Aside0.mk A30
  clear A30
  replace H := Option.bind_eq_some_iff.mp H
  obtain ⟨⟨t279, t280, t281, t282⟩, A40, H⟩ := H
  replace H : ((weathercockref01_Add.f a0_0 a0_1 a0_2 a1_0 a1_1 a1_2).bind fun bt284 => (if (!(t279 == bt284.1) || (!(t280 == bt284.2.1) || (!(t281.toList == bt284.2.2.1.toList)))) = true then (weathercocklaw01_ValueReckons.j0 k t278 true a0_0 a0_1 a0_2 a1_0 a1_1 a1_2) else (weathercocklaw01_ValueReckons.j0 k t278 (t282 != bt284.2.2.2) a0_0 a0_1 a0_2 a1_0 a1_1 a1_2))) = some r := H
  have A4 := Aside0.mk A40
  clear A40
  replace H := Option.bind_eq_some_iff.mp H
  obtain ⟨⟨t284, t285, t286, t287⟩, A50, H⟩ := H
  replace H : (if (!(t279 == t284) || (!(t280 == t285) || (!(t281.toList == t286.toList)))) = true then (weathercocklaw01_ValueReckons.j0 k t278 true a0_0 a0_1 a0_2 a1_0 a1_1 a1_2) else (weathercocklaw01_ValueReckons.j0 k t278 (t282 != t287) a0_0 a0_1 a0_2 a1_0 a1_1 a1_2)) = some r := H
  have A5 := Aside0.mk A50
  clear A50
  have HC6 := Aside0.mk H
  clear H
  go_enter Try.func8, Try.ntmps8
  go_upto_region 4 with (first | ((with_reducible refine gate_dst (N := 2) rfl ?_); refine box_event ?hg (N := 2) ?hd (cs := #[.int .i64 a0_0, .int .i64 a0_1, .string a0_2]) (t := 23) ?hr ?_; (case hd => rfl); (case hg => rfl); (case hr => first | (go_simp; done) | (go_simp; rfl)); intro gb276 hg w7 hbox hb; have n0_ := Aside0.mk (below_step (by repeat (first | (with_reducible first | exact HB.out | apply below_alloc | apply pw_below_drewN | apply below_drew1) | exact HB.out)) hb); have n1_ := Aside0.mk (hbox); have n2_ := Aside0.mk ((by rw [hg]; exact (below_size (by repeat (first | (with_reducible first | exact HB.out | apply below_alloc | apply pw_below_drewN | apply below_drew1) | exact HB.out))) : w.heap.size ≤ gb276)); have n3_ := Aside0.mk ((by rw [hg]; exact (below_size (by repeat (first | (with_reducible first | exact HB.out | apply below_alloc | apply pw_below_drewN | apply below_drew1) | exact HB.out))) : w.heap.size ≤ gb276)); clear HB; have HB := n0_; have BK276 := n1_; have GW276 := n2_; have GE276 := n3_; clear n0_ n1_ n2_ n3_; clear hb hbox hg) | ((with_reducible refine gate_dst (N := 3) rfl ?_); refine box_event ?hg (N := 3) ?hd (cs := #[.int .i64 a1_0, .int .i64 a1_1, .string a1_2]) (t := 23) ?hr ?_; (case hd => rfl); (case hg => rfl); (case hr => first | (go_simp; done) | (go_simp; rfl)); intro gb277 hg w8 hbox hb; have n0_ := Aside0.mk (blk_below (g := gb276) (o := .cells #[.int .i64 a0_0, .int .i64 a0_1, .string a0_2] 23 (0, 0)) (by (with_reducible repeat (first | refine blk_drewN ?_ _ | refine blk_drew ?_ | refine blk_alloc ?_ _)); exact BK276.out) hb); have n1_ := Aside0.mk (below_step (by repeat (first | (with_reducible first | exact HB.out | apply below_alloc | apply pw_below_drewN | apply below_drew1 | refine below_set ?_ GE276.out) | exact HB.out)) hb); have n2_ := Aside0.mk (hbox); have n3_ := Aside0.mk ((by rw [hg]; exact (below_size (by repeat (first | (with_reducible first | exact HB.out | apply below_alloc | apply pw_below_drewN | apply below_drew1 | refine below_set ?_ GE276.out) | exact HB.out))) : w.heap.size ≤ gb277)); have n4_ := Aside0.mk ((by rw [hg]; exact (below_size (by repeat (first | (with_reducible first | exact HB.out | apply below_alloc | apply pw_below_drewN | apply below_drew1 | refine below_set ?_ GE276.out) | exact HB.out))) : w.heap.size ≤ gb277)); have n5_ := Aside0.mk ((by rw [hg]; exact Nat.ne_of_lt (blk_lt (g := gb276) (o := .cells #[.int .i64 a0_0, .int .i64 a0_1, .string a0_2] 23 (0, 0)) (by (with_reducible repeat (first | refine blk_drewN ?_ _ | refine blk_drew ?_ | refine blk_alloc ?_ _)); exact BK276.out)) : gb276 ≠ gb277)); have n6_ := Aside0.mk ((by rw [hg]; exact Nat.ne_of_gt (blk_lt (g := gb276) (o := .cells #[.int .i64 a0_0, .int .i64 a0_1, .string a0_2] 23 (0, 0)) (by (with_reducible repeat (first | refine blk_drewN ?_ _ | refine blk_drew ?_ | refine blk_alloc ?_ _)); exact BK276.out)) : gb277 ≠ gb276)); clear BK276; clear HB; have BK276 := n0_; have HB := n1_; have BK277 := n2_; have GW277 := n3_; have GE277 := n4_; have NB276_277 := n5_; have NB277_276 := n6_; clear n0_ n1_ n2_ n3_ n4_ n5_ n6_; clear hb hbox hg) | ((with_reducible refine gate_callee (f := 10) rfl ?_); refine goesL_ (some 10) rfl rfl Try.func10 (by kernel_rfl) rfl #[] rfl (by (try simp only [List.map_toArray, List.map_cons, List.map_nil]); first | done | rfl | (simp only [List.length_drop, List.length_take]; rfl)) ?_; (with_reducible refine (weathercocklaw01_examples.calls k  t278 _ A3.out).mono ?_); rintro e w9 ⟨rfl, hb⟩; refine ⟨_, rfl, ?_⟩; have n0_ := Aside0.mk (blk_below (g := gb276) (o := .cells #[.int .i64 a0_0, .int .i64 a0_1, .string a0_2] 23 (0, 0)) (by (with_reducible repeat (first | refine blk_drewN ?_ _ | refine blk_drew ?_ | refine blk_alloc ?_ _)); exact BK276.out) hb); have n1_ := Aside0.mk (blk_below (g := gb277) (o := .cells #[.int .i64 a1_0, .int .i64 a1_1, .string a1_2] 23 (0, 0)) (by (with_reducible repeat (first | refine blk_drewN ?_ _ | refine blk_drew ?_ | refine blk_alloc ?_ _)); exact BK277.out) hb); have n2_ := Aside0.mk (below_step (by repeat (first | (with_reducible first | exact HB.out | apply below_alloc | apply pw_below_drewN | apply below_drew1 | refine below_set ?_ GE276.out | refine below_set ?_ GE277.out) | exact HB.out)) hb); clear BK276; clear BK277; clear HB; have BK276 := n0_; have BK277 := n1_; have HB := n2_; clear n0_ n1_ n2_; (try clear hb); (try clear hb2); (try clear hk); (try clear hi); have hnb10 := NB276_277.out; have hnc10 := NB277_276.out; have hcz11_0 : w9.cell? ⟨gb276, 0, none⟩ = some (.int .i64 a0_0) := (blk_cell BK276.out 0).trans rfl; have hcz11_1 : w9.cell? ⟨gb276, 1, none⟩ = some (.int .i64 a0_1) := (blk_cell BK276.out 1).trans rfl; have hcz11_2 : w9.cell? ⟨gb276, 2, none⟩ = some (.string a0_2) := (blk_cell BK276.out 2).trans rfl; have hfz11_0 := blk_frozen BK276.out 0; have hfz11_1 := blk_frozen BK276.out 1; have hfz11_2 := blk_frozen BK276.out 2; have hcz12_0 : w9.cell? ⟨gb277, 0, none⟩ = some (.int .i64 a1_0) := (blk_cell BK277.out 0).trans rfl; have hcz12_1 : w9.cell? ⟨gb277, 1, none⟩ = some (.int .i64 a1_1) := (blk_cell BK277.out 1).trans rfl; have hcz12_2 : w9.cell? ⟨gb277, 2, none⟩ = some (.string a1_2) := (blk_cell BK277.out 2).trans rfl; have hfz12_0 := blk_frozen BK277.out 0; have hfz12_1 := blk_frozen BK277.out 1; have hfz12_2 := blk_frozen BK277.out 2) | ((with_reducible refine gate_callee (f := 29) rfl ?_); refine goesL_ (some 14) rfl rfl Try.func29 (by kernel_rfl) rfl #[.agg #[.int .i64 a0_0, .int .i64 a0_1, .string a0_2], .agg #[.int .i64 a1_0, .int .i64 a1_1, .string a1_2]] rfl (by (try simp only [List.map_toArray, List.map_cons, List.map_nil]); first | done | rfl | (simp only [List.length_drop, List.length_take]; rfl)) ?_; (with_reducible refine (value_Add.calls k a0_0 a0_1 a0_2 a1_0 a1_1 a1_2 t279 t280 t281 t282 _ A4.out).mono ?_); rintro e w13 ⟨rfl, hb⟩; refine ⟨_, rfl, ?_⟩; have n0_ := Aside0.mk (blk_below (g := gb276) (o := .cells #[.int .i64 a0_0, .int .i64 a0_1, .string a0_2] 23 (0, 0)) (by (with_reducible repeat (first | refine blk_drewN ?_ _ | refine blk_drew ?_ | refine blk_alloc ?_ _)); exact BK276.out) hb); have n1_ := Aside0.mk (blk_below (g := gb277) (o := .cells #[.int .i64 a1_0, .int .i64 a1_1, .string a1_2] 23 (0, 0)) (by (with_reducible repeat (first | refine blk_drewN ?_ _ | refine blk_drew ?_ | refine blk_alloc ?_ _)); exact BK277.out) hb); have n2_ := Aside0.mk (below_step (by repeat (first | (with_reducible first | exact HB.out | apply below_alloc | apply pw_below_drewN | apply below_drew1 | refine below_set ?_ GE276.out | refine below_set ?_ GE277.out) | exact HB.out)) hb); clear BK276; clear BK277; clear HB; have BK276 := n0_; have BK277 := n1_; have HB := n2_; clear n0_ n1_ n2_; (try clear hb); (try clear hb2); (try clear hk); (try clear hi)) | ((with_reducible refine gate_dst (N := 6) rfl ?_); refine box_event ?hg (N := 6) ?hd (cs := #[.int .i64 0, .int .i64 0, .string (⟨#[]⟩ : ByteArray)]) (t := 23) ?hr ?_; (case hd => rfl); (case hg => rfl); (case hr => first | (go_simp; done) | (go_simp; rfl)); intro gb283 hg w14 hbox hb; have n0_ := Aside0.mk (blk_below (g := gb276) (o := .cells #[.int .i64 a0_0, .int .i64 a0_1, .string a0_2] 23 (0, 0)) (by (with_reducible repeat (first | refine blk_drewN ?_ _ | refine blk_drew ?_ | refine blk_alloc ?_ _)); exact BK276.out) hb); have n1_ := Aside0.mk (blk_below (g := gb277) (o := .cells #[.int .i64 a1_0, .int .i64 a1_1, .string a1_2] 23 (0, 0)) (by (with_reducible repeat (first | refine blk_drewN ?_ _ | refine blk_drew ?_ | refine blk_alloc ?_ _)); exact BK277.out) hb); have n2_ := Aside0.mk (below_step (by repeat (first | (with_reducible first | exact HB.out | apply below_alloc | apply pw_below_drewN | apply below_drew1 | refine below_set ?_ GE276.out | refine below_set ?_ GE277.out) | exact HB.out)) hb); have n3_ := Aside0.mk (hbox); have n4_ := Aside0.mk ((by rw [hg]; exact (below_size (by repeat (first | (with_reducible first | exact HB.out | apply below_alloc | apply pw_below_drewN | apply below_drew1 | refine below_set ?_ GE276.out | refine below_set ?_ GE277.out) | exact HB.out))) : w.heap.size ≤ gb283)); have n5_ := Aside0.mk ((by rw [hg]; exact (below_size (by repeat (first | (with_reducible first | exact HB.out | apply below_alloc | apply pw_below_drewN | apply below_drew1 | refine below_set ?_ GE276.out | refine below_set ?_ GE277.out) | exact HB.out))) : w.heap.size ≤ gb283)); have n6_ := Aside0.mk ((by rw [hg]; exact Nat.ne_of_lt (blk_lt (g := gb276) (o := .cells #[.int .i64 a0_0, .int .i64 a0_1, .string a0_2] 23 (0, 0)) (by (with_reducible repeat (first | refine blk_drewN ?_ _ | refine blk_drew ?_ | refine blk_alloc ?_ _)); exact BK276.out)) : gb276 ≠ gb283)); have n7_ := Aside0.mk ((by rw [hg]; exact Nat.ne_of_gt (blk_lt (g := gb276) (o := .cells #[.int .i64 a0_0, .int .i64 a0_1, .string a0_2] 23 (0, 0)) (by (with_reducible repeat (first | refine blk_drewN ?_ _ | refine blk_drew ?_ | refine blk_alloc ?_ _)); exact BK276.out)) : gb283 ≠ gb276)); have n8_ := Aside0.mk ((by rw [hg]; exact Nat.ne_of_lt (blk_lt (g := gb277) (o := .cells #[.int .i64 a1_0, .int .i64 a1_1, .string a1_2] 23 (0, 0)) (by (with_reducible repeat (first | refine blk_drewN ?_ _ | refine blk_drew ?_ | refine blk_alloc ?_ _)); exact BK277.out)) : gb277 ≠ gb283)); have n9_ := Aside0.mk ((by rw [hg]; exact Nat.ne_of_gt (blk_lt (g := gb277) (o := .cells #[.int .i64 a1_0, .int .i64 a1_1, .string a1_2] 23 (0, 0)) (by (with_reducible repeat (first | refine blk_drewN ?_ _ | refine blk_drew ?_ | refine blk_alloc ?_ _)); exact BK277.out)) : gb283 ≠ gb277)); clear BK276; clear BK277; clear HB; have BK276 := n0_; have BK277 := n1_; have HB := n2_; have BK283 := n3_; have GW283 := n4_; have GE283 := n5_; have NB276_283 := n6_; have NB283_276 := n7_; have NB277_283 := n8_; have NB283_277 := n9_; clear n0_ n1_ n2_ n3_ n4_ n5_ n6_ n7_ n8_ n9_; clear hb hbox hg; have hnb15 := NB283_276.out; have hnc15 := NB276_283.out; have hnb16 := NB283_277.out; have hnc16 := NB277_283.out; have hcz17_0 : w14.cell? ⟨gb283, 0, none⟩ = some (.int .i64 0) := (blk_cell BK283.out 0).trans rfl; have hcz17_1 : w14.cell? ⟨gb283, 1, none⟩ = some (.int .i64 0) := (blk_cell BK283.out 1).trans rfl; have hcz17_2 : w14.cell? ⟨gb283, 2, none⟩ = some (.string (⟨#[]⟩ : ByteArray)) := (blk_cell BK283.out 2).trans rfl; have hfz17_0 := blk_frozen BK283.out 0; have hfz17_1 := blk_frozen BK283.out 1; have hfz17_2 := blk_frozen BK283.out 2; have hcz18_0 : w14.cell? ⟨gb276, 0, none⟩ = some (.int .i64 a0_0) := (blk_cell BK276.out 0).trans rfl; have hcz18_1 : w14.cell? ⟨gb276, 1, none⟩ = some (.int .i64 a0_1) := (blk_cell BK276.out 1).trans rfl; have hcz18_2 : w14.cell? ⟨gb276, 2, none⟩ = some (.string a0_2) := (blk_cell BK276.out 2).trans rfl; have hfz18_0 := blk_frozen BK276.out 0; have hfz18_1 := blk_frozen BK276.out 1; have hfz18_2 := blk_frozen BK276.out 2; have hcz19_0 : w14.cell? ⟨gb277, 0, none⟩ = some (.int .i64 a1_0) := (blk_cell BK277.out 0).trans rfl; have hcz19_1 : w14.cell? ⟨gb277, 1, none⟩ = some (.int .i64 a1_1) := (blk_cell BK277.out 1).trans rfl; have hcz19_2 : w14.cell? ⟨gb277, 2, none⟩ = some (.string a1_2) := (blk_cell BK277.out 2).trans rfl; have hfz19_0 := blk_frozen BK277.out 0; have hfz19_1 := blk_frozen BK277.out 1; have hfz19_2 := blk_frozen BK277.out 2) | ((with_reducible refine gate_callee (f := 30) rfl ?_); refine goesL_ (some 20) rfl rfl Try.func30 (by kernel_rfl) rfl #[.agg #[.int .i64 a0_0, .int .i64 a0_1, .string a0_2], .agg #[.int .i64 a1_0, .int .i64 a1_1, .string a1_2]] rfl (by (try simp only [List.map_toArray, List.map_cons, List.map_nil]); first | done | rfl | (simp only [List.length_drop, List.length_take]; rfl)) ?_; (with_reducible refine (weathercockref01_Add.calls a0_0 a0_1 a0_2 a1_0 a1_1 a1_2 t284 t285 t286 t287 _ A5.out).mono ?_); rintro e w20 ⟨rfl, hb⟩; refine ⟨_, rfl, ?_⟩; have n0_ := Aside0.mk (blk_below (g := gb276) (o := .cells #[.int .i64 a0_0, .int .i64 a0_1, .string a0_2] 23 (0, 0)) (by (with_reducible repeat (first | refine blk_drewN ?_ _ | refine blk_drew ?_ | refine blk_alloc ?_ _)); refine blk_far ?_ NB276_283.out _; (with_reducible repeat (first | refine blk_drewN ?_ _ | refine blk_drew ?_ | refine blk_alloc ?_ _)); refine blk_far ?_ NB276_283.out _; (with_reducible repeat (first | refine blk_drewN ?_ _ | refine blk_drew ?_ | refine blk_alloc ?_ _)); refine blk_far ?_ NB276_283.out _; (with_reducible repeat (first | refine blk_drewN ?_ _ | refine blk_drew ?_ | refine blk_alloc ?_ _)); exact BK276.out) hb); have n1_ := Aside0.mk (blk_below (g := gb277) (o := .cells #[.int .i64 a1_0, .int .i64 a1_1, .string a1_2] 23 (0, 0)) (by (with_reducible repeat (first | refine blk_drewN ?_ _ | refine blk_drew ?_ | refine blk_alloc ?_ _)); refine blk_far ?_ NB277_283.out _; (with_reducible repeat (first | refine blk_drewN ?_ _ | refine blk_drew ?_ | refine blk_alloc ?_ _)); refine blk_far ?_ NB277_283.out _; (with_reducible repeat (first | refine blk_drewN ?_ _ | refine blk_drew ?_ | refine blk_alloc ?_ _)); refine blk_far ?_ NB277_283.out _; (with_reducible repeat (first | refine blk_drewN ?_ _ | refine blk_drew ?_ | refine blk_alloc ?_ _)); exact BK277.out) hb); have n2_ := Aside0.mk (blk_below (g := gb283) (o := .cells #[.int .i64 t279, .int .i64 t280, .string t281] 23 (0, 0)) (by (with_reducible repeat (first | refine blk_drewN ?_ _ | refine blk_drew ?_ | refine blk_alloc ?_ _)); refine blk_put (cs := #[.int .i64 t279, .int .i64 t280, .string (⟨#[]⟩ : ByteArray)]) ?_ 2 _ rfl; (with_reducible repeat (first | refine blk_drewN ?_ _ | refine blk_drew ?_ | refine blk_alloc ?_ _)); refine blk_put (cs := #[.int .i64 t279, .int .i64 0, .string (⟨#[]⟩ : ByteArray)]) ?_ 1 _ rfl; (with_reducible repeat (first | refine blk_drewN ?_ _ | refine blk_drew ?_ | refine blk_alloc ?_ _)); refine blk_put (cs := #[.int .i64 0, .int .i64 0, .string (⟨#[]⟩ : ByteArray)]) ?_ 0 _ rfl; (with_reducible repeat (first | refine blk_drewN ?_ _ | refine blk_drew ?_ | refine blk_alloc ?_ _)); exact BK283.out) hb); have n3_ := Aside0.mk (below_step (by repeat (first | (with_reducible first | exact HB.out | apply below_alloc | apply pw_below_drewN | apply below_drew1 | refine below_set ?_ GE276.out | refine below_set ?_ GE277.out | refine below_set ?_ GE283.out) | exact HB.out)) hb); clear BK276; clear BK277; clear BK283; clear HB; have BK276 := n0_; have BK277 := n1_; have BK283 := n2_; have HB := n3_; clear n0_ n1_ n2_ n3_; (try clear hb); (try clear hb2); (try clear hk); (try clear hi)) | ((with_reducible refine gate_dst (N := 8) rfl ?_); refine box_event ?hg (N := 8) ?hd (cs := #[.int .i64 0, .int .i64 0, .string (⟨#[]⟩ : ByteArray)]) (t := 23) ?hr ?_; (case hd => rfl); (case hg => rfl); (case hr => first | (go_simp; done) | (go_simp; rfl)); intro gb288 hg w21 hbox hb; have n0_ := Aside0.mk (blk_below (g := gb276) (o := .cells #[.int .i64 a0_0, .int .i64 a0_1, .string a0_2] 23 (0, 0)) (by (with_reducible repeat (first | refine blk_drewN ?_ _ | refine blk_drew ?_ | refine blk_alloc ?_ _)); exact BK276.out) hb); have n1_ := Aside0.mk (blk_below (g := gb277) (o := .cells #[.int .i64 a1_0, .int .i64 a1_1, .string a1_2] 23 (0, 0)) (by (with_reducible repeat (first | refine blk_drewN ?_ _ | refine blk_drew ?_ | refine blk_alloc ?_ _)); exact BK277.out) hb); have n2_ := Aside0.mk (blk_below (g := gb283) (o := .cells #[.int .i64 t279, .int .i64 t280, .string t281] 23 (0, 0)) (by (with_reducible repeat (first | refine blk_drewN ?_ _ | refine blk_drew ?_ | refine blk_alloc ?_ _)); exact BK283.out) hb); have n3_ := Aside0.mk (below_step (by repeat (first | (with_reducible first | exact HB.out | apply below_alloc | apply pw_below_drewN | apply below_drew1 | refine below_set ?_ GE276.out | refine below_set ?_ GE277.out | refine below_set ?_ GE283.out) | exact HB.out)) hb); have n4_ := Aside0.mk (hbox); have n5_ := Aside0.mk ((by rw [hg]; exact (below_size (by repeat (first | (with_reducible first | exact HB.out | apply below_alloc | apply pw_below_drewN | apply below_drew1 | refine below_set ?_ GE276.out | refine below_set ?_ GE277.out | refine below_set ?_ GE283.out) | exact HB.out))) : w.heap.size ≤ gb288)); have n6_ := Aside0.mk ((by rw [hg]; exact (below_size (by repeat (first | (with_reducible first | exact HB.out | apply below_alloc | apply pw_below_drewN | apply below_drew1 | refine below_set ?_ GE276.out | refine below_set ?_ GE277.out | refine below_set ?_ GE283.out) | exact HB.out))) : w.heap.size ≤ gb288)); have n7_ := Aside0.mk ((by rw [hg]; exact Nat.ne_of_lt (blk_lt (g := gb276) (o := .cells #[.int .i64 a0_0, .int .i64 a0_1, .string a0_2] 23 (0, 0)) (by (with_reducible repeat (first | refine blk_drewN ?_ _ | refine blk_drew ?_ | refine blk_alloc ?_ _)); exact BK276.out)) : gb276 ≠ gb288)); have n8_ := Aside0.mk ((by rw [hg]; exact Nat.ne_of_gt (blk_lt (g := gb276) (o := .cells #[.int .i64 a0_0, .int .i64 a0_1, .string a0_2] 23 (0, 0)) (by (with_reducible repeat (first | refine blk_drewN ?_ _ | refine blk_drew ?_ | refine blk_alloc ?_ _)); exact BK276.out)) : gb288 ≠ gb276)); have n9_ := Aside0.mk ((by rw [hg]; exact Nat.ne_of_lt (blk_lt (g := gb277) (o := .cells #[.int .i64 a1_0, .int .i64 a1_1, .string a1_2] 23 (0, 0)) (by (with_reducible repeat (first | refine blk_drewN ?_ _ | refine blk_drew ?_ | refine blk_alloc ?_ _)); exact BK277.out)) : gb277 ≠ gb288)); have n10_ := Aside0.mk ((by rw [hg]; exact Nat.ne_of_gt (blk_lt (g := gb277) (o := .cells #[.int .i64 a1_0, .int .i64 a1_1, .string a1_2] 23 (0, 0)) (by (with_reducible repeat (first | refine blk_drewN ?_ _ | refine blk_drew ?_ | refine blk_alloc ?_ _)); exact BK277.out)) : gb288 ≠ gb277)); have n11_ := Aside0.mk ((by rw [hg]; exact Nat.ne_of_lt (blk_lt (g := gb283) (o := .cells #[.int .i64 t279, .int .i64 t280, .string t281] 23 (0, 0)) (by (with_reducible repeat (first | refine blk_drewN ?_ _ | refine blk_drew ?_ | refine blk_alloc ?_ _)); exact BK283.out)) : gb283 ≠ gb288)); have n12_ := Aside0.mk ((by rw [hg]; exact Nat.ne_of_gt (blk_lt (g := gb283) (o := .cells #[.int .i64 t279, .int .i64 t280, .string t281] 23 (0, 0)) (by (with_reducible repeat (first | refine blk_drewN ?_ _ | refine blk_drew ?_ | refine blk_alloc ?_ _)); exact BK283.out)) : gb288 ≠ gb283)); clear BK276; clear BK277; clear BK283; clear HB; have BK276 := n0_; have BK277 := n1_; have BK283 := n2_; have HB := n3_; have BK288 := n4_; have GW288 := n5_; have GE288 := n6_; have NB276_288 := n7_; have NB288_276 := n8_; have NB277_288 := n9_; have NB288_277 := n10_; have NB283_288 := n11_; have NB288_283 := n12_; clear n0_ n1_ n2_ n3_ n4_ n5_ n6_ n7_ n8_ n9_ n10_ n11_ n12_; clear hb hbox hg; have hnb22 := NB288_276.out; have hnc22 := NB276_288.out; have hnb23 := NB288_277.out; have hnc23 := NB277_288.out; have hnb24 := NB288_283.out; have hnc24 := NB283_288.out; have hcz25_0 : w21.cell? ⟨gb288, 0, none⟩ = some (.int .i64 0) := (blk_cell BK288.out 0).trans rfl; have hcz25_1 : w21.cell? ⟨gb288, 1, none⟩ = some (.int .i64 0) := (blk_cell BK288.out 1).trans rfl; have hcz25_2 : w21.cell? ⟨gb288, 2, none⟩ = some (.string (⟨#[]⟩ : ByteArray)) := (blk_cell BK288.out 2).trans rfl; have hfz25_0 := blk_frozen BK288.out 0; have hfz25_1 := blk_frozen BK288.out 1; have hfz25_2 := blk_frozen BK288.out 2))
  (try simp only [Act.put, List.setIfInBounds_toArray, List.set_cons_zero, List.set_cons_succ])
  go_cut [30] (fun v30 wc => ∃ (kq : Nat) (x30_5 : Bool), v30 = .bool x30_5 ∧ Aside0 (weathercocklaw01_ValueReckons.j0 kq t278 x30_5 a0_0 a0_1 a0_2 a1_0 a1_1 a1_2 = some r) ∧ Aside0 (kq ≤ k) ∧ Aside0 (wc.heap[gb276]? = some (.cells #[.int .i64 a0_0, .int .i64 a0_1, .string a0_2] 23 (0, 0))) ∧ Aside0 (wc.heap[gb277]? = some (.cells #[.int .i64 a1_0, .int .i64 a1_1, .string a1_2] 23 (0, 0))) ∧ Aside0 (wc.heap[gb283]? = some (.cells #[.int .i64 t279, .int .i64 t280, .string t281] 23 (0, 0))) ∧ Aside0 (wc.heap[gb288]? = some (.cells #[.int .i64 t284, .int .i64 t285, .string t286] 23 (0, 0))) ∧ Aside0 (Below w.heap.size w wc))
  case first =>
    have H := HC6.out
    clear HC6
    by_cases c26 : (!(t279 == t284) || (!(t280 == t285) || (!(t281.toList == t286.toList)))) = true
    · rw [if_pos c26] at H
      have c26b0 : (!(t279 == t284) || (!(t280 == t285) || (!(t281.toList == t286.toList)))) = true := c26
      clear c26
      (first | rw [c26b0] | rw [c26b1] | (simp only [i64_w, i32_w]; rw [c26b0]) | skip)
      have H' := Aside0.mk H
      clear H
      have hnb27 := NB283_276.out
      have hnc27 := NB276_283.out
      have hnb28 := NB283_277.out
      have hnc28 := NB277_283.out
      have hnb29 := NB283_288.out
      have hnc29 := NB288_283.out
      have hcz30_0 : w21.cell? ⟨gb283, 0, none⟩ = some (.int .i64 t279) := (blk_cell BK283.out 0).trans rfl
      have hcz30_1 : w21.cell? ⟨gb283, 1, none⟩ = some (.int .i64 t280) := (blk_cell BK283.out 1).trans rfl
      have hcz30_2 : w21.cell? ⟨gb283, 2, none⟩ = some (.string t281) := (blk_cell BK283.out 2).trans rfl
      have hfz30_0 := blk_frozen BK283.out 0
      have hfz30_1 := blk_frozen BK283.out 1
      have hfz30_2 := blk_frozen BK283.out 2
      have hnb31 := NB288_276.out
      have hnc31 := NB276_288.out
      have hnb32 := NB288_277.out
      have hnc32 := NB277_288.out
      have hcz33_0 : w21.cell? ⟨gb288, 0, none⟩ = some (.int .i64 0) := (blk_cell BK288.out 0).trans rfl
      have hcz33_1 : w21.cell? ⟨gb288, 1, none⟩ = some (.int .i64 0) := (blk_cell BK288.out 1).trans rfl
      have hcz33_2 : w21.cell? ⟨gb288, 2, none⟩ = some (.string (⟨#[]⟩ : ByteArray)) := (blk_cell BK288.out 2).trans rfl
      have hfz33_0 := blk_frozen BK288.out 0
      have hfz33_1 := blk_frozen BK288.out 1
      have hfz33_2 := blk_frozen BK288.out 2
      go_wp2
      go_meet
      case rel => exact ⟨_, (true), (by first | rfl | (simp; done) | (simp [*]; done)), H', ⟨by first | omega | exact Nat.le_refl _⟩, ⟨by (with_reducible repeat (first | refine blk_drewN ?_ _ | refine blk_drew ?_ | refine blk_alloc ?_ _)); refine blk_far ?_ NB276_288.out _; (with_reducible repeat (first | refine blk_drewN ?_ _ | refine blk_drew ?_ | refine blk_alloc ?_ _)); refine blk_far ?_ NB276_288.out _; (with_reducible repeat (first | refine blk_drewN ?_ _ | refine blk_drew ?_ | refine blk_alloc ?_ _)); refine blk_far ?_ NB276_288.out _; (with_reducible repeat (first | refine blk_drewN ?_ _ | refine blk_drew ?_ | refine blk_alloc ?_ _)); exact BK276.out⟩, ⟨by (with_reducible repeat (first | refine blk_drewN ?_ _ | refine blk_drew ?_ | refine blk_alloc ?_ _)); refine blk_far ?_ NB277_288.out _; (with_reducible repeat (first | refine blk_drewN ?_ _ | refine blk_drew ?_ | refine blk_alloc ?_ _)); refine blk_far ?_ NB277_288.out _; (with_reducible repeat (first | refine blk_drewN ?_ _ | refine blk_drew ?_ | refine blk_alloc ?_ _)); refine blk_far ?_ NB277_288.out _; (with_reducible repeat (first | refine blk_drewN ?_ _ | refine blk_drew ?_ | refine blk_alloc ?_ _)); exact BK277.out⟩, ⟨by (with_reducible repeat (first | refine blk_drewN ?_ _ | refine blk_drew ?_ | refine blk_alloc ?_ _)); refine blk_far ?_ NB283_288.out _; (with_reducible repeat (first | refine blk_drewN ?_ _ | refine blk_drew ?_ | refine blk_alloc ?_ _)); refine blk_far ?_ NB283_288.out _; (with_reducible repeat (first | refine blk_drewN ?_ _ | refine blk_drew ?_ | refine blk_alloc ?_ _)); refine blk_far ?_ NB283_288.out _; (with_reducible repeat (first | refine blk_drewN ?_ _ | refine blk_drew ?_ | refine blk_alloc ?_ _)); exact BK283.out⟩, ⟨by (with_reducible repeat (first | refine blk_drewN ?_ _ | refine blk_drew ?_ | refine blk_alloc ?_ _)); refine blk_put (cs := #[.int .i64 t284, .int .i64 t285, .string (⟨#[]⟩ : ByteArray)]) ?_ 2 _ rfl; (with_reducible repeat (first | refine blk_drewN ?_ _ | refine blk_drew ?_ | refine blk_alloc ?_ _)); refine blk_put (cs := #[.int .i64 t284, .int .i64 0, .string (⟨#[]⟩ : ByteArray)]) ?_ 1 _ rfl; (with_reducible repeat (first | refine blk_drewN ?_ _ | refine blk_drew ?_ | refine blk_alloc ?_ _)); refine blk_put (cs := #[.int .i64 0, .int .i64 0, .string (⟨#[]⟩ : ByteArray)]) ?_ 0 _ rfl; (with_reducible repeat (first | refine blk_drewN ?_ _ | refine blk_drew ?_ | refine blk_alloc ?_ _)); exact BK288.out⟩, ⟨by repeat (first | (with_reducible first | exact HB.out | apply below_alloc | apply pw_below_drewN | apply below_drew1 | refine below_set ?_ GE276.out | refine below_set ?_ GE277.out | refine below_set ?_ GE283.out | refine below_set ?_ GE288.out) | exact HB.out)⟩⟩
    · rw [if_neg c26] at H
      have c26b0 : (!(t279 == t284) || (!(t280 == t285) || (!(t281.toList == t286.toList)))) = false := by simpa using c26
      clear c26
      (first | rw [c26b0] | rw [c26b1] | (simp only [i64_w, i32_w]; rw [c26b0]) | skip)
      have H' := Aside0.mk H
      clear H
      have hnb34 := NB283_276.out
      have hnc34 := NB276_283.out
      have hnb35 := NB283_277.out
      have hnc35 := NB277_283.out
      have hnb36 := NB283_288.out
      have hnc36 := NB288_283.out
      have hcz37_0 : w21.cell? ⟨gb283, 0, none⟩ = some (.int .i64 t279) := (blk_cell BK283.out 0).trans rfl
      have hcz37_1 : w21.cell? ⟨gb283, 1, none⟩ = some (.int .i64 t280) := (blk_cell BK283.out 1).trans rfl
      have hcz37_2 : w21.cell? ⟨gb283, 2, none⟩ = some (.string t281) := (blk_cell BK283.out 2).trans rfl
      have hfz37_0 := blk_frozen BK283.out 0
      have hfz37_1 := blk_frozen BK283.out 1
      have hfz37_2 := blk_frozen BK283.out 2
      have hnb38 := NB288_276.out
      have hnc38 := NB276_288.out
      have hnb39 := NB288_277.out
      have hnc39 := NB277_288.out
      have hcz40_0 : w21.cell? ⟨gb288, 0, none⟩ = some (.int .i64 0) := (blk_cell BK288.out 0).trans rfl
      have hcz40_1 : w21.cell? ⟨gb288, 1, none⟩ = some (.int .i64 0) := (blk_cell BK288.out 1).trans rfl
      have hcz40_2 : w21.cell? ⟨gb288, 2, none⟩ = some (.string (⟨#[]⟩ : ByteArray)) := (blk_cell BK288.out 2).trans rfl
      have hfz40_0 := blk_frozen BK288.out 0
      have hfz40_1 := blk_frozen BK288.out 1
      have hfz40_2 := blk_frozen BK288.out 2
      go_wp2
      go_meet
      case rel => exact ⟨_, ((t282 != t287)), (by first | rfl | (simp; done) | (simp [*]; done)), H', ⟨by first | omega | exact Nat.le_refl _⟩, ⟨by (with_reducible repeat (first | refine blk_drewN ?_ _ | refine blk_drew ?_ | refine blk_alloc ?_ _)); refine blk_far ?_ NB276_288.out _; (with_reducible repeat (first | refine blk_drewN ?_ _ | refine blk_drew ?_ | refine blk_alloc ?_ _)); refine blk_far ?_ NB276_288.out _; (with_reducible repeat (first | refine blk_drewN ?_ _ | refine blk_drew ?_ | refine blk_alloc ?_ _)); refine blk_far ?_ NB276_288.out _; (with_reducible repeat (first | refine blk_drewN ?_ _ | refine blk_drew ?_ | refine blk_alloc ?_ _)); exact BK276.out⟩, ⟨by (with_reducible repeat (first | refine blk_drewN ?_ _ | refine blk_drew ?_ | refine blk_alloc ?_ _)); refine blk_far ?_ NB277_288.out _; (with_reducible repeat (first | refine blk_drewN ?_ _ | refine blk_drew ?_ | refine blk_alloc ?_ _)); refine blk_far ?_ NB277_288.out _; (with_reducible repeat (first | refine blk_drewN ?_ _ | refine blk_drew ?_ | refine blk_alloc ?_ _)); refine blk_far ?_ NB277_288.out _; (with_reducible repeat (first | refine blk_drewN ?_ _ | refine blk_drew ?_ | refine blk_alloc ?_ _)); exact BK277.out⟩, ⟨by (with_reducible repeat (first | refine blk_drewN ?_ _ | refine blk_drew ?_ | refine blk_alloc ?_ _)); refine blk_far ?_ NB283_288.out _; (with_reducible repeat (first | refine blk_drewN ?_ _ | refine blk_drew ?_ | refine blk_alloc ?_ _)); refine blk_far ?_ NB283_288.out _; (with_reducible repeat (first | refine blk_drewN ?_ _ | refine blk_drew ?_ | refine blk_alloc ?_ _)); refine blk_far ?_ NB283_288.out _; (with_reducible repeat (first | refine blk_drewN ?_ _ | refine blk_drew ?_ | refine blk_alloc ?_ _)); exact BK283.out⟩, ⟨by (with_reducible repeat (first | refine blk_drewN ?_ _ | refine blk_drew ?_ | refine blk_alloc ?_ _)); refine blk_put (cs := #[.int .i64 t284, .int .i64 t285, .string (⟨#[]⟩ : ByteArray)]) ?_ 2 _ rfl; (with_reducible repeat (first | refine blk_drewN ?_ _ | refine blk_drew ?_ | refine blk_alloc ?_ _)); refine blk_put (cs := #[.int .i64 t284, .int .i64 0, .string (⟨#[]⟩ : ByteArray)]) ?_ 1 _ rfl; (with_reducible repeat (first | refine blk_drewN ?_ _ | refine blk_drew ?_ | refine blk_alloc ?_ _)); refine blk_put (cs := #[.int .i64 0, .int .i64 0, .string (⟨#[]⟩ : ByteArray)]) ?_ 0 _ rfl; (with_reducible repeat (first | refine blk_drewN ?_ _ | refine blk_drew ?_ | refine blk_alloc ?_ _)); exact BK288.out⟩, ⟨by repeat (first | (with_reducible first | exact HB.out | apply below_alloc | apply pw_below_drewN | apply below_drew1 | refine below_set ?_ GE276.out | refine below_set ?_ GE277.out | refine below_set ?_ GE283.out | refine below_set ?_ GE288.out) | exact HB.out)⟩⟩
  case rest =>
    clear HC6
    try clear c1
    try clear c2
    try clear p2
    try clear c3
    try clear c8
    try clear c10
    try clear c15
    try clear c16
    try clear c22
    try clear c23
    try clear c24
    try clear c26
    try clear c26b0
    try clear c26b1
    try clear c27
    try clear c28
    try clear c29
    try clear c30
    try clear c31
    try clear c32
    try clear c34
    try clear c35
    try clear c36
    try clear c38
    try clear c39
    try clear hcz11_0
    try clear hcz11_1
    try clear hcz11_2
    try clear hcz12_0
    try clear hcz12_1
    try clear hcz12_2
    try clear hcz17_0
    try clear hcz17_1
    try clear hcz17_2
    try clear hcz18_0
    try clear hcz18_1
    try clear hcz18_2
    try clear hcz19_0
    try clear hcz19_1
    try clear hcz19_2
    try clear hcz25_0
    try clear hcz25_1
    try clear hcz25_2
    try clear hcz30_0
    try clear hcz30_1
    try clear hcz30_2
    try clear hcz33_0
    try clear hcz33_1
    try clear hcz33_2
    try clear hcz37_0
    try clear hcz37_1
    try clear hcz37_2
    try clear hcz40_0
    try clear hcz40_1
    try clear hcz40_2
    try clear hfz11_0
    try clear hfz11_1
    try clear hfz11_2
    try clear hfz12_0
    try clear hfz12_1
    try clear hfz12_2
    try clear hfz17_0
    try clear hfz17_1
    try clear hfz17_2
    try clear hfz18_0
    try clear hfz18_1
    try clear hfz18_2
    try clear hfz19_0
    try clear hfz19_1
    try clear hfz19_2
    try clear hfz25_0
    try clear hfz25_1
    try clear hfz25_2
    try clear hfz30_0
    try clear hfz30_1
    try clear hfz30_2
    try clear hfz33_0
    try clear hfz33_1
    try clear hfz33_2
    try clear hfz37_0
    try clear hfz37_1
    try clear hfz37_2
    try clear hfz40_0
    try clear hfz40_1
    try clear hfz40_2
    obtain ⟨kq, x30_5, rfl, HA, HJ5, BK276, BK277, BK283, BK288, HB⟩ := hcut
    cases kq with
    | zero => exact absurd HA.out (by simp [weathercocklaw01_ValueReckons.j0])
    | succ kj5 =>
      have H := HA.out
      clear HA
      simp only [weathercocklaw01_ValueReckons.j0] at H
      by_cases c41 : x30_5 = true
      · subst c41
        have H1 : (some false) = some r := by rw [if_pos rfl] at H; exact H
        clear H
        have H := H1
        clear H1
        exact absurd (Option.some.inj H) (fun h_ => absurd (h_.trans HRT.out) (by decide))
      · replace c41 := Bool.eq_false_iff.mpr c41
        subst c41
        have H1 : ((value_Sub.f kj5 a0_0 a0_1 a0_2 a1_0 a1_1 a1_2).bind fun bt289 => ((weathercockref01_Sub.f a0_0 a0_1 a0_2 a1_0 a1_1 a1_2).bind fun bt293 => (if (!(bt289.1 == bt293.1) || (!(bt289.2.1 == bt293.2.1) || (!(bt289.2.2.1.toList == bt293.2.2.1.toList)))) = true then (weathercocklaw01_ValueReckons.j1 kj5 t278 true a0_0 a0_1 a0_2 a1_0 a1_1 a1_2) else (weathercocklaw01_ValueReckons.j1 kj5 t278 (bt289.2.2.2 != bt293.2.2.2) a0_0 a0_1 a0_2 a1_0 a1_1 a1_2)))) = some r := by rw [if_neg (show ¬ (false = true) by decide)] at H; exact H
        clear H
        have H := H1
        clear H1
        replace H := Option.bind_eq_some_iff.mp H
        obtain ⟨⟨t289, t290, t291, t292⟩, A420, H⟩ := H
        replace H : ((weathercockref01_Sub.f a0_0 a0_1 a0_2 a1_0 a1_1 a1_2).bind fun bt293 => (if (!(t289 == bt293.1) || (!(t290 == bt293.2.1) || (!(t291.toList == bt293.2.2.1.toList)))) = true then (weathercocklaw01_ValueReckons.j1 kj5 t278 true a0_0 a0_1 a0_2 a1_0 a1_1 a1_2) else (weathercocklaw01_ValueReckons.j1 kj5 t278 (t292 != bt293.2.2.2) a0_0 a0_1 a0_2 a1_0 a1_1 a1_2))) = some r := H
        have A42 := Aside0.mk A420
        clear A420
        replace H := Option.bind_eq_some_iff.mp H
        obtain ⟨⟨t293, t294, t295, t296⟩, A430, H⟩ := H
        replace H : (if (!(t289 == t293) || (!(t290 == t294) || (!(t291.toList == t295.toList)))) = true then (weathercocklaw01_ValueReckons.j1 kj5 t278 true a0_0 a0_1 a0_2 a1_0 a1_1 a1_2) else (weathercocklaw01_ValueReckons.j1 kj5 t278 (t292 != t296) a0_0 a0_1 a0_2 a1_0 a1_1 a1_2)) = some r := H
        have A43 := Aside0.mk A430
        clear A430
        have HC44 := Aside0.mk H
        clear H
        have hnb45 := NB276_277.out
        have hnc45 := NB277_276.out
        have hnb46 := NB276_283.out
        have hnc46 := NB283_276.out
        have hnb47 := NB276_288.out
        have hnc47 := NB288_276.out
        have hcz48_0 : wc.cell? ⟨gb276, 0, none⟩ = some (.int .i64 a0_0) := (blk_cell BK276.out 0).trans rfl
        have hcz48_1 : wc.cell? ⟨gb276, 1, none⟩ = some (.int .i64 a0_1) := (blk_cell BK276.out 1).trans rfl
        have hcz48_2 : wc.cell? ⟨gb276, 2, none⟩ = some (.string a0_2) := (blk_cell BK276.out 2).trans rfl
        have hfz48_0 := blk_frozen BK276.out 0
        have hfz48_1 := blk_frozen BK276.out 1
        have hfz48_2 := blk_frozen BK276.out 2
        have hnb49 := NB277_283.out
        have hnc49 := NB283_277.out
        have hnb50 := NB277_288.out
        have hnc50 := NB288_277.out
        have hcz51_0 : wc.cell? ⟨gb277, 0, none⟩ = some (.int .i64 a1_0) := (blk_cell BK277.out 0).trans rfl
        have hcz51_1 : wc.cell? ⟨gb277, 1, none⟩ = some (.int .i64 a1_1) := (blk_cell BK277.out 1).trans rfl
        have hcz51_2 : wc.cell? ⟨gb277, 2, none⟩ = some (.string a1_2) := (blk_cell BK277.out 2).trans rfl
        have hfz51_0 := blk_frozen BK277.out 0
        have hfz51_1 := blk_frozen BK277.out 1
        have hfz51_2 := blk_frozen BK277.out 2
        go_upto_region 8 with (first | ((with_reducible refine gate_callee (f := 28) rfl ?_); refine goesL_ (some 34) rfl rfl Try.func28 (by kernel_rfl) rfl #[.agg #[.int .i64 a0_0, .int .i64 a0_1, .string a0_2], .agg #[.int .i64 a1_0, .int .i64 a1_1, .string a1_2]] rfl (by (try simp only [List.map_toArray, List.map_cons, List.map_nil]); first | done | rfl | (simp only [List.length_drop, List.length_take]; rfl)) ?_; (with_reducible refine (value_Sub.calls kj5 a0_0 a0_1 a0_2 a1_0 a1_1 a1_2 t289 t290 t291 t292 _ A42.out).mono ?_); rintro e w52 ⟨rfl, hb⟩; refine ⟨_, rfl, ?_⟩; have n0_ := Aside0.mk (blk_below (g := gb276) (o := .cells #[.int .i64 a0_0, .int .i64 a0_1, .string a0_2] 23 (0, 0)) (by (with_reducible repeat (first | refine blk_drewN ?_ _ | refine blk_drew ?_ | refine blk_alloc ?_ _)); exact BK276.out) hb); have n1_ := Aside0.mk (blk_below (g := gb277) (o := .cells #[.int .i64 a1_0, .int .i64 a1_1, .string a1_2] 23 (0, 0)) (by (with_reducible repeat (first | refine blk_drewN ?_ _ | refine blk_drew ?_ | refine blk_alloc ?_ _)); exact BK277.out) hb); have n2_ := Aside0.mk (blk_below (g := gb283) (o := .cells #[.int .i64 t279, .int .i64 t280, .string t281] 23 (0, 0)) (by (with_reducible repeat (first | refine blk_drewN ?_ _ | refine blk_drew ?_ | refine blk_alloc ?_ _)); exact BK283.out) hb); have n3_ := Aside0.mk (blk_below (g := gb288) (o := .cells #[.int .i64 t284, .int .i64 t285, .string t286] 23 (0, 0)) (by (with_reducible repeat (first | refine blk_drewN ?_ _ | refine blk_drew ?_ | refine blk_alloc ?_ _)); exact BK288.out) hb); have n4_ := Aside0.mk (below_step (by repeat (first | (with_reducible first | exact HB.out | apply below_alloc | apply pw_below_drewN | apply below_drew1 | refine below_set ?_ GE276.out | refine below_set ?_ GE277.out | refine below_set ?_ GE283.out | refine below_set ?_ GE288.out) | exact HB.out)) hb); clear BK276; clear BK277; clear BK283; clear BK288; clear HB; have BK276 := n0_; have BK277 := n1_; have BK283 := n2_; have BK288 := n3_; have HB := n4_; clear n0_ n1_ n2_ n3_ n4_; (try clear hb); (try clear hb2); (try clear hk); (try clear hi); have hnb53 := NB283_288.out; have hnc53 := NB288_283.out; have hcz54_0 : w52.cell? ⟨gb283, 0, none⟩ = some (.int .i64 t279) := (blk_cell BK283.out 0).trans rfl; have hcz54_1 : w52.cell? ⟨gb283, 1, none⟩ = some (.int .i64 t280) := (blk_cell BK283.out 1).trans rfl; have hcz54_2 : w52.cell? ⟨gb283, 2, none⟩ = some (.string t281) := (blk_cell BK283.out 2).trans rfl; have hfz54_0 := blk_frozen BK283.out 0; have hfz54_1 := blk_frozen BK283.out 1; have hfz54_2 := blk_frozen BK283.out 2; have hcz55_0 : w52.cell? ⟨gb276, 0, none⟩ = some (.int .i64 a0_0) := (blk_cell BK276.out 0).trans rfl; have hcz55_1 : w52.cell? ⟨gb276, 1, none⟩ = some (.int .i64 a0_1) := (blk_cell BK276.out 1).trans rfl; have hcz55_2 : w52.cell? ⟨gb276, 2, none⟩ = some (.string a0_2) := (blk_cell BK276.out 2).trans rfl; have hfz55_0 := blk_frozen BK276.out 0; have hfz55_1 := blk_frozen BK276.out 1; have hfz55_2 := blk_frozen BK276.out 2; have hcz56_0 : w52.cell? ⟨gb277, 0, none⟩ = some (.int .i64 a1_0) := (blk_cell BK277.out 0).trans rfl; have hcz56_1 : w52.cell? ⟨gb277, 1, none⟩ = some (.int .i64 a1_1) := (blk_cell BK277.out 1).trans rfl; have hcz56_2 : w52.cell? ⟨gb277, 2, none⟩ = some (.string a1_2) := (blk_cell BK277.out 2).trans rfl; have hfz56_0 := blk_frozen BK277.out 0; have hfz56_1 := blk_frozen BK277.out 1; have hfz56_2 := blk_frozen BK277.out 2) | ((with_reducible refine gate_callee (f := 31) rfl ?_); refine goesL_ (some 40) rfl rfl Try.func31 (by kernel_rfl) rfl #[.agg #[.int .i64 a0_0, .int .i64 a0_1, .string a0_2], .agg #[.int .i64 a1_0, .int .i64 a1_1, .string a1_2]] rfl (by (try simp only [List.map_toArray, List.map_cons, List.map_nil]); first | done | rfl | (simp only [List.length_drop, List.length_take]; rfl)) ?_; (with_reducible refine (weathercockref01_Sub.calls a0_0 a0_1 a0_2 a1_0 a1_1 a1_2 t293 t294 t295 t296 _ A43.out).mono ?_); rintro e w57 ⟨rfl, hb⟩; refine ⟨_, rfl, ?_⟩; have n0_ := Aside0.mk (blk_below (g := gb276) (o := .cells #[.int .i64 a0_0, .int .i64 a0_1, .string a0_2] 23 (0, 0)) (by (with_reducible repeat (first | refine blk_drewN ?_ _ | refine blk_drew ?_ | refine blk_alloc ?_ _)); refine blk_far ?_ NB276_283.out _; (with_reducible repeat (first | refine blk_drewN ?_ _ | refine blk_drew ?_ | refine blk_alloc ?_ _)); refine blk_far ?_ NB276_283.out _; (with_reducible repeat (first | refine blk_drewN ?_ _ | refine blk_drew ?_ | refine blk_alloc ?_ _)); refine blk_far ?_ NB276_283.out _; (with_reducible repeat (first | refine blk_drewN ?_ _ | refine blk_drew ?_ | refine blk_alloc ?_ _)); exact BK276.out) hb); have n1_ := Aside0.mk (blk_below (g := gb277) (o := .cells #[.int .i64 a1_0, .int .i64 a1_1, .string a1_2] 23 (0, 0)) (by (with_reducible repeat (first | refine blk_drewN ?_ _ | refine blk_drew ?_ | refine blk_alloc ?_ _)); refine blk_far ?_ NB277_283.out _; (with_reducible repeat (first | refine blk_drewN ?_ _ | refine blk_drew ?_ | refine blk_alloc ?_ _)); refine blk_far ?_ NB277_283.out _; (with_reducible repeat (first | refine blk_drewN ?_ _ | refine blk_drew ?_ | refine blk_alloc ?_ _)); refine blk_far ?_ NB277_283.out _; (with_reducible repeat (first | refine blk_drewN ?_ _ | refine blk_drew ?_ | refine blk_alloc ?_ _)); exact BK277.out) hb); have n2_ := Aside0.mk (blk_below (g := gb283) (o := .cells #[.int .i64 t289, .int .i64 t290, .string t291] 23 (0, 0)) (by (with_reducible repeat (first | refine blk_drewN ?_ _ | refine blk_drew ?_ | refine blk_alloc ?_ _)); refine blk_put (cs := #[.int .i64 t289, .int .i64 t290, .string t281]) ?_ 2 _ rfl; (with_reducible repeat (first | refine blk_drewN ?_ _ | refine blk_drew ?_ | refine blk_alloc ?_ _)); refine blk_put (cs := #[.int .i64 t289, .int .i64 t280, .string t281]) ?_ 1 _ rfl; (with_reducible repeat (first | refine blk_drewN ?_ _ | refine blk_drew ?_ | refine blk_alloc ?_ _)); refine blk_put (cs := #[.int .i64 t279, .int .i64 t280, .string t281]) ?_ 0 _ rfl; (with_reducible repeat (first | refine blk_drewN ?_ _ | refine blk_drew ?_ | refine blk_alloc ?_ _)); exact BK283.out) hb); have n3_ := Aside0.mk (blk_below (g := gb288) (o := .cells #[.int .i64 t284, .int .i64 t285, .string t286] 23 (0, 0)) (by (with_reducible repeat (first | refine blk_drewN ?_ _ | refine blk_drew ?_ | refine blk_alloc ?_ _)); refine blk_far ?_ NB288_283.out _; (with_reducible repeat (first | refine blk_drewN ?_ _ | refine blk_drew ?_ | refine blk_alloc ?_ _)); refine blk_far ?_ NB288_283.out _; (with_reducible repeat (first | refine blk_drewN ?_ _ | refine blk_drew ?_ | refine blk_alloc ?_ _)); refine blk_far ?_ NB288_283.out _; (with_reducible repeat (first | refine blk_drewN ?_ _ | refine blk_drew ?_ | refine blk_alloc ?_ _)); exact BK288.out) hb); have n4_ := Aside0.mk (below_step (by repeat (first | (with_reducible first | exact HB.out | apply below_alloc | apply pw_below_drewN | apply below_drew1 | refine below_set ?_ GE276.out | refine below_set ?_ GE277.out | refine below_set ?_ GE283.out | refine below_set ?_ GE288.out) | exact HB.out)) hb); clear BK276; clear BK277; clear BK283; clear BK288; clear HB; have BK276 := n0_; have BK277 := n1_; have BK283 := n2_; have BK288 := n3_; have HB := n4_; clear n0_ n1_ n2_ n3_ n4_; (try clear hb); (try clear hb2); (try clear hk); (try clear hi); have hcz58_0 : w57.cell? ⟨gb288, 0, none⟩ = some (.int .i64 t284) := (blk_cell BK288.out 0).trans rfl; have hcz58_1 : w57.cell? ⟨gb288, 1, none⟩ = some (.int .i64 t285) := (blk_cell BK288.out 1).trans rfl; have hcz58_2 : w57.cell? ⟨gb288, 2, none⟩ = some (.string t286) := (blk_cell BK288.out 2).trans rfl; have hfz58_0 := blk_frozen BK288.out 0; have hfz58_1 := blk_frozen BK288.out 1; have hfz58_2 := blk_frozen BK288.out 2))
        (try simp only [Act.put, List.setIfInBounds_toArray, List.set_cons_zero, List.set_cons_succ])
        go_cut [50] (fun v50 wc => ∃ (kq : Nat) (x50_43 : Bool), v50 = .bool x50_43 ∧ Aside0 (weathercocklaw01_ValueReckons.j1 kq t278 x50_43 a0_0 a0_1 a0_2 a1_0 a1_1 a1_2 = some r) ∧ Aside0 (kq ≤ kj5) ∧ Aside0 (wc.heap[gb276]? = some (.cells #[.int .i64 a0_0, .int .i64 a0_1, .string a0_2] 23 (0, 0))) ∧ Aside0 (wc.heap[gb277]? = some (.cells #[.int .i64 a1_0, .int .i64 a1_1, .string a1_2] 23 (0, 0))) ∧ Aside0 (wc.heap[gb283]? = some (.cells #[.int .i64 t289, .int .i64 t290, .string t291] 23 (0, 0))) ∧ Aside0 (wc.heap[gb288]? = some (.cells #[.int .i64 t293, .int .i64 t294, .string t295] 23 (0, 0))) ∧ Aside0 (Below w.heap.size w wc))
        case first =>
          have H := HC44.out
          clear HC44
          by_cases c59 : (!(t289 == t293) || (!(t290 == t294) || (!(t291.toList == t295.toList)))) = true
          · rw [if_pos c59] at H
            have c59b0 : (!(t289 == t293) || (!(t290 == t294) || (!(t291.toList == t295.toList)))) = true := c59
            clear c59
            (first | rw [c59b0] | rw [c59b1] | (simp only [i64_w, i32_w]; rw [c59b0]) | skip)
            have H' := Aside0.mk H
            clear H
            have hnb60 := NB283_276.out
            have hnc60 := NB276_283.out
            have hnb61 := NB283_277.out
            have hnc61 := NB277_283.out
            have hnb62 := NB283_288.out
            have hnc62 := NB288_283.out
            have hcz63_0 : w57.cell? ⟨gb283, 0, none⟩ = some (.int .i64 t289) := (blk_cell BK283.out 0).trans rfl
            have hcz63_1 : w57.cell? ⟨gb283, 1, none⟩ = some (.int .i64 t290) := (blk_cell BK283.out 1).trans rfl
            have hcz63_2 : w57.cell? ⟨gb283, 2, none⟩ = some (.string t291) := (blk_cell BK283.out 2).trans rfl
            have hfz63_0 := blk_frozen BK283.out 0
            have hfz63_1 := blk_frozen BK283.out 1
            have hfz63_2 := blk_frozen BK283.out 2
            have hnb64 := NB288_276.out
            have hnc64 := NB276_288.out
            have hnb65 := NB288_277.out
            have hnc65 := NB277_288.out
            have hcz66_0 : w57.cell? ⟨gb288, 0, none⟩ = some (.int .i64 t284) := (blk_cell BK288.out 0).trans rfl
            have hcz66_1 : w57.cell? ⟨gb288, 1, none⟩ = some (.int .i64 t285) := (blk_cell BK288.out 1).trans rfl
            have hcz66_2 : w57.cell? ⟨gb288, 2, none⟩ = some (.string t286) := (blk_cell BK288.out 2).trans rfl
            have hfz66_0 := blk_frozen BK288.out 0
            have hfz66_1 := blk_frozen BK288.out 1
            have hfz66_2 := blk_frozen BK288.out 2
            go_wp2
            go_meet
            case rel => exact ⟨_, (true), (by first | rfl | (simp; done) | (simp [*]; done)), H', ⟨by have := HJ5.out; first | omega | exact Nat.le_refl _⟩, ⟨by (with_reducible repeat (first | refine blk_drewN ?_ _ | refine blk_drew ?_ | refine blk_alloc ?_ _)); refine blk_far ?_ NB276_288.out _; (with_reducible repeat (first | refine blk_drewN ?_ _ | refine blk_drew ?_ | refine blk_alloc ?_ _)); refine blk_far ?_ NB276_288.out _; (with_reducible repeat (first | refine blk_drewN ?_ _ | refine blk_drew ?_ | refine blk_alloc ?_ _)); refine blk_far ?_ NB276_288.out _; (with_reducible repeat (first | refine blk_drewN ?_ _ | refine blk_drew ?_ | refine blk_alloc ?_ _)); exact BK276.out⟩, ⟨by (with_reducible repeat (first | refine blk_drewN ?_ _ | refine blk_drew ?_ | refine blk_alloc ?_ _)); refine blk_far ?_ NB277_288.out _; (with_reducible repeat (first | refine blk_drewN ?_ _ | refine blk_drew ?_ | refine blk_alloc ?_ _)); refine blk_far ?_ NB277_288.out _; (with_reducible repeat (first | refine blk_drewN ?_ _ | refine blk_drew ?_ | refine blk_alloc ?_ _)); refine blk_far ?_ NB277_288.out _; (with_reducible repeat (first | refine blk_drewN ?_ _ | refine blk_drew ?_ | refine blk_alloc ?_ _)); exact BK277.out⟩, ⟨by (with_reducible repeat (first | refine blk_drewN ?_ _ | refine blk_drew ?_ | refine blk_alloc ?_ _)); refine blk_far ?_ NB283_288.out _; (with_reducible repeat (first | refine blk_drewN ?_ _ | refine blk_drew ?_ | refine blk_alloc ?_ _)); refine blk_far ?_ NB283_288.out _; (with_reducible repeat (first | refine blk_drewN ?_ _ | refine blk_drew ?_ | refine blk_alloc ?_ _)); refine blk_far ?_ NB283_288.out _; (with_reducible repeat (first | refine blk_drewN ?_ _ | refine blk_drew ?_ | refine blk_alloc ?_ _)); exact BK283.out⟩, ⟨by (with_reducible repeat (first | refine blk_drewN ?_ _ | refine blk_drew ?_ | refine blk_alloc ?_ _)); refine blk_put (cs := #[.int .i64 t293, .int .i64 t294, .string t286]) ?_ 2 _ rfl; (with_reducible repeat (first | refine blk_drewN ?_ _ | refine blk_drew ?_ | refine blk_alloc ?_ _)); refine blk_put (cs := #[.int .i64 t293, .int .i64 t285, .string t286]) ?_ 1 _ rfl; (with_reducible repeat (first | refine blk_drewN ?_ _ | refine blk_drew ?_ | refine blk_alloc ?_ _)); refine blk_put (cs := #[.int .i64 t284, .int .i64 t285, .string t286]) ?_ 0 _ rfl; (with_reducible repeat (first | refine blk_drewN ?_ _ | refine blk_drew ?_ | refine blk_alloc ?_ _)); exact BK288.out⟩, ⟨by repeat (first | (with_reducible first | exact HB.out | apply below_alloc | apply pw_below_drewN | apply below_drew1 | refine below_set ?_ GE276.out | refine below_set ?_ GE277.out | refine below_set ?_ GE283.out | refine below_set ?_ GE288.out) | exact HB.out)⟩⟩
          · rw [if_neg c59] at H
            have c59b0 : (!(t289 == t293) || (!(t290 == t294) || (!(t291.toList == t295.toList)))) = false := by simpa using c59
            clear c59
            (first | rw [c59b0] | rw [c59b1] | (simp only [i64_w, i32_w]; rw [c59b0]) | skip)
            have H' := Aside0.mk H
            clear H
            have hnb67 := NB283_276.out
            have hnc67 := NB276_283.out
            have hnb68 := NB283_277.out
            have hnc68 := NB277_283.out
            have hnb69 := NB283_288.out
            have hnc69 := NB288_283.out
            have hcz70_0 : w57.cell? ⟨gb283, 0, none⟩ = some (.int .i64 t289) := (blk_cell BK283.out 0).trans rfl
            have hcz70_1 : w57.cell? ⟨gb283, 1, none⟩ = some (.int .i64 t290) := (blk_cell BK283.out 1).trans rfl
            have hcz70_2 : w57.cell? ⟨gb283, 2, none⟩ = some (.string t291) := (blk_cell BK283.out 2).trans rfl
            have hfz70_0 := blk_frozen BK283.out 0
            have hfz70_1 := blk_frozen BK283.out 1
            have hfz70_2 := blk_frozen BK283.out 2
            have hnb71 := NB288_276.out
            have hnc71 := NB276_288.out
            have hnb72 := NB288_277.out
            have hnc72 := NB277_288.out
            have hcz73_0 : w57.cell? ⟨gb288, 0, none⟩ = some (.int .i64 t284) := (blk_cell BK288.out 0).trans rfl
            have hcz73_1 : w57.cell? ⟨gb288, 1, none⟩ = some (.int .i64 t285) := (blk_cell BK288.out 1).trans rfl
            have hcz73_2 : w57.cell? ⟨gb288, 2, none⟩ = some (.string t286) := (blk_cell BK288.out 2).trans rfl
            have hfz73_0 := blk_frozen BK288.out 0
            have hfz73_1 := blk_frozen BK288.out 1
            have hfz73_2 := blk_frozen BK288.out 2
            go_wp2
            go_meet
            case rel => exact ⟨_, ((t292 != t296)), (by first | rfl | (simp; done) | (simp [*]; done)), H', ⟨by have := HJ5.out; first | omega | exact Nat.le_refl _⟩, ⟨by (with_reducible repeat (first | refine blk_drewN ?_ _ | refine blk_drew ?_ | refine blk_alloc ?_ _)); refine blk_far ?_ NB276_288.out _; (with_reducible repeat (first | refine blk_drewN ?_ _ | refine blk_drew ?_ | refine blk_alloc ?_ _)); refine blk_far ?_ NB276_288.out _; (with_reducible repeat (first | refine blk_drewN ?_ _ | refine blk_drew ?_ | refine blk_alloc ?_ _)); refine blk_far ?_ NB276_288.out _; (with_reducible repeat (first | refine blk_drewN ?_ _ | refine blk_drew ?_ | refine blk_alloc ?_ _)); exact BK276.out⟩, ⟨by (with_reducible repeat (first | refine blk_drewN ?_ _ | refine blk_drew ?_ | refine blk_alloc ?_ _)); refine blk_far ?_ NB277_288.out _; (with_reducible repeat (first | refine blk_drewN ?_ _ | refine blk_drew ?_ | refine blk_alloc ?_ _)); refine blk_far ?_ NB277_288.out _; (with_reducible repeat (first | refine blk_drewN ?_ _ | refine blk_drew ?_ | refine blk_alloc ?_ _)); refine blk_far ?_ NB277_288.out _; (with_reducible repeat (first | refine blk_drewN ?_ _ | refine blk_drew ?_ | refine blk_alloc ?_ _)); exact BK277.out⟩, ⟨by (with_reducible repeat (first | refine blk_drewN ?_ _ | refine blk_drew ?_ | refine blk_alloc ?_ _)); refine blk_far ?_ NB283_288.out _; (with_reducible repeat (first | refine blk_drewN ?_ _ | refine blk_drew ?_ | refine blk_alloc ?_ _)); refine blk_far ?_ NB283_288.out _; (with_reducible repeat (first | refine blk_drewN ?_ _ | refine blk_drew ?_ | refine blk_alloc ?_ _)); refine blk_far ?_ NB283_288.out _; (with_reducible repeat (first | refine blk_drewN ?_ _ | refine blk_drew ?_ | refine blk_alloc ?_ _)); exact BK283.out⟩, ⟨by (with_reducible repeat (first | refine blk_drewN ?_ _ | refine blk_drew ?_ | refine blk_alloc ?_ _)); refine blk_put (cs := #[.int .i64 t293, .int .i64 t294, .string t286]) ?_ 2 _ rfl; (with_reducible repeat (first | refine blk_drewN ?_ _ | refine blk_drew ?_ | refine blk_alloc ?_ _)); refine blk_put (cs := #[.int .i64 t293, .int .i64 t285, .string t286]) ?_ 1 _ rfl; (with_reducible repeat (first | refine blk_drewN ?_ _ | refine blk_drew ?_ | refine blk_alloc ?_ _)); refine blk_put (cs := #[.int .i64 t284, .int .i64 t285, .string t286]) ?_ 0 _ rfl; (with_reducible repeat (first | refine blk_drewN ?_ _ | refine blk_drew ?_ | refine blk_alloc ?_ _)); exact BK288.out⟩, ⟨by repeat (first | (with_reducible first | exact HB.out | apply below_alloc | apply pw_below_drewN | apply below_drew1 | refine below_set ?_ GE276.out | refine below_set ?_ GE277.out | refine below_set ?_ GE283.out | refine below_set ?_ GE288.out) | exact HB.out)⟩⟩
        case rest =>
          clear HC44
          try clear c1
          try clear c2
          try clear p2
          try clear c3
          try clear c4
          try clear c5
          try clear c6
          try clear c7
          try clear c8
          try clear c10
          try clear c15
          try clear c16
          try clear c22
          try clear c23
          try clear c24
          try clear c26
          try clear c26b0
          try clear c26b1
          try clear c27
          try clear c28
          try clear c29
          try clear c30
          try clear c31
          try clear c32
          try clear c34
          try clear c35
          try clear c36
          try clear c38
          try clear c39
          try clear c41
          try clear c45
          try clear c46
          try clear c47
          try clear c49
          try clear c50
          try clear c53
          try clear c59
          try clear c59b0
          try clear c59b1
          try clear c60
          try clear c61
          try clear c62
          try clear c64
          try clear c65
          try clear c67
          try clear c68
          try clear c69
          try clear c71
          try clear c72
          try clear hcz11_0
          try clear hcz11_1
          try clear hcz11_2
          try clear hcz12_0
          try clear hcz12_1
          try clear hcz12_2
          try clear hcz17_0
          try clear hcz17_1
          try clear hcz17_2
          try clear hcz18_0
          try clear hcz18_1
          try clear hcz18_2
          try clear hcz19_0
          try clear hcz19_1
          try clear hcz19_2
          try clear hcz25_0
          try clear hcz25_1
          try clear hcz25_2
          try clear hcz30_0
          try clear hcz30_1
          try clear hcz30_2
          try clear hcz33_0
          try clear hcz33_1
          try clear hcz33_2
          try clear hcz37_0
          try clear hcz37_1
          try clear hcz37_2
          try clear hcz40_0
          try clear hcz40_1
          try clear hcz40_2
          try clear hcz48_0
          try clear hcz48_1
          try clear hcz48_2
          try clear hcz51_0
          try clear hcz51_1
          try clear hcz51_2
          try clear hcz54_0
          try clear hcz54_1
          try clear hcz54_2
          try clear hcz55_0
          try clear hcz55_1
          try clear hcz55_2
          try clear hcz56_0
          try clear hcz56_1
          try clear hcz56_2
          try clear hcz58_0
          try clear hcz58_1
          try clear hcz58_2
          try clear hcz63_0
          try clear hcz63_1
          try clear hcz63_2
          try clear hcz66_0
          try clear hcz66_1
          try clear hcz66_2
          try clear hcz70_0
          try clear hcz70_1
          try clear hcz70_2
          try clear hcz73_0
          try clear hcz73_1
          try clear hcz73_2
          try clear hfz11_0
          try clear hfz11_1
          try clear hfz11_2
          try clear hfz12_0
          try clear hfz12_1
          try clear hfz12_2
          try clear hfz17_0
          try clear hfz17_1
          try clear hfz17_2
          try clear hfz18_0
          try clear hfz18_1
          try clear hfz18_2
          try clear hfz19_0
          try clear hfz19_1
          try clear hfz19_2
          try clear hfz25_0
          try clear hfz25_1
          try clear hfz25_2
          try clear hfz30_0
          try clear hfz30_1
          try clear hfz30_2
          try clear hfz33_0
          try clear hfz33_1
          try clear hfz33_2
          try clear hfz37_0
          try clear hfz37_1
          try clear hfz37_2
          try clear hfz40_0
          try clear hfz40_1
          try clear hfz40_2
          try clear hfz48_0
          try clear hfz48_1
          try clear hfz48_2
          try clear hfz51_0
          try clear hfz51_1
          try clear hfz51_2
          try clear hfz54_0
          try clear hfz54_1
          try clear hfz54_2
          try clear hfz55_0
          try clear hfz55_1
          try clear hfz55_2
          try clear hfz56_0
          try clear hfz56_1
          try clear hfz56_2
          try clear hfz58_0
          try clear hfz58_1
          try clear hfz58_2
          try clear hfz63_0
          try clear hfz63_1
          try clear hfz63_2
          try clear hfz66_0
          try clear hfz66_1
          try clear hfz66_2
          try clear hfz70_0
          try clear hfz70_1
          try clear hfz70_2
          try clear hfz73_0
          try clear hfz73_1
          try clear hfz73_2
          try clear p2
          obtain ⟨kq, x50_43, rfl, HA, HJ43, BK276, BK277, BK283, BK288, HB⟩ := hcut
          cases kq with
          | zero => exact absurd HA.out (by simp [weathercocklaw01_ValueReckons.j1])
          | succ kj43 =>
            have H := HA.out
            clear HA
            simp only [weathercocklaw01_ValueReckons.j1] at H
            by_cases c74 : x50_43 = true
            · subst c74
              have H1 : (some false) = some r := by rw [if_pos rfl] at H; exact H
              clear H
              have H := H1
              clear H1
              exact absurd (Option.some.inj H) (fun h_ => absurd (h_.trans HRT.out) (by decide))
            · replace c74 := Bool.eq_false_iff.mpr c74
              subst c74
              have H1 : ((value_Mul.f kj43 a0_0 a0_1 a0_2 a1_0 a1_1 a1_2).bind fun bt297 => ((weathercockref01_Mul.f kj43 a0_0 a0_1 a0_2 a1_0 a1_1 a1_2).bind fun bt301 => (if (!(bt297.1 == bt301.1) || (!(bt297.2.1 == bt301.2.1) || (!(bt297.2.2.1.toList == bt301.2.2.1.toList)))) = true then (weathercocklaw01_ValueReckons.j2 kj43 t278 true a0_0 a0_1 a0_2 a1_0 a1_1 a1_2) else (weathercocklaw01_ValueReckons.j2 kj43 t278 (bt297.2.2.2 != bt301.2.2.2) a0_0 a0_1 a0_2 a1_0 a1_1 a1_2)))) = some r := by rw [if_neg (show ¬ (false = true) by decide)] at H; exact H
              clear H
              have H := H1
              clear H1
              replace H := Option.bind_eq_some_iff.mp H
              obtain ⟨⟨t297, t298, t299, t300⟩, A750, H⟩ := H
              replace H : ((weathercockref01_Mul.f kj43 a0_0 a0_1 a0_2 a1_0 a1_1 a1_2).bind fun bt301 => (if (!(t297 == bt301.1) || (!(t298 == bt301.2.1) || (!(t299.toList == bt301.2.2.1.toList)))) = true then (weathercocklaw01_ValueReckons.j2 kj43 t278 true a0_0 a0_1 a0_2 a1_0 a1_1 a1_2) else (weathercocklaw01_ValueReckons.j2 kj43 t278 (t300 != bt301.2.2.2) a0_0 a0_1 a0_2 a1_0 a1_1 a1_2))) = some r := H
              have A75 := Aside0.mk A750
              clear A750
              replace H := Option.bind_eq_some_iff.mp H
              obtain ⟨⟨t301, t302, t303, t304⟩, A760, H⟩ := H
              replace H : (if (!(t297 == t301) || (!(t298 == t302) || (!(t299.toList == t303.toList)))) = true then (weathercocklaw01_ValueReckons.j2 kj43 t278 true a0_0 a0_1 a0_2 a1_0 a1_1 a1_2) else (weathercocklaw01_ValueReckons.j2 kj43 t278 (t300 != t304) a0_0 a0_1 a0_2 a1_0 a1_1 a1_2)) = some r := H
              have A76 := Aside0.mk A760
              clear A760
              have HC77 := Aside0.mk H
              clear H
              have hnb78 := NB276_277.out
              have hnc78 := NB277_276.out
              have hnb79 := NB276_283.out
              have hnc79 := NB283_276.out
              have hnb80 := NB276_288.out
              have hnc80 := NB288_276.out
              have hcz81_0 : wc.cell? ⟨gb276, 0, none⟩ = some (.int .i64 a0_0) := (blk_cell BK276.out 0).trans rfl
              have hcz81_1 : wc.cell? ⟨gb276, 1, none⟩ = some (.int .i64 a0_1) := (blk_cell BK276.out 1).trans rfl
              have hcz81_2 : wc.cell? ⟨gb276, 2, none⟩ = some (.string a0_2) := (blk_cell BK276.out 2).trans rfl
              have hfz81_0 := blk_frozen BK276.out 0
              have hfz81_1 := blk_frozen BK276.out 1
              have hfz81_2 := blk_frozen BK276.out 2
              have hnb82 := NB277_283.out
              have hnc82 := NB283_277.out
              have hnb83 := NB277_288.out
              have hnc83 := NB288_277.out
              have hcz84_0 : wc.cell? ⟨gb277, 0, none⟩ = some (.int .i64 a1_0) := (blk_cell BK277.out 0).trans rfl
              have hcz84_1 : wc.cell? ⟨gb277, 1, none⟩ = some (.int .i64 a1_1) := (blk_cell BK277.out 1).trans rfl
              have hcz84_2 : wc.cell? ⟨gb277, 2, none⟩ = some (.string a1_2) := (blk_cell BK277.out 2).trans rfl
              have hfz84_0 := blk_frozen BK277.out 0
              have hfz84_1 := blk_frozen BK277.out 1
              have hfz84_2 := blk_frozen BK277.out 2
              go_upto_region 12 with (first | ((with_reducible refine gate_callee (f := 27) rfl ?_); refine goesL_ (some 54) rfl rfl Try.func27 (by kernel_rfl) rfl #[.agg #[.int .i64 a0_0, .int .i64 a0_1, .string a0_2], .agg #[.int .i64 a1_0, .int .i64 a1_1, .string a1_2]] rfl (by (try simp only [List.map_toArray, List.map_cons, List.map_nil]); first | done | rfl | (simp only [List.length_drop, List.length_take]; rfl)) ?_; (with_reducible refine (value_Mul.calls kj43 a0_0 a0_1 a0_2 a1_0 a1_1 a1_2 t297 t298 t299 t300 _ A75.out).mono ?_); rintro e w85 ⟨rfl, hb⟩; refine ⟨_, rfl, ?_⟩; have n0_ := Aside0.mk (blk_below (g := gb276) (o := .cells #[.int .i64 a0_0, .int .i64 a0_1, .string a0_2] 23 (0, 0)) (by (with_reducible repeat (first | refine blk_drewN ?_ _ | refine blk_drew ?_ | refine blk_alloc ?_ _)); exact BK276.out) hb); have n1_ := Aside0.mk (blk_below (g := gb277) (o := .cells #[.int .i64 a1_0, .int .i64 a1_1, .string a1_2] 23 (0, 0)) (by (with_reducible repeat (first | refine blk_drewN ?_ _ | refine blk_drew ?_ | refine blk_alloc ?_ _)); exact BK277.out) hb); have n2_ := Aside0.mk (blk_below (g := gb283) (o := .cells #[.int .i64 t289, .int .i64 t290, .string t291] 23 (0, 0)) (by (with_reducible repeat (first | refine blk_drewN ?_ _ | refine blk_drew ?_ | refine blk_alloc ?_ _)); exact BK283.out) hb); have n3_ := Aside0.mk (blk_below (g := gb288) (o := .cells #[.int .i64 t293, .int .i64 t294, .string t295] 23 (0, 0)) (by (with_reducible repeat (first | refine blk_drewN ?_ _ | refine blk_drew ?_ | refine blk_alloc ?_ _)); exact BK288.out) hb); have n4_ := Aside0.mk (below_step (by repeat (first | (with_reducible first | exact HB.out | apply below_alloc | apply pw_below_drewN | apply below_drew1 | refine below_set ?_ GE276.out | refine below_set ?_ GE277.out | refine below_set ?_ GE283.out | refine below_set ?_ GE288.out) | exact HB.out)) hb); clear BK276; clear BK277; clear BK283; clear BK288; clear HB; have BK276 := n0_; have BK277 := n1_; have BK283 := n2_; have BK288 := n3_; have HB := n4_; clear n0_ n1_ n2_ n3_ n4_; (try clear hb); (try clear hb2); (try clear hk); (try clear hi); have hnb86 := NB283_288.out; have hnc86 := NB288_283.out; have hcz87_0 : w85.cell? ⟨gb283, 0, none⟩ = some (.int .i64 t289) := (blk_cell BK283.out 0).trans rfl; have hcz87_1 : w85.cell? ⟨gb283, 1, none⟩ = some (.int .i64 t290) := (blk_cell BK283.out 1).trans rfl; have hcz87_2 : w85.cell? ⟨gb283, 2, none⟩ = some (.string t291) := (blk_cell BK283.out 2).trans rfl; have hfz87_0 := blk_frozen BK283.out 0; have hfz87_1 := blk_frozen BK283.out 1; have hfz87_2 := blk_frozen BK283.out 2; have hcz88_0 : w85.cell? ⟨gb276, 0, none⟩ = some (.int .i64 a0_0) := (blk_cell BK276.out 0).trans rfl; have hcz88_1 : w85.cell? ⟨gb276, 1, none⟩ = some (.int .i64 a0_1) := (blk_cell BK276.out 1).trans rfl; have hcz88_2 : w85.cell? ⟨gb276, 2, none⟩ = some (.string a0_2) := (blk_cell BK276.out 2).trans rfl; have hfz88_0 := blk_frozen BK276.out 0; have hfz88_1 := blk_frozen BK276.out 1; have hfz88_2 := blk_frozen BK276.out 2; have hcz89_0 : w85.cell? ⟨gb277, 0, none⟩ = some (.int .i64 a1_0) := (blk_cell BK277.out 0).trans rfl; have hcz89_1 : w85.cell? ⟨gb277, 1, none⟩ = some (.int .i64 a1_1) := (blk_cell BK277.out 1).trans rfl; have hcz89_2 : w85.cell? ⟨gb277, 2, none⟩ = some (.string a1_2) := (blk_cell BK277.out 2).trans rfl; have hfz89_0 := blk_frozen BK277.out 0; have hfz89_1 := blk_frozen BK277.out 1; have hfz89_2 := blk_frozen BK277.out 2) | ((with_reducible refine gate_callee (f := 32) rfl ?_); refine goesL_ (some 60) rfl rfl Try.func32 (by kernel_rfl) rfl #[.agg #[.int .i64 a0_0, .int .i64 a0_1, .string a0_2], .agg #[.int .i64 a1_0, .int .i64 a1_1, .string a1_2]] rfl (by (try simp only [List.map_toArray, List.map_cons, List.map_nil]); first | done | rfl | (simp only [List.length_drop, List.length_take]; rfl)) ?_; (with_reducible refine (weathercockref01_Mul.calls kj43 a0_0 a0_1 a0_2 a1_0 a1_1 a1_2 t301 t302 t303 t304 _ A76.out).mono ?_); rintro e w90 ⟨rfl, hb⟩; refine ⟨_, rfl, ?_⟩; have n0_ := Aside0.mk (blk_below (g := gb276) (o := .cells #[.int .i64 a0_0, .int .i64 a0_1, .string a0_2] 23 (0, 0)) (by (with_reducible repeat (first | refine blk_drewN ?_ _ | refine blk_drew ?_ | refine blk_alloc ?_ _)); refine blk_far ?_ NB276_283.out _; (with_reducible repeat (first | refine blk_drewN ?_ _ | refine blk_drew ?_ | refine blk_alloc ?_ _)); refine blk_far ?_ NB276_283.out _; (with_reducible repeat (first | refine blk_drewN ?_ _ | refine blk_drew ?_ | refine blk_alloc ?_ _)); refine blk_far ?_ NB276_283.out _; (with_reducible repeat (first | refine blk_drewN ?_ _ | refine blk_drew ?_ | refine blk_alloc ?_ _)); exact BK276.out) hb); have n1_ := Aside0.mk (blk_below (g := gb277) (o := .cells #[.int .i64 a1_0, .int .i64 a1_1, .string a1_2] 23 (0, 0)) (by (with_reducible repeat (first | refine blk_drewN ?_ _ | refine blk_drew ?_ | refine blk_alloc ?_ _)); refine blk_far ?_ NB277_283.out _; (with_reducible repeat (first | refine blk_drewN ?_ _ | refine blk_drew ?_ | refine blk_alloc ?_ _)); refine blk_far ?_ NB277_283.out _; (with_reducible repeat (first | refine blk_drewN ?_ _ | refine blk_drew ?_ | refine blk_alloc ?_ _)); refine blk_far ?_ NB277_283.out _; (with_reducible repeat (first | refine blk_drewN ?_ _ | refine blk_drew ?_ | refine blk_alloc ?_ _)); exact BK277.out) hb); have n2_ := Aside0.mk (blk_below (g := gb283) (o := .cells #[.int .i64 t297, .int .i64 t298, .string t299] 23 (0, 0)) (by (with_reducible repeat (first | refine blk_drewN ?_ _ | refine blk_drew ?_ | refine blk_alloc ?_ _)); refine blk_put (cs := #[.int .i64 t297, .int .i64 t298, .string t291]) ?_ 2 _ rfl; (with_reducible repeat (first | refine blk_drewN ?_ _ | refine blk_drew ?_ | refine blk_alloc ?_ _)); refine blk_put (cs := #[.int .i64 t297, .int .i64 t290, .string t291]) ?_ 1 _ rfl; (with_reducible repeat (first | refine blk_drewN ?_ _ | refine blk_drew ?_ | refine blk_alloc ?_ _)); refine blk_put (cs := #[.int .i64 t289, .int .i64 t290, .string t291]) ?_ 0 _ rfl; (with_reducible repeat (first | refine blk_drewN ?_ _ | refine blk_drew ?_ | refine blk_alloc ?_ _)); exact BK283.out) hb); have n3_ := Aside0.mk (blk_below (g := gb288) (o := .cells #[.int .i64 t293, .int .i64 t294, .string t295] 23 (0, 0)) (by (with_reducible repeat (first | refine blk_drewN ?_ _ | refine blk_drew ?_ | refine blk_alloc ?_ _)); refine blk_far ?_ NB288_283.out _; (with_reducible repeat (first | refine blk_drewN ?_ _ | refine blk_drew ?_ | refine blk_alloc ?_ _)); refine blk_far ?_ NB288_283.out _; (with_reducible repeat (first | refine blk_drewN ?_ _ | refine blk_drew ?_ | refine blk_alloc ?_ _)); refine blk_far ?_ NB288_283.out _; (with_reducible repeat (first | refine blk_drewN ?_ _ | refine blk_drew ?_ | refine blk_alloc ?_ _)); exact BK288.out) hb); have n4_ := Aside0.mk (below_step (by repeat (first | (with_reducible first | exact HB.out | apply below_alloc | apply pw_below_drewN | apply below_drew1 | refine below_set ?_ GE276.out | refine below_set ?_ GE277.out | refine below_set ?_ GE283.out | refine below_set ?_ GE288.out) | exact HB.out)) hb); clear BK276; clear BK277; clear BK283; clear BK288; clear HB; have BK276 := n0_; have BK277 := n1_; have BK283 := n2_; have BK288 := n3_; have HB := n4_; clear n0_ n1_ n2_ n3_ n4_; (try clear hb); (try clear hb2); (try clear hk); (try clear hi); have hcz91_0 : w90.cell? ⟨gb288, 0, none⟩ = some (.int .i64 t293) := (blk_cell BK288.out 0).trans rfl; have hcz91_1 : w90.cell? ⟨gb288, 1, none⟩ = some (.int .i64 t294) := (blk_cell BK288.out 1).trans rfl; have hcz91_2 : w90.cell? ⟨gb288, 2, none⟩ = some (.string t295) := (blk_cell BK288.out 2).trans rfl; have hfz91_0 := blk_frozen BK288.out 0; have hfz91_1 := blk_frozen BK288.out 1; have hfz91_2 := blk_frozen BK288.out 2))
              (try simp only [Act.put, List.setIfInBounds_toArray, List.set_cons_zero, List.set_cons_succ])
              go_cut [70] (fun v70 wc => ∃ (kq : Nat) (x70_76 : Bool), v70 = .bool x70_76 ∧ Aside0 (weathercocklaw01_ValueReckons.j2 kq t278 x70_76 a0_0 a0_1 a0_2 a1_0 a1_1 a1_2 = some r) ∧ Aside0 (kq ≤ kj43) ∧ Aside0 (wc.heap[gb276]? = some (.cells #[.int .i64 a0_0, .int .i64 a0_1, .string a0_2] 23 (0, 0))) ∧ Aside0 (wc.heap[gb277]? = some (.cells #[.int .i64 a1_0, .int .i64 a1_1, .string a1_2] 23 (0, 0))) ∧ Aside0 (wc.heap[gb283]? = some (.cells #[.int .i64 t297, .int .i64 t298, .string t299] 23 (0, 0))) ∧ Aside0 (wc.heap[gb288]? = some (.cells #[.int .i64 t301, .int .i64 t302, .string t303] 23 (0, 0))) ∧ Aside0 (Below w.heap.size w wc))
              case first =>
                have H := HC77.out
                clear HC77
                by_cases c92 : (!(t297 == t301) || (!(t298 == t302) || (!(t299.toList == t303.toList)))) = true
                · rw [if_pos c92] at H
                  have c92b0 : (!(t297 == t301) || (!(t298 == t302) || (!(t299.toList == t303.toList)))) = true := c92
                  clear c92
                  (first | rw [c92b0] | rw [c92b1] | (simp only [i64_w, i32_w]; rw [c92b0]) | skip)
                  have H' := Aside0.mk H
                  clear H
                  have hnb93 := NB283_276.out
                  have hnc93 := NB276_283.out
                  have hnb94 := NB283_277.out
                  have hnc94 := NB277_283.out
                  have hnb95 := NB283_288.out
                  have hnc95 := NB288_283.out
                  have hcz96_0 : w90.cell? ⟨gb283, 0, none⟩ = some (.int .i64 t297) := (blk_cell BK283.out 0).trans rfl
                  have hcz96_1 : w90.cell? ⟨gb283, 1, none⟩ = some (.int .i64 t298) := (blk_cell BK283.out 1).trans rfl
                  have hcz96_2 : w90.cell? ⟨gb283, 2, none⟩ = some (.string t299) := (blk_cell BK283.out 2).trans rfl
                  have hfz96_0 := blk_frozen BK283.out 0
                  have hfz96_1 := blk_frozen BK283.out 1
                  have hfz96_2 := blk_frozen BK283.out 2
                  have hnb97 := NB288_276.out
                  have hnc97 := NB276_288.out
                  have hnb98 := NB288_277.out
                  have hnc98 := NB277_288.out
                  have hcz99_0 : w90.cell? ⟨gb288, 0, none⟩ = some (.int .i64 t293) := (blk_cell BK288.out 0).trans rfl
                  have hcz99_1 : w90.cell? ⟨gb288, 1, none⟩ = some (.int .i64 t294) := (blk_cell BK288.out 1).trans rfl
                  have hcz99_2 : w90.cell? ⟨gb288, 2, none⟩ = some (.string t295) := (blk_cell BK288.out 2).trans rfl
                  have hfz99_0 := blk_frozen BK288.out 0
                  have hfz99_1 := blk_frozen BK288.out 1
                  have hfz99_2 := blk_frozen BK288.out 2
                  go_wp2
                  go_meet
                  case rel => exact ⟨_, (true), (by first | rfl | (simp; done) | (simp [*]; done)), H', ⟨by have := HJ5.out; have := HJ43.out; first | omega | exact Nat.le_refl _⟩, ⟨by (with_reducible repeat (first | refine blk_drewN ?_ _ | refine blk_drew ?_ | refine blk_alloc ?_ _)); refine blk_far ?_ NB276_288.out _; (with_reducible repeat (first | refine blk_drewN ?_ _ | refine blk_drew ?_ | refine blk_alloc ?_ _)); refine blk_far ?_ NB276_288.out _; (with_reducible repeat (first | refine blk_drewN ?_ _ | refine blk_drew ?_ | refine blk_alloc ?_ _)); refine blk_far ?_ NB276_288.out _; (with_reducible repeat (first | refine blk_drewN ?_ _ | refine blk_drew ?_ | refine blk_alloc ?_ _)); exact BK276.out⟩, ⟨by (with_reducible repeat (first | refine blk_drewN ?_ _ | refine blk_drew ?_ | refine blk_alloc ?_ _)); refine blk_far ?_ NB277_288.out _; (with_reducible repeat (first | refine blk_drewN ?_ _ | refine blk_drew ?_ | refine blk_alloc ?_ _)); refine blk_far ?_ NB277_288.out _; (with_reducible repeat (first | refine blk_drewN ?_ _ | refine blk_drew ?_ | refine blk_alloc ?_ _)); refine blk_far ?_ NB277_288.out _; (with_reducible repeat (first | refine blk_drewN ?_ _ | refine blk_drew ?_ | refine blk_alloc ?_ _)); exact BK277.out⟩, ⟨by (with_reducible repeat (first | refine blk_drewN ?_ _ | refine blk_drew ?_ | refine blk_alloc ?_ _)); refine blk_far ?_ NB283_288.out _; (with_reducible repeat (first | refine blk_drewN ?_ _ | refine blk_drew ?_ | refine blk_alloc ?_ _)); refine blk_far ?_ NB283_288.out _; (with_reducible repeat (first | refine blk_drewN ?_ _ | refine blk_drew ?_ | refine blk_alloc ?_ _)); refine blk_far ?_ NB283_288.out _; (with_reducible repeat (first | refine blk_drewN ?_ _ | refine blk_drew ?_ | refine blk_alloc ?_ _)); exact BK283.out⟩, ⟨by (with_reducible repeat (first | refine blk_drewN ?_ _ | refine blk_drew ?_ | refine blk_alloc ?_ _)); refine blk_put (cs := #[.int .i64 t301, .int .i64 t302, .string t295]) ?_ 2 _ rfl; (with_reducible repeat (first | refine blk_drewN ?_ _ | refine blk_drew ?_ | refine blk_alloc ?_ _)); refine blk_put (cs := #[.int .i64 t301, .int .i64 t294, .string t295]) ?_ 1 _ rfl; (with_reducible repeat (first | refine blk_drewN ?_ _ | refine blk_drew ?_ | refine blk_alloc ?_ _)); refine blk_put (cs := #[.int .i64 t293, .int .i64 t294, .string t295]) ?_ 0 _ rfl; (with_reducible repeat (first | refine blk_drewN ?_ _ | refine blk_drew ?_ | refine blk_alloc ?_ _)); exact BK288.out⟩, ⟨by repeat (first | (with_reducible first | exact HB.out | apply below_alloc | apply pw_below_drewN | apply below_drew1 | refine below_set ?_ GE276.out | refine below_set ?_ GE277.out | refine below_set ?_ GE283.out | refine below_set ?_ GE288.out) | exact HB.out)⟩⟩
                · rw [if_neg c92] at H
                  have c92b0 : (!(t297 == t301) || (!(t298 == t302) || (!(t299.toList == t303.toList)))) = false := by simpa using c92
                  clear c92
                  (first | rw [c92b0] | rw [c92b1] | (simp only [i64_w, i32_w]; rw [c92b0]) | skip)
                  have H' := Aside0.mk H
                  clear H
                  have hnb100 := NB283_276.out
                  have hnc100 := NB276_283.out
                  have hnb101 := NB283_277.out
                  have hnc101 := NB277_283.out
                  have hnb102 := NB283_288.out
                  have hnc102 := NB288_283.out
                  have hcz103_0 : w90.cell? ⟨gb283, 0, none⟩ = some (.int .i64 t297) := (blk_cell BK283.out 0).trans rfl
                  have hcz103_1 : w90.cell? ⟨gb283, 1, none⟩ = some (.int .i64 t298) := (blk_cell BK283.out 1).trans rfl
                  have hcz103_2 : w90.cell? ⟨gb283, 2, none⟩ = some (.string t299) := (blk_cell BK283.out 2).trans rfl
                  have hfz103_0 := blk_frozen BK283.out 0
                  have hfz103_1 := blk_frozen BK283.out 1
                  have hfz103_2 := blk_frozen BK283.out 2
                  have hnb104 := NB288_276.out
                  have hnc104 := NB276_288.out
                  have hnb105 := NB288_277.out
                  have hnc105 := NB277_288.out
                  have hcz106_0 : w90.cell? ⟨gb288, 0, none⟩ = some (.int .i64 t293) := (blk_cell BK288.out 0).trans rfl
                  have hcz106_1 : w90.cell? ⟨gb288, 1, none⟩ = some (.int .i64 t294) := (blk_cell BK288.out 1).trans rfl
                  have hcz106_2 : w90.cell? ⟨gb288, 2, none⟩ = some (.string t295) := (blk_cell BK288.out 2).trans rfl
                  have hfz106_0 := blk_frozen BK288.out 0
                  have hfz106_1 := blk_frozen BK288.out 1
                  have hfz106_2 := blk_frozen BK288.out 2
                  go_wp2
                  go_meet
                  case rel => exact ⟨_, ((t300 != t304)), (by first | rfl | (simp; done) | (simp [*]; done)), H', ⟨by have := HJ5.out; have := HJ43.out; first | omega | exact Nat.le_refl _⟩, ⟨by (with_reducible repeat (first | refine blk_drewN ?_ _ | refine blk_drew ?_ | refine blk_alloc ?_ _)); refine blk_far ?_ NB276_288.out _; (with_reducible repeat (first | refine blk_drewN ?_ _ | refine blk_drew ?_ | refine blk_alloc ?_ _)); refine blk_far ?_ NB276_288.out _; (with_reducible repeat (first | refine blk_drewN ?_ _ | refine blk_drew ?_ | refine blk_alloc ?_ _)); refine blk_far ?_ NB276_288.out _; (with_reducible repeat (first | refine blk_drewN ?_ _ | refine blk_drew ?_ | refine blk_alloc ?_ _)); exact BK276.out⟩, ⟨by (with_reducible repeat (first | refine blk_drewN ?_ _ | refine blk_drew ?_ | refine blk_alloc ?_ _)); refine blk_far ?_ NB277_288.out _; (with_reducible repeat (first | refine blk_drewN ?_ _ | refine blk_drew ?_ | refine blk_alloc ?_ _)); refine blk_far ?_ NB277_288.out _; (with_reducible repeat (first | refine blk_drewN ?_ _ | refine blk_drew ?_ | refine blk_alloc ?_ _)); refine blk_far ?_ NB277_288.out _; (with_reducible repeat (first | refine blk_drewN ?_ _ | refine blk_drew ?_ | refine blk_alloc ?_ _)); exact BK277.out⟩, ⟨by (with_reducible repeat (first | refine blk_drewN ?_ _ | refine blk_drew ?_ | refine blk_alloc ?_ _)); refine blk_far ?_ NB283_288.out _; (with_reducible repeat (first | refine blk_drewN ?_ _ | refine blk_drew ?_ | refine blk_alloc ?_ _)); refine blk_far ?_ NB283_288.out _; (with_reducible repeat (first | refine blk_drewN ?_ _ | refine blk_drew ?_ | refine blk_alloc ?_ _)); refine blk_far ?_ NB283_288.out _; (with_reducible repeat (first | refine blk_drewN ?_ _ | refine blk_drew ?_ | refine blk_alloc ?_ _)); exact BK283.out⟩, ⟨by (with_reducible repeat (first | refine blk_drewN ?_ _ | refine blk_drew ?_ | refine blk_alloc ?_ _)); refine blk_put (cs := #[.int .i64 t301, .int .i64 t302, .string t295]) ?_ 2 _ rfl; (with_reducible repeat (first | refine blk_drewN ?_ _ | refine blk_drew ?_ | refine blk_alloc ?_ _)); refine blk_put (cs := #[.int .i64 t301, .int .i64 t294, .string t295]) ?_ 1 _ rfl; (with_reducible repeat (first | refine blk_drewN ?_ _ | refine blk_drew ?_ | refine blk_alloc ?_ _)); refine blk_put (cs := #[.int .i64 t293, .int .i64 t294, .string t295]) ?_ 0 _ rfl; (with_reducible repeat (first | refine blk_drewN ?_ _ | refine blk_drew ?_ | refine blk_alloc ?_ _)); exact BK288.out⟩, ⟨by repeat (first | (with_reducible first | exact HB.out | apply below_alloc | apply pw_below_drewN | apply below_drew1 | refine below_set ?_ GE276.out | refine below_set ?_ GE277.out | refine below_set ?_ GE283.out | refine below_set ?_ GE288.out) | exact HB.out)⟩⟩
              case rest =>
                clear HC77
                try clear c1
                try clear c2
                try clear p2
                try clear c3
                try clear c4
                try clear c5
                try clear c6
                try clear c7
                try clear c8
                try clear c9
                try clear c10
                try clear c15
                try clear c16
                try clear c22
                try clear c23
                try clear c24
                try clear c26
                try clear c26b0
                try clear c26b1
                try clear c27
                try clear c28
                try clear c29
                try clear c30
                try clear c31
                try clear c32
                try clear c34
                try clear c35
                try clear c36
                try clear c38
                try clear c39
                try clear c41
                try clear c45
                try clear c46
                try clear c47
                try clear c49
                try clear c50
                try clear c53
                try clear c59
                try clear c59b0
                try clear c59b1
                try clear c60
                try clear c61
                try clear c62
                try clear c64
                try clear c65
                try clear c67
                try clear c68
                try clear c69
                try clear c71
                try clear c72
                try clear c74
                try clear c78
                try clear c79
                try clear c80
                try clear c82
                try clear c83
                try clear c86
                try clear c92
                try clear c92b0
                try clear c92b1
                try clear c93
                try clear c94
                try clear c95
                try clear c97
                try clear c98
                try clear c100
                try clear c101
                try clear c102
                try clear c104
                try clear c105
                try clear hcz103_0
                try clear hcz103_1
                try clear hcz103_2
                try clear hcz106_0
                try clear hcz106_1
                try clear hcz106_2
                try clear hcz11_0
                try clear hcz11_1
                try clear hcz11_2
                try clear hcz12_0
                try clear hcz12_1
                try clear hcz12_2
                try clear hcz17_0
                try clear hcz17_1
                try clear hcz17_2
                try clear hcz18_0
                try clear hcz18_1
                try clear hcz18_2
                try clear hcz19_0
                try clear hcz19_1
                try clear hcz19_2
                try clear hcz25_0
                try clear hcz25_1
                try clear hcz25_2
                try clear hcz30_0
                try clear hcz30_1
                try clear hcz30_2
                try clear hcz33_0
                try clear hcz33_1
                try clear hcz33_2
                try clear hcz37_0
                try clear hcz37_1
                try clear hcz37_2
                try clear hcz40_0
                try clear hcz40_1
                try clear hcz40_2
                try clear hcz48_0
                try clear hcz48_1
                try clear hcz48_2
                try clear hcz51_0
                try clear hcz51_1
                try clear hcz51_2
                try clear hcz54_0
                try clear hcz54_1
                try clear hcz54_2
                try clear hcz55_0
                try clear hcz55_1
                try clear hcz55_2
                try clear hcz56_0
                try clear hcz56_1
                try clear hcz56_2
                try clear hcz58_0
                try clear hcz58_1
                try clear hcz58_2
                try clear hcz63_0
                try clear hcz63_1
                try clear hcz63_2
                try clear hcz66_0
                try clear hcz66_1
                try clear hcz66_2
                try clear hcz70_0
                try clear hcz70_1
                try clear hcz70_2
                try clear hcz73_0
                try clear hcz73_1
                try clear hcz73_2
                try clear hcz81_0
                try clear hcz81_1
                try clear hcz81_2
                try clear hcz84_0
                try clear hcz84_1
                try clear hcz84_2
                try clear hcz87_0
                try clear hcz87_1
                try clear hcz87_2
                try clear hcz88_0
                try clear hcz88_1
                try clear hcz88_2
                try clear hcz89_0
                try clear hcz89_1
                try clear hcz89_2
                try clear hcz91_0
                try clear hcz91_1
                try clear hcz91_2
                try clear hcz96_0
                try clear hcz96_1
                try clear hcz96_2
                try clear hcz99_0
                try clear hcz99_1
                try clear hcz99_2
                try clear hfz103_0
                try clear hfz103_1
                try clear hfz103_2
                try clear hfz106_0
                try clear hfz106_1
                try clear hfz106_2
                try clear hfz11_0
                try clear hfz11_1
                try clear hfz11_2
                try clear hfz12_0
                try clear hfz12_1
                try clear hfz12_2
                try clear hfz17_0
                try clear hfz17_1
                try clear hfz17_2
                try clear hfz18_0
                try clear hfz18_1
                try clear hfz18_2
                try clear hfz19_0
                try clear hfz19_1
                try clear hfz19_2
                try clear hfz25_0
                try clear hfz25_1
                try clear hfz25_2
                try clear hfz30_0
                try clear hfz30_1
                try clear hfz30_2
                try clear hfz33_0
                try clear hfz33_1
                try clear hfz33_2
                try clear hfz37_0
                try clear hfz37_1
                try clear hfz37_2
                try clear hfz40_0
                try clear hfz40_1
                try clear hfz40_2
                try clear hfz48_0
                try clear hfz48_1
                try clear hfz48_2
                try clear hfz51_0
                try clear hfz51_1
                try clear hfz51_2
                try clear hfz54_0
                try clear hfz54_1
                try clear hfz54_2
                try clear hfz55_0
                try clear hfz55_1
                try clear hfz55_2
                try clear hfz56_0
                try clear hfz56_1
                try clear hfz56_2
                try clear hfz58_0
                try clear hfz58_1
                try clear hfz58_2
                try clear hfz63_0
                try clear hfz63_1
                try clear hfz63_2
                try clear hfz66_0
                try clear hfz66_1
                try clear hfz66_2
                try clear hfz70_0
                try clear hfz70_1
                try clear hfz70_2
                try clear hfz73_0
                try clear hfz73_1
                try clear hfz73_2
                try clear hfz81_0
                try clear hfz81_1
                try clear hfz81_2
                try clear hfz84_0
                try clear hfz84_1
                try clear hfz84_2
                try clear hfz87_0
                try clear hfz87_1
                try clear hfz87_2
                try clear hfz88_0
                try clear hfz88_1
                try clear hfz88_2
                try clear hfz89_0
                try clear hfz89_1
                try clear hfz89_2
                try clear hfz91_0
                try clear hfz91_1
                try clear hfz91_2
                try clear hfz96_0
                try clear hfz96_1
                try clear hfz96_2
                try clear hfz99_0
                try clear hfz99_1
                try clear hfz99_2
                try clear p2
                obtain ⟨kq, x70_76, rfl, HA, HJ76, BK276, BK277, BK283, BK288, HB⟩ := hcut
                cases kq with
                | zero => exact absurd HA.out (by simp [weathercocklaw01_ValueReckons.j2])
                | succ kj76 =>
                  have H := HA.out
                  clear HA
                  simp only [weathercocklaw01_ValueReckons.j2] at H
                  by_cases c107 : x70_76 = true
                  · subst c107
                    have H1 : (some false) = some r := by rw [if_pos rfl] at H; exact H
                    clear H
                    have H := H1
                    clear H1
                    exact absurd (Option.some.inj H) (fun h_ => absurd (h_.trans HRT.out) (by decide))
                  · replace c107 := Bool.eq_false_iff.mpr c107
                    subst c107
                    have H1 : ((value_Div.f kj76 a0_0 a0_1 a0_2 a1_0 a1_1 a1_2).bind fun bt305 => ((weathercockref01_Div.f kj76 a0_0 a0_1 a0_2 a1_0 a1_1 a1_2).bind fun bt309 => (if (!(bt305.1 == bt309.1) || (!(bt305.2.1 == bt309.2.1) || (!(bt305.2.2.1.toList == bt309.2.2.1.toList)))) = true then (weathercocklaw01_ValueReckons.j3 kj76 t278 true a0_0 a0_1 a0_2) else (weathercocklaw01_ValueReckons.j3 kj76 t278 (bt305.2.2.2 != bt309.2.2.2) a0_0 a0_1 a0_2)))) = some r := by rw [if_neg (show ¬ (false = true) by decide)] at H; exact H
                    clear H
                    have H := H1
                    clear H1
                    replace H := Option.bind_eq_some_iff.mp H
                    obtain ⟨⟨t305, t306, t307, t308⟩, A1080, H⟩ := H
                    replace H : ((weathercockref01_Div.f kj76 a0_0 a0_1 a0_2 a1_0 a1_1 a1_2).bind fun bt309 => (if (!(t305 == bt309.1) || (!(t306 == bt309.2.1) || (!(t307.toList == bt309.2.2.1.toList)))) = true then (weathercocklaw01_ValueReckons.j3 kj76 t278 true a0_0 a0_1 a0_2) else (weathercocklaw01_ValueReckons.j3 kj76 t278 (t308 != bt309.2.2.2) a0_0 a0_1 a0_2))) = some r := H
                    have A108 := Aside0.mk A1080
                    clear A1080
                    replace H := Option.bind_eq_some_iff.mp H
                    obtain ⟨⟨t309, t310, t311, t312⟩, A1090, H⟩ := H
                    replace H : (if (!(t305 == t309) || (!(t306 == t310) || (!(t307.toList == t311.toList)))) = true then (weathercocklaw01_ValueReckons.j3 kj76 t278 true a0_0 a0_1 a0_2) else (weathercocklaw01_ValueReckons.j3 kj76 t278 (t308 != t312) a0_0 a0_1 a0_2)) = some r := H
                    have A109 := Aside0.mk A1090
                    clear A1090
                    have HC110 := Aside0.mk H
                    clear H
                    have hnb111 := NB276_277.out
                    have hnc111 := NB277_276.out
                    have hnb112 := NB276_283.out
                    have hnc112 := NB283_276.out
                    have hnb113 := NB276_288.out
                    have hnc113 := NB288_276.out
                    have hcz114_0 : wc.cell? ⟨gb276, 0, none⟩ = some (.int .i64 a0_0) := (blk_cell BK276.out 0).trans rfl
                    have hcz114_1 : wc.cell? ⟨gb276, 1, none⟩ = some (.int .i64 a0_1) := (blk_cell BK276.out 1).trans rfl
                    have hcz114_2 : wc.cell? ⟨gb276, 2, none⟩ = some (.string a0_2) := (blk_cell BK276.out 2).trans rfl
                    have hfz114_0 := blk_frozen BK276.out 0
                    have hfz114_1 := blk_frozen BK276.out 1
                    have hfz114_2 := blk_frozen BK276.out 2
                    have hnb115 := NB277_283.out
                    have hnc115 := NB283_277.out
                    have hnb116 := NB277_288.out
                    have hnc116 := NB288_277.out
                    have hcz117_0 : wc.cell? ⟨gb277, 0, none⟩ = some (.int .i64 a1_0) := (blk_cell BK277.out 0).trans rfl
                    have hcz117_1 : wc.cell? ⟨gb277, 1, none⟩ = some (.int .i64 a1_1) := (blk_cell BK277.out 1).trans rfl
                    have hcz117_2 : wc.cell? ⟨gb277, 2, none⟩ = some (.string a1_2) := (blk_cell BK277.out 2).trans rfl
                    have hfz117_0 := blk_frozen BK277.out 0
                    have hfz117_1 := blk_frozen BK277.out 1
                    have hfz117_2 := blk_frozen BK277.out 2
                    go_upto_region 16 with (first | ((with_reducible refine gate_callee (f := 25) rfl ?_); refine goesL_ (some 74) rfl rfl Try.func25 (by kernel_rfl) rfl #[.agg #[.int .i64 a0_0, .int .i64 a0_1, .string a0_2], .agg #[.int .i64 a1_0, .int .i64 a1_1, .string a1_2]] rfl (by (try simp only [List.map_toArray, List.map_cons, List.map_nil]); first | done | rfl | (simp only [List.length_drop, List.length_take]; rfl)) ?_; (with_reducible refine (value_Div.calls kj76 a0_0 a0_1 a0_2 a1_0 a1_1 a1_2 t305 t306 t307 t308 _ A108.out).mono ?_); rintro e w118 ⟨rfl, hb⟩; refine ⟨_, rfl, ?_⟩; have n0_ := Aside0.mk (blk_below (g := gb276) (o := .cells #[.int .i64 a0_0, .int .i64 a0_1, .string a0_2] 23 (0, 0)) (by (with_reducible repeat (first | refine blk_drewN ?_ _ | refine blk_drew ?_ | refine blk_alloc ?_ _)); exact BK276.out) hb); have n1_ := Aside0.mk (blk_below (g := gb277) (o := .cells #[.int .i64 a1_0, .int .i64 a1_1, .string a1_2] 23 (0, 0)) (by (with_reducible repeat (first | refine blk_drewN ?_ _ | refine blk_drew ?_ | refine blk_alloc ?_ _)); exact BK277.out) hb); have n2_ := Aside0.mk (blk_below (g := gb283) (o := .cells #[.int .i64 t297, .int .i64 t298, .string t299] 23 (0, 0)) (by (with_reducible repeat (first | refine blk_drewN ?_ _ | refine blk_drew ?_ | refine blk_alloc ?_ _)); exact BK283.out) hb); have n3_ := Aside0.mk (blk_below (g := gb288) (o := .cells #[.int .i64 t301, .int .i64 t302, .string t303] 23 (0, 0)) (by (with_reducible repeat (first | refine blk_drewN ?_ _ | refine blk_drew ?_ | refine blk_alloc ?_ _)); exact BK288.out) hb); have n4_ := Aside0.mk (below_step (by repeat (first | (with_reducible first | exact HB.out | apply below_alloc | apply pw_below_drewN | apply below_drew1 | refine below_set ?_ GE276.out | refine below_set ?_ GE277.out | refine below_set ?_ GE283.out | refine below_set ?_ GE288.out) | exact HB.out)) hb); clear BK276; clear BK277; clear BK283; clear BK288; clear HB; have BK276 := n0_; have BK277 := n1_; have BK283 := n2_; have BK288 := n3_; have HB := n4_; clear n0_ n1_ n2_ n3_ n4_; (try clear hb); (try clear hb2); (try clear hk); (try clear hi); have hnb119 := NB283_288.out; have hnc119 := NB288_283.out; have hcz120_0 : w118.cell? ⟨gb283, 0, none⟩ = some (.int .i64 t297) := (blk_cell BK283.out 0).trans rfl; have hcz120_1 : w118.cell? ⟨gb283, 1, none⟩ = some (.int .i64 t298) := (blk_cell BK283.out 1).trans rfl; have hcz120_2 : w118.cell? ⟨gb283, 2, none⟩ = some (.string t299) := (blk_cell BK283.out 2).trans rfl; have hfz120_0 := blk_frozen BK283.out 0; have hfz120_1 := blk_frozen BK283.out 1; have hfz120_2 := blk_frozen BK283.out 2; have hcz121_0 : w118.cell? ⟨gb276, 0, none⟩ = some (.int .i64 a0_0) := (blk_cell BK276.out 0).trans rfl; have hcz121_1 : w118.cell? ⟨gb276, 1, none⟩ = some (.int .i64 a0_1) := (blk_cell BK276.out 1).trans rfl; have hcz121_2 : w118.cell? ⟨gb276, 2, none⟩ = some (.string a0_2) := (blk_cell BK276.out 2).trans rfl; have hfz121_0 := blk_frozen BK276.out 0; have hfz121_1 := blk_frozen BK276.out 1; have hfz121_2 := blk_frozen BK276.out 2; have hcz122_0 : w118.cell? ⟨gb277, 0, none⟩ = some (.int .i64 a1_0) := (blk_cell BK277.out 0).trans rfl; have hcz122_1 : w118.cell? ⟨gb277, 1, none⟩ = some (.int .i64 a1_1) := (blk_cell BK277.out 1).trans rfl; have hcz122_2 : w118.cell? ⟨gb277, 2, none⟩ = some (.string a1_2) := (blk_cell BK277.out 2).trans rfl; have hfz122_0 := blk_frozen BK277.out 0; have hfz122_1 := blk_frozen BK277.out 1; have hfz122_2 := blk_frozen BK277.out 2) | ((with_reducible refine gate_callee (f := 33) rfl ?_); refine goesL_ (some 80) rfl rfl Try.func33 (by kernel_rfl) rfl #[.agg #[.int .i64 a0_0, .int .i64 a0_1, .string a0_2], .agg #[.int .i64 a1_0, .int .i64 a1_1, .string a1_2]] rfl (by (try simp only [List.map_toArray, List.map_cons, List.map_nil]); first | done | rfl | (simp only [List.length_drop, List.length_take]; rfl)) ?_; (with_reducible refine (weathercockref01_Div.calls kj76 a0_0 a0_1 a0_2 a1_0 a1_1 a1_2 t309 t310 t311 t312 _ A109.out).mono ?_); rintro e w123 ⟨rfl, hb⟩; refine ⟨_, rfl, ?_⟩; have n0_ := Aside0.mk (blk_below (g := gb276) (o := .cells #[.int .i64 a0_0, .int .i64 a0_1, .string a0_2] 23 (0, 0)) (by (with_reducible repeat (first | refine blk_drewN ?_ _ | refine blk_drew ?_ | refine blk_alloc ?_ _)); refine blk_far ?_ NB276_283.out _; (with_reducible repeat (first | refine blk_drewN ?_ _ | refine blk_drew ?_ | refine blk_alloc ?_ _)); refine blk_far ?_ NB276_283.out _; (with_reducible repeat (first | refine blk_drewN ?_ _ | refine blk_drew ?_ | refine blk_alloc ?_ _)); refine blk_far ?_ NB276_283.out _; (with_reducible repeat (first | refine blk_drewN ?_ _ | refine blk_drew ?_ | refine blk_alloc ?_ _)); exact BK276.out) hb); have n1_ := Aside0.mk (blk_below (g := gb277) (o := .cells #[.int .i64 a1_0, .int .i64 a1_1, .string a1_2] 23 (0, 0)) (by (with_reducible repeat (first | refine blk_drewN ?_ _ | refine blk_drew ?_ | refine blk_alloc ?_ _)); refine blk_far ?_ NB277_283.out _; (with_reducible repeat (first | refine blk_drewN ?_ _ | refine blk_drew ?_ | refine blk_alloc ?_ _)); refine blk_far ?_ NB277_283.out _; (with_reducible repeat (first | refine blk_drewN ?_ _ | refine blk_drew ?_ | refine blk_alloc ?_ _)); refine blk_far ?_ NB277_283.out _; (with_reducible repeat (first | refine blk_drewN ?_ _ | refine blk_drew ?_ | refine blk_alloc ?_ _)); exact BK277.out) hb); have n2_ := Aside0.mk (blk_below (g := gb283) (o := .cells #[.int .i64 t305, .int .i64 t306, .string t307] 23 (0, 0)) (by (with_reducible repeat (first | refine blk_drewN ?_ _ | refine blk_drew ?_ | refine blk_alloc ?_ _)); refine blk_put (cs := #[.int .i64 t305, .int .i64 t306, .string t299]) ?_ 2 _ rfl; (with_reducible repeat (first | refine blk_drewN ?_ _ | refine blk_drew ?_ | refine blk_alloc ?_ _)); refine blk_put (cs := #[.int .i64 t305, .int .i64 t298, .string t299]) ?_ 1 _ rfl; (with_reducible repeat (first | refine blk_drewN ?_ _ | refine blk_drew ?_ | refine blk_alloc ?_ _)); refine blk_put (cs := #[.int .i64 t297, .int .i64 t298, .string t299]) ?_ 0 _ rfl; (with_reducible repeat (first | refine blk_drewN ?_ _ | refine blk_drew ?_ | refine blk_alloc ?_ _)); exact BK283.out) hb); have n3_ := Aside0.mk (blk_below (g := gb288) (o := .cells #[.int .i64 t301, .int .i64 t302, .string t303] 23 (0, 0)) (by (with_reducible repeat (first | refine blk_drewN ?_ _ | refine blk_drew ?_ | refine blk_alloc ?_ _)); refine blk_far ?_ NB288_283.out _; (with_reducible repeat (first | refine blk_drewN ?_ _ | refine blk_drew ?_ | refine blk_alloc ?_ _)); refine blk_far ?_ NB288_283.out _; (with_reducible repeat (first | refine blk_drewN ?_ _ | refine blk_drew ?_ | refine blk_alloc ?_ _)); refine blk_far ?_ NB288_283.out _; (with_reducible repeat (first | refine blk_drewN ?_ _ | refine blk_drew ?_ | refine blk_alloc ?_ _)); exact BK288.out) hb); have n4_ := Aside0.mk (below_step (by repeat (first | (with_reducible first | exact HB.out | apply below_alloc | apply pw_below_drewN | apply below_drew1 | refine below_set ?_ GE276.out | refine below_set ?_ GE277.out | refine below_set ?_ GE283.out | refine below_set ?_ GE288.out) | exact HB.out)) hb); clear BK276; clear BK277; clear BK283; clear BK288; clear HB; have BK276 := n0_; have BK277 := n1_; have BK283 := n2_; have BK288 := n3_; have HB := n4_; clear n0_ n1_ n2_ n3_ n4_; (try clear hb); (try clear hb2); (try clear hk); (try clear hi); have hcz124_0 : w123.cell? ⟨gb288, 0, none⟩ = some (.int .i64 t301) := (blk_cell BK288.out 0).trans rfl; have hcz124_1 : w123.cell? ⟨gb288, 1, none⟩ = some (.int .i64 t302) := (blk_cell BK288.out 1).trans rfl; have hcz124_2 : w123.cell? ⟨gb288, 2, none⟩ = some (.string t303) := (blk_cell BK288.out 2).trans rfl; have hfz124_0 := blk_frozen BK288.out 0; have hfz124_1 := blk_frozen BK288.out 1; have hfz124_2 := blk_frozen BK288.out 2))
                    (try simp only [Act.put, List.setIfInBounds_toArray, List.set_cons_zero, List.set_cons_succ])
                    go_cut [90] (fun v90 wc => ∃ (kq : Nat) (x90_109 : Bool), v90 = .bool x90_109 ∧ Aside0 (weathercocklaw01_ValueReckons.j3 kq t278 x90_109 a0_0 a0_1 a0_2 = some r) ∧ Aside0 (kq ≤ kj76) ∧ Aside0 (wc.heap[gb276]? = some (.cells #[.int .i64 a0_0, .int .i64 a0_1, .string a0_2] 23 (0, 0))) ∧ Aside0 (wc.heap[gb277]? = some (.cells #[.int .i64 a1_0, .int .i64 a1_1, .string a1_2] 23 (0, 0))) ∧ Aside0 (wc.heap[gb283]? = some (.cells #[.int .i64 t305, .int .i64 t306, .string t307] 23 (0, 0))) ∧ Aside0 (wc.heap[gb288]? = some (.cells #[.int .i64 t309, .int .i64 t310, .string t311] 23 (0, 0))) ∧ Aside0 (Below w.heap.size w wc))
                    case first =>
                      have H := HC110.out
                      clear HC110
                      by_cases c125 : (!(t305 == t309) || (!(t306 == t310) || (!(t307.toList == t311.toList)))) = true
                      · rw [if_pos c125] at H
                        have c125b0 : (!(t305 == t309) || (!(t306 == t310) || (!(t307.toList == t311.toList)))) = true := c125
                        clear c125
                        (first | rw [c125b0] | rw [c125b1] | (simp only [i64_w, i32_w]; rw [c125b0]) | skip)
                        have H' := Aside0.mk H
                        clear H
                        have hnb126 := NB283_276.out
                        have hnc126 := NB276_283.out
                        have hnb127 := NB283_277.out
                        have hnc127 := NB277_283.out
                        have hnb128 := NB283_288.out
                        have hnc128 := NB288_283.out
                        have hcz129_0 : w123.cell? ⟨gb283, 0, none⟩ = some (.int .i64 t305) := (blk_cell BK283.out 0).trans rfl
                        have hcz129_1 : w123.cell? ⟨gb283, 1, none⟩ = some (.int .i64 t306) := (blk_cell BK283.out 1).trans rfl
                        have hcz129_2 : w123.cell? ⟨gb283, 2, none⟩ = some (.string t307) := (blk_cell BK283.out 2).trans rfl
                        have hfz129_0 := blk_frozen BK283.out 0
                        have hfz129_1 := blk_frozen BK283.out 1
                        have hfz129_2 := blk_frozen BK283.out 2
                        have hnb130 := NB288_276.out
                        have hnc130 := NB276_288.out
                        have hnb131 := NB288_277.out
                        have hnc131 := NB277_288.out
                        have hcz132_0 : w123.cell? ⟨gb288, 0, none⟩ = some (.int .i64 t301) := (blk_cell BK288.out 0).trans rfl
                        have hcz132_1 : w123.cell? ⟨gb288, 1, none⟩ = some (.int .i64 t302) := (blk_cell BK288.out 1).trans rfl
                        have hcz132_2 : w123.cell? ⟨gb288, 2, none⟩ = some (.string t303) := (blk_cell BK288.out 2).trans rfl
                        have hfz132_0 := blk_frozen BK288.out 0
                        have hfz132_1 := blk_frozen BK288.out 1
                        have hfz132_2 := blk_frozen BK288.out 2
                        go_wp2
                        go_meet
                        case rel => exact ⟨_, (true), (by first | rfl | (simp; done) | (simp [*]; done)), H', ⟨by have := HJ5.out; have := HJ43.out; have := HJ76.out; first | omega | exact Nat.le_refl _⟩, ⟨by (with_reducible repeat (first | refine blk_drewN ?_ _ | refine blk_drew ?_ | refine blk_alloc ?_ _)); refine blk_far ?_ NB276_288.out _; (with_reducible repeat (first | refine blk_drewN ?_ _ | refine blk_drew ?_ | refine blk_alloc ?_ _)); refine blk_far ?_ NB276_288.out _; (with_reducible repeat (first | refine blk_drewN ?_ _ | refine blk_drew ?_ | refine blk_alloc ?_ _)); refine blk_far ?_ NB276_288.out _; (with_reducible repeat (first | refine blk_drewN ?_ _ | refine blk_drew ?_ | refine blk_alloc ?_ _)); exact BK276.out⟩, ⟨by (with_reducible repeat (first | refine blk_drewN ?_ _ | refine blk_drew ?_ | refine blk_alloc ?_ _)); refine blk_far ?_ NB277_288.out _; (with_reducible repeat (first | refine blk_drewN ?_ _ | refine blk_drew ?_ | refine blk_alloc ?_ _)); refine blk_far ?_ NB277_288.out _; (with_reducible repeat (first | refine blk_drewN ?_ _ | refine blk_drew ?_ | refine blk_alloc ?_ _)); refine blk_far ?_ NB277_288.out _; (with_reducible repeat (first | refine blk_drewN ?_ _ | refine blk_drew ?_ | refine blk_alloc ?_ _)); exact BK277.out⟩, ⟨by (with_reducible repeat (first | refine blk_drewN ?_ _ | refine blk_drew ?_ | refine blk_alloc ?_ _)); refine blk_far ?_ NB283_288.out _; (with_reducible repeat (first | refine blk_drewN ?_ _ | refine blk_drew ?_ | refine blk_alloc ?_ _)); refine blk_far ?_ NB283_288.out _; (with_reducible repeat (first | refine blk_drewN ?_ _ | refine blk_drew ?_ | refine blk_alloc ?_ _)); refine blk_far ?_ NB283_288.out _; (with_reducible repeat (first | refine blk_drewN ?_ _ | refine blk_drew ?_ | refine blk_alloc ?_ _)); exact BK283.out⟩, ⟨by (with_reducible repeat (first | refine blk_drewN ?_ _ | refine blk_drew ?_ | refine blk_alloc ?_ _)); refine blk_put (cs := #[.int .i64 t309, .int .i64 t310, .string t303]) ?_ 2 _ rfl; (with_reducible repeat (first | refine blk_drewN ?_ _ | refine blk_drew ?_ | refine blk_alloc ?_ _)); refine blk_put (cs := #[.int .i64 t309, .int .i64 t302, .string t303]) ?_ 1 _ rfl; (with_reducible repeat (first | refine blk_drewN ?_ _ | refine blk_drew ?_ | refine blk_alloc ?_ _)); refine blk_put (cs := #[.int .i64 t301, .int .i64 t302, .string t303]) ?_ 0 _ rfl; (with_reducible repeat (first | refine blk_drewN ?_ _ | refine blk_drew ?_ | refine blk_alloc ?_ _)); exact BK288.out⟩, ⟨by repeat (first | (with_reducible first | exact HB.out | apply below_alloc | apply pw_below_drewN | apply below_drew1 | refine below_set ?_ GE276.out | refine below_set ?_ GE277.out | refine below_set ?_ GE283.out | refine below_set ?_ GE288.out) | exact HB.out)⟩⟩
                      · rw [if_neg c125] at H
                        have c125b0 : (!(t305 == t309) || (!(t306 == t310) || (!(t307.toList == t311.toList)))) = false := by simpa using c125
                        clear c125
                        (first | rw [c125b0] | rw [c125b1] | (simp only [i64_w, i32_w]; rw [c125b0]) | skip)
                        have H' := Aside0.mk H
                        clear H
                        have hnb133 := NB283_276.out
                        have hnc133 := NB276_283.out
                        have hnb134 := NB283_277.out
                        have hnc134 := NB277_283.out
                        have hnb135 := NB283_288.out
                        have hnc135 := NB288_283.out
                        have hcz136_0 : w123.cell? ⟨gb283, 0, none⟩ = some (.int .i64 t305) := (blk_cell BK283.out 0).trans rfl
                        have hcz136_1 : w123.cell? ⟨gb283, 1, none⟩ = some (.int .i64 t306) := (blk_cell BK283.out 1).trans rfl
                        have hcz136_2 : w123.cell? ⟨gb283, 2, none⟩ = some (.string t307) := (blk_cell BK283.out 2).trans rfl
                        have hfz136_0 := blk_frozen BK283.out 0
                        have hfz136_1 := blk_frozen BK283.out 1
                        have hfz136_2 := blk_frozen BK283.out 2
                        have hnb137 := NB288_276.out
                        have hnc137 := NB276_288.out
                        have hnb138 := NB288_277.out
                        have hnc138 := NB277_288.out
                        have hcz139_0 : w123.cell? ⟨gb288, 0, none⟩ = some (.int .i64 t301) := (blk_cell BK288.out 0).trans rfl
                        have hcz139_1 : w123.cell? ⟨gb288, 1, none⟩ = some (.int .i64 t302) := (blk_cell BK288.out 1).trans rfl
                        have hcz139_2 : w123.cell? ⟨gb288, 2, none⟩ = some (.string t303) := (blk_cell BK288.out 2).trans rfl
                        have hfz139_0 := blk_frozen BK288.out 0
                        have hfz139_1 := blk_frozen BK288.out 1
                        have hfz139_2 := blk_frozen BK288.out 2
                        go_wp2
                        go_meet
                        case rel => exact ⟨_, ((t308 != t312)), (by first | rfl | (simp; done) | (simp [*]; done)), H', ⟨by have := HJ5.out; have := HJ43.out; have := HJ76.out; first | omega | exact Nat.le_refl _⟩, ⟨by (with_reducible repeat (first | refine blk_drewN ?_ _ | refine blk_drew ?_ | refine blk_alloc ?_ _)); refine blk_far ?_ NB276_288.out _; (with_reducible repeat (first | refine blk_drewN ?_ _ | refine blk_drew ?_ | refine blk_alloc ?_ _)); refine blk_far ?_ NB276_288.out _; (with_reducible repeat (first | refine blk_drewN ?_ _ | refine blk_drew ?_ | refine blk_alloc ?_ _)); refine blk_far ?_ NB276_288.out _; (with_reducible repeat (first | refine blk_drewN ?_ _ | refine blk_drew ?_ | refine blk_alloc ?_ _)); exact BK276.out⟩, ⟨by (with_reducible repeat (first | refine blk_drewN ?_ _ | refine blk_drew ?_ | refine blk_alloc ?_ _)); refine blk_far ?_ NB277_288.out _; (with_reducible repeat (first | refine blk_drewN ?_ _ | refine blk_drew ?_ | refine blk_alloc ?_ _)); refine blk_far ?_ NB277_288.out _; (with_reducible repeat (first | refine blk_drewN ?_ _ | refine blk_drew ?_ | refine blk_alloc ?_ _)); refine blk_far ?_ NB277_288.out _; (with_reducible repeat (first | refine blk_drewN ?_ _ | refine blk_drew ?_ | refine blk_alloc ?_ _)); exact BK277.out⟩, ⟨by (with_reducible repeat (first | refine blk_drewN ?_ _ | refine blk_drew ?_ | refine blk_alloc ?_ _)); refine blk_far ?_ NB283_288.out _; (with_reducible repeat (first | refine blk_drewN ?_ _ | refine blk_drew ?_ | refine blk_alloc ?_ _)); refine blk_far ?_ NB283_288.out _; (with_reducible repeat (first | refine blk_drewN ?_ _ | refine blk_drew ?_ | refine blk_alloc ?_ _)); refine blk_far ?_ NB283_288.out _; (with_reducible repeat (first | refine blk_drewN ?_ _ | refine blk_drew ?_ | refine blk_alloc ?_ _)); exact BK283.out⟩, ⟨by (with_reducible repeat (first | refine blk_drewN ?_ _ | refine blk_drew ?_ | refine blk_alloc ?_ _)); refine blk_put (cs := #[.int .i64 t309, .int .i64 t310, .string t303]) ?_ 2 _ rfl; (with_reducible repeat (first | refine blk_drewN ?_ _ | refine blk_drew ?_ | refine blk_alloc ?_ _)); refine blk_put (cs := #[.int .i64 t309, .int .i64 t302, .string t303]) ?_ 1 _ rfl; (with_reducible repeat (first | refine blk_drewN ?_ _ | refine blk_drew ?_ | refine blk_alloc ?_ _)); refine blk_put (cs := #[.int .i64 t301, .int .i64 t302, .string t303]) ?_ 0 _ rfl; (with_reducible repeat (first | refine blk_drewN ?_ _ | refine blk_drew ?_ | refine blk_alloc ?_ _)); exact BK288.out⟩, ⟨by repeat (first | (with_reducible first | exact HB.out | apply below_alloc | apply pw_below_drewN | apply below_drew1 | refine below_set ?_ GE276.out | refine below_set ?_ GE277.out | refine below_set ?_ GE283.out | refine below_set ?_ GE288.out) | exact HB.out)⟩⟩
                    case rest =>
                      clear HC110
                      try clear c1
                      try clear c2
                      try clear p2
                      try clear c3
                      try clear c4
                      try clear c5
                      try clear c6
                      try clear c7
                      try clear c8
                      try clear c9
                      try clear c10
                      try clear c11
                      try clear c12
                      try clear c13
                      try clear c15
                      try clear c16
                      try clear c22
                      try clear c23
                      try clear c24
                      try clear c25
                      try clear c26
                      try clear c26b0
                      try clear c26b1
                      try clear c27
                      try clear c28
                      try clear c29
                      try clear c30
                      try clear c31
                      try clear c32
                      try clear c33
                      try clear c34
                      try clear c35
                      try clear c36
                      try clear c38
                      try clear c39
                      try clear c41
                      try clear c45
                      try clear c46
                      try clear c47
                      try clear c49
                      try clear c50
                      try clear c53
                      try clear c59
                      try clear c59b0
                      try clear c59b1
                      try clear c60
                      try clear c61
                      try clear c62
                      try clear c64
                      try clear c65
                      try clear c67
                      try clear c68
                      try clear c69
                      try clear c71
                      try clear c72
                      try clear c74
                      try clear c78
                      try clear c79
                      try clear c80
                      try clear c82
                      try clear c83
                      try clear c86
                      try clear c92
                      try clear c92b0
                      try clear c92b1
                      try clear c93
                      try clear c94
                      try clear c95
                      try clear c97
                      try clear c98
                      try clear c100
                      try clear c101
                      try clear c102
                      try clear c104
                      try clear c105
                      try clear c107
                      try clear c111
                      try clear c112
                      try clear c113
                      try clear c115
                      try clear c116
                      try clear c119
                      try clear c125
                      try clear c125b0
                      try clear c125b1
                      try clear c126
                      try clear c127
                      try clear c128
                      try clear c130
                      try clear c131
                      try clear c133
                      try clear c134
                      try clear c135
                      try clear c137
                      try clear c138
                      try clear hcz103_0
                      try clear hcz103_1
                      try clear hcz103_2
                      try clear hcz106_0
                      try clear hcz106_1
                      try clear hcz106_2
                      try clear hcz114_0
                      try clear hcz114_1
                      try clear hcz114_2
                      try clear hcz117_0
                      try clear hcz117_1
                      try clear hcz117_2
                      try clear hcz11_0
                      try clear hcz11_1
                      try clear hcz11_2
                      try clear hcz120_0
                      try clear hcz120_1
                      try clear hcz120_2
                      try clear hcz121_0
                      try clear hcz121_1
                      try clear hcz121_2
                      try clear hcz122_0
                      try clear hcz122_1
                      try clear hcz122_2
                      try clear hcz124_0
                      try clear hcz124_1
                      try clear hcz124_2
                      try clear hcz129_0
                      try clear hcz129_1
                      try clear hcz129_2
                      try clear hcz12_0
                      try clear hcz12_1
                      try clear hcz12_2
                      try clear hcz132_0
                      try clear hcz132_1
                      try clear hcz132_2
                      try clear hcz136_0
                      try clear hcz136_1
                      try clear hcz136_2
                      try clear hcz139_0
                      try clear hcz139_1
                      try clear hcz139_2
                      try clear hcz17_0
                      try clear hcz17_1
                      try clear hcz17_2
                      try clear hcz18_0
                      try clear hcz18_1
                      try clear hcz18_2
                      try clear hcz19_0
                      try clear hcz19_1
                      try clear hcz19_2
                      try clear hcz25_0
                      try clear hcz25_1
                      try clear hcz25_2
                      try clear hcz30_0
                      try clear hcz30_1
                      try clear hcz30_2
                      try clear hcz33_0
                      try clear hcz33_1
                      try clear hcz33_2
                      try clear hcz37_0
                      try clear hcz37_1
                      try clear hcz37_2
                      try clear hcz40_0
                      try clear hcz40_1
                      try clear hcz40_2
                      try clear hcz48_0
                      try clear hcz48_1
                      try clear hcz48_2
                      try clear hcz51_0
                      try clear hcz51_1
                      try clear hcz51_2
                      try clear hcz54_0
                      try clear hcz54_1
                      try clear hcz54_2
                      try clear hcz55_0
                      try clear hcz55_1
                      try clear hcz55_2
                      try clear hcz56_0
                      try clear hcz56_1
                      try clear hcz56_2
                      try clear hcz58_0
                      try clear hcz58_1
                      try clear hcz58_2
                      try clear hcz63_0
                      try clear hcz63_1
                      try clear hcz63_2
                      try clear hcz66_0
                      try clear hcz66_1
                      try clear hcz66_2
                      try clear hcz70_0
                      try clear hcz70_1
                      try clear hcz70_2
                      try clear hcz73_0
                      try clear hcz73_1
                      try clear hcz73_2
                      try clear hcz81_0
                      try clear hcz81_1
                      try clear hcz81_2
                      try clear hcz84_0
                      try clear hcz84_1
                      try clear hcz84_2
                      try clear hcz87_0
                      try clear hcz87_1
                      try clear hcz87_2
                      try clear hcz88_0
                      try clear hcz88_1
                      try clear hcz88_2
                      try clear hcz89_0
                      try clear hcz89_1
                      try clear hcz89_2
                      try clear hcz91_0
                      try clear hcz91_1
                      try clear hcz91_2
                      try clear hcz96_0
                      try clear hcz96_1
                      try clear hcz96_2
                      try clear hcz99_0
                      try clear hcz99_1
                      try clear hcz99_2
                      try clear hfz103_0
                      try clear hfz103_1
                      try clear hfz103_2
                      try clear hfz106_0
                      try clear hfz106_1
                      try clear hfz106_2
                      try clear hfz114_0
                      try clear hfz114_1
                      try clear hfz114_2
                      try clear hfz117_0
                      try clear hfz117_1
                      try clear hfz117_2
                      try clear hfz11_0
                      try clear hfz11_1
                      try clear hfz11_2
                      try clear hfz120_0
                      try clear hfz120_1
                      try clear hfz120_2
                      try clear hfz121_0
                      try clear hfz121_1
                      try clear hfz121_2
                      try clear hfz122_0
                      try clear hfz122_1
                      try clear hfz122_2
                      try clear hfz124_0
                      try clear hfz124_1
                      try clear hfz124_2
                      try clear hfz129_0
                      try clear hfz129_1
                      try clear hfz129_2
                      try clear hfz12_0
                      try clear hfz12_1
                      try clear hfz12_2
                      try clear hfz132_0
                      try clear hfz132_1
                      try clear hfz132_2
                      try clear hfz136_0
                      try clear hfz136_1
                      try clear hfz136_2
                      try clear hfz139_0
                      try clear hfz139_1
                      try clear hfz139_2
                      try clear hfz17_0
                      try clear hfz17_1
                      try clear hfz17_2
                      try clear hfz18_0
                      try clear hfz18_1
                      try clear hfz18_2
                      try clear hfz19_0
                      try clear hfz19_1
                      try clear hfz19_2
                      try clear hfz25_0
                      try clear hfz25_1
                      try clear hfz25_2
                      try clear hfz30_0
                      try clear hfz30_1
                      try clear hfz30_2
                      try clear hfz33_0
                      try clear hfz33_1
                      try clear hfz33_2
                      try clear hfz37_0
                      try clear hfz37_1
                      try clear hfz37_2
                      try clear hfz40_0
                      try clear hfz40_1
                      try clear hfz40_2
                      try clear hfz48_0
                      try clear hfz48_1
                      try clear hfz48_2
                      try clear hfz51_0
                      try clear hfz51_1
                      try clear hfz51_2
                      try clear hfz54_0
                      try clear hfz54_1
                      try clear hfz54_2
                      try clear hfz55_0
                      try clear hfz55_1
                      try clear hfz55_2
                      try clear hfz56_0
                      try clear hfz56_1
                      try clear hfz56_2
                      try clear hfz58_0
                      try clear hfz58_1
                      try clear hfz58_2
                      try clear hfz63_0
                      try clear hfz63_1
                      try clear hfz63_2
                      try clear hfz66_0
                      try clear hfz66_1
                      try clear hfz66_2
                      try clear hfz70_0
                      try clear hfz70_1
                      try clear hfz70_2
                      try clear hfz73_0
                      try clear hfz73_1
                      try clear hfz73_2
                      try clear hfz81_0
                      try clear hfz81_1
                      try clear hfz81_2
                      try clear hfz84_0
                      try clear hfz84_1
                      try clear hfz84_2
                      try clear hfz87_0
                      try clear hfz87_1
                      try clear hfz87_2
                      try clear hfz88_0
                      try clear hfz88_1
                      try clear hfz88_2
                      try clear hfz89_0
                      try clear hfz89_1
                      try clear hfz89_2
                      try clear hfz91_0
                      try clear hfz91_1
                      try clear hfz91_2
                      try clear hfz96_0
                      try clear hfz96_1
                      try clear hfz96_2
                      try clear hfz99_0
                      try clear hfz99_1
                      try clear hfz99_2
                      try clear p2
                      obtain ⟨kq, x90_109, rfl, HA, HJ109, BK276, BK277, BK283, BK288, HB⟩ := hcut
                      cases kq with
                      | zero => exact absurd HA.out (by simp [weathercocklaw01_ValueReckons.j3])
                      | succ kj109 =>
                        have H := HA.out
                        clear HA
                        simp only [weathercocklaw01_ValueReckons.j3] at H
                        by_cases c140 : x90_109 = true
                        · subst c140
                          have H1 : (some false) = some r := by rw [if_pos rfl] at H; exact H
                          clear H
                          have H := H1
                          clear H1
                          exact absurd (Option.some.inj H) (fun h_ => absurd (h_.trans HRT.out) (by decide))
                        · replace c140 := Bool.eq_false_iff.mpr c140
                          subst c140
                          have H1 : ((value_Neg.f kj109 a0_0 a0_1 a0_2).bind fun bt313 => ((weathercockref01_Neg.f a0_0 a0_1 a0_2).bind fun bt317 => (if t278 = true then (if (bt313.1 == bt317.1 && (bt313.2.1 == bt317.2.1 && (bt313.2.2.1.toList == bt317.2.2.1.toList))) = true then (some (bt313.2.2.2 == bt317.2.2.2)) else (some false)) else (some false)))) = some r := by rw [if_neg (show ¬ (false = true) by decide)] at H; exact H
                          clear H
                          have H := H1
                          clear H1
                          replace H := Option.bind_eq_some_iff.mp H
                          obtain ⟨⟨t313, t314, t315, t316⟩, A1410, H⟩ := H
                          replace H : ((weathercockref01_Neg.f a0_0 a0_1 a0_2).bind fun bt317 => (if t278 = true then (if (t313 == bt317.1 && (t314 == bt317.2.1 && (t315.toList == bt317.2.2.1.toList))) = true then (some (t316 == bt317.2.2.2)) else (some false)) else (some false))) = some r := H
                          have A141 := Aside0.mk A1410
                          clear A1410
                          replace H := Option.bind_eq_some_iff.mp H
                          obtain ⟨⟨t317, t318, t319, t320⟩, A1420, H⟩ := H
                          replace H : (if t278 = true then (if (t313 == t317 && (t314 == t318 && (t315.toList == t319.toList))) = true then (some (t316 == t320)) else (some false)) else (some false)) = some r := H
                          have A142 := Aside0.mk A1420
                          clear A1420
                          by_cases c143 : t278 = true
                          · subst c143
                            have H1 : (if (t313 == t317 && (t314 == t318 && (t315.toList == t319.toList))) = true then (some (t316 == t320)) else (some false)) = some r := by rw [if_pos rfl] at H; exact H
                            clear H
                            have H := H1
                            clear H1
                            by_cases c144 : (t313 == t317 && (t314 == t318 && (t315.toList == t319.toList))) = true
                            · rw [if_pos c144] at H
                              have c144b0 : (t313 == t317 && (t314 == t318 && (t315.toList == t319.toList))) = true := c144
                              (try (have c144b1 : decide (t313 = t317 && (t314 == t318 && (t315.toList == t319.toList))) = true := by simpa using c144))
                              (try (have c144b2 : (t313 == t317 && (t314 == t318 && (t315.toList == t319.toList))) = true := by simpa using c144))
                              clear c144
                              obtain rfl := Option.some.inj H
                              have hnb145 := NB276_277.out
                              have hnc145 := NB277_276.out
                              have hnb146 := NB276_283.out
                              have hnc146 := NB283_276.out
                              have hnb147 := NB276_288.out
                              have hnc147 := NB288_276.out
                              have hcz148_0 : wc.cell? ⟨gb276, 0, none⟩ = some (.int .i64 a0_0) := (blk_cell BK276.out 0).trans rfl
                              have hcz148_1 : wc.cell? ⟨gb276, 1, none⟩ = some (.int .i64 a0_1) := (blk_cell BK276.out 1).trans rfl
                              have hcz148_2 : wc.cell? ⟨gb276, 2, none⟩ = some (.string a0_2) := (blk_cell BK276.out 2).trans rfl
                              have hfz148_0 := blk_frozen BK276.out 0
                              have hfz148_1 := blk_frozen BK276.out 1
                              have hfz148_2 := blk_frozen BK276.out 2
                              go_wp2_with (first | ((with_reducible refine gate_callee (f := 34) rfl ?_); refine goesL_ (some 93) rfl rfl Try.func34 (by kernel_rfl) rfl #[.agg #[.int .i64 a0_0, .int .i64 a0_1, .string a0_2]] rfl (by (try simp only [List.map_toArray, List.map_cons, List.map_nil]); first | done | rfl | (simp only [List.length_drop, List.length_take]; rfl)) ?_; (with_reducible refine (value_Neg.calls kj109 a0_0 a0_1 a0_2 t313 t314 t315 t316 _ A141.out).mono ?_); rintro e w149 ⟨rfl, hb⟩; refine ⟨_, rfl, ?_⟩; have n0_ := Aside0.mk (blk_below (g := gb276) (o := .cells #[.int .i64 a0_0, .int .i64 a0_1, .string a0_2] 23 (0, 0)) (by (with_reducible repeat (first | refine blk_drewN ?_ _ | refine blk_drew ?_ | refine blk_alloc ?_ _)); exact BK276.out) hb); have n1_ := Aside0.mk (blk_below (g := gb277) (o := .cells #[.int .i64 a1_0, .int .i64 a1_1, .string a1_2] 23 (0, 0)) (by (with_reducible repeat (first | refine blk_drewN ?_ _ | refine blk_drew ?_ | refine blk_alloc ?_ _)); exact BK277.out) hb); have n2_ := Aside0.mk (blk_below (g := gb283) (o := .cells #[.int .i64 t305, .int .i64 t306, .string t307] 23 (0, 0)) (by (with_reducible repeat (first | refine blk_drewN ?_ _ | refine blk_drew ?_ | refine blk_alloc ?_ _)); exact BK283.out) hb); have n3_ := Aside0.mk (blk_below (g := gb288) (o := .cells #[.int .i64 t309, .int .i64 t310, .string t311] 23 (0, 0)) (by (with_reducible repeat (first | refine blk_drewN ?_ _ | refine blk_drew ?_ | refine blk_alloc ?_ _)); exact BK288.out) hb); have n4_ := Aside0.mk (below_step (by repeat (first | (with_reducible first | exact HB.out | apply below_alloc | apply pw_below_drewN | apply below_drew1 | refine below_set ?_ GE276.out | refine below_set ?_ GE277.out | refine below_set ?_ GE283.out | refine below_set ?_ GE288.out) | exact HB.out)) hb); clear BK276; clear BK277; clear BK283; clear BK288; clear HB; have BK276 := n0_; have BK277 := n1_; have BK283 := n2_; have BK288 := n3_; have HB := n4_; clear n0_ n1_ n2_ n3_ n4_; (try clear hb); (try clear hb2); (try clear hk); (try clear hi); have hnb150 := NB283_277.out; have hnc150 := NB277_283.out; have hnb151 := NB283_288.out; have hnc151 := NB288_283.out; have hcz152_0 : w149.cell? ⟨gb283, 0, none⟩ = some (.int .i64 t305) := (blk_cell BK283.out 0).trans rfl; have hcz152_1 : w149.cell? ⟨gb283, 1, none⟩ = some (.int .i64 t306) := (blk_cell BK283.out 1).trans rfl; have hcz152_2 : w149.cell? ⟨gb283, 2, none⟩ = some (.string t307) := (blk_cell BK283.out 2).trans rfl; have hfz152_0 := blk_frozen BK283.out 0; have hfz152_1 := blk_frozen BK283.out 1; have hfz152_2 := blk_frozen BK283.out 2; have hcz153_0 : w149.cell? ⟨gb276, 0, none⟩ = some (.int .i64 a0_0) := (blk_cell BK276.out 0).trans rfl; have hcz153_1 : w149.cell? ⟨gb276, 1, none⟩ = some (.int .i64 a0_1) := (blk_cell BK276.out 1).trans rfl; have hcz153_2 : w149.cell? ⟨gb276, 2, none⟩ = some (.string a0_2) := (blk_cell BK276.out 2).trans rfl; have hfz153_0 := blk_frozen BK276.out 0; have hfz153_1 := blk_frozen BK276.out 1; have hfz153_2 := blk_frozen BK276.out 2) | ((with_reducible refine gate_callee (f := 35) rfl ?_); refine goesL_ (some 98) rfl rfl Try.func35 (by kernel_rfl) rfl #[.agg #[.int .i64 a0_0, .int .i64 a0_1, .string a0_2]] rfl (by (try simp only [List.map_toArray, List.map_cons, List.map_nil]); first | done | rfl | (simp only [List.length_drop, List.length_take]; rfl)) ?_; (with_reducible refine (weathercockref01_Neg.calls a0_0 a0_1 a0_2 t317 t318 t319 t320 _ A142.out).mono ?_); rintro e w154 ⟨rfl, hb⟩; refine ⟨_, rfl, ?_⟩; have n0_ := Aside0.mk (blk_below (g := gb276) (o := .cells #[.int .i64 a0_0, .int .i64 a0_1, .string a0_2] 23 (0, 0)) (by (with_reducible repeat (first | refine blk_drewN ?_ _ | refine blk_drew ?_ | refine blk_alloc ?_ _)); refine blk_far ?_ NB276_283.out _; (with_reducible repeat (first | refine blk_drewN ?_ _ | refine blk_drew ?_ | refine blk_alloc ?_ _)); refine blk_far ?_ NB276_283.out _; (with_reducible repeat (first | refine blk_drewN ?_ _ | refine blk_drew ?_ | refine blk_alloc ?_ _)); refine blk_far ?_ NB276_283.out _; (with_reducible repeat (first | refine blk_drewN ?_ _ | refine blk_drew ?_ | refine blk_alloc ?_ _)); exact BK276.out) hb); have n1_ := Aside0.mk (blk_below (g := gb277) (o := .cells #[.int .i64 a1_0, .int .i64 a1_1, .string a1_2] 23 (0, 0)) (by (with_reducible repeat (first | refine blk_drewN ?_ _ | refine blk_drew ?_ | refine blk_alloc ?_ _)); refine blk_far ?_ NB277_283.out _; (with_reducible repeat (first | refine blk_drewN ?_ _ | refine blk_drew ?_ | refine blk_alloc ?_ _)); refine blk_far ?_ NB277_283.out _; (with_reducible repeat (first | refine blk_drewN ?_ _ | refine blk_drew ?_ | refine blk_alloc ?_ _)); refine blk_far ?_ NB277_283.out _; (with_reducible repeat (first | refine blk_drewN ?_ _ | refine blk_drew ?_ | refine blk_alloc ?_ _)); exact BK277.out) hb); have n2_ := Aside0.mk (blk_below (g := gb283) (o := .cells #[.int .i64 t313, .int .i64 t314, .string t315] 23 (0, 0)) (by (with_reducible repeat (first | refine blk_drewN ?_ _ | refine blk_drew ?_ | refine blk_alloc ?_ _)); refine blk_put (cs := #[.int .i64 t313, .int .i64 t314, .string t307]) ?_ 2 _ rfl; (with_reducible repeat (first | refine blk_drewN ?_ _ | refine blk_drew ?_ | refine blk_alloc ?_ _)); refine blk_put (cs := #[.int .i64 t313, .int .i64 t306, .string t307]) ?_ 1 _ rfl; (with_reducible repeat (first | refine blk_drewN ?_ _ | refine blk_drew ?_ | refine blk_alloc ?_ _)); refine blk_put (cs := #[.int .i64 t305, .int .i64 t306, .string t307]) ?_ 0 _ rfl; (with_reducible repeat (first | refine blk_drewN ?_ _ | refine blk_drew ?_ | refine blk_alloc ?_ _)); exact BK283.out) hb); have n3_ := Aside0.mk (blk_below (g := gb288) (o := .cells #[.int .i64 t309, .int .i64 t310, .string t311] 23 (0, 0)) (by (with_reducible repeat (first | refine blk_drewN ?_ _ | refine blk_drew ?_ | refine blk_alloc ?_ _)); refine blk_far ?_ NB288_283.out _; (with_reducible repeat (first | refine blk_drewN ?_ _ | refine blk_drew ?_ | refine blk_alloc ?_ _)); refine blk_far ?_ NB288_283.out _; (with_reducible repeat (first | refine blk_drewN ?_ _ | refine blk_drew ?_ | refine blk_alloc ?_ _)); refine blk_far ?_ NB288_283.out _; (with_reducible repeat (first | refine blk_drewN ?_ _ | refine blk_drew ?_ | refine blk_alloc ?_ _)); exact BK288.out) hb); have n4_ := Aside0.mk (below_step (by repeat (first | (with_reducible first | exact HB.out | apply below_alloc | apply pw_below_drewN | apply below_drew1 | refine below_set ?_ GE276.out | refine below_set ?_ GE277.out | refine below_set ?_ GE283.out | refine below_set ?_ GE288.out) | exact HB.out)) hb); clear BK276; clear BK277; clear BK283; clear BK288; clear HB; have BK276 := n0_; have BK277 := n1_; have BK283 := n2_; have BK288 := n3_; have HB := n4_; clear n0_ n1_ n2_ n3_ n4_; (try clear hb); (try clear hb2); (try clear hk); (try clear hi); have hnb155 := NB288_277.out; have hnc155 := NB277_288.out; have hcz156_0 : w154.cell? ⟨gb288, 0, none⟩ = some (.int .i64 t309) := (blk_cell BK288.out 0).trans rfl; have hcz156_1 : w154.cell? ⟨gb288, 1, none⟩ = some (.int .i64 t310) := (blk_cell BK288.out 1).trans rfl; have hcz156_2 : w154.cell? ⟨gb288, 2, none⟩ = some (.string t311) := (blk_cell BK288.out 2).trans rfl; have hfz156_0 := blk_frozen BK288.out 0; have hfz156_1 := blk_frozen BK288.out 1; have hfz156_2 := blk_frozen BK288.out 2; have hcz157_0 : w154.cell? ⟨gb283, 0, none⟩ = some (.int .i64 t313) := (blk_cell BK283.out 0).trans rfl; have hcz157_1 : w154.cell? ⟨gb283, 1, none⟩ = some (.int .i64 t314) := (blk_cell BK283.out 1).trans rfl; have hcz157_2 : w154.cell? ⟨gb283, 2, none⟩ = some (.string t315) := (blk_cell BK283.out 2).trans rfl; have hfz157_0 := blk_frozen BK283.out 0; have hfz157_1 := blk_frozen BK283.out 1; have hfz157_2 := blk_frozen BK283.out 2))
                              go_ret
                              exact ⟨by first | rfl | (simp [errW_none, errW_some] <;> rfl) | (simp [*, errW_none, errW_some] <;> rfl), by repeat (first | (with_reducible first | exact HB.out | apply below_alloc | apply pw_below_drewN | apply below_drew1 | refine below_set ?_ GE276.out | refine below_set ?_ GE277.out | refine below_set ?_ GE283.out | refine below_set ?_ GE288.out) | exact HB.out)⟩
                            · rw [if_neg c144] at H
                              have c144b0 : (t313 == t317 && (t314 == t318 && (t315.toList == t319.toList))) = false := by simpa using c144
                              (try (have c144b1 : decide (t313 = t317 && (t314 == t318 && (t315.toList == t319.toList))) = false := by simpa using c144))
                              (try (have c144b2 : (t313 == t317 && (t314 == t318 && (t315.toList == t319.toList))) = false := by simpa using c144))
                              (try (have c144b3 : ¬ (t313 = t317 && (t314 == t318 && (t315.toList == t319.toList))) := by simpa using c144))
                              clear c144
                              exact absurd (Option.some.inj H) (fun h_ => absurd (h_.trans HRT.out) (by decide))
                          · replace c143 := Bool.eq_false_iff.mpr c143
                            subst c143
                            have H1 : (some false) = some r := by rw [if_neg (show ¬ (false = true) by decide)] at H; exact H
                            clear H
                            have H := H1
                            clear H1
                            exact absurd (Option.some.inj H) (fun h_ => absurd (h_.trans HRT.out) (by decide))

/-- THE ONE PURE STATEMENT of weathercocklaw01_ValueReckons: ours. -/
def weathercocklaw01_ValueReckons.Pure : Prop := ∀ (a0_0 : Int) (a0_1 : Int) (a0_2 : ByteArray) (a1_0 : Int) (a1_1 : Int) (a1_2 : ByteArray), ((Lit.int .i64 a0_0).wf = true) → ((Lit.int .i64 a0_1).wf = true) → (a0_2.size ≤ 140737488351232) → ((Lit.int .i64 a1_0).wf = true) → ((Lit.int .i64 a1_1).wf = true) → (a1_2.size ≤ 140737488351232) → ∃ k, weathercocklaw01_ValueReckons.f k a0_0 a0_1 a0_2 a1_0 a1_1 a1_2 = some true

end Go.Proofs.Ytihfljdcmncicaa.QValueReckons
