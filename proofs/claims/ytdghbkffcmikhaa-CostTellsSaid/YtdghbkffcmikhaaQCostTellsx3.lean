-- Written by wip/tools/myprint.py of this project (the kit's printer with lines replaced in memory, and texts of ours)
import Derived.Test.YtdghbkffcmikhaaQCostTellsx0
import Derived.Test.YtdghbkffcmikhaaQCostTellsx1
import Derived.Test.YtdghbkffcmikhaaQCostTellsx2
namespace Go.Proofs.Ytdghbkffcmikhaa.QCostTells
open Go.RowKit Go.Proofs.YtdghbkffcmikhaaW.PrintWords Go.Proofs.YtdghbkffcmikhaaW.PrintLast Go.Proofs.YtdghbkffcmikhaaW.PrintMore
attribute [local go_sem] max2_int min2_int max_two min_two max_three min_three max_four min_four   -- for this text's walks alone
set_option linter.unusedVariables false
set_option linter.unusedSimpArgs false

/-! ### weathercocklaw16_CostTells: function 5 -/
def weathercocklaw16_CostTells.f (k : Nat) (a0 : Int) (a1 : Int) (a2 : Int) (l3 : List Int) : Option (Bool) := (weathercocklaw16_examples.f k).bind fun t180 => (if t180 = true then ((cost_Bits.f k a0).bind fun t181 => ((weathercockref16_Bits.f k a0).bind fun t182 => (if t181 = t182 then ((cost_Sort.f k a0).bind fun t183 => ((weathercockref16_Sort.f k a0).bind fun t184 => (if t183 = t184 then ((cost_Scan.f k a0).bind fun t185 => ((weathercockref16_Scan.f k a0).bind fun t186 => (if t185 = t186 then ((cost_Index.f k a0).bind fun t187 => ((weathercockref16_Index.f k a0).bind fun t188 => (if t187 = t188 then ((cost_Loop.f k a0 a1 a2).bind fun t189 => ((weathercockref16_Loop.f k a0 a1 a2).bind fun t190 => (if t189 = t190 then ((cost_Hash.f k a0 a1 a2).bind fun t191 => ((weathercockref16_Hash.f k a0 a1 a2).bind fun t192 => (if t191 = t192 then ((cost_Merge.f k a0 a1 a2).bind fun t193 => ((weathercockref16_Merge.f k a0 a1 a2).bind fun t194 => (if t193 = t194 then ((cost_Temp.f a0).bind fun t195 => ((weathercockref13_Clip.f a0).bind fun t196 => (if t195 = t196 then ((cost_Sum.f k l3).bind fun t197 => ((weathercockref16_Sum.f k l3).bind fun t198 => (some (t197 == t198)))) else (some false)))) else (some false)))) else (some false)))) else (some false)))) else (some false)))) else (some false)))) else (some false)))) else (some false)))) else (some false))
theorem weathercocklaw16_CostTells.mono : ∀ a0 a1 a2 a3 k, LeO (weathercocklaw16_CostTells.f k a0 a1 a2 a3) (weathercocklaw16_CostTells.f (k + 1) a0 a1 a2 a3) := by
  intro a0 a1 a2 a3 k
  unfold weathercocklaw16_CostTells.f
  repeat' first
      | (with_reducible exact cost_Bits.mono _ _)
      | (with_reducible exact cost_Hash.mono _ _ _ _)
      | (with_reducible exact cost_Index.mono _ _)
      | (with_reducible exact cost_Loop.mono _ _ _ _)
      | (with_reducible exact cost_Merge.mono _ _ _ _)
      | (with_reducible exact cost_Scan.mono _ _)
      | (with_reducible exact cost_Sort.mono _ _)
      | (with_reducible exact cost_Sum.mono _ _)
      | (with_reducible exact weathercocklaw16_examples.mono _)
      | (with_reducible exact weathercockref16_Bits.mono _ _)
      | (with_reducible exact weathercockref16_Hash.mono _ _ _ _)
      | (with_reducible exact weathercockref16_Index.mono _ _)
      | (with_reducible exact weathercockref16_Loop.mono _ _ _ _)
      | (with_reducible exact weathercockref16_Merge.mono _ _ _ _)
      | (with_reducible exact weathercockref16_Scan.mono _ _)
      | (with_reducible exact weathercockref16_Sort.mono _ _)
      | (with_reducible exact weathercockref16_Sum.mono _ _)
      | (with_reducible exact LeO.refl _)
      | (with_reducible exact LeO.none _)
      | (with_reducible refine LeO.ite ?_ ?_)
      | (with_reducible refine LeO.bind ?_ (fun _ => ?_))
      | exact cost_Bits.mono _ _
      | exact cost_Hash.mono _ _ _ _
      | exact cost_Index.mono _ _
      | exact cost_Loop.mono _ _ _ _
      | exact cost_Merge.mono _ _ _ _
      | exact cost_Scan.mono _ _
      | exact cost_Sort.mono _ _
      | exact cost_Sum.mono _ _
      | exact weathercocklaw16_examples.mono _
      | exact weathercockref16_Bits.mono _ _
      | exact weathercockref16_Hash.mono _ _ _ _
      | exact weathercockref16_Index.mono _ _
      | exact weathercockref16_Loop.mono _ _ _ _
      | exact weathercockref16_Merge.mono _ _ _ _
      | exact weathercockref16_Scan.mono _ _
      | exact weathercockref16_Sort.mono _ _
      | exact weathercockref16_Sum.mono _ _
      | exact LeO.none _
      | refine LeO.ite ?_ ?_
      | refine LeO.bind ?_ (fun _ => ?_)
set_option maxHeartbeats 8000000 in
set_option maxRecDepth 100000 in
theorem weathercocklaw16_CostTells.calls (k : Nat) (a0 : Int) (a1 : Int) (a2 : Int) (A3 : Option Addr) (c3 : Nat) (l3 : List Int) (r : Bool) (w : World) (hr3 : Kd.C (Kd.int .i64) w A3 l3.length l3) (hc3 : l3.length ≤ c3) (h : weathercocklaw16_CostTells.f k a0 a1 a2 l3 = some r) (hrt : r = true) :
    Calls Try.prog 5 #[.int .i64 a0, .int .i64 a1, .int .i64 a2, .slice A3 l3.length c3] w fun e w' => e = .returned (.bool r) ∧ Below w.heap.size w w' := by
  have HRT := Aside0.mk hrt
  clear hrt
  have HR3 := Aside0.mk hr3
  have HC3 := Aside0.mk hc3
  clear hr3 hc3
  have HB := Aside0.mk (Below.refl w.heap.size w)
  have H : ((weathercocklaw16_examples.f k).bind fun t180 => (if t180 = true then ((cost_Bits.f k a0).bind fun t181 => ((weathercockref16_Bits.f k a0).bind fun t182 => (if t181 = t182 then ((cost_Sort.f k a0).bind fun t183 => ((weathercockref16_Sort.f k a0).bind fun t184 => (if t183 = t184 then ((cost_Scan.f k a0).bind fun t185 => ((weathercockref16_Scan.f k a0).bind fun t186 => (if t185 = t186 then ((cost_Index.f k a0).bind fun t187 => ((weathercockref16_Index.f k a0).bind fun t188 => (if t187 = t188 then ((cost_Loop.f k a0 a1 a2).bind fun t189 => ((weathercockref16_Loop.f k a0 a1 a2).bind fun t190 => (if t189 = t190 then ((cost_Hash.f k a0 a1 a2).bind fun t191 => ((weathercockref16_Hash.f k a0 a1 a2).bind fun t192 => (if t191 = t192 then ((cost_Merge.f k a0 a1 a2).bind fun t193 => ((weathercockref16_Merge.f k a0 a1 a2).bind fun t194 => (if t193 = t194 then ((cost_Temp.f a0).bind fun t195 => ((weathercockref13_Clip.f a0).bind fun t196 => (if t195 = t196 then ((cost_Sum.f k l3).bind fun t197 => ((weathercockref16_Sum.f k l3).bind fun t198 => (some (t197 == t198)))) else (some false)))) else (some false)))) else (some false)))) else (some false)))) else (some false)))) else (some false)))) else (some false)))) else (some false)))) else (some false))) = some r := h
  clear h
  replace H := Option.bind_eq_some_iff.mp H
  obtain ⟨t180, A50, H⟩ := H
  replace H : (if t180 = true then ((cost_Bits.f k a0).bind fun t181 => ((weathercockref16_Bits.f k a0).bind fun t182 => (if t181 = t182 then ((cost_Sort.f k a0).bind fun t183 => ((weathercockref16_Sort.f k a0).bind fun t184 => (if t183 = t184 then ((cost_Scan.f k a0).bind fun t185 => ((weathercockref16_Scan.f k a0).bind fun t186 => (if t185 = t186 then ((cost_Index.f k a0).bind fun t187 => ((weathercockref16_Index.f k a0).bind fun t188 => (if t187 = t188 then ((cost_Loop.f k a0 a1 a2).bind fun t189 => ((weathercockref16_Loop.f k a0 a1 a2).bind fun t190 => (if t189 = t190 then ((cost_Hash.f k a0 a1 a2).bind fun t191 => ((weathercockref16_Hash.f k a0 a1 a2).bind fun t192 => (if t191 = t192 then ((cost_Merge.f k a0 a1 a2).bind fun t193 => ((weathercockref16_Merge.f k a0 a1 a2).bind fun t194 => (if t193 = t194 then ((cost_Temp.f a0).bind fun t195 => ((weathercockref13_Clip.f a0).bind fun t196 => (if t195 = t196 then ((cost_Sum.f k l3).bind fun t197 => ((weathercockref16_Sum.f k l3).bind fun t198 => (some (t197 == t198)))) else (some false)))) else (some false)))) else (some false)))) else (some false)))) else (some false)))) else (some false)))) else (some false)))) else (some false)))) else (some false)) = some r := H
  have A5 := Aside0.mk A50
  clear A50
  by_cases c6 : t180 = true
  · subst c6
    have H1 : ((cost_Bits.f k a0).bind fun t181 => ((weathercockref16_Bits.f k a0).bind fun t182 => (if t181 = t182 then ((cost_Sort.f k a0).bind fun t183 => ((weathercockref16_Sort.f k a0).bind fun t184 => (if t183 = t184 then ((cost_Scan.f k a0).bind fun t185 => ((weathercockref16_Scan.f k a0).bind fun t186 => (if t185 = t186 then ((cost_Index.f k a0).bind fun t187 => ((weathercockref16_Index.f k a0).bind fun t188 => (if t187 = t188 then ((cost_Loop.f k a0 a1 a2).bind fun t189 => ((weathercockref16_Loop.f k a0 a1 a2).bind fun t190 => (if t189 = t190 then ((cost_Hash.f k a0 a1 a2).bind fun t191 => ((weathercockref16_Hash.f k a0 a1 a2).bind fun t192 => (if t191 = t192 then ((cost_Merge.f k a0 a1 a2).bind fun t193 => ((weathercockref16_Merge.f k a0 a1 a2).bind fun t194 => (if t193 = t194 then ((cost_Temp.f a0).bind fun t195 => ((weathercockref13_Clip.f a0).bind fun t196 => (if t195 = t196 then ((cost_Sum.f k l3).bind fun t197 => ((weathercockref16_Sum.f k l3).bind fun t198 => (some (t197 == t198)))) else (some false)))) else (some false)))) else (some false)))) else (some false)))) else (some false)))) else (some false)))) else (some false)))) else (some false)))) = some r := by rw [if_pos rfl] at H; exact H
    clear H
    have H := H1
    clear H1
    replace H := Option.bind_eq_some_iff.mp H
    obtain ⟨t181, A70, H⟩ := H
    replace H : ((weathercockref16_Bits.f k a0).bind fun t182 => (if t181 = t182 then ((cost_Sort.f k a0).bind fun t183 => ((weathercockref16_Sort.f k a0).bind fun t184 => (if t183 = t184 then ((cost_Scan.f k a0).bind fun t185 => ((weathercockref16_Scan.f k a0).bind fun t186 => (if t185 = t186 then ((cost_Index.f k a0).bind fun t187 => ((weathercockref16_Index.f k a0).bind fun t188 => (if t187 = t188 then ((cost_Loop.f k a0 a1 a2).bind fun t189 => ((weathercockref16_Loop.f k a0 a1 a2).bind fun t190 => (if t189 = t190 then ((cost_Hash.f k a0 a1 a2).bind fun t191 => ((weathercockref16_Hash.f k a0 a1 a2).bind fun t192 => (if t191 = t192 then ((cost_Merge.f k a0 a1 a2).bind fun t193 => ((weathercockref16_Merge.f k a0 a1 a2).bind fun t194 => (if t193 = t194 then ((cost_Temp.f a0).bind fun t195 => ((weathercockref13_Clip.f a0).bind fun t196 => (if t195 = t196 then ((cost_Sum.f k l3).bind fun t197 => ((weathercockref16_Sum.f k l3).bind fun t198 => (some (t197 == t198)))) else (some false)))) else (some false)))) else (some false)))) else (some false)))) else (some false)))) else (some false)))) else (some false)))) else (some false))) = some r := H
    have A7 := Aside0.mk A70
    clear A70
    replace H := Option.bind_eq_some_iff.mp H
    obtain ⟨t182, A80, H⟩ := H
    replace H : (if t181 = t182 then ((cost_Sort.f k a0).bind fun t183 => ((weathercockref16_Sort.f k a0).bind fun t184 => (if t183 = t184 then ((cost_Scan.f k a0).bind fun t185 => ((weathercockref16_Scan.f k a0).bind fun t186 => (if t185 = t186 then ((cost_Index.f k a0).bind fun t187 => ((weathercockref16_Index.f k a0).bind fun t188 => (if t187 = t188 then ((cost_Loop.f k a0 a1 a2).bind fun t189 => ((weathercockref16_Loop.f k a0 a1 a2).bind fun t190 => (if t189 = t190 then ((cost_Hash.f k a0 a1 a2).bind fun t191 => ((weathercockref16_Hash.f k a0 a1 a2).bind fun t192 => (if t191 = t192 then ((cost_Merge.f k a0 a1 a2).bind fun t193 => ((weathercockref16_Merge.f k a0 a1 a2).bind fun t194 => (if t193 = t194 then ((cost_Temp.f a0).bind fun t195 => ((weathercockref13_Clip.f a0).bind fun t196 => (if t195 = t196 then ((cost_Sum.f k l3).bind fun t197 => ((weathercockref16_Sum.f k l3).bind fun t198 => (some (t197 == t198)))) else (some false)))) else (some false)))) else (some false)))) else (some false)))) else (some false)))) else (some false)))) else (some false)))) else (some false)) = some r := H
    have A8 := Aside0.mk A80
    clear A80
    by_cases c9 : t181 = t182
    · rw [if_pos c9] at H
      have c9b0 : (t181 == t182) = true := beq_iff_eq.mpr c9
      have c9b1 : (t181 != t182) = false := bne_eq_false_iff_eq.mpr c9
      clear c9
      replace H := Option.bind_eq_some_iff.mp H
      obtain ⟨t183, A100, H⟩ := H
      replace H : ((weathercockref16_Sort.f k a0).bind fun t184 => (if t183 = t184 then ((cost_Scan.f k a0).bind fun t185 => ((weathercockref16_Scan.f k a0).bind fun t186 => (if t185 = t186 then ((cost_Index.f k a0).bind fun t187 => ((weathercockref16_Index.f k a0).bind fun t188 => (if t187 = t188 then ((cost_Loop.f k a0 a1 a2).bind fun t189 => ((weathercockref16_Loop.f k a0 a1 a2).bind fun t190 => (if t189 = t190 then ((cost_Hash.f k a0 a1 a2).bind fun t191 => ((weathercockref16_Hash.f k a0 a1 a2).bind fun t192 => (if t191 = t192 then ((cost_Merge.f k a0 a1 a2).bind fun t193 => ((weathercockref16_Merge.f k a0 a1 a2).bind fun t194 => (if t193 = t194 then ((cost_Temp.f a0).bind fun t195 => ((weathercockref13_Clip.f a0).bind fun t196 => (if t195 = t196 then ((cost_Sum.f k l3).bind fun t197 => ((weathercockref16_Sum.f k l3).bind fun t198 => (some (t197 == t198)))) else (some false)))) else (some false)))) else (some false)))) else (some false)))) else (some false)))) else (some false)))) else (some false))) = some r := H
      have A10 := Aside0.mk A100
      clear A100
      replace H := Option.bind_eq_some_iff.mp H
      obtain ⟨t184, A110, H⟩ := H
      replace H : (if t183 = t184 then ((cost_Scan.f k a0).bind fun t185 => ((weathercockref16_Scan.f k a0).bind fun t186 => (if t185 = t186 then ((cost_Index.f k a0).bind fun t187 => ((weathercockref16_Index.f k a0).bind fun t188 => (if t187 = t188 then ((cost_Loop.f k a0 a1 a2).bind fun t189 => ((weathercockref16_Loop.f k a0 a1 a2).bind fun t190 => (if t189 = t190 then ((cost_Hash.f k a0 a1 a2).bind fun t191 => ((weathercockref16_Hash.f k a0 a1 a2).bind fun t192 => (if t191 = t192 then ((cost_Merge.f k a0 a1 a2).bind fun t193 => ((weathercockref16_Merge.f k a0 a1 a2).bind fun t194 => (if t193 = t194 then ((cost_Temp.f a0).bind fun t195 => ((weathercockref13_Clip.f a0).bind fun t196 => (if t195 = t196 then ((cost_Sum.f k l3).bind fun t197 => ((weathercockref16_Sum.f k l3).bind fun t198 => (some (t197 == t198)))) else (some false)))) else (some false)))) else (some false)))) else (some false)))) else (some false)))) else (some false)))) else (some false)) = some r := H
      have A11 := Aside0.mk A110
      clear A110
      by_cases c12 : t183 = t184
      · rw [if_pos c12] at H
        have c12b0 : (t183 == t184) = true := beq_iff_eq.mpr c12
        have c12b1 : (t183 != t184) = false := bne_eq_false_iff_eq.mpr c12
        clear c12
        replace H := Option.bind_eq_some_iff.mp H
        obtain ⟨t185, A130, H⟩ := H
        replace H : ((weathercockref16_Scan.f k a0).bind fun t186 => (if t185 = t186 then ((cost_Index.f k a0).bind fun t187 => ((weathercockref16_Index.f k a0).bind fun t188 => (if t187 = t188 then ((cost_Loop.f k a0 a1 a2).bind fun t189 => ((weathercockref16_Loop.f k a0 a1 a2).bind fun t190 => (if t189 = t190 then ((cost_Hash.f k a0 a1 a2).bind fun t191 => ((weathercockref16_Hash.f k a0 a1 a2).bind fun t192 => (if t191 = t192 then ((cost_Merge.f k a0 a1 a2).bind fun t193 => ((weathercockref16_Merge.f k a0 a1 a2).bind fun t194 => (if t193 = t194 then ((cost_Temp.f a0).bind fun t195 => ((weathercockref13_Clip.f a0).bind fun t196 => (if t195 = t196 then ((cost_Sum.f k l3).bind fun t197 => ((weathercockref16_Sum.f k l3).bind fun t198 => (some (t197 == t198)))) else (some false)))) else (some false)))) else (some false)))) else (some false)))) else (some false)))) else (some false))) = some r := H
        have A13 := Aside0.mk A130
        clear A130
        replace H := Option.bind_eq_some_iff.mp H
        obtain ⟨t186, A140, H⟩ := H
        replace H : (if t185 = t186 then ((cost_Index.f k a0).bind fun t187 => ((weathercockref16_Index.f k a0).bind fun t188 => (if t187 = t188 then ((cost_Loop.f k a0 a1 a2).bind fun t189 => ((weathercockref16_Loop.f k a0 a1 a2).bind fun t190 => (if t189 = t190 then ((cost_Hash.f k a0 a1 a2).bind fun t191 => ((weathercockref16_Hash.f k a0 a1 a2).bind fun t192 => (if t191 = t192 then ((cost_Merge.f k a0 a1 a2).bind fun t193 => ((weathercockref16_Merge.f k a0 a1 a2).bind fun t194 => (if t193 = t194 then ((cost_Temp.f a0).bind fun t195 => ((weathercockref13_Clip.f a0).bind fun t196 => (if t195 = t196 then ((cost_Sum.f k l3).bind fun t197 => ((weathercockref16_Sum.f k l3).bind fun t198 => (some (t197 == t198)))) else (some false)))) else (some false)))) else (some false)))) else (some false)))) else (some false)))) else (some false)) = some r := H
        have A14 := Aside0.mk A140
        clear A140
        by_cases c15 : t185 = t186
        · rw [if_pos c15] at H
          have c15b0 : (t185 == t186) = true := beq_iff_eq.mpr c15
          have c15b1 : (t185 != t186) = false := bne_eq_false_iff_eq.mpr c15
          clear c15
          replace H := Option.bind_eq_some_iff.mp H
          obtain ⟨t187, A160, H⟩ := H
          replace H : ((weathercockref16_Index.f k a0).bind fun t188 => (if t187 = t188 then ((cost_Loop.f k a0 a1 a2).bind fun t189 => ((weathercockref16_Loop.f k a0 a1 a2).bind fun t190 => (if t189 = t190 then ((cost_Hash.f k a0 a1 a2).bind fun t191 => ((weathercockref16_Hash.f k a0 a1 a2).bind fun t192 => (if t191 = t192 then ((cost_Merge.f k a0 a1 a2).bind fun t193 => ((weathercockref16_Merge.f k a0 a1 a2).bind fun t194 => (if t193 = t194 then ((cost_Temp.f a0).bind fun t195 => ((weathercockref13_Clip.f a0).bind fun t196 => (if t195 = t196 then ((cost_Sum.f k l3).bind fun t197 => ((weathercockref16_Sum.f k l3).bind fun t198 => (some (t197 == t198)))) else (some false)))) else (some false)))) else (some false)))) else (some false)))) else (some false))) = some r := H
          have A16 := Aside0.mk A160
          clear A160
          replace H := Option.bind_eq_some_iff.mp H
          obtain ⟨t188, A170, H⟩ := H
          replace H : (if t187 = t188 then ((cost_Loop.f k a0 a1 a2).bind fun t189 => ((weathercockref16_Loop.f k a0 a1 a2).bind fun t190 => (if t189 = t190 then ((cost_Hash.f k a0 a1 a2).bind fun t191 => ((weathercockref16_Hash.f k a0 a1 a2).bind fun t192 => (if t191 = t192 then ((cost_Merge.f k a0 a1 a2).bind fun t193 => ((weathercockref16_Merge.f k a0 a1 a2).bind fun t194 => (if t193 = t194 then ((cost_Temp.f a0).bind fun t195 => ((weathercockref13_Clip.f a0).bind fun t196 => (if t195 = t196 then ((cost_Sum.f k l3).bind fun t197 => ((weathercockref16_Sum.f k l3).bind fun t198 => (some (t197 == t198)))) else (some false)))) else (some false)))) else (some false)))) else (some false)))) else (some false)) = some r := H
          have A17 := Aside0.mk A170
          clear A170
          by_cases c18 : t187 = t188
          · rw [if_pos c18] at H
            have c18b0 : (t187 == t188) = true := beq_iff_eq.mpr c18
            have c18b1 : (t187 != t188) = false := bne_eq_false_iff_eq.mpr c18
            clear c18
            replace H := Option.bind_eq_some_iff.mp H
            obtain ⟨t189, A190, H⟩ := H
            replace H : ((weathercockref16_Loop.f k a0 a1 a2).bind fun t190 => (if t189 = t190 then ((cost_Hash.f k a0 a1 a2).bind fun t191 => ((weathercockref16_Hash.f k a0 a1 a2).bind fun t192 => (if t191 = t192 then ((cost_Merge.f k a0 a1 a2).bind fun t193 => ((weathercockref16_Merge.f k a0 a1 a2).bind fun t194 => (if t193 = t194 then ((cost_Temp.f a0).bind fun t195 => ((weathercockref13_Clip.f a0).bind fun t196 => (if t195 = t196 then ((cost_Sum.f k l3).bind fun t197 => ((weathercockref16_Sum.f k l3).bind fun t198 => (some (t197 == t198)))) else (some false)))) else (some false)))) else (some false)))) else (some false))) = some r := H
            have A19 := Aside0.mk A190
            clear A190
            replace H := Option.bind_eq_some_iff.mp H
            obtain ⟨t190, A200, H⟩ := H
            replace H : (if t189 = t190 then ((cost_Hash.f k a0 a1 a2).bind fun t191 => ((weathercockref16_Hash.f k a0 a1 a2).bind fun t192 => (if t191 = t192 then ((cost_Merge.f k a0 a1 a2).bind fun t193 => ((weathercockref16_Merge.f k a0 a1 a2).bind fun t194 => (if t193 = t194 then ((cost_Temp.f a0).bind fun t195 => ((weathercockref13_Clip.f a0).bind fun t196 => (if t195 = t196 then ((cost_Sum.f k l3).bind fun t197 => ((weathercockref16_Sum.f k l3).bind fun t198 => (some (t197 == t198)))) else (some false)))) else (some false)))) else (some false)))) else (some false)) = some r := H
            have A20 := Aside0.mk A200
            clear A200
            by_cases c21 : t189 = t190
            · rw [if_pos c21] at H
              have c21b0 : (t189 == t190) = true := beq_iff_eq.mpr c21
              have c21b1 : (t189 != t190) = false := bne_eq_false_iff_eq.mpr c21
              clear c21
              replace H := Option.bind_eq_some_iff.mp H
              obtain ⟨t191, A220, H⟩ := H
              replace H : ((weathercockref16_Hash.f k a0 a1 a2).bind fun t192 => (if t191 = t192 then ((cost_Merge.f k a0 a1 a2).bind fun t193 => ((weathercockref16_Merge.f k a0 a1 a2).bind fun t194 => (if t193 = t194 then ((cost_Temp.f a0).bind fun t195 => ((weathercockref13_Clip.f a0).bind fun t196 => (if t195 = t196 then ((cost_Sum.f k l3).bind fun t197 => ((weathercockref16_Sum.f k l3).bind fun t198 => (some (t197 == t198)))) else (some false)))) else (some false)))) else (some false))) = some r := H
              have A22 := Aside0.mk A220
              clear A220
              replace H := Option.bind_eq_some_iff.mp H
              obtain ⟨t192, A230, H⟩ := H
              replace H : (if t191 = t192 then ((cost_Merge.f k a0 a1 a2).bind fun t193 => ((weathercockref16_Merge.f k a0 a1 a2).bind fun t194 => (if t193 = t194 then ((cost_Temp.f a0).bind fun t195 => ((weathercockref13_Clip.f a0).bind fun t196 => (if t195 = t196 then ((cost_Sum.f k l3).bind fun t197 => ((weathercockref16_Sum.f k l3).bind fun t198 => (some (t197 == t198)))) else (some false)))) else (some false)))) else (some false)) = some r := H
              have A23 := Aside0.mk A230
              clear A230
              by_cases c24 : t191 = t192
              · rw [if_pos c24] at H
                have c24b0 : (t191 == t192) = true := beq_iff_eq.mpr c24
                have c24b1 : (t191 != t192) = false := bne_eq_false_iff_eq.mpr c24
                clear c24
                replace H := Option.bind_eq_some_iff.mp H
                obtain ⟨t193, A250, H⟩ := H
                replace H : ((weathercockref16_Merge.f k a0 a1 a2).bind fun t194 => (if t193 = t194 then ((cost_Temp.f a0).bind fun t195 => ((weathercockref13_Clip.f a0).bind fun t196 => (if t195 = t196 then ((cost_Sum.f k l3).bind fun t197 => ((weathercockref16_Sum.f k l3).bind fun t198 => (some (t197 == t198)))) else (some false)))) else (some false))) = some r := H
                have A25 := Aside0.mk A250
                clear A250
                replace H := Option.bind_eq_some_iff.mp H
                obtain ⟨t194, A260, H⟩ := H
                replace H : (if t193 = t194 then ((cost_Temp.f a0).bind fun t195 => ((weathercockref13_Clip.f a0).bind fun t196 => (if t195 = t196 then ((cost_Sum.f k l3).bind fun t197 => ((weathercockref16_Sum.f k l3).bind fun t198 => (some (t197 == t198)))) else (some false)))) else (some false)) = some r := H
                have A26 := Aside0.mk A260
                clear A260
                by_cases c27 : t193 = t194
                · rw [if_pos c27] at H
                  have c27b0 : (t193 == t194) = true := beq_iff_eq.mpr c27
                  have c27b1 : (t193 != t194) = false := bne_eq_false_iff_eq.mpr c27
                  clear c27
                  replace H := Option.bind_eq_some_iff.mp H
                  obtain ⟨t195, A280, H⟩ := H
                  replace H : ((weathercockref13_Clip.f a0).bind fun t196 => (if t195 = t196 then ((cost_Sum.f k l3).bind fun t197 => ((weathercockref16_Sum.f k l3).bind fun t198 => (some (t197 == t198)))) else (some false))) = some r := H
                  have A28 := Aside0.mk A280
                  clear A280
                  replace H := Option.bind_eq_some_iff.mp H
                  obtain ⟨t196, A290, H⟩ := H
                  replace H : (if t195 = t196 then ((cost_Sum.f k l3).bind fun t197 => ((weathercockref16_Sum.f k l3).bind fun t198 => (some (t197 == t198)))) else (some false)) = some r := H
                  have A29 := Aside0.mk A290
                  clear A290
                  by_cases c30 : t195 = t196
                  · rw [if_pos c30] at H
                    have c30b0 : (t195 == t196) = true := beq_iff_eq.mpr c30
                    have c30b1 : (t195 != t196) = false := bne_eq_false_iff_eq.mpr c30
                    clear c30
                    replace H := Option.bind_eq_some_iff.mp H
                    obtain ⟨t197, A310, H⟩ := H
                    replace H : ((weathercockref16_Sum.f k l3).bind fun t198 => (some (t197 == t198))) = some r := H
                    have A31 := Aside0.mk A310
                    clear A310
                    replace H := Option.bind_eq_some_iff.mp H
                    obtain ⟨t198, A320, H⟩ := H
                    replace H : (some (t197 == t198)) = some r := H
                    have A32 := Aside0.mk A320
                    clear A320
                    obtain rfl := Option.some.inj H
                    go_enter Try.func5, Try.ntmps5
                    go_wp2_with (first | ((with_reducible refine gate_callee (f := 6) rfl ?_); refine goesL_ (some 10) rfl rfl Try.func6 (by kernel_rfl) rfl #[] rfl (by (try simp only [List.map_toArray, List.map_cons, List.map_nil]); first | done | rfl | (simp only [List.length_drop, List.length_take]; rfl)) ?_; (with_reducible refine (weathercocklaw16_examples.calls k  true _ A5.out).mono ?_); rintro e w33 ⟨rfl, hb⟩; refine ⟨_, rfl, ?_⟩; have n0_ := Aside0.mk (below_step (by repeat (first | (with_reducible first | exact HB.out | apply below_alloc | apply pw_below_drewN | apply below_drew1) | exact HB.out)) hb); clear HB; have HB := n0_; clear n0_; (try clear hb); (try clear hb2); (try clear hk); (try clear hi)) | (go_at_call 8; (with_reducible refine (cost_Bits.calls k a0 t181 _ A7.out).mono ?_); rintro e w34 ⟨rfl, hb⟩; have n0_ := Aside0.mk (below_step (by repeat (first | (with_reducible first | exact HB.out | apply below_alloc | apply pw_below_drewN | apply below_drew1) | exact HB.out)) hb); clear HB; have HB := n0_; clear n0_; (try clear hb); (try clear hb2); (try clear hk); (try clear hi)) | (go_at_call 16; (with_reducible refine (weathercockref16_Bits.calls k a0 t182 _ A8.out).mono ?_); rintro e w35 ⟨rfl, hb⟩; have n0_ := Aside0.mk (below_step (by repeat (first | (with_reducible first | exact HB.out | apply below_alloc | apply pw_below_drewN | apply below_drew1) | exact HB.out)) hb); clear HB; have HB := n0_; clear n0_; (try clear hb); (try clear hb2); (try clear hk); (try clear hi)) | (go_at_call 9; (with_reducible refine (cost_Sort.calls k a0 t183 _ A10.out).mono ?_); rintro e w36 ⟨rfl, hb⟩; have n0_ := Aside0.mk (below_step (by repeat (first | (with_reducible first | exact HB.out | apply below_alloc | apply pw_below_drewN | apply below_drew1) | exact HB.out)) hb); clear HB; have HB := n0_; clear n0_; (try clear hb); (try clear hb2); (try clear hk); (try clear hi)) | (go_at_call 17; (with_reducible refine (weathercockref16_Sort.calls k a0 t184 _ A11.out).mono ?_); rintro e w37 ⟨rfl, hb⟩; have n0_ := Aside0.mk (below_step (by repeat (first | (with_reducible first | exact HB.out | apply below_alloc | apply pw_below_drewN | apply below_drew1) | exact HB.out)) hb); clear HB; have HB := n0_; clear n0_; (try clear hb); (try clear hb2); (try clear hk); (try clear hi)) | (go_at_call 10; (with_reducible refine (cost_Scan.calls k a0 t185 _ A13.out).mono ?_); rintro e w38 ⟨rfl, hb⟩; have n0_ := Aside0.mk (below_step (by repeat (first | (with_reducible first | exact HB.out | apply below_alloc | apply pw_below_drewN | apply below_drew1) | exact HB.out)) hb); clear HB; have HB := n0_; clear n0_; (try clear hb); (try clear hb2); (try clear hk); (try clear hi)) | (go_at_call 18; (with_reducible refine (weathercockref16_Scan.calls k a0 t186 _ A14.out).mono ?_); rintro e w39 ⟨rfl, hb⟩; have n0_ := Aside0.mk (below_step (by repeat (first | (with_reducible first | exact HB.out | apply below_alloc | apply pw_below_drewN | apply below_drew1) | exact HB.out)) hb); clear HB; have HB := n0_; clear n0_; (try clear hb); (try clear hb2); (try clear hk); (try clear hi)) | (go_at_call 11; (with_reducible refine (cost_Index.calls k a0 t187 _ A16.out).mono ?_); rintro e w40 ⟨rfl, hb⟩; have n0_ := Aside0.mk (below_step (by repeat (first | (with_reducible first | exact HB.out | apply below_alloc | apply pw_below_drewN | apply below_drew1) | exact HB.out)) hb); clear HB; have HB := n0_; clear n0_; (try clear hb); (try clear hb2); (try clear hk); (try clear hi)) | (go_at_call 19; (with_reducible refine (weathercockref16_Index.calls k a0 t188 _ A17.out).mono ?_); rintro e w41 ⟨rfl, hb⟩; have n0_ := Aside0.mk (below_step (by repeat (first | (with_reducible first | exact HB.out | apply below_alloc | apply pw_below_drewN | apply below_drew1) | exact HB.out)) hb); clear HB; have HB := n0_; clear n0_; (try clear hb); (try clear hb2); (try clear hk); (try clear hi)) | (go_at_call 13; (with_reducible refine (cost_Loop.calls k a0 a1 a2 t189 _ A19.out).mono ?_); rintro e w42 ⟨rfl, hb⟩; have n0_ := Aside0.mk (below_step (by repeat (first | (with_reducible first | exact HB.out | apply below_alloc | apply pw_below_drewN | apply below_drew1) | exact HB.out)) hb); clear HB; have HB := n0_; clear n0_; (try clear hb); (try clear hb2); (try clear hk); (try clear hi)) | (go_at_call 20; (with_reducible refine (weathercockref16_Loop.calls k a0 a1 a2 t190 _ A20.out).mono ?_); rintro e w43 ⟨rfl, hb⟩; have n0_ := Aside0.mk (below_step (by repeat (first | (with_reducible first | exact HB.out | apply below_alloc | apply pw_below_drewN | apply below_drew1) | exact HB.out)) hb); clear HB; have HB := n0_; clear n0_; (try clear hb); (try clear hb2); (try clear hk); (try clear hi)) | (go_at_call 14; (with_reducible refine (cost_Hash.calls k a0 a1 a2 t191 _ A22.out).mono ?_); rintro e w44 ⟨rfl, hb⟩; have n0_ := Aside0.mk (below_step (by repeat (first | (with_reducible first | exact HB.out | apply below_alloc | apply pw_below_drewN | apply below_drew1) | exact HB.out)) hb); clear HB; have HB := n0_; clear n0_; (try clear hb); (try clear hb2); (try clear hk); (try clear hi)) | (go_at_call 21; (with_reducible refine (weathercockref16_Hash.calls k a0 a1 a2 t192 _ A23.out).mono ?_); rintro e w45 ⟨rfl, hb⟩; have n0_ := Aside0.mk (below_step (by repeat (first | (with_reducible first | exact HB.out | apply below_alloc | apply pw_below_drewN | apply below_drew1) | exact HB.out)) hb); clear HB; have HB := n0_; clear n0_; (try clear hb); (try clear hb2); (try clear hk); (try clear hi)) | (go_at_call 15; (with_reducible refine (cost_Merge.calls k a0 a1 a2 t193 _ A25.out).mono ?_); rintro e w46 ⟨rfl, hb⟩; have n0_ := Aside0.mk (below_step (by repeat (first | (with_reducible first | exact HB.out | apply below_alloc | apply pw_below_drewN | apply below_drew1) | exact HB.out)) hb); clear HB; have HB := n0_; clear n0_; (try clear hb); (try clear hb2); (try clear hk); (try clear hi)) | (go_at_call 22; (with_reducible refine (weathercockref16_Merge.calls k a0 a1 a2 t194 _ A26.out).mono ?_); rintro e w47 ⟨rfl, hb⟩; have n0_ := Aside0.mk (below_step (by repeat (first | (with_reducible first | exact HB.out | apply below_alloc | apply pw_below_drewN | apply below_drew1) | exact HB.out)) hb); clear HB; have HB := n0_; clear n0_; (try clear hb); (try clear hb2); (try clear hk); (try clear hi)) | (go_at_call 12; (with_reducible refine (cost_Temp.calls a0 t195 _ A28.out).mono ?_); rintro e w48 ⟨rfl, hb⟩; have n0_ := Aside0.mk (below_step (by repeat (first | (with_reducible first | exact HB.out | apply below_alloc | apply pw_below_drewN | apply below_drew1) | exact HB.out)) hb); clear HB; have HB := n0_; clear n0_; (try clear hb); (try clear hb2); (try clear hk); (try clear hi)) | (go_at_call 23; (with_reducible refine (weathercockref13_Clip.calls a0 t196 _ A29.out).mono ?_); rintro e w49 ⟨rfl, hb⟩; have n0_ := Aside0.mk (below_step (by repeat (first | (with_reducible first | exact HB.out | apply below_alloc | apply pw_below_drewN | apply below_drew1) | exact HB.out)) hb); clear HB; have HB := n0_; clear n0_; (try clear hb); (try clear hb2); (try clear hk); (try clear hi)) | (go_at_call 7; (with_reducible refine (cost_Sum.calls k _ _ l3 t197 _ ?side1 ?side2 A31.out).mono ?_); (case side1 => repeat (first | exact (Kd.C_below HR3.out HB.out) | (with_reducible refine Kd.C_alloc ?_ _) | (with_reducible refine Kd.C_drewN ?_ _) | (with_reducible refine Kd.C_drew ?_))); (case side2 => exact HC3.out); rintro e w50 ⟨rfl, hb⟩; have n0_ := Aside0.mk (below_step (by repeat (first | (with_reducible first | exact HB.out | apply below_alloc | apply pw_below_drewN | apply below_drew1) | exact HB.out)) hb); clear HB; have HB := n0_; clear n0_; (try clear hb); (try clear hb2); (try clear hk); (try clear hi)) | (go_at_call 24; (with_reducible refine (weathercockref16_Sum.calls k _ _ l3 t198 _ ?side1 ?side2 A32.out).mono ?_); (case side1 => repeat (first | exact (Kd.C_below HR3.out HB.out) | (with_reducible refine Kd.C_alloc ?_ _) | (with_reducible refine Kd.C_drewN ?_ _) | (with_reducible refine Kd.C_drew ?_))); (case side2 => exact HC3.out); rintro e w51 ⟨rfl, hb⟩; have n0_ := Aside0.mk (below_step (by repeat (first | (with_reducible first | exact HB.out | apply below_alloc | apply pw_below_drewN | apply below_drew1) | exact HB.out)) hb); clear HB; have HB := n0_; clear n0_; (try clear hb); (try clear hb2); (try clear hk); (try clear hi)))
                    go_ret
                    exact ⟨by first | rfl | (simp [errW_none, errW_some] <;> rfl) | (simp [*, errW_none, errW_some] <;> rfl), by repeat (first | (with_reducible first | exact HB.out | apply below_alloc | apply pw_below_drewN | apply below_drew1) | exact HB.out)⟩
                  · rw [if_neg c30] at H
                    have c30b0 : (t195 == t196) = false := beq_eq_false_iff_ne.mpr c30
                    have c30b1 : (t195 != t196) = true := bne_iff_ne.mpr c30
                    exact absurd (Option.some.inj H) (fun h_ => absurd (h_.trans HRT.out) (by decide))
                · rw [if_neg c27] at H
                  have c27b0 : (t193 == t194) = false := beq_eq_false_iff_ne.mpr c27
                  have c27b1 : (t193 != t194) = true := bne_iff_ne.mpr c27
                  exact absurd (Option.some.inj H) (fun h_ => absurd (h_.trans HRT.out) (by decide))
              · rw [if_neg c24] at H
                have c24b0 : (t191 == t192) = false := beq_eq_false_iff_ne.mpr c24
                have c24b1 : (t191 != t192) = true := bne_iff_ne.mpr c24
                exact absurd (Option.some.inj H) (fun h_ => absurd (h_.trans HRT.out) (by decide))
            · rw [if_neg c21] at H
              have c21b0 : (t189 == t190) = false := beq_eq_false_iff_ne.mpr c21
              have c21b1 : (t189 != t190) = true := bne_iff_ne.mpr c21
              exact absurd (Option.some.inj H) (fun h_ => absurd (h_.trans HRT.out) (by decide))
          · rw [if_neg c18] at H
            have c18b0 : (t187 == t188) = false := beq_eq_false_iff_ne.mpr c18
            have c18b1 : (t187 != t188) = true := bne_iff_ne.mpr c18
            exact absurd (Option.some.inj H) (fun h_ => absurd (h_.trans HRT.out) (by decide))
        · rw [if_neg c15] at H
          have c15b0 : (t185 == t186) = false := beq_eq_false_iff_ne.mpr c15
          have c15b1 : (t185 != t186) = true := bne_iff_ne.mpr c15
          exact absurd (Option.some.inj H) (fun h_ => absurd (h_.trans HRT.out) (by decide))
      · rw [if_neg c12] at H
        have c12b0 : (t183 == t184) = false := beq_eq_false_iff_ne.mpr c12
        have c12b1 : (t183 != t184) = true := bne_iff_ne.mpr c12
        exact absurd (Option.some.inj H) (fun h_ => absurd (h_.trans HRT.out) (by decide))
    · rw [if_neg c9] at H
      have c9b0 : (t181 == t182) = false := beq_eq_false_iff_ne.mpr c9
      have c9b1 : (t181 != t182) = true := bne_iff_ne.mpr c9
      exact absurd (Option.some.inj H) (fun h_ => absurd (h_.trans HRT.out) (by decide))
  · replace c6 := Bool.eq_false_iff.mpr c6
    subst c6
    have H1 : (some false) = some r := by rw [if_neg (show ¬ (false = true) by decide)] at H; exact H
    clear H
    have H := H1
    clear H1
    exact absurd (Option.some.inj H) (fun h_ => absurd (h_.trans HRT.out) (by decide))

/-- THE ONE PURE STATEMENT of weathercocklaw16_CostTells: yours. -/
def weathercocklaw16_CostTells.Pure : Prop := ∀ (a0 : Int) (a1 : Int) (a2 : Int) (l3 : List Int), (Lit.int .i64 a0).wf = true → (Lit.int .i64 a1).wf = true → (Lit.int .i64 a2).wf = true → l3.length ≤ maxLen → l3.length * 8 ≤ 140737488351232 → (∀ x ∈ l3, (Lit.int .i64 x).wf = true) → ∃ k, weathercocklaw16_CostTells.f k a0 a1 a2 l3 = some true
theorem weathercocklaw16_CostTells.walk (P : weathercocklaw16_CostTells.Pure) (a0 : Int) (a1 : Int) (a2 : Int) (a3 : Option Addr) (len3 cap3 : Nat) (z3 : List Int) (w : World) (w0 : (Lit.int .i64 a0).wf = true) (w1 : (Lit.int .i64 a1).wf = true) (w2 : (Lit.int .i64 a2).wf = true) (w3 : (a3 = none ∧ len3 = 0 ∧ cap3 = 0 ∧ z3 = []) ∨ ∃ x, a3 = some x ∧ len3 ≤ cap3 ∧ cap3 ≤ maxLen ∧ z3.length = cap3 ∧ (∀ i, i < z3.length → w.cell? (x.add i) = some (.int .i64 (z3.getD i 0))) ∧ ∀ n ∈ z3, (Lit.int .i64 n).wf = true) (y3 : len3 * 8 ≤ 140737488351232) :
    Calls Try.prog 5 #[.int .i64 a0, .int .i64 a1, .int .i64 a2, .slice a3 len3 cap3] w fun e w' => e = .returned (.bool true) ∧ Below w.heap.size w w' := by
  obtain ⟨l3, rfl, hr3, hm3, hw3, hc3⟩ := ReadsInt.ofRowC w3
  obtain ⟨k, h⟩ := P a0 a1 a2 l3 w0 w1 w2 hm3 y3 hw3
  refine (weathercocklaw16_CostTells.calls k a0 a1 a2 _ _ l3 true w (Kd.C_of_reads (d := (0 : Int)) (h1 := fun _ => rfl) hr3) hc3 h rfl).mono ?_
  rintro e w' ⟨rfl, hd⟩
  exact ⟨rfl, hd⟩

end Go.Proofs.Ytdghbkffcmikhaa.QCostTells
