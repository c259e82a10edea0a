-- Written by wip/tools/myprint.py of this project (the kit's printer with lines replaced in memory, and texts of ours)
import Derived.Test.YtplmfnjijhppaaaQRowBytesx0
import Derived.Test.YtplmfnjijhppaaaQRowBytesx2
import Derived.Test.YtplmfnjijhppaaaQRowBytesx4
import Derived.Test.YtplmfnjijhppaaaQRowBytesx5
import Derived.Test.YtplmfnjijhppaaaQRowBytesx6
import Derived.Test.YtplmfnjijhppaaaQRowBytesx7
import Derived.Test.YtplmfnjijhppaaaQRowBytesx8
namespace Go.Proofs.Ytplmfnjijhppaaa.QRowBytes
open Go.RowKit Go.Proofs.YtplmfnjijhppaaaW.PrintWords Go.Proofs.YtplmfnjijhppaaaW.PrintLast Go.Proofs.YtplmfnjijhppaaaW.PrintMore
attribute [local go_sem] max2_int min2_int max_two min_two max_three min_three max_four min_four   -- for this text's walks alone
set_option linter.unusedVariables false
set_option linter.unusedSimpArgs false

/-! ### weathercocklaw02_RowBytes: function 3 -/
mutual
def weathercocklaw02_RowBytes.l0 : Nat → List (S36) → ByteArray → Bool → ByteArray → Int → ByteArray → Int → List (S36) → Bool → Int → Option (Bool)
  | 0, _, _, _, _, _, _, _, _, _, _ => none
  | k + 1, x0, x1, x5, x6, x7, x8, x9, x10, x11, x12 => if x12 < 2 then ((row_Decode.f k x1).bind fun bt192 => ((weathercocklaw02_rows.f bt192.1 x10).bind fun t196 => (if t196 = true then (if (x11 != (bt192.2 == 0)) = true then (weathercocklaw02_RowBytes.j1 k x0 x1 x5 x6 x7 x8 x9 x10 x11 x12 bt192.1 true) else (if x11 = true then (weathercocklaw02_RowBytes.j1 k x0 x1 x5 x6 x7 x8 x9 x10 x11 x12 bt192.1 false) else (weathercocklaw02_RowBytes.j1 k x0 x1 x5 x6 x7 x8 x9 x10 x11 x12 bt192.1 (bt192.2 != 2)))) else (weathercocklaw02_RowBytes.j1 k x0 x1 x5 x6 x7 x8 x9 x10 x11 x12 bt192.1 true)))) else (if x5 = true then (if x6.toList = x8.toList then (if x7 = x9 then ((row_Right.f x0).bind fun t190 => ((weathercockref02_Right.f k x0).bind fun t191 => (some (t190 == t191)))) else (some false)) else (some false)) else (some false))
def weathercocklaw02_RowBytes.j1 : Nat → List (S36) → ByteArray → Bool → ByteArray → Int → ByteArray → Int → List (S36) → Bool → Int → List (S36) → Bool → Option (Bool)
  | 0, _, _, _, _, _, _, _, _, _, _, _, _ => none
  | k + 1, x0, x1, x5, x6, x7, x8, x9, x10, x11, x12, x13, x62 => if x62 = true then (some false) else (weathercocklaw02_RowBytes.l1 k x0 x1 x5 x6 x7 x8 x9 x10 x11 x12 x13 0)
def weathercocklaw02_RowBytes.l1 : Nat → List (S36) → ByteArray → Bool → ByteArray → Int → ByteArray → Int → List (S36) → Bool → Int → List (S36) → Int → Option (Bool)
  | 0, _, _, _, _, _, _, _, _, _, _, _, _ => none
  | k + 1, x0, x1, x5, x6, x7, x8, x9, x10, x11, x12, x13, x16 => if x16 < (x13.length : Int) then (if 0 ≤ x16 then (weathercocklaw02_RowBytes.l1 k x0 x1 x5 x6 x7 x8 x9 x10 x11 x12 (x13.set (x16 : Int).toNat (⟨9, 0, (⟨#[]⟩ : ByteArray)⟩ : S36)) (wrap64 (x16 + 1))) else (none)) else (weathercocklaw02_RowBytes.l0 k x0 x1 x5 x6 x7 x8 x9 x10 x11 (wrap64 (x12 + 1)))
end
def weathercocklaw02_RowBytes.f (k : Nat) (l0 : List (S36)) (a1 : ByteArray) : Option (Bool) := (weathercocklaw02_examples.f k).bind fun t181 => ((row_Encode.f l0).bind fun bt182 => ((weathercockref02_Encode.f k l0).bind fun bt184 => ((weathercockref02_Decode.f k a1).bind fun bt186 => (weathercocklaw02_RowBytes.l0 k l0 a1 t181 bt182.1 bt182.2 bt184.1 bt184.2 bt186.1 bt186.2 0))))
theorem weathercocklaw02_RowBytes.mono_l : ∀ k, (∀ y0 y1 y2 y3 y4 y5 y6 y7 y8 y9, LeO (weathercocklaw02_RowBytes.l0 k y0 y1 y2 y3 y4 y5 y6 y7 y8 y9) (weathercocklaw02_RowBytes.l0 (k + 1) y0 y1 y2 y3 y4 y5 y6 y7 y8 y9)) ∧ (∀ y0 y1 y2 y3 y4 y5 y6 y7 y8 y9 y10 y11, LeO (weathercocklaw02_RowBytes.j1 k y0 y1 y2 y3 y4 y5 y6 y7 y8 y9 y10 y11) (weathercocklaw02_RowBytes.j1 (k + 1) y0 y1 y2 y3 y4 y5 y6 y7 y8 y9 y10 y11)) ∧ (∀ y0 y1 y2 y3 y4 y5 y6 y7 y8 y9 y10 y11, LeO (weathercocklaw02_RowBytes.l1 k y0 y1 y2 y3 y4 y5 y6 y7 y8 y9 y10 y11) (weathercocklaw02_RowBytes.l1 (k + 1) y0 y1 y2 y3 y4 y5 y6 y7 y8 y9 y10 y11))
  | 0 => ⟨fun _ _ _ _ _ _ _ _ _ _ r h => by simp [weathercocklaw02_RowBytes.l0] at h, fun _ _ _ _ _ _ _ _ _ _ _ _ r h => by simp [weathercocklaw02_RowBytes.j1] at h, fun _ _ _ _ _ _ _ _ _ _ _ _ r h => by simp [weathercocklaw02_RowBytes.l1] at h⟩
  | k + 1 => by
    obtain ⟨ih0, ih1, ih2⟩ := weathercocklaw02_RowBytes.mono_l k
    refine ⟨?_, ?_, ?_⟩
    · intro y0 y1 y2 y3 y4 y5 y6 y7 y8 y9
      unfold weathercocklaw02_RowBytes.l0
      repeat' first
      | (with_reducible exact ih0 _ _ _ _ _ _ _ _ _ _)
      | (with_reducible exact ih1 _ _ _ _ _ _ _ _ _ _ _ _)
      | (with_reducible exact ih2 _ _ _ _ _ _ _ _ _ _ _ _)
      | (with_reducible exact row_Decode.mono _ _)
      | (with_reducible exact weathercocklaw02_examples.mono _)
      | (with_reducible exact weathercockref02_Decode.mono _ _)
      | (with_reducible exact weathercockref02_Encode.mono _ _)
      | (with_reducible exact weathercockref02_Right.mono _ _)
      | (with_reducible exact LeO.refl _)
      | (with_reducible exact LeO.none _)
      | (with_reducible refine LeO.ite ?_ ?_)
      | (with_reducible refine LeO.bind ?_ (fun _ => ?_))
      | exact ih0 _ _ _ _ _ _ _ _ _ _
      | exact ih1 _ _ _ _ _ _ _ _ _ _ _ _
      | exact ih2 _ _ _ _ _ _ _ _ _ _ _ _
      | exact row_Decode.mono _ _
      | exact weathercocklaw02_examples.mono _
      | exact weathercockref02_Decode.mono _ _
      | exact weathercockref02_Encode.mono _ _
      | exact weathercockref02_Right.mono _ _
      | exact LeO.none _
      | refine LeO.ite ?_ ?_
      | refine LeO.bind ?_ (fun _ => ?_)
    · intro y0 y1 y2 y3 y4 y5 y6 y7 y8 y9 y10 y11
      unfold weathercocklaw02_RowBytes.j1
      repeat' first
      | (with_reducible exact ih0 _ _ _ _ _ _ _ _ _ _)
      | (with_reducible exact ih1 _ _ _ _ _ _ _ _ _ _ _ _)
      | (with_reducible exact ih2 _ _ _ _ _ _ _ _ _ _ _ _)
      | (with_reducible exact row_Decode.mono _ _)
      | (with_reducible exact weathercocklaw02_examples.mono _)
      | (with_reducible exact weathercockref02_Decode.mono _ _)
      | (with_reducible exact weathercockref02_Encode.mono _ _)
      | (with_reducible exact weathercockref02_Right.mono _ _)
      | (with_reducible exact LeO.refl _)
      | (with_reducible exact LeO.none _)
      | (with_reducible refine LeO.ite ?_ ?_)
      | (with_reducible refine LeO.bind ?_ (fun _ => ?_))
      | exact ih0 _ _ _ _ _ _ _ _ _ _
      | exact ih1 _ _ _ _ _ _ _ _ _ _ _ _
      | exact ih2 _ _ _ _ _ _ _ _ _ _ _ _
      | exact row_Decode.mono _ _
      | exact weathercocklaw02_examples.mono _
      | exact weathercockref02_Decode.mono _ _
      | exact weathercockref02_Encode.mono _ _
      | exact weathercockref02_Right.mono _ _
      | exact LeO.none _
      | refine LeO.ite ?_ ?_
      | refine LeO.bind ?_ (fun _ => ?_)
    · intro y0 y1 y2 y3 y4 y5 y6 y7 y8 y9 y10 y11
      unfold weathercocklaw02_RowBytes.l1
      repeat' first
      | (with_reducible exact ih0 _ _ _ _ _ _ _ _ _ _)
      | (with_reducible exact ih1 _ _ _ _ _ _ _ _ _ _ _ _)
      | (with_reducible exact ih2 _ _ _ _ _ _ _ _ _ _ _ _)
      | (with_reducible exact row_Decode.mono _ _)
      | (with_reducible exact weathercocklaw02_examples.mono _)
      | (with_reducible exact weathercockref02_Decode.mono _ _)
      | (with_reducible exact weathercockref02_Encode.mono _ _)
      | (with_reducible exact weathercockref02_Right.mono _ _)
      | (with_reducible exact LeO.refl _)
      | (with_reducible exact LeO.none _)
      | (with_reducible refine LeO.ite ?_ ?_)
      | (with_reducible refine LeO.bind ?_ (fun _ => ?_))
      | exact ih0 _ _ _ _ _ _ _ _ _ _
      | exact ih1 _ _ _ _ _ _ _ _ _ _ _ _
      | exact ih2 _ _ _ _ _ _ _ _ _ _ _ _
      | exact row_Decode.mono _ _
      | exact weathercocklaw02_examples.mono _
      | exact weathercockref02_Decode.mono _ _
      | exact weathercockref02_Encode.mono _ _
      | exact weathercockref02_Right.mono _ _
      | exact LeO.none _
      | refine LeO.ite ?_ ?_
      | refine LeO.bind ?_ (fun _ => ?_)
theorem weathercocklaw02_RowBytes.mono : ∀ a0 a1 k, LeO (weathercocklaw02_RowBytes.f k a0 a1) (weathercocklaw02_RowBytes.f (k + 1) a0 a1) := by
  intro a0 a1 k
  obtain ⟨ih0, ih1, ih2⟩ := weathercocklaw02_RowBytes.mono_l k
  unfold weathercocklaw02_RowBytes.f
  repeat' first
      | (with_reducible exact ih0 _ _ _ _ _ _ _ _ _ _)
      | (with_reducible exact ih1 _ _ _ _ _ _ _ _ _ _ _ _)
      | (with_reducible exact ih2 _ _ _ _ _ _ _ _ _ _ _ _)
      | (with_reducible exact row_Decode.mono _ _)
      | (with_reducible exact weathercocklaw02_examples.mono _)
      | (with_reducible exact weathercockref02_Decode.mono _ _)
      | (with_reducible exact weathercockref02_Encode.mono _ _)
      | (with_reducible exact weathercockref02_Right.mono _ _)
      | (with_reducible exact LeO.refl _)
      | (with_reducible exact LeO.none _)
      | (with_reducible refine LeO.ite ?_ ?_)
      | (with_reducible refine LeO.bind ?_ (fun _ => ?_))
      | exact ih0 _ _ _ _ _ _ _ _ _ _
      | exact ih1 _ _ _ _ _ _ _ _ _ _ _ _
      | exact ih2 _ _ _ _ _ _ _ _ _ _ _ _
      | exact row_Decode.mono _ _
      | exact weathercocklaw02_examples.mono _
      | exact weathercockref02_Decode.mono _ _
      | exact weathercockref02_Encode.mono _ _
      | exact weathercockref02_Right.mono _ _
      | exact LeO.none _
      | refine LeO.ite ?_ ?_
      | refine LeO.bind ?_ (fun _ => ?_)
set_option maxHeartbeats 8000000 in
set_option maxRecDepth 100000 in
theorem weathercocklaw02_RowBytes.calls (k : Nat) (A0 : Option Addr) (c0 : Nat) (l0 : List (S36)) (a1 : ByteArray) (r : Bool) (w : World) (hr0 : Kd.C k36 w A0 l0.length l0) (hc0 : l0.length ≤ c0) (h : weathercocklaw02_RowBytes.f k l0 a1 = some r) (hrt : r = true) :
    Calls Try.prog 3 #[.slice A0 l0.length c0, .string a1] w fun e w' => e = .returned (.bool r) ∧ Below w.heap.size w w' := by
  have HRT := Aside0.mk hrt
  clear hrt
  have hu36 := Try.underlying36
  have HR0 := Aside0.mk hr0
  have HC0 := Aside0.mk hc0
  clear hr0 hc0
  have HB := Aside0.mk (Below.refl w.heap.size w)
  have H : ((weathercocklaw02_examples.f k).bind fun t181 => ((row_Encode.f l0).bind fun bt182 => ((weathercockref02_Encode.f k l0).bind fun bt184 => ((weathercockref02_Decode.f k a1).bind fun bt186 => (weathercocklaw02_RowBytes.l0 k l0 a1 t181 bt182.1 bt182.2 bt184.1 bt184.2 bt186.1 bt186.2 0))))) = some r := h
  clear h
  replace H := Option.bind_eq_some_iff.mp H
  obtain ⟨t181, A30, H⟩ := H
  replace H : ((row_Encode.f l0).bind fun bt182 => ((weathercockref02_Encode.f k l0).bind fun bt184 => ((weathercockref02_Decode.f k a1).bind fun bt186 => (weathercocklaw02_RowBytes.l0 k l0 a1 t181 bt182.1 bt182.2 bt184.1 bt184.2 bt186.1 bt186.2 0)))) = some r := H
  have A3 := Aside0.mk A30
  clear A30
  replace H := Option.bind_eq_some_iff.mp H
  obtain ⟨⟨t182, t183⟩, A40, H⟩ := H
  replace H : ((weathercockref02_Encode.f k l0).bind fun bt184 => ((weathercockref02_Decode.f k a1).bind fun bt186 => (weathercocklaw02_RowBytes.l0 k l0 a1 t181 t182 t183 bt184.1 bt184.2 bt186.1 bt186.2 0))) = some r := H
  have A4 := Aside0.mk A40
  clear A40
  replace H := Option.bind_eq_some_iff.mp H
  obtain ⟨⟨t184, t185⟩, A50, H⟩ := H
  replace H : ((weathercockref02_Decode.f k a1).bind fun bt186 => (weathercocklaw02_RowBytes.l0 k l0 a1 t181 t182 t183 t184 t185 bt186.1 bt186.2 0)) = some r := H
  have A5 := Aside0.mk A50
  clear A50
  replace H := Option.bind_eq_some_iff.mp H
  obtain ⟨⟨t186, t187⟩, A60, H⟩ := H
  replace H : (weathercocklaw02_RowBytes.l0 k l0 a1 t181 t182 t183 t184 t185 t186 t187 0) = some r := H
  have A6 := Aside0.mk A60
  clear A60
  have H' := Aside0.mk H
  clear H
  go_enter Try.func3, Try.ntmps3
  go_wp2_with (first | ((with_reducible refine gate_callee (f := 10) rfl ?_); refine goesL_ (some 17) rfl rfl Try.func10 (by kernel_rfl) rfl #[] rfl (by (try simp only [List.map_toArray, List.map_cons, List.map_nil]); first | done | rfl | (simp only [List.length_drop, List.length_take]; rfl)) ?_; (with_reducible refine (weathercocklaw02_examples.calls k  t181 _ A3.out).mono ?_); rintro e w7 ⟨rfl, hb⟩; refine ⟨_, rfl, ?_⟩; have n0_ := Aside0.mk (below_step (by repeat (first | (with_reducible first | exact HB.out | apply below_alloc | apply pw_below_drewN | apply below_drew1) | exact HB.out)) hb); clear HB; have HB := n0_; clear n0_; (try clear hb); (try clear hb2); (try clear hk); (try clear hi)) | ((with_reducible refine gate_callee (f := 11) rfl ?_); refine goesL_ (some 20) rfl rfl Try.func11 (by kernel_rfl) rfl #[.slice A0 l0.length c0] rfl (by (try simp only [List.map_toArray, List.map_cons, List.map_nil]); first | done | rfl | (simp only [List.length_drop, List.length_take]; rfl)) ?_; (with_reducible refine (row_Encode.calls _ _ l0 t182 t183 _ ?side1 ?side2 A4.out).mono ?_); (case side1 => repeat (first | exact (Kd.C_below HR0.out HB.out) | (with_reducible refine Kd.C_alloc ?_ _) | (with_reducible refine Kd.C_drewN ?_ _) | (with_reducible refine Kd.C_drew ?_))); (case side2 => exact HC0.out); rintro e w8 ⟨rfl, hb⟩; refine ⟨_, rfl, ?_⟩; have n0_ := Aside0.mk (below_step (by repeat (first | (with_reducible first | exact HB.out | apply below_alloc | apply pw_below_drewN | apply below_drew1) | exact HB.out)) hb); clear HB; have HB := n0_; clear n0_; (try clear hb); (try clear hb2); (try clear hk); (try clear hi)) | ((with_reducible refine gate_callee (f := 12) rfl ?_); refine goesL_ (some 25) rfl rfl Try.func12 (by kernel_rfl) rfl #[.slice A0 l0.length c0] rfl (by (try simp only [List.map_toArray, List.map_cons, List.map_nil]); first | done | rfl | (simp only [List.length_drop, List.length_take]; rfl)) ?_; (with_reducible refine (weathercockref02_Encode.calls k _ _ l0 t184 t185 _ ?side1 ?side2 A5.out).mono ?_); (case side1 => repeat (first | exact (Kd.C_below HR0.out HB.out) | (with_reducible refine Kd.C_alloc ?_ _) | (with_reducible refine Kd.C_drewN ?_ _) | (with_reducible refine Kd.C_drew ?_))); (case side2 => exact HC0.out); rintro e w9 ⟨rfl, hb⟩; refine ⟨_, rfl, ?_⟩; have n0_ := Aside0.mk (below_step (by repeat (first | (with_reducible first | exact HB.out | apply below_alloc | apply pw_below_drewN | apply below_drew1) | exact HB.out)) hb); clear HB; have HB := n0_; clear n0_; (try clear hb); (try clear hb2); (try clear hk); (try clear hi)) | ((with_reducible refine gate_callee (f := 13) rfl ?_); refine goesL_ (some 30) rfl rfl Try.func13 (by kernel_rfl) rfl #[.string a1] rfl (by (try simp only [List.map_toArray, List.map_cons, List.map_nil]); first | done | rfl | (simp only [List.length_drop, List.length_take]; rfl)) ?_; (with_reducible refine (weathercockref02_Decode.calls k a1 t186 t187 _ A6.out).mono ?_); rintro e w10 ⟨v188, rfl, ho0, hb⟩; refine ⟨_, rfl, ?_⟩; have n0_ := Aside0.mk (Kd.R_lower ho0 (below_size (by repeat (first | (with_reducible first | exact HB.out | apply below_alloc | apply pw_below_drewN | apply below_drew1) | exact HB.out)))); have n1_ := Aside0.mk (below_step (by repeat (first | (with_reducible first | exact HB.out | apply below_alloc | apply pw_below_drewN | apply below_drew1) | exact HB.out)) hb); clear HB; have HO189 := n0_; have HB := n1_; clear n0_ n1_; (try clear hb); (try clear hb2); (try clear hk); (try clear hi); (try clear ho0)))
  go_loopg [12] k (fun kq v12 w' => ∃ (x10_1 : List (S36)) (x12_1 : Int), v12 = .int .i64 x12_1 ∧ Aside0 (weathercocklaw02_RowBytes.l0 kq l0 a1 t181 t182 t183 t184 t185 x10_1 t187 x12_1 = some r) ∧ Aside0 (kq ≤ k) ∧ Aside0 (Kd.R k36 36 w' w.heap.size (fun _ => True) v188 x10_1) ∧ Aside0 (Below w.heap.size w w'))
  case atStart => exact ⟨(t186), (0), (by first | rfl | (simp; done) | (simp [*]; done)), H', ⟨Nat.le_refl _⟩, ⟨by (with_reducible repeat (first | apply Kd.R_alloc | apply Kd.R_drewN | apply Kd.R_drew)); exact HO189.out⟩, ⟨by repeat (first | (with_reducible first | exact HB.out | apply below_alloc | apply pw_below_drewN | apply below_drew1) | exact HB.out)⟩⟩
  case round =>
    clear H'
    try clear c1
    try clear p2
    try clear c3
    try clear c10
    obtain ⟨x10_1, x12_1, rfl, HA, HK1, HO_10, HB⟩ := hrel
    cases gk with
    | zero => exact absurd HA.out (by simp [weathercocklaw02_RowBytes.l0])
    | succ k1 =>
      have H := HA.out
      clear HA
      simp only [weathercocklaw02_RowBytes.l0] at H
      by_cases c11 : x12_1 < 2
      · rw [if_pos c11] at H
        have c11b0 : decide (x12_1 < 2) = true := decide_eq_true c11
        clear c11
        replace H := Option.bind_eq_some_iff.mp H
        obtain ⟨⟨t192, t193⟩, A120, H⟩ := H
        replace H : ((weathercocklaw02_rows.f t192 x10_1).bind fun t196 => (if t196 = true then (if (t187 != (t193 == 0)) = true then (weathercocklaw02_RowBytes.j1 k1 l0 a1 t181 t182 t183 t184 t185 x10_1 t187 x12_1 t192 true) else (if t187 = true then (weathercocklaw02_RowBytes.j1 k1 l0 a1 t181 t182 t183 t184 t185 x10_1 t187 x12_1 t192 false) else (weathercocklaw02_RowBytes.j1 k1 l0 a1 t181 t182 t183 t184 t185 x10_1 t187 x12_1 t192 (t193 != 2)))) else (weathercocklaw02_RowBytes.j1 k1 l0 a1 t181 t182 t183 t184 t185 x10_1 t187 x12_1 t192 true))) = some r := H
        have A12 := Aside0.mk A120
        clear A120
        replace H := Option.bind_eq_some_iff.mp H
        obtain ⟨t196, A130, H⟩ := H
        replace H : (if t196 = true then (if (t187 != (t193 == 0)) = true then (weathercocklaw02_RowBytes.j1 k1 l0 a1 t181 t182 t183 t184 t185 x10_1 t187 x12_1 t192 true) else (if t187 = true then (weathercocklaw02_RowBytes.j1 k1 l0 a1 t181 t182 t183 t184 t185 x10_1 t187 x12_1 t192 false) else (weathercocklaw02_RowBytes.j1 k1 l0 a1 t181 t182 t183 t184 t185 x10_1 t187 x12_1 t192 (t193 != 2)))) else (weathercocklaw02_RowBytes.j1 k1 l0 a1 t181 t182 t183 t184 t185 x10_1 t187 x12_1 t192 true)) = some r := H
        have A13 := Aside0.mk A130
        clear A130
        have HC14 := Aside0.mk H
        clear H
        go_upto_region 10 with (first | ((with_reducible refine gate_callee (f := 14) rfl ?_); refine goesL_ (some 39) rfl rfl Try.func14 (by kernel_rfl) rfl #[.string a1] rfl (by (try simp only [List.map_toArray, List.map_cons, List.map_nil]); first | done | rfl | (simp only [List.length_drop, List.length_take]; rfl)) ?_; (with_reducible refine (row_Decode.calls k1 a1 t192 t193 _ A12.out).mono ?_); rintro e w15 ⟨v194, rfl, ho0, hb⟩; refine ⟨_, rfl, ?_⟩; have n0_ := Aside0.mk (Kd.R_elder' (by (with_reducible repeat (first | apply Kd.R_alloc | apply Kd.R_drewN | apply Kd.R_drew)); exact HO_10.out) (Kd.R_base ho0) hb); have n1_ := Aside0.mk (Kd.R_lower (Kd.R_new' ho0 (Kd.R_lt (by (with_reducible repeat (first | apply Kd.R_alloc | apply Kd.R_drewN | apply Kd.R_drew)); exact HO_10.out))) (below_size (by repeat (first | (with_reducible first | exact HB.out | apply below_alloc | apply pw_below_drewN | apply below_drew1) | exact HB.out)))); have n2_ := Aside0.mk (below_step (by repeat (first | (with_reducible first | exact HB.out | apply below_alloc | apply pw_below_drewN | apply below_drew1) | exact HB.out)) hb); clear HO_10; clear HB; have HO_10 := n0_; have HO195 := n1_; have HB := n2_; clear n0_ n1_ n2_; (try clear hb); (try clear hb2); (try clear hk); (try clear hi); (try clear ho0); obtain ⟨Ao16, co16, eo16⟩ := Kd.R_slice HO195.out; subst eo16; obtain ⟨Ao17, co17, eo17⟩ := Kd.R_slice HO_10.out; subst eo17) | (go_at_call 15; (refine (weathercocklaw02_rows.one _ _ _ _ _ t192 x10_1 t196 ?side1 ?side2 ?side3 ?side4 A13.out).mono ?_); (case side1 => repeat (first | exact (Kd.R_reads' HO195.out).2.2 | (with_reducible refine Kd.C_alloc ?_ _) | (with_reducible refine Kd.C_drewN ?_ _) | (with_reducible refine Kd.C_drew ?_))); (case side2 => exact (Kd.R_reads' HO195.out).2.1); (case side3 => repeat (first | exact (Kd.R_reads' HO_10.out).2.2 | (with_reducible refine Kd.C_alloc ?_ _) | (with_reducible refine Kd.C_drewN ?_ _) | (with_reducible refine Kd.C_drew ?_))); (case side4 => exact (Kd.R_reads' HO_10.out).2.1); rintro e w18 ⟨rfl, hb⟩; have n0_ := Aside0.mk (Kd.R_below (by (with_reducible repeat (first | apply Kd.R_alloc | apply Kd.R_drewN | apply Kd.R_drew)); exact HO_10.out) hb); have n1_ := Aside0.mk (Kd.R_below (by (with_reducible repeat (first | apply Kd.R_alloc | apply Kd.R_drewN | apply Kd.R_drew)); exact HO195.out) hb); have n2_ := Aside0.mk (below_step (by repeat (first | (with_reducible first | exact HB.out | apply below_alloc | apply pw_below_drewN | apply below_drew1) | exact HB.out)) hb); clear HO_10; clear HO195; clear HB; have HO_10 := n0_; have HO195 := n1_; have HB := n2_; clear n0_ n1_ n2_; (try clear hb); (try clear hb2); (try clear hk); (try clear hi)))
        (try simp only [Act.put, List.setIfInBounds_toArray, List.set_cons_zero, List.set_cons_succ])
        go_cut [62] (fun v62 wc => ∃ (kq : Nat) (x62_13 : Bool), v62 = .bool x62_13 ∧ Aside0 (weathercocklaw02_RowBytes.j1 kq l0 a1 t181 t182 t183 t184 t185 x10_1 t187 x12_1 t192 x62_13 = some r) ∧ Aside0 (kq ≤ k1) ∧ Aside0 (Kd.R k36 36 wc w.heap.size (fun k_ => some k_ ≠ ((.slice Ao16 t192.length co16) : Value).ownBlock) (.slice Ao17 x10_1.length co17) x10_1) ∧ Aside0 (Kd.R k36 36 wc w.heap.size (fun k_ => some k_ ≠ ((.slice Ao17 x10_1.length co17) : Value).ownBlock) (.slice Ao16 t192.length co16) t192) ∧ Aside0 (Below w.heap.size w wc))
        case first =>
          have H := HC14.out
          clear HC14
          by_cases c19 : t196 = true
          · subst c19
            have H1 : (if (t187 != (t193 == 0)) = true then (weathercocklaw02_RowBytes.j1 k1 l0 a1 t181 t182 t183 t184 t185 x10_1 t187 x12_1 t192 true) else (if t187 = true then (weathercocklaw02_RowBytes.j1 k1 l0 a1 t181 t182 t183 t184 t185 x10_1 t187 x12_1 t192 false) else (weathercocklaw02_RowBytes.j1 k1 l0 a1 t181 t182 t183 t184 t185 x10_1 t187 x12_1 t192 (t193 != 2)))) = some r := by rw [if_pos rfl] at H; exact H
            clear H
            have H := H1
            clear H1
            by_cases c20 : (t187 != (t193 == 0)) = true
            · rw [if_pos c20] at H
              have c20b0 : (t187 != (t193 == 0)) = true := c20
              (try (have c20b1 : decide (t187 = (t193 == 0)) = false := by simpa using c20))
              (try (have c20b2 : (t187 == (t193 == 0)) = false := by simpa using c20))
              (try (have c20b3 : ¬ (t187 = (t193 == 0)) := by simpa using c20))
              clear c20
              (first | rw [c20b0] | rw [c20b1] | (simp only [i64_w, i32_w]; rw [c20b0]) | skip)
              have H' := Aside0.mk H
              clear H
              go_wp2
              go_meet
              case rel => exact ⟨_, (true), (by first | rfl | (simp; done) | (simp [*]; done)), H', ⟨by have := HK1.out; first | omega | exact Nat.le_refl _⟩, ⟨by (with_reducible repeat (first | apply Kd.R_alloc | apply Kd.R_drewN | apply Kd.R_drew)); exact Kd.R_mono HO_10.out (fun _ hk => hk.2)⟩, ⟨by (with_reducible repeat (first | apply Kd.R_alloc | apply Kd.R_drewN | apply Kd.R_drew)); exact Kd.R_mono HO195.out (fun _ hk => hk.2)⟩, ⟨by repeat (first | (with_reducible first | exact HB.out | apply below_alloc | apply pw_below_drewN | apply below_drew1) | exact HB.out)⟩⟩
            · rw [if_neg c20] at H
              have c20b0 : (t187 != (t193 == 0)) = false := by simpa using c20
              (try (have c20b1 : decide (t187 = (t193 == 0)) = true := by simpa using c20))
              (try (have c20b2 : (t187 == (t193 == 0)) = true := by simpa using c20))
              clear c20
              (first | rw [c20b0] | rw [c20b1] | (simp only [i64_w, i32_w]; rw [c20b0]) | skip)
              by_cases c21 : t187 = true
              · subst c21
                have H1 : (weathercocklaw02_RowBytes.j1 k1 l0 a1 t181 t182 t183 t184 t185 x10_1 true x12_1 t192 false) = some r := by rw [if_pos rfl] at H; exact H
                clear H
                have H := H1
                clear H1
                have H' := Aside0.mk H
                clear H
                go_wp2
                go_meet
                case rel => exact ⟨_, (false), (by first | rfl | (simp; done) | (simp [*]; done)), H', ⟨by have := HK1.out; first | omega | exact Nat.le_refl _⟩, ⟨by (with_reducible repeat (first | apply Kd.R_alloc | apply Kd.R_drewN | apply Kd.R_drew)); exact Kd.R_mono HO_10.out (fun _ hk => hk.2)⟩, ⟨by (with_reducible repeat (first | apply Kd.R_alloc | apply Kd.R_drewN | apply Kd.R_drew)); exact Kd.R_mono HO195.out (fun _ hk => hk.2)⟩, ⟨by repeat (first | (with_reducible first | exact HB.out | apply below_alloc | apply pw_below_drewN | apply below_drew1) | exact HB.out)⟩⟩
              · replace c21 := Bool.eq_false_iff.mpr c21
                subst c21
                have H1 : (weathercocklaw02_RowBytes.j1 k1 l0 a1 t181 t182 t183 t184 t185 x10_1 false x12_1 t192 (t193 != 2)) = some r := by rw [if_neg (show ¬ (false = true) by decide)] at H; exact H
                clear H
                have H := H1
                clear H1
                have H' := Aside0.mk H
                clear H
                go_wp2
                go_meet
                case rel => exact ⟨_, ((t193 != 2)), (by first | rfl | (simp; done) | (simp [*]; done)), H', ⟨by have := HK1.out; first | omega | exact Nat.le_refl _⟩, ⟨by (with_reducible repeat (first | apply Kd.R_alloc | apply Kd.R_drewN | apply Kd.R_drew)); exact Kd.R_mono HO_10.out (fun _ hk => hk.2)⟩, ⟨by (with_reducible repeat (first | apply Kd.R_alloc | apply Kd.R_drewN | apply Kd.R_drew)); exact Kd.R_mono HO195.out (fun _ hk => hk.2)⟩, ⟨by repeat (first | (with_reducible first | exact HB.out | apply below_alloc | apply pw_below_drewN | apply below_drew1) | exact HB.out)⟩⟩
          · replace c19 := Bool.eq_false_iff.mpr c19
            subst c19
            have H1 : (weathercocklaw02_RowBytes.j1 k1 l0 a1 t181 t182 t183 t184 t185 x10_1 t187 x12_1 t192 true) = some r := by rw [if_neg (show ¬ (false = true) by decide)] at H; exact H
            clear H
            have H := H1
            clear H1
            have H' := Aside0.mk H
            clear H
            go_wp2
            go_meet
            case rel => exact ⟨_, (true), (by first | rfl | (simp; done) | (simp [*]; done)), H', ⟨by have := HK1.out; first | omega | exact Nat.le_refl _⟩, ⟨by (with_reducible repeat (first | apply Kd.R_alloc | apply Kd.R_drewN | apply Kd.R_drew)); exact Kd.R_mono HO_10.out (fun _ hk => hk.2)⟩, ⟨by (with_reducible repeat (first | apply Kd.R_alloc | apply Kd.R_drewN | apply Kd.R_drew)); exact Kd.R_mono HO195.out (fun _ hk => hk.2)⟩, ⟨by repeat (first | (with_reducible first | exact HB.out | apply below_alloc | apply pw_below_drewN | apply below_drew1) | exact HB.out)⟩⟩
        case rest =>
          clear HC14
          try clear c1
          try clear c2
          try clear p2
          try clear c3
          try clear c10
          try clear c11
          try clear c11b0
          try clear c12
          try clear c13
          try clear c14
          try clear c15
          try clear c19
          try clear c20
          try clear c20b0
          try clear c20b1
          try clear c20b2
          try clear c21
          try clear p2
          obtain ⟨kq, x62_13, rfl, HA, HJ13, HO_10, HO_13, HB⟩ := hcut
          cases kq with
          | zero => exact absurd HA.out (by simp [weathercocklaw02_RowBytes.j1])
          | succ kj13 =>
            have H := HA.out
            clear HA
            simp only [weathercocklaw02_RowBytes.j1] at H
            by_cases c22 : x62_13 = true
            · subst c22
              have H1 : (some false) = some r := by rw [if_pos rfl] at H; exact H
              clear H
              have H := H1
              clear H1
              exact absurd (Option.some.inj H) (fun h_ => absurd (h_.trans HRT.out) (by decide))
            · replace c22 := Bool.eq_false_iff.mpr c22
              subst c22
              have H1 : (weathercocklaw02_RowBytes.l1 kj13 l0 a1 t181 t182 t183 t184 t185 x10_1 t187 x12_1 t192 0) = some r := by rw [if_neg (show ¬ (false = true) by decide)] at H; exact H
              clear H
              have H := H1
              clear H1
              have H' := Aside0.mk H
              clear H
              go_wp2
              go_loopg [16] kj13 (fun kq v16 w' => ∃ (x13_3 : List (S36)) (x16_3 : Int), v16 = .int .i64 x16_3 ∧ Aside0 (weathercocklaw02_RowBytes.l1 kq l0 a1 t181 t182 t183 t184 t185 x10_1 t187 x12_1 x13_3 x16_3 = some r) ∧ Aside0 (kq ≤ kj13) ∧ Aside0 (Kd.R k36 36 w' w.heap.size (fun k_ => some k_ ≠ ((.slice Ao16 t192.length co16) : Value).ownBlock) (.slice Ao17 x10_1.length co17) x10_1) ∧ Aside0 (Kd.R k36 36 w' w.heap.size (fun k_ => some k_ ≠ ((.slice Ao17 x10_1.length co17) : Value).ownBlock) (.slice Ao16 t192.length co16) x13_3) ∧ Aside0 (Below w.heap.size w w'))
              case atStart => exact ⟨(t192), (0), (by first | rfl | (simp; done) | (simp [*]; done)), H', ⟨Nat.le_refl _⟩, ⟨by (with_reducible repeat (first | apply Kd.R_alloc | apply Kd.R_drewN | apply Kd.R_drew)); exact HO_10.out⟩, ⟨by (with_reducible repeat (first | apply Kd.R_alloc | apply Kd.R_drewN | apply Kd.R_drew)); exact HO_13.out⟩, ⟨by repeat (first | (with_reducible first | exact HB.out | apply below_alloc | apply pw_below_drewN | apply below_drew1) | exact HB.out)⟩⟩
              case round =>
                clear H'
                try clear c1
                try clear c2
                try clear p2
                try clear c3
                try clear c10
                try clear c11
                try clear c11b0
                try clear c12
                try clear c13
                try clear c14
                try clear c15
                try clear c19
                try clear c20
                try clear c20b0
                try clear c20b1
                try clear c20b2
                try clear c21
                try clear c22
                try clear p2
                obtain ⟨x13_3, x16_3, rfl, HA, HK3, HO_10, HO_13, HB⟩ := hrel
                have hl13_3 := (Kd.R_reads' HO_13.out).1
                rw [hl13_3] at HO_13
                (try simp only [hl13_3])
                (try simp only [hl13_3] at HO_10)
                cases gk with
                | zero => exact absurd HA.out (by simp [weathercocklaw02_RowBytes.l1])
                | succ k3 =>
                  have H := HA.out
                  clear HA
                  simp only [weathercocklaw02_RowBytes.l1] at H
                  by_cases c23 : x16_3 < (x13_3.length : Int)
                  · rw [if_pos c23] at H
                    have c23b0 : decide (x16_3 < (x13_3.length : Int)) = true := decide_eq_true c23
                    clear c23
                    by_cases c24 : 0 ≤ x16_3
                    · rw [if_pos c24] at H
                      have c24b0 : decide (0 ≤ x16_3) = true := decide_eq_true c24
                      clear c24
                      obtain ⟨y197, hy197⟩ : ∃ y_ : List (S36), y_ = (x13_3.set (x16_3 : Int).toNat (⟨9, 0, (⟨#[]⟩ : ByteArray)⟩ : S36)) := ⟨_, rfl⟩
                      replace H : (weathercocklaw02_RowBytes.l1 k3 l0 a1 t181 t182 t183 t184 t185 x10_1 t187 x12_1 y197 (wrap64 (x16_3 + 1))) = some r := by first | (rw [hy197]; with_reducible exact H) | (have H2_ := (Option.bind_some _ _).symm.trans H; rw [hy197]; with_reducible exact H2_) | (have H2_ := (Option.bind_some _ _).symm.trans H; with_reducible exact H2_) | with_reducible exact H | (rw [hy197]; exact H) | exact H
                      have Ny197 := Aside0.mk hy197
                      clear hy197
                      have H' := Aside0.mk H
                      clear H
                      have p25 : 0 ≤ (x16_3 : Int) := of_decide_eq_true (by first | (with_reducible assumption) | assumption)
                      have q25 : (x16_3 : Int) < ((x13_3.length : Int) : Int) := of_decide_eq_true (by first | (with_reducible assumption) | assumption)
                      obtain ⟨go25, co25, eo25, gb25, gl25, cl25, HG25⟩ := Kd.R_form HO_13.out (by omega)
                      (first | cases eo25 | (injection eo25 with ea_ en_ ec_; (first | subst ea_ | (injection ea_ with ea_; subst ea_)); subst ec_; clear en_))
                      have GB25 := Aside0.mk gb25
                      have GG25 := Aside0.mk HG25
                      clear gb25 gl25 HG25
                      obtain ⟨ce25, hcl25, hM25, hcc25, hfr25⟩ := Kd.R_elem HO_13.out z36 (x16_3 : Int) p25 q25
                      obtain rfl := k36_openM hM25
                      have hx25_0 : wr.cell? ⟨go25, (x16_3 : Int).toNat * 3, none⟩ = some (.int .i64 ((rd_T36 x13_3 x16_3).f0)) := hcc25 0 _ rfl
                      have hx25_1 : wr.cell? ⟨go25, (x16_3 : Int).toNat * 3 + 1, none⟩ = some (.int .i64 ((rd_T36 x13_3 x16_3).f1)) := hcc25 1 _ rfl
                      have hx25_2 : wr.cell? ⟨go25, (x16_3 : Int).toNat * 3 + 2, none⟩ = some (.string ((rd_T36 x13_3 x16_3).f2)) := hcc25 2 _ rfl
                      have hf25_0 : wr.frozen? ⟨go25, (x16_3 : Int).toNat * 3, none⟩ = false := hfr25 0
                      have hf25_1 : wr.frozen? ⟨go25, (x16_3 : Int).toNat * 3 + 1, none⟩ = false := hfr25 1
                      have hf25_2 : wr.frozen? ⟨go25, (x16_3 : Int).toNat * 3 + 2, none⟩ = false := hfr25 2
                      clear hcl25 hcc25 hfr25 hM25
                      replace p25 := eq_true p25
                      replace q25 := eq_true q25
                      have HX26 := Aside0.mk (show Kd.R k36 36 wr w.heap.size (fun k_ => some k_ ≠ (.slice Ao17 x10_1.length co17 : Value).ownBlock) (.slice (some ⟨go25, 0, none⟩) x13_3.length co16) x13_3 from (by (with_reducible repeat (first | apply Kd.R_alloc | apply Kd.R_drewN | apply Kd.R_drew)); exact HO_13.out))
                      obtain ⟨ce26, hcl26, hM26, hcc26, hfr26⟩ := Kd.R_elem HX26.out z36 (x16_3 : Int) (of_decide_eq_true (by first | (with_reducible assumption) | assumption)) (by have h_ : (x16_3 : Int) < ((x13_3.length : Int) : Int) := of_decide_eq_true (by first | (with_reducible assumption) | assumption); first | exact h_ | (have e_ := (Kd.R_reads' HO_13.out).1; omega) | simpa using h_)
                      obtain rfl := k36_openM hM26
                      have HP26 := Kd.R_seg HX26.out (x16_3 : Int) (of_decide_eq_true (by first | (with_reducible assumption) | assumption)) (by have h_ : (x16_3 : Int) < ((x13_3.length : Int) : Int) := of_decide_eq_true (by first | (with_reducible assumption) | assumption); first | exact h_ | (have e_ := (Kd.R_reads' HO_13.out).1; omega) | simpa using h_) (seg := [.int .i64 9, .int .i64 0, .string (⟨#[]⟩ : ByteArray)]) (j := 0) hcl26 hcc26 (show 3 ≤ 3 from by decide) (x' := (⟨9, 0, (⟨#[]⟩ : ByteArray)⟩ : S36)) (k36_mkM _ _ _ (⟨9, 0, (⟨#[]⟩ : ByteArray)⟩ : S36) ) (fun _ hk => hk)
                      have hx26_0 := hcc26 0 _ rfl
                      (try simp only [show (k36).sz = 3 from rfl, Nat.mul_one, Nat.add_zero] at hx26_0)
                      have hf26_0 := hfr26 0
                      (try simp only [show (k36).sz = 3 from rfl, Nat.mul_one, Nat.add_zero] at hf26_0)
                      have hx26_1 := hcc26 1 _ rfl
                      (try simp only [show (k36).sz = 3 from rfl, Nat.mul_one, Nat.add_zero] at hx26_1)
                      have hf26_1 := hfr26 1
                      (try simp only [show (k36).sz = 3 from rfl, Nat.mul_one, Nat.add_zero] at hf26_1)
                      have hx26_2 := hcc26 2 _ rfl
                      (try simp only [show (k36).sz = 3 from rfl, Nat.mul_one, Nat.add_zero] at hx26_2)
                      have hf26_2 := hfr26 2
                      (try simp only [show (k36).sz = 3 from rfl, Nat.mul_one, Nat.add_zero] at hf26_2)
                      clear hcl26 hcc26 hfr26 hM26
                      go_wp2_with (first | ((with_reducible refine gate_store (t := 36) (p := 72) rfl ?_); refine store_event (t := 36) (p := 72) (v := ?vo_w27) (w1 := (((wr.setCell ⟨go25, (x16_3 : Int).toNat * 3, none⟩ (.int .i64 9)).setCell ⟨go25, (x16_3 : Int).toNat * 3 + 1, none⟩ (.int .i64 0)).setCell ⟨go25, (x16_3 : Int).toNat * 3 + 2, none⟩ (.string (⟨#[]⟩ : ByteArray)))) ?hg ?ho ?hn ?hr ?_; (case ho => rfl); (case hg => rfl); (case hn => rfl); (case hr => first | (go_simp; done) | (go_simp; rfl)); intro w27 hw; have hg : wr.grownBy w27 (some go25) := (by rw [hw]; exact HP26.2); have hp_ : Kd.R k36 36 w27 w.heap.size (fun k_ => some k_ ≠ (.slice Ao17 x10_1.length co17 : Value).ownBlock) (.slice (some ⟨go25, 0, none⟩) x13_3.length co16) y197 := (by rw [hw, Ny197.out]; exact HP26.1); clear HP26; have n0_ := Aside0.mk (Kd.R_after (v := (.slice (some ⟨go25, 0, none⟩) x13_3.length co16)) (v1 := (.slice (some ⟨go25, 0, none⟩) x13_3.length co16)) (ok := (fun _ => True)) (by (with_reducible repeat (first | apply Kd.R_alloc | apply Kd.R_drewN | apply Kd.R_drew)); exact Kd.R_mono HO_10.out (fun _ hk => ⟨trivial, hk⟩)) hg (.inl rfl)); have n1_ := Aside0.mk (hp_); have n2_ := Aside0.mk ((by rw [hw]; exact below_set (below_set (below_set (HB.out) GB25.out) GB25.out) GB25.out : Below w.heap.size w w27)); clear HO_10; clear HO_13; clear HB; have HO_10 := n0_; have HO_13 := n1_; have HB := n2_; clear n0_ n1_ n2_; clear hg hw hp_))
                      (try simp only [← hl13_3])
                      go_roundg k3
                      case measure => have := HK1.out; have := HJ13.out; have := HK3.out; omega
                      case rel => exact ⟨(y197), (wrap64 (x16_3 + 1)), (by first | rfl | (simp; done) | (simp [*]; done)), H', ⟨by have := HK1.out; have := HJ13.out; have := HK3.out; omega⟩, ⟨by (try simp only [hl13_3]); (with_reducible repeat (first | apply Kd.R_alloc | apply Kd.R_drewN | apply Kd.R_drew)); exact Kd.R_mono HO_10.out (fun _ hk => hk.2)⟩, ⟨by (try simp only [hl13_3]); (with_reducible repeat (first | apply Kd.R_alloc | apply Kd.R_drewN | apply Kd.R_drew)); exact HO_13.out⟩, ⟨by repeat (first | (with_reducible first | exact HB.out | apply below_alloc | apply pw_below_drewN | apply below_drew1) | exact HB.out)⟩⟩
                    · rw [if_neg c24] at H
                      exact absurd H (by simp)
                  · rw [if_neg c23] at H
                    have c23b0 : decide (x16_3 < (x13_3.length : Int)) = false := decide_eq_false c23
                    clear c23
                    have H' := Aside0.mk H
                    clear H
                    go_wp2
                    (try simp only [← hl13_3])
                    go_roundg k3
                    case measure => have := HK1.out; have := HJ13.out; have := HK3.out; omega
                    case rel => exact ⟨(x10_1), (wrap64 (x12_1 + 1)), (by first | rfl | (simp; done) | (simp [*]; done)), H', ⟨by have := HK1.out; have := HJ13.out; have := HK3.out; omega⟩, ⟨by (try simp only [hl13_3]); (with_reducible repeat (first | apply Kd.R_alloc | apply Kd.R_drewN | apply Kd.R_drew)); exact Kd.R_mono HO_10.out (fun _ hk => trivial)⟩, ⟨by repeat (first | (with_reducible first | exact HB.out | apply below_alloc | apply pw_below_drewN | apply below_drew1) | exact HB.out)⟩⟩
      · rw [if_neg c11] at H
        have c11b0 : decide (x12_1 < 2) = false := decide_eq_false c11
        clear c11
        by_cases c28 : t181 = true
        · subst c28
          have H1 : (if t182.toList = t184.toList then (if t183 = t185 then ((row_Right.f l0).bind fun t190 => ((weathercockref02_Right.f k1 l0).bind fun t191 => (some (t190 == t191)))) else (some false)) else (some false)) = some r := by rw [if_pos rfl] at H; exact H
          clear H
          have H := H1
          clear H1
          by_cases c29 : t182.toList = t184.toList
          · rw [if_pos c29] at H
            have c29b0 : (t182.toList == t184.toList) = true := beq_iff_eq.mpr c29
            have c29b1 : (t182.toList != t184.toList) = false := bne_eq_false_iff_eq.mpr c29
            clear c29
            by_cases c30 : t183 = t185
            · rw [if_pos c30] at H
              have c30b0 : (t183 == t185) = true := beq_iff_eq.mpr c30
              have c30b1 : (t183 != t185) = false := bne_eq_false_iff_eq.mpr c30
              clear c30
              replace H := Option.bind_eq_some_iff.mp H
              obtain ⟨t190, A310, H⟩ := H
              replace H : ((weathercockref02_Right.f k1 l0).bind fun t191 => (some (t190 == t191))) = some r := H
              have A31 := Aside0.mk A310
              clear A310
              replace H := Option.bind_eq_some_iff.mp H
              obtain ⟨t191, A320, H⟩ := H
              replace H : (some (t190 == t191)) = some r := H
              have A32 := Aside0.mk A320
              clear A320
              obtain rfl := Option.some.inj H
              go_wp2_with (first | (go_at_call 16; (with_reducible refine (row_Right.calls _ _ l0 t190 _ ?side1 ?side2 A31.out).mono ?_); (case side1 => repeat (first | exact (Kd.C_below HR0.out HB.out) | (with_reducible refine Kd.C_alloc ?_ _) | (with_reducible refine Kd.C_drewN ?_ _) | (with_reducible refine Kd.C_drew ?_))); (case side2 => exact HC0.out); rintro e w33 ⟨rfl, hb⟩; have n0_ := Aside0.mk (Kd.R_below (by (with_reducible repeat (first | apply Kd.R_alloc | apply Kd.R_drewN | apply Kd.R_drew)); exact HO_10.out) hb); have n1_ := Aside0.mk (below_step (by repeat (first | (with_reducible first | exact HB.out | apply below_alloc | apply pw_below_drewN | apply below_drew1) | exact HB.out)) hb); clear HO_10; clear HB; have HO_10 := n0_; have HB := n1_; clear n0_ n1_; (try clear hb); (try clear hb2); (try clear hk); (try clear hi)) | (go_at_call 17; (with_reducible refine (weathercockref02_Right.calls k1 _ _ l0 t191 _ ?side1 ?side2 A32.out).mono ?_); (case side1 => repeat (first | exact (Kd.C_below HR0.out HB.out) | (with_reducible refine Kd.C_alloc ?_ _) | (with_reducible refine Kd.C_drewN ?_ _) | (with_reducible refine Kd.C_drew ?_))); (case side2 => exact HC0.out); rintro e w34 ⟨rfl, hb⟩; have n0_ := Aside0.mk (Kd.R_below (by (with_reducible repeat (first | apply Kd.R_alloc | apply Kd.R_drewN | apply Kd.R_drew)); exact HO_10.out) hb); have n1_ := Aside0.mk (below_step (by repeat (first | (with_reducible first | exact HB.out | apply below_alloc | apply pw_below_drewN | apply below_drew1) | exact HB.out)) hb); clear HO_10; clear HB; have HO_10 := n0_; have HB := n1_; clear n0_ n1_; (try clear hb); (try clear hb2); (try clear hk); (try clear hi)))
              go_ret
              exact ⟨by first | rfl | (simp [errW_none, errW_some] <;> rfl) | (simp [*, errW_none, errW_some] <;> rfl), by repeat (first | (with_reducible first | exact HB.out | apply below_alloc | apply pw_below_drewN | apply below_drew1) | exact HB.out)⟩
            · rw [if_neg c30] at H
              have c30b0 : (t183 == t185) = false := beq_eq_false_iff_ne.mpr c30
              have c30b1 : (t183 != t185) = true := bne_iff_ne.mpr c30
              exact absurd (Option.some.inj H) (fun h_ => absurd (h_.trans HRT.out) (by decide))
          · rw [if_neg c29] at H
            have c29b0 : (t182.toList == t184.toList) = false := beq_eq_false_iff_ne.mpr c29
            have c29b1 : (t182.toList != t184.toList) = true := bne_iff_ne.mpr c29
            exact absurd (Option.some.inj H) (fun h_ => absurd (h_.trans HRT.out) (by decide))
        · replace c28 := Bool.eq_false_iff.mpr c28
          subst c28
          have H1 : (some false) = some r := by rw [if_neg (show ¬ (false = true) by decide)] at H; exact H
          clear H
          have H := H1
          clear H1
          exact absurd (Option.some.inj H) (fun h_ => absurd (h_.trans HRT.out) (by decide))

/-- THE ONE PURE STATEMENT of weathercocklaw02_RowBytes: ours. -/
def weathercocklaw02_RowBytes.Pure : Prop := ∀ (l0 : List (S36)) (a1 : ByteArray), ((∀ y0_ ∈ l0, ((Lit.int .i64 y0_.f0).wf = true) ∧ (((Lit.int .i64 y0_.f1).wf = true) ∧ (y0_.f2.size ≤ 140737488351232))) ∧ l0.length * 32 ≤ 140737488351232 ∧ l0.length ≤ maxLen) → (a1.size ≤ 140737488351232) → ∃ k, weathercocklaw02_RowBytes.f k l0 a1 = some true

end Go.Proofs.Ytplmfnjijhppaaa.QRowBytes
