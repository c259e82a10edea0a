import Derived.Test.YtkogfjphpklioaaStN
/- Store: walks by hand; the conditions stand in each theorem. -/
namespace Go.Proofs.Ytkogfjphpklioaa.QStoreNames
open Go.RowKit Go.Proofs.YtkogfjphpklioaaW.PrintWords Go.Proofs.YtkogfjphpklioaaW.PrintLast Go.Proofs.YtkogfjphpklioaaW.PrintMore
attribute [local go_sem] max2_int min2_int max_two min_two max_three min_three max_four min_four
set_option linter.unusedVariables false
set_option linter.unusedSimpArgs false
set_option maxRecDepth 8000 in
set_option maxHeartbeats 2000000 in
theorem names_true (W : World) (s : ByteArray) (A : Option Addr) (c : Nat) (l : List S33) (hw : ShB W) (hs : s.size ≤ maxLen) (hr : Kd.C k33 W A l.length l) (hc : l.length ≤ c) (hl : l.length ≤ 4611686018427387904) (ho : ∀ t ∈ l, okT t) :
    Calls Try.prog 3 #[.string s, .slice A l.length c] W fun e w' => e = .returned (.bool true) ∧ Below W.heap.size W w' := by
  obtain ⟨K1, h1⟩ := refName_ok s hs
  obtain ⟨K2, h2⟩ := refRight_ok l hl ho
  have H1 := Aside0.mk (h1 K1 (Nat.le_refl _))
  have H2 := Aside0.mk (h2 K2 (Nat.le_refl _))
  have HS := Aside0.mk hs
  have HW := Aside0.mk hw
  have HR := Aside0.mk hr
  have HL := Aside0.mk hl
  have HO := Aside0.mk ho
  have HC := Aside0.mk hc
  clear hw hr hl ho hs h1 h2 hc
  go_enter Try.func3, Try.ntmps3
  go_wp2_with (first | (go_at_call 8; refine (examples_true W HW.out).mono ?_; rintro e w1 ⟨rfl, hb⟩; have HB1 := Aside0.mk hb; clear hb) | (go_at_call 9; refine (store_Name s _ (HW.out.on HB1.out) HS.out).mono ?_; rintro e w2 ⟨rfl, hb⟩; have HB2 := Aside0.mk (below_step HB1.out hb); clear hb) | (go_at_call 10; refine (weathercockref05_Name.calls K1 s _ _ H1.out).mono ?_; rintro e w3 ⟨rfl, hb⟩; have HB3 := Aside0.mk (below_step HB2.out hb); clear hb) | (go_at_call 11; refine (store_Right A c l _ (Kd.C_below HR.out HB3.out) (HW.out.on HB3.out) HL.out HO.out).mono ?_; rintro e w4 ⟨rfl, hb⟩; have HB4 := Aside0.mk (below_step HB3.out hb); clear hb) | (go_at_call 12; refine (weathercockref05_Right.calls K2 A c l _ _ (Kd.C_below HR.out HB4.out) HC.out H2.out).mono ?_; rintro e w5 ⟨rfl, hb⟩; have HB5 := Aside0.mk (below_step HB4.out hb); clear hb))
  go_ret
  exact ⟨by simp, HB5.out⟩
def sz36 (y : S36) : Prop := ((Lit.int .i64 y.f0).wf = true) ∧ (((Lit.int .i64 y.f1).wf = true) ∧ (y.f2.size ≤ 140737488351232))
def sz38 (y : S38) : Prop := (y.f0.size ≤ 140737488351232) ∧ ((Lit.int .i64 y.f1).wf = true)
def szL {α : Type} (B : Nat) (ok : α → Prop) (l : List α) : Prop := (∀ y ∈ l, ok y) ∧ l.length * B ≤ 140737488351232 ∧ l.length ≤ maxLen
def sz33 (y : S33) : Prop := (y.f0.size ≤ 140737488351232) ∧ (szL 24 sz38 y.f1 ∧ szL 24 (szL 32 sz36) y.f2)
theorem sz33_ok {t : S33} (h : sz33 t) : okT t := by
  obtain ⟨h0, ⟨h1, h2, h3⟩, h4, h5, h6⟩ := h
  unfold okT maxLen at *
  refine ⟨by omega, by omega, by omega, fun x hx => ?_, fun r hr => ?_⟩
  · have := (h1 x hx).1
    omega
  · have := (h4 r hr).2.1
    omega
theorem names_row (W : World) (hw : ShB W) (s : ByteArray) (A : Option Addr) (c : Nat) (l : List S33) (hs : s.size ≤ 140737488351232) (hr : Kd.C k33 W A l.length l) (hc : l.length ≤ c) (hl : szL 64 sz33 l) :
    Calls Try.prog 3 #[.string s, .slice A l.length c] W fun e w' => e = .returned (.bool true) ∧ Below W.heap.size W w' := by
  obtain ⟨h1, h2, h3⟩ := hl
  exact names_true W s A c l hw (by unfold maxLen; omega) hr hc (by omega) (fun t ht => sz33_ok (h1 t ht))

end Go.Proofs.Ytkogfjphpklioaa.QStoreNames
