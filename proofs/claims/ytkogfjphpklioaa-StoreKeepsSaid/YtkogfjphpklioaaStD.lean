import Derived.Test.YtkogfjphpklioaaStC
/- Store: walks by hand; the conditions stand in each theorem. -/
namespace Go.Proofs.Ytkogfjphpklioaa.QStoreNames
open Go.RowKit Go.Proofs.YtkogfjphpklioaaW.PrintWords Go.Proofs.YtkogfjphpklioaaW.PrintLast Go.Proofs.YtkogfjphpklioaaW.PrintMore
attribute [local go_sem] max2_int min2_int max_two min_two max_three min_three max_four min_four
set_option linter.unusedVariables false
set_option linter.unusedSimpArgs false
def okT (t : S33) : Prop := t.f0.size ≤ maxLen ∧ t.f1.length ≤ 4611686018427387904 ∧ t.f2.length ≤ 4611686018427387904 ∧ (∀ x ∈ t.f1, x.f0.size ≤ maxLen) ∧ (∀ r ∈ t.f2, r.length ≤ 4611686018427387904)
def fI (p : S33 → Bool) (l : List S33) : Int := match l.findIdx? p with | some i => (i : Int) | none => -1
theorem fI_at {p : S33 → Bool} {l : List S33} (k : Nat) (h : k < l.length) (ha : (l.take k).all (fun t => !p t) = true) (hp : p l[k] = true) : fI p l = (k : Int) := by
  have : l.findIdx? p = some k := by
    rw [List.findIdx?_eq_some_iff_getElem]
    refine ⟨h, hp, fun j hj => ?_⟩
    have h1 := List.all_eq_true.1 ha (l[j]'(by omega)) (List.mem_iff_getElem.2 ⟨j, by rw [List.length_take]; omega, by rw [List.getElem_take]⟩)
    cases hq : p l[j] with
    | false => simp
    | true => rw [hq] at h1; cases h1
  unfold fI
  rw [this]
theorem fI_no {p : S33 → Bool} {l : List S33} (ha : l.all (fun t => !p t) = true) : fI p l = -1 := by
  have : l.findIdx? p = none := by
    rw [List.findIdx?_eq_none_iff]
    intro x hx
    have h1 := List.all_eq_true.1 ha x hx
    cases hq : p x with
    | false => rfl
    | true => rw [hq] at h1; cases h1
  unfold fI
  rw [this]
theorem fI_any (p : S33 → Bool) (l : List S33) : decide (0 ≤ fI p l) = l.any p := by
  cases ha : l.any p with
  | false =>
    rw [fI_no (by
      rw [List.all_eq_true]
      intro x hx
      have := List.any_eq_false.1 ha x hx
      simpa using this)]
    rfl
  | true =>
    obtain ⟨x, hx, hp⟩ := List.any_eq_true.1 ha
    unfold fI
    cases hf : l.findIdx? p with
    | none => rw [List.findIdx?_eq_none_iff] at hf; have := hf x hx; rw [hp] at this; cases this
    | some i => simp
theorem clo28 (t : S33) (A1 : Option Addr) (c1 : Nat) (A2 : Option Addr) (c2 : Nat) (w : World) (h1 : Kd.C k38 w A1 t.f1.length t.f1) (hc1 : t.f1.length ≤ c1) (h2 : (Kd.slice 36 k36).C w A2 t.f2.length t.f2) (hc2 : t.f2.length ≤ c2) (hw : ShB w) (ho : okT t) :
    Calls Try.prog 28 #[.agg #[.string t.f0, .slice A1 t.f1.length c1, .slice A2 t.f2.length c2]] w fun e w' => e = .returned (.bool (!tableB t)) ∧ Below w.heap.size w w' := by
  have H1 := Aside0.mk h1
  have H2 := Aside0.mk h2
  have HW := Aside0.mk hw
  have HO := Aside0.mk ho
  have HB0 : Aside0 (Below w.heap.size w (w.alloc (.cells #[.string t.f0, .slice A1 t.f1.length c1, .slice A2 t.f2.length c2] 33))) := ⟨below_alloc (Below.refl _ _) _⟩
  clear h1 h2 hw ho
  go_enter Try.func28, Try.ntmps28
  go_wp2_with (go_at_call 29; refine (store_table t A1 c1 A2 c2 _ (Kd.C_below H1.out HB0.out) hc1 (Kd.C_below H2.out HB0.out) hc2 (HW.out.on HB0.out) HO.out.2.1 HO.out.2.2.1 HO.out.2.2.2.1 HO.out.2.2.2.2).mono ?_; rintro e w1 ⟨rfl, hb⟩; have HB1 := Aside0.mk (below_step HB0.out hb); clear hb)
  go_ret
  exact ⟨rfl, HB1.out⟩
set_option maxHeartbeats 8000000 in
theorem index33 (A : Option Addr) (c : Nat) (l : List S33) (w : World) (hr : Kd.C k33 w A l.length l) (hw : ShB w) (hl : l.length ≤ 4611686018427387904) (ho : ∀ t ∈ l, okT t) :
    Calls Try.prog 33 #[.slice A l.length c, .func (.func 28) #[] #[]] w fun e w' => e = .returned (.int .i64 (fI (fun t => !tableB t) l)) ∧ Below w.heap.size w w' := by
  have HR := Aside0.mk hr
  have HO := Aside0.mk ho
  have HW := Aside0.mk hw
  clear hr ho hw
  go_enter Try.func33, Try.ntmps33
  go_wp2
  go_loopw [8] (fun s8 wr => ∃ k : Nat, k ≤ l.length ∧ s8 = .int .i64 k ∧ Aside0 ((l.take k).all (fun t => !!tableB t) = true) ∧ Aside0 (Below w.heap.size w wr)) (fun s8 _ => l.length - (intOf s8).toNat)
  case atStart => exact ⟨0, Nat.zero_le _, rfl, ⟨by rfl⟩, ⟨Below.refl _ _⟩⟩
  case round =>
    obtain ⟨k, hk, rfl, HK, HB⟩ := hrel
    by_cases hlt : k < l.length
    · obtain ⟨ad, A1, c1, A2, c2, e, hx0, hx1, hx2, hc1, hC1, hc2, hC2⟩ := at33 (Kd.C_below HR.out HB.out) k hlt
      cases e
      have HC1 := Aside0.mk hC1
      have HC2 := Aside0.mk hC2
      have HLC := Aside0.mk (And.intro hc1 hc2)
      have HOT := Aside0.mk (HO.out _ (List.getElem_mem hlt))
      have HT := Aside0.mk (List.take_succ_eq_append_getElem hlt)
      have HF : Aside0 ((!tableB l[k]) = true → fI (fun t => !tableB t) l = (k : Int)) := ⟨fun h => fI_at k hlt HK.out h⟩
      clear hC1 hC2 hc1 hc2
      generalize l[k] = t at *
      cases htb : tableB t with
      | false =>
        have HU := Aside0.mk (HF.out (by rw [htb]; rfl))
        have HTB := Aside0.mk htb
        clear HF htb
        go_wp2_with fail
        refine (clo28 t A1 c1 A2 c2 _ HC1.out HLC.out.1 HC2.out HLC.out.2 (HW.out.on HB.out) HOT.out).mono ?_
        rw [HTB.out]
        rintro e w1 ⟨rfl, hb⟩
        have HB1 := Aside0.mk (below_step HB.out hb)
        clear hb
        go_wp2
        go_ret
        exact ⟨by rw [HU.out]; rfl, HB1.out⟩
      | true =>
        have HTB := Aside0.mk htb
        clear HF htb
        go_wp2_with fail
        refine (clo28 t A1 c1 A2 c2 _ HC1.out HLC.out.1 HC2.out HLC.out.2 (HW.out.on HB.out) HOT.out).mono ?_
        rw [HTB.out]
        rintro e w1 ⟨rfl, hb⟩
        have HB1 := Aside0.mk (below_step HB.out hb)
        clear hb
        go_wp2
        go_roundw
        case rel => exact ⟨k + 1, by omega, by go_num, ⟨by rw [HT.out, List.all_append, HK.out]; simp [HTB.out]⟩, HB1⟩
        case measure => simp [intOf]; omega
    · have HU : Aside0 (fI (fun t => !tableB t) l = -1) := ⟨fI_no (all_take HK.out (by omega))⟩
      go_wp2
      go_ret
      exact ⟨by rw [HU.out]; rfl, HB.out⟩
theorem contains27 (A : Option Addr) (c : Nat) (l : List S33) (w : World) (hr : Kd.C k33 w A l.length l) (hw : ShB w) (hl : l.length ≤ 4611686018427387904) (ho : ∀ t ∈ l, okT t) :
    Calls Try.prog 27 #[.slice A l.length c, .func (.func 28) #[] #[]] w fun e w' => e = .returned (.bool (l.any fun t => !tableB t)) ∧ Below w.heap.size w w' := by
  have HI := Aside0.mk (index33 A c l w hr hw hl ho)
  have HA := Aside0.mk (fI_any (fun t => !tableB t) l)
  clear hr hw ho
  generalize fI (fun t => !tableB t) l = z at *
  generalize (l.any fun t => !tableB t) = b at *
  go_enter Try.func27, Try.ntmps27
  go_wp2_with (go_at_call 33; refine HI.out.mono ?_; rintro e w1 ⟨rfl, hb⟩; have HB := Aside0.mk hb; clear hb)
  go_ret
  exact ⟨by rw [← HA.out]; rfl, HB.out⟩
def rightB (l : List S33) : Bool := decide (l.length ≤ 8) && unlikeB (nms33 l) && l.all tableB
theorem right_a {l : List S33} (h : ¬ l.length ≤ 8) : rightB l = false := by unfold rightB; rw [decide_eq_false h]; rfl
theorem right_b {l : List S33} (h : unlikeB (nms33 l) = false) : rightB l = false := by unfold rightB; rw [h]; simp
theorem right_c {l : List S33} (h : l.length ≤ 8) (hu : unlikeB (nms33 l) = true) : rightB l = !(l.any fun t => !tableB t) := by
  unfold rightB
  rw [decide_eq_true h, hu, List.any_eq_not_all_not]
  simp
set_option maxHeartbeats 4000000 in
theorem store_Right (A : Option Addr) (c : Nat) (l : List S33) (w : World) (hr : Kd.C k33 w A l.length l) (hw : ShB w) (hl : l.length ≤ 4611686018427387904) (ho : ∀ t ∈ l, okT t) :
    Calls Try.prog 11 #[.slice A l.length c] w fun e w' => e = .returned (.bool (rightB l)) ∧ Below w.heap.size w w' := by
  by_cases h8 : l.length ≤ 8
  · have HU := Aside0.mk (unlike25 A c l w hr hw hl (fun x hx => (ho x hx).1))
    cases hu : unlikeB (nms33 l) with
    | false =>
      have HRB := Aside0.mk (right_b hu)
      rw [hu] at HU
      clear hr hw ho hu
      go_enter Try.func11, Try.ntmps11
      go_wp2_with (go_at_call 25; refine HU.out.mono ?_; rintro e w1 ⟨rfl, hb⟩; have HB := Aside0.mk hb; clear hb)
      go_ret
      exact ⟨by rw [HRB.out]; rfl, HB.out⟩
    | true =>
      have HRB := Aside0.mk (right_c h8 hu)
      rw [hu] at HU
      have HR := Aside0.mk hr
      have HW := Aside0.mk hw
      have HO := Aside0.mk ho
      clear hr hw ho hu
      go_enter Try.func11, Try.ntmps11
      go_wp2_with (first | (go_at_call 25; refine HU.out.mono ?_; rintro e w1 ⟨rfl, hb⟩; have HB := Aside0.mk hb; clear hb) | (go_at_call 27; refine (contains27 A c l _ (Kd.C_below HR.out HB.out) (HW.out.on HB.out) hl HO.out).mono ?_; rintro e w2 ⟨rfl, hb⟩; have HB2 := Aside0.mk (below_step HB.out hb); clear hb))
      go_ret
      exact ⟨by rw [HRB.out]; rfl, HB2.out⟩
  · have HRB := Aside0.mk (right_a h8)
    clear hr hw ho
    go_enter Try.func11, Try.ntmps11
    go_wp2
    go_ret
    exact ⟨by rw [HRB.out]; rfl, Below.refl _ _⟩

end Go.Proofs.Ytkogfjphpklioaa.QStoreNames
