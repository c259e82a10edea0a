import Derived.Test.YtkogfjphpklioaaStA
import Derived.Maps.OwnSet
import Derived.Maps.Views
/- Store: walks by hand; the conditions stand in each theorem. -/
namespace Go.Proofs.Ytkogfjphpklioaa.QStoreNames
open Go.RowKit Go.Proofs.YtkogfjphpklioaaW.PrintWords Go.Proofs.YtkogfjphpklioaaW.PrintLast Go.Proofs.YtkogfjphpklioaaW.PrintMore
attribute [local go_sem] max2_int min2_int max_two min_two max_three min_three max_four min_four
set_option linter.unusedVariables false
set_option linter.unusedSimpArgs false
open Go.Maps
/- A map of texts to truths that tells who has been there. -/
def SetAt (w : World) (B n : Nat) (f : ByteArray → Bool) : Prop :=
  ∃ D : DataW Unit, w.ownsMap Try.prog 9 (plainElem Try.prog 4) B n D ∧ ∀ s : ByteArray, D.atKey (.string s.data.toList) (.lit (.bool false)) = .lit (.bool (f s))
theorem map_law : Go.Maps.Keyed Try.prog 9 := Go.Maps.string_keyed Try.underlying9
theorem zero4 (w : World) : (zeroValue 4).run Try.prog w = .ok (.bool false) w := by kernel_rfl
theorem set_new (w : World) : SetAt (w.alloc (.map #[] 0)) w.heap.size 0 (fun _ => false) :=
  ⟨_, World.ownsMap_made w Try.prog 9 _, fun s => rfl⟩
theorem set_far {w w2 : World} {B n : Nat} {f : ByteArray → Bool} (h : SetAt w B n f) (hb : w2.heap[B]? = w.heap[B]?) : SetAt w2 B n f := by
  obtain ⟨D, ⟨es, clock, h1, h2⟩, h3⟩ := h
  exact ⟨D, ⟨es, clock, hb.trans h1, h2⟩, h3⟩
theorem set_lt {w : World} {B n : Nat} {f : ByteArray → Bool} (h : SetAt w B n f) : B < w.heap.size := by
  obtain ⟨D, ho, _⟩ := h
  exact ho.lt
theorem set_below {w w2 : World} {B n : Nat} {f : ByteArray → Bool} (h : SetAt w B n f) (hb : Below w.heap.size w w2) : SetAt w2 B n f := set_far h (hb.block B (set_lt h))
theorem plain_bool_inv {v : Value} {z : DataW Unit × List MemPlace} (h : plainElem Try.prog 4 v = some z) : ∃ b, v = .bool b ∧ z = (.lit (.bool b), []) := by
  cases v <;> simp [plainElem, Try.underlying4] at h ⊢
  exact h.symm
theorem set_at {w : World} {B n : Nat} {f : ByteArray → Bool} (h : SetAt w B n f) (s : ByteArray) (hs : s.size ≤ maxLen) :
    (Instr.lookup 76 (.map (some B)) (.string s) false).run Try.prog w = .ok (.bool (f s)) w := by
  obtain ⟨D, ho, hf⟩ := h
  obtain ⟨v, ps, hr, hv⟩ := ho.lookup map_law Try.underlying76 (zero4 w) (plainElem_bool Try.underlying4 false) (WideMaps.keyOf_string_mk (P := Try.prog) Try.underlying9 hs)
  obtain ⟨b, rfl, hz⟩ := plain_bool_inv hv
  rw [hf s] at hz
  have := (Prod.mk.inj hz).1
  simp only [DataW.lit.injEq, Lit.bool.injEq] at this
  rw [hr, this]
theorem str_ne {s t : ByteArray} (h : ¬ t.data.toList = s.data.toList) : (Lit.string t.data.toList) ≠ Lit.string s.data.toList := fun e => h (by injection e)
theorem set_put {w : World} {B n : Nat} {f : ByteArray → Bool} (h : SetAt w B n f) (hn : n < maxLen) (s : ByteArray) (hs : s.size ≤ maxLen) :
    ∃ w', (Instr.mapUpdate 76 (.map (some B)) (.string s) (.bool true)).run Try.prog w = .ok () w' ∧ SetAt w' B (n + 1) (fun t => decide (t = s) || f t) ∧ w.grownBy w' (some B) := by
  obtain ⟨D, ho, hf⟩ := h
  have hkey := WideMaps.keyOf_string_mk (P := Try.prog) Try.underlying9 hs
  obtain ⟨w', hr, hown, hg⟩ := ho.update map_law Try.underlying76 hn hkey (plainElem_bool Try.underlying4 true)
  refine ⟨w', hr, ⟨_, hown, fun t => ?_⟩, hg⟩
  by_cases e : t.data.toList = s.data.toList
  · have e2 : t = s := by
      apply ByteArray.ext
      exact Array.toList_inj.1 e
    subst e2
    rw [atKey_put_same (k := .string t.data.toList) ho.isMap trivial]
    simp
  · rw [atKey_put_other (str_ne e), hf t]
    have e2 : ¬ t = s := fun h => e (by rw [h])
    simp [e2]
def inB (s : ByteArray) (l : List ByteArray) : Bool := l.any (fun t => decide (t = s))
theorem inB_iff (s : ByteArray) (l : List ByteArray) : inB s l = true ↔ s ∈ l := by
  unfold inB
  rw [List.any_eq_true]
  constructor
  · rintro ⟨t, ht, he⟩
    rw [← of_decide_eq_true he]; exact ht
  · intro h
    exact ⟨s, h, decide_eq_true rfl⟩
theorem inB_no {s : ByteArray} {l : List ByteArray} (h : ¬ s ∈ l) : inB s l = false := by
  cases e : inB s l with
  | false => rfl
  | true => exact absurd ((inB_iff s l).1 e) h
theorem inB_app (s x : ByteArray) (l : List ByteArray) : inB s (l ++ [x]) = (inB s l || decide (s = x)) := by
  unfold inB
  rw [List.any_append]
  congr 1
  simp [eq_comm]
def unlikeB (l : List ByteArray) : Bool := decide l.Nodup && l.all nameB
theorem unlike_false {l : List ByteArray} (k : Nat) (h : k < l.length) (hx : l[k] ∈ l.take k ∨ nameB l[k] = false) : unlikeB l = false := by
  unfold unlikeB
  rcases hx with hx | hx
  · rw [decide_eq_false]
    · rfl
    · intro hn
      obtain ⟨j, hj, he⟩ := List.mem_iff_getElem.1 hx
      rw [List.length_take] at hj
      rw [List.getElem_take] at he
      exact (List.pairwise_iff_getElem.1 hn) j k (by omega) h (by omega) he
  · rw [List.all_eq_false.2 ⟨_, List.getElem_mem h, by rw [hx]; decide⟩]
    simp
def nms38 (l : List S38) : List ByteArray := l.map (fun x => x.f0)
theorem nms38_len (l : List S38) : (nms38 l).length = l.length := List.length_map _
theorem nms38_get (l : List S38) (k : Nat) (h : k < (nms38 l).length) : (nms38 l)[k] = (l[k]'(by rw [nms38_len] at h; exact h)).f0 := List.getElem_map _
theorem clo43 (x : S38) (w : World) : Calls Try.prog 43 #[.agg #[.string x.f0, .int .i64 x.f1]] w fun e w' => e = .returned (.string x.f0) ∧ Below w.heap.size w w' := by
  go_enter Try.func43, Try.ntmps43
  go_wp2
  go_ret
  exact ⟨rfl, below_alloc (Below.refl _ _) _⟩
set_option maxHeartbeats 8000000 in
theorem unlike42 (A : Option Addr) (c : Nat) (l : List S38) (w : World) (hr : Kd.C k38 w A l.length l) (hw : ShB w) (hl : l.length ≤ 4611686018427387904) (hs : ∀ x ∈ l, x.f0.size ≤ maxLen) :
    Calls Try.prog 42 #[.slice A l.length c, .func (.func 43) #[] #[]] w fun e w' => e = .returned (.bool (unlikeB (nms38 l))) ∧ Below w.heap.size w w' := by
  have HR := Aside0.mk hr
  have HSZ := Aside0.mk hs
  have HS0 := Aside0.mk (set_new w)
  have HB0 := Aside0.mk (below_alloc (Below.refl w.heap.size w) (.map #[] 0))
  have HW := Aside0.mk hw
  have hmk : (Instr.makeMap 76 none).run Try.prog w = .ok (.map (some w.heap.size)) (w.alloc (.map #[] 0)) := rfl
  clear hr hs hw
  go_enter Try.func42, Try.ntmps42
  go_wp2
  generalize hB : w.heap.size = B at HS0 ⊢
  have HBE := Aside0.mk hB
  clear hB hmk
  generalize w.alloc (.map #[] 0) = w1 at *
  go_loopw [12] (fun s12 wr => ∃ k : Nat, k ≤ l.length ∧ s12 = .int .i64 k ∧ Aside0 (SetAt wr B k (fun s => inB s ((nms38 l).take k))) ∧ Aside0 (((nms38 l).take k).Nodup ∧ ((nms38 l).take k).all nameB = true) ∧ Aside0 (Below w.heap.size w wr)) (fun s12 _ => l.length - (intOf s12).toNat)
  case atStart => exact ⟨0, Nat.zero_le _, rfl, ⟨HS0.out⟩, ⟨by simp⟩, HB0⟩
  case round =>
    clear HS0 HB0
    obtain ⟨k, hk, rfl, HS, HN, HB⟩ := hrel
    by_cases hlt : k < l.length
    · obtain ⟨ad, e, hx0, hx1⟩ := at_T38 (Kd.C_below HR.out HB.out) (k : Int) (by omega) (by omega)
      cases e
      have e0 : rd_T38 l (k : Int) = l[k] := by unfold rd_T38; rw [Int.toNat_natCast, List.getD_eq_getElem?_getD, List.getElem?_eq_getElem hlt]; rfl
      rw [e0] at hx0 hx1
      rw [Int.toNat_natCast] at hx0 hx1
      clear e0
      have hxs : l[k].f0.size ≤ maxLen := HSZ.out _ (List.getElem_mem hlt)
      have hml : k < (nms38 l).length := by rw [nms38_len]; exact hlt
      have HT := Aside0.mk (List.take_succ_eq_append_getElem hml)
      have HKF : Aside0 (l[k].f0 ∈ (nms38 l).take k ∨ nameB l[k].f0 = false → unlikeB (nms38 l) = false) := ⟨fun h => unlike_false k hml (by rw [nms38_get]; exact h)⟩
      rw [nms38_get] at HT
      generalize hx : l[k] = x at *
      clear hx
      generalize (nms38 l).take k = pre at *
      go_wp2_with fail
      refine (clo43 x _).mono ?_
      rintro e w2 ⟨rfl, hb2⟩
      have HB2 : Aside0 (Below w.heap.size w w2) := ⟨below_step (below_alloc HB.out _) hb2⟩
      have HS2 : Aside0 (SetAt w2 B k (fun s => inB s pre)) := ⟨set_below (set_below HS.out (below_alloc (Below.refl _ _) _)) hb2⟩
      have HW2 : Aside0 (ShB w2) := ⟨HW.out.on HB2.out⟩
      have hlk := set_at HS2.out x.f0 hxs
      clear hb2 hx0 hx1 HB HS
      by_cases hin : x.f0 ∈ pre
      · rw [(inB_iff _ _).2 hin] at hlk
        have HU := Aside0.mk (HKF.out (.inl hin))
        clear HKF hin
        go_wp2
        go_ret
        exact ⟨by rw [HU.out]; rfl, HB2.out⟩
      · rw [inB_no hin] at hlk
        have HIN := Aside0.mk hin
        clear hin
        cases hnm : nameB x.f0 with
        | false =>
          have HU := Aside0.mk (HKF.out (.inr hnm))
          have HNM := Aside0.mk hnm
          clear HKF hnm
          go_wp2_with (go_at_call 9; refine (store_Name x.f0 _ HW2.out hxs).mono ?_; rw [HNM.out]; rintro e w3 ⟨rfl, hb3⟩; have HB3 := Aside0.mk (below_step HB2.out hb3); clear hb3)
          go_ret
          exact ⟨by rw [HU.out]; rfl, HB3.out⟩
        | true =>
          have HNM := Aside0.mk hnm
          clear HKF hnm
          have hkm : k < maxLen := by unfold maxLen; omega
          go_wp2_with (go_at_call 9; refine (store_Name x.f0 _ HW2.out hxs).mono ?_; rw [HNM.out]; rintro e w3 ⟨rfl, hb3⟩; have HB3 := Aside0.mk (below_step HB2.out hb3); obtain ⟨w4, hput, hs4, hg4⟩ := set_put (set_below HS2.out hb3) hkm x.f0 hxs; have HS4 := Aside0.mk hs4; have HG4 := Aside0.mk hg4; clear hb3 hs4 hg4)
          go_roundw
          case rel =>
            refine ⟨k + 1, by omega, by go_num, ⟨?_⟩, ⟨?_⟩, ⟨HB3.out.grown HG4.out HB3.out.size (fun q hq => by injection hq with hq; rw [← hq]; exact Nat.le_of_eq HBE.out)⟩⟩
            · have e : (fun s => inB s ((nms38 l).take (k + 1))) = (fun t => decide (t = x.f0) || inB t pre) := by
                funext t
                rw [HT.out, inB_app, Bool.or_comm]
              rw [e]
              exact HS4.out
            · rw [HT.out]
              refine ⟨List.nodup_append.2 ⟨HN.out.1, by simp, fun a ha b hb => by rw [List.mem_singleton.1 hb]; intro h; exact HIN.out (h ▸ ha)⟩, ?_⟩
              rw [List.all_append, HN.out.2]
              simp [HNM.out]
          case measure => simp [intOf]; omega
    · have hk2 : k = l.length := by omega
      have HU : Aside0 (unlikeB (nms38 l) = true) := ⟨by
        have h := HN.out
        rw [List.take_of_length_le (by rw [nms38_len]; omega)] at h
        unfold unlikeB
        rw [decide_eq_true h.1, h.2]
        rfl⟩
      clear hk2
      go_wp2
      go_ret
      exact ⟨by rw [HU.out]; rfl, HB.out⟩
def nms33 (l : List S33) : List ByteArray := l.map (fun x => x.f0)
theorem nms33_len (l : List S33) : (nms33 l).length = l.length := List.length_map _
theorem nms33_get (l : List S33) (k : Nat) (h : k < (nms33 l).length) : (nms33 l)[k] = (l[k]'(by rw [nms33_len] at h; exact h)).f0 := List.getElem_map _
theorem clo26 (x : S33) (v1 v2 : Value) (h1 : v1.oneCell' = true) (h2 : v2.oneCell' = true) (w : World) : Calls Try.prog 26 #[.agg #[.string x.f0, v1, v2]] w fun e w' => e = .returned (.string x.f0) ∧ Below w.heap.size w w' := by
  go_enter Try.func26, Try.ntmps26
  go_wp2
  go_ret
  exact ⟨rfl, below_alloc (Below.refl _ _) _⟩
set_option maxHeartbeats 8000000 in
theorem unlike25 (A : Option Addr) (c : Nat) (l : List S33) (w : World) (hr : Kd.C k33 w A l.length l) (hw : ShB w) (hl : l.length ≤ 4611686018427387904) (hs : ∀ x ∈ l, x.f0.size ≤ maxLen) :
    Calls Try.prog 25 #[.slice A l.length c, .func (.func 26) #[] #[]] w fun e w' => e = .returned (.bool (unlikeB (nms33 l))) ∧ Below w.heap.size w w' := by
  have HR := Aside0.mk hr
  have HSZ := Aside0.mk hs
  have HS0 := Aside0.mk (set_new w)
  have HB0 := Aside0.mk (below_alloc (Below.refl w.heap.size w) (.map #[] 0))
  have HW := Aside0.mk hw
  have hmk : (Instr.makeMap 76 none).run Try.prog w = .ok (.map (some w.heap.size)) (w.alloc (.map #[] 0)) := rfl
  clear hr hs hw
  go_enter Try.func25, Try.ntmps25
  go_wp2
  generalize hB : w.heap.size = B at HS0 ⊢
  have HBE := Aside0.mk hB
  clear hB hmk
  generalize w.alloc (.map #[] 0) = w1 at *
  go_loopw [12] (fun s12 wr => ∃ k : Nat, k ≤ l.length ∧ s12 = .int .i64 k ∧ Aside0 (SetAt wr B k (fun s => inB s ((nms33 l).take k))) ∧ Aside0 (((nms33 l).take k).Nodup ∧ ((nms33 l).take k).all nameB = true) ∧ Aside0 (Below w.heap.size w wr)) (fun s12 _ => l.length - (intOf s12).toNat)
  case atStart => exact ⟨0, Nat.zero_le _, rfl, ⟨HS0.out⟩, ⟨by simp⟩, HB0⟩
  case round =>
    clear HS0 HB0
    obtain ⟨k, hk, rfl, HS, HN, HB⟩ := hrel
    by_cases hlt : k < l.length
    · obtain ⟨ad, A1, c1, A2, c2, e, hx0, hx1, hx2, hx3, hx4, hx5, hx6⟩ := at_T33 (Kd.C_below HR.out HB.out) (k : Int) (by omega) (by omega)
      cases e
      have e0 : rd_T33 l (k : Int) = l[k] := by unfold rd_T33; rw [Int.toNat_natCast, List.getD_eq_getElem?_getD, List.getElem?_eq_getElem hlt]; rfl
      rw [e0] at hx0 hx1 hx2
      rw [Int.toNat_natCast] at hx0 hx1 hx2
      clear e0
      have hxs : l[k].f0.size ≤ maxLen := HSZ.out _ (List.getElem_mem hlt)
      have hml : k < (nms33 l).length := by rw [nms33_len]; exact hlt
      have HT := Aside0.mk (List.take_succ_eq_append_getElem hml)
      have HKF : Aside0 (l[k].f0 ∈ (nms33 l).take k ∨ nameB l[k].f0 = false → unlikeB (nms33 l) = false) := ⟨fun h => unlike_false k hml (by rw [nms33_get]; exact h)⟩
      rw [nms33_get] at HT
      generalize hx : l[k] = x at *
      clear hx
      generalize (nms33 l).take k = pre at *
      go_wp2_with fail
      refine (clo26 x _ _ rfl rfl _).mono ?_
      rintro e w2 ⟨rfl, hb2⟩
      have HB2 : Aside0 (Below w.heap.size w w2) := ⟨below_step (below_alloc HB.out _) hb2⟩
      have HS2 : Aside0 (SetAt w2 B k (fun s => inB s pre)) := ⟨set_below (set_below HS.out (below_alloc (Below.refl _ _) _)) hb2⟩
      have HW2 : Aside0 (ShB w2) := ⟨HW.out.on HB2.out⟩
      have hlk := set_at HS2.out x.f0 hxs
      clear hb2 hx0 hx1 hx2 HB HS
      by_cases hin : x.f0 ∈ pre
      · rw [(inB_iff _ _).2 hin] at hlk
        have HU := Aside0.mk (HKF.out (.inl hin))
        clear HKF hin
        go_wp2
        go_ret
        exact ⟨by rw [HU.out]; rfl, HB2.out⟩
      · rw [inB_no hin] at hlk
        have HIN := Aside0.mk hin
        clear hin
        cases hnm : nameB x.f0 with
        | false =>
          have HU := Aside0.mk (HKF.out (.inr hnm))
          have HNM := Aside0.mk hnm
          clear HKF hnm
          go_wp2_with (go_at_call 9; refine (store_Name x.f0 _ HW2.out hxs).mono ?_; rw [HNM.out]; rintro e w3 ⟨rfl, hb3⟩; have HB3 := Aside0.mk (below_step HB2.out hb3); clear hb3)
          go_ret
          exact ⟨by rw [HU.out]; rfl, HB3.out⟩
        | true =>
          have HNM := Aside0.mk hnm
          clear HKF hnm
          have hkm : k < maxLen := by unfold maxLen; omega
          go_wp2_with (go_at_call 9; refine (store_Name x.f0 _ HW2.out hxs).mono ?_; rw [HNM.out]; rintro e w3 ⟨rfl, hb3⟩; have HB3 := Aside0.mk (below_step HB2.out hb3); obtain ⟨w4, hput, hs4, hg4⟩ := set_put (set_below HS2.out hb3) hkm x.f0 hxs; have HS4 := Aside0.mk hs4; have HG4 := Aside0.mk hg4; clear hb3 hs4 hg4)
          go_roundw
          case rel =>
            refine ⟨k + 1, by omega, by go_num, ⟨?_⟩, ⟨?_⟩, ⟨HB3.out.grown HG4.out HB3.out.size (fun q hq => by injection hq with hq; rw [← hq]; exact Nat.le_of_eq HBE.out)⟩⟩
            · have e : (fun s => inB s ((nms33 l).take (k + 1))) = (fun t => decide (t = x.f0) || inB t pre) := by
                funext t
                rw [HT.out, inB_app, Bool.or_comm]
              rw [e]
              exact HS4.out
            · rw [HT.out]
              refine ⟨List.nodup_append.2 ⟨HN.out.1, by simp, fun a ha b hb => by rw [List.mem_singleton.1 hb]; intro h; exact HIN.out (h ▸ ha)⟩, ?_⟩
              rw [List.all_append, HN.out.2]
              simp [HNM.out]
          case measure => simp [intOf]; omega
    · have hk2 : k = l.length := by omega
      have HU : Aside0 (unlikeB (nms33 l) = true) := ⟨by
        have h := HN.out
        rw [List.take_of_length_le (by rw [nms33_len]; omega)] at h
        unfold unlikeB
        rw [decide_eq_true h.1, h.2]
        rfl⟩
      clear hk2
      go_wp2
      go_ret
      exact ⟨by rw [HU.out]; rfl, HB.out⟩

end Go.Proofs.Ytkogfjphpklioaa.QStoreNames
