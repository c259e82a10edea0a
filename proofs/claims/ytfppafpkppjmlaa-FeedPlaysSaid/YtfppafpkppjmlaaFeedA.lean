import Derived.Test.YtfppafpkppjmlaaQFeedPlaysx2
import Derived.Lib.SliceRun
import Derived.Maps.OwnSet
import Derived.WideKeyEntry
import Derived.Maps.Views
/- Feed: walks of the feed's functions, by hand; the conditions stand in each theorem. -/
namespace Go.Proofs.Ytfppafpkppjmlaa.QFeedPlays
open Go.RowKit Go.Proofs.YtfppafpkppjmlaaW.PrintWords Go.Proofs.YtfppafpkppjmlaaW.PrintLast Go.Proofs.YtfppafpkppjmlaaW.PrintMore
attribute [local go_sem] max2_int min2_int max_two min_two max_three min_three max_four min_four
set_option linter.unusedVariables false
set_option linter.unusedSimpArgs false
def strs (l : List ByteArray) : List Value := l.map Value.string
theorem feed_closure (W : World) (gk : Nat) (k x : ByteArray) (hk : W.cell? ⟨gk, 0, none⟩ = some (.string k)) :
    Calls Try.prog 22 #[.string x, .pointer (some ⟨gk, 0, none⟩)] W fun e w' => e = .returned (.bool (x.toList == k.toList)) ∧ w' = W := by
  go_enter Try.func22, Try.ntmps22
  go_wp2
  go_ret
  exact ⟨rfl, rfl⟩
def keyIs (k x : ByteArray) : Bool := x.toList == k.toList
def idxK (k : ByteArray) (l : List ByteArray) : Int := if l.any (keyIs k) = true then ((l.findIdx (keyIs k) : Nat) : Int) else -1
set_option maxHeartbeats 1000000 in
theorem feed_index (W : World) (gk : Nat) (k : ByteArray) (A : Option Addr) (c : Nat) (l : List ByteArray) (hk : W.cell? ⟨gk, 0, none⟩ = some (.string k)) (hl : l.length ≤ 4611686018427387904)
    (hc : ∀ j (h : j < l.length), ∃ ad, A = some ad ∧ W.cell? (ad.add j) = some (.string l[j])) :
    Calls Try.prog 24 #[.slice A l.length c, .func (.func 22) #[] #[.pointer (some ⟨gk, 0, none⟩)]] W fun e w' => e = .returned (.int .i64 (idxK k l)) ∧ w' = W := by
  have HC := Aside0.mk hc
  have HK := Aside0.mk hk
  clear hc hk
  go_enter Try.func24, Try.ntmps24
  go_wp2
  go_loopw [8] (fun i wr => ∃ m : Nat, m ≤ l.length ∧ i = .int .i64 m ∧ Aside0 ((l.take m).any (keyIs k) = false) ∧ wr = W) (fun i _ => l.length - (intOf i).toNat)
  case atStart => exact ⟨0, Nat.zero_le _, rfl, ⟨rfl⟩, rfl⟩
  case round =>
    obtain ⟨m, hm, rfl, HA, rfl⟩ := hrel
    by_cases hlt : m < l.length
    · obtain ⟨ad, e, hx⟩ := HC.out m hlt
      cases e
      have HT := Aside0.mk (List.take_succ_eq_append_getElem hlt)
      have hd : keyIs k l[m] = true ∨ keyIs k l[m] = false := by cases keyIs k l[m] <;> simp
      have hle := List.getElem_mem hlt
      have HF : Aside0 (keyIs k l[m] = true → idxK k l = m) := ⟨fun h => by
        unfold idxK
        rw [if_pos (List.any_eq_true.2 ⟨_, hle, h⟩)]
        congr 1
        rw [List.findIdx_eq hlt]
        refine ⟨h, fun j hj => ?_⟩
        have := List.any_eq_false.1 HA.out (l[j]'(by omega)) (by rw [List.mem_take_iff_getElem]; exact ⟨j, by omega, rfl⟩)
        simpa using this⟩
      generalize hv : l[m] = x at *
      rcases hd with hp | hp
      all_goals
        have HP := Aside0.mk hp
        go_wp2_with (go_at_call 22; refine (feed_closure wr gk k x HK.out).mono ?_; rw [show (x.toList == k.toList) = keyIs k x from rfl, HP.out]; rintro e w1 ⟨rfl, rfl⟩)
      · go_ret
        exact ⟨by rw [HF.out HP.out]; rfl, rfl⟩
      · go_roundw
        case rel => exact ⟨m + 1, by omega, by go_num, ⟨by rw [HT.out, List.any_append, HA.out]; simp [HP.out]⟩, trivial⟩
        case measure => simp [intOf]; omega
    · have hk' : m = l.length := by omega
      have HE := Aside0.mk (show idxK k l = -1 by
        unfold idxK
        have := HA.out
        rw [hk', List.take_length] at this
        rw [this]
        rfl)
      have hle : l.length ≤ m := by omega
      clear hk'
      go_wp2
      go_ret
      exact ⟨by rw [HE.out]; rfl, rfl⟩
/- What a step on the keys' block alone leaves. -/
structure KeyStep (W w1 : World) (blk off n N : Nat) (row : Nat → ByteArray) : Prop where
  os : w1.os = W.os
  tape : w1.tape = W.tape
  output : w1.output = W.output
  size : w1.heap.size = W.heap.size
  far : ∀ j, j ≠ blk → w1.heap[j]? = W.heap[j]?
  blk : ∃ cur, w1.heap[blk]? = some (.cells cur 9 (0, 0)) ∧ cur.size = N ∧ ∀ p, p < n → cur[off + p]? = some (.string (row p))
theorem KeyStep.cell {W w1 : World} {blk off n N : Nat} {row : Nat → ByteArray} (h : KeyStep W w1 blk off n N row) (p : Nat) (hp : p < n) : w1.cell? ⟨blk, off + p, none⟩ = some (.string (row p)) ∧ w1.frozen? ⟨blk, off + p, none⟩ = false := by
  obtain ⟨cur, hc, _, hr⟩ := h.blk
  exact ⟨(blk_cell hc _).trans (hr p hp), blk_frozen hc _⟩
theorem KeyStep.put {W w1 : World} {blk off n N : Nat} {row : Nat → ByteArray} (h : KeyStep W w1 blk off n N row) (i : Nat) (hi : i < n) (hN : off + n ≤ N) (x : ByteArray) (row' : Nat → ByteArray) (hr : ∀ p, p < n → row' p = if p = i then x else row p) :
    KeyStep W (w1.setCell ⟨blk, off + i, none⟩ (.string x)) blk off n N row' := by
  obtain ⟨cur, hc, hs, hcur⟩ := h.blk
  refine ⟨h.os, h.tape, h.output, by simpa using h.size, fun j hj => (Below.heap_setCell _ _ _ _ hj).trans (h.far j hj), _, blk_put hc (off + i) (.string x) rfl, by simpa using hs, fun p hp => ?_⟩
  rw [hr p hp, Array.getElem?_setIfInBounds]
  by_cases e : p = i
  · subst e
    rw [if_pos rfl, if_pos (by omega), if_pos rfl]
  · rw [if_neg (by omega), if_neg e]
    exact hcur p hp
def rowD (l : List ByteArray) (i0 j p : Nat) : ByteArray := if i0 ≤ p ∧ p + 1 < j then l.getD (p + 1) ⟨#[]⟩ else l.getD p ⟨#[]⟩
set_option maxHeartbeats 2000000 in
theorem feed_delete (W : World) (gk blk off cap N : Nat) (k : ByteArray) (l : List ByteArray) (i0 : Nat) (hi0 : i0 < l.length) (hl : l.length ≤ 1000000) (hcap : l.length ≤ cap) (hN : off + l.length ≤ N) (hk : W.cell? ⟨gk, 0, none⟩ = some (.string k)) (hgk : gk ≠ blk)
    (hidx : idxK k l = i0) (hone : ∀ j (h : j < l.length), j ≠ i0 → keyIs k l[j] = false)
    (hrow : KeyStep W W blk off l.length N (fun p => l.getD p ⟨#[]⟩)) :
    Calls Try.prog 21 #[.slice (some ⟨blk, off, none⟩) l.length cap, .func (.func 22) #[] #[.pointer (some ⟨gk, 0, none⟩)]] W fun e w' => e = .returned (.slice (some ⟨blk, off, none⟩) (l.length - 1) cap) ∧ KeyStep W w' blk off (l.length - 1) N (fun p => (l.eraseIdx i0).getD p ⟨#[]⟩) := by
  have HK := Aside0.mk hk
  have HR := Aside0.mk hrow
  have HO := Aside0.mk hone
  have HI := Aside0.mk hidx
  clear hk hrow hone hidx
  have HX : Aside0 (∀ j (h : j < l.length), ∃ ad : Addr, some (⟨blk, off, none⟩ : Addr) = some ad ∧ W.cell? (ad.add j) = some (.string l[j])) := ⟨fun j h => by
    have h1 : W.cell? ⟨blk, off + j, none⟩ = some (.string l[j]) := by
      rw [(HR.out.cell j h).1]
      simp [List.getD_eq_getElem?_getD, List.getElem?_eq_getElem h]
    refine ⟨_, rfl, ?_⟩
    unfold Addr.add
    by_cases z : j = 0
    · subst z; simpa using h1
    · simpa [z] using h1⟩
  have hne1 : ((i0 : Int) == -1) = false := beq_eq_false_iff_ne.2 (by omega)
  go_enter Try.func21, Try.ntmps21
  go_wp2_with (go_at_call 24; go_loud (refine (feed_index W gk k _ _ l HK.out (by omega) HX.out).mono ?_); rw [HI.out]; rintro e W ⟨rfl, rfl⟩)
  go_loopw [5, 6] (fun s5 s6 wr => ∃ i : Nat, i0 ≤ i ∧ i + 1 ≤ l.length ∧ s5 = .int .i64 (i : Int) ∧ s6 = .int .i64 ((i : Int) + 1) ∧ Aside0 (KeyStep W wr blk off l.length N (rowD l i0 (i + 1)))) (fun _ s6 _ => l.length - (intOf s6).toNat)
  case atStart => refine ⟨i0, by omega, by omega, by first | trivial | rfl | go_num, by first | trivial | rfl | go_num, ⟨by
    have e : rowD l i0 (i0 + 1) = fun p => l.getD p ⟨#[]⟩ := by
      funext p
      unfold rowD
      rw [if_neg (by omega)]
    rw [e]
    exact HR.out⟩⟩
  case round =>
    obtain ⟨i, hj0, hj1, rfl, rfl, HS⟩ := hrel
    have hkk : wr.cell? ⟨gk, 0, none⟩ = some (.string k) := (World.cell?_of_block (w := W) (HS.out.far gk hgk)).trans HK.out
    have HKK := Aside0.mk hkk
    have hy := HS.out.cell i (by omega)
    obtain ⟨hy1, hy2⟩ := hy
    by_cases hlt : i + 1 < l.length
    · have hx : wr.cell? ⟨blk, off + (i + 1), none⟩ = some (.string l[i + 1]) := (HS.out.cell (i + 1) hlt).1.trans (by
        unfold rowD
        rw [if_neg (by omega)]
        simp [List.getD_eq_getElem?_getD, List.getElem?_eq_getElem hlt])
      have hp := HO.out (i + 1) hlt (by omega)
      have HP := Aside0.mk hp
      have HPut : Aside0 (KeyStep W (wr.setCell ⟨blk, off + i, none⟩ (.string l[i + 1])) blk off l.length N (rowD l i0 (i + 1 + 1))) := ⟨HS.out.put i (by omega) hN l[i + 1] _ (fun p hp => by
        unfold rowD
        by_cases e : p = i
        · subst e
          rw [if_pos (by omega), if_pos rfl]
          simp [List.getD_eq_getElem?_getD, List.getElem?_eq_getElem hlt]
        · rw [if_neg e]
          by_cases c : i0 ≤ p ∧ p + 1 < i + 1
          · rw [if_pos c, if_pos (by omega)]
          · rw [if_neg c, if_neg (by omega)])⟩
      generalize hv : l[i + 1] = x at *
      clear hp hkk
      go_wp2_with (go_at_call 22; go_loud (refine (feed_closure wr gk k x HKK.out).mono ?_); rw [show (x.toList == k.toList) = keyIs k x from rfl, HP.out]; rintro e w1 ⟨rfl, rfl⟩)
      go_roundw
      case rel => exact ⟨i + 1, by omega, by omega, by go_num, by go_num, HPut⟩
      case measure => simp [intOf]; omega
    · have hi : i + 1 = l.length := by omega
      have hcl : ∀ ty, (Builtin.clear_ #[42] ty #[.slice (some ⟨blk, off + i, none⟩) (l.length - i) (cap - i)]).run Try.prog wr = .ok (.tuple #[]) (wr.setCells blk (off + i) (List.replicate (l.length - i) (.string ⟨#[]⟩))) := fun ty =>
        Lib.run_clear_slice wr 42 9 ty (.string ⟨#[]⟩) Try.underlying42 Try.zeroValue9 rfl rfl blk (off + i) _ _ (by omega) (fun t ht => by rw [show t = 0 by omega, Nat.add_zero, hy1]; rfl) (fun t ht => by rw [show t = 0 by omega, Nat.add_zero, hy2])
      have HI1 := Aside0.mk hi
      have hle : l.length ≤ i + 1 := by omega
      have hil : i ≤ l.length := by omega
      have hic : i ≤ cap := by omega
      clear hi hkk hlt
      go_wp2
      go_ret
      rw [show l.length - i = 1 by have := HI1.out; omega]
      refine ⟨by rw [show l.length - 1 = i by have := HI1.out; omega]; rfl, ?_⟩
      have h2 := HS.out.put i (by omega) hN ⟨#[]⟩ (fun p => if p = i then ⟨#[]⟩ else rowD l i0 (i + 1) p) (fun p _ => rfl)
      refine ⟨h2.os, h2.tape, h2.output, h2.size, h2.far, ?_⟩
      obtain ⟨cur, c1, c2, c3⟩ := h2.blk
      refine ⟨cur, c1, c2, fun p hp => ?_⟩
      rw [c3 p (by omega)]
      have := HI1.out
      unfold rowD
      rw [if_neg (show ¬ p = i by omega), List.getD_eq_getElem?_getD, List.getD_eq_getElem?_getD, List.getD_eq_getElem?_getD, List.getElem?_eraseIdx]
      by_cases c : p < i0
      · rw [if_neg (by omega), if_pos c]
      · rw [if_pos (by omega), if_neg c]
open Go.Maps
/- What is in the map: a function of texts. -/
def MapAt (w : World) (B n : Nat) (f : ByteArray → Option Int) : Prop :=
  ∃ D : DataW Unit, w.ownsMap Try.prog 9 (plainElem Try.prog 3) B n D ∧ ∀ s : ByteArray, Maps.has D (.string s.data.toList) = (f s).isSome ∧ D.atKey (.string s.data.toList) (.lit (.int .i64 0)) = .lit (.int .i64 ((f s).getD 0))
theorem map_law : Go.Maps.Keyed Try.prog 9 := Go.Maps.string_keyed Try.underlying9
theorem zero3 (w : World) : (zeroValue 3).run Try.prog w = .ok (.int .i64 0) w := by kernel_rfl
theorem map_new (w : World) : MapAt (w.alloc (.map #[] 0)) w.heap.size 0 (fun _ => none) :=
  ⟨_, World.ownsMap_made w Try.prog 9 _, fun s => ⟨rfl, rfl⟩⟩
theorem map_far {w w2 : World} {B n : Nat} {f : ByteArray → Option Int} (h : MapAt w B n f) (hb : w2.heap[B]? = w.heap[B]?) : MapAt w2 B n f := by
  obtain ⟨D, ⟨es, clock, h1, h2⟩, h3⟩ := h
  exact ⟨D, ⟨es, clock, hb.trans h1, h2⟩, h3⟩
theorem map_ok {w : World} {B n : Nat} {f : ByteArray → Option Int} (h : MapAt w B n f) (s : ByteArray) (hs : s.size ≤ maxLen) :
    (Instr.lookup 44 (.map (some B)) (.string s) true).run Try.prog w = .ok (.tuple #[.int .i64 ((f s).getD 0), .bool (f s).isSome]) w := by
  obtain ⟨D, ho, hf⟩ := h
  obtain ⟨v, ps, hr, hv⟩ := ho.look_ok map_law Try.underlying44 (zero3 w) (plainElem_int Try.underlying3 (by decide)) (WideMaps.keyOf_string_mk (P := Try.prog) Try.underlying9 hs)
  rw [(hf s).2] at hv
  obtain ⟨a, rfl, hz, _⟩ := plainElem_int_inv Try.underlying3 hv
  have := (Prod.mk.inj hz).1
  simp only [DataW.lit.injEq, Lit.int.injEq, true_and] at this
  rw [hr, (hf s).1, this]
theorem map_at {w : World} {B n : Nat} {f : ByteArray → Option Int} (h : MapAt w B n f) (s : ByteArray) (hs : s.size ≤ maxLen) :
    (Instr.lookup 44 (.map (some B)) (.string s) false).run Try.prog w = .ok (.int .i64 ((f s).getD 0)) w := by
  obtain ⟨D, ho, hf⟩ := h
  obtain ⟨c, hr, hat, _⟩ := ho.lookup_int map_law Try.underlying44 Try.underlying3 (zero3 w) (WideMaps.keyOf_string_mk (P := Try.prog) Try.underlying9 hs)
  have h2 := (hf s).2.symm.trans hat
  have : c = (f s).getD 0 := by simpa using h2.symm
  rw [hr, this]
def updF (f : ByteArray → Option Int) (s : ByteArray) (x : Option Int) : ByteArray → Option Int := fun t => if t.data.toList = s.data.toList then x else f t
theorem str_ne {s t : ByteArray} (h : ¬ t.data.toList = s.data.toList) : (Lit.string t.data.toList) ≠ Lit.string s.data.toList := fun e => h (by injection e)
theorem map_entry {w : World} {B n : Nat} {f : ByteArray → Option Int} (h : MapAt w B n f) (hn : n < maxLen) (s : ByteArray) (hs : s.size ≤ maxLen) :
    ∃ (v0 : Value) (st : Nat) (o1 : Obj), (Instr.mapEntry 44 (.map (some B)) (.string s)).run Try.prog w = .ok (.tuple #[v0, .int .i64 (st : Int)]) (Go.ChangeMaps.setBlock w B o1) ∧
      ∀ (w2 : World) (x : Int), (Lit.int .i64 x).wf = true → w2.heap[B]? = some o1 → ∃ o2, (Instr.entryStore 44 (.map (some B)) (.int .i64 (st : Int)) (.int .i64 x)).run Try.prog w2 = .ok () (Go.ChangeMaps.setBlock w2 B o2) ∧ MapAt (Go.ChangeMaps.setBlock w2 B o2) B (n + 1) (updF f s (some x)) := by
  obtain ⟨D, ho, hf⟩ := h
  have ho' := ho
  obtain ⟨es, clock, hb, F, _⟩ := ho
  have hkey := WideMaps.keyOf_string_mk (P := Try.prog) Try.underlying9 hs
  obtain ⟨v0, st, es1, clock1, hr, _, hnext⟩ := Go.WideElems.entry_then_store (Go.WideMaps.string_law Try.underlying9) Try.underlying44 (fun u => zero3 u) hb F hkey
  refine ⟨v0, st, .map es1 clock1, hr, fun w2 x hx hw2 => ?_⟩
  obtain ⟨es', clock', he, hm⟩ := hnext w2 (.int .i64 x) hw2
  obtain ⟨w', hr2, hown, _⟩ := ho'.store map_law Try.underlying44 hn hkey (plainElem_int Try.underlying3 hx)
  rw [hm] at hr2
  injection hr2 with _ hw'
  refine ⟨.map es' clock', he, D.put (.string s.data.toList) (.lit (.int .i64 x)), ?_, fun t => ?_⟩
  · rw [← hw'] at hown
    obtain ⟨a1, a2, a3, a4⟩ := hown
    refine ⟨a1, a2, ?_, a4⟩
    rw [Go.ChangeMaps.heap_setBlock_same hb] at a3
    rw [Go.ChangeMaps.heap_setBlock_same hw2]
    exact a3
  · have hm2 : Maps.IsMap D := ho'.isMap
    have hkl : WideAt.IsKeyLit (.string s.data.toList) := by first | trivial | (unfold WideAt.IsKeyLit; trivial) | simp [WideAt.IsKeyLit]
    unfold updF
    by_cases c : t.data.toList = s.data.toList
    · rw [if_pos c, c]
      exact ⟨Maps.has_put_same hm2 hkl _, Maps.atKey_put_same hm2 hkl _ _⟩
    · rw [if_neg c]
      exact ⟨(Maps.has_put_other (str_ne c) _).trans (hf t).1, (Maps.atKey_put_other (str_ne c) _ _).trans (hf t).2⟩
theorem map_drop {w : World} {B n : Nat} {f : ByteArray → Option Int} (h : MapAt w B n f) (s : ByteArray) (hs : s.size ≤ maxLen) (ty : TypeId) :
    ∃ o2, (Builtin.delete_ #[44, 9] ty #[.map (some B), .string s]).run Try.prog w = .ok (.tuple #[]) (Go.ChangeMaps.setBlock w B o2) ∧ MapAt (Go.ChangeMaps.setBlock w B o2) B n (updF f s none) := by
  obtain ⟨D, ho, hf⟩ := h
  have hkey := WideMaps.keyOf_string_mk (P := Try.prog) Try.underlying9 hs
  obtain ⟨w', hr, hown, ht⟩ := ho.drop map_law Try.underlying44 hkey ty
  obtain ⟨es, clock, es', clock', hb, rfl⟩ := ht
  refine ⟨_, hr, D.del (.string s.data.toList), hown, fun t => ?_⟩
  unfold updF
  by_cases c : t.data.toList = s.data.toList
  · rw [if_pos c, c]
    exact ⟨Maps.has_del_same, Maps.atKey_del_same _⟩
  · rw [if_neg c]
    exact ⟨(Maps.has_del_other (str_ne c)).trans (hf t).1, (Maps.atKey_del_other (str_ne c) _).trans (hf t).2⟩
theorem keys_open {w : World} {b0 : Nat} {ok : Nat → Prop} {v : Value} {ks : List ByteArray} (h : Kd.Q Kd.string 9 w b0 ok v ks) (h0 : 0 < ks.length) :
    ∃ blk off cap cur, v = .slice (some ⟨blk, off, none⟩) ks.length cap ∧ b0 ≤ blk ∧ ok blk ∧ w.heap[blk]? = some (.cells cur 9 (0, 0)) ∧ ks.length ≤ cap ∧ off + cap ≤ maxLen ∧ cur.size = off + cap ∧ ∀ p, p < ks.length → cur[off + p]? = some (.string (ks.getD p ⟨#[]⟩)) := by
  obtain ⟨h1, inner, ⟨hl, hq⟩, hr⟩ := h
  rcases hq with ⟨hz, _⟩ | ⟨blk, off, cap, cur, rfl, hb, hh, hc, hm, hs, ht⟩
  · omega
  · have e1 : off * Kd.string.sz = off := Nat.mul_one off
    have e2 : (off + cap) * Kd.string.sz = off + cap := Nat.mul_one _
    have e3 : ks.length * Kd.string.sz = ks.length := Nat.mul_one _
    rw [e1, e3] at ht
    refine ⟨blk, off, cap, cur, by rw [e1], hb, h1 blk (by simp [Value.ownBlock]), hh, hc, hm, by rw [hs, e2], fun p hp => ?_⟩
    have hrp := hr.2 p (ks[p]) (List.getElem?_eq_getElem hp)
    have h2 : inner[p]? = some (.string ks[p]) := by
      have hrp' : (inner.drop (p * 1)).take 1 = [.string ks[p]] := hrp
      rw [Nat.mul_one] at hrp'
      have h3 := congrArg (fun l : List Value => l[0]?) hrp'
      simpa [List.getElem?_take, List.getElem?_drop] using h3
    rw [← ht, List.getElem?_take, if_pos hp, List.getElem?_drop] at h2
    rw [← Array.getElem?_toList, h2, List.getD_eq_getElem?_getD, List.getElem?_eq_getElem hp]
    rfl
theorem keys_mk {w : World} {b0 : Nat} {ok : Nat → Prop} {blk off cap : Nat} {cur : Array Value} {ks : List ByteArray} (h0 : 0 < ks.length) (hb : b0 ≤ blk) (ho : ok blk) (hh : w.heap[blk]? = some (.cells cur 9 (0, 0))) (hc : ks.length ≤ cap) (hm : off + cap ≤ maxLen) (hs : cur.size = off + cap) (ht : ∀ p, p < ks.length → cur[off + p]? = some (.string (ks.getD p ⟨#[]⟩))) :
    Kd.Q Kd.string 9 w b0 ok (.slice (some ⟨blk, off, none⟩) ks.length cap) ks := by
  have e1 : ∀ n, n * Kd.string.sz = n := fun n => Nat.mul_one n
  refine ⟨fun k hk => ?_, strs ks, ⟨by simp [strs, e1], .inr ⟨blk, off, cap, cur, by rw [e1], hb, hh, hc, hm, by rw [hs, e1], ?_⟩⟩, ?_⟩
  · simp [Value.ownBlock] at hk
    exact hk ▸ ho
  · rw [e1, e1]
    apply List.ext_getElem?
    intro p
    rw [List.getElem?_take]
    by_cases hp : p < ks.length
    · rw [if_pos hp, List.getElem?_drop, Array.getElem?_toList, ht p hp, strs, List.getElem?_map, List.getElem?_eq_getElem hp, List.getD_eq_getElem?_getD, List.getElem?_eq_getElem hp]
      rfl
    · rw [if_neg hp, List.getElem?_eq_none (by simp [strs]; omega)]
  · refine ⟨by simp [strs, e1], fun j x hj => ?_⟩
    obtain ⟨hl, rfl⟩ := List.getElem?_eq_some_iff.1 hj
    show (List.drop (j * 1) (strs ks)).take 1 = [.string ks[j]]
    rw [Nat.mul_one, List.drop_eq_getElem_cons (by simpa [strs] using hl)]
    simp [strs]
theorem keys_mk0 {w : World} {b0 : Nat} {ok : Nat → Prop} {blk off cap : Nat} {cur : Array Value} (hb : b0 ≤ blk) (ho : ok blk) (hh : w.heap[blk]? = some (.cells cur 9 (0, 0))) (hm : off + cap ≤ maxLen) (hs : cur.size = off + cap) :
    Kd.Q Kd.string 9 w b0 ok (.slice (some ⟨blk, off, none⟩) 0 cap) [] := by
  have e1 : ∀ n, n * Kd.string.sz = n := fun n => Nat.mul_one n
  refine ⟨fun k hk => ?_, [], ⟨by simp, .inr ⟨blk, off, cap, cur, by rw [e1]; rfl, hb, hh, Nat.zero_le _, hm, by rw [hs, e1], by simp⟩⟩, Reps.none _ _⟩
  simp [Value.ownBlock] at hk
  exact hk ▸ ho
structure FeedAt (w : World) (b0 g B : Nat) (most : Int) (n : Nat) (v : Value) (ks : List ByteArray) (f : ByteArray → Option Int) : Prop where
  blk : w.heap[g]? = some (.cells #[.int .i64 most, .map (some B), v] 48 (0, 0))
  map : MapAt w B n f
  keys : Kd.Q Kd.string 9 w b0 (fun k => k ≠ g ∧ k ≠ B) v ks
  ne : g ≠ B
  base : b0 ≤ g ∧ b0 ≤ B
theorem FeedAt.ltB {w : World} {b0 g B : Nat} {most : Int} {n : Nat} {v : Value} {ks : List ByteArray} {f : ByteArray → Option Int} (h : FeedAt w b0 g B most n v ks f) : B < w.heap.size := by
  obtain ⟨D, ho, _⟩ := h.map
  exact ho.lt
/- Nothing but the feed's own blocks, and new ones. -/
structure Moved (w w1 : World) (g B : Nat) (v v1 : Value) : Prop where
  os : w1.os = w.os
  tape : w1.tape = w.tape
  output : w1.output = w.output
  size : w.heap.size ≤ w1.heap.size
  far : ∀ j, j < w.heap.size → j ≠ g → j ≠ B → some j ≠ v.ownBlock → w1.heap[j]? = w.heap[j]?
  own : v1.ownBlock = none ∨ v1.ownBlock = v.ownBlock ∨ ∃ b, v1.ownBlock = some b ∧ w.heap.size ≤ b
def putK (ks : List ByteArray) (k : ByteArray) : List ByteArray := ks.filter (fun x => !keyIs k x) ++ [k]
def cutK (most : Int) (ks : List ByteArray) : List ByteArray := if most < (ks.length : Int) then ks.drop 1 else ks
def putF (most : Int) (ks : List ByteArray) (f : ByteArray → Option Int) (k : ByteArray) (x : Int) : ByteArray → Option Int := if most < ((putK ks k).length : Int) then updF (updF f k (some x)) ((putK ks k).headD ⟨#[]⟩) none else updF f k (some x)
theorem keyIs_iff (k x : ByteArray) : keyIs k x = true ↔ x = k := by
  unfold keyIs
  rw [beq_iff_eq, ByteArray.toList_eq, ByteArray.toList_eq]
  constructor
  · intro h
    cases x with
    | mk a => cases k with
      | mk b => simpa using h
  · rintro rfl
    rfl
theorem one_key {ks : List ByteArray} (hnd : ks.Nodup) (k : ByteArray) (hh : ks.any (keyIs k) = true) :
    ks.findIdx (keyIs k) < ks.length ∧ (∀ j (h : j < ks.length), j ≠ ks.findIdx (keyIs k) → keyIs k ks[j] = false) ∧ ks.filter (fun x => !keyIs k x) = ks.eraseIdx (ks.findIdx (keyIs k)) := by
  obtain ⟨x, hx, hk⟩ := List.any_eq_true.1 hh
  have hlt : ks.findIdx (keyIs k) < ks.length := List.findIdx_lt_length_of_exists ⟨x, hx, hk⟩
  have hat : keyIs k ks[ks.findIdx (keyIs k)] = true := List.findIdx_getElem
  have hone : ∀ j (h : j < ks.length), j ≠ ks.findIdx (keyIs k) → keyIs k ks[j] = false := by
    intro j h hne
    cases hc : keyIs k ks[j] with
    | false => rfl
    | true =>
      have e : ks[j] = ks[ks.findIdx (keyIs k)] := ((keyIs_iff k _).1 hc).trans ((keyIs_iff k _).1 hat).symm
      exact absurd ((List.getElem_inj hnd).1 e) hne
  refine ⟨hlt, hone, ?_⟩
  have hsplit : ks = ks.take (ks.findIdx (keyIs k)) ++ ks[ks.findIdx (keyIs k)] :: ks.drop (ks.findIdx (keyIs k) + 1) := by
    rw [← List.drop_eq_getElem_cons hlt, List.take_append_drop]
  rw [List.eraseIdx_eq_take_drop_succ]
  conv => lhs; rw [hsplit]
  rw [List.filter_append, List.filter_cons, hat]
  congr 1
  · rw [List.filter_eq_self]
    intro y hy
    obtain ⟨j, hj, rfl⟩ := List.mem_take_iff_getElem.1 hy
    rw [hone j (by omega) (by omega)]
    rfl
  · simp only [Bool.not_true, Bool.false_eq_true, if_false]
    rw [List.filter_eq_self]
    intro y hy
    obtain ⟨j, hj, rfl⟩ := List.getElem_of_mem hy
    rw [List.getElem_drop, hone _ (by simp at hj; omega) (by omega)]
    rfl
theorem no_key {ks : List ByteArray} (k : ByteArray) (hh : ¬ ks.any (keyIs k) = true) : ks.filter (fun x => !keyIs k x) = ks := by
  rw [List.filter_eq_self]
  intro y hy
  cases hc : keyIs k y with
  | false => rfl
  | true => exact absurd (List.any_eq_true.2 ⟨y, hy, hc⟩) hh
theorem cell_al {W : World} {o : Obj} {p : Addr} {v : Value} (h : W.cell? p = some v) : (W.alloc o).cell? p = some v := ((below_alloc (Below.refl W.heap.size W) o).cell (World.block_lt_of_cell? W _ h)).trans h
theorem infoS : (Try.prog.info? 9).map (fun i => (i.zero, i.size, i.bytes)) = some (some (.string (⟨#[]⟩ : ByteArray)), 1, 16) := by kernel_rfl
theorem sb_same {w : World} {B : Nat} (h : B < w.heap.size) (o : Obj) : (Go.ChangeMaps.setBlock w B o).heap[B]? = some o := by simp [Go.ChangeMaps.setBlock, h]
theorem sb_other {w : World} {B j : Nat} (h : j ≠ B) (o : Obj) : (Go.ChangeMaps.setBlock w B o).heap[j]? = w.heap[j]? := by simp [Go.ChangeMaps.setBlock, Array.getElem?_setIfInBounds, Ne.symm h]

end Go.Proofs.Ytfppafpkppjmlaa.QFeedPlays
