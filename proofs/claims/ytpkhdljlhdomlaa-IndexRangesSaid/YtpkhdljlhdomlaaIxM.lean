import Derived.Test.YtpkhdljlhdomlaaIxK
/- Index: walks by hand; the conditions stand in each theorem. -/
namespace Go.Proofs.Ytpkhdljlhdomlaa.QIndexFinds
open Go.RowKit Go.Proofs.YtpkhdljlhdomlaaW.PrintWords Go.Proofs.YtpkhdljlhdomlaaW.PrintLast Go.Proofs.YtpkhdljlhdomlaaW.PrintMore
attribute [local go_sem] max2_int min2_int max_two min_two max_three min_three max_four min_four
set_option linter.unusedVariables false
set_option linter.unusedSimpArgs false
def isN (L : List S24) (s : Int) : Bool := decide ((rd_T24 L s).f0 = 0)
structure Ey (w : World) (bx g : Nat) (ad : Addr) (c : Nat) (v1 v2 : Value) (L : List S24) : Prop where
  hb : w.heap[bx]? = some (.cells #[.pointer (some ⟨g, 0, none⟩)] 27 (0, 0))
  hg : w.heap[g]? = some (.cells #[.slice (some ad) L.length c, v1, v2] 44 (0, 0))
  hc : k24.C w (some ad) L.length L
theorem Ey.move {w w' : World} {bx g c : Nat} {ad : Addr} {v1 v2 : Value} {L : List S24} (h : Ey w bx g ad c v1 v2 L) (h1 : w'.heap[bx]? = w.heap[bx]?) (h2 : w'.heap[g]? = w.heap[g]?) (h3 : w'.heap[ad.block]? = w.heap[ad.block]?) : Ey w' bx g ad c v1 v2 L := ⟨h1.trans h.hb, h2.trans h.hg, C_blocks h.hc h3⟩
set_option maxRecDepth 8000 in
set_option maxHeartbeats 4000000 in
theorem at24 (W : World) (bx g : Nat) (ad : Addr) (c : Nat) (v1 v2 : Value) (L : List S24) (h : Ey W bx g ad c v1 v2 L) (i : Nat) (hi : i < L.length) :
    Calls Try.prog 24 #[.int .i64 i, .pointer (some ⟨bx, 0, none⟩)] W fun e w' => e = .returned (.bool (isN L (i : Int))) ∧ w' = W := by
  obtain ⟨ad', e, h0, h1, h2⟩ := at_row h.hc i hi
  cases e
  have k0 := (blk_cell h.hb 0).trans (rfl : _ = some (Value.pointer (some ⟨g, 0, none⟩)))
  have k1 := (blk_cell h.hg 0).trans (rfl : _ = some (Value.slice (some ad) L.length c))
  have hin : (i : Int) < (L.length : Int) := by omega
  unfold isN
  generalize rd_T24 L (i : Int) = x at *
  generalize L.length = n at *
  clear h h1 h2
  go_enter Try.func24, Try.ntmps24
  go_wp2
  go_ret
  exact ⟨rfl, rfl⟩
def idxN (L : List S24) (l : List Int) : Int := if l.any (isN L) = true then ((l.findIdx (isN L) : Nat) : Int) else -1
set_option maxHeartbeats 2000000 in
theorem index31 (W : World) (bx g : Nat) (ad : Addr) (c0 : Nat) (v1 v2 : Value) (L : List S24) (hE : Ey W bx g ad c0 v1 v2 L) (A : Option Addr) (c : Nat) (l : List Int) (hp : Pl L l) (hl : l.length ≤ 4611686018427387904)
    (hc : ∀ j (h : j < l.length), ∃ ad, A = some ad ∧ W.cell? (ad.add j) = some (.int .i64 l[j])) :
    Calls Try.prog 31 #[.slice A l.length c, .func (.func 24) #[] #[.pointer (some ⟨bx, 0, none⟩)]] W fun e w' => e = .returned (.int .i64 (idxN L l)) ∧ w' = W := by
  have HC := Aside0.mk hc
  have HE := Aside0.mk hE
  have HPL := Aside0.mk hp
  clear hc hE hp
  go_enter Try.func31, Try.ntmps31
  go_wp2
  go_loopw [8] (fun i wr => ∃ m : Nat, m ≤ l.length ∧ i = .int .i64 m ∧ Aside0 ((l.take m).any (isN L) = false) ∧ wr = W) (fun i _ => l.length - (intOf i).toNat)
  case atStart => exact ⟨0, Nat.zero_le _, rfl, ⟨rfl⟩, rfl⟩
  case round =>
    obtain ⟨m, hm, rfl, HA, rfl⟩ := hrel
    by_cases hlt : m < l.length
    · obtain ⟨ad, e, hx⟩ := HC.out m hlt
      cases e
      have HT := Aside0.mk (List.take_succ_eq_append_getElem hlt)
      have hd : isN L l[m] = true ∨ isN L l[m] = false := by cases isN L l[m] <;> simp
      have hle := List.getElem_mem hlt
      have HF : Aside0 (isN L l[m] = true → idxN L l = m) := ⟨fun h => by
        unfold idxN
        rw [if_pos (List.any_eq_true.2 ⟨_, hle, h⟩)]
        congr 1
        rw [List.findIdx_eq hlt]
        refine ⟨h, fun j hj => ?_⟩
        have := List.any_eq_false.1 HA.out (l[j]'(by omega)) (by rw [List.mem_take_iff_getElem]; exact ⟨j, by omega, rfl⟩)
        simpa using this⟩
      obtain ⟨q0, q1⟩ := HPL.out _ hle
      obtain ⟨x, hv⟩ := Int.eq_ofNat_of_zero_le q0
      have hxl : x < L.length := by omega
      rw [hv] at HT hd HF hx
      clear hle q0 q1 hv
      rcases hd with hp | hp
      all_goals
        have HP := Aside0.mk hp
        clear hp
        go_wp2_with (go_at_call 24; refine (at24 wr bx g _ c0 v1 v2 L HE.out x hxl).mono ?_; rw [HP.out]; rintro e w1 ⟨rfl, rfl⟩)
      · go_ret
        exact ⟨by rw [HF.out HP.out]; rfl, rfl⟩
      · go_roundw
        case rel => exact ⟨m + 1, by omega, by go_num, ⟨by rw [HT.out, List.any_append, HA.out]; simp [HP.out]⟩, trivial⟩
        case measure => simp [intOf]; omega
    · have hk' : m = l.length := by omega
      have HN := Aside0.mk (show idxN L l = -1 by
        unfold idxN
        have := HA.out
        rw [hk', List.take_length] at this
        rw [this]
        rfl)
      have hle : l.length ≤ m := by omega
      clear hk'
      go_wp2
      go_ret
      exact ⟨by rw [HN.out]; rfl, rfl⟩
structure IS (W w1 : World) (q n N : Nat) (row : Nat → Int) : Prop where
  os : w1.os = W.os
  tape : w1.tape = W.tape
  output : w1.output = W.output
  size : w1.heap.size = W.heap.size
  far : ∀ j, j ≠ q → w1.heap[j]? = W.heap[j]?
  blk : ∃ cur, w1.heap[q]? = some (.cells cur 3 (0, 0)) ∧ cur.size = N ∧ ∀ p, p < n → cur[p]? = some (.int .i64 (row p))
theorem IS.cell {W w1 : World} {q n N : Nat} {row : Nat → Int} (h : IS W w1 q n N row) (p : Nat) (hp : p < n) : w1.cell? ⟨q, p, none⟩ = some (.int .i64 (row p)) ∧ w1.frozen? ⟨q, p, none⟩ = false := by
  obtain ⟨cur, hc, _, hr⟩ := h.blk
  exact ⟨(blk_cell hc _).trans (hr p hp), blk_frozen hc _⟩
theorem IS.put {W w1 : World} {q n N : Nat} {row : Nat → Int} (h : IS W w1 q n N row) (i : Nat) (hi : i < n) (hN : n ≤ N) (x : Int) (row' : Nat → Int) (hr : ∀ p, p < n → row' p = if p = i then x else row p) :
    IS W (w1.setCell ⟨q, i, none⟩ (.int .i64 x)) q n N row' := by
  obtain ⟨cur, hc, hs, hcur⟩ := h.blk
  refine ⟨h.os, h.tape, h.output, by simpa using h.size, fun j hj => (Below.heap_setCell _ _ _ _ hj).trans (h.far j hj), _, blk_put hc i (.int .i64 x) rfl, by simpa using hs, fun p hp => ?_⟩
  rw [hr p hp, Array.getElem?_setIfInBounds]
  by_cases e : p = i
  · subst e
    rw [if_pos rfl, if_pos (by omega), if_pos rfl]
  · rw [if_neg (by omega), if_neg e]
    exact hcur p hp
theorem IS.cellA {W w1 : World} {q n N : Nat} {row : Nat → Int} (h : IS W w1 q n N row) (p : Nat) (hp : p < n) : w1.cell? ((⟨q, 0, none⟩ : Addr).add p) = some (.int .i64 (row p)) := by
  have := (h.cell p hp).1
  unfold Addr.add
  by_cases z : p = 0
  · subst z; simpa using this
  · simpa [z] using this
theorem IS.zeros {W w1 : World} {q n N : Nat} {row : Nat → Int} (hN : n ≤ N) : ∀ (m i : Nat), i + m = n → IS W w1 q n N row → ∃ row', IS W (w1.setCells q i (List.replicate m (.int .i64 0))) q n N row' ∧ ∀ p, p < i → row' p = row p := by
  intro m
  induction m generalizing w1 row with
  | zero => intro i hi h; exact ⟨row, h, fun _ _ => rfl⟩
  | succ m ih =>
    intro i hi h
    have h2 := h.put i (by omega) hN 0 (fun p => if p = i then 0 else row p) (fun p _ => rfl)
    obtain ⟨row', h3, h4⟩ := ih (i + 1) (by omega) h2
    refine ⟨row', h3, fun p hp => (h4 p (by omega)).trans (if_neg (by omega))⟩

end Go.Proofs.Ytpkhdljlhdomlaa.QIndexFinds
