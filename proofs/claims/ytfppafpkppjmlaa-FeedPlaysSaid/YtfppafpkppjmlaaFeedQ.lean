import Derived.Test.YtfppafpkppjmlaaFeedP
/- Feed: walks of the feed's functions, by hand; the conditions stand in each theorem. -/
namespace Go.Proofs.Ytfppafpkppjmlaa.QFeedPlays
open Go.RowKit Go.Proofs.YtfppafpkppjmlaaW.PrintWords Go.Proofs.YtfppafpkppjmlaaW.PrintLast Go.Proofs.YtfppafpkppjmlaaW.PrintMore
attribute [local go_sem] max2_int min2_int max_two min_two max_three min_three max_four min_four
set_option linter.unusedVariables false
set_option linter.unusedSimpArgs false
/- Both feeds in memory, apart. -/
structure Two (W0 w : World) (gF gX : Nat) (most : Int) (n : Nat) (P Q : List S35) : Prop where
  ex : ∃ oF oX : Nat → Prop, Fd w oF gF most n P ∧ RefAt w oX gX most Q ∧ (∀ j, oF j → oX j → False) ∧ (∀ j, oF j → W0.heap.size ≤ j ∧ j < w.heap.size) ∧ (∀ j, oX j → W0.heap.size ≤ j ∧ j < w.heap.size)
  bel : Below W0.heap.size W0 w
theorem Two.on {W0 w wz : World} {gF gX : Nat} {most : Int} {n : Nat} {P Q : List S35} (h : Two W0 w gF gX most n P Q) (hb : Below w.heap.size w wz) : Two W0 wz gF gX most n P Q := by
  obtain ⟨⟨oF, oX, h1, h2, h3, h4, h5⟩, h6⟩ := h
  have hs := hb.size
  exact ⟨⟨oF, oX, h1.on hb, h2.far (fun _ h => h) (fun j hj hlt => hb.block j hlt), h3, fun j hj => ⟨(h4 j hj).1, Nat.lt_of_lt_of_le (h4 j hj).2 hs⟩, fun j hj => ⟨(h5 j hj).1, Nat.lt_of_lt_of_le (h5 j hj).2 hs⟩⟩, below_on h6 hb⟩
theorem Two.moveF {W0 w w' : World} {gF gX : Nat} {most : Int} {n' : Nat} {P' Q : List S35} {oF oX : Nat → Prop} (h2 : RefAt w oX gX most Q) (h3 : ∀ j, oF j → oX j → False) (h4 : ∀ j, oF j → W0.heap.size ≤ j ∧ j < w.heap.size) (h5 : ∀ j, oX j → W0.heap.size ≤ j ∧ j < w.heap.size) (h6 : Below W0.heap.size W0 w) (hf : Fd w' (fun j => oF j ∨ w.heap.size ≤ j) gF most n' P') (hu : Upd oF w w') : Two W0 w' gF gX most n' P' Q := by
  have hs := hu.size
  have hs6 := h6.size
  refine ⟨⟨_, oX, hf.bound, h2.far (fun _ h => h) (fun j hj hlt => hu.far j hlt (fun h => h3 j h hj)), fun j hj hx => ?_, fun j hj => ⟨?_, hj.2⟩, fun j hj => ⟨(h5 j hj).1, Nat.lt_of_lt_of_le (h5 j hj).2 hs⟩⟩, below_upd h6 hu (fun j hj => (h4 j hj).1)⟩
  · rcases hj.1 with h | h
    · exact h3 j h hx
    · have := (h5 j hx).2
      omega
  · rcases hj.1 with h | h
    · exact (h4 j h).1
    · omega
theorem Two.putF {W0 w : World} {gF gX : Nat} {most : Int} {n : Nat} {P Q : List S35} (h : Two W0 w gF gX most n P Q) (k : ByteArray) (x : Int) (hk : k.size ≤ maxLen) (hn : n < maxLen) :
    Calls Try.prog 15 #[.pointer (some ⟨gF, 0, none⟩), .string k, .int .i64 x] w fun e w' => e = .returned (.tuple #[]) ∧ Two W0 w' gF gX most (n + 1) (putL most P k (clipV x)) Q := by
  obtain ⟨⟨oF, oX, h1, h2, h3, h4, h5⟩, h6⟩ := h
  refine (feed_Put w oF gF most n P k x h1 hk hn).mono ?_
  rintro e w' ⟨rfl, hf, hu⟩
  exact ⟨rfl, Two.moveF h2 h3 h4 h5 h6 hf hu⟩
theorem Two.loadF {W0 w : World} {gF gX : Nat} {most : Int} {n : Nat} {P Q : List S35} (h : Two W0 w gF gX most n P Q) (A : Option Addr) (c k : Nat) (l : List S35) (hk0 : l.length = k) (hl : ∀ w', Below W0.heap.size W0 w' → Kd.C k35 w' A k l) (hc : k ≤ c) (hk : ∀ p ∈ l, p.f0.size ≤ maxLen) (hn : n + k < maxLen) :
    Calls Try.prog 9 #[.pointer (some ⟨gF, 0, none⟩), .slice A k c] w fun e w' => e = .returned (.tuple #[]) ∧ Two W0 w' gF gX most (n + k) (putsL most P l) Q := by
  obtain ⟨⟨oF, oX, h1, h2, h3, h4, h5⟩, h6⟩ := h
  subst hk0
  refine (feed_Load w oF gF most n P A c l h1 (fun w' hu => hl w' (below_upd h6 hu (fun j hj => (h4 j hj).1))) hc hk hn).mono ?_
  rintro e w' ⟨rfl, hf, hu⟩
  exact ⟨rfl, Two.moveF h2 h3 h4 h5 h6 hf hu⟩
theorem Two.putX {W0 w : World} {gF gX : Nat} {most : Int} {n : Nat} {P Q : List S35} (h : Two W0 w gF gX most n P Q) (k : ByteArray) (x : Int) (hl : Q.length ≤ 1000) :
    Calls Try.prog 14 #[.pointer (some ⟨gX, 0, none⟩), .string k, .int .i64 x] w fun e w' => e = .returned (.tuple #[]) ∧ Two W0 w' gF gX most n P (putL most Q k (clipV x)) := by
  obtain ⟨⟨oF, oX, h1, h2, h3, h4, h5⟩, h6⟩ := h
  refine (ref_Put w oX gX most Q k x h2 hl).mono ?_
  rintro e w' ⟨rfl, hf, hu⟩
  have hs := hu.size
  have hs6 := h6.size
  refine ⟨rfl, ⟨oF, _, h1.by hu (fun j hj _ hx => h3 j hj hx), hf.bound, fun j hj hx => ?_, fun j hj => ⟨(h4 j hj).1, Nat.lt_of_lt_of_le (h4 j hj).2 hs⟩, fun j hj => ⟨?_, hj.2⟩⟩, below_upd h6 hu (fun j hj => (h5 j hj).1)⟩
  · rcases hx.1 with h | h
    · exact h3 j hj h
    · have := (h4 j hj).2
      omega
  · rcases hj.1 with h | h
    · exact (h5 j h).1
    · omega
theorem Two.getF {W0 w : World} {gF gX : Nat} {most : Int} {n : Nat} {P Q : List S35} (h : Two W0 w gF gX most n P Q) (k : ByteArray) (hk : k.size ≤ maxLen) :
    Calls Try.prog 16 #[.pointer (some ⟨gF, 0, none⟩), .string k] w fun e w' => e = .returned (.tuple #[.int .i64 ((lookL P k).getD 0), .bool (lookL P k).isSome]) ∧ w' = w := by
  obtain ⟨⟨oF, oX, h1, _⟩, _⟩ := h
  exact feed_Get w oF gF most n P k h1 hk
theorem Two.getX {W0 w : World} {gF gX : Nat} {most : Int} {n : Nat} {P Q : List S35} (h : Two W0 w gF gX most n P Q) (k : ByteArray) (hl : Q.length ≤ 1000) :
    Calls Try.prog 17 #[.pointer (some ⟨gX, 0, none⟩), .string k] w fun e w' => e = .returned (.tuple #[.int .i64 ((lookL Q k).getD 0), .bool (lookL Q k).isSome]) ∧ w' = w := by
  obtain ⟨⟨oF, oX, h1, h2, _⟩, _⟩ := h
  exact ref_Get w oX gX most Q k h2 hl
theorem Two.allF {W0 w : World} {gF gX : Nat} {most : Int} {n : Nat} {P Q : List S35} (h : Two W0 w gF gX most n P Q) :
    Calls Try.prog 10 #[.pointer (some ⟨gF, 0, none⟩)] w fun e w' => ∃ A c, e = .returned (.slice A P.length c) ∧ P.length ≤ c ∧ Kd.Q k35 35 w' w.heap.size (fun _ => True) (.slice A P.length c) P ∧ Below w.heap.size w w' := by
  obtain ⟨⟨oF, oX, h1, _⟩, _⟩ := h
  exact feed_All w oF gF most n P h1
theorem Two.lenF {W0 w : World} {gF gX : Nat} {most : Int} {n : Nat} {P Q : List S35} (h : Two W0 w gF gX most n P Q) :
    Calls Try.prog 12 #[.pointer (some ⟨gF, 0, none⟩)] w fun e w' => e = .returned (.int .i64 (P.length : Int)) ∧ w' = w := by
  obtain ⟨⟨oF, oX, h1, _⟩, _⟩ := h
  exact feed_Len w oF gF most n P h1
theorem Two.cellX {W0 w : World} {gF gX : Nat} {most : Int} {n : Nat} {P Q : List S35} (h : Two W0 w gF gX most n P Q) : ∃ A c, (∀ wz, Below w.heap.size w wz → wz.cell? ⟨gX, 1, none⟩ = some (.slice A Q.length c) ∧ Kd.C k35 wz A Q.length Q) ∧ Q.length ≤ c := by
  obtain ⟨⟨oF, oX, _, ⟨A, c, h1, h2, h3, h4⟩, _⟩, _⟩ := h
  exact ⟨A, c, fun wz hb => ⟨(blk_cell ((hb.block gX (blk_lt h1)).trans h1) 1).trans rfl, Kd.C_below (Kd.Q_reads' h4).2.2 hb⟩, h3⟩
theorem Two.start {W w1 w2 w3 : World} {gF gX : Nat} {cn : Nat} (hb1 : Below W.heap.size W w1) (hf : Fd w2 (fun j => w1.heap.size ≤ j ∧ j < w2.heap.size) gF (cn : Int) 0 []) (hb2 : Below w1.heap.size w1 w2) (hx : RefAt w3 (fun j => w2.heap.size ≤ j) gX (cn : Int) []) (hb3 : Below w2.heap.size w2 w3) : Two W w3 gF gX (cn : Int) 0 [] [] := by
  have hs1 := hb1.size
  have hs2 := hb2.size
  have hs3 := hb3.size
  exact ⟨⟨_, _, hf.on hb3, hx.bound, fun j hj hx => by have := hj.2; have := hx.1; omega, fun j hj => ⟨by have := hj.1; omega, Nat.lt_of_lt_of_le hj.2 hs3⟩, fun j hj => ⟨by have := hj.1; omega, hj.2⟩⟩, below_on (below_on hb1 hb2) hb3⟩
theorem puts_more (most : Int) (d l : List S35) (m : Nat) (hm : m < l.length) : putsL most [] (d ++ l.take (m + 1)) = putL most (putsL most [] (d ++ l.take m)) l[m].f0 (clipV l[m].f1) := by
  rw [List.take_succ_eq_append_getElem hm, ← List.append_assoc]
  unfold putsL
  rw [List.foldl_append]
  rfl
def nD (l : List S35) : Nat := min l.length 200
theorem nD_if (l : List S35) : (if (200 : Int) < (l.length : Int) then (200 : Int) else (l.length : Int)) = (nD l : Int) := by
  unfold nD
  by_cases c : (200 : Int) < (l.length : Int)
  · rw [if_pos c]; omega
  · rw [if_neg c]; omega
/- The rows that a list lies in may be written. -/
def Rm (w : World) (base : Nat) (A : Option Addr) (n : Nat) : Prop := n = 0 ∨ ∃ g o, A = some ⟨g, o, none⟩ ∧ base ≤ g ∧ ∃ cur, w.heap[g]? = some (.cells cur 35 (0, 0)) ∧ o + n * 2 ≤ cur.size
theorem Rm.of {w : World} {base : Nat} {A : Option Addr} {n c : Nat} {l : List S35} (h : Kd.Q k35 35 w base (fun _ => True) (.slice A n c) l) : Rm w base A n := by
  obtain ⟨hn, hc, -⟩ := Kd.Q_reads' h
  subst hn
  obtain ⟨h1, inner, ⟨hl, hq⟩, hr⟩ := h
  rcases hq with ⟨hz, _⟩ | ⟨blk, off, cap, cur, e, hb, hh, hc, hm, hs, ht⟩
  · exact .inl hz
  · injection e with e1 e2 e3
    refine .inr ⟨blk, off * 2, e1, hb, cur, hh, ?_⟩
    have e2 : cur.size = (off + cap) * 2 := hs
    omega
theorem Rm.put {w : World} {base g o n : Nat} (h : Rm w base (some ⟨g, o, none⟩) n) (k : Nat) (hk : k < n) (u v : Value) :
    (∃ x, w.cell? ⟨g, o + k * 2, none⟩ = some x) ∧ (∃ x, w.cell? ⟨g, o + k * 2 + 1, none⟩ = some x) ∧ (∀ i, w.frozen? ⟨g, i, none⟩ = false) ∧ base ≤ g ∧ Rm ((w.setCell ⟨g, o + k * 2, none⟩ u).setCell ⟨g, o + k * 2 + 1, none⟩ v) base (some ⟨g, o, none⟩) n := by
  rcases h with h | ⟨g', o', e, hb, cur, hh, hs⟩
  · omega
  · injection e with e
    injection e with e1 e2
    subst e1; subst e2
    have hi : ∀ i, i < cur.size → ∃ x, w.cell? ⟨g, i, none⟩ = some x := fun i hi => ⟨cur[i], (blk_cell hh i).trans (Array.getElem?_eq_getElem hi)⟩
    refine ⟨hi _ (by omega), hi _ (by omega), fun i => blk_frozen hh i, hb, .inr ⟨g, o, rfl, hb, _, blk_set (blk_set hh _ _) _ _, ?_⟩⟩
    simpa using hs
theorem below_set {w w1 : World} {b g i : Nat} (h : Below b w w1) (hg : b ≤ g) (u : Value) : Below b w (w1.setCell ⟨g, i, none⟩ u) := ⟨h.os, h.tape, h.output, by simpa using h.size, fun j hj => (Below.heap_setCell w1 ⟨g, i, none⟩ u j (fun e => by have : j = g := e; omega)).trans (h.block j hj)⟩

end Go.Proofs.Ytfppafpkppjmlaa.QFeedPlays
