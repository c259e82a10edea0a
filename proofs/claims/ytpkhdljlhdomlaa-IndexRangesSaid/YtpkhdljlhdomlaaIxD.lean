import Derived.Test.YtpkhdljlhdomlaaIxC
import Derived.Test.YtpkhdljlhdomlaaIxL
/- Index: walks by hand; the conditions stand in each theorem. -/
namespace Go.Proofs.Ytpkhdljlhdomlaa.QIndexFinds
open Go.RowKit Go.Proofs.YtpkhdljlhdomlaaW.PrintWords Go.Proofs.YtpkhdljlhdomlaaW.PrintLast Go.Proofs.YtpkhdljlhdomlaaW.PrintMore
attribute [local go_sem] max2_int min2_int max_two min_two max_three min_three max_four min_four
set_option linter.unusedVariables false
set_option linter.unusedSimpArgs false
theorem C_lit {α : Type} (d : Kd α) (e : Nat) (W : World) (xs : List α) (inner : List Value) (hrep : Reps (d.K W) d.sz xs inner) (hm : xs.length ≤ 9223372036854775807) {n : Nat} (hn : n = W.heap.size) : d.C (W.alloc (.cells inner.toArray e)) (some ⟨n, 0, none⟩) xs.length xs := by
  subst hn
  refine ⟨rfl, hm, fun _ => ⟨_, rfl, fun j p hj => ⟨_, ?_, d.K_below (below_alloc (Below.refl _ _) _) (hrep.2 j p hj), fun i u hu => ?_⟩⟩⟩
  · exact d.K_len (hrep.2 j p hj)
  · have h1 := blk_cell (blk_new W (.cells inner.toArray e)) (0 + (j * d.sz + i))
    have h2 : i < d.sz := by
      have := (List.getElem?_eq_some_iff.1 hu).1
      rw [d.K_len (hrep.2 j p hj)] at this
      exact this
    rw [List.getElem?_take_of_lt h2, List.getElem?_drop] at hu
    rw [add_at]
    refine h1.trans ?_
    rw [Nat.zero_add, List.getElem?_toArray]
    exact hu
/- An index while it is built: its block, its values, the places, the buckets. -/
structure Ix0 (w : World) (b0 g B n : Nat) (own : Nat → Tg) (vl vs : Value) (L : List S24) (S : List Int) (F : S24 → List Int) : Prop where
  blk : w.heap[g]? = some (.cells #[vl, vs, .map (some B)] 44 (0, 0))
  rl : k24.R 24 w b0 (fun j => own j = .vs) vl L
  rs : kI.R 3 w b0 (fun j => own j = .ps) vs S
  bk : Bks w b0 B n own F
  tg : own g = .no
  lo : b0 ≤ g
  low : ∀ j, j < b0 → own j = .no
/- While a value and a place are put in: what is turned is the values' block alone. -/
structure RgA (W3 w : World) (b0 : Nat) (own own2 : Nat → Tg) (v : Value) (L : List S24) : Prop where
  kp : Kp W3 w (fun j => own j = .vs ∨ own j = .ps)
  kv : Kp W3 w (fun j => own j = .vs)
  rl : k24.R 24 w b0 (fun j => own2 j = .vs) v L
theorem Kp.alloc {w w' : World} {T : Nat → Prop} (h : Kp w w' T) (o : Obj) : Kp w (w'.alloc o) T := h.trans (Kp.below (below_alloc (Below.refl _ _) o)) (fun _ _ h => h)
theorem RgA.alloc {W3 w : World} {b0 : Nat} {own own2 : Nat → Tg} {v : Value} {L : List S24} (h : RgA W3 w b0 own own2 v L) (o : Obj) : RgA W3 (w.alloc o) b0 own own2 v L := ⟨h.kp.alloc o, h.kv.alloc o, Kd.R_alloc h.rl o⟩
theorem Kp.of_grown {w w1 : World} {r : Option Nat} {T : Nat → Prop} (h : w.grownBy w1 r) (ht : ∀ j, r = some j → T j) : Kp w w1 T :=
  ⟨h.os, h.tape, h.output, h.size, fun j hj hn => h.block j hj (fun e => hn (ht j e.symm))⟩
theorem RgA.app {W3 w w1 : World} {b0 : Nat} {own own2 : Nat → Tg} {v v1 : Value} {L L1 : List S24} (h : RgA W3 w b0 own own2 v L) (h0 : ∀ j, v.ownBlock = some j → own j = .vs) (hR : k24.R 24 w1 b0 (fun j => own2 j = .vs) v1 L1) (hg : w.grownBy w1 v.ownBlock) : RgA W3 w1 b0 own own2 v1 L1 :=
  ⟨h.kp.trans (Kp.of_grown (T := fun j => own j = .vs ∨ own j = .ps) hg (fun j e => .inl (h0 j e))) (fun _ _ h => h), h.kv.trans (Kp.of_grown (T := fun j => own j = .vs) hg h0) (fun _ _ h => h), hR⟩
structure Lit44 (W3 w : World) (n : Nat) (i : Int) : Prop where
  blk : w.heap[n]? = some (.cells #[.int .i64 i] 3 (0, 0))
  lo : W3.heap.size ≤ n
theorem Lit44.alloc {W3 w : World} {n : Nat} {i : Int} (h : Lit44 W3 w n i) (o : Obj) : Lit44 W3 (w.alloc o) n i := ⟨(Below.heap_alloc _ _ _ (blk_lt h.blk)).trans h.blk, h.lo⟩
theorem Lit44.app {W3 w w1 : World} {n : Nat} {i : Int} {r : Option Nat} (h : Lit44 W3 w n i) (hg : w.grownBy w1 r) (hr : ∀ j, r = some j → j < W3.heap.size) : Lit44 W3 w1 n i :=
  ⟨(hg.block n (blk_lt h.blk) (fun e => by have := hr n e.symm; have := h.lo; omega)).trans h.blk, h.lo⟩
theorem C_blk_int {w : World} {n : Nat} {i : Int} (h : w.heap[n]? = some (.cells #[.int .i64 i] 3 (0, 0))) : kI.C w (some ⟨n, 0, none⟩) 1 [i] := by
  refine ⟨rfl, by decide, fun _ => ⟨_, rfl, fun j p hj => ?_⟩⟩
  have hj0 : j = 0 := by have := (List.getElem?_eq_some_iff.1 hj).1; simp at this; omega
  subst hj0
  have hp : p = i := by simpa using hj.symm
  subst hp
  refine ⟨[.int .i64 p], rfl, rfl, fun k u hu => ?_⟩
  have hk0 : k = 0 := by have := (List.getElem?_eq_some_iff.1 hu).1; simp at this; omega
  subst hk0
  have hu : u = .int .i64 p := by simpa using hu.symm
  subst hu
  exact (blk_cell h 0).trans rfl
theorem Lit44.toC {W3 w : World} {n : Nat} {i : Int} (h : Lit44 W3 w n i) : kI.C w (some ⟨n, 0, none⟩) 1 [i] := C_blk_int h.blk
theorem info24 : (Try.prog.info? 24).map (fun i => (i.zero, i.size, i.bytes)) = some (some (.agg #[.int .i64 0, .int .i64 0, .string (⟨#[]⟩ : ByteArray)]), 3, 32) := by kernel_rfl
theorem rg_places {W3 wJ : World} {b0 g B n : Nat} {own own2 own3 : Nat → Tg} {vl vs : Value} {L : List S24} {S : List Int} {F : S24 → List Int} (hx : Ix0 W3 b0 g B n own vl vs L S F) (h2 : own2 = lab own W3.heap.size .vs) (h3 : own3 = lab own2 wJ.heap.size .ps) (hk : Kp W3 wJ (fun j => own j = .vs)) :
    kI.R 3 wJ b0 (fun j => own3 j = .ps) vs S := by
  have h4 : kI.R 3 W3 b0 (fun j => own j = .ps ∧ j < W3.heap.size) vs S := Kd.R_mono (Kd.R_bound hx.rs) (fun j hj => ⟨hj.1, hj.2.2.1⟩)
  have h5 := Kd.R_step h4 (w1 := wJ) (fun j hj hlt => hk.far j hlt (fun e => by rw [hj.1] at e; cases e))
  have hsz := hk.size
  refine Kd.R_mono h5 (fun j hj => ?_)
  rw [h3, lab_old (by omega), h2, lab_old hj.2]
  exact hj.1
theorem rg_done {W3 wJ w6 : World} {b0 g B n : Nat} {own own2 own3 : Nat → Tg} {vl vs v38 v45 : Value} {L L1 : List S24} {S S1 : List Int} {F : S24 → List Int} (hx : Ix0 W3 b0 g B n own vl vs L S F) (h2 : own2 = lab own W3.heap.size .vs) (h3 : own3 = lab own2 wJ.heap.size .ps)
    (hJ : RgA W3 wJ b0 own own2 v38 L1) (hg : wJ.grownBy w6 vs.ownBlock) :
    Kp W3 w6 (fun j => own j = .vs ∨ own j = .ps) ∧ w6.heap[g]? = some (.cells #[vl, vs, .map (some B)] 44 (0, 0)) ∧ k24.R 24 w6 b0 (fun j => own3 j = .vs) v38 L1 := by
  have hvs : ∀ j, vs.ownBlock = some j → own j = .ps ∧ j < W3.heap.size := fun j hj => ⟨hx.rs.1 j hj, Kd.R_lt hx.rs j hj⟩
  have hsz := hJ.kv.size
  have hk : Kp W3 w6 (fun j => own j = .vs ∨ own j = .ps) := hJ.kp.trans (Kp.of_grown (T := fun j => own j = .vs ∨ own j = .ps) hg (fun j e => .inr (hvs j e).1)) (fun _ _ h => h)
  refine ⟨hk, (hk.far g (blk_lt hx.blk) (fun h => by rw [hx.tg] at h; rcases h with h | h <;> cases h)).trans hx.blk, ?_⟩
  have h4 : k24.R 24 wJ b0 (fun j => own2 j = .vs ∧ j < wJ.heap.size) v38 L1 := Kd.R_mono (Kd.R_bound hJ.rl) (fun j hj => ⟨hj.1, hj.2.2.1⟩)
  have h5 := Kd.R_step h4 (w1 := w6) (fun j hj hlt => hg.block j hlt (fun e => by
    obtain ⟨e1, e2⟩ := hvs j e.symm
    have := hj.1
    rw [h2, lab_old e2, e1] at this
    cases this))
  refine Kd.R_mono h5 (fun j hj => ?_)
  rw [h3, lab_old hj.2]
  exact hj.1
theorem rg_end {W3 wJ w6 : World} {b0 g B n : Nat} {own own2 own3 : Nat → Tg} {vl vs v38 v45 : Value} {L L1 : List S24} {S S1 : List Int} {F : S24 → List Int} (hx : Ix0 W3 b0 g B n own vl vs L S F) (h2 : own2 = lab own W3.heap.size .vs) (h3 : own3 = lab own2 wJ.heap.size .ps) (hsz : W3.heap.size ≤ wJ.heap.size)
    (hk : Kp W3 w6 (fun j => own j = .vs ∨ own j = .ps)) (hg6 : w6.heap[g]? = some (.cells #[vl, vs, .map (some B)] 44 (0, 0))) (hl : k24.R 24 w6 b0 (fun j => own3 j = .vs) v38 L1) (hr : kI.R 3 w6 b0 (fun j => own3 j = .ps) v45 S1) :
    Ix0 ((w6.setCell ⟨g, 0, none⟩ v38).setCell ⟨g, 1, none⟩ v45) b0 g B n own3 v38 v45 L1 S1 F ∧ Kp W3 ((w6.setCell ⟨g, 0, none⟩ v38).setCell ⟨g, 1, none⟩ v45) (fun j => own j = .vs ∨ own j = .ps ∨ j = g) ∧ (∀ j, j < W3.heap.size → own3 j = own j) := by
  have ho : ∀ j, j < W3.heap.size → own3 j = own j := fun j hj => by rw [h3, lab_old (by omega), h2, lab_old hj]
  have hgl := blk_lt hx.blk
  have hg3 : own3 g = .no := (ho g hgl).trans hx.tg
  have hfar : ∀ j, j ≠ g → ((w6.setCell ⟨g, 0, none⟩ v38).setCell ⟨g, 1, none⟩ v45).heap[j]? = w6.heap[j]? := fun j hj => (Below.heap_setCell _ ⟨g, 1, none⟩ _ j hj).trans (Below.heap_setCell _ ⟨g, 0, none⟩ _ j hj)
  have hks : Kp W3 ((w6.setCell ⟨g, 0, none⟩ v38).setCell ⟨g, 1, none⟩ v45) (fun j => own j = .vs ∨ own j = .ps ∨ j = g) := by
    refine ⟨hk.os, hk.tape, hk.output, by simpa using hk.size, fun j hj hn => (hfar j (fun e => hn (.inr (.inr e)))).trans (hk.far j hj (fun h => hn (h.elim .inl (fun h => .inr (.inl h)))))⟩
  refine ⟨⟨(blk_set (blk_set hg6 0 v38) 1 v45), ?_, ?_, hx.bk.move ho (fun j hj hm => hks.far j hj (fun h => ?_)), hg3, hx.lo, fun j hj => (ho j (by have := hx.lo; omega)).trans (hx.low j hj)⟩, hks, ho⟩
  · exact Kd.R_far (Kd.R_far hl (p := ⟨g, 0, none⟩) (fun k hk e => by rw [show k = g from e, hg3] at hk; cases hk) _) (p := ⟨g, 1, none⟩) (fun k hk e => by rw [show k = g from e, hg3] at hk; cases hk) _
  · exact Kd.R_far (Kd.R_far hr (p := ⟨g, 0, none⟩) (fun k hk e => by rw [show k = g from e, hg3] at hk; cases hk) _) (p := ⟨g, 1, none⟩) (fun k hk e => by rw [show k = g from e, hg3] at hk; cases hk) _
  · rcases hm with hm | ⟨k, hm⟩ <;> rcases h with h | h | h
    · rw [hm] at h; cases h
    · rw [hm] at h; cases h
    · rw [h, hx.tg] at hm; cases hm
    · rw [hm] at h; cases h
    · rw [hm] at h; cases h
    · rw [h, hx.tg] at hm; cases hm
/- A place is put into its bucket. -/
theorem Ix0.put {w w9 : World} {b0 g B n : Nat} {own own4 : Nat → Tg} {vl vs : Value} {L : List S24} {S : List Int} {F F' : S24 → List Int} {x : S24} (hx : Ix0 w b0 g B n own vl vs L S F) (h4 : own4 = lab own w.heap.size (.key x)) (hB : Bks w9 b0 B (n + 1) own4 F') (hk : Kp w w9 (fun j => own j = .mp ∨ own j = .key x)) :
    Ix0 w9 b0 g B (n + 1) own4 vl vs L S F' ∧ (∀ j, j < w.heap.size → own4 j = own j) := by
  have ho : ∀ j, j < w.heap.size → own4 j = own j := fun j hj => by rw [h4, lab_old hj]
  have hgl := blk_lt hx.blk
  refine ⟨⟨(hk.far g hgl (fun h => by rw [hx.tg] at h; rcases h with h | h <;> cases h)).trans hx.blk, ?_, ?_, hB, (ho g hgl).trans hx.tg, hx.lo, fun j hj => (ho j (by have := hx.lo; omega)).trans (hx.low j hj)⟩, ho⟩
  · have h5 : k24.R 24 w b0 (fun j => own j = .vs ∧ j < w.heap.size) vl L := Kd.R_mono (Kd.R_bound hx.rl) (fun j hj => ⟨hj.1, hj.2.2.1⟩)
    exact Kd.R_mono (Kd.R_step h5 (fun j hj hlt => hk.far j hlt (fun h => by rw [hj.1] at h; rcases h with h | h <;> cases h))) (fun j hj => (ho j hj.2).trans hj.1)
  · have h5 : kI.R 3 w b0 (fun j => own j = .ps ∧ j < w.heap.size) vs S := Kd.R_mono (Kd.R_bound hx.rs) (fun j hj => ⟨hj.1, hj.2.2.1⟩)
    exact Kd.R_mono (Kd.R_step h5 (fun j hj hlt => hk.far j hlt (fun h => by rw [hj.1] at h; rcases h with h | h <;> cases h))) (fun j hj => (ho j hj.2).trans hj.1)
def vals (rows : List (List S24)) (col i : Nat) : List S24 := (rows.take i).map (fun r => rd_T24 r (col : Int))
theorem at_row {w : World} {A : Option Addr} {n : Nat} {xs : List S24} (h : Kd.C k24 w A n xs) (i : Nat) (h1 : i < n) : ∃ ad, A = some ad ∧ w.cell? (ad.add (i * 3)) = some (.int .i64 (rd_T24 xs (i : Int)).f0) ∧ w.cell? ⟨(ad.add (i * 3)).block, (ad.add (i * 3)).off + 1, none⟩ = some (.int .i64 (rd_T24 xs (i : Int)).f1) ∧ w.cell? ⟨(ad.add (i * 3)).block, (ad.add (i * 3)).off + 2, none⟩ = some (.string (rd_T24 xs (i : Int)).f2) := by
  have := at_T24 h (i : Int) (by omega) (by omega)
  rwa [Int.toNat_natCast] at this
theorem at_rows {w : World} {A : Option Addr} {n : Nat} {xs : List (List S24)} (h : Kd.C (Kd.slice 24 k24) w A n xs) (i : Nat) (h1 : i < n) (hx : i < xs.length) : ∃ ad A0 c0, A = some ad ∧ w.cell? (ad.add i) = some (.slice A0 xs[i].length c0) ∧ xs[i].length ≤ c0 ∧ k24.C w A0 xs[i].length xs[i] := by
  obtain ⟨ad, A0, c0, e, h2, h3, h4⟩ := at_L3 h (i : Int) (by omega) (by omega)
  have e2 : rd_L3 xs (i : Int) = xs[i] := by unfold rd_L3; rw [Int.toNat_natCast, List.getD_eq_getElem?_getD, List.getElem?_eq_getElem hx]; rfl
  rw [e2] at h2 h3 h4
  rw [Int.toNat_natCast] at h2
  exact ⟨ad, A0, c0, e, h2, h3, h4⟩
def bkt (L : List S24) (k : S24) : List Int := ((List.range L.length).filter (fun i => decide (L[i]? = some k))).map (fun (i : Nat) => (i : Int))
def places (n : Nat) : List Int := (List.range n).map (fun (i : Nat) => (i : Int))
theorem places_succ (n : Nat) : places (n + 1) = places n ++ [(n : Int)] := by unfold places; rw [List.range_succ, List.map_append]; rfl
theorem bkt_app (L : List S24) (x : S24) : bkt (L ++ [x]) = updL (bkt L) x (bkt L x ++ [(L.length : Int)]) := by
  funext k
  unfold bkt updL
  rw [List.length_append, List.length_singleton, List.range_succ, List.filter_append, List.map_append]
  have h1 : (List.range L.length).filter (fun i => decide ((L ++ [x])[i]? = some k)) = (List.range L.length).filter (fun i => decide (L[i]? = some k)) := by
    apply List.filter_congr
    intro i hi
    rw [List.getElem?_append_left (List.mem_range.1 hi)]
  rw [h1]
  by_cases e : k = x
  · subst e
    rw [if_pos rfl]
    congr 1
    simp
  · rw [if_neg e]
    have : ¬ x = k := fun h => e h.symm
    simp [this]

end Go.Proofs.Ytpkhdljlhdomlaa.QIndexFinds
