import Derived.Test.YtacfemgmnfkjoaaBagG
/- Bag: walks of the bag's functions, by hand; the conditions stand in each theorem. -/
namespace Go.Proofs.Ytacfemgmnfkjoaa.QBag
open Go.RowKit Go.Proofs.YtacfemgmnfkjoaaW.PrintWords Go.Proofs.YtacfemgmnfkjoaaW.PrintLast Go.Proofs.YtacfemgmnfkjoaaW.PrintMore
attribute [local go_sem] max2_int min2_int max_two min_two max_three min_three max_four min_four
set_option linter.unusedVariables false
set_option linter.unusedSimpArgs false
theorem C_lit (W : World) (xs : List ByteArray) (hl : xs.length ≤ 1000) : Kd.C Kd.string (W.alloc (.cells (strs xs).toArray 9)) (some ⟨W.heap.size, 0, none⟩) xs.length xs := by
  have hb := blk_new W (.cells (strs xs).toArray 9)
  refine ⟨rfl, by omega, fun _ => ⟨_, rfl, fun j x hj => ?_⟩⟩
  refine ⟨[.string x], rfl, rfl, fun i u hu => ?_⟩
  match i, hu with
  | 0, hu =>
    have e : u = .string x := by simpa using hu.symm
    subst e
    have h2 := blk_cell hb j
    have e2 : (⟨W.heap.size, 0, none⟩ : Addr).add (j * Kd.string.sz + 0) = ⟨W.heap.size, j, none⟩ := by
      rw [Nat.add_zero, show j * Kd.string.sz = j from Nat.mul_one j]
      simp [Addr.add]
      exact fun h => h.symm
    rw [e2]
    refine h2.trans ?_
    simp [strs, hj]
  | i + 1, hu => simp at hu
theorem bag_Of_n (W : World) (A : Option Addr) (c k : Nat) (l : List ByteArray) (hk0 : l.length = k) (hr : Kd.C Kd.string W A k l) (hc : k ≤ c) (hk : ∀ s ∈ l, s.size ≤ maxLen) (hn : k < 4611686018427387904) :
    Calls Try.prog 10 #[.slice A k c] W fun e w' => ∃ g : Nat, e = .returned (.pointer (some ⟨g, 0, none⟩)) ∧ Bg w' (fun j => W.heap.size ≤ j ∧ j < w'.heap.size) g k l ∧ Below W.heap.size W w' := by
  subst hk0
  exact bag_Of W A c l hr hc hk hn
theorem kinds_nodup {l ks : List ByteArray} (h : Kinds l ks) : ks.Nodup := h.1.imp (fun {a b} h e => by subst e; exact List.lt_irrefl _ h)
theorem kinds_unique {l l' ks ks' : List ByteArray} (h : Kinds l ks) (h' : Kinds l' ks') (hm : ∀ s, s ∈ l ↔ s ∈ l') : ks = ks' := by
  have hp : ks.Perm ks' := (List.perm_ext_iff_of_nodup (kinds_nodup h) (kinds_nodup h')).2 (fun s => ((h.2 s).trans (hm s)).trans (h'.2 s).symm)
  refine List.Perm.eq_of_pairwise (le := ltB) (fun a b _ _ h1 h2 => ?_) h.1 h'.1 hp
  exact absurd (List.lt_trans h1 h2) (List.lt_irrefl _)
def kA : ByteArray := ⟨#[97]⟩
def kB : ByteArray := ⟨#[98]⟩
theorem ex_kinds : Kinds [kA, kB, kA] [kA, kB] := by
  refine ⟨List.Pairwise.cons (fun b hb => ?_) (List.Pairwise.cons (fun b hb => by cases hb) List.Pairwise.nil), fun s => ?_⟩
  · have : b = kB := by simpa using hb
    subst this
    unfold ltB kA kB
    decide
  · simp only [List.mem_cons, List.not_mem_nil, or_false]
    constructor
    · rintro (h | h)
      · exact .inl h
      · exact .inr (.inl h)
    · rintro (h | h | h)
      · exact .inl h
      · exact .inr h
      · exact .inl h
set_option maxHeartbeats 4000000 in
theorem bag_examples (W : World) : Calls Try.prog 9 #[] W fun e w' => e = .returned (.bool true) ∧ Below W.heap.size W w' := by
  have M10 : Aside0 True := ⟨trivial⟩
  have M28 : Aside0 True := ⟨trivial⟩
  have hkk : ∀ s ∈ [kA, kB, kA], s.size ≤ maxLen := fun s hs => by
    simp only [List.mem_cons, List.not_mem_nil, or_false] at hs
    rcases hs with rfl | rfl | rfl <;> decide
  have hk1 : ∀ s ∈ [kA], s.size ≤ maxLen := fun s hs => hkk s (by simp at hs; simp [hs])
  have HKK := Aside0.mk hkk
  have HK1 := Aside0.mk hk1
  clear hkk hk1
  go_enter Try.func9, Try.ntmps9
  go_wp2_with (first
    | (go_at_call 10; have m10 := M10.out; refine (bag_Of_n (W.alloc (.cells (strs [kA, kB, kA]).toArray 9)) _ 3 3 [kA, kB, kA] rfl (C_lit W [kA, kB, kA] (by decide)) (Nat.le_refl _) HKK.out (by decide)).mono ?_; rintro e w1 ⟨g1, rfl, h1, h2⟩; have H1 := Aside0.mk h1; have HB1 := Aside0.mk (below_on (below_alloc (Below.refl W.heap.size W) _) h2); clear h1 h2 m10 M10)
    | (go_at_call 10; refine (bag_Of_n (w1.alloc (.cells (strs [kA]).toArray 9)) _ 1 1 [kA] rfl (C_lit w1 [kA] (by decide)) (Nat.le_refl _) HK1.out (by decide)).mono ?_; rintro e w2 ⟨g2, rfl, h1, h2⟩; have HB2 := Aside0.mk (below_on (below_alloc (Below.refl w1.heap.size w1) (.cells (strs [kA]).toArray 9)) h2); have H2 := Aside0.mk (H1.out.on HB2.out); have H3 := Aside0.mk h1; have HB3 := Aside0.mk (below_on HB1.out HB2.out); clear h1 h2 HB2 H1 HB1)
    | (go_at_call 11; refine (bag_Kinds _ _ g1 _ _ H2.out (by decide)).mono ?_; rintro e w3 ⟨A, c, ks, rfl, hc, hC, hK, hb⟩; obtain rfl := kinds_unique hK ex_kinds (fun _ => Iff.rfl); obtain ⟨ad, e9, hx1⟩ := at_str hC 1 (by decide); cases e9; have hx2 : w3.cell? ⟨ad.block, ad.off + 1, none⟩ = some (.string (⟨#[98]⟩ : ByteArray)) := hx1; clear hx1; have H4 := Aside0.mk (H2.out.on hb); have H5 := Aside0.mk (H3.out.on hb); have HB4 := Aside0.mk (below_on HB3.out hb); clear hC hK hb H2 H3 HB3)
    | (go_at_call 12; refine (bag_Count _ _ g1 _ _ kA H4.out (by decide)).mono ?_; rintro e w4 ⟨rfl, rfl⟩)
    | (go_at_call 13; refine (bag_Len _ _ g1 _ _ H4.out).mono ?_; rintro e w4 ⟨rfl, rfl⟩)
    | (go_at_call 28; have m28 := M28.out; refine (bag_Within _ _ _ g1 g2 _ _ _ _ H4.out H5.out).mono ?_; rintro e w5 ⟨rfl, hb⟩; have H6 := Aside0.mk (H4.out.on hb); have H7 := Aside0.mk (H5.out.on hb); have HB5 := Aside0.mk (below_on HB4.out hb); clear hb H4 H5 HB4 m28 M28)
    | (go_at_call 28; refine (bag_Within _ _ _ g2 g1 _ _ _ _ H7.out H6.out).mono ?_; rintro e w6 ⟨rfl, hb⟩; have HB6 := Aside0.mk (below_on HB5.out hb); clear hb HB5))
  trace_state
  go_ret
  exact ⟨rfl, HB6.out⟩

end Go.Proofs.Ytacfemgmnfkjoaa.QBag
