import Derived.Test.YtpkhdljlhdomlaaIxO
import Derived.Maps.RangeWalk
/- Index: walks by hand; the conditions stand in each theorem. -/
namespace Go.Proofs.Ytpkhdljlhdomlaa.QIndexFinds
open Go.RowKit Go.Proofs.YtpkhdljlhdomlaaW.PrintWords Go.Proofs.YtpkhdljlhdomlaaW.PrintLast Go.Proofs.YtpkhdljlhdomlaaW.PrintMore
attribute [local go_sem] max2_int min2_int max_two min_two max_three min_three max_four min_four
set_option linter.unusedVariables false
set_option linter.unusedSimpArgs false
theorem lits_int (n : Nat) {a : Value} {l : List Lit} (h : Try.prog.keyLits (n + 1) 3 [a] = some l) : ∃ x, a = .int .i64 x ∧ (Lit.int .i64 x).wf = true ∧ l = [.int .i64 x] := by
  cases a <;> simp [Program.keyLits, Try.underlying3] at h
  rename_i q x
  obtain ⟨⟨rfl, h1⟩, h2⟩ := h
  exact ⟨x, rfl, h1, h2.symm⟩
theorem lits_str (n : Nat) {a : Value} {l : List Lit} (h : Try.prog.keyLits (n + 1) 9 [a] = some l) : ∃ s, a = .string s ∧ s.size ≤ maxLen ∧ l = [.string s.data.toList] := by
  cases a <;> simp [Program.keyLits, Try.underlying9] at h
  exact ⟨_, rfl, h.1, h.2.symm⟩
theorem lits_inv (n : Nat) {a b c : Value} {ls : List Lit} (h : Try.prog.keyLits (n + 2) 24 [a, b, c] = some ls) : ∃ x y s, a = .int .i64 x ∧ b = .int .i64 y ∧ c = .string s ∧ (Lit.int .i64 x).wf = true ∧ (Lit.int .i64 y).wf = true ∧ s.size ≤ maxLen ∧ ls = [.int .i64 x, .int .i64 y, .string s.data.toList] := by
  unfold Program.keyLits at h
  simp [Try.underlying24, cells24, cells3, cells9] at h
  cases h1 : Try.prog.keyLits (n + 1) 3 [a] with
  | none => simp [h1] at h
  | some l1 =>
  cases h2 : Try.prog.keyLits (n + 1) 3 [b] with
  | none => simp [h1, h2] at h
  | some l2 =>
  cases h3 : Try.prog.keyLits (n + 1) 9 [c] with
  | none => simp [h1, h2, h3] at h
  | some l3 =>
  simp [h1, h2, h3] at h
  obtain ⟨x, rfl, p1, rfl⟩ := lits_int n h1
  obtain ⟨y, rfl, p2, rfl⟩ := lits_int n h2
  obtain ⟨s, rfl, p3, rfl⟩ := lits_str n h3
  exact ⟨x, y, s, rfl, rfl, rfl, p1, p2, p3, by simpa using h.symm⟩
theorem key_inv {key : Value} {kl : Lit} (h : keyOf Try.prog 24 key = some kl) : ∃ x, key = encV x ∧ okS x ∧ kl = keyL x := by
  unfold keyOf at h
  rw [Try.underlying24] at h
  simp only [key_type, Bool.true_and, types_size] at h
  split at h
  · rename_i hf
    obtain ⟨ls, h1, h2⟩ := Option.map_eq_some_iff.1 h
    cases key
    case agg cs =>
      have hl : cs.toList.length = 3 := by
        simp [Value.formed, Try.underlying24, cells24] at hf
        simpa using hf
      obtain ⟨a, b, c, e⟩ : ∃ a b c, cs.toList = [a, b, c] := by
        match h3 : cs.toList, hl with
        | [a, b, c], _ => exact ⟨a, b, c, rfl⟩
      have e2 : cs = #[a, b, c] := by rw [← Array.toList_inj]; simpa using e
      subst e2
      obtain ⟨x, y, s, rfl, rfl, rfl, p1, p2, p3, rfl⟩ := lits_inv 77 h1
      exact ⟨⟨x, y, s⟩, rfl, ⟨p1, p2, p3⟩, h2.symm⟩
    all_goals simp [Value.formed, Try.underlying24] at hf
  · cases h
def ddup : List S24 → List S24
  | [] => []
  | x :: l => if x ∈ l then ddup l else x :: ddup l
theorem mem_ddup (x : S24) : ∀ l, x ∈ ddup l ↔ x ∈ l
  | [] => Iff.rfl
  | y :: l => by
    unfold ddup
    split
    · rename_i h
      rw [mem_ddup x l, List.mem_cons]
      exact ⟨.inr, fun h' => h'.elim (fun e => e ▸ h) id⟩
    · rw [List.mem_cons, List.mem_cons, mem_ddup x l]
theorem nodup_ddup : ∀ l, (ddup l).Nodup
  | [] => List.nodup_nil
  | y :: l => by
    unfold ddup
    split
    · exact nodup_ddup l
    · rename_i h
      exact List.nodup_cons.2 ⟨fun h' => h ((mem_ddup y l).1 h'), nodup_ddup l⟩
def nn (x : S24) : Bool := decide (x.f0 ≠ 0)
def dst (L : List S24) : Nat := ((ddup L).filter nn).length
theorem dst_of {L V : List S24} (hn : V.Nodup) (h1 : ∀ x ∈ V, x ∈ L) (h2 : ∀ x ∈ L, x ∈ V) : (V.filter nn).length = dst L := by
  have hp : V.Perm (ddup L) := (List.perm_ext_iff_of_nodup hn (nodup_ddup L)).2 (fun x => by rw [mem_ddup]; exact ⟨h1 x, h2 x⟩)
  exact (hp.filter _).length_eq
theorem ddup_len : ∀ L : List S24, dst L ≤ (L.filter nn).length
  | [] => Nat.le_refl _
  | x :: l => by
    have ih := ddup_len l
    unfold dst at *
    unfold ddup
    by_cases h : x ∈ l
    · rw [if_pos h]
      refine Nat.le_trans ih ?_
      rw [List.filter_cons]
      split
      · rw [List.length_cons]; omega
      · exact Nat.le_refl _
    · rw [if_neg h, List.filter_cons, List.filter_cons]
      split
      · rw [List.length_cons, List.length_cons]; omega
      · exact ih
theorem dst_le (L : List S24) : dst L ≤ L.length := Nat.le_trans (ddup_len L) (List.length_filter_le _ _)
theorem mem_of_bkt {L : List S24} {x : S24} : bkt L x ≠ [] ↔ x ∈ L := by
  constructor
  · intro h
    obtain ⟨y, hy⟩ := List.exists_mem_of_ne_nil _ h
    obtain ⟨i, hi, rfl, e⟩ := mem_bkt.1 hy
    rw [← e]
    have := rd_some hi
    exact List.mem_of_getElem? this
  · intro h
    obtain ⟨i, hi, e⟩ := List.mem_iff_getElem.1 h
    refine List.ne_nil_of_mem (mem_bkt.2 ⟨i, hi, rfl, ?_⟩)
    have := rd_some hi
    rw [List.getElem?_eq_getElem hi] at this
    injection this with this
    rw [← this, e]
set_option maxRecDepth 8000 in
set_option maxHeartbeats 4000000 in
theorem distinct13 (W : World) (b0 g : Nat) (L : List S24) (hx : Ix W b0 g L) :
    Calls Try.prog 13 #[.pointer (some ⟨g, 0, none⟩)] W fun e w' => e = .returned (.int .i64 (dst L)) ∧ Below W.heap.size W w' := by
  obtain ⟨⟨B, n, own, vl, vs, S, hi, hss⟩, hl, hok⟩ := hx
  obtain ⟨f, ⟨D, hown, hf⟩, hk⟩ := hi.bk.out
  have hfk : ∀ x, (f x).isSome = true ↔ x ∈ L := fun x => by
    rw [← mem_of_bkt]
    rcases hk x with ⟨e1, e2⟩ | ⟨v, e1, e2, _⟩
    · rw [e1, e2]; simp
    · rw [e1]; simp [e2]
  have HF : Aside0 (∀ x, okS x → (Maps.has D (keyL x) = true ↔ x ∈ L)) := ⟨fun x hx => by rw [(hf x hx).1]; exact hfk x⟩
  have HOK := Aside0.mk hok
  have k2 := (blk_cell hi.blk 2).trans (rfl : _ = some (Value.map (some B)))
  clear hi hss hf hk hfk hok
  go_enter Try.func13, Try.ntmps13
  go_wp2_with (at_range; refine wpList_range_own _ rfl _ 42 rfl 24 31 key_law under42 _ B n _ rfl hown ?_; intro w0 hrg0 hg0 hs0)
  go_frame
  go_loopw [3] (fun s3 wr => ∃ (left : Lit → Bool) (cnt : Nat) (V : List S24), s3 = .int .i64 ((V.filter nn).length : Nat) ∧ wr.ranges Try.prog 24 rdV B W.heap.size n D left cnt ∧ Aside0 (V.Nodup ∧ V.length ≤ 1000) ∧ Aside0 (∀ x ∈ V, x ∈ L ∧ left (keyL x) = false) ∧ Aside0 (∀ x ∈ L, left (keyL x) = false → x ∈ V) ∧ Aside0 (∀ kl, left kl = true → Maps.has D kl = true) ∧ Aside0 (Below W.heap.size W wr)) (fun _ wr => wr.rangeLeft B W.heap.size)
  case atStart =>
    refine ⟨_, _, [], rfl, hrg0, ⟨List.nodup_nil, Nat.zero_le _⟩, ⟨fun x hx => by cases hx⟩, ⟨fun x hx h => ?_⟩, ⟨fun _ h => h⟩, ⟨(Below.refl _ _).grown hg0 (Nat.le_refl _) (fun j hj => by cases hj)⟩⟩
    rw [(HF.out x (HOK.out x hx)).2 hx] at h
    cases h
  case round =>
    obtain ⟨left, cnt, V, rfl, hrg, HV, HV1, HV2, HL, HW⟩ := hrel
    go_wp2_with (at_next; refine wpList_next_ranges _ rfl _ rfl 24 key_law rdV encV (fun v : Value => v) (fun _ _ h => by obtain ⟨x, hx, _⟩ := key_inv h; exact ⟨x, hx⟩) (fun v _ _ => ⟨v, rfl⟩) B W.heap.size n _ _ _ rfl hrg ?_ ?_)
    · intro hc0 hl0
      have hE : (V.filter nn).length = dst L := dst_of HV.out.1 (fun x hx => (HV1.out x hx).1) (fun x hx => HV2.out x hx (hl0 _))
      rw [hE]
      go_wp2
      go_ret
      exact ⟨rfl, HW.out⟩
    · intro x c kl y1 y2 w1 cnt1 hkey hlx hR hat hrg1 hlt hg1 hs1 hen
      obtain ⟨x', ex, hxo, rfl⟩ := key_inv hkey
      have ex2 : x = x' := encV_inj ex
      subst ex2
      have hxL : x ∈ L := (HF.out x hxo).1 (HL.out _ hlx)
      have hxV : x ∉ V := fun h => by rw [(HV1.out x h).2] at hlx; cases hlx
      have HVn : Aside0 ((x :: V).Nodup ∧ (x :: V).length ≤ 1000) := ⟨List.nodup_cons.2 ⟨hxV, HV.out.1⟩, by
        have hsub : (x :: V).length ≤ (ddup L).length := List.Nodup.length_le_of_subset (List.nodup_cons.2 ⟨hxV, HV.out.1⟩) (fun z hz => by
          rw [mem_ddup]
          rcases List.mem_cons.1 hz with h | h
          · rw [h]; exact hxL
          · exact (HV1.out z h).1)
        have h2 : (ddup L).length ≤ L.length := List.Nodup.length_le_of_subset (nodup_ddup L) (fun z hz => (mem_ddup z L).1 hz)
        omega⟩
      have HV1n : Aside0 (∀ z ∈ x :: V, z ∈ L ∧ (left (keyL z) && !(keyL z).sameKey (keyL x)) = false) := ⟨fun z hz => by
        rcases List.mem_cons.1 hz with h | h
        · rw [h]
          exact ⟨hxL, by rw [show (keyL x).sameKey (keyL x) = true from WideAt.sameKey_self (keyL_key x)]; simp⟩
        · exact ⟨(HV1.out z h).1, by rw [(HV1.out z h).2]; rfl⟩⟩
      have HV2n : Aside0 (∀ z ∈ L, (left (keyL z) && !(keyL z).sameKey (keyL x)) = false → z ∈ x :: V) := ⟨fun z hz h => by
        by_cases e : z = x
        · rw [e]; exact List.mem_cons_self
        · have hne : keyL z ≠ keyL x := fun h' => e (keyL_inj (HOK.out z hz) hxo h')
          rw [Maps.sameKey_ne hne] at h
          exact List.mem_cons_of_mem _ (HV2.out z hz (by simpa using h))⟩
      have HLn : Aside0 (∀ kl, (left kl && !kl.sameKey (keyL x)) = true → Maps.has D kl = true) := ⟨fun kl h => HL.out kl (by simp at h; exact h.1)⟩
      have HW1 : Aside0 (Below W.heap.size W w1) := ⟨HW.out.grown hg1 HW.out.size (fun j hj => by cases hj; exact Nat.le_refl _)⟩
      have HRG : Aside0 (∀ W', Below w1.heap.size w1 W' → W'.ranges Try.prog 24 rdV B W.heap.size n D (fun z => left z && !z.sameKey (keyL x)) cnt1) := ⟨fun W' hb => hrg1.kept (row := none) ⟨hb.os, hb.tape, hb.output, hb.size, fun j hj _ => hb.block j hj⟩ (by simp) (by simp)⟩
      have HLT : Aside0 (cnt1 < wr.rangeLeft B W.heap.size) := ⟨by rw [hrg.left_eq]; exact hlt⟩
      have hfl : (V.filter nn).length ≤ 1000 := Nat.le_trans (List.length_filter_le _ _) HV.out.2
      have HNX : Aside0 (((x :: V).filter nn).length = if x.f0 = 0 then (V.filter nn).length else (V.filter nn).length + 1) := ⟨by
        rw [List.filter_cons]
        unfold nn
        by_cases h : x.f0 = 0
        · simp [h]
        · simp [h]⟩
      clear hkey hlx hR hat hrg1 hlt hg1 hs1 hxo ex hxL hxV hrg
      unfold encV at *
      by_cases hz : x.f0 = 0
      · have HNX2 : Aside0 (((x :: V).filter nn).length = (V.filter nn).length) := ⟨by rw [HNX.out, if_pos hz]⟩
        go_wp2_with (first | ((with_reducible refine gate_dst (N := 4) rfl ?_); refine box_event ?hg (N := 4) ?hd (cs := #[.int .i64 0, .int .i64 0, .string (⟨#[]⟩ : ByteArray)]) (t := 24) ?hr ?_; (case hd => rfl); (case hg => rfl); (case hr => first | (go_simp; done) | (go_simp; rfl)); intro bk hbk W3 hbox hb; have GE : Aside0 (w1.heap.size ≤ bk) := ⟨Nat.le_of_eq hbk.symm⟩; have HB := Aside0.mk hb; have hs0 : W3.cell? ⟨bk, 0, none⟩ = some (.int .i64 0) := (blk_cell hbox 0).trans rfl; have hs1 : W3.cell? ⟨bk, 1, none⟩ = some (.int .i64 0) := (blk_cell hbox 1).trans rfl; have hs2 : W3.cell? ⟨bk, 2, none⟩ = some (.string (⟨#[]⟩ : ByteArray)) := (blk_cell hbox 2).trans rfl; have hf0 := blk_frozen hbox 0; have hf1 := blk_frozen hbox 1; have hf2 := blk_frozen hbox 2; clear hb hbox hbk))
        have HBX : Aside0 (Below w1.heap.size w1 (((W3.setCell ⟨bk, 0, none⟩ (.int .i64 0)).setCell ⟨bk, 1, none⟩ (.int .i64 x.f1)).setCell ⟨bk, 2, none⟩ (.string x.f2))) := ⟨below_set (below_set (below_set HB.out GE.out) GE.out) GE.out⟩
        go_roundw
        case rel => exact ⟨_, _, x :: V, by rw [HNX2.out], HRG.out _ HBX.out, HVn, HV1n, HV2n, HLn, ⟨HW1.out.trans (HBX.out.mono HW1.out.size)⟩⟩
        case measure => rw [(HRG.out _ HBX.out).left_eq]; exact HLT.out
      · have HNX2 : Aside0 (((x :: V).filter nn).length = (V.filter nn).length + 1) := ⟨by rw [HNX.out, if_neg hz]⟩
        go_wp2_with (first | ((with_reducible refine gate_dst (N := 4) rfl ?_); refine box_event ?hg (N := 4) ?hd (cs := #[.int .i64 0, .int .i64 0, .string (⟨#[]⟩ : ByteArray)]) (t := 24) ?hr ?_; (case hd => rfl); (case hg => rfl); (case hr => first | (go_simp; done) | (go_simp; rfl)); intro bk hbk W3 hbox hb; have GE : Aside0 (w1.heap.size ≤ bk) := ⟨Nat.le_of_eq hbk.symm⟩; have HB := Aside0.mk hb; have hs0 : W3.cell? ⟨bk, 0, none⟩ = some (.int .i64 0) := (blk_cell hbox 0).trans rfl; have hs1 : W3.cell? ⟨bk, 1, none⟩ = some (.int .i64 0) := (blk_cell hbox 1).trans rfl; have hs2 : W3.cell? ⟨bk, 2, none⟩ = some (.string (⟨#[]⟩ : ByteArray)) := (blk_cell hbox 2).trans rfl; have hf0 := blk_frozen hbox 0; have hf1 := blk_frozen hbox 1; have hf2 := blk_frozen hbox 2; clear hb hbox hbk))
        have HBX : Aside0 (Below w1.heap.size w1 (((W3.setCell ⟨bk, 0, none⟩ (.int .i64 x.f0)).setCell ⟨bk, 1, none⟩ (.int .i64 x.f1)).setCell ⟨bk, 2, none⟩ (.string x.f2))) := ⟨below_set (below_set (below_set HB.out GE.out) GE.out) GE.out⟩
        go_roundw
        case rel => exact ⟨_, _, x :: V, by rw [HNX2.out]; go_num, HRG.out _ HBX.out, HVn, HV1n, HV2n, HLn, ⟨HW1.out.trans (HBX.out.mono HW1.out.size)⟩⟩
        case measure => rw [(HRG.out _ HBX.out).left_eq]; exact HLT.out

end Go.Proofs.Ytpkhdljlhdomlaa.QIndexFinds
