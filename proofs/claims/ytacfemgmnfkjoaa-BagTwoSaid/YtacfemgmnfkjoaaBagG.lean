import Derived.Test.YtacfemgmnfkjoaaBagF
import Derived.Maps.RangeWalk
/- Bag: walks of the bag's functions, by hand; the conditions stand in each theorem. -/
namespace Go.Proofs.Ytacfemgmnfkjoaa.QBag
open Go.RowKit Go.Proofs.YtacfemgmnfkjoaaW.PrintWords Go.Proofs.YtacfemgmnfkjoaaW.PrintLast Go.Proofs.YtacfemgmnfkjoaaW.PrintMore
attribute [local go_sem] max2_int min2_int max_two min_two max_three min_three max_four min_four
set_option linter.unusedVariables false
set_option linter.unusedSimpArgs false
open Go.Maps
def withinB (a b : List ByteArray) : Bool := a.all (fun s => decide (a.count s ≤ b.count s))
theorem within_iff (a b : List ByteArray) : withinB a b = true ↔ ∀ s, a.count s ≤ b.count s := by
  unfold withinB
  rw [List.all_eq_true]
  constructor
  · intro h s
    by_cases c : s ∈ a
    · simpa using h s c
    · rw [List.count_eq_zero.2 c]
      exact Nat.zero_le _
  · intro h s _
    simpa using h s
theorem int_inv {v : Value} {y : DataW Unit × List MemPlace} (h : plainElem Try.prog 3 v = some y) : ∃ c : Int, v = .int .i64 c := by
  obtain ⟨a, e, _⟩ := plainElem_int_inv Try.underlying3 h
  exact ⟨a, e⟩
open Go.Sort in
theorem str_inv {key : Value} {kl : Lit} (h : keyOf Try.prog 9 key = some kl) : ∃ x : ByteArray, key = .string x := by
  obtain ⟨x, e, _⟩ := Maps.keyOf_str Try.underlying9 h
  exact ⟨_, e⟩
open Go.Sort in
theorem entry_is {D : DataW Unit} {a : List ByteArray} (hf : ∀ s : ByteArray, Maps.has D (.string s.data.toList) = (cntF a s).isSome ∧ D.atKey (.string s.data.toList) (.lit (.int .i64 0)) = .lit (.int .i64 ((cntF a s).getD 0))) {x : ByteArray} {c : Int} {kl : Lit} {y : DataW Unit × List MemPlace} (hkey : keyOf Try.prog 9 (.string x) = some kl) (hR : plainElem Try.prog 3 (.int .i64 c) = some y) (hat : ∀ zd, D.atKey kl zd = y.1) : kl = .string x.data.toList ∧ x.size ≤ maxLen ∧ c = (a.count x : Int) := by
  obtain ⟨x', e1, e2, e3⟩ := Maps.keyOf_str Try.underlying9 hkey
  injection e1 with e1
  have e4 : x.data.toList = x' := by rw [e1]
  subst e2
  obtain ⟨a', he, hz, _⟩ := plainElem_int_inv Try.underlying3 hR
  injection he with _ he
  subst he
  have h1 := hat (.lit (.int .i64 0))
  rw [← e4, (hf x).2, hz, cntF_getD] at h1
  refine ⟨by rw [e4], ?_, ?_⟩
  · have : x.data.toList.length ≤ maxLen := by rw [e4]; exact e3
    simpa using this
  · simpa using h1.symm
set_option maxHeartbeats 2000000 in
theorem bag_Within (W : World) (oA oB : Nat → Prop) (ga gb na nb : Nat) (a b : List ByteArray) (hA : Bg W oA ga na a) (hB : Bg W oB gb nb b) :
    Calls Try.prog 28 #[.pointer (some ⟨ga, 0, none⟩), .pointer (some ⟨gb, 0, none⟩)] W fun e w' => e = .returned (.bool (withinB a b)) ∧ Below W.heap.size W w' := by
  obtain ⟨mv, h1, _, h3, h4, _⟩ := hA
  have hc0 : W.cell? ⟨ga, 0, none⟩ = some mv := (blk_cell h1 0).trans rfl
  have HB := Aside0.mk hB
  rcases h3 with ⟨rfl, rfl⟩ | ⟨B, rfl, _, _, D, hown, hf⟩
  · have hrg := run_range_nilMap (P := Try.prog) W 44 9 3 Try.underlying44
    have hnx : ∀ ty, (Instr.next (.pointer (some ⟨W.heap.size, 0, none⟩)) false ty).run Try.prog (W.alloc (.mapIter none 0 #[] 0)) = _ := fun ty => run_next_nilMap _ ty 0 0 #[]
    clear h1
    go_enter Try.func28, Try.ntmps28
    go_wp2
    refine wp_loop_rounds 1 ?_
    rw [rounds_succ]
    go_wp2
    go_ret
    exact ⟨rfl, below_alloc (Below.refl _ _) _⟩
  · have HF := Aside0.mk hf
    have H4 := Aside0.mk h4
    clear h1 hf h4 hB
    go_enter Try.func28, Try.ntmps28
    go_wp2_with (at_range; refine wpList_range_own _ rfl _ 44 rfl 9 3 map_law Try.underlying44 _ B na _ rfl hown ?_; intro w0 hrg0 hg0 hs0)
    go_frame
    go_loopw [5] (fun _ wr => ∃ (left : Lit → Bool) (cnt : Nat), wr.ranges Try.prog 9 (plainElem Try.prog 3) B W.heap.size na D left cnt ∧ Aside0 (∀ s : ByteArray, left (.string s.data.toList) = false → a.count s ≤ b.count s) ∧ Aside0 (Below W.heap.size W wr)) (fun _ wr => wr.rangeLeft B W.heap.size)
    case atStart =>
      refine ⟨_, _, hrg0, ⟨fun s hs => ?_⟩, ⟨(Below.refl _ _).grown hg0 (Nat.le_refl _) (fun j hj => by cases hj)⟩⟩
      have h5 := (HF.out s).1
      rw [hs] at h5
      unfold cntF at h5
      by_cases c : a.count s = 0
      · omega
      · rw [if_neg c] at h5
        cases h5
    case round =>
      obtain ⟨left, cnt, hrg, HL, HW⟩ := hrel
      go_wp2_with (at_next; refine wpList_next_ranges _ rfl _ rfl 9 map_law (plainElem Try.prog 3) Value.string (Value.int .i64) (fun _ _ h => str_inv h) (fun _ _ h => int_inv h) B W.heap.size na _ _ _ rfl hrg ?_ ?_)
      · intro hc0 hl0
        have hE : withinB a b = true := (within_iff a b).2 (fun s => HL.out s (hl0 _))
        go_wp2
        go_ret
        exact ⟨by rw [hE]; rfl, HW.out⟩
      · intro x c kl y1 y2 w1 cnt1 hkey hlx hR hat hrg1 hlt hg1 hs1 hen
        obtain ⟨rfl, hxs, rfl⟩ := entry_is HF.out hkey hR hat
        have HW1 : Aside0 (Below W.heap.size W w1) := ⟨HW.out.grown hg1 HW.out.size (fun j hj => by cases hj; exact Nat.le_refl _)⟩
        have HN := Aside0.mk (bag_Count w1 oB gb nb b x (HB.out.on HW1.out) hxs)
        have HLX := Aside0.mk hlx
        clear hkey hR hat hlx hxs
        by_cases hlt2 : b.count x < a.count x
        · have hE : withinB a b = false := Bool.eq_false_iff.2 (fun h => by have := (within_iff a b).1 h x; omega)
          have hlti : (b.count x : Int) < (a.count x : Int) := by omega
          go_wp2_with (go_at_call 12; refine HN.out.mono ?_; rintro e w2 ⟨rfl, rfl⟩)
          go_ret
          exact ⟨by rw [hE]; rfl, HW1.out⟩
        · have hlti : ¬ (b.count x : Int) < (a.count x : Int) := by omega
          go_wp2_with (go_at_call 12; refine HN.out.mono ?_; rintro e w2 ⟨rfl, rfl⟩)
          go_roundw
          case rel =>
            refine ⟨_, cnt1, hrg1, ⟨fun s hs => ?_⟩, HW1⟩
            by_cases c : s = x
            · subst c; omega
            · have hne : (Lit.string s.data.toList) ≠ .string x.data.toList := fun e => c (by injection e with e; exact ba_eq.1 e)
              rw [Maps.sameKey_ne hne] at hs
              exact HL.out s (by simpa using hs)
          case measure => rw [hrg1.left_eq, hrg.left_eq]; exact hlt

end Go.Proofs.Ytacfemgmnfkjoaa.QBag
