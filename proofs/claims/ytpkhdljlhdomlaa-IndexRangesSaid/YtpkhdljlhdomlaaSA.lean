import Derived.Test.YtpkhdljlhdomlaaProg
import Derived.Shelf.SlSortCmp.Insertion1
import Derived.Lib.QuietBelow
import Derived.Deep.LoopGhost
/- The stable sort of slices: walks by hand; the conditions stand in each theorem. -/
namespace Go.Proofs.Ytpkhdljlhdomlaa.QSort
open Go.Shelf Go.RowKit Go.Lib Go.Sort Go.Proofs
set_option linter.unusedVariables false
set_option linter.unusedSimpArgs false
set_option linter.unusedSectionVars false
structure Sd (p : Prop) : Prop where
  out : p
section
variable {P : Program} {α : Type} [Inhabited α] {enc : α → Value} {w0 W : World} {blk off : Nat} {dk d0 : Array α}
/- What is asked of the comparison: in every world that the sort passes through it tells 'cf x y', and turns nothing that was there. -/
def CmpB (P : Program) (g : Nat) (cb : Array Value) (enc : α → Value) (cf : α → α → Int) (blk off size : Nat) (w : World) : Prop :=
  ∀ (m : Nat) (os : Array Obj) (dk : Array α), dk.size = size → ∀ x y : α,
    Calls P g (#[enc x, enc y] ++ cb) (sortWorld enc w blk off m dk os) fun e w' => e = .returned (.int .i64 (cf x y)) ∧ RowKit.Below (sortWorld enc w blk off m dk os).heap.size (sortWorld enc w blk off m dk os) w'
theorem sortWorld_redrawn (enc : α → Value) (w : World) (blk off m n : Nat) (dk : Array α) (os os' : Array Obj) (h : Sd (w.drawn = 0)) : grow (redrawn (sortWorld enc w blk off m dk os) n) os' = sortWorld enc w blk off n dk (os ++ os') := by
  unfold sortWorld
  show grow (grow (redrawn (putRow enc (Sort.ahead w m) blk off dk) n) os) os' = _
  rw [grow_grow]
  congr 1
  show _ = putRow enc (Sort.ahead w n) blk off dk
  simp only [putRow, mapBlock, redrawn, Sort.ahead]
  congr 1
  have := h.out
  show n = w.drawn + n
  omega
theorem sw_regrown (h : SW enc w0 blk off dk W) (h0 : Sd (w0.drawn = 0)) (n : Nat) (os : Array Obj) : SW enc w0 blk off dk (grow (redrawn W n) os) := by
  obtain ⟨m, os0, rfl⟩ := h
  exact ⟨_, _, sortWorld_redrawn enc w0 blk off m n dk os0 os h0⟩
theorem sw_belowOn (h : SW enc w0 blk off dk W) (h0 : Sd (w0.drawn = 0)) {W' : World} (hb : RowKit.Below W.heap.size W W') : SW enc w0 blk off dk W' := by
  obtain ⟨p, rfl⟩ := regrown_of_below hb
  exact sw_regrown h h0 _ _
theorem sw_clB (h : SW enc w0 blk off dk W) (h0 : Sd (w0.drawn = 0)) (R : Row1 enc w0 blk off d0) (hs : dk.size = d0.size) (i : Nat) (hi : i < dk.size) (n : Nat) (os : Array Obj) : (grow (redrawn W n) os).cell? ⟨blk, off + i, none⟩ = some (enc dk[i]!) := SW.c1 (sw_regrown h h0 n os) R hs i hi
theorem sw_cmpB {g : Nat} {cb : Array Value} {cf : α → α → Int} {size : Nat} (h : SW enc w0 blk off dk W) (h0 : Sd (w0.drawn = 0)) (hC : CmpB P g cb enc cf blk off size w0) (hs : dk.size = size) (x y : α) (n : Nat) (os : Array Obj) :
    Calls P g (#[enc x, enc y] ++ cb) (grow (redrawn W n) os) fun e w' => e = .returned (.int .i64 (cf x y)) ∧ ∃ p : Regrown, w' = grow (redrawn W p.d) p.os := by
  refine Calls.regrown_of ?_
  obtain ⟨m, os0, hw⟩ := sw_regrown h h0 n os
  rw [hw]
  exact hC m os0 dk hs x y
end
section
variable {α : Type} [Inhabited α]
/- The merge of two runs that lie side by side, by a split into halves: what it needs, in plain words. -/
def OkIn (Ok : α → α → Prop) (a m b : Nat) (d : Array α) : Prop := ∀ p q, a ≤ p → p < m → m ≤ q → q < b → Ok d[p]! d[q]!
theorem swo_le {lt : α → α → Bool} (h : SWO lt) {x y z : α} (h1 : lt y x = false) (h2 : lt z y = false) : lt z x = false := h.ntrans z y x h2 h1
theorem swo_asymm {lt : α → α → Bool} (h : SWO lt) {x y : α} (h1 : lt x y = true) : lt y x = false := by
  cases c : lt y x with
  | false => rfl
  | true => have := h.trans x y x h1 c; rw [h.irrefl] at this; cases this
/- All that lies in the first part comes ahead of all that lies in the second one. -/
def Apart (lt : α → α → Bool) (a m b : Nat) (d : Array α) : Prop := ∀ p q, a ≤ p → p < m → m ≤ q → q < b → lt d[q]! d[p]! = false
theorem sorted_join {lt : α → α → Bool} {a m b : Nat} {d : Array α} (h1 : SortedIn lt a m d) (h2 : SortedIn lt m b d) (h3 : Apart lt a m b d) : SortedIn lt a b d := by
  intro i j hi hij hj
  by_cases c1 : j < m
  · exact h1 i j hi hij c1
  · by_cases c2 : m ≤ i
    · exact h2 i j c2 hij hj
    · exact h3 i j hi (by omega) (by omega) hj
theorem apart_perm {lt : α → α → Bool} {a m b : Nat} {d d1 d2 : Array α} (hb : b ≤ d.size) (hm : m ≤ b) (h : Apart lt a m b d) (h1 : PermIn a m d d1) (h2 : PermIn m b d1 d2) : Apart lt a m b d2 := by
  have e1 : ∀ p, p < m → d2[p]! = d1[p]! := fun p hp => h2.2.1 p (.inl hp)
  have e2 : ∀ q, m ≤ q → d1[q]! = d[q]! := fun q hq => h1.2.1 q (.inr hq)
  intro p q hp hpm hmq hq
  rw [e1 p hpm]
  refine permIn_all d1 d2 m b (fun x => lt x d1[p]! = false) (by rw [h1.1]; exact hb) h2 (fun q hq1 hq2 => ?_) q hmq hq
  rw [e2 q hq1]
  exact permIn_all d d1 a m (fun x => lt d[q]! x = false) (by omega) h1 (fun p hp1 hp2 => h p q hp1 hp2 hq1 hq2) p hp hpm
theorem ok_perm {Ok : α → α → Prop} {a m b : Nat} {d d1 : Array α} (hb : b ≤ d.size) (hm : m ≤ b) (h : OkIn Ok a m b d) (lo hi : Nat) (hside : (a ≤ lo ∧ hi ≤ m) ∨ (m ≤ lo ∧ hi ≤ b) ∨ hi ≤ a ∨ b ≤ lo) (h1 : PermIn lo hi d d1) : OkIn Ok a m b d1 := by
  intro p q hp hpm hmq hq
  by_cases c1 : lo ≤ p ∧ p < hi
  · rcases hside with hs | hs | hs | hs
    · have eq : d1[q]! = d[q]! := h1.2.1 q (by omega)
      rw [eq]
      exact permIn_all d d1 lo hi (fun x => Ok x d[q]!) (by omega) h1 (fun p hp1 hp2 => h p q (by omega) (by omega) hmq hq) p c1.1 c1.2
    · omega
    · omega
    · omega
  · have ep : d1[p]! = d[p]! := h1.2.1 p (by omega)
    rw [ep]
    by_cases c2 : lo ≤ q ∧ q < hi
    · rcases hside with hs | hs | hs | hs
      · omega
      · exact permIn_all d d1 lo hi (fun x => Ok d[p]! x) (by omega) h1 (fun q hq1 hq2 => h p q hp hpm (by omega) (by omega)) q c2.1 c2.2
      · omega
      · omega
    · have eq : d1[q]! = d[q]! := h1.2.1 q (by omega)
      rw [eq]
      exact h p q hp hpm hmq hq
/- The places of a turn of [a, m) and [m, b). -/
def rotAt (a m b p : Nat) : Nat := if a ≤ p ∧ p < a + (b - m) then p + (m - a) else if a + (b - m) ≤ p ∧ p < b then p - (b - m) else p
/- What the halves are behind the split. -/
theorem split_ok {lts : α → α → Bool} {Ok : α → α → Prop} {d d1 : Array α} {a m b mid start : Nat} (hS : SWO lts) (ham : a < m) (hmb : m < b) (hb : b ≤ d.size) (hmid : mid = (a + b) / 2)
    (h1 : SortedIn lts a m d) (h2 : SortedIn lts m b d) (hok : OkIn Ok a m b d) (hlo : a ≤ start) (hlo2 : m > mid → mid + m - b ≤ start) (hhi : start ≤ m) (hhi2 : start ≤ mid)
    (hq1 : ∀ c, a ≤ c → mid + m - b ≤ c → c < start → c < m → c < mid → lts d[mid + m - 1 - c]! d[c]! = false)
    (hq2 : ∀ c, start ≤ c → c < m → c < mid → lts d[mid + m - 1 - c]! d[c]! = true)
    (hd : ∀ p, d1[p]! = d[rotAt start m (mid + m - start) p]!) :
    SortedIn lts a start d1 ∧ SortedIn lts start mid d1 ∧ SortedIn lts mid (mid + m - start) d1 ∧ SortedIn lts (mid + m - start) b d1 ∧ OkIn Ok a start mid d1 ∧ OkIn Ok mid (mid + m - start) b d1 ∧ Apart lts a mid b d1 := by
  have hmida : a < mid := by omega
  have hmidb : mid < b := by omega
  have hend : m ≤ mid + m - start := by omega
  have hendb : mid + m - start ≤ b := by omega
  have f1 : ∀ p, p < start → d1[p]! = d[p]! := fun p hp => by rw [hd]; unfold rotAt; rw [if_neg (by omega), if_neg (by omega)]
  have f2 : ∀ p, start ≤ p → p < mid → d1[p]! = d[p + (m - start)]! := fun p hp hp2 => by rw [hd]; unfold rotAt; rw [if_pos (by omega)]
  have f3 : ∀ p, mid ≤ p → p < mid + m - start → d1[p]! = d[p - (mid - start)]! := fun p hp hp2 => by
    rw [hd]; unfold rotAt; rw [if_neg (by omega), if_pos (by omega)]
    congr 1; omega
  have f4 : ∀ p, mid + m - start ≤ p → d1[p]! = d[p]! := fun p hp => by rw [hd]; unfold rotAt; rw [if_neg (by omega), if_neg (by omega)]
  refine ⟨?_, ?_, ?_, ?_, ?_, ?_, ?_⟩
  · intro i j hi hij hj
    rw [f1 i (by omega), f1 j (by omega)]
    exact h1 i j hi hij (by omega)
  · intro i j hi hij hj
    rw [f2 i hi (by omega), f2 j (by omega) hj]
    exact h2 _ _ (by omega) (by omega) (by omega)
  · intro i j hi hij hj
    rw [f3 i hi (by omega), f3 j (by omega) hj]
    exact h1 _ _ (by omega) (by omega) (by omega)
  · intro i j hi hij hj
    rw [f4 i hi, f4 j (by omega)]
    exact h2 i j (by omega) hij hj
  · intro p q hp hpm hmq hq
    rw [f1 p hpm, f2 q hmq hq]
    exact hok _ _ hp (by omega) (by omega) (by omega)
  · intro p q hp hpm hmq hq
    rw [f3 p hp hpm, f4 q hmq]
    exact hok _ _ (by omega) (by omega) (by omega) hq
  · intro p q hp hpm hmq hq
    by_cases cp : p < start
    · rw [f1 p cp]
      by_cases cq : q < mid + m - start
      · rw [f3 q hmq cq]
        exact h1 _ _ hp (by omega) (by omega)
      · rw [f4 q (by omega)]
        have hs1 : lts d[mid + m - 1 - (start - 1)]! d[start - 1]! = false := hq1 (start - 1) (by omega) (by omega) (by omega) (by omega) (by omega)
        have g1 : lts d[start - 1]! d[p]! = false := by
          by_cases c : p = start - 1
          · rw [c]; exact hS.irrefl _
          · exact h1 p (start - 1) hp (by omega) (by omega)
        have g2 : lts d[q]! d[mid + m - 1 - (start - 1)]! = false := by
          by_cases c : q = mid + m - 1 - (start - 1)
          · rw [c]; exact hS.irrefl _
          · exact h2 _ _ (by omega) (by omega) hq
        exact swo_le hS g1 (swo_le hS hs1 g2)
    · rw [f2 p (by omega) hpm]
      by_cases cq : q < mid + m - start
      · rw [f3 q hmq cq]
        have hs1 : lts d[mid + m - 1 - start]! d[start]! = true := hq2 start (Nat.le_refl _) (by omega) (by omega)
        have g1 : lts d[mid + m - 1 - start]! d[p + (m - start)]! = false := by
          by_cases c : p + (m - start) = mid + m - 1 - start
          · rw [c]; exact hS.irrefl _
          · exact h2 _ _ (by omega) (by omega) (by omega)
        have g2 : lts d[q - (mid - start)]! d[start]! = false := by
          by_cases c : q - (mid - start) = start
          · rw [c]; exact hS.irrefl _
          · exact h1 _ _ (by omega) (by omega) (by omega)
        exact swo_le hS g1 (swo_le hS (swo_asymm hS hs1) g2)
      · rw [f4 q (by omega)]
        exact h2 _ _ (by omega) (by omega) hq
end
section
variable {α : Type} [Inhabited α]
theorem single_left {lts : α → α → Bool} {d d1 : Array α} {a b i : Nat} (hS : SWO lts) (hi : a + 1 ≤ i) (hib : i ≤ b) (h2 : SortedIn lts (a + 1) b d)
    (hl : ∀ k, a + 1 ≤ k → k < i → lts d[k]! d[a]! = true) (hr : ∀ k, i ≤ k → k < b → lts d[k]! d[a]! = false) (hd : ∀ p, d1[p]! = d[rotAt a (a + 1) i p]!) : SortedIn lts a b d1 := by
  have f1 : ∀ p, a ≤ p → p < i - 1 → d1[p]! = d[p + 1]! := fun p hp hp2 => by
    rw [hd]; unfold rotAt; rw [if_pos (by omega)]
    congr 1; omega
  have f2 : d1[i - 1]! = d[a]! := by
    rw [hd]; unfold rotAt; rw [if_neg (by omega), if_pos (by omega)]
    congr 1; omega
  have f3 : ∀ p, i ≤ p → d1[p]! = d[p]! := fun p hp => by rw [hd]; unfold rotAt; rw [if_neg (by omega), if_neg (by omega)]
  intro p q hp hpq hq
  by_cases c1 : p < i - 1
  · rw [f1 p hp c1]
    by_cases c2 : q < i - 1
    · rw [f1 q (by omega) c2]
      exact h2 _ _ (by omega) (by omega) (by omega)
    · by_cases c3 : q = i - 1
      · rw [c3, f2]
        exact swo_asymm hS (hl (p + 1) (by omega) (by omega))
      · rw [f3 q (by omega)]
        exact h2 _ _ (by omega) (by omega) hq
  · by_cases c2 : p = i - 1
    · rw [c2, f2, f3 q (by omega)]
      exact hr q (by omega) hq
    · rw [f3 p (by omega), f3 q (by omega)]
      exact h2 _ _ (by omega) hpq hq
theorem single_right {lts : α → α → Bool} {d d1 : Array α} {a m i : Nat} (hS : SWO lts) (hi : a ≤ i) (him : i ≤ m) (h1 : SortedIn lts a m d)
    (hl : ∀ k, a ≤ k → k < i → lts d[m]! d[k]! = false) (hr : ∀ k, i ≤ k → k < m → lts d[m]! d[k]! = true) (hd : ∀ p, d1[p]! = d[rotAt i m (m + 1) p]!) : SortedIn lts a (m + 1) d1 := by
  have f1 : ∀ p, p < i → d1[p]! = d[p]! := fun p hp => by rw [hd]; unfold rotAt; rw [if_neg (by omega), if_neg (by omega)]
  have f2 : d1[i]! = d[m]! := by
    rw [hd]; unfold rotAt; rw [if_pos (by omega)]
    congr 1; omega
  have f3 : ∀ p, i + 1 ≤ p → p < m + 1 → d1[p]! = d[p - 1]! := fun p hp hp2 => by
    rw [hd]; unfold rotAt; rw [if_neg (by omega), if_pos (by omega)]
    congr 1; omega
  intro p q hp hpq hq
  by_cases c1 : q < i
  · rw [f1 p (by omega), f1 q c1]
    exact h1 p q hp hpq (by omega)
  · by_cases c2 : q = i
    · rw [c2, f2, f1 p (by omega)]
      exact hl p hp (by omega)
    · rw [f3 q (by omega) hq]
      by_cases c3 : p < i
      · rw [f1 p c3]
        exact h1 _ _ hp (by omega) (by omega)
      · by_cases c4 : p = i
        · rw [c4, f2]
          exact swo_asymm hS (hr (q - 1) (by omega) (by omega))
        · rw [f3 p (by omega) (by omega)]
          exact h1 _ _ (by omega) (by omega) (by omega)
/- What a look at one place tells of all on its side. -/
theorem below_true {lts : α → α → Bool} (hS : SWO lts) {x y z : α} (h1 : lts y x = false) (h2 : lts y z = true) : lts x z = true := by
  cases c : lts x z with
  | true => rfl
  | false => have := hS.ntrans y x z h1 c; rw [h2] at this; cases this
theorem above_true {lts : α → α → Bool} (hS : SWO lts) {x y z : α} (h1 : lts z y = false) (h2 : lts x y = true) : lts x z = true := by
  cases c : lts x z with
  | true => rfl
  | false => have := hS.ntrans x z y c h1; rw [h2] at this; cases this
theorem insInner_perm (lt : α → α → Bool) (a b i : Nat) (hib : i < b) : ∀ (j : Nat) (d : Array α), j ≤ i → a ≤ i → b ≤ d.size → PermIn a b d (insInner lt a j d) := by
  intro j
  induction j with
  | zero => intro d _ _ _; unfold insInner; exact permIn_refl d a b
  | succ j ih =>
    intro d hj ha hb
    unfold insInner
    split
    · rename_i h
      simp only [Bool.and_eq_true, decide_eq_true_eq] at h
      have h1 := swp_permIn d a b (j + 1) j (by omega) (by omega) (by omega) (by omega) hb
      exact permIn_trans _ _ _ _ _ h1 (ih (swp d (j + 1) j) (by omega) ha (by rw [size_swp]; exact hb))
    · exact permIn_refl d a b
theorem insInner_agree {lt lts : α → α → Bool} {Ok : α → α → Prop} (hag : ∀ x y, Ok x y → lt y x = lts y x) (a : Nat) : ∀ (j : Nat) (d : Array α), j < d.size → (∀ p, a ≤ p → p < j → Ok d[p]! d[j]!) → insInner lt a j d = insInner lts a j d := by
  intro j
  induction j with
  | zero => intro d _ _; simp [insInner]
  | succ j ih =>
    intro d hj hok
    unfold insInner
    by_cases c : j + 1 > a
    · rw [hag d[j]! d[j + 1]! (hok j (by omega) (by omega))]
      have : insInner lt a j (swp d (j + 1) j) = insInner lts a j (swp d (j + 1) j) := ih _ (by rw [size_swp]; omega) (fun p hp hpj => by
        rw [swp_other _ _ _ _ (by omega) (by omega), swp_right _ _ _ (by omega)]
        exact hok p hp (by omega))
      rw [this]
    · have : decide (j + 1 > a) = false := decide_eq_false c
      simp [this]
theorem insOuter_agree {lt lts : α → α → Bool} {Ok : α → α → Prop} (hag : ∀ x y, Ok x y → lt y x = lts y x) (a b : Nat) : ∀ (k i : Nat) (d : Array α), b - i ≤ k → a ≤ i → b ≤ d.size → (∀ p q, a ≤ p → p < q → i ≤ q → q < b → Ok d[p]! d[q]!) → insOuter lt a b i d = insOuter lts a b i d := by
  intro k
  induction k with
  | zero =>
    intro i d hk ha hb hok
    rw [insOuter_stop _ _ _ _ _ (by omega), insOuter_stop _ _ _ _ _ (by omega)]
  | succ k ih =>
    intro i d hk ha hb hok
    by_cases c : i < b
    · rw [insOuter_go _ _ _ _ _ c, insOuter_go _ _ _ _ _ c, insInner_agree hag a i d (by omega) (fun p hp hpi => hok p i hp hpi (Nat.le_refl _) c)]
      have hp := insInner_perm lts a (i + 1) i (by omega) i d (Nat.le_refl _) ha (by omega)
      refine ih (i + 1) _ (by omega) (by omega) (by rw [hp.1]; exact hb) (fun p q hp1 hpq hq hqb => ?_)
      have eq : (insInner lts a i d)[q]! = d[q]! := hp.2.1 q (by omega)
      rw [eq]
      by_cases cp : p < i + 1
      · exact permIn_all d _ a (i + 1) (fun x => Ok x d[q]!) (by omega) hp (fun p hp2 hp3 => hok p q hp2 (by omega) (by omega) hqb) p hp1 cp
      · have ep : (insInner lts a i d)[p]! = d[p]! := hp.2.1 p (by omega)
        rw [ep]
        exact hok p q hp1 hpq (by omega) hqb
    · rw [insOuter_stop _ _ _ _ _ c, insOuter_stop _ _ _ _ _ c]
theorem ins_block {lt lts : α → α → Bool} {Ok : α → α → Prop} (hS : SWO lts) (hag : ∀ x y, Ok x y → lt y x = lts y x) (d : Array α) (a b : Nat) (hab : a ≤ b) (hb : b ≤ d.size) (hok : ∀ p q, a ≤ p → p < q → q < b → Ok d[p]! d[q]!) : PermIn a b d (insertionSort lt d a b) ∧ SortedIn lts a b (insertionSort lt d a b) := by
  have e : insertionSort lt d a b = insertionSort lts d a b := insOuter_agree hag a b _ (a + 1) d (Nat.le_refl _) (by omega) hb (fun p q hp hpq _ hq => hok p q hp hpq hq)
  rw [e]
  exact insertionSort_holds hS d a b hab hb
end
section
variable {α : Type} [Inhabited α]
theorem sorted_congr {lt : α → α → Bool} {lo hi : Nat} {d d1 : Array α} (h : SortedIn lt lo hi d) (he : ∀ i, lo ≤ i → i < hi → d1[i]! = d[i]!) : SortedIn lt lo hi d1 := by
  intro i j h1 h2 h3
  rw [he i h1 (by omega), he j (by omega) h3]
  exact h i j h1 h2 h3
theorem sorted_sub {lt : α → α → Bool} {a b lo hi : Nat} {d : Array α} (h : SortedIn lt a b d) (h1 : a ≤ lo) (h2 : hi ≤ b) : SortedIn lt lo hi d := fun i j hi hij hj => h i j (by omega) hij (by omega)
/- What a row is whose parts between some bounds are sorted, and whose parts stand to each other as they did. -/
def Good (lts : α → α → Bool) (Ok : α → α → Prop) (n : Nat) (Bd : Nat → Prop) (d : Array α) : Prop :=
  (∀ B, 0 < B → B < n → Bd B → OkIn Ok 0 B n d) ∧ (∀ lo hi, hi ≤ n → (∀ B, lo < B → B < hi → ¬ Bd B) → SortedIn lts lo hi d)
theorem good_iff {lts : α → α → Bool} {Ok : α → α → Prop} {n : Nat} {Bd Bd' : Nat → Prop} {d : Array α} (G : Good lts Ok n Bd d) (h : ∀ B, 0 < B → B < n → (Bd B ↔ Bd' B)) : Good lts Ok n Bd' d :=
  ⟨fun B h1 h2 h3 => G.1 B h1 h2 ((h B h1 h2).2 h3), fun lo hi h1 h2 => G.2 lo hi h1 (fun B h3 h4 h5 => h2 B h3 h4 ((h B (by omega) (by omega)).1 h5))⟩
theorem good_step {lts : α → α → Bool} {Ok : α → α → Prop} {n a b : Nat} {Bd : Nat → Prop} {d d1 : Array α} (G : Good lts Ok n Bd d) (hn : n ≤ d.size) (hab : a ≤ b) (hb : b ≤ n) (ha : a = 0 ∨ Bd a) (hbd : b = n ∨ Bd b) (P : PermIn a b d d1) (S : SortedIn lts a b d1) :
    Good lts Ok n (fun B => Bd B ∧ ¬ (a < B ∧ B < b)) d1 := by
  refine ⟨fun B h1 h2 h3 => ?_, fun lo hi h1 h2 => ?_⟩
  · exact ok_perm hn (Nat.le_of_lt h2) (G.1 B h1 h2 h3.1) a b (by omega) P
  · by_cases c1 : lo < a
    · by_cases c2 : hi ≤ a
      · refine sorted_congr (G.2 lo hi h1 (fun B h3 h4 h5 => h2 B h3 h4 ⟨h5, by omega⟩)) (fun i h3 h4 => P.2.1 i (.inl (by omega)))
      · exact absurd ⟨ha.resolve_left (by omega), by omega⟩ (h2 a c1 (by omega))
    · by_cases c2 : hi ≤ b
      · exact sorted_sub S (by omega) c2
      · by_cases c3 : lo < b
        · exact absurd ⟨hbd.resolve_left (by omega), by omega⟩ (h2 b c3 (by omega))
        · refine sorted_congr (G.2 lo hi h1 (fun B h3 h4 h5 => h2 B h3 h4 ⟨h5, by omega⟩)) (fun i h3 h4 => P.2.1 i (.inr (by omega)))
theorem good_start {lts : α → α → Bool} {Ok : α → α → Prop} {n : Nat} {d : Array α} (h : ∀ p q, p < q → q < n → Ok d[p]! d[q]!) : Good lts Ok n (fun B => 0 ≤ B ∨ B % 20 = 0) d :=
  ⟨fun B _ _ _ p q _ h1 h2 h3 => h p q (by omega) h3, fun lo hi h1 h2 i j h3 h4 h5 => absurd (.inl (by omega)) (h2 j (by omega) h5)⟩
theorem good_ok {lts : α → α → Bool} {Ok : α → α → Prop} {n a m b : Nat} {Bd : Nat → Prop} {d : Array α} (G : Good lts Ok n Bd d) (h0 : 0 < m) (hm : m < n) (hb : b ≤ n) (h : Bd m) : OkIn Ok a m b d := fun p q h1 h2 h3 h4 => G.1 m h0 hm h p q (Nat.zero_le _) h2 h3 (by omega)
/- The bounds that are left while blocks of s become blocks of 2 s; those up to a are such ones. -/
def Bnd (s a B : Nat) : Prop := s ∣ B ∧ (B < a → 2 * s ∣ B)
theorem bnd_step {s a B : Nat} (hs : 0 < s) (ha : 2 * s ∣ a) : (Bnd s a B ∧ ¬ (a < B ∧ B < a + 2 * s)) ↔ Bnd s (a + 2 * s) B := by
  constructor
  · rintro ⟨⟨h1, h2⟩, h3⟩
    refine ⟨h1, fun h4 => ?_⟩
    by_cases c : B < a
    · exact h2 c
    · have : B = a := by omega
      rw [this]; exact ha
  · rintro ⟨h1, h2⟩
    refine ⟨⟨h1, fun h3 => h2 (by omega)⟩, fun ⟨h3, h4⟩ => ?_⟩
    have h5 := Nat.dvd_sub (h2 h4) ha
    have h6 := Nat.le_of_dvd (by omega) h5
    omega
theorem bnd_next {s : Nat} {B : Nat} : (2 * s ∣ B) ↔ Bnd (2 * s) 0 B := ⟨fun h => ⟨h, fun h => by omega⟩, fun h => h.1⟩
theorem bnd_last {s a n B : Nat} (hs : 0 < s) (ha : 2 * s ∣ a) (hn : n < a + 2 * s) (hB : B < n) : (Bnd s a B ∧ ¬ (a < B ∧ B < n)) ↔ Bnd (2 * s) 0 B := by
  rw [← bnd_next]
  constructor
  · rintro ⟨⟨h1, h2⟩, h3⟩
    by_cases c : B < a
    · exact h2 c
    · have : B = a := by omega
      rw [this]; exact ha
  · intro h1
    refine ⟨⟨Nat.dvd_trans (Nat.dvd_mul_left s 2) h1, fun _ => h1⟩, fun ⟨h3, h4⟩ => ?_⟩
    have h5 := Nat.dvd_sub h1 ha
    have h6 := Nat.le_of_dvd (by omega) h5
    omega
theorem bnd_over {s a n B : Nat} (hs : 0 < s) (ha : 2 * s ∣ a) (hn : n ≤ a + s) (hB : B < n) : Bnd s a B ↔ Bnd (2 * s) 0 B := by
  rw [← bnd_next]
  constructor
  · rintro ⟨h1, h2⟩
    by_cases c : B < a
    · exact h2 c
    · have h3 : s ∣ a := Nat.dvd_trans (Nat.dvd_mul_left s 2) ha
      have h5 := Nat.dvd_sub h1 h3
      by_cases c2 : B = a
      · rw [c2]; exact ha
      · have h6 := Nat.le_of_dvd (by omega) h5
        omega
  · intro h1
    exact ⟨Nat.dvd_trans (Nat.dvd_mul_left s 2) h1, fun _ => h1⟩
theorem bnd_mid {s a : Nat} (ha : 2 * s ∣ a) : Bnd s a (a + s) := ⟨Nat.dvd_add (Nat.dvd_trans (Nat.dvd_mul_left s 2) ha) (Nat.dvd_refl s), fun h => by omega⟩
theorem bnd_at {s a : Nat} (ha : 2 * s ∣ a) : Bnd s a a := ⟨Nat.dvd_trans (Nat.dvd_mul_left s 2) ha, fun h => by omega⟩
theorem bnd_end {s a : Nat} (ha : 2 * s ∣ a) : Bnd s a (a + 2 * s) := ⟨Nat.dvd_trans (Nat.dvd_mul_left s 2) (Nat.dvd_add ha (Nat.dvd_refl _)), fun h => by omega⟩
theorem bnd_one {s a B : Nat} (hs : 0 < s) (ha : 2 * s ∣ a) (h1 : a < B) (h2 : B < a + s) : ¬ Bnd s a B := by
  rintro ⟨h3, h4⟩
  have h5 := Nat.dvd_sub h3 (Nat.dvd_trans (Nat.dvd_mul_left s 2) ha)
  have h6 := Nat.le_of_dvd (by omega) h5
  omega
theorem bnd_two {s a B : Nat} (hs : 0 < s) (ha : 2 * s ∣ a) (h1 : a + s < B) (h2 : B < a + 2 * s) : ¬ Bnd s a B := by
  rintro ⟨h3, h4⟩
  have h5 := Nat.dvd_sub h3 (Nat.dvd_add (Nat.dvd_trans (Nat.dvd_mul_left s 2) ha) (Nat.dvd_refl s))
  have h6 := Nat.le_of_dvd (by omega) h5
  omega
theorem bnd_20 {B : Nat} : B % 20 = 0 ↔ Bnd 20 0 B := ⟨fun h => ⟨Nat.dvd_of_mod_eq_zero h, fun h => by omega⟩, fun h => Nat.mod_eq_zero_of_dvd h.1⟩
theorem good_end {lts : α → α → Bool} {Ok : α → α → Prop} {n s : Nat} {d : Array α} (G : Good lts Ok n (Bnd s 0) d) (hs : n ≤ s) : SortedIn lts 0 n d :=
  G.2 0 n (Nat.le_refl _) (fun B h1 h2 h3 => by have := Nat.le_of_dvd h1 h3.1; omega)
/- The place that the search of a merge tells, one step on. -/
theorem sym_false {lts : α → α → Bool} {d : Array α} {a m b p lo c : Nat} (hS : SWO lts) (h1 : SortedIn lts a m d) (h2 : SortedIn lts m b d) (hlo : a ≤ lo) (hp : p - lo < b) (hc : c < m) (hcm : m ≤ p - c) (h : lts d[p - c]! d[c]! = false) (k : Nat) (hk : lo ≤ k) (hkc : k ≤ c) : lts d[p - k]! d[k]! = false := by
  by_cases e : k = c
  · rw [e]; exact h
  · exact swo_le hS (h1 k c (by omega) (by omega) hc) (swo_le hS h (h2 (p - c) (p - k) hcm (by omega) (by omega)))
theorem sym_true {lts : α → α → Bool} {d : Array α} {a m b p hi c : Nat} (hS : SWO lts) (h1 : SortedIn lts a m d) (h2 : SortedIn lts m b d) (hhi : hi ≤ m) (hp : m + hi ≤ p + 1) (hc : a ≤ c) (hcb : p - c < b) (h : lts d[p - c]! d[c]! = true) (k : Nat) (hk : c ≤ k) (hkc : k < hi) : lts d[p - k]! d[k]! = true := by
  by_cases e : k = c
  · rw [e]; exact h
  · exact above_true hS (h1 c k hc (by omega) (by omega)) (below_true hS (h2 (p - k) (p - c) (by omega) (by omega) hcb) h)
theorem rot_idle {m e p : Nat} (start : Nat) (h : ¬ (start < m ∧ m < e)) (h1 : start ≤ m) (h2 : m ≤ e) : rotAt start m e p = p := by
  unfold rotAt
  split <;> (try split) <;> omega
end

end Go.Proofs.Ytpkhdljlhdomlaa.QSort
