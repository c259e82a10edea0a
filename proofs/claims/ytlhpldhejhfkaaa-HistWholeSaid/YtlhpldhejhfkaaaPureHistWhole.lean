import Derived.Test.YtlhpldhejhfkaaaQHistWholex5
import Derived.Lib.Mul64
import Derived.Laws.MathBits
/- HistWhole: the pure statement of the law HistWhole, proved: over the functions that the printer wrote for the Go code. No condition beside the statement's own. -/
namespace Go.Proofs.Ytlhpldhejhfkaaa.Pure
open Go.RowKit Go.Proofs.Ytlhpldhejhfkaaa.QHistWhole Go.Proofs.YtlhpldhejhfkaaaW.PrintWords Go.Proofs.YtlhpldhejhfkaaaW.PrintLast Go.Proofs.YtlhpldhejhfkaaaW.PrintMore
set_option linter.unusedVariables false

/- BLOCK clip: what hist.Clip, Add, Mul compute -/
def clipI (x : Int) : Int := mn (mx x 0) 1000000000000
theorem clip_b (x : Int) : 0 ≤ clipI x ∧ clipI x ≤ 1000000000000 := by unfold clipI mn mx; (repeat' split) <;> omega
theorem clip_id {x : Int} (h0 : 0 ≤ x) (h1 : x ≤ 1000000000000) : clipI x = x := by unfold clipI mn mx; (repeat' split) <;> omega
theorem clip_hi {x : Int} (h1 : 1000000000000 ≤ x) : clipI x = 1000000000000 := by unfold clipI mn mx; (repeat' split) <;> omega
theorem clip_lo {x : Int} (h1 : x ≤ 0) : clipI x = 0 := by unfold clipI mn mx; (repeat' split) <;> omega
theorem clip_mono {x y : Int} (h : x ≤ y) : clipI x ≤ clipI y := by unfold clipI mn mx; (repeat' split) <;> omega
def addI (a b : Int) : Int := clipI (clipI a + clipI b)
def mulI (a b : Int) : Int := clipI (clipI a * clipI b)
theorem add_b (a b : Int) : 0 ≤ addI a b ∧ addI a b ≤ 1000000000000 := clip_b _
theorem mul_b (a b : Int) : 0 ≤ mulI a b ∧ mulI a b ≤ 1000000000000 := clip_b _
theorem mul_mono {a b c d : Int} (h : a ≤ b) (k : c ≤ d) : mulI a c ≤ mulI b d := by
  unfold mulI
  exact clip_mono (Int.mul_le_mul (clip_mono h) (clip_mono k) (clip_b _).1 (clip_b _).1)
theorem add_mono {a b c d : Int} (h : a ≤ b) (k : c ≤ d) : addI a c ≤ addI b d := by
  unfold addI
  have := clip_mono h; have := clip_mono k
  exact clip_mono (by omega)
def sumI : List Int → Int
  | [] => 0
  | x :: l => clipI x + sumI l
theorem sumI_nn (l : List Int) : 0 ≤ sumI l := by
  induction l with
  | nil => exact Int.le_refl 0
  | cons x l ih => have := clip_b x; simp only [sumI]; omega
theorem sumI_app (a b : List Int) : sumI (a ++ b) = sumI a + sumI b := by
  induction a with
  | nil => simp [sumI]
  | cons x l ih => simp only [List.cons_append, sumI, ih]; omega
theorem sumI_rev (l : List Int) : sumI l.reverse = sumI l := by
  induction l with
  | nil => rfl
  | cons x l ih => simp only [List.reverse_cons, sumI_app, sumI, ih]; omega
def totI (l : List Int) : Int := clipI (sumI l)

/- BLOCK mul64: what bits.Mul64's text computes -/
theorem mul64_eq (x y : Int) (hx0 : 0 ≤ x) (hx : x < 18446744073709551616) (hy0 : 0 ≤ y) (hy : y < 18446744073709551616) :
    bits_Mul64.f x y = some (x * y / 18446744073709551616, x * y % 18446744073709551616) := by
  obtain ⟨a, rfl⟩ := Int.eq_ofNat_of_zero_le hx0
  obtain ⟨b, rfl⟩ := Int.eq_ofNat_of_zero_le hy0
  have ha : a < 18446744073709551616 := by omega
  have hb : b < 18446744073709551616 := by omega
  obtain ⟨h1, h2, h3, h4⟩ := Go.Lib.mul64_hi a b ha hb
  have q1 := Go.Lib.half_mul_le (a := a / 4294967296) (b := b / 4294967296) (by omega) (by omega)
  have q2 := Go.Lib.half_mul_le (a := a / 4294967296) (b := b % 4294967296) (by omega) (by omega)
  have q3 := Go.Lib.half_mul_le (a := a % 4294967296) (b := b / 4294967296) (by omega) (by omega)
  have q4 := Go.Lib.half_mul_le (a := a % 4294967296) (b := b % 4294967296) (by omega) (by omega)
  unfold bits_Mul64.f
  rw [and_low32 (a : Int) (by omega) (by omega), and_low32 (b : Int) (by omega) (by omega)]
  simp only [u64m]
  have e1 : ((a : Int) / 4294967296) * ((b : Int) % 4294967296) = (((a / 4294967296) * (b % 4294967296) : Nat) : Int) := rfl
  have e2 : ((a : Int) % 4294967296) * ((b : Int) % 4294967296) = (((a % 4294967296) * (b % 4294967296) : Nat) : Int) := rfl
  have e3 : ((a : Int) % 4294967296) * ((b : Int) / 4294967296) = (((a % 4294967296) * (b / 4294967296) : Nat) : Int) := rfl
  have e4 : ((a : Int) / 4294967296) * ((b : Int) / 4294967296) = (((a / 4294967296) * (b / 4294967296) : Nat) : Int) := rfl
  have e5 : (a : Int) * (b : Int) = ((a * b : Nat) : Int) := rfl
  rw [e1, e2, e3, e4, e5, and_low32 _ (by omega) (by omega)]
  generalize (a / 4294967296) * (b / 4294967296) = p1 at *
  generalize (a / 4294967296) * (b % 4294967296) = p2 at *
  generalize (a % 4294967296) * (b / 4294967296) = p3 at *
  generalize (a % 4294967296) * (b % 4294967296) = p4 at *
  generalize a * b = p at *
  congr 1
  rw [Prod.mk.injEq]
  exact ⟨by omega, rfl⟩

/- BLOCK histarith: hist.Clip, Add, Mul as printed -/
theorem hist_Clip_eq (x : Int) : hist_Clip.f x = some (clipI x) := rfl
theorem hist_Add_eq (a b : Int) : hist_Add.f a b = some (addI a b) := by
  unfold hist_Add.f
  simp only [hist_Clip_eq, Option.bind_some]
  have := clip_b a; have := clip_b b
  rw [w64 (by omega) (by omega)]; rfl
theorem hist_Mul_eq (a b : Int) : hist_Mul.f a b = some (mulI a b) := by
  unfold hist_Mul.f
  simp only [hist_Clip_eq, Option.bind_some]
  obtain ⟨ha0, ha1⟩ := clip_b a
  obtain ⟨hb0, hb1⟩ := clip_b b
  rw [u64w ha0 (by omega), u64w hb0 (by omega), mul64_eq _ _ ha0 (by omega) hb0 (by omega)]
  simp only [Option.bind_some]
  unfold mulI
  have hp : 0 ≤ clipI a * clipI b := Int.mul_nonneg ha0 hb0
  generalize clipI a * clipI b = p at *
  by_cases h : p / 18446744073709551616 = 0
  · rw [if_pos h]
    have : p % 18446744073709551616 = p := by omega
    rw [this]
    show some (wrap64 (clipI p)) = some (clipI p)
    have := clip_b p
    rw [w64 (by omega) (by omega)]
  · rw [if_neg h, clip_hi (by omega)]

/- BLOCK histsome: hist.Many, Below, Part as told -/
theorem histAdd_eq (a b : Int) : histAdd a b = addI a b := by unfold histAdd; rw [hist_Add_eq]; rfl
theorem someI_b (p : S39 → Bool) (l : List S39) : 0 ≤ someI p l ∧ someI p l ≤ 1000000000000 := by
  have key : ∀ (l : List S39) (n : Int), (0 ≤ n ∧ n ≤ 1000000000000) → 0 ≤ l.foldl (fun n s => if p s = true then histAdd n s.f1 else n) n ∧ l.foldl (fun n s => if p s = true then histAdd n s.f1 else n) n ≤ 1000000000000 := by
    intro l
    induction l with
    | nil => intro n h; exact h
    | cons s l ih =>
      intro n h
      simp only [List.foldl_cons]
      apply ih
      split
      · rw [histAdd_eq]; exact add_b _ _
      · exact h
  exact key l 0 (by omega)
theorem add_clip (s x : Int) (hs : 0 ≤ s) : addI (clipI s) x = clipI (s + clipI x) := by
  unfold addI
  have hb := clip_b x
  have hcs := clip_b s
  generalize clipI x = c at *
  rw [clip_id hcs.1 hcs.2]
  unfold clipI mn mx
  (repeat' split) <;> omega
theorem someI_sum (p : S39 → Bool) (l : List S39) : someI p l = clipI (sumI ((l.filter p).map (·.f1))) := by
  have key : ∀ (l : List S39) (s : Int), 0 ≤ s → l.foldl (fun n x => if p x = true then histAdd n x.f1 else n) (clipI s) = clipI (s + sumI ((l.filter p).map (·.f1))) := by
    intro l
    induction l with
    | nil => intro s h; simp [sumI]
    | cons x l ih =>
      intro s h
      simp only [List.foldl_cons]
      by_cases hp : p x = true
      · rw [if_pos hp, List.filter_cons_of_pos hp, histAdd_eq, add_clip s _ h, ih _ (by have := clip_b x.f1; omega)]
        simp only [List.map_cons, sumI]
        rw [Int.add_assoc]
      · rw [if_neg hp, List.filter_cons_of_neg hp, ih s h]
  have := key l 0 (by omega)
  rw [Int.zero_add] at this
  exact this
theorem cV_rng (a0 a1 : Int) (a2 : ByteArray) (b0 b1 : Int) (b2 : ByteArray) : -1 ≤ cV a0 a1 a2 b0 b1 b2 ∧ cV a0 a1 a2 b0 b1 b2 ≤ 1 := ordV.rng _ _
def manyI (l : List S39) : Int := someI (fun _ => true) l
def belowI (l : List S39) (v : S31) (too : Bool) : Int := someI (belowP v (if too = true then 0 else -1)) l
theorem hist_Many_eq (a b : Int) (l : List S39) : hist_Many.f a b l = some (manyI l) := rfl
theorem hist_Below_eq (a b : Int) (l : List S39) (v0 v1 : Int) (v2 : ByteArray) (too : Bool) : hist_Below.f a b l v0 v1 v2 too = some (belowI l ⟨v0, v1, v2⟩ too) := rfl
theorem manyI_b (l : List S39) : 0 ≤ manyI l ∧ manyI l ≤ 1000000000000 := someI_b _ _
theorem belowI_b (l : List S39) (v : S31) (too : Bool) : 0 ≤ belowI l v too ∧ belowI l v too ≤ 1000000000000 := someI_b _ _
def partI (op d : Int) (l : List S39) (v : S31) : Int × Int :=
  if op = 9 then (1, mx 1 (clipI d)) else if op = 10 then (mx 1 (clipI d) - 1, mx 1 (clipI d)) else
  if op = 11 ∨ op = 12 then (belowI l v (op == 12), mx 1 (manyI l)) else
  if op = 13 ∨ op = 14 then (if manyI l > 0 then (mx 0 (manyI l - belowI l v (op == 13)), manyI l) else (1, 1)) else (1, 3)
theorem mx1_w (x : Int) (h : 0 ≤ x ∧ x ≤ 1000000000000) : wrap64 (mx 1 x - 1) = mx 1 x - 1 := by unfold mx; split <;> exact w64 (by omega) (by omega)
theorem hist_Part_j1_ev (op a b d n : Int) (l : List S39) (v0 v1 : Int) (v2 : ByteArray) (t : Bool) (ht : t = decide (op = 13 ∨ op = 14)) (h9 : ¬ (op = 11 ∨ op = 12)) (e9 : ¬ op = 9) (e10 : ¬ op = 10) :
    Ev (fun k => hist_Part.j1 k op (manyI l) t a b l v0 v1 v2) (partI op d l ⟨v0, v1, v2⟩) := by
  refine Ev.step (fun k => rfl) ?_
  simp only [hist_Part.j1, hist_Below_eq, Option.bind_some]
  have hm := manyI_b l
  have hb := belowI_b l ⟨v0, v1, v2⟩ (op == 13)
  unfold partI
  rw [if_neg e9, if_neg e10, if_neg h9]
  by_cases h : op = 13 ∨ op = 14
  · rw [if_pos h]
    refine ev_pos (by rw [ht]; exact decide_eq_true h) ?_
    by_cases c : manyI l > 0
    · refine ev_pos c ?_
      rw [if_pos c, w64 (by omega) (by omega)]; exact ev_some _
    · refine ev_neg c ?_
      rw [if_neg c]; exact ev_some _
  · rw [if_neg h]
    exact ev_neg (by rw [ht, decide_eq_false h]; decide) (ev_some _)
theorem hist_Part_j0_ev (op a b d : Int) (l : List S39) (v0 v1 : Int) (v2 : ByteArray) (t : Bool) (ht : t = decide (op = 11 ∨ op = 12)) (e9 : ¬ op = 9) (e10 : ¬ op = 10) :
    Ev (fun k => hist_Part.j0 k op (manyI l) op t a b l v0 v1 v2) (partI op d l ⟨v0, v1, v2⟩) := by
  refine Ev.step (fun k => rfl) ?_
  simp only [hist_Part.j0, hist_Below_eq, Option.bind_some]
  by_cases h : op = 11 ∨ op = 12
  · refine ev_pos (by rw [ht]; exact decide_eq_true h) ?_
    unfold partI
    rw [if_neg e9, if_neg e10, if_pos h]
    exact ev_some _
  · refine ev_neg (by rw [ht, decide_eq_false h]; decide) ?_
    by_cases c : op = 13
    · exact ev_pos c (hist_Part_j1_ev op a b d 0 l v0 v1 v2 _ (by subst c; rfl) h e9 e10)
    · refine ev_neg c (hist_Part_j1_ev op a b d 0 l v0 v1 v2 _ ?_ h e9 e10)
      rw [Bool.eq_iff_iff, beq_iff_eq, decide_eq_true_eq]
      exact ⟨fun h => .inr h, fun h => h.resolve_left c⟩
theorem hist_Part_ev (op d n : Int) (l : List S39) (v0 v1 : Int) (v2 : ByteArray) : Ev (fun k => hist_Part.f k op d n l v0 v1 v2) (partI op d l ⟨v0, v1, v2⟩) := by
  unfold hist_Part.f
  simp only [hist_Clip_eq, hist_Many_eq, Option.bind_some]
  by_cases c9 : op = 9
  · refine ev_pos c9 ?_
    unfold partI; rw [if_pos c9]; exact ev_some _
  · refine ev_neg c9 ?_
    by_cases c10 : op = 10
    · refine ev_pos c10 ?_
      unfold partI; rw [if_neg c9, if_pos c10, mx1_w _ (clip_b d)]; exact ev_some _
    · refine ev_neg c10 ?_
      by_cases c11 : op = 11
      · exact ev_pos c11 (hist_Part_j0_ev op d n d l v0 v1 v2 _ (by subst c11; rfl) c9 c10)
      · refine ev_neg c11 (hist_Part_j0_ev op d n d l v0 v1 v2 _ ?_ c9 c10)
        rw [Bool.eq_iff_iff, beq_iff_eq, decide_eq_true_eq]
        exact ⟨fun h => .inr h, fun h => h.resolve_left c11⟩
theorem rdT_get (l : List S39) (i : Int) (h : i.toNat < l.length) : rd_T39 l i = l[i.toNat] := by
  unfold rd_T39; rw [List.getD_eq_getElem?_getD, List.getElem?_eq_getElem h]; rfl

/- BLOCK the law HistWhole -/
theorem examples_ev : Ev (fun k => weathercocklaw13_examples.f k) true := Ev.of weathercocklaw13_examples.mono (k := 40) (by decide +kernel)
theorem someI_le (p q : S39 → Bool) (h : ∀ s, p s = true → q s = true) (l : List S39) : someI p l ≤ someI q l := by
  rw [someI_sum, someI_sum]
  apply clip_mono
  induction l with
  | nil => exact Int.le_refl _
  | cons s l ih =>
    have hb := clip_b s.f1
    by_cases hp : p s = true
    · rw [List.filter_cons_of_pos hp, List.filter_cons_of_pos (h s hp)]
      simp only [List.map_cons, sumI]; omega
    · rw [List.filter_cons_of_neg hp]
      by_cases hq : q s = true
      · rw [List.filter_cons_of_pos hq]
        simp only [List.map_cons, sumI]; omega
      · rw [List.filter_cons_of_neg hq]; exact ih
theorem someI_more (p : S39 → Bool) (l : List S39) (s : S39) : someI p l ≤ someI p (l ++ [s]) := by
  rw [someI_sum, someI_sum]
  apply clip_mono
  rw [List.filter_append, List.map_append, sumI_app]
  have := sumI_nn (([s].filter p).map (·.f1))
  omega
theorem below_many (l : List S39) (v : S31) (too : Bool) : belowI l v too ≤ manyI l := someI_le _ _ (fun _ _ => rfl) l
theorem below_too (l : List S39) (v : S31) : belowI l v false ≤ belowI l v true := someI_le _ _ (fun s h => by
  unfold belowP at h ⊢
  rw [decide_eq_true_eq] at h ⊢
  simp only [Bool.false_eq_true, if_false, if_true] at h ⊢
  omega) l
theorem partI_ok (op d : Int) (l : List S39) (v : S31) : 0 ≤ (partI op d l v).1 ∧ 1 ≤ (partI op d l v).2 ∧ (partI op d l v).1 ≤ (partI op d l v).2 := by
  have hc := clip_b d
  have hm := manyI_b l
  have b1 := belowI_b l v (op == 12)
  have b2 := belowI_b l v (op == 13)
  have m1 := below_many l v (op == 12)
  have m2 := below_many l v (op == 13)
  unfold partI mx
  (repeat' split) <;> simp only <;> omega
theorem j1_ev (x11 x15 : Int) (hx : x15 ≤ x11) (a b : Int) (l : List S39) (hl : l.length * 40 ≤ 140737488351232) (v0 v1 : Int) (v2 : ByteArray) (m0 m1 : Int) (m2 : ByteArray) (m3 : Int) (t : Bool) (ht : t = false) :
    Ev (fun k => weathercocklaw13_HistWhole.j1 k true x11 x15 t a b l v0 v1 v2 m0 m1 m2 m3) true := by
  subst ht
  refine Ev.step (fun k => rfl) ?_
  simp only [weathercocklaw13_HistWhole.j1, hist_Many_eq, hist_Below_eq, Option.bind_some, List.nil_append]
  refine ev_neg (by decide) (ev_pos (by simp only [List.length_nil]; omega) (ev_pos (by simp only [List.length_cons, List.length_nil]; omega) (ev_pos (by first | trivial | rfl) (ev_pos hx ?_))))
  refine ev_pos (someI_more _ l _) (ev_pos (someI_more _ l _) ?_)
  rw [decide_eq_true (below_too l _)]; exact ev_some _
theorem end_ev (a b : Int) (l : List S39) (hl : l.length * 40 ≤ 140737488351232) (v0 v1 : Int) (v2 : ByteArray) (m0 m1 : Int) (m2 : ByteArray) (m3 : Int) (i : Int) (hi : ¬ i ≤ 18) :
    Ev (fun k => weathercocklaw13_HistWhole.l0 k true i a b l v0 v1 v2 m0 m1 m2 m3) true := by
  refine Ev.step (fun k => rfl) ?_
  simp only [weathercocklaw13_HistWhole.l0]
  refine ev_neg hi (Ev.bind (hist_Part_ev 12 a b l v0 v1 v2) (Ev.bind (hist_Part_ev 13 a b l v0 v1 v2) (Ev.bind (hist_Part_ev 11 a b l v0 v1 v2) (Ev.bind (hist_Part_ev 14 a b l v0 v1 v2) ?_))))
  simp only [hist_Many_eq, Option.bind_some]
  have hm := manyI_b l
  have b1 := belowI_b l ⟨v0, v1, v2⟩ true
  have b2 := belowI_b l ⟨v0, v1, v2⟩ false
  have m1' := below_many l ⟨v0, v1, v2⟩ true
  have m2' := below_many l ⟨v0, v1, v2⟩ false
  have bt := below_too l ⟨v0, v1, v2⟩
  have p12 : partI 12 a l ⟨v0, v1, v2⟩ = (belowI l ⟨v0, v1, v2⟩ true, mx 1 (manyI l)) := rfl
  have p11 : partI 11 a l ⟨v0, v1, v2⟩ = (belowI l ⟨v0, v1, v2⟩ false, mx 1 (manyI l)) := rfl
  have p13 : partI 13 a l ⟨v0, v1, v2⟩ = if manyI l > 0 then (mx 0 (manyI l - belowI l ⟨v0, v1, v2⟩ true), manyI l) else (1, 1) := rfl
  have p14 : partI 14 a l ⟨v0, v1, v2⟩ = if manyI l > 0 then (mx 0 (manyI l - belowI l ⟨v0, v1, v2⟩ false), manyI l) else (1, 1) := rfl
  rw [p12, p11, p13, p14]
  by_cases c : manyI l > 0
  · rw [if_pos c, if_pos c]
    have e1 : mx 1 (manyI l) = manyI l := by unfold mx; split <;> omega
    have e2 : mx 0 (manyI l - belowI l ⟨v0, v1, v2⟩ true) = manyI l - belowI l ⟨v0, v1, v2⟩ true := by unfold mx; split <;> omega
    have e3 : mx 0 (manyI l - belowI l ⟨v0, v1, v2⟩ false) = manyI l - belowI l ⟨v0, v1, v2⟩ false := by unfold mx; split <;> omega
    have w1 : wrap64 (belowI l ⟨v0, v1, v2⟩ true + (manyI l - belowI l ⟨v0, v1, v2⟩ true)) = manyI l := by rw [w64 (by omega) (by omega)]; omega
    have w2 : wrap64 (belowI l ⟨v0, v1, v2⟩ false + (manyI l - belowI l ⟨v0, v1, v2⟩ false)) = manyI l := by rw [w64 (by omega) (by omega)]; omega
    simp only [e1, e2, e3, w1, w2]
    refine ev_pos c (ev_pos (by first | trivial | rfl) (ev_pos (by first | trivial | rfl) (ev_pos (by first | trivial | rfl) ?_)))
    exact j1_ev _ _ bt a b l hl v0 v1 v2 m0 m1 m2 m3 _ (by simp)
  · rw [if_neg c, if_neg c]
    exact ev_neg c (j1_ev _ _ bt a b l hl v0 v1 v2 m0 m1 m2 m3 _ rfl)
theorem l0_ev (a b : Int) (l : List S39) (hl : l.length * 40 ≤ 140737488351232) (v0 v1 : Int) (v2 : ByteArray) (m0 m1 : Int) (m2 : ByteArray) (m3 : Int) (d : Nat) : ∀ i : Int, 0 ≤ i → 19 - i = d →
    Ev (fun k => weathercocklaw13_HistWhole.l0 k true i a b l v0 v1 v2 m0 m1 m2 m3) true := by
  induction d with
  | zero => intro i h0 hd; exact end_ev a b l hl v0 v1 v2 m0 m1 m2 m3 i (by omega)
  | succ d ih =>
    intro i h0 hd
    have p := partI_ok i a l ⟨v0, v1, v2⟩
    refine Ev.step (fun k => rfl) ?_
    simp only [weathercocklaw13_HistWhole.l0]
    refine ev_pos (by omega) (Ev.bind (hist_Part_ev i a b l v0 v1 v2) (ev_neg (by omega) (ev_neg (by omega) (ev_neg (by omega) ?_))))
    rw [w64 (by omega) (by omega)]
    exact ih (i + 1) (by omega) (by omega)
theorem HistWhole : weathercocklaw13_HistWhole.Pure := by
  intro a b l v0 v1 v2 m0 m1 m2 m3 _ _ hl _ _ _ _ _ _ _
  apply Ev.rounds
  unfold weathercocklaw13_HistWhole.f
  exact Ev.bind examples_ev (l0_ev a b l hl.2.1 v0 v1 v2 m0 m1 m2 m3 10 9 (by omega) (by omega))

end Go.Proofs.Ytlhpldhejhfkaaa.Pure
