import Derived.Test.YtlhpldhejhfkaaaQHistOrderx4
import Derived.Lib.Mul64
import Derived.Laws.MathBits
/- HistOrder: the pure statement of the law HistOrder, proved: over the functions that the printer wrote for the Go code. No condition beside the statement's own. -/
namespace Go.Proofs.Ytlhpldhejhfkaaa.Pure
open Go.RowKit Go.Proofs.Ytlhpldhejhfkaaa.QHistOrder Go.Proofs.YtlhpldhejhfkaaaW.PrintWords Go.Proofs.YtlhpldhejhfkaaaW.PrintLast Go.Proofs.YtlhpldhejhfkaaaW.PrintMore
set_option linter.unusedVariables false

/- BLOCK clip: what hist.Clip, Add, Mul compute -/
def clipI (x : Int) : Int := mn (mx x 0) 1000000000000
theorem clip_b (x : Int) : 0 ≤ clipI x ∧ clipI x ≤ 1000000000000 := by unfold clipI mn mx; (repeat' split) <;> omega
theorem clip_id {x : Int} (h0 : 0 ≤ x) (h1 : x ≤ 1000000000000) : clipI x = x := by unfold clipI mn mx; (repeat' split) <;> omega
theorem clip_hi {x : Int} (h1 : 1000000000000 ≤ x) : clipI x = 1000000000000 := by unfold clipI mn mx; (repeat' split) <;> omega
theorem clip_lo {x : Int} (h1 : x ≤ 0) : clipI x = 0 := by unfold clipI mn mx; (repeat' split) <;> omega
theorem clip_mono {x y : Int} (h : x ≤ y) : clipI x ≤ clipI y := by unfold clipI mn mx; (repeat' split) <;> omega
def addI (a b : Int) : Int := clipI (clipI a + clipI b)
def mulI (a b : Int) : Int := clipI (clipI a * clipI b)
theorem add_b (a b : Int) : 0 ≤ addI a b ∧ addI a b ≤ 1000000000000 := clip_b _
theorem mul_b (a b : Int) : 0 ≤ mulI a b ∧ mulI a b ≤ 1000000000000 := clip_b _
theorem mul_mono {a b c d : Int} (h : a ≤ b) (k : c ≤ d) : mulI a c ≤ mulI b d := by
  unfold mulI
  exact clip_mono (Int.mul_le_mul (clip_mono h) (clip_mono k) (clip_b _).1 (clip_b _).1)
theorem add_mono {a b c d : Int} (h : a ≤ b) (k : c ≤ d) : addI a c ≤ addI b d := by
  unfold addI
  have := clip_mono h; have := clip_mono k
  exact clip_mono (by omega)
def sumI : List Int → Int
  | [] => 0
  | x :: l => clipI x + sumI l
theorem sumI_nn (l : List Int) : 0 ≤ sumI l := by
  induction l with
  | nil => exact Int.le_refl 0
  | cons x l ih => have := clip_b x; simp only [sumI]; omega
theorem sumI_app (a b : List Int) : sumI (a ++ b) = sumI a + sumI b := by
  induction a with
  | nil => simp [sumI]
  | cons x l ih => simp only [List.cons_append, sumI, ih]; omega
theorem sumI_rev (l : List Int) : sumI l.reverse = sumI l := by
  induction l with
  | nil => rfl
  | cons x l ih => simp only [List.reverse_cons, sumI_app, sumI, ih]; omega
def totI (l : List Int) : Int := clipI (sumI l)

/- BLOCK mul64: what bits.Mul64's text computes -/
theorem mul64_eq (x y : Int) (hx0 : 0 ≤ x) (hx : x < 18446744073709551616) (hy0 : 0 ≤ y) (hy : y < 18446744073709551616) :
    bits_Mul64.f x y = some (x * y / 18446744073709551616, x * y % 18446744073709551616) := by
  obtain ⟨a, rfl⟩ := Int.eq_ofNat_of_zero_le hx0
  obtain ⟨b, rfl⟩ := Int.eq_ofNat_of_zero_le hy0
  have ha : a < 18446744073709551616 := by omega
  have hb : b < 18446744073709551616 := by omega
  obtain ⟨h1, h2, h3, h4⟩ := Go.Lib.mul64_hi a b ha hb
  have q1 := Go.Lib.half_mul_le (a := a / 4294967296) (b := b / 4294967296) (by omega) (by omega)
  have q2 := Go.Lib.half_mul_le (a := a / 4294967296) (b := b % 4294967296) (by omega) (by omega)
  have q3 := Go.Lib.half_mul_le (a := a % 4294967296) (b := b / 4294967296) (by omega) (by omega)
  have q4 := Go.Lib.half_mul_le (a := a % 4294967296) (b := b % 4294967296) (by omega) (by omega)
  unfold bits_Mul64.f
  rw [and_low32 (a : Int) (by omega) (by omega), and_low32 (b : Int) (by omega) (by omega)]
  simp only [u64m]
  have e1 : ((a : Int) / 4294967296) * ((b : Int) % 4294967296) = (((a / 4294967296) * (b % 4294967296) : Nat) : Int) := rfl
  have e2 : ((a : Int) % 4294967296) * ((b : Int) % 4294967296) = (((a % 4294967296) * (b % 4294967296) : Nat) : Int) := rfl
  have e3 : ((a : Int) % 4294967296) * ((b : Int) / 4294967296) = (((a % 4294967296) * (b / 4294967296) : Nat) : Int) := rfl
  have e4 : ((a : Int) / 4294967296) * ((b : Int) / 4294967296) = (((a / 4294967296) * (b / 4294967296) : Nat) : Int) := rfl
  have e5 : (a : Int) * (b : Int) = ((a * b : Nat) : Int) := rfl
  rw [e1, e2, e3, e4, e5, and_low32 _ (by omega) (by omega)]
  generalize (a / 4294967296) * (b / 4294967296) = p1 at *
  generalize (a / 4294967296) * (b % 4294967296) = p2 at *
  generalize (a % 4294967296) * (b / 4294967296) = p3 at *
  generalize (a % 4294967296) * (b % 4294967296) = p4 at *
  generalize a * b = p at *
  congr 1
  rw [Prod.mk.injEq]
  exact ⟨by omega, rfl⟩

/- BLOCK histarith: hist.Clip, Add, Mul as printed -/
theorem hist_Clip_eq (x : Int) : hist_Clip.f x = some (clipI x) := rfl
theorem hist_Add_eq (a b : Int) : hist_Add.f a b = some (addI a b) := by
  unfold hist_Add.f
  simp only [hist_Clip_eq, Option.bind_some]
  have := clip_b a; have := clip_b b
  rw [w64 (by omega) (by omega)]; rfl
theorem hist_Mul_eq (a b : Int) : hist_Mul.f a b = some (mulI a b) := by
  unfold hist_Mul.f
  simp only [hist_Clip_eq, Option.bind_some]
  obtain ⟨ha0, ha1⟩ := clip_b a
  obtain ⟨hb0, hb1⟩ := clip_b b
  rw [u64w ha0 (by omega), u64w hb0 (by omega), mul64_eq _ _ ha0 (by omega) hb0 (by omega)]
  simp only [Option.bind_some]
  unfold mulI
  have hp : 0 ≤ clipI a * clipI b := Int.mul_nonneg ha0 hb0
  generalize clipI a * clipI b = p at *
  by_cases h : p / 18446744073709551616 = 0
  · rw [if_pos h]
    have : p % 18446744073709551616 = p := by omega
    rw [this]
    show some (wrap64 (clipI p)) = some (clipI p)
    have := clip_b p
    rw [w64 (by omega) (by omega)]
  · rw [if_neg h, clip_hi (by omega)]

/- BLOCK histsome: hist.Many, Below, Part as told -/
theorem histAdd_eq (a b : Int) : histAdd a b = addI a b := by unfold histAdd; rw [hist_Add_eq]; rfl
theorem someI_b (p : S39 → Bool) (l : List S39) : 0 ≤ someI p l ∧ someI p l ≤ 1000000000000 := by
  have key : ∀ (l : List S39) (n : Int), (0 ≤ n ∧ n ≤ 1000000000000) → 0 ≤ l.foldl (fun n s => if p s = true then histAdd n s.f1 else n) n ∧ l.foldl (fun n s => if p s = true then histAdd n s.f1 else n) n ≤ 1000000000000 := by
    intro l
    induction l with
    | nil => intro n h; exact h
    | cons s l ih =>
      intro n h
      simp only [List.foldl_cons]
      apply ih
      split
      · rw [histAdd_eq]; exact add_b _ _
      · exact h
  exact key l 0 (by omega)
theorem add_clip (s x : Int) (hs : 0 ≤ s) : addI (clipI s) x = clipI (s + clipI x) := by
  unfold addI
  have hb := clip_b x
  have hcs := clip_b s
  generalize clipI x = c at *
  rw [clip_id hcs.1 hcs.2]
  unfold clipI mn mx
  (repeat' split) <;> omega
theorem someI_sum (p : S39 → Bool) (l : List S39) : someI p l = clipI (sumI ((l.filter p).map (·.f1))) := by
  have key : ∀ (l : List S39) (s : Int), 0 ≤ s → l.foldl (fun n x => if p x = true then histAdd n x.f1 else n) (clipI s) = clipI (s + sumI ((l.filter p).map (·.f1))) := by
    intro l
    induction l with
    | nil => intro s h; simp [sumI]
    | cons x l ih =>
      intro s h
      simp only [List.foldl_cons]
      by_cases hp : p x = true
      · rw [if_pos hp, List.filter_cons_of_pos hp, histAdd_eq, add_clip s _ h, ih _ (by have := clip_b x.f1; omega)]
        simp only [List.map_cons, sumI]
        rw [Int.add_assoc]
      · rw [if_neg hp, List.filter_cons_of_neg hp, ih s h]
  have := key l 0 (by omega)
  rw [Int.zero_add] at this
  exact this
theorem cV_rng (a0 a1 : Int) (a2 : ByteArray) (b0 b1 : Int) (b2 : ByteArray) : -1 ≤ cV a0 a1 a2 b0 b1 b2 ∧ cV a0 a1 a2 b0 b1 b2 ≤ 1 := ordV.rng _ _
def manyI (l : List S39) : Int := someI (fun _ => true) l
def belowI (l : List S39) (v : S31) (too : Bool) : Int := someI (belowP v (if too = true then 0 else -1)) l
theorem hist_Many_eq (a b : Int) (l : List S39) : hist_Many.f a b l = some (manyI l) := rfl
theorem hist_Below_eq (a b : Int) (l : List S39) (v0 v1 : Int) (v2 : ByteArray) (too : Bool) : hist_Below.f a b l v0 v1 v2 too = some (belowI l ⟨v0, v1, v2⟩ too) := rfl
theorem manyI_b (l : List S39) : 0 ≤ manyI l ∧ manyI l ≤ 1000000000000 := someI_b _ _
theorem belowI_b (l : List S39) (v : S31) (too : Bool) : 0 ≤ belowI l v too ∧ belowI l v too ≤ 1000000000000 := someI_b _ _
def partI (op d : Int) (l : List S39) (v : S31) : Int × Int :=
  if op = 9 then (1, mx 1 (clipI d)) else if op = 10 then (mx 1 (clipI d) - 1, mx 1 (clipI d)) else
  if op = 11 ∨ op = 12 then (belowI l v (op == 12), mx 1 (manyI l)) else
  if op = 13 ∨ op = 14 then (if manyI l > 0 then (mx 0 (manyI l - belowI l v (op == 13)), manyI l) else (1, 1)) else (1, 3)
theorem mx1_w (x : Int) (h : 0 ≤ x ∧ x ≤ 1000000000000) : wrap64 (mx 1 x - 1) = mx 1 x - 1 := by unfold mx; split <;> exact w64 (by omega) (by omega)
theorem hist_Part_j1_ev (op a b d n : Int) (l : List S39) (v0 v1 : Int) (v2 : ByteArray) (t : Bool) (ht : t = decide (op = 13 ∨ op = 14)) (h9 : ¬ (op = 11 ∨ op = 12)) (e9 : ¬ op = 9) (e10 : ¬ op = 10) :
    Ev (fun k => hist_Part.j1 k op (manyI l) t a b l v0 v1 v2) (partI op d l ⟨v0, v1, v2⟩) := by
  refine Ev.step (fun k => rfl) ?_
  simp only [hist_Part.j1, hist_Below_eq, Option.bind_some]
  have hm := manyI_b l
  have hb := belowI_b l ⟨v0, v1, v2⟩ (op == 13)
  unfold partI
  rw [if_neg e9, if_neg e10, if_neg h9]
  by_cases h : op = 13 ∨ op = 14
  · rw [if_pos h]
    refine ev_pos (by rw [ht]; exact decide_eq_true h) ?_
    by_cases c : manyI l > 0
    · refine ev_pos c ?_
      rw [if_pos c, w64 (by omega) (by omega)]; exact ev_some _
    · refine ev_neg c ?_
      rw [if_neg c]; exact ev_some _
  · rw [if_neg h]
    exact ev_neg (by rw [ht, decide_eq_false h]; decide) (ev_some _)
theorem hist_Part_j0_ev (op a b d : Int) (l : List S39) (v0 v1 : Int) (v2 : ByteArray) (t : Bool) (ht : t = decide (op = 11 ∨ op = 12)) (e9 : ¬ op = 9) (e10 : ¬ op = 10) :
    Ev (fun k => hist_Part.j0 k op (manyI l) op t a b l v0 v1 v2) (partI op d l ⟨v0, v1, v2⟩) := by
  refine Ev.step (fun k => rfl) ?_
  simp only [hist_Part.j0, hist_Below_eq, Option.bind_some]
  by_cases h : op = 11 ∨ op = 12
  · refine ev_pos (by rw [ht]; exact decide_eq_true h) ?_
    unfold partI
    rw [if_neg e9, if_neg e10, if_pos h]
    exact ev_some _
  · refine ev_neg (by rw [ht, decide_eq_false h]; decide) ?_
    by_cases c : op = 13
    · exact ev_pos c (hist_Part_j1_ev op a b d 0 l v0 v1 v2 _ (by subst c; rfl) h e9 e10)
    · refine ev_neg c (hist_Part_j1_ev op a b d 0 l v0 v1 v2 _ ?_ h e9 e10)
      rw [Bool.eq_iff_iff, beq_iff_eq, decide_eq_true_eq]
      exact ⟨fun h => .inr h, fun h => h.resolve_left c⟩
theorem hist_Part_ev (op d n : Int) (l : List S39) (v0 v1 : Int) (v2 : ByteArray) : Ev (fun k => hist_Part.f k op d n l v0 v1 v2) (partI op d l ⟨v0, v1, v2⟩) := by
  unfold hist_Part.f
  simp only [hist_Clip_eq, hist_Many_eq, Option.bind_some]
  by_cases c9 : op = 9
  · refine ev_pos c9 ?_
    unfold partI; rw [if_pos c9]; exact ev_some _
  · refine ev_neg c9 ?_
    by_cases c10 : op = 10
    · refine ev_pos c10 ?_
      unfold partI; rw [if_neg c9, if_pos c10, mx1_w _ (clip_b d)]; exact ev_some _
    · refine ev_neg c10 ?_
      by_cases c11 : op = 11
      · exact ev_pos c11 (hist_Part_j0_ev op d n d l v0 v1 v2 _ (by subst c11; rfl) c9 c10)
      · refine ev_neg c11 (hist_Part_j0_ev op d n d l v0 v1 v2 _ ?_ c9 c10)
        rw [Bool.eq_iff_iff, beq_iff_eq, decide_eq_true_eq]
        exact ⟨fun h => .inr h, fun h => h.resolve_left c11⟩
theorem rdT_get (l : List S39) (i : Int) (h : i.toNat < l.length) : rd_T39 l i = l[i.toNat] := by
  unfold rd_T39; rw [List.getD_eq_getElem?_getD, List.getElem?_eq_getElem h]; rfl

/- BLOCK the law HistOrder -/
theorem examples_ev : Ev (fun k => weathercocklaw13_examples.f k) true := Ev.of weathercocklaw13_examples.mono (k := 40) (by decide +kernel)
theorem someI_rev (p : S39 → Bool) (l : List S39) : someI p l.reverse = someI p l := by
  rw [someI_sum, someI_sum, List.filter_reverse, List.map_reverse, sumI_rev]
theorem partI_rev (op d : Int) (l : List S39) (v : S31) : partI op d l.reverse v = partI op d l v := by
  unfold partI belowI manyI
  simp only [someI_rev]
theorem end_ev (op a b : Int) (l : List S39) (v0 v1 : Int) (v2 : ByteArray) (m : List S39) (hm : m = l.reverse) :
    Ev (fun k => (hist_Part.f k op a b l v0 v1 v2).bind fun bt157 => ((hist_Part.f k op a b m v0 v1 v2).bind fun bt159 => (if true = true then ((hist_Many.f a b l).bind fun t161 => ((hist_Many.f a b m).bind fun t162 => (if t161 = t162 then (if bt157.1 = bt159.1 then (some (bt157.2 == bt159.2)) else (some false)) else (some false)))) else (some false)))) true := by
  subst hm
  refine Ev.bind (hist_Part_ev op a b l v0 v1 v2) (Ev.bind (hist_Part_ev op a b l.reverse v0 v1 v2) (ev_pos (by first | trivial | rfl) ?_))
  simp only [hist_Many_eq, Option.bind_some, partI_rev]
  refine ev_pos (someI_rev _ l).symm (ev_pos (by first | trivial | rfl) ?_)
  rw [beq_self_eq_true]; exact ev_some _
theorem l0_ev (op a b : Int) (l : List S39) (hl : l.length * 40 ≤ 140737488351232) (v0 v1 : Int) (v2 : ByteArray) (d : Nat) : ∀ (i : Int) (m : List S39), i + 1 = d → i < l.length → m = (l.drop (i + 1).toNat).reverse →
    Ev (fun k => weathercocklaw13_HistOrder.l0 k op true i a b l v0 v1 v2 a b m) true := by
  induction d with
  | zero =>
    intro i m hd hi hm
    refine Ev.step (fun k => rfl) ?_
    simp only [weathercocklaw13_HistOrder.l0]
    refine ev_neg (by omega) (end_ev op a b l v0 v1 v2 m ?_)
    rw [hm, show (i + 1).toNat = 0 by omega, List.drop_zero]
  | succ d ih =>
    intro i m hd hi hm
    have hlt : i.toNat < l.length := by omega
    have hml : m.length ≤ l.length := by rw [hm, List.length_reverse, List.length_drop]; omega
    refine Ev.step (fun k => rfl) ?_
    simp only [weathercocklaw13_HistOrder.l0]
    refine ev_pos (by omega) (ev_pos (by omega) (ev_pos (by omega) (ev_pos (by omega) ?_)))
    rw [w64 (by omega) (by omega)]
    refine ih (i - 1) _ (by omega) (by omega) ?_
    rw [rdT_get l i hlt, show (i - 1 + 1).toNat = i.toNat by omega, List.drop_eq_getElem_cons hlt, List.reverse_cons, hm, show (i + 1).toNat = i.toNat + 1 by omega]
theorem HistOrder : weathercocklaw13_HistOrder.Pure := by
  intro a b l v0 v1 v2 op _ _ hl _ _ _ _
  have h2 := hl.2.1
  apply Ev.rounds
  unfold weathercocklaw13_HistOrder.f
  refine Ev.bind examples_ev ?_
  rw [w64 (by omega) (by omega)]
  refine l0_ev op a b l h2 v0 v1 v2 l.length _ _ (by omega) (by omega) ?_
  rw [show ((l.length : Int) - 1 + 1).toNat = l.length by omega, List.drop_length]; rfl

end Go.Proofs.Ytlhpldhejhfkaaa.Pure
