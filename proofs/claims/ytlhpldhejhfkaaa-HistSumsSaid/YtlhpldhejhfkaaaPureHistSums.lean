import Derived.Test.YtlhpldhejhfkaaaQHistSumsx4
import Derived.Lib.Mul64
import Derived.Laws.MathBits
/- HistSums: the pure statement of the law HistSums, proved: over the functions that the printer wrote for the Go code. No condition beside the statement's own. -/
namespace Go.Proofs.Ytlhpldhejhfkaaa.Pure
open Go.RowKit Go.Proofs.Ytlhpldhejhfkaaa.QHistSums Go.Proofs.YtlhpldhejhfkaaaW.PrintWords Go.Proofs.YtlhpldhejhfkaaaW.PrintLast Go.Proofs.YtlhpldhejhfkaaaW.PrintMore
set_option linter.unusedVariables false

/- BLOCK clip: what hist.Clip, Add, Mul compute -/
def clipI (x : Int) : Int := mn (mx x 0) 1000000000000
theorem clip_b (x : Int) : 0 ≤ clipI x ∧ clipI x ≤ 1000000000000 := by unfold clipI mn mx; (repeat' split) <;> omega
theorem clip_id {x : Int} (h0 : 0 ≤ x) (h1 : x ≤ 1000000000000) : clipI x = x := by unfold clipI mn mx; (repeat' split) <;> omega
theorem clip_hi {x : Int} (h1 : 1000000000000 ≤ x) : clipI x = 1000000000000 := by unfold clipI mn mx; (repeat' split) <;> omega
theorem clip_lo {x : Int} (h1 : x ≤ 0) : clipI x = 0 := by unfold clipI mn mx; (repeat' split) <;> omega
theorem clip_mono {x y : Int} (h : x ≤ y) : clipI x ≤ clipI y := by unfold clipI mn mx; (repeat' split) <;> omega
def addI (a b : Int) : Int := clipI (clipI a + clipI b)
def mulI (a b : Int) : Int := clipI (clipI a * clipI b)
theorem add_b (a b : Int) : 0 ≤ addI a b ∧ addI a b ≤ 1000000000000 := clip_b _
theorem mul_b (a b : Int) : 0 ≤ mulI a b ∧ mulI a b ≤ 1000000000000 := clip_b _
theorem mul_mono {a b c d : Int} (h : a ≤ b) (k : c ≤ d) : mulI a c ≤ mulI b d := by
  unfold mulI
  exact clip_mono (Int.mul_le_mul (clip_mono h) (clip_mono k) (clip_b _).1 (clip_b _).1)
theorem add_mono {a b c d : Int} (h : a ≤ b) (k : c ≤ d) : addI a c ≤ addI b d := by
  unfold addI
  have := clip_mono h; have := clip_mono k
  exact clip_mono (by omega)
def sumI : List Int → Int
  | [] => 0
  | x :: l => clipI x + sumI l
theorem sumI_nn (l : List Int) : 0 ≤ sumI l := by
  induction l with
  | nil => exact Int.le_refl 0
  | cons x l ih => have := clip_b x; simp only [sumI]; omega
theorem sumI_app (a b : List Int) : sumI (a ++ b) = sumI a + sumI b := by
  induction a with
  | nil => simp [sumI]
  | cons x l ih => simp only [List.cons_append, sumI, ih]; omega
theorem sumI_rev (l : List Int) : sumI l.reverse = sumI l := by
  induction l with
  | nil => rfl
  | cons x l ih => simp only [List.reverse_cons, sumI_app, sumI, ih]; omega
def totI (l : List Int) : Int := clipI (sumI l)

/- BLOCK mul64: what bits.Mul64's text computes -/
theorem mul64_eq (x y : Int) (hx0 : 0 ≤ x) (hx : x < 18446744073709551616) (hy0 : 0 ≤ y) (hy : y < 18446744073709551616) :
    bits_Mul64.f x y = some (x * y / 18446744073709551616, x * y % 18446744073709551616) := by
  obtain ⟨a, rfl⟩ := Int.eq_ofNat_of_zero_le hx0
  obtain ⟨b, rfl⟩ := Int.eq_ofNat_of_zero_le hy0
  have ha : a < 18446744073709551616 := by omega
  have hb : b < 18446744073709551616 := by omega
  obtain ⟨h1, h2, h3, h4⟩ := Go.Lib.mul64_hi a b ha hb
  have q1 := Go.Lib.half_mul_le (a := a / 4294967296) (b := b / 4294967296) (by omega) (by omega)
  have q2 := Go.Lib.half_mul_le (a := a / 4294967296) (b := b % 4294967296) (by omega) (by omega)
  have q3 := Go.Lib.half_mul_le (a := a % 4294967296) (b := b / 4294967296) (by omega) (by omega)
  have q4 := Go.Lib.half_mul_le (a := a % 4294967296) (b := b % 4294967296) (by omega) (by omega)
  unfold bits_Mul64.f
  rw [and_low32 (a : Int) (by omega) (by omega), and_low32 (b : Int) (by omega) (by omega)]
  simp only [u64m]
  have e1 : ((a : Int) / 4294967296) * ((b : Int) % 4294967296) = (((a / 4294967296) * (b % 4294967296) : Nat) : Int) := rfl
  have e2 : ((a : Int) % 4294967296) * ((b : Int) % 4294967296) = (((a % 4294967296) * (b % 4294967296) : Nat) : Int) := rfl
  have e3 : ((a : Int) % 4294967296) * ((b : Int) / 4294967296) = (((a % 4294967296) * (b / 4294967296) : Nat) : Int) := rfl
  have e4 : ((a : Int) / 4294967296) * ((b : Int) / 4294967296) = (((a / 4294967296) * (b / 4294967296) : Nat) : Int) := rfl
  have e5 : (a : Int) * (b : Int) = ((a * b : Nat) : Int) := rfl
  rw [e1, e2, e3, e4, e5, and_low32 _ (by omega) (by omega)]
  generalize (a / 4294967296) * (b / 4294967296) = p1 at *
  generalize (a / 4294967296) * (b % 4294967296) = p2 at *
  generalize (a % 4294967296) * (b / 4294967296) = p3 at *
  generalize (a % 4294967296) * (b % 4294967296) = p4 at *
  generalize a * b = p at *
  congr 1
  rw [Prod.mk.injEq]
  exact ⟨by omega, rfl⟩

/- BLOCK histarith: hist.Clip, Add, Mul as printed -/
theorem hist_Clip_eq (x : Int) : hist_Clip.f x = some (clipI x) := rfl
theorem hist_Add_eq (a b : Int) : hist_Add.f a b = some (addI a b) := by
  unfold hist_Add.f
  simp only [hist_Clip_eq, Option.bind_some]
  have := clip_b a; have := clip_b b
  rw [w64 (by omega) (by omega)]; rfl
theorem hist_Mul_eq (a b : Int) : hist_Mul.f a b = some (mulI a b) := by
  unfold hist_Mul.f
  simp only [hist_Clip_eq, Option.bind_some]
  obtain ⟨ha0, ha1⟩ := clip_b a
  obtain ⟨hb0, hb1⟩ := clip_b b
  rw [u64w ha0 (by omega), u64w hb0 (by omega), mul64_eq _ _ ha0 (by omega) hb0 (by omega)]
  simp only [Option.bind_some]
  unfold mulI
  have hp : 0 ≤ clipI a * clipI b := Int.mul_nonneg ha0 hb0
  generalize clipI a * clipI b = p at *
  by_cases h : p / 18446744073709551616 = 0
  · rw [if_pos h]
    have : p % 18446744073709551616 = p := by omega
    rw [this]
    show some (wrap64 (clipI p)) = some (clipI p)
    have := clip_b p
    rw [w64 (by omega) (by omega)]
  · rw [if_neg h, clip_hi (by omega)]

/- BLOCK histsome: hist.Many, Below, Part as told -/
theorem histAdd_eq (a b : Int) : histAdd a b = addI a b := by unfold histAdd; rw [hist_Add_eq]; rfl
theorem someI_b (p : S39 → Bool) (l : List S39) : 0 ≤ someI p l ∧ someI p l ≤ 1000000000000 := by
  have key : ∀ (l : List S39) (n : Int), (0 ≤ n ∧ n ≤ 1000000000000) → 0 ≤ l.foldl (fun n s => if p s = true then histAdd n s.f1 else n) n ∧ l.foldl (fun n s => if p s = true then histAdd n s.f1 else n) n ≤ 1000000000000 := by
    intro l
    induction l with
    | nil => intro n h; exact h
    | cons s l ih =>
      intro n h
      simp only [List.foldl_cons]
      apply ih
      split
      · rw [histAdd_eq]; exact add_b _ _
      · exact h
  exact key l 0 (by omega)
theorem add_clip (s x : Int) (hs : 0 ≤ s) : addI (clipI s) x = clipI (s + clipI x) := by
  unfold addI
  have hb := clip_b x
  have hcs := clip_b s
  generalize clipI x = c at *
  rw [clip_id hcs.1 hcs.2]
  unfold clipI mn mx
  (repeat' split) <;> omega
theorem someI_sum (p : S39 → Bool) (l : List S39) : someI p l = clipI (sumI ((l.filter p).map (·.f1))) := by
  have key : ∀ (l : List S39) (s : Int), 0 ≤ s → l.foldl (fun n x => if p x = true then histAdd n x.f1 else n) (clipI s) = clipI (s + sumI ((l.filter p).map (·.f1))) := by
    intro l
    induction l with
    | nil => intro s h; simp [sumI]
    | cons x l ih =>
      intro s h
      simp only [List.foldl_cons]
      by_cases hp : p x = true
      · rw [if_pos hp, List.filter_cons_of_pos hp, histAdd_eq, add_clip s _ h, ih _ (by have := clip_b x.f1; omega)]
        simp only [List.map_cons, sumI]
        rw [Int.add_assoc]
      · rw [if_neg hp, List.filter_cons_of_neg hp, ih s h]
  have := key l 0 (by omega)
  rw [Int.zero_add] at this
  exact this
theorem cV_rng (a0 a1 : Int) (a2 : ByteArray) (b0 b1 : Int) (b2 : ByteArray) : -1 ≤ cV a0 a1 a2 b0 b1 b2 ∧ cV a0 a1 a2 b0 b1 b2 ≤ 1 := ordV.rng _ _
def manyI (l : List S39) : Int := someI (fun _ => true) l
def belowI (l : List S39) (v : S31) (too : Bool) : Int := someI (belowP v (if too = true then 0 else -1)) l
theorem hist_Many_eq (a b : Int) (l : List S39) : hist_Many.f a b l = some (manyI l) := rfl
theorem hist_Below_eq (a b : Int) (l : List S39) (v0 v1 : Int) (v2 : ByteArray) (too : Bool) : hist_Below.f a b l v0 v1 v2 too = some (belowI l ⟨v0, v1, v2⟩ too) := rfl
theorem manyI_b (l : List S39) : 0 ≤ manyI l ∧ manyI l ≤ 1000000000000 := someI_b _ _
theorem belowI_b (l : List S39) (v : S31) (too : Bool) : 0 ≤ belowI l v too ∧ belowI l v too ≤ 1000000000000 := someI_b _ _
def partI (op d : Int) (l : List S39) (v : S31) : Int × Int :=
  if op = 9 then (1, mx 1 (clipI d)) else if op = 10 then (mx 1 (clipI d) - 1, mx 1 (clipI d)) else
  if op = 11 ∨ op = 12 then (belowI l v (op == 12), mx 1 (manyI l)) else
  if op = 13 ∨ op = 14 then (if manyI l > 0 then (mx 0 (manyI l - belowI l v (op == 13)), manyI l) else (1, 1)) else (1, 3)
theorem mx1_w (x : Int) (h : 0 ≤ x ∧ x ≤ 1000000000000) : wrap64 (mx 1 x - 1) = mx 1 x - 1 := by unfold mx; split <;> exact w64 (by omega) (by omega)
theorem hist_Part_j1_ev (op a b d n : Int) (l : List S39) (v0 v1 : Int) (v2 : ByteArray) (t : Bool) (ht : t = decide (op = 13 ∨ op = 14)) (h9 : ¬ (op = 11 ∨ op = 12)) (e9 : ¬ op = 9) (e10 : ¬ op = 10) :
    Ev (fun k => hist_Part.j1 k op (manyI l) t a b l v0 v1 v2) (partI op d l ⟨v0, v1, v2⟩) := by
  refine Ev.step (fun k => rfl) ?_
  simp only [hist_Part.j1, hist_Below_eq, Option.bind_some]
  have hm := manyI_b l
  have hb := belowI_b l ⟨v0, v1, v2⟩ (op == 13)
  unfold partI
  rw [if_neg e9, if_neg e10, if_neg h9]
  by_cases h : op = 13 ∨ op = 14
  · rw [if_pos h]
    refine ev_pos (by rw [ht]; exact decide_eq_true h) ?_
    by_cases c : manyI l > 0
    · refine ev_pos c ?_
      rw [if_pos c, w64 (by omega) (by omega)]; exact ev_some _
    · refine ev_neg c ?_
      rw [if_neg c]; exact ev_some _
  · rw [if_neg h]
    exact ev_neg (by rw [ht, decide_eq_false h]; decide) (ev_some _)
theorem hist_Part_j0_ev (op a b d : Int) (l : List S39) (v0 v1 : Int) (v2 : ByteArray) (t : Bool) (ht : t = decide (op = 11 ∨ op = 12)) (e9 : ¬ op = 9) (e10 : ¬ op = 10) :
    Ev (fun k => hist_Part.j0 k op (manyI l) op t a b l v0 v1 v2) (partI op d l ⟨v0, v1, v2⟩) := by
  refine Ev.step (fun k => rfl) ?_
  simp only [hist_Part.j0, hist_Below_eq, Option.bind_some]
  by_cases h : op = 11 ∨ op = 12
  · refine ev_pos (by rw [ht]; exact decide_eq_true h) ?_
    unfold partI
    rw [if_neg e9, if_neg e10, if_pos h]
    exact ev_some _
  · refine ev_neg (by rw [ht, decide_eq_false h]; decide) ?_
    by_cases c : op = 13
    · exact ev_pos c (hist_Part_j1_ev op a b d 0 l v0 v1 v2 _ (by subst c; rfl) h e9 e10)
    · refine ev_neg c (hist_Part_j1_ev op a b d 0 l v0 v1 v2 _ ?_ h e9 e10)
      rw [Bool.eq_iff_iff, beq_iff_eq, decide_eq_true_eq]
      exact ⟨fun h => .inr h, fun h => h.resolve_left c⟩
theorem hist_Part_ev (op d n : Int) (l : List S39) (v0 v1 : Int) (v2 : ByteArray) : Ev (fun k => hist_Part.f k op d n l v0 v1 v2) (partI op d l ⟨v0, v1, v2⟩) := by
  unfold hist_Part.f
  simp only [hist_Clip_eq, hist_Many_eq, Option.bind_some]
  by_cases c9 : op = 9
  · refine ev_pos c9 ?_
    unfold partI; rw [if_pos c9]; exact ev_some _
  · refine ev_neg c9 ?_
    by_cases c10 : op = 10
    · refine ev_pos c10 ?_
      unfold partI; rw [if_neg c9, if_pos c10, mx1_w _ (clip_b d)]; exact ev_some _
    · refine ev_neg c10 ?_
      by_cases c11 : op = 11
      · exact ev_pos c11 (hist_Part_j0_ev op d n d l v0 v1 v2 _ (by subst c11; rfl) c9 c10)
      · refine ev_neg c11 (hist_Part_j0_ev op d n d l v0 v1 v2 _ ?_ c9 c10)
        rw [Bool.eq_iff_iff, beq_iff_eq, decide_eq_true_eq]
        exact ⟨fun h => .inr h, fun h => h.resolve_left c11⟩
theorem rdT_get (l : List S39) (i : Int) (h : i.toNat < l.length) : rd_T39 l i = l[i.toNat] := by
  unfold rd_T39; rw [List.getD_eq_getElem?_getD, List.getElem?_eq_getElem h]; rfl

/- BLOCK the law HistSums -/
theorem examples_ev : Ev (fun k => weathercocklaw13_examples.f k) true := Ev.of weathercocklaw13_examples.mono (k := 40) (by decide +kernel)
theorem add_plain {x y : Int} (hx : 0 ≤ x) (hy : 0 ≤ y) (h : x + y ≤ 1000000000000) : addI x y = x + y := by
  unfold addI; rw [clip_id hx (by omega), clip_id hy (by omega), clip_id (by omega) h]
structure Inv (v : S31) (i : Int) (H : List S39) (at_ above b : Int) : Prop where
  len : (H.length : Int) = i
  b0 : 0 ≤ b
  a0 : 0 ≤ at_
  u0 : 0 ≤ above
  tot : b + at_ + above ≤ 100 * i
  hb : someI (belowP v (-1)) H = b
  ha : someI (belowP v 0) H = b + at_
  hm : someI (fun _ => true) H = b + at_ + above
theorem Inv.step {v : S31} {i : Int} {H : List S39} {at_ above b : Int} (q : Inv v i H at_ above b) (hi : i ≤ 20) (s : S39) (h0 : 0 ≤ s.f1) (h1 : s.f1 ≤ 100) (c : Int) (hc : cV s.f0.f0 s.f0.f1 s.f0.f2 v.f0 v.f1 v.f2 = c) :
    (c = 0 → Inv v (i + 1) (H ++ [s]) (at_ + s.f1) above b) ∧ (c = 1 → Inv v (i + 1) (H ++ [s]) at_ (above + s.f1) b) ∧ (c = -1 → Inv v (i + 1) (H ++ [s]) at_ above (b + s.f1)) := by
  obtain ⟨hl, b0, a0, u0, tot, hb, ha, hm⟩ := q
  have p1 : belowP v (-1) s = decide (c ≤ -1) := by unfold belowP; rw [hc]
  have p0 : belowP v 0 s = decide (c ≤ 0) := by unfold belowP; rw [hc]
  have e1 := someI_snoc (belowP v (-1)) H s
  have e0 := someI_snoc (belowP v 0) H s
  have em := someI_snoc (fun _ => true) H s
  rw [p1, histAdd_eq, hb] at e1
  rw [p0, histAdd_eq, ha] at e0
  rw [if_pos rfl, histAdd_eq, hm, add_plain (by omega) h0 (by omega)] at em
  have hl' : ((H ++ [s]).length : Int) = i + 1 := by rw [List.length_append, List.length_singleton]; omega
  refine ⟨fun h => ?_, fun h => ?_, fun h => ?_⟩
  · rw [if_neg (by rw [decide_eq_true_eq]; omega)] at e1
    rw [if_pos (by rw [decide_eq_true_eq]; omega), add_plain (by omega) h0 (by omega)] at e0
    exact ⟨hl', b0, by omega, u0, by omega, e1, by omega, by omega⟩
  · rw [if_neg (by rw [decide_eq_true_eq]; omega)] at e1
    rw [if_neg (by rw [decide_eq_true_eq]; omega)] at e0
    exact ⟨hl', b0, a0, by omega, by omega, e1, e0, by omega⟩
  · rw [if_pos (by rw [decide_eq_true_eq]; omega), add_plain (by omega) h0 (by omega)] at e1
    rw [if_pos (by rw [decide_eq_true_eq]; omega), add_plain (by omega) h0 (by omega)] at e0
    exact ⟨hl', by omega, a0, u0, by omega, e1, by omega, by omega⟩
theorem end_ev (x0 : List S39) (i : Int) (hi : i ≤ 20) (v0 v1 : Int) (v2 : ByteArray) (H : List S39) (at_ above b : Int) (q : Inv ⟨v0, v1, v2⟩ i H at_ above b) (t : Bool) (ht : t = false) :
    Ev (fun k => weathercocklaw13_HistSums.j1 k x0 true at_ above i t v0 v1 v2 0 0 H) true := by
  subst ht
  obtain ⟨hl, b0, a0, u0, tot, hb, ha, hm⟩ := q
  have q1 : belowI H ⟨v0, v1, v2⟩ false = b := hb
  have q2 : belowI H ⟨v0, v1, v2⟩ true = b + at_ := ha
  have q3 : manyI H = b + at_ + above := hm
  refine Ev.step (fun k => rfl) ?_
  simp only [weathercocklaw13_HistSums.j1, hist_Below_eq, hist_Many_eq, Option.bind_some, q1, q2, q3]
  refine ev_neg (by decide) (ev_pos (by first | trivial | rfl) ?_)
  rw [w64 (n := b + at_) (by omega) (by omega), w64 (by omega) (by omega)]
  refine ev_pos (by first | trivial | rfl) ?_
  rw [beq_self_eq_true]; exact ev_some _
theorem l0_ev (x0 : List S39) (hx : ∀ (j : Nat) (h : j < x0.length), -9223372036854775808 ≤ x0[j].f1 ∧ x0[j].f1 ≤ 9223372036854775807) (v0 v1 : Int) (v2 : ByteArray) (d : Nat) : ∀ (i : Int) (H : List S39) (at_ above b : Int), 0 ≤ i → i ≤ x0.length → 20 - i = d → Inv ⟨v0, v1, v2⟩ i H at_ above b →
    Ev (fun k => weathercocklaw13_HistSums.l0 k x0 true at_ above i v0 v1 v2 0 0 H) true := by
  induction d with
  | zero =>
    intro i H at_ above b h0 h1 hd q
    refine Ev.step (fun k => rfl) ?_
    simp only [weathercocklaw13_HistSums.l0]
    by_cases c : i < x0.length
    · exact ev_pos c (end_ev x0 i (by omega) v0 v1 v2 H at_ above b q _ (decide_eq_false (by omega)))
    · exact ev_neg c (end_ev x0 i (by omega) v0 v1 v2 H at_ above b q _ rfl)
  | succ d ih =>
    intro i H at_ above b h0 h1 hd q
    refine Ev.step (fun k => rfl) ?_
    simp only [weathercocklaw13_HistSums.l0]
    by_cases c : i < x0.length
    · refine ev_pos c ?_
      rw [decide_eq_true (show i < 20 by omega)]
      have hlt : i.toNat < x0.length := by omega
      refine Ev.step (fun k => rfl) ?_
      simp only [weathercocklaw13_HistSums.j1]
      refine ev_pos (by first | trivial | rfl) (ev_pos h0 (ev_pos c ?_))
      rw [rdT_get x0 i hlt]
      have bx := hx i.toNat hlt
      have j2 : ∀ m : Int, 0 ≤ m → m ≤ 9223372036854775807 → Ev (fun k => weathercocklaw13_HistSums.j2 k x0 true at_ above i v0 v1 v2 0 0 H x0[i.toNat].f0.f0 x0[i.toNat].f0.f1 x0[i.toNat].f0.f2 m) true := by
        intro m m0 m1
        have r : 0 ≤ Int.tmod m 101 ∧ Int.tmod m 101 ≤ 100 := by rw [Int.tmod_eq_emod_of_nonneg m0]; omega
        obtain ⟨hl, b0, a0, u0, tot, _, _, _⟩ := id q
        refine Ev.step (fun k => rfl) ?_
        simp only [weathercocklaw13_HistSums.j2, Option.bind_some]
        refine ev_pos (by omega) (Ev.bind (compare_ev _ _ _ _ _ _) ?_)
        have st := q.step (by omega) ⟨⟨x0[i.toNat].f0.f0, x0[i.toNat].f0.f1, x0[i.toNat].f0.f2⟩, Int.tmod m 101⟩ r.1 r.2 _ rfl
        have rg := cV_rng x0[i.toNat].f0.f0 x0[i.toNat].f0.f1 x0[i.toNat].f0.f2 v0 v1 v2
        simp only at st
        generalize cV x0[i.toNat].f0.f0 x0[i.toNat].f0.f1 x0[i.toNat].f0.f2 v0 v1 v2 = cc at *
        have wi : wrap64 (i + 1) = i + 1 := w64 (by omega) (by omega)
        have wa : wrap64 (at_ + Int.tmod m 101) = at_ + Int.tmod m 101 := w64 (by omega) (by omega)
        have wu : wrap64 (above + Int.tmod m 101) = above + Int.tmod m 101 := w64 (by omega) (by omega)
        rw [wi, wa, wu]
        by_cases c0 : cc = 0
        · exact ev_pos c0 (ih _ _ _ _ _ (by omega) (by omega) (by omega) (st.1 c0))
        · refine ev_neg c0 ?_
          by_cases c1 : cc = 1
          · exact ev_pos c1 (ih _ _ _ _ _ (by omega) (by omega) (by omega) (st.2.1 c1))
          · exact ev_neg c1 (ih _ _ _ _ _ (by omega) (by omega) (by omega) (st.2.2 (by omega)))
      by_cases c2 : x0[i.toNat].f1 < 0
      · refine ev_pos c2 ?_
        rw [w64 (n := x0[i.toNat].f1 + 1) (by omega) (by omega), w64 (by omega) (by omega)]
        exact j2 _ (by omega) (by omega)
      · exact ev_neg c2 (j2 _ (by omega) (by omega))
    · exact ev_neg c (end_ev x0 i (by omega) v0 v1 v2 H at_ above b q _ rfl)
theorem HistSums : weathercocklaw13_HistSums.Pure := by
  intro l v0 v1 v2 hl _ _ _
  apply Ev.rounds
  unfold weathercocklaw13_HistSums.f
  refine Ev.bind examples_ev ?_
  refine l0_ev l (fun j h => i64_bd (hl.1 l[j] (List.getElem_mem h)).2) v0 v1 v2 20 0 [] 0 0 0 (by omega) (by omega) (by omega) ⟨rfl, by omega, by omega, by omega, by omega, rfl, rfl, rfl⟩

end Go.Proofs.Ytlhpldhejhfkaaa.Pure
