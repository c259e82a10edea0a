import Derived.Test.YtlhpldhejhfkaaaQHistHeldx4
import Derived.Lib.Mul64
import Derived.Laws.MathBits
/- HistHeld: the pure statement of the law HistHeld, proved: over the functions that the printer wrote for the Go code. No condition beside the statement's own. -/
namespace Go.Proofs.Ytlhpldhejhfkaaa.Pure
open Go.RowKit Go.Proofs.Ytlhpldhejhfkaaa.QHistHeld Go.Proofs.YtlhpldhejhfkaaaW.PrintWords Go.Proofs.YtlhpldhejhfkaaaW.PrintLast Go.Proofs.YtlhpldhejhfkaaaW.PrintMore

/- BLOCK base -/
theorem ev_pos {α : Type} {c : Prop} [Decidable c] {A B : Nat → Option α} {r : α} (h : c) (k : Ev A r) : Ev (fun n => if c then A n else B n) r := Ev.congr (fun _ => if_pos h) k
theorem ev_neg {α : Type} {c : Prop} [Decidable c] {A B : Nat → Option α} {r : α} (h : ¬ c) (k : Ev B r) : Ev (fun n => if c then A n else B n) r := Ev.congr (fun _ => if_neg h) k
theorem ev_some {α : Type} (r : α) : Ev (fun _ => some r) r := Ev.now r
theorem ev_eq {α : Type} {A : Nat → Option α} {r : α} (h : ∀ k, A k = some r) : Ev A r := ⟨0, fun k _ => h k⟩
theorem w64 {n : Int} (h0 : -9223372036854775808 ≤ n) (h1 : n ≤ 9223372036854775807) : wrap64 n = n := by unfold wrap64; omega
theorem u64w {n : Int} (h0 : 0 ≤ n) (h1 : n < 18446744073709551616) : IntKind.u64.wrap n = n := by
  have : IntKind.u64.wrap n = n % 18446744073709551616 := by simp [IntKind.wrap, IntKind.bits, IntKind.signed]
  rw [this]; omega
theorem u64m (n : Int) : IntKind.u64.wrap n = n % 18446744073709551616 := by simp [IntKind.wrap, IntKind.bits, IntKind.signed]
theorem i64_bd {n : Int} (h : (Lit.int .i64 n).wf = true) : -9223372036854775808 ≤ n ∧ n ≤ 9223372036854775807 := by
  simp [Lit.wf, IntKind.min, IntKind.max, IntKind.bits, IntKind.signed] at h; omega
theorem mn_def (a b : Int) : mn a b = if b < a then b else a := rfl
theorem mx_def (a b : Int) : mx a b = if a < b then b else a := rfl
theorem rd_get (l : List Int) (i : Int) (h : i.toNat < l.length) : rd l i = l[i.toNat] := by
  unfold rd; rw [List.getD_eq_getElem?_getD, List.getElem?_eq_getElem h]; rfl

/- BLOCK clip: what hist.Clip, Add, Mul compute -/
def clipI (x : Int) : Int := mn (mx x 0) 1000000000000
theorem clip_b (x : Int) : 0 ≤ clipI x ∧ clipI x ≤ 1000000000000 := by unfold clipI mn mx; (repeat' split) <;> omega
theorem clip_id {x : Int} (h0 : 0 ≤ x) (h1 : x ≤ 1000000000000) : clipI x = x := by unfold clipI mn mx; (repeat' split) <;> omega
theorem clip_hi {x : Int} (h1 : 1000000000000 ≤ x) : clipI x = 1000000000000 := by unfold clipI mn mx; (repeat' split) <;> omega
theorem clip_lo {x : Int} (h1 : x ≤ 0) : clipI x = 0 := by unfold clipI mn mx; (repeat' split) <;> omega
theorem clip_mono {x y : Int} (h : x ≤ y) : clipI x ≤ clipI y := by unfold clipI mn mx; (repeat' split) <;> omega
def addI (a b : Int) : Int := clipI (clipI a + clipI b)
def mulI (a b : Int) : Int := clipI (clipI a * clipI b)
theorem add_b (a b : Int) : 0 ≤ addI a b ∧ addI a b ≤ 1000000000000 := clip_b _
theorem mul_b (a b : Int) : 0 ≤ mulI a b ∧ mulI a b ≤ 1000000000000 := clip_b _
theorem mul_mono {a b c d : Int} (h : a ≤ b) (k : c ≤ d) : mulI a c ≤ mulI b d := by
  unfold mulI
  exact clip_mono (Int.mul_le_mul (clip_mono h) (clip_mono k) (clip_b _).1 (clip_b _).1)
theorem add_mono {a b c d : Int} (h : a ≤ b) (k : c ≤ d) : addI a c ≤ addI b d := by
  unfold addI
  have := clip_mono h; have := clip_mono k
  exact clip_mono (by omega)
def sumI : List Int → Int
  | [] => 0
  | x :: l => clipI x + sumI l
theorem sumI_nn (l : List Int) : 0 ≤ sumI l := by
  induction l with
  | nil => exact Int.le_refl 0
  | cons x l ih => have := clip_b x; simp only [sumI]; omega
theorem sumI_app (a b : List Int) : sumI (a ++ b) = sumI a + sumI b := by
  induction a with
  | nil => simp [sumI]
  | cons x l ih => simp only [List.cons_append, sumI, ih]; omega
theorem sumI_rev (l : List Int) : sumI l.reverse = sumI l := by
  induction l with
  | nil => rfl
  | cons x l ih => simp only [List.reverse_cons, sumI_app, sumI, ih]; omega
def totI (l : List Int) : Int := clipI (sumI l)

/- BLOCK mul64: what bits.Mul64's text computes -/
theorem mul64_eq (x y : Int) (hx0 : 0 ≤ x) (hx : x < 18446744073709551616) (hy0 : 0 ≤ y) (hy : y < 18446744073709551616) :
    bits_Mul64.f x y = some (x * y / 18446744073709551616, x * y % 18446744073709551616) := by
  obtain ⟨a, rfl⟩ := Int.eq_ofNat_of_zero_le hx0
  obtain ⟨b, rfl⟩ := Int.eq_ofNat_of_zero_le hy0
  have ha : a < 18446744073709551616 := by omega
  have hb : b < 18446744073709551616 := by omega
  obtain ⟨h1, h2, h3, h4⟩ := Go.Lib.mul64_hi a b ha hb
  have q1 := Go.Lib.half_mul_le (a := a / 4294967296) (b := b / 4294967296) (by omega) (by omega)
  have q2 := Go.Lib.half_mul_le (a := a / 4294967296) (b := b % 4294967296) (by omega) (by omega)
  have q3 := Go.Lib.half_mul_le (a := a % 4294967296) (b := b / 4294967296) (by omega) (by omega)
  have q4 := Go.Lib.half_mul_le (a := a % 4294967296) (b := b % 4294967296) (by omega) (by omega)
  unfold bits_Mul64.f
  rw [and_low32 (a : Int) (by omega) (by omega), and_low32 (b : Int) (by omega) (by omega)]
  simp only [u64m]
  have e1 : ((a : Int) / 4294967296) * ((b : Int) % 4294967296) = (((a / 4294967296) * (b % 4294967296) : Nat) : Int) := rfl
  have e2 : ((a : Int) % 4294967296) * ((b : Int) % 4294967296) = (((a % 4294967296) * (b % 4294967296) : Nat) : Int) := rfl
  have e3 : ((a : Int) % 4294967296) * ((b : Int) / 4294967296) = (((a % 4294967296) * (b / 4294967296) : Nat) : Int) := rfl
  have e4 : ((a : Int) / 4294967296) * ((b : Int) / 4294967296) = (((a / 4294967296) * (b / 4294967296) : Nat) : Int) := rfl
  have e5 : (a : Int) * (b : Int) = ((a * b : Nat) : Int) := rfl
  rw [e1, e2, e3, e4, e5, and_low32 _ (by omega) (by omega)]
  generalize (a / 4294967296) * (b / 4294967296) = p1 at *
  generalize (a / 4294967296) * (b % 4294967296) = p2 at *
  generalize (a % 4294967296) * (b / 4294967296) = p3 at *
  generalize (a % 4294967296) * (b % 4294967296) = p4 at *
  generalize a * b = p at *
  congr 1
  rw [Prod.mk.injEq]
  exact ⟨by omega, rfl⟩

/- BLOCK histarith: hist.Clip, Add, Mul as printed -/
theorem hist_Clip_eq (x : Int) : hist_Clip.f x = some (clipI x) := rfl
theorem hist_Add_eq (a b : Int) : hist_Add.f a b = some (addI a b) := by
  unfold hist_Add.f
  simp only [hist_Clip_eq, Option.bind_some]
  have := clip_b a; have := clip_b b
  rw [w64 (by omega) (by omega)]; rfl
theorem hist_Mul_eq (a b : Int) : hist_Mul.f a b = some (mulI a b) := by
  unfold hist_Mul.f
  simp only [hist_Clip_eq, Option.bind_some]
  obtain ⟨ha0, ha1⟩ := clip_b a
  obtain ⟨hb0, hb1⟩ := clip_b b
  rw [u64w ha0 (by omega), u64w hb0 (by omega), mul64_eq _ _ ha0 (by omega) hb0 (by omega)]
  simp only [Option.bind_some]
  unfold mulI
  have hp : 0 ≤ clipI a * clipI b := Int.mul_nonneg ha0 hb0
  generalize clipI a * clipI b = p at *
  by_cases h : p / 18446744073709551616 = 0
  · rw [if_pos h]
    have : p % 18446744073709551616 = p := by omega
    rw [this]
    show some (wrap64 (clipI p)) = some (clipI p)
    have := clip_b p
    rw [w64 (by omega) (by omega)]
  · rw [if_neg h, clip_hi (by omega)]

/- BLOCK times: hist.Times as printed -/
def timesI (a b c : Int) : Int := mulI a b / mx 1 (clipI c)
theorem times_den (c : Int) : 1 ≤ mx 1 (clipI c) := by have := clip_b c; unfold mx; split <;> omega
theorem times_b (a b c : Int) : 0 ≤ timesI a b c ∧ timesI a b c ≤ 1000000000000 := by
  have h := mul_b a b
  have d := times_den c
  unfold timesI
  exact ⟨Int.ediv_nonneg h.1 (by omega), Int.le_trans (Int.ediv_le_self _ h.1) h.2⟩
theorem hist_Times_eq (a b c : Int) : hist_Times.f a b c = some (timesI a b c) := by
  unfold hist_Times.f
  have d := times_den c
  have q := times_b a b c
  have h := mul_b a b
  simp only [hist_Mul_eq, hist_Clip_eq, Option.bind_some]
  rw [if_neg (by omega), Int.tdiv_eq_ediv_of_nonneg h.1]
  unfold timesI at *
  rw [w64 (by omega) (by omega)]

/- BLOCK the law HistHeld -/
theorem examples_ev : Ev (fun k => weathercocklaw13_examples.f k) true := Ev.of weathercocklaw13_examples.mono (k := 40) (by decide +kernel)
theorem times_mono {a b : Int} (c d : Int) (h : a ≤ b) : timesI a c d ≤ timesI b c d := by
  unfold timesI
  have := times_den d
  exact Int.ediv_le_ediv (by omega) (mul_mono h (Int.le_refl c))
theorem add_comm' (a b : Int) : addI a b = addI b a := by unfold addI; rw [Int.add_comm]
theorem mul_comm' (a b : Int) : mulI a b = mulI b a := by unfold mulI; rw [Int.mul_comm]
theorem add_assoc' (a b c : Int) : addI (addI a b) c = addI a (addI b c) := by
  unfold addI
  have ha := clip_b a; have hb := clip_b b; have hc := clip_b c
  generalize clipI a = x at *
  generalize clipI b = y at *
  generalize clipI c = z at *
  have e1 := clip_b (x + y); have e2 := clip_b (y + z)
  rw [clip_id e1.1 e1.2, clip_id e2.1 e2.2]
  by_cases c1 : x + y ≤ 1000000000000
  · rw [clip_id (x := x + y) (by omega) c1]
    by_cases c2 : y + z ≤ 1000000000000
    · rw [clip_id (x := y + z) (by omega) c2, Int.add_assoc]
    · rw [clip_hi (x := y + z) (by omega), clip_hi (by omega), clip_hi (by omega)]
  · rw [clip_hi (x := x + y) (by omega), clip_hi (x := 1000000000000 + z) (by omega)]
    by_cases c2 : y + z ≤ 1000000000000
    · rw [clip_id (x := y + z) (by omega) c2, clip_hi (by omega)]
    · rw [clip_hi (x := y + z) (by omega), clip_hi (by omega)]
theorem times_one (a : Int) : timesI a 1 1 = clipI a := by
  have h1 : clipI 1 = 1 := by decide
  have h2 : mx 1 1 = 1 := by decide
  have hb := clip_b a
  unfold timesI mulI
  rw [h1, h2, Int.mul_one, Int.ediv_one, clip_id hb.1 hb.2]
theorem j1_ev (a b c : Int) : Ev (fun k => weathercocklaw13_HistHeld.j1 k a b c true false) true := by
  refine Ev.step (fun k => rfl) ?_
  simp only [weathercocklaw13_HistHeld.j1, hist_Add_eq, hist_Mul_eq, hist_Times_eq, hist_Clip_eq, Option.bind_some, add_comm' b a, mul_comm' b a, times_one, add_assoc', if_true, beq_self_eq_true, Bool.false_eq_true, if_false]
  exact ev_some _
theorem tail_ev (a b c : Int) : Ev (fun k => if a < b then ((hist_Clip.f a).bind fun t159 => ((hist_Clip.f b).bind fun t160 => (if t159 > t160 then (weathercocklaw13_HistHeld.j1 k a b c true true) else ((hist_Add.f a c).bind fun t161 => ((hist_Add.f b c).bind fun t162 => (if t161 > t162 then (weathercocklaw13_HistHeld.j1 k a b c true true) else ((hist_Mul.f a c).bind fun t163 => ((hist_Mul.f b c).bind fun t164 => (if t163 > t164 then (weathercocklaw13_HistHeld.j1 k a b c true true) else ((hist_Times.f a c 7).bind fun t165 => ((hist_Times.f b c 7).bind fun t166 => (weathercocklaw13_HistHeld.j1 k a b c true (decide (t165 > t166)))))))))))))) else (weathercocklaw13_HistHeld.j1 k a b c true false)) true := by
  simp only [hist_Add_eq, hist_Mul_eq, hist_Times_eq, hist_Clip_eq, Option.bind_some]
  by_cases h : a < b
  · have h1 := clip_mono (Int.le_of_lt h)
    have h2 := add_mono (Int.le_of_lt h) (Int.le_refl c)
    have h3 := mul_mono (Int.le_of_lt h) (Int.le_refl c)
    have h4 := times_mono c 7 (Int.le_of_lt h)
    refine ev_pos h (ev_neg (by omega) (ev_neg (by omega) (ev_neg (by omega) ?_)))
    rw [decide_eq_false (by omega)]
    exact j1_ev a b c
  · exact ev_neg h (j1_ev a b c)
theorem l0_ev (a b c : Int) (l : List Int) (hl : l.length = 4) (hb : ∀ (i : Nat) (h : i < l.length), 0 ≤ l[i] ∧ l[i] ≤ 1000000000000) (d : Nat) : ∀ i : Int, 0 ≤ i → 4 - i = d → Ev (fun k => weathercocklaw13_HistHeld.l0 k a b c true l i) true := by
  induction d with
  | zero =>
    intro i h0 hd
    refine Ev.step (fun k => rfl) ?_
    simp only [weathercocklaw13_HistHeld.l0]
    exact ev_neg (by omega) (tail_ev a b c)
  | succ d ih =>
    intro i h0 hd
    have hlt : i.toNat < l.length := by omega
    have q := hb i.toNat hlt
    refine Ev.step (fun k => rfl) ?_
    simp only [weathercocklaw13_HistHeld.l0]
    refine ev_pos (by omega) (ev_pos h0 (ev_pos (by omega) ?_))
    rw [rd_get _ _ hlt]
    refine ev_neg (by omega) (ev_neg (by omega) ?_)
    rw [w64 (by omega) (by omega)]
    exact ih (i + 1) (by omega) (by omega)
theorem HistHeld : weathercocklaw13_HistHeld.Pure := by
  intro a b c _ _ _
  apply Ev.rounds
  unfold weathercocklaw13_HistHeld.f
  refine Ev.bind examples_ev ?_
  simp only [hist_Add_eq, hist_Mul_eq, hist_Times_eq, hist_Clip_eq, Option.bind_some]
  refine l0_ev a b c _ rfl ?_ 4 0 (by omega) (by omega)
  intro i h
  match i, h with
  | 0, _ => exact clip_b a
  | 1, _ => exact add_b a b
  | 2, _ => exact mul_b a b
  | 3, _ => exact times_b a b c

end Go.Proofs.Ytlhpldhejhfkaaa.Pure
