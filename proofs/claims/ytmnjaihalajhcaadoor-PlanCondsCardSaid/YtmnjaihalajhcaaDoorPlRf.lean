import Derived.Test.YtmnjaihalajhcaaDoorPlJ
import Derived.Test.YtmnjaihalajhcaaDoorQPlanCondsx2
import Derived.Laws.BitsLemmas
/- Plan: walks by hand; the conditions stand in each theorem. -/
namespace Go.Proofs.YtmnjaihalajhcaaDoor.QPlanConds
open Go.RowKit Go.Proofs.YtmnjaihalajhcaaDoorW.PrintWords Go.Proofs.YtmnjaihalajhcaaDoorW.PrintLast Go.Proofs.YtmnjaihalajhcaaDoorW.PrintMore
attribute [local go_sem] max2_int min2_int max_two min_two max_three min_three max_four min_four
set_option linter.unusedVariables false
set_option linter.unusedSimpArgs false
/- Sets of tables. -/
theorem bits63 (a b : Nat) (ha : a < 2 ^ 63) (hb : b < 2 ^ 63) : Go.bits .and .i64 a b = ((a &&& b : Nat) : Int) ∧ Go.bits .or .i64 a b = ((a ||| b : Nat) : Int) :=
  bits_nat .i64 63 (by decide) (fun n h0 h1 => by rw [IntKind.wrap_i64]; omega) a b ha hb
theorem andNot_zero (a b : Nat) (ha : a < 2 ^ 63) (hb : b < 2 ^ 63) : (Go.bits .andNot .i64 a b == 0) = (a &&& b == a) := by
  have h1 : Go.bits .andNot .i64 a b = IntKind.i64.wrap (((BitVec.ofNat 64 a &&& ~~~ (BitVec.ofNat 64 b)).toNat : Nat) : Int) := by
    simp only [Go.bits, BitVec.ofInt_natCast]
    rfl
  have h2 : ∀ n : Nat, n < 2 ^ 64 → (IntKind.i64.wrap (n : Int) = 0 ↔ n = 0) := by
    intro n hn
    rw [IntKind.wrap_i64]
    omega
  have h3 := h2 _ (BitVec.isLt (BitVec.ofNat 64 a &&& ~~~ (BitVec.ofNat 64 b)))
  have h4 : (BitVec.ofNat 64 a &&& ~~~ (BitVec.ofNat 64 b)).toNat = 0 ↔ a &&& b = a := by
    have key : ∀ i, (BitVec.ofNat 64 a &&& ~~~ (BitVec.ofNat 64 b)).toNat.testBit i = (a.testBit i && !b.testBit i) := by
      intro i
      rw [BitVec.testBit_toNat, BitVec.getLsbD_and, BitVec.getLsbD_not, BitVec.getLsbD_ofNat, BitVec.getLsbD_ofNat]
      by_cases hi : i < 64
      · simp [hi]
      · have : a.testBit i = false := Nat.testBit_lt_two_pow (Nat.lt_of_lt_of_le ha (Nat.pow_le_pow_right (by decide) (by omega)))
        simp [hi, this]
    constructor
    · intro h
      apply Nat.eq_of_testBit_eq
      intro i
      have := key i
      rw [h] at this
      simp at this
      rw [Nat.testBit_and]
      cases hx : a.testBit i <;> cases hy : b.testBit i <;> simp_all
    · intro h
      apply Nat.eq_of_testBit_eq
      intro i
      rw [key i]
      have : (a &&& b).testBit i = a.testBit i := by rw [h]
      rw [Nat.testBit_and] at this
      simp
      cases hx : a.testBit i <;> cases hy : b.testBit i <;> simp_all
  rw [h1]
  rw [Bool.eq_iff_iff, beq_iff_eq, beq_iff_eq, h3, h4]
theorem inB_nat (a s : Nat) (ha : a < 2 ^ 63) (hs : s < 2 ^ 63) : inB (a : Int) (s : Int) = true ↔ a ≠ 0 ∧ a &&& s = a := by
  unfold inB
  rw [andNot_zero a s ha hs]
  by_cases h : a = 0
  · subst h; simp
  · rw [if_neg (by omega)]; simp [h]
theorem sub_or {a s m : Nat} (h : a &&& s = a) : a &&& (s ||| m) = a := by
  apply Nat.eq_of_testBit_eq
  intro i
  have : (a &&& s).testBit i = a.testBit i := by rw [h]
  rw [Nat.testBit_and] at this
  rw [Nat.testBit_and, Nat.testBit_or]
  cases hx : a.testBit i <;> cases hy : s.testBit i <;> simp_all
theorem or_sub {a b s : Nat} (h : a &&& s = a) (k : b &&& s = b) : (a ||| b) &&& s = a ||| b := by
  apply Nat.eq_of_testBit_eq
  intro i
  have h1 : (a &&& s).testBit i = a.testBit i := by rw [h]
  have h2 : (b &&& s).testBit i = b.testBit i := by rw [k]
  rw [Nat.testBit_and] at h1 h2
  rw [Nat.testBit_and, Nat.testBit_or]
  cases hx : a.testBit i <;> cases hy : b.testBit i <;> cases hz : s.testBit i <;> simp_all
theorem or_meets {a b s : Nat} (h0 : a ≠ 0) (h : a &&& s = a) : (a ||| b) &&& s ≠ 0 := by
  intro e
  apply h0
  apply Nat.eq_of_testBit_eq
  intro i
  have h1 : (a &&& s).testBit i = a.testBit i := by rw [h]
  have h2 : ((a ||| b) &&& s).testBit i = (0 : Nat).testBit i := by rw [e]
  rw [Nat.testBit_and] at h1
  rw [Nat.testBit_and, Nat.testBit_or, Nat.zero_testBit] at h2
  rw [Nat.zero_testBit]
  cases hx : a.testBit i <;> cases hz : s.testBit i <;> simp_all
theorem or_comm_ (a b : Nat) : a ||| b = b ||| a := Nat.or_comm a b
/- The tables of a term are added to what there is. -/
theorem tb_or : ∀ k e, okD k e = true → ∃ u : Nat, u < 65536 ∧ ∀ v : Nat, v < 65536 → tb k e (v : Int) = ((v ||| u : Nat) : Int) ∧ tb (k + 1) e (v : Int) = tb k e (v : Int) := by
  intro k
  induction k with
  | zero => intro e h; cases h
  | succ k ih =>
    intro e h
    unfold okD at h
    obtain ⟨ho, hl⟩ := Bool.and_eq_true_iff.1 h
    have hL : ∀ l : List S46, l.all (okD k) = true → ∃ u : Nat, u < 65536 ∧ ∀ v : Nat, v < 65536 → l.foldl (fun v x => tb k x v) (v : Int) = ((v ||| u : Nat) : Int) ∧ l.foldl (fun v x => tb (k + 1) x v) (v : Int) = l.foldl (fun v x => tb k x v) (v : Int) := by
      intro l
      induction l with
      | nil => intro _; exact ⟨0, by decide, fun v _ => ⟨by simp, rfl⟩⟩
      | cons x l ihl =>
        intro hl
        rw [List.all_cons] at hl
        obtain ⟨h1, h2⟩ := Bool.and_eq_true_iff.1 hl
        obtain ⟨u1, b1, e1⟩ := ih x h1
        obtain ⟨u2, b2, e2⟩ := ihl h2
        refine ⟨u1 ||| u2, Nat.or_lt_two_pow (n := 16) b1 b2, fun v hv => ?_⟩
        have hv1 : v ||| u1 < 65536 := Nat.or_lt_two_pow (n := 16) hv b1
        rw [List.foldl_cons, List.foldl_cons, (e1 v hv).2, (e1 v hv).1, (e2 _ hv1).1, (e2 _ hv1).2, (e2 _ hv1).1, Nat.or_assoc]
        exact ⟨rfl, rfl⟩
    obtain ⟨u, bu, eu⟩ := hL e.f6 hl
    have hO : ∃ t : Nat, t < 65536 ∧ ∀ v : Nat, v < 65536 → orT e (v : Int) = ((v ||| t : Nat) : Int) := by
      by_cases h2 : e.f0 = 2
      · obtain ⟨r0, r1⟩ := own_rel ho h2
        obtain ⟨n, hn⟩ := Int.eq_ofNat_of_zero_le r0
        have hn16 : n ≤ 15 := by omega
        have hp : (2 : Nat) ^ n ≤ 2 ^ 15 := Nat.pow_le_pow_right (by decide) hn16
        refine ⟨2 ^ n, by omega, fun v hv => ?_⟩
        unfold orT
        rw [if_pos h2, hn, Int.toNat_natCast]
        have hw : wrap64 ((2 : Int) ^ n) = ((2 ^ n : Nat) : Int) := by
          have h2 : ((2 : Int) ^ n) = ((2 ^ n : Nat) : Int) := by simp
          rw [h2]
          clear h2
          generalize (2 : Nat) ^ n = q at hp ⊢
          exact w64_ (by omega) (by omega)
        rw [hw]
        exact (bits63 v (2 ^ n) (by omega) (by omega)).2
      · exact ⟨0, by decide, fun v _ => by unfold orT; rw [if_neg h2]; simp⟩
    obtain ⟨t, bt, et⟩ := hO
    refine ⟨t ||| u, Nat.or_lt_two_pow (n := 16) bt bu, fun v hv => ?_⟩
    have hv1 : v ||| t < 65536 := Nat.or_lt_two_pow (n := 16) hv bt
    constructor
    · show e.f6.foldl (fun v x => tb k x v) (orT e v) = _
      rw [et v hv, (eu _ hv1).1, Nat.or_assoc]
    · show e.f6.foldl (fun v x => tb (k + 1) x v) (orT e v) = e.f6.foldl (fun v x => tb k x v) (orT e v)
      rw [et v hv, (eu _ hv1).2]
/- A part of a right term is right. -/
theorem wk_shift : ∀ k e n, (wk k e n).2 = true → ∀ d n', n' + d = n → (wk (k + 1) e n').2 = true ∧ (wk (k + 1) e n').1 + d = (wk k e n).1 := by
  intro k
  induction k with
  | zero => intro e n h; cases h
  | succ k ih =>
    intro e n h d n' hd
    have hL : ∀ (l : List S46) n, (wkL (wk k) l n).2 = true → ∀ d n', n' + d = n → (wkL (wk (k + 1)) l n').2 = true ∧ (wkL (wk (k + 1)) l n').1 + d = (wkL (wk k) l n).1 := by
      intro l
      induction l with
      | nil => intro n _ d n' hd; exact ⟨rfl, hd⟩
      | cons x l ihl =>
        intro n h d n' hd
        unfold wkL at h ⊢
        split at h
        · rename_i hx
          obtain ⟨a1, a2⟩ := ih x n hx d n' hd
          rw [if_pos a1, if_pos hx]
          exact ihl _ h d _ a2
        · cases h
    rw [wk] at h ⊢
    split at h
    · cases h
    · rename_i hn
      rw [if_neg (by omega)]
      split at h
      · rename_i ho
        rw [if_pos ho]
        have := hL e.f6 (n + 1) h d (n' + 1) (by omega)
        rw [wk, if_neg hn, if_pos ho]
        exact this
      · cases h
theorem wkL_in {k : Nat} : ∀ (l : List S46) n, (wkL (wk k) l n).2 = true → ∀ x ∈ l, ∃ m, (wk k x m).2 = true := by
  intro l
  induction l with
  | nil => intro n _ x hx; cases hx
  | cons y l ih =>
    intro n h x hx
    unfold wkL at h
    split at h
    · rename_i hy
      rcases List.mem_cons.1 hx with rfl | hx
      · exact ⟨n, hy⟩
      · exact ih _ h x hx
    · cases h
theorem right_in {e x : S46} (h : rightX e = true) (hx : x ∈ e.f6) : rightX x = true ∧ okD 19 x = true := by
  unfold rightX at h
  rw [wk] at h
  split at h
  · cases h
  · split at h
    · obtain ⟨m, hm⟩ := wkL_in _ _ h x hx
      exact ⟨(wk_shift 19 x m hm m 0 (by omega)).1, wk_ok _ _ _ hm⟩
    · cases h
theorem mem_two46 {l : List S46} (hl : l.length = 2) : l = [rd_T46 l 0, rd_T46 l 1] := by
  match l, hl with
  | [x, y], _ => rfl
theorem eq_tables {L : List S46} {i : Int} {x : S46} (h : eqX L i = some x) : ∃ a b : Nat, a < 65536 ∧ b < 65536 ∧ tablesX (rd_T46 x.f6 0) = (a : Int) ∧ tablesX (rd_T46 x.f6 1) = (b : Int) ∧ tablesX x = ((a ||| b : Nat) : Int) := by
  obtain ⟨h9, hr⟩ := eqX_some h
  have hl := eq_two h
  have hz := mem_two46 hl
  have m0 : rd_T46 x.f6 0 ∈ x.f6 := by
    have : rd_T46 x.f6 0 ∈ [rd_T46 x.f6 0, rd_T46 x.f6 1] := List.mem_cons_self
    exact Eq.mpr (congrArg (fun l => rd_T46 x.f6 0 ∈ l) hz) this
  have m1 : rd_T46 x.f6 1 ∈ x.f6 := by
    have : rd_T46 x.f6 1 ∈ [rd_T46 x.f6 0, rd_T46 x.f6 1] := List.mem_cons_of_mem _ List.mem_cons_self
    exact Eq.mpr (congrArg (fun l => rd_T46 x.f6 1 ∈ l) hz) this
  obtain ⟨r0, o0⟩ := right_in hr m0
  obtain ⟨r1, o1⟩ := right_in hr m1
  obtain ⟨a, ba, ea⟩ := tb_or 19 _ o0
  obtain ⟨b, bb, eb⟩ := tb_or 19 _ o1
  refine ⟨a, b, ba, bb, ?_, ?_, ?_⟩
  · unfold tablesX
    rw [if_pos r0]
    have := ea 0 (by decide)
    rw [Nat.zero_or] at this
    exact this.2.trans this.1
  · unfold tablesX
    rw [if_pos r1]
    have := eb 0 (by decide)
    rw [Nat.zero_or] at this
    exact this.2.trans this.1
  · unfold tablesX
    rw [if_pos hr]
    have e1 : tb 20 x 0 = x.f6.foldl (fun v x => tb 19 x v) (orT x 0) := by rw [tb]
    have e2 : orT x 0 = ((0 : Nat) : Int) := by unfold orT; rw [if_neg (by omega)]; rfl
    have e3 : x.f6.foldl (fun v x => tb 19 x v) ((0 : Nat) : Int) = [rd_T46 x.f6 0, rd_T46 x.f6 1].foldl (fun v x => tb 19 x v) ((0 : Nat) : Int) := congrArg (fun l => List.foldl (fun v x => tb 19 x v) ((0 : Nat) : Int) l) hz
    rw [e1, e2, e3]
    have h0 := (ea 0 (by decide)).1
    rw [Nat.zero_or] at h0
    rw [List.foldl_cons, List.foldl_cons, List.foldl_nil, h0]
    exact (eb a ba).1
attribute [local go_sem high] eqA44
theorem operands_eq (a : Int) : weathercockref08_operands.f 1 a = some (wantsI a) := by
  unfold weathercockref08_operands.f wantsI
  by_cases h1 : a < 1
  · rw [if_pos h1, if_pos h1]; rfl
  rw [if_neg h1, if_neg h1]
  by_cases h2 : a ≥ 19
  · rw [if_pos h2, decide_eq_true (show a > 18 by omega)]; rfl
  rw [if_neg h2, decide_eq_false (show ¬ a > 18 by omega)]
  show (if a ≤ 3 then some 0 else if a = 8 then some 1 else if a = 17 then some 1 else if a = 18 then some 1 else some 2) = some (if a < 4 then 0 else if a = 8 then 1 else if a < 17 then 2 else 1)
  (repeat' split) <;> first | rfl | (exfalso; omega)
theorem op63 (a : Int) (w : World) : Calls Tryd.prog 63 #[.int .i64 a] w fun e_ w' => e_ = .returned (.int .i64 (wantsI a)) ∧ Below w.heap.size w w' := by
  refine (weathercockref08_operands.calls 1 a (wantsI a) w (operands_eq a)).mono ?_
  rintro e_ w' ⟨rfl, hd⟩
  exact ⟨rfl, hd.below⟩
theorem vr_ref (v : S44) : weathercockref01_Right.f v.f0 v.f1 v.f2 = some (vrB v) := by
  rw [← vr_some v]
  unfold weathercockref01_Right.f value_Right.f
  by_cases h0 : v.f0 = 0
  · rw [if_pos h0, if_pos h0, h0]
    by_cases h1 : v.f1 = 0
    · rw [if_pos h1, h1]; simp
    · rw [if_neg h1, beq_eq_false_iff_ne.2 h1]; simp
  rw [if_neg h0, if_neg h0]
  by_cases h1 : v.f0 = 1
  · rw [if_pos h1, if_pos h1]
  rw [if_neg h1, if_neg h1]
  by_cases h2 : v.f0 = 2
  · rw [if_pos h2, if_pos h2]
    by_cases a : v.f1 = 0
    · rw [if_pos a, a]; rfl
    · rw [if_neg a]
      by_cases b : v.f1 = 1
      · rw [if_pos b, b]; rfl
      · rw [if_neg b, if_neg (by omega)]
  rw [if_neg h2, if_neg h2]
theorem vr64 (v : S44) (w : World) : Calls Tryd.prog 64 #[.agg #[.int .i64 v.f0, .int .i64 v.f1, .string v.f2]] w fun e_ w' => e_ = .returned (.bool (vrB v)) ∧ Below w.heap.size w w' :=
  weathercockref01_Right.calls v.f0 v.f1 v.f2 _ w (vr_ref v)
def b2 (e : S46) (m : Int) : Bool := decide (wantsI e.f0 < 0) || (((e.f6.length : Int) != wantsI e.f0) || (!(e.f5.toList == ([] : List UInt8)) || (m == 0)))
def b5 (e : S46) : Bool := !(vrB e.f1) || ((e.f0 != 1) && !(zvB e.f1))
def b7 (e : S46) : Bool := if e.f0 = 2 then decide (e.f2 < 0) || (decide (e.f2 > 15) || (decide (e.f3 < 0) || decide (e.f3 > 5))) else (e.f2 != 0) || (e.f3 != 0)
def b9 (e : S46) : Bool := if e.f0 = 3 then decide (e.f4 < 1) || decide (e.f4 > 4) else e.f4 != 0
theorem zv_vr {v : S44} (h : zvB v = true) : vrB v = true := by
  unfold zvB at h
  simp only [Bool.and_eq_true, beq_iff_eq] at h
  obtain ⟨h0, h1, h2⟩ := h
  have := vr_ref v
  unfold weathercockref01_Right.f at this
  rw [if_pos h0, if_pos h1, h2] at this
  exact (Option.some.inj this).symm
theorem own_ref {e : S46} {m : Int} (hm : m ≠ 0) : (b2 e m = false ∧ b5 e = false ∧ b7 e = false ∧ b9 e = false) ↔ ownB e = true := by
  have hz := zv_vr (v := e.f1)
  unfold b2 b5 b7 b9 ownB ownT
  generalize vrB e.f1 = vr at *
  generalize zvB e.f1 = zv at *
  generalize (e.f5.toList == ([] : List UInt8)) = sv
  generalize wantsI e.f0 = wt
  by_cases h1 : e.f0 = 1
  · rw [if_pos h1, if_neg (by omega), if_neg (by omega), h1]
    simp
    constructor
    · rintro ⟨⟨a, b, c, d⟩, f, ⟨g, i⟩, j⟩; exact ⟨c, by omega, f, g, i, j⟩
    · rintro ⟨c, b, f, g, i, j⟩; exact ⟨⟨by omega, by omega, c, hm⟩, f, ⟨g, i⟩, j⟩
  by_cases h2 : e.f0 = 2
  · rw [if_neg h1, if_pos h2, if_pos h2, if_neg (by omega), h2]
    simp
    constructor
    · rintro ⟨⟨a, b, c, d⟩, ⟨f, x⟩, ⟨g, i, k, l⟩, j⟩; exact ⟨c, by omega, by omega, by omega, by omega, by omega, j, x⟩
    · rintro ⟨c, b, g, i, k, l, j, x⟩; exact ⟨⟨by omega, by omega, c, hm⟩, ⟨hz x, x⟩, ⟨by omega, by omega, by omega, by omega⟩, j⟩
  by_cases h3 : e.f0 = 3
  · rw [if_neg h1, if_neg h2, if_neg h2, if_pos h3, if_pos h3, h3]
    simp
    constructor
    · rintro ⟨⟨a, b, c, d⟩, ⟨f, x⟩, ⟨g, i⟩, k, l⟩; exact ⟨c, by omega, by omega, by omega, g, i, x⟩
    · rintro ⟨c, b, k, l, g, i, x⟩; exact ⟨⟨by omega, by omega, c, hm⟩, ⟨hz x, x⟩, ⟨g, i⟩, by omega, by omega⟩
  · rw [if_neg h1, if_neg h2, if_neg h2, if_neg h3, if_neg h3, bne_iff_ne.2 h1]
    simp
    constructor
    · rintro ⟨⟨a, b, c, d⟩, ⟨f, x⟩, ⟨g, i⟩, j⟩; exact ⟨c, by omega, g, i, j, x⟩
    · rintro ⟨c, b, g, i, j, x⟩; exact ⟨⟨by omega, by omega, c, hm⟩, ⟨hz x, x⟩, ⟨g, i⟩, j⟩
/- How many operations a right one has. -/
def szL (f : S46 → Nat × Bool) : List S46 → Nat → Nat × Bool
  | [], n => (n, true)
  | x :: l, n => if (f x).2 = true then (if n + (f x).1 > 200 then (0, false) else szL f l (n + (f x).1)) else (0, false)
def sz : Nat → S46 → Nat × Bool
  | 0, _ => (0, false)
  | k + 1, e => if ownB e = true then szL (sz k) e.f6 1 else (0, false)
theorem szL_snoc (f : S46 → Nat × Bool) (x : S46) : ∀ (l : List S46) n, szL f (l ++ [x]) n = if (szL f l n).2 = true then (if (f x).2 = true then (if (szL f l n).1 + (f x).1 > 200 then (0, false) else ((szL f l n).1 + (f x).1, true)) else (0, false)) else (0, false)
  | [], n => by simp [szL]
  | y :: l, n => by
    have ih := szL_snoc f x l (n + (f y).1)
    simp only [List.cons_append, szL]
    split
    · split
      · rfl
      · exact ih
    · rfl
theorem szL_pre (f : S46 → Nat × Bool) : ∀ (l m : List S46) n, (szL f l n).2 = false → (szL f (l ++ m) n).2 = false
  | [], m, n, h => by cases h
  | y :: l, m, n, h => by
    simp only [List.cons_append, szL] at h ⊢
    split
    · rename_i hy
      rw [if_pos hy] at h
      split
      · rfl
      · rename_i hz
        rw [if_neg hz] at h
        exact szL_pre f l m _ h
    · rfl
def szK : Nat → S46 → Nat
  | 0, _ => 1
  | k + 1, e => 1 + (e.f6.map (szK k)).sum
theorem wkL_spec {f : S46 → Nat → Nat × Bool} {o : S46 → Bool} {s : S46 → Nat} (h : ∀ x n, n ≤ 200 → (f x n).2 = (o x && decide (n + s x ≤ 200)) ∧ ((f x n).2 = true → (f x n).1 = n + s x)) :
    ∀ (l : List S46) n, n ≤ 200 → (wkL f l n).2 = (l.all o && decide (n + (l.map s).sum ≤ 200)) ∧ ((wkL f l n).2 = true → (wkL f l n).1 = n + (l.map s).sum)
  | [], n, hn => by simp [wkL, hn]
  | x :: l, n, hn => by
    obtain ⟨h1, h2⟩ := h x n hn
    unfold wkL
    rw [List.all_cons, List.map_cons, List.sum_cons]
    by_cases hx : (f x n).2 = true
    · rw [if_pos hx, h2 hx]
      rw [h1] at hx
      obtain ⟨o1, o2⟩ := Bool.and_eq_true_iff.1 hx
      obtain ⟨i1, i2⟩ := wkL_spec h l (n + s x) (of_decide_eq_true o2)
      rw [o1, Bool.true_and, ← Nat.add_assoc]
      exact ⟨i1, i2⟩
    · rw [if_neg hx]
      refine ⟨?_, fun h => by cases h⟩
      rw [h1] at hx
      show false = _
      by_cases o1 : o x = true
      · rw [o1, Bool.true_and] at hx
        have h3 : ¬ (n + s x ≤ 200) := fun h => hx (decide_eq_true h)
        rw [decide_eq_false (by omega), Bool.and_false]
      · rw [show o x = false by simpa using o1]; rfl
theorem wk_spec : ∀ k e n, n ≤ 200 → (wk k e n).2 = (okD k e && decide (n + szK k e ≤ 200)) ∧ ((wk k e n).2 = true → (wk k e n).1 = n + szK k e)
  | 0, e, n, hn => ⟨rfl, fun h => by cases h⟩
  | k + 1, e, n, hn => by
    unfold wk okD szK
    by_cases h1 : n + 1 > 200
    · rw [if_pos h1]
      exact ⟨by rw [decide_eq_false (by omega), Bool.and_false], fun h => by cases h⟩
    · rw [if_neg h1]
      by_cases h2 : ownB e = true
      · rw [if_pos h2, h2, Bool.true_and, ← Nat.add_assoc]
        exact wkL_spec (fun x n hn => wk_spec k x n hn) e.f6 (n + 1) (by omega)
      · rw [if_neg h2, show ownB e = false by simpa using h2]
        exact ⟨rfl, fun h => by cases h⟩
theorem szL_spec {f : S46 → Nat × Bool} {o : S46 → Bool} {s : S46 → Nat} (h : ∀ x, (f x).2 = (o x && decide (s x ≤ 200)) ∧ ((f x).2 = true → (f x).1 = s x)) :
    ∀ (l : List S46) n, n ≤ 200 → (szL f l n).2 = (l.all o && decide (n + (l.map s).sum ≤ 200)) ∧ ((szL f l n).2 = true → (szL f l n).1 = n + (l.map s).sum)
  | [], n, hn => by simp [szL, hn]
  | x :: l, n, hn => by
    obtain ⟨h1, h2⟩ := h x
    unfold szL
    rw [List.all_cons, List.map_cons, List.sum_cons]
    by_cases hx : (f x).2 = true
    · rw [if_pos hx, h2 hx]
      rw [h1] at hx
      obtain ⟨o1, o2⟩ := Bool.and_eq_true_iff.1 hx
      rw [o1, Bool.true_and, ← Nat.add_assoc]
      by_cases h3 : n + s x > 200
      · rw [if_pos h3]
        exact ⟨by rw [decide_eq_false (by omega), Bool.and_false], fun h => by cases h⟩
      · rw [if_neg h3]
        exact szL_spec h l (n + s x) (by omega)
    · rw [if_neg hx]
      refine ⟨?_, fun h => by cases h⟩
      rw [h1] at hx
      show false = _
      by_cases o1 : o x = true
      · rw [o1, Bool.true_and] at hx
        have h3 : ¬ (s x ≤ 200) := fun h => hx (decide_eq_true h)
        rw [decide_eq_false (by omega), Bool.and_false]
      · rw [show o x = false by simpa using o1]; rfl
theorem sz_spec : ∀ k e, (sz k e).2 = (okD k e && decide (szK k e ≤ 200)) ∧ ((sz k e).2 = true → (sz k e).1 = szK k e)
  | 0, e => ⟨rfl, fun h => by cases h⟩
  | k + 1, e => by
    unfold sz okD szK
    by_cases h2 : ownB e = true
    · rw [if_pos h2, h2, Bool.true_and]
      exact szL_spec (fun x => sz_spec k x) e.f6 1 (by decide)
    · rw [if_neg h2, show ownB e = false by simpa using h2]
      exact ⟨rfl, fun h => by cases h⟩
theorem sz_le {k : Nat} {e : S46} (h : (sz k e).2 = true) : (sz k e).1 ≤ 200 := by
  obtain ⟨h1, h2⟩ := sz_spec k e
  rw [h2 h]
  rw [h1] at h
  exact of_decide_eq_true (Bool.and_eq_true_iff.1 h).2
theorem sz_right (e : S46) : (sz 20 e).2 = rightX e := by
  rw [(sz_spec 20 e).1]
  unfold rightX
  rw [(wk_spec 20 e 0 (by decide)).1, Nat.zero_add]
theorem szL_le {f : S46 → Nat × Bool} : ∀ (l : List S46) n, n ≤ 200 → (szL f l n).2 = true → (szL f l n).1 ≤ 200
  | [], n, hn, _ => hn
  | x :: l, n, hn, h => by
    unfold szL at h ⊢
    split at h
    · rename_i h1
      rw [if_pos h1]
      split at h
      · cases h
      · rename_i h2
        rw [if_neg h2]
        exact szL_le l _ (by omega) h
    · cases h
def SzP (k : Nat) (e : S46) (w : World) (e_ : Ending) (w' : World) : Prop := (∃ d n : Int, e_ = .returned (.tuple #[.int .i64 d, .int .i64 n, .bool (sz k e).2]) ∧ ((sz k e).2 = true → n = ((sz k e).1 : Int))) ∧ Below w.heap.size w w'
theorem szP_no {k : Nat} {e : S46} {w w' : World} (h : (sz k e).2 = false) (hb : Below w.heap.size w w') : SzP k e w (.returned (.tuple #[.int .i64 0, .int .i64 0, .bool false])) w' := ⟨⟨0, 0, by rw [h], fun h' => by rw [h] at h'; cases h'⟩, hb⟩
def Cz (k : Nat) : Prop := ∀ (e : S46) (A : Option Addr) (c : Nat) (w : World), k46.C w A e.f6.length e.f6 → Calls Tryd.prog 49 #[encE e A c, .int .i64 (k : Int)] w (SzP k e w)
theorem sz_no {k : Nat} {e : S46} (h : ¬ (b2 e (k : Int) = false ∧ b5 e = false ∧ b7 e = false ∧ b9 e = false)) : (sz k e).2 = false := by
  cases k with
  | zero => rfl
  | succ k =>
    unfold sz
    rw [if_neg (fun h' => h ((own_ref (by omega)).2 h'))]
set_option maxRecDepth 100000 in
set_option maxHeartbeats 16000000 in
theorem sizes49_step (k : Nat) (hk : k ≤ 20) (ih : ∀ k', k = k' + 1 → Cz k') : Cz k := by
  intro e A c w hC
  have HC := Aside0.mk hC
  have HIH := Aside0.mk ih
  have hu46 := Tryd.underlying46
  have hu44 := Tryd.underlying44
  obtain ⟨m, hm⟩ : ∃ m : Int, m = (k : Int) := ⟨_, rfl⟩
  have hm0 : 0 ≤ m := by omega
  have hm20 : m ≤ 20 := by omega
  rw [← hm]
  have HM := Aside0.mk hm
  have HNO : Aside0 (b2 e m = true ∨ b5 e = true ∨ b7 e = true ∨ b9 e = true → (sz k e).2 = false) := ⟨fun h => sz_no (by rw [← hm]; rintro ⟨h1, h2, h3, h4⟩; rw [h1, h2, h3, h4] at h; simp at h)⟩
  clear hC ih hm hk
  unfold encE
  go_enter Tryd.func49, Tryd.ntmps49
  go_upto_region 2 with (first | ((with_reducible refine gate_dst (N := 2) rfl ?_); refine box_event ?hg (N := 2) ?hd (cs := cellsE e (.slice A e.f6.length c)) (t := 46) ?hr ?_; (case hd => rfl); (case hg => rfl); (case hr => unfold cellsE; first | (go_simp; done) | (go_simp; rfl)); intro gb hg1 w1 hbox hb; have BK := Aside0.mk hbox; have HB := Aside0.mk hb; have f0 := (blk_cell BK.out 0).trans (rfl : _ = some (Value.int .i64 e.f0)); have f1 := (blk_cell BK.out 1).trans (rfl : _ = some (Value.int .i64 e.f1.f0)); have f2 := (blk_cell BK.out 2).trans (rfl : _ = some (Value.int .i64 e.f1.f1)); have f3 := (blk_cell BK.out 3).trans (rfl : _ = some (Value.string e.f1.f2)); have f4 := (blk_cell BK.out 4).trans (rfl : _ = some (Value.int .i64 e.f2)); have f5 := (blk_cell BK.out 5).trans (rfl : _ = some (Value.int .i64 e.f3)); have f6 := (blk_cell BK.out 6).trans (rfl : _ = some (Value.int .i64 e.f4)); have f7 := (blk_cell BK.out 7).trans (rfl : _ = some (Value.string e.f5)); have f8 := (blk_cell BK.out 8).trans (rfl : _ = some (Value.slice A e.f6.length c)); clear hbox hb hg1) | (go_at_call 63; refine (op63 _ _).mono ?_; rintro e_ w2 ⟨rfl, hb2⟩; have HB2 := Aside0.mk (bst HB.out hb2); have BK2 := Aside0.mk ((hb2.block gb (blk_lt BK.out)).trans BK.out); clear hb2 f0 f1 f2 f3 f4 f5 f6 f7 f8; have f0 := (blk_cell BK2.out 0).trans (rfl : _ = some (Value.int .i64 e.f0)); have f1 := (blk_cell BK2.out 1).trans (rfl : _ = some (Value.int .i64 e.f1.f0)); have f2 := (blk_cell BK2.out 2).trans (rfl : _ = some (Value.int .i64 e.f1.f1)); have f3 := (blk_cell BK2.out 3).trans (rfl : _ = some (Value.string e.f1.f2)); have f4 := (blk_cell BK2.out 4).trans (rfl : _ = some (Value.int .i64 e.f2)); have f5 := (blk_cell BK2.out 5).trans (rfl : _ = some (Value.int .i64 e.f3)); have f6 := (blk_cell BK2.out 6).trans (rfl : _ = some (Value.int .i64 e.f4)); have f7 := (blk_cell BK2.out 7).trans (rfl : _ = some (Value.string e.f5)); have f8 := (blk_cell BK2.out 8).trans (rfl : _ = some (Value.slice A e.f6.length c))))
  go_cut [35] (fun s35 wx => s35 = .bool (b2 e m) ∧ w2 = wx)
  case first =>
    as_aux_lemma =>
      rcases Bool.eq_false_or_eq_true (decide (wantsI e.f0 < 0)) with q | q
      · skip
        have HX : Aside0 (b2 e m = true) := ⟨by unfold b2; rw [q]; rfl⟩
        go_wp2_with fail
        go_meet
        exact ⟨by rw [HX.out], rfl⟩
      rcases Bool.eq_false_or_eq_true ((e.f6.length : Int) != wantsI e.f0) with p | p
      · skip
        have HX : Aside0 (b2 e m = true) := ⟨by unfold b2; rw [q, p]; rfl⟩
        go_wp2_with fail
        go_meet
        exact ⟨by rw [HX.out], rfl⟩
      rcases Bool.eq_false_or_eq_true (e.f5.toList == ([] : List UInt8)) with s | s
      · skip
        have HX : Aside0 (b2 e m = (m == 0)) := ⟨by unfold b2; rw [q, p, s]; rfl⟩
        go_wp2_with fail
        go_meet
        exact ⟨by rw [HX.out], rfl⟩
      have HX : Aside0 (b2 e m = true) := ⟨by unfold b2; rw [q, p, s]; rfl⟩
      go_wp2_with fail
      go_meet
      exact ⟨by rw [HX.out], rfl⟩
  case rest =>
  obtain ⟨rfl, rfl⟩ := hcut
  rcases Bool.eq_false_or_eq_true (b2 e m) with q2 | q2
  · have HF := Aside0.mk (HNO.out (Or.inl q2))
    rw [q2]
    go_wp2_with fail
    refine bodyPost_ret (v := .tuple #[.int .i64 0, .int .i64 0, .bool false]) (by simp [results, Tryd.results49, go_sem]) rfl (szP_no HF.out HB2.out)
  have Q2 := Aside0.mk q2
  rw [q2]
  clear q2
  go_upto_region 5 with (go_at_call 64; have H64 := vr64 e.f1 w2; refine H64.mono ?_; clear H64; rintro e_ w4 ⟨rfl, hb4⟩; have HB4 := Aside0.mk (bst HB2.out hb4); have BK4 := Aside0.mk ((hb4.block gb (blk_lt BK2.out)).trans BK2.out); clear hb4 f0 f1 f2 f3 f4 f5 f6 f7 f8; have f0 := (blk_cell BK4.out 0).trans (rfl : _ = some (Value.int .i64 e.f0)); have f1 := (blk_cell BK4.out 1).trans (rfl : _ = some (Value.int .i64 e.f1.f0)); have f2 := (blk_cell BK4.out 2).trans (rfl : _ = some (Value.int .i64 e.f1.f1)); have f3 := (blk_cell BK4.out 3).trans (rfl : _ = some (Value.string e.f1.f2)); have f4 := (blk_cell BK4.out 4).trans (rfl : _ = some (Value.int .i64 e.f2)); have f5 := (blk_cell BK4.out 5).trans (rfl : _ = some (Value.int .i64 e.f3)); have f6 := (blk_cell BK4.out 6).trans (rfl : _ = some (Value.int .i64 e.f4)); have f7 := (blk_cell BK4.out 7).trans (rfl : _ = some (Value.string e.f5)); have f8 := (blk_cell BK4.out 8).trans (rfl : _ = some (Value.slice A e.f6.length c)))
  go_cut [51] (fun s51 wx => s51 = .bool (b5 e) ∧ w4 = wx)
  case first =>
    as_aux_lemma =>
      rcases Bool.eq_false_or_eq_true (vrB e.f1) with q | q
      · rcases Bool.eq_false_or_eq_true (e.f0 != 1) with p | p
        · skip
          have HX : Aside0 (b5 e = !(zvB e.f1)) := ⟨by unfold b5; rw [q, p]; rfl⟩
          go_wp2_with fail
          go_meet
          exact ⟨by rw [HX.out]; first | rfl | (unfold zvB; simp), rfl⟩
        · skip
          have HX : Aside0 (b5 e = false) := ⟨by unfold b5; rw [q, p]; rfl⟩
          go_wp2_with fail
          go_meet
          exact ⟨by rw [HX.out], rfl⟩
      · skip
        have HX : Aside0 (b5 e = true) := ⟨by unfold b5; rw [q]; rfl⟩
        go_wp2_with fail
        go_meet
        exact ⟨by rw [HX.out], rfl⟩
  case rest =>
  obtain ⟨rfl, rfl⟩ := hcut
  rcases Bool.eq_false_or_eq_true (b5 e) with q5 | q5
  · have HF := Aside0.mk (HNO.out (Or.inr (Or.inl q5)))
    rw [q5]
    go_wp2_with fail
    refine bodyPost_ret (v := .tuple #[.int .i64 0, .int .i64 0, .bool false]) (by simp [results, Tryd.results49, go_sem]) rfl (szP_no HF.out HB4.out)
  have Q5 := Aside0.mk q5
  rw [q5]
  clear q5
  go_upto_region 7 with fail
  go_cut [89] (fun s89 wx => s89 = .bool (b7 e) ∧ w4 = wx)
  case first =>
    as_aux_lemma =>
      rcases Bool.eq_false_or_eq_true (e.f0 == 2) with q | q
      · have q' : (e.f0 != 2) = false := by rw [bne, q]; rfl
        rcases Bool.eq_false_or_eq_true (decide (e.f2 < 0)) with a | a
        · skip
          have HX : Aside0 (b7 e = true) := ⟨by unfold b7; rw [if_pos (beq_iff_eq.1 q), a]; rfl⟩
          go_wp2_with fail
          go_meet
          exact ⟨by rw [HX.out], rfl⟩
        rcases Bool.eq_false_or_eq_true (decide (e.f2 > 15)) with b | b
        · skip
          have HX : Aside0 (b7 e = true) := ⟨by unfold b7; rw [if_pos (beq_iff_eq.1 q), a, b]; rfl⟩
          go_wp2_with fail
          go_meet
          exact ⟨by rw [HX.out], rfl⟩
        rcases Bool.eq_false_or_eq_true (decide (e.f3 < 0)) with c | c
        · skip
          have HX : Aside0 (b7 e = true) := ⟨by unfold b7; rw [if_pos (beq_iff_eq.1 q), a, b, c]; rfl⟩
          go_wp2_with fail
          go_meet
          exact ⟨by rw [HX.out], rfl⟩
        rcases Bool.eq_false_or_eq_true (decide (e.f3 > 5)) with d | d
        · skip
          have HX : Aside0 (b7 e = true) := ⟨by unfold b7; rw [if_pos (beq_iff_eq.1 q), a, b, c, d]; rfl⟩
          go_wp2_with fail
          go_meet
          exact ⟨by rw [HX.out], rfl⟩
        have HX : Aside0 (b7 e = false) := ⟨by unfold b7; rw [if_pos (beq_iff_eq.1 q), a, b, c, d]; rfl⟩
        go_wp2_with fail
        go_meet
        exact ⟨by rw [HX.out], rfl⟩
      · have q' : (e.f0 != 2) = true := by rw [bne, q]; rfl
        rcases Bool.eq_false_or_eq_true (e.f2 != 0) with a | a
        · skip
          have HX : Aside0 (b7 e = true) := ⟨by unfold b7; rw [if_neg (beq_eq_false_iff_ne.1 q), a]; rfl⟩
          go_wp2_with fail
          go_meet
          exact ⟨by rw [HX.out], rfl⟩
        have HX : Aside0 (b7 e = (e.f3 != 0)) := ⟨by unfold b7; rw [if_neg (beq_eq_false_iff_ne.1 q), a]; rfl⟩
        go_wp2_with fail
        go_meet
        exact ⟨by rw [HX.out], rfl⟩
  case rest =>
  obtain ⟨rfl, rfl⟩ := hcut
  rcases Bool.eq_false_or_eq_true (b7 e) with q7 | q7
  · have HF := Aside0.mk (HNO.out (Or.inr (Or.inr (Or.inl q7))))
    rw [q7]
    go_wp2_with fail
    refine bodyPost_ret (v := .tuple #[.int .i64 0, .int .i64 0, .bool false]) (by simp [results, Tryd.results49, go_sem]) rfl (szP_no HF.out HB4.out)
  have Q7 := Aside0.mk q7
  rw [q7]
  clear q7
  go_upto_region 9 with fail
  go_cut [112] (fun s112 wx => s112 = .bool (b9 e) ∧ w4 = wx)
  case first =>
    as_aux_lemma =>
      rcases Bool.eq_false_or_eq_true (e.f0 == 3) with q | q
      · have q' : (e.f0 != 3) = false := by rw [bne, q]; rfl
        rcases Bool.eq_false_or_eq_true (decide (e.f4 < 1)) with a | a
        · skip
          have HX : Aside0 (b9 e = true) := ⟨by unfold b9; rw [if_pos (beq_iff_eq.1 q), a]; rfl⟩
          go_wp2_with fail
          go_meet
          exact ⟨by rw [HX.out], rfl⟩
        rcases Bool.eq_false_or_eq_true (decide (e.f4 > 4)) with d | d
        · skip
          have HX : Aside0 (b9 e = true) := ⟨by unfold b9; rw [if_pos (beq_iff_eq.1 q), a, d]; rfl⟩
          go_wp2_with fail
          go_meet
          exact ⟨by rw [HX.out], rfl⟩
        have HX : Aside0 (b9 e = false) := ⟨by unfold b9; rw [if_pos (beq_iff_eq.1 q), a, d]; rfl⟩
        go_wp2_with fail
        go_meet
        exact ⟨by rw [HX.out], rfl⟩
      · have q' : (e.f0 != 3) = true := by rw [bne, q]; rfl
        have HX : Aside0 (b9 e = (e.f4 != 0)) := ⟨by unfold b9; rw [if_neg (beq_eq_false_iff_ne.1 q)]⟩
        go_wp2_with fail
        go_meet
        exact ⟨by rw [HX.out], rfl⟩
  case rest =>
  obtain ⟨rfl, rfl⟩ := hcut
  rcases Bool.eq_false_or_eq_true (b9 e) with q9 | q9
  · have HF := Aside0.mk (HNO.out (Or.inr (Or.inr (Or.inr q9))))
    rw [q9]
    go_wp2_with fail
    refine bodyPost_ret (v := .tuple #[.int .i64 0, .int .i64 0, .bool false]) (by simp [results, Tryd.results49, go_sem]) rfl (szP_no HF.out HB4.out)
  have hmne : m ≠ 0 := by
    intro h
    have := Q2.out
    unfold b2 at this
    rw [h] at this
    simp at this
  have HOW := Aside0.mk ((own_ref hmne).1 ⟨Q2.out, Q5.out, Q7.out, q9⟩)
  rw [q9]
  clear q9
  obtain ⟨k', hk'⟩ : ∃ k', k = k' + 1 := ⟨k - 1, by have := HM.out; omega⟩
  subst hk'
  have HI := Aside0.mk (HIH.out k' rfl)
  have HS : Aside0 (sz (k' + 1) e = szL (sz k') e.f6 1) := ⟨by unfold sz; rw [if_pos HOW.out]⟩
  have hm1 : 1 ≤ m := by omega
  have HM1 : Aside0 (m - 1 = (k' : Int)) := ⟨by have := HM.out; omega⟩
  clear HIH HNO hmne Q2 Q5 Q7
  have HLE := Aside0.mk (own_len HOW.out)
  go_wp2_with fail
  clear f0 f1 f2 f3 f4 f5 f6 f7 f8
  go_loopw [9, 10, 11] (fun s9 s10 s11 wr => ∃ (i : Nat) (d : Int) (n : Nat), i ≤ e.f6.length ∧ s11 = .int .i64 (i : Int) ∧ s9 = .int .i64 d ∧ s10 = .int .i64 (n : Int) ∧ n ≤ 200 ∧ Aside0 (szL (sz k') (e.f6.take i) 1 = (n, true)) ∧ Aside0 (Below w.heap.size w wr) ∧ Aside0 (wr.heap[gb]? = some (.cells (cellsE e (.slice A e.f6.length c)) 46 (0, 0)))) (fun s9 s10 s11 _ => e.f6.length - (intOf s11).toNat)
  case atStart => exact ⟨0, 1, 1, Nat.zero_le _, rfl, rfl, rfl, by decide, ⟨rfl⟩, HB4, BK4⟩
  case round =>
    obtain ⟨i, d, n, hi, rfl, rfl, rfl, hn200, HSL, HB5, BK5⟩ := hrel
    obtain ⟨w5, hw5⟩ : ∃ x, x = wr := ⟨_, rfl⟩
    subst hw5
    have f8 := (blk_cell BK5.out 8).trans (rfl : _ = some (Value.slice A e.f6.length c))
    by_cases hlt : i < e.f6.length
    · have hin : (i : Int) < (e.f6.length : Int) := by omega
      have hwi : wrap64 ((i : Int) + 1) = (i : Int) + 1 := w64_ (by omega) (by have := HLE.out; omega)
      have hrd : rd_T46 e.f6 (i : Int) = e.f6[i] := by unfold rd_T46; rw [Int.toNat_natCast, List.getD_eq_getElem?_getD, List.getElem?_eq_getElem hlt]; rfl
      obtain ⟨ad, A8, c8, e0, x0, x1, x2, x3, x4, x5, x6, x7, x8, l8, g8⟩ := at_T46 (Kd.C_below HC.out HB5.out) (i : Int) (by omega) hin
      subst e0
      have HG8 := Aside0.mk g8
      clear g8 l8
      rw [hrd] at x0 x1 x2 x3 x4 x5 x6 x7 x8 HG8
      rw [Int.toNat_natCast] at x0 x1 x2 x3 x4 x5 x6 x7 x8
      clear hrd
      have HSN : Aside0 (szL (sz k') (e.f6.take (i + 1)) 1 = if (sz k' e.f6[i]).2 = true then (if n + (sz k' e.f6[i]).1 > 200 then (0, false) else (n + (sz k' e.f6[i]).1, true)) else (0, false)) := ⟨by rw [List.take_succ_eq_append_getElem hlt, szL_snoc, HSL.out]; rfl⟩
      have HPR : Aside0 ((szL (sz k') (e.f6.take (i + 1)) 1).2 = false → (sz (k' + 1) e).2 = false) := ⟨fun h => by rw [HS.out]; have h2 := szL_pre (sz k') (e.f6.take (i + 1)) (e.f6.drop (i + 1)) 1 h; rwa [List.take_append_drop] at h2⟩
      have HSZ : Aside0 ((sz k' e.f6[i]).2 = true → (sz k' e.f6[i]).1 ≤ 200) := ⟨sz_le⟩
      have HX : Aside0 (Calls Tryd.prog 49 #[encE e.f6[i] A8 c8, .int .i64 (m - 1)] w5 (SzP k' e.f6[i] w5)) := ⟨by rw [HM1.out]; exact HI.out e.f6[i] A8 c8 w5 HG8.out⟩
      generalize e.f6[i] = x at *
      rcases Bool.eq_false_or_eq_true (sz k' x).2 with qx | qx
      · have HQX := Aside0.mk qx
        obtain ⟨s, hs⟩ : ∃ s, s = (sz k' x).1 := ⟨_, rfl⟩
        have hs200 : s ≤ 200 := by rw [hs]; exact HSZ.out qx
        have HSS := Aside0.mk hs
        clear hs qx
        rcases Bool.eq_false_or_eq_true (decide ((n : Int) + (s : Int) > 200)) with q | q
        · have HNO : Aside0 ((sz (k' + 1) e).2 = false) := ⟨HPR.out (by rw [HSN.out, if_pos HQX.out, ← HSS.out, if_pos (by have := of_decide_eq_true q; omega)])⟩
          go_wp2_with (go_at_call 49; refine HX.out.mono ?_; rintro e_ w6 ⟨⟨d', n', rfl, hn'⟩, hb6⟩; rw [HQX.out]; obtain rfl : n' = (s : Int) := (by rw [HSS.out]; exact hn' HQX.out); have HB6 := Aside0.mk (bst HB5.out hb6); clear hn' hb6)
          refine bodyPost_ret (v := .tuple #[.int .i64 0, .int .i64 0, .bool false]) (by simp [results, Tryd.results49, go_sem]) rfl (szP_no HNO.out HB6.out)
        · have HSL2 : Aside0 (szL (sz k') (e.f6.take (i + 1)) 1 = (n + s, true)) := ⟨by rw [HSN.out, if_pos HQX.out, ← HSS.out, if_neg (by have := of_decide_eq_false q; omega)]⟩
          have hns : n + s ≤ 200 := by have := of_decide_eq_false q; omega
          go_wp2_with (go_at_call 49; refine HX.out.mono ?_; rintro e_ w6 ⟨⟨d', n', rfl, hn'⟩, hb6⟩; rw [HQX.out]; obtain rfl : n' = (s : Int) := (by rw [HSS.out]; exact hn' HQX.out); have HB6 := Aside0.mk (bst HB5.out hb6); have BK6 := Aside0.mk ((hb6.block gb (blk_lt BK5.out)).trans BK5.out); clear hn' hb6)
          go_roundw
          case rel => exact ⟨i + 1, _, n + s, by omega, by go_num, rfl, by go_num, hns, HSL2, HB6, BK6⟩
          case measure => first | exact meas_ hlt | (rw [hwi]; exact meas_ hlt)
      · have HNO : Aside0 ((sz (k' + 1) e).2 = false) := ⟨HPR.out (by rw [HSN.out, if_neg (by rw [qx]; decide)])⟩
        have HQX := Aside0.mk qx
        clear qx
        go_wp2_with (go_at_call 49; refine HX.out.mono ?_; rintro e_ w6 ⟨⟨d', n', rfl, hn'⟩, hb6⟩; rw [HQX.out]; have HB6 := Aside0.mk (bst HB5.out hb6); clear hn' hb6)
        refine bodyPost_ret (v := .tuple #[.int .i64 0, .int .i64 0, .bool false]) (by simp [results, Tryd.results49, go_sem]) rfl (szP_no HNO.out HB6.out)
    · have hle : e.f6.length ≤ i := by omega
      have HR : Aside0 (sz (k' + 1) e = (n, true)) := ⟨by rw [HS.out, ← HSL.out, List.take_of_length_le (by omega)]⟩
      go_wp2_with fail
      refine bodyPost_ret (v := .tuple #[.int .i64 d, .int .i64 n, .bool true]) (by simp [results, Tryd.results49, go_sem]) rfl ⟨⟨d, n, by rw [HR.out], fun _ => by rw [HR.out]⟩, HB5.out⟩
theorem sizes49 : ∀ k : Nat, k ≤ 20 → Cz k
  | 0, h => sizes49_step 0 h (fun k' h' => by omega)
  | k + 1, h => sizes49_step (k + 1) h (fun k' h' => by
    have e : k' = k := by omega
    rw [e]
    exact sizes49 k (by omega))
set_option maxHeartbeats 4000000 in
theorem right23 (e : S46) (A : Option Addr) (c : Nat) (w : World) (hC : k46.C w A e.f6.length e.f6) :
    Calls Tryd.prog 23 #[encE e A c] w fun e_ w' => e_ = .returned (.bool (rightX e)) ∧ Below w.heap.size w w' := by
  have HC := Aside0.mk hC
  clear hC
  have hu46 := Tryd.underlying46
  unfold encE
  go_enter Tryd.func23, Tryd.ntmps23
  go_wp2_with (first | ((with_reducible refine gate_dst (N := 1) rfl ?_); refine box_event ?hg (N := 1) ?hd (cs := cellsE e (.slice A e.f6.length c)) (t := 46) ?hr ?_; (case hd => rfl); (case hg => rfl); (case hr => unfold cellsE; first | (go_simp; done) | (go_simp; rfl)); intro gb hg1 w1 hbox hb; have BK := Aside0.mk hbox; have HB := Aside0.mk hb; have f0 := (blk_cell BK.out 0).trans (rfl : _ = some (Value.int .i64 e.f0)); have f1 := (blk_cell BK.out 1).trans (rfl : _ = some (Value.int .i64 e.f1.f0)); have f2 := (blk_cell BK.out 2).trans (rfl : _ = some (Value.int .i64 e.f1.f1)); have f3 := (blk_cell BK.out 3).trans (rfl : _ = some (Value.string e.f1.f2)); have f4 := (blk_cell BK.out 4).trans (rfl : _ = some (Value.int .i64 e.f2)); have f5 := (blk_cell BK.out 5).trans (rfl : _ = some (Value.int .i64 e.f3)); have f6 := (blk_cell BK.out 6).trans (rfl : _ = some (Value.int .i64 e.f4)); have f7 := (blk_cell BK.out 7).trans (rfl : _ = some (Value.string e.f5)); have f8 := (blk_cell BK.out 8).trans (rfl : _ = some (Value.slice A e.f6.length c)); clear hbox hb hg1) | (go_at_call 49; have H49 := sizes49 20 (by decide) e A c _ (Kd.C_below HC.out HB.out); refine H49.mono ?_; clear H49; rintro e_ w2 ⟨⟨d, n, rfl, _⟩, hb2⟩; have HB2 := Aside0.mk (bst HB.out hb2); clear hb2))
  go_ret
  rw [sz_right]
  exact ⟨rfl, HB2.out⟩
def t0 (e : S46) : Int := if e.f0 = 2 then wrap64 (2 ^ e.f2.toNat) else 0
theorem pow15 : ∀ n : Fin 16, wrap64 ((2 : Int) ^ n.val) = ((2 ^ n.val : Nat) : Int) ∧ 2 ^ n.val < 65536 := by decide +kernel
theorem t0_nat {e : S46} (h : ownB e = true) : ∃ v : Nat, v < 65536 ∧ t0 e = (v : Int) ∧ orT e 0 = (v : Int) := by
  unfold t0 orT
  by_cases h2 : e.f0 = 2
  · rw [if_pos h2, if_pos h2]
    obtain ⟨r0, r1⟩ := own_rel h h2
    obtain ⟨n, hn⟩ := Int.eq_ofNat_of_zero_le r0
    obtain ⟨e1, e2⟩ : wrap64 ((2 : Int) ^ n) = ((2 ^ n : Nat) : Int) ∧ 2 ^ n < 65536 := pow15 ⟨n, by omega⟩
    generalize (2 : Nat) ^ n = P at e1 e2
    rw [hn, Int.toNat_natCast]
    refine ⟨P, e2, e1, ?_⟩
    have := (bits63 0 P (by decide) (by omega)).2
    rw [Nat.zero_or] at this
    rw [e1]
    exact this
  · rw [if_neg h2, if_neg h2]
    exact ⟨0, by decide, rfl, rfl⟩
theorem tb_step {k : Nat} {x : S46} (h : okD k x = true) (v : Nat) (hv : v < 65536) : ∃ u : Nat, u < 65536 ∧ tb k x 0 = (u : Int) ∧ Go.bits .or .i64 (v : Int) (u : Int) = tb k x (v : Int) ∧ ∃ y : Nat, y < 65536 ∧ tb k x (v : Int) = (y : Int) := by
  obtain ⟨u, hu, h1⟩ := tb_or k x h
  refine ⟨u, hu, ?_, ?_, v ||| u, Nat.or_lt_two_pow (n := 16) hv hu, (h1 v hv).1⟩
  · have := (h1 0 (by decide)).1
    rw [Nat.zero_or] at this
    exact this
  · rw [(h1 v hv).1]
    exact (bits63 v u (by omega) (by omega)).2
def Ctb (k : Nat) : Prop := ∀ (e : S46) (A : Option Addr) (c : Nat) (w : World), okD k e = true → k46.C w A e.f6.length e.f6 → Calls Tryd.prog 50 #[encE e A c] w fun e_ w' => e_ = .returned (.int .i64 (tb k e 0)) ∧ Below w.heap.size w w'
set_option maxRecDepth 100000 in
set_option maxHeartbeats 16000000 in
theorem tables50 : ∀ k : Nat, Ctb k
  | 0 => fun e A c w h => by cases h
  | k + 1 => fun e A c w hok hC => by
    have HC := Aside0.mk hC
    have hu46 := Tryd.underlying46
    unfold okD at hok
    obtain ⟨ho, hl⟩ := Bool.and_eq_true_iff.1 hok
    have HALL := Aside0.mk hl
    have HLE := Aside0.mk (own_len ho)
    have HRL : Aside0 (e.f0 = 2 → 0 ≤ e.f2 ∧ e.f2 ≤ 15) := ⟨own_rel ho⟩
    obtain ⟨v0, hv0, ht0, hor⟩ := t0_nat ho
    have HT0 := Aside0.mk ht0
    have HTB : Aside0 (tb (k + 1) e 0 = e.f6.foldl (fun v x => tb k x v) (v0 : Int)) := ⟨by show e.f6.foldl (fun v x => tb k x v) (orT e 0) = _; rw [hor]⟩
    have HIH : Aside0 (Ctb k) := ⟨tables50 k⟩
    clear hC hok ho hl ht0 hor
    obtain ⟨R, hR⟩ : ∃ R, R = tb (k + 1) e 0 := ⟨_, rfl⟩
    rw [← hR]
    rw [← hR] at HTB
    clear hR
    unfold encE
    go_enter Tryd.func50, Tryd.ntmps50
    go_upto_if 7 with (((with_reducible refine gate_dst (N := 1) rfl ?_); refine box_event ?hg (N := 1) ?hd (cs := cellsE e (.slice A e.f6.length c)) (t := 46) ?hr ?_; (case hd => rfl); (case hg => rfl); (case hr => unfold cellsE; first | (go_simp; done) | (go_simp; rfl)); intro gb hg1 w1 hbox hb; have BK := Aside0.mk hbox; have HB := Aside0.mk hb; have f0 := (blk_cell BK.out 0).trans (rfl : _ = some (Value.int .i64 e.f0)); have f1 := (blk_cell BK.out 1).trans (rfl : _ = some (Value.int .i64 e.f1.f0)); have f2 := (blk_cell BK.out 2).trans (rfl : _ = some (Value.int .i64 e.f1.f1)); have f3 := (blk_cell BK.out 3).trans (rfl : _ = some (Value.string e.f1.f2)); have f4 := (blk_cell BK.out 4).trans (rfl : _ = some (Value.int .i64 e.f2)); have f5 := (blk_cell BK.out 5).trans (rfl : _ = some (Value.int .i64 e.f3)); have f6 := (blk_cell BK.out 6).trans (rfl : _ = some (Value.int .i64 e.f4)); have f7 := (blk_cell BK.out 7).trans (rfl : _ = some (Value.string e.f5)); have f8 := (blk_cell BK.out 8).trans (rfl : _ = some (Value.slice A e.f6.length c)); clear hbox hb hg1))
    go_cut [3] (fun s3 wx => s3 = .int .i64 (t0 e) ∧ w1 = wx)
    case first =>
      as_aux_lemma =>
        rcases Bool.eq_false_or_eq_true (e.f0 == 2) with q | q
        · have HX : Aside0 (t0 e = wrap64 (2 ^ e.f2.toNat)) := ⟨by unfold t0; rw [if_pos (beq_iff_eq.1 q)]⟩
          have hr := HRL.out (beq_iff_eq.1 q)
          have hc0 : decide (0 ≤ e.f2) = true := decide_eq_true hr.1
          have hc1 : ¬ e.f2 < 0 := by omega
          have hmn : min e.f2.toNat 64 = e.f2.toNat := by omega
          clear hr
          go_wp2_with fail
          go_meet
          exact ⟨by rw [HX.out], rfl⟩
        · have HX : Aside0 (t0 e = 0) := ⟨by unfold t0; rw [if_neg (beq_eq_false_iff_ne.1 q)]⟩
          go_wp2_with fail
          go_meet
          exact ⟨by rw [HX.out], rfl⟩
    case rest =>
    obtain ⟨rfl, rfl⟩ := hcut
    rw [HT0.out]
    go_wp2_with fail
    clear f0 f1 f2 f3 f4 f5 f6 f7 f8
    go_loopw [3, 4] (fun s3 s4 wr => ∃ (i v : Nat), i ≤ e.f6.length ∧ s4 = .int .i64 (i : Int) ∧ s3 = .int .i64 (v : Int) ∧ v < 65536 ∧ Aside0 ((e.f6.take i).foldl (fun v x => tb k x v) (v0 : Int) = (v : Int)) ∧ Aside0 (Below w.heap.size w wr) ∧ Aside0 (wr.heap[gb]? = some (.cells (cellsE e (.slice A e.f6.length c)) 46 (0, 0)))) (fun s3 s4 _ => e.f6.length - (intOf s4).toNat)
    case atStart => exact ⟨0, v0, Nat.zero_le _, rfl, rfl, hv0, ⟨rfl⟩, HB, BK⟩
    case round =>
      obtain ⟨i, v, hi, rfl, rfl, hv, HF, HB5, BK5⟩ := hrel
      obtain ⟨w5, hw5⟩ : ∃ x, x = wr := ⟨_, rfl⟩
      subst hw5
      have f8 := (blk_cell BK5.out 8).trans (rfl : _ = some (Value.slice A e.f6.length c))
      by_cases hlt : i < e.f6.length
      · have hin : (i : Int) < (e.f6.length : Int) := by omega
        have hwi : wrap64 ((i : Int) + 1) = (i : Int) + 1 := w64_ (by omega) (by have := HLE.out; omega)
        have hrd : rd_T46 e.f6 (i : Int) = e.f6[i] := by unfold rd_T46; rw [Int.toNat_natCast, List.getD_eq_getElem?_getD, List.getElem?_eq_getElem hlt]; rfl
        obtain ⟨ad, A8, c8, e0, x0, x1, x2, x3, x4, x5, x6, x7, x8, l8, g8⟩ := at_T46 (Kd.C_below HC.out HB5.out) (i : Int) (by omega) hin
        subst e0
        have HG8 := Aside0.mk g8
        clear g8 l8
        rw [hrd] at x0 x1 x2 x3 x4 x5 x6 x7 x8 HG8
        rw [Int.toNat_natCast] at x0 x1 x2 x3 x4 x5 x6 x7 x8
        clear hrd
        have hok := List.all_eq_true.1 HALL.out _ (List.getElem_mem hlt)
        obtain ⟨u, hu, h1, h2, y, hy, h3⟩ := tb_step hok v hv
        have HSN : Aside0 ((e.f6.take (i + 1)).foldl (fun v x => tb k x v) (v0 : Int) = (y : Int)) := ⟨by rw [List.take_succ_eq_append_getElem hlt, List.foldl_append, HF.out]; exact h3⟩
        have HX : Aside0 (Calls Tryd.prog 50 #[encE e.f6[i] A8 c8] w5 fun e_ w' => e_ = .returned (.int .i64 (u : Int)) ∧ Below w5.heap.size w5 w') := ⟨by rw [← h1]; exact HIH.out e.f6[i] A8 c8 w5 hok HG8.out⟩
        have HBT : Aside0 (Go.bits .or .i64 (v : Int) (u : Int) = (y : Int)) := ⟨h2.trans h3⟩
        clear hok h1 h2 h3
        generalize e.f6[i] = x at *
        go_wp2_with (go_at_call 50; refine HX.out.mono ?_; rintro e_ w6 ⟨rfl, hb6⟩; have HB6 := Aside0.mk (bst HB5.out hb6); have BK6 := Aside0.mk ((hb6.block gb (blk_lt BK5.out)).trans BK5.out); clear hb6)
        go_roundw
        case rel => exact ⟨i + 1, y, by omega, by go_num, by rw [HBT.out], hy, HSN, HB6, BK6⟩
        case measure => first | exact meas_ hlt | (rw [hwi]; exact meas_ hlt)
      · have hle : e.f6.length ≤ i := by omega
        have HR : Aside0 (R = (v : Int)) := ⟨by rw [HTB.out, ← HF.out, List.take_of_length_le (by omega)]⟩
        go_wp2_with fail
        go_ret
        rw [HR.out]
        exact ⟨rfl, HB5.out⟩
set_option maxHeartbeats 4000000 in
theorem tables25 (e : S46) (A : Option Addr) (c : Nat) (w : World) (hC : k46.C w A e.f6.length e.f6) :
    Calls Tryd.prog 25 #[encE e A c] w fun e_ w' => e_ = .returned (.int .i64 (tablesX e)) ∧ Below w.heap.size w w' := by
  have HC := Aside0.mk hC
  have hu46 := Tryd.underlying46
  have H23 : Aside0 (∀ w', Below w.heap.size w w' → Calls Tryd.prog 23 #[encE e A c] w' fun e_ w'' => e_ = .returned (.bool (rightX e)) ∧ Below w'.heap.size w' w'') := ⟨fun w' hb => right23 e A c w' (Kd.C_below hC hb)⟩
  clear hC
  rcases Bool.eq_false_or_eq_true (rightX e) with q | q
  · have HX : Aside0 (tablesX e = tb 20 e 0) := ⟨by unfold tablesX; rw [if_pos q]⟩
    have H50 : Aside0 (∀ w', Below w.heap.size w w' → Calls Tryd.prog 50 #[encE e A c] w' fun e_ w'' => e_ = .returned (.int .i64 (tb 20 e 0)) ∧ Below w'.heap.size w' w'') := ⟨fun w' hb => tables50 20 e A c w' (wk_ok _ _ _ q) (Kd.C_below HC.out hb)⟩
    rw [q] at H23
    clear q
    unfold encE at H23 H50 ⊢
    go_enter Tryd.func25, Tryd.ntmps25
    go_wp2_with (first | ((with_reducible refine gate_dst (N := 1) rfl ?_); refine box_event ?hg (N := 1) ?hd (cs := cellsE e (.slice A e.f6.length c)) (t := 46) ?hr ?_; (case hd => rfl); (case hg => rfl); (case hr => unfold cellsE; first | (go_simp; done) | (go_simp; rfl)); intro gb hg1 w1 hbox hb; have BK := Aside0.mk hbox; have HB := Aside0.mk hb; have f0 := (blk_cell BK.out 0).trans (rfl : _ = some (Value.int .i64 e.f0)); have f1 := (blk_cell BK.out 1).trans (rfl : _ = some (Value.int .i64 e.f1.f0)); have f2 := (blk_cell BK.out 2).trans (rfl : _ = some (Value.int .i64 e.f1.f1)); have f3 := (blk_cell BK.out 3).trans (rfl : _ = some (Value.string e.f1.f2)); have f4 := (blk_cell BK.out 4).trans (rfl : _ = some (Value.int .i64 e.f2)); have f5 := (blk_cell BK.out 5).trans (rfl : _ = some (Value.int .i64 e.f3)); have f6 := (blk_cell BK.out 6).trans (rfl : _ = some (Value.int .i64 e.f4)); have f7 := (blk_cell BK.out 7).trans (rfl : _ = some (Value.string e.f5)); have f8 := (blk_cell BK.out 8).trans (rfl : _ = some (Value.slice A e.f6.length c)); clear hbox hb hg1) | (go_at_call 23; refine (H23.out _ HB.out).mono ?_; rintro e_ w2 ⟨rfl, hb2⟩; have HB2 := Aside0.mk (bst HB.out hb2); have BK2 := Aside0.mk ((hb2.block gb (blk_lt BK.out)).trans BK.out); clear hb2 f0 f1 f2 f3 f4 f5 f6 f7 f8; have f0 := (blk_cell BK2.out 0).trans (rfl : _ = some (Value.int .i64 e.f0)); have f1 := (blk_cell BK2.out 1).trans (rfl : _ = some (Value.int .i64 e.f1.f0)); have f2 := (blk_cell BK2.out 2).trans (rfl : _ = some (Value.int .i64 e.f1.f1)); have f3 := (blk_cell BK2.out 3).trans (rfl : _ = some (Value.string e.f1.f2)); have f4 := (blk_cell BK2.out 4).trans (rfl : _ = some (Value.int .i64 e.f2)); have f5 := (blk_cell BK2.out 5).trans (rfl : _ = some (Value.int .i64 e.f3)); have f6 := (blk_cell BK2.out 6).trans (rfl : _ = some (Value.int .i64 e.f4)); have f7 := (blk_cell BK2.out 7).trans (rfl : _ = some (Value.string e.f5)); have f8 := (blk_cell BK2.out 8).trans (rfl : _ = some (Value.slice A e.f6.length c))) | (go_at_call 50; refine (H50.out _ HB2.out).mono ?_; rintro e_ w3 ⟨rfl, hb3⟩; have HB3 := Aside0.mk (bst HB2.out hb3); clear hb3))
    go_ret
    rw [HX.out]
    exact ⟨rfl, HB3.out⟩
  · have HX : Aside0 (tablesX e = 0) := ⟨by unfold tablesX; rw [if_neg (by rw [q]; decide)]⟩
    rw [q] at H23
    clear q
    unfold encE at H23 ⊢
    go_enter Tryd.func25, Tryd.ntmps25
    go_wp2_with (first | ((with_reducible refine gate_dst (N := 1) rfl ?_); refine box_event ?hg (N := 1) ?hd (cs := cellsE e (.slice A e.f6.length c)) (t := 46) ?hr ?_; (case hd => rfl); (case hg => rfl); (case hr => unfold cellsE; first | (go_simp; done) | (go_simp; rfl)); intro gb hg1 w1 hbox hb; have BK := Aside0.mk hbox; have HB := Aside0.mk hb; have f0 := (blk_cell BK.out 0).trans (rfl : _ = some (Value.int .i64 e.f0)); have f1 := (blk_cell BK.out 1).trans (rfl : _ = some (Value.int .i64 e.f1.f0)); have f2 := (blk_cell BK.out 2).trans (rfl : _ = some (Value.int .i64 e.f1.f1)); have f3 := (blk_cell BK.out 3).trans (rfl : _ = some (Value.string e.f1.f2)); have f4 := (blk_cell BK.out 4).trans (rfl : _ = some (Value.int .i64 e.f2)); have f5 := (blk_cell BK.out 5).trans (rfl : _ = some (Value.int .i64 e.f3)); have f6 := (blk_cell BK.out 6).trans (rfl : _ = some (Value.int .i64 e.f4)); have f7 := (blk_cell BK.out 7).trans (rfl : _ = some (Value.string e.f5)); have f8 := (blk_cell BK.out 8).trans (rfl : _ = some (Value.slice A e.f6.length c)); clear hbox hb hg1) | (go_at_call 23; refine (H23.out _ HB.out).mono ?_; rintro e_ w2 ⟨rfl, hb2⟩; have HB2 := Aside0.mk (bst HB.out hb2); clear hb2))
    go_ret
    rw [HX.out]
    exact ⟨rfl, HB2.out⟩
def wiB (a s : Int) : Bool := if a = 0 then false else Go.bits .and .i64 a s == a
theorem wi26 (a s : Int) (w : World) : Calls Tryd.prog 26 #[.int .i64 a, .int .i64 s] w fun e_ w' => e_ = .returned (.bool (wiB a s)) ∧ Below w.heap.size w w' := by
  by_cases h : a = 0
  · subst h
    go_enter Tryd.func26, Tryd.ntmps26
    go_wp2
    go_ret
    exact ⟨rfl, Below.refl _ _⟩
  · have h1 : (a != 0) = true := bne_iff_ne.2 h
    have HX : Aside0 (wiB a s = (Go.bits .and .i64 a s == a)) := ⟨by unfold wiB; rw [if_neg h]⟩
    clear h
    go_enter Tryd.func26, Tryd.ntmps26
    go_wp2
    go_ret
    rw [HX.out]
    exact ⟨rfl, Below.refl _ _⟩
theorem wi_in {a s : Nat} (ha : a < 2 ^ 63) (hs : s < 2 ^ 63) : wiB (a : Int) (s : Int) = inB (a : Int) (s : Int) := by
  unfold wiB inB
  split
  · rfl
  · rw [andNot_zero a s ha hs, (bits63 a s ha hs).1]
    rw [Bool.eq_iff_iff, beq_iff_eq, beq_iff_eq]
    omega

end Go.Proofs.YtmnjaihalajhcaaDoor.QPlanConds
