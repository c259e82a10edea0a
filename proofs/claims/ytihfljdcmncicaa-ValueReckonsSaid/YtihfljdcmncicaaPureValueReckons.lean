import Derived.Test.YtihfljdcmncicaaQValueReckonsx7
import Derived.Lib.Mul64
import Derived.Laws.MathBits
/- ValueReckons: the pure statement of the law ValueReckons, proved: over the functions that the printer wrote for the Go code. No condition beside the statement's own. -/
namespace Go.Proofs.Ytihfljdcmncicaa.Pure
open Go.RowKit Go.Proofs.Ytihfljdcmncicaa.QValueReckons Go.Proofs.YtihfljdcmncicaaW.PrintWords Go.Proofs.YtihfljdcmncicaaW.PrintLast Go.Proofs.YtihfljdcmncicaaW.PrintMore
set_option linter.unusedVariables false

/- BLOCK base -/
theorem ev_pos {α : Type} {c : Prop} [Decidable c] {A B : Nat → Option α} {r : α} (h : c) (k : Ev A r) : Ev (fun n => if c then A n else B n) r := Ev.congr (fun _ => if_pos h) k
theorem ev_neg {α : Type} {c : Prop} [Decidable c] {A B : Nat → Option α} {r : α} (h : ¬ c) (k : Ev B r) : Ev (fun n => if c then A n else B n) r := Ev.congr (fun _ => if_neg h) k
theorem ev_some {α : Type} (r : α) : Ev (fun _ => some r) r := Ev.now r
theorem ev_eq {α : Type} {A : Nat → Option α} {r : α} (h : ∀ k, A k = some r) : Ev A r := ⟨0, fun k _ => h k⟩
theorem w64 {n : Int} (h0 : -9223372036854775808 ≤ n) (h1 : n ≤ 9223372036854775807) : wrap64 n = n := by unfold wrap64; omega
theorem u64w {n : Int} (h0 : 0 ≤ n) (h1 : n < 18446744073709551616) : IntKind.u64.wrap n = n := by
  have : IntKind.u64.wrap n = n % 18446744073709551616 := by simp [IntKind.wrap, IntKind.bits, IntKind.signed]
  rw [this]; omega
theorem u64m (n : Int) : IntKind.u64.wrap n = n % 18446744073709551616 := by simp [IntKind.wrap, IntKind.bits, IntKind.signed]
theorem i64_bd {n : Int} (h : (Lit.int .i64 n).wf = true) : -9223372036854775808 ≤ n ∧ n ≤ 9223372036854775807 := by
  simp [Lit.wf, IntKind.min, IntKind.max, IntKind.bits, IntKind.signed] at h; omega
theorem mn_def (a b : Int) : mn a b = if b < a then b else a := rfl
theorem mx_def (a b : Int) : mx a b = if a < b then b else a := rfl
theorem rd_get (l : List Int) (i : Int) (h : i.toNat < l.length) : rd l i = l[i.toNat] := by
  unfold rd; rw [List.getD_eq_getElem?_getD, List.getElem?_eq_getElem h]; rfl

/- BLOCK mul64: what bits.Mul64's text computes -/
theorem mul64_eq (x y : Int) (hx0 : 0 ≤ x) (hx : x < 18446744073709551616) (hy0 : 0 ≤ y) (hy : y < 18446744073709551616) :
    bits_Mul64.f x y = some (x * y / 18446744073709551616, x * y % 18446744073709551616) := by
  obtain ⟨a, rfl⟩ := Int.eq_ofNat_of_zero_le hx0
  obtain ⟨b, rfl⟩ := Int.eq_ofNat_of_zero_le hy0
  have ha : a < 18446744073709551616 := by omega
  have hb : b < 18446744073709551616 := by omega
  obtain ⟨h1, h2, h3, h4⟩ := Go.Lib.mul64_hi a b ha hb
  have q1 := Go.Lib.half_mul_le (a := a / 4294967296) (b := b / 4294967296) (by omega) (by omega)
  have q2 := Go.Lib.half_mul_le (a := a / 4294967296) (b := b % 4294967296) (by omega) (by omega)
  have q3 := Go.Lib.half_mul_le (a := a % 4294967296) (b := b / 4294967296) (by omega) (by omega)
  have q4 := Go.Lib.half_mul_le (a := a % 4294967296) (b := b % 4294967296) (by omega) (by omega)
  unfold bits_Mul64.f
  rw [and_low32 (a : Int) (by omega) (by omega), and_low32 (b : Int) (by omega) (by omega)]
  simp only [u64m]
  have e1 : ((a : Int) / 4294967296) * ((b : Int) % 4294967296) = (((a / 4294967296) * (b % 4294967296) : Nat) : Int) := rfl
  have e2 : ((a : Int) % 4294967296) * ((b : Int) % 4294967296) = (((a % 4294967296) * (b % 4294967296) : Nat) : Int) := rfl
  have e3 : ((a : Int) % 4294967296) * ((b : Int) / 4294967296) = (((a % 4294967296) * (b / 4294967296) : Nat) : Int) := rfl
  have e4 : ((a : Int) / 4294967296) * ((b : Int) / 4294967296) = (((a / 4294967296) * (b / 4294967296) : Nat) : Int) := rfl
  have e5 : (a : Int) * (b : Int) = ((a * b : Nat) : Int) := rfl
  rw [e1, e2, e3, e4, e5, and_low32 _ (by omega) (by omega)]
  generalize (a / 4294967296) * (b / 4294967296) = p1 at *
  generalize (a / 4294967296) * (b % 4294967296) = p2 at *
  generalize (a % 4294967296) * (b / 4294967296) = p3 at *
  generalize (a % 4294967296) * (b % 4294967296) = p4 at *
  generalize a * b = p at *
  congr 1
  rw [Prod.mk.injEq]
  exact ⟨by omega, rfl⟩

/- BLOCK valnull: value.null of one and of two values -/
def vR (k n : Int) (s : ByteArray) : Bool := if k = 0 then (n == 0 && (s.toList == [])) else if k = 1 then (s.toList == []) else if k = 2 then (if n / 2 = 0 then (s.toList == []) else false) else if k = 3 then (if n = 0 then decide ((s.size : Int) ≤ 40) else false) else false
def vF (kind : Int) (x : S23) : Bool := vR x.f0 x.f1 x.f2 && (x.f0 == 0 || x.f0 == kind)
def nullP (kind : Int) (l : List S23) : Int × Bool := if l.all (vF kind) = true then (0, l.any (fun x => x.f0 == 0)) else (1, true)
theorem right_eq (k n : Int) (s : ByteArray) : value_Right.f k n s = some (vR k n s) := by
  unfold value_Right.f vR
  by_cases h0 : k = 0
  · subst h0; simp
  · rw [if_neg h0, if_neg h0]
    by_cases h1 : k = 1
    · rw [if_pos h1, if_pos h1]
    · rw [if_neg h1, if_neg h1]
      by_cases h2 : k = 2
      · rw [if_pos h2, if_pos h2]; split <;> rfl
      · rw [if_neg h2, if_neg h2]
        by_cases h3 : k = 3
        · rw [if_pos h3, if_pos h3]; split <;> rfl
        · rw [if_neg h3, if_neg h3]
theorem fits_l (kind : Int) (l : List S23) (hl : l.length ≤ 9223372036854775807) : ∀ (m i k : Nat), i + m = l.length → m < k → value_fits.l0 k kind l (l.length : Int) (i : Int) = some ((l.drop i).all (vF kind))
  | m, i, 0, _, h => absurd h (Nat.not_lt_zero _)
  | 0, i, k + 1, hi, _ => by
    have e : l.drop i = [] := List.drop_of_length_le (by omega)
    simp only [value_fits.l0, e, List.all_nil]
    rw [if_neg (by omega)]
  | m + 1, i, k + 1, hi, h => by
    have e : l.drop i = rd_T23 l (i : Int) :: l.drop (i + 1) := by
      rw [List.drop_eq_getElem_cons (by omega)]
      congr 1
      unfold rd_T23
      rw [Int.toNat_natCast, List.getD_eq_getElem?_getD, List.getElem?_eq_getElem (by omega)]
      rfl
    have ih := fits_l kind l hl m (i + 1) k (by omega) (by omega)
    have w1 : wrap64 ((i : Int) + 1) = ((i + 1 : Nat) : Int) := by rw [w64 (by omega) (by omega)]; push_cast; rfl
    simp only [value_fits.l0, right_eq, Option.bind_some, w1, ih, e, List.all_cons]
    rw [if_pos (by omega), if_pos (by omega), if_pos (by omega)]
    generalize rd_T23 l (i : Int) = x
    generalize (l.drop (i + 1)).all (vF kind) = b
    unfold vF
    cases vR x.f0 x.f1 x.f2 with
    | false => simp
    | true =>
      by_cases h0 : x.f0 = 0
      · simp [h0]
      · by_cases h1 : x.f0 = kind
        · simp [h1]
        · simp [h0, h1]
theorem null_l (l : List S23) (hl : l.length ≤ 9223372036854775807) : ∀ (m i k : Nat), i + m = l.length → m < k → value_null.l0 k l (l.length : Int) (i : Int) = some (0, (l.drop i).any (fun x => x.f0 == 0))
  | m, i, 0, _, h => absurd h (Nat.not_lt_zero _)
  | 0, i, k + 1, hi, _ => by
    have e : l.drop i = [] := List.drop_of_length_le (by omega)
    simp only [value_null.l0, e, List.any_nil]
    rw [if_neg (by omega)]
  | m + 1, i, k + 1, hi, h => by
    have e : l.drop i = rd_T23 l (i : Int) :: l.drop (i + 1) := by
      rw [List.drop_eq_getElem_cons (by omega)]
      congr 1
      unfold rd_T23
      rw [Int.toNat_natCast, List.getD_eq_getElem?_getD, List.getElem?_eq_getElem (by omega)]
      rfl
    have ih := null_l l hl m (i + 1) k (by omega) (by omega)
    have w1 : wrap64 ((i : Int) + 1) = ((i + 1 : Nat) : Int) := by rw [w64 (by omega) (by omega)]; push_cast; rfl
    simp only [value_null.l0, w1, ih, e, List.any_cons]
    rw [if_pos (by omega), if_pos (by omega), if_pos (by omega)]
    by_cases h0 : (rd_T23 l (i : Int)).f0 = 0
    · simp [h0]
    · simp [h0]
theorem null_ev (kind : Int) (l : List S23) (hl : l.length ≤ 9223372036854775807) : Ev (fun k => value_null.f k kind l) (nullP kind l) := by
  refine ⟨l.length + 1, fun k hk => ?_⟩
  show value_null.f k kind l = _
  have hf := fits_l kind l hl l.length 0 k (by omega) (by omega)
  have hn := null_l l hl l.length 0 k (by omega) (by omega)
  unfold value_null.f value_fits.f nullP
  rw [show ((0 : Nat) : Int) = 0 from rfl, List.drop_zero] at hf hn
  rw [hf, Option.bind_some]
  cases l.all (vF kind) with
  | true => rw [if_pos rfl, if_pos rfl]; exact hn
  | false => rw [if_neg (by decide), if_neg (by decide)]
theorem null1_ev (kind : Int) (x : S23) : Ev (fun k => value_null.f k kind [x]) (nullP kind [x]) := null_ev kind [x] (by simp)
theorem null2_ev (kind : Int) (x y : S23) : Ev (fun k => value_null.f k kind [x, y]) (nullP kind [x, y]) := null_ev kind [x, y] (by simp)

/- BLOCK valarith: value.Add, Sub, Mul, Div, Neg -/
theorem i64m (n : Int) : IntKind.i64.wrap n = (n + 9223372036854775808) % 18446744073709551616 - 9223372036854775808 := by
  simp [IntKind.wrap, IntKind.bits, IntKind.signed]
  omega
theorem bv_sgn (v : BitVec 64) : IntKind.i64.wrap (v.toNat : Int) < 0 ↔ v.msb = true := by
  rw [i64m, BitVec.msb_eq_decide, decide_eq_true_eq]
  have := v.isLt
  omega
theorem bv_rng (v : BitVec 64) : -9223372036854775808 ≤ IntKind.i64.wrap (v.toNat : Int) ∧ IntKind.i64.wrap (v.toNat : Int) ≤ 9223372036854775807 := by
  rw [i64m]
  have := v.isLt
  omega
theorem bv_int (a : Int) (h0 : -9223372036854775808 ≤ a) (h1 : a ≤ 9223372036854775807) : (BitVec.ofInt 64 a).msb = decide (a < 0) := by
  rw [BitVec.msb_eq_decide, BitVec.toNat_ofInt, decide_eq_decide]
  norm_cast
  omega
theorem xor_sgn (a b : Int) (h0 : -9223372036854775808 ≤ a) (h1 : a ≤ 9223372036854775807) (h2 : -9223372036854775808 ≤ b) (h3 : b ≤ 9223372036854775807) : Go.bits .xor .i64 a b < 0 ↔ ((a < 0 ∧ 0 ≤ b) ∨ (0 ≤ a ∧ b < 0)) := by
  show IntKind.i64.wrap ((BitVec.ofInt 64 a ^^^ BitVec.ofInt 64 b).toNat : Int) < 0 ↔ _
  rw [bv_sgn, BitVec.msb_xor, bv_int a h0 h1, bv_int b h2 h3]
  by_cases c1 : a < 0 <;> by_cases c2 : b < 0 <;> simp [c1, c2] <;> omega
theorem and_sgn (a b : Int) (h0 : -9223372036854775808 ≤ a) (h1 : a ≤ 9223372036854775807) (h2 : -9223372036854775808 ≤ b) (h3 : b ≤ 9223372036854775807) : Go.bits .and .i64 a b < 0 ↔ (a < 0 ∧ b < 0) := by
  show IntKind.i64.wrap ((BitVec.ofInt 64 a &&& BitVec.ofInt 64 b).toNat : Int) < 0 ↔ _
  rw [bv_sgn, BitVec.msb_and, bv_int a h0 h1, bv_int b h2 h3]
  by_cases c1 : a < 0 <;> by_cases c2 : b < 0 <;> simp [c1, c2]
theorem xor_rng (a b : Int) : -9223372036854775808 ≤ Go.bits .xor .i64 a b ∧ Go.bits .xor .i64 a b ≤ 9223372036854775807 := bv_rng (BitVec.ofInt 64 a ^^^ BitVec.ofInt 64 b)
theorem w64r (n : Int) : -9223372036854775808 ≤ wrap64 n ∧ wrap64 n ≤ 9223372036854775807 := by unfold wrap64; omega
theorem addOver_eq (a b : Int) (h0 : -9223372036854775808 ≤ a) (h1 : a ≤ 9223372036854775807) (h2 : -9223372036854775808 ≤ b) (h3 : b ≤ 9223372036854775807) : addOver a b = decide (¬ (-9223372036854775808 ≤ a + b ∧ a + b ≤ 9223372036854775807)) := by
  unfold addOver
  rw [decide_eq_decide, and_sgn _ _ (xor_rng _ _).1 (xor_rng _ _).2 (xor_rng _ _).1 (xor_rng _ _).2, xor_sgn _ _ h0 h1 (w64r _).1 (w64r _).2, xor_sgn _ _ h2 h3 (w64r _).1 (w64r _).2]
  unfold wrap64
  omega
theorem subOver_eq (a b : Int) (h0 : -9223372036854775808 ≤ a) (h1 : a ≤ 9223372036854775807) (h2 : -9223372036854775808 ≤ b) (h3 : b ≤ 9223372036854775807) : subOver a b = decide (¬ (-9223372036854775808 ≤ a - b ∧ a - b ≤ 9223372036854775807)) := by
  unfold subOver
  rw [decide_eq_decide, and_sgn _ _ (xor_rng _ _).1 (xor_rng _ _).2 (xor_rng _ _).1 (xor_rng _ _).2, xor_sgn _ _ h0 h1 h2 h3, xor_sgn _ _ h0 h1 (w64r _).1 (w64r _).2]
  unfold wrap64
  omega
abbrev R4 := Int × Int × ByteArray × Int
def inR (n : Int) : R4 := if -9223372036854775808 ≤ n ∧ n ≤ 9223372036854775807 then (1, n, ⟨#[]⟩, 0) else (0, 0, ⟨#[]⟩, 3)
def with2 (x y : S23) (r : R4) : R4 := if (nullP 1 [x, y]).2 = true then (0, 0, ⟨#[]⟩, (nullP 1 [x, y]).1) else r
def with1 (x : S23) (r : R4) : R4 := if (nullP 1 [x]).2 = true then (0, 0, ⟨#[]⟩, (nullP 1 [x]).1) else r
theorem add_ev (a0 a1 : Int) (a2 : ByteArray) (b0 b1 : Int) (b2 : ByteArray) (h0 : -9223372036854775808 ≤ a1 ∧ a1 ≤ 9223372036854775807) (h1 : -9223372036854775808 ≤ b1 ∧ b1 ≤ 9223372036854775807) : Ev (fun k => value_Add.f k a0 a1 a2 b0 b1 b2) (with2 ⟨a0, a1, a2⟩ ⟨b0, b1, b2⟩ (inR (a1 + b1))) := by
  obtain ⟨K, hK⟩ := null2_ev 1 ⟨a0, a1, a2⟩ ⟨b0, b1, b2⟩
  refine ⟨K, fun k hk => ?_⟩
  show value_Add.f k a0 a1 a2 b0 b1 b2 = _
  unfold value_Add.f with2 inR
  rw [show value_null.f k _ _ = some _ from hK k hk, Option.bind_some, addOver_eq a1 b1 h0.1 h0.2 h1.1 h1.2]
  by_cases c : -9223372036854775808 ≤ a1 + b1 ∧ a1 + b1 ≤ 9223372036854775807
  · rw [if_pos c, w64 c.1 c.2, decide_eq_false (fun x => x c), if_neg Bool.false_ne_true]
    split <;> rfl
  · rw [if_neg c, decide_eq_true c, if_pos rfl]
    split <;> rfl
theorem sub_ev (a0 a1 : Int) (a2 : ByteArray) (b0 b1 : Int) (b2 : ByteArray) (h0 : -9223372036854775808 ≤ a1 ∧ a1 ≤ 9223372036854775807) (h1 : -9223372036854775808 ≤ b1 ∧ b1 ≤ 9223372036854775807) : Ev (fun k => value_Sub.f k a0 a1 a2 b0 b1 b2) (with2 ⟨a0, a1, a2⟩ ⟨b0, b1, b2⟩ (inR (a1 - b1))) := by
  obtain ⟨K, hK⟩ := null2_ev 1 ⟨a0, a1, a2⟩ ⟨b0, b1, b2⟩
  refine ⟨K, fun k hk => ?_⟩
  show value_Sub.f k a0 a1 a2 b0 b1 b2 = _
  unfold value_Sub.f with2 inR
  rw [show value_null.f k _ _ = some _ from hK k hk, Option.bind_some, subOver_eq a1 b1 h0.1 h0.2 h1.1 h1.2]
  by_cases c : -9223372036854775808 ≤ a1 - b1 ∧ a1 - b1 ≤ 9223372036854775807
  · rw [if_pos c, w64 c.1 c.2, decide_eq_false (fun x => x c), if_neg Bool.false_ne_true]
    split <;> rfl
  · rw [if_neg c, decide_eq_true c, if_pos rfl]
    split <;> rfl
theorem size_eq (a : Int) (h0 : -9223372036854775808 ≤ a) (h1 : a ≤ 9223372036854775807) : value_size.f a = some (if a < 0 then -a else a) := by
  unfold value_size.f
  rw [u64m, u64m]
  by_cases c : a < 0
  · rw [if_pos c, if_pos c]; congr 1; omega
  · rw [if_neg c, if_neg c]; congr 1; omega
theorem mulR_eq (p : Int) (c : Bool) (h0 : 0 ≤ p) : mulRest (p / 18446744073709551616) (p % 18446744073709551616) c = inR (if c = true then -p else p) := by
  unfold mulRest inR
  cases c with
  | true =>
    simp only [if_true, Bool.true_eq_false, and_false, or_false, u64m]
    by_cases g : p ≤ 9223372036854775808
    · rw [if_neg (by omega), if_pos (by omega)]
      congr 2
      unfold wrap64
      omega
    · rw [if_pos (by omega), if_neg (by omega)]
  | false =>
    simp only [Bool.false_eq_true, if_false, and_true]
    by_cases g : p ≤ 9223372036854775807
    · rw [if_neg (by omega), if_pos (by omega)]
      congr 2
      unfold wrap64
      omega
    · rw [if_pos (by omega), if_neg (by omega)]
theorem mul_ev (a0 a1 : Int) (a2 : ByteArray) (b0 b1 : Int) (b2 : ByteArray) (h0 : -9223372036854775808 ≤ a1 ∧ a1 ≤ 9223372036854775807) (h1 : -9223372036854775808 ≤ b1 ∧ b1 ≤ 9223372036854775807) : Ev (fun k => value_Mul.f k a0 a1 a2 b0 b1 b2) (with2 ⟨a0, a1, a2⟩ ⟨b0, b1, b2⟩ (inR (a1 * b1))) := by
  obtain ⟨K, hK⟩ := null2_ev 1 ⟨a0, a1, a2⟩ ⟨b0, b1, b2⟩
  refine ⟨K, fun k hk => ?_⟩
  show value_Mul.f k a0 a1 a2 b0 b1 b2 = _
  have hp : 0 ≤ (if a1 < 0 then -a1 else a1) * (if b1 < 0 then -b1 else b1) := Int.mul_nonneg (by split <;> omega) (by split <;> omega)
  have hs : (if (decide (a1 < 0) != decide (b1 < 0)) = true then -((if a1 < 0 then -a1 else a1) * (if b1 < 0 then -b1 else b1)) else (if a1 < 0 then -a1 else a1) * (if b1 < 0 then -b1 else b1)) = a1 * b1 := by
    by_cases c1 : a1 < 0 <;> by_cases c2 : b1 < 0 <;> simp [c1, c2, Int.neg_mul, Int.mul_neg]
  unfold value_Mul.f with2
  rw [show value_null.f k _ _ = some _ from hK k hk, Option.bind_some, size_eq a1 h0.1 h0.2, Option.bind_some, size_eq b1 h1.1 h1.2, Option.bind_some,
    mul64_eq _ _ (by split <;> omega) (by split <;> omega) (by split <;> omega) (by split <;> omega), Option.bind_some, mulR_eq _ _ hp, hs]
  split <;> rfl
theorem div_ev (a0 a1 : Int) (a2 : ByteArray) (b0 b1 : Int) (b2 : ByteArray) : Ev (fun k => value_Div.f k a0 a1 a2 b0 b1 b2) (with2 ⟨a0, a1, a2⟩ ⟨b0, b1, b2⟩ (divRest a1 b1)) := by
  obtain ⟨K, hK⟩ := null2_ev 1 ⟨a0, a1, a2⟩ ⟨b0, b1, b2⟩
  refine ⟨K, fun k hk => ?_⟩
  show value_Div.f k a0 a1 a2 b0 b1 b2 = _
  unfold value_Div.f with2
  rw [show value_null.f k _ _ = some _ from hK k hk, Option.bind_some]
  split <;> rfl
theorem with2_num (a b : Int) (r : R4) : with2 ⟨1, a, ⟨#[]⟩⟩ ⟨1, b, ⟨#[]⟩⟩ r = r := by
  have e : (⟨#[]⟩ : ByteArray).toList = [] := by decide +kernel
  simp [with2, nullP, vF, vR, e]

/- BLOCK valref: the document's answers of chapter 1: right, of -/
theorem refright_eq (k n : Int) (s : ByteArray) : weathercockref01_Right.f k n s = some (vR k n s) := by
  unfold weathercockref01_Right.f vR
  by_cases h0 : k = 0
  · subst h0
    by_cases c : n = 0
    · simp [c]
    · simp [c]
  · rw [if_neg h0, if_neg h0]
    by_cases h1 : k = 1
    · rw [if_pos h1, if_pos h1]
    · rw [if_neg h1, if_neg h1]
      by_cases h2 : k = 2
      · rw [if_pos h2, if_pos h2]
        by_cases c : n = 0
        · rw [if_pos c, if_pos (by omega)]
        · rw [if_neg c]
          by_cases c1 : n = 1
          · rw [if_pos c1, if_pos (by omega)]
          · rw [if_neg c1, if_neg (by omega)]
      · rw [if_neg h2, if_neg h2]
        by_cases h3 : k = 3
        · rw [if_pos h3, if_pos h3]; split <;> rfl
        · rw [if_neg h3, if_neg h3]
theorem of_eq (kind a0 a1 : Int) (a2 : ByteArray) (b0 b1 : Int) (b2 : ByteArray) : weathercockref01_of.f kind a0 a1 a2 b0 b1 b2 = some (vF kind ⟨a0, a1, a2⟩ && vF kind ⟨b0, b1, b2⟩) := by
  unfold weathercockref01_of.f ofB vF
  rw [refright_eq, refright_eq, Option.bind_some, Option.bind_some]
  congr 1
  dsimp only
  cases vR a0 a1 a2 <;> cases vR b0 b1 b2 <;> simp
theorem all2 (kind : Int) (x y : S23) : [x, y].all (vF kind) = (vF kind x && vF kind y) := by simp
theorem null2_eq (kind : Int) (x y : S23) : nullP kind [x, y] = if (vF kind x && vF kind y) = true then (0, (x.f0 == 0 || y.f0 == 0)) else (1, true) := by
  unfold nullP
  rw [all2]
  simp
theorem null1_eq (kind : Int) (x : S23) : nullP kind [x] = if vF kind x = true then (0, (x.f0 == 0)) else (1, true) := by
  unfold nullP
  simp

/- BLOCK the law ValueReckons -/
theorem with2_eq (x y : S23) (r : R4) : with2 x y r = if (vF 1 x && vF 1 y) = true then (if x.f0 = 0 ∨ y.f0 = 0 then (0, 0, ⟨#[]⟩, 0) else r) else (0, 0, ⟨#[]⟩, 1) := by
  unfold with2
  rw [null2_eq]
  cases (vF 1 x && vF 1 y) with
  | false => simp
  | true =>
    by_cases c : x.f0 = 0
    · simp [c]
    · by_cases d : y.f0 = 0
      · simp [d]
      · simp [c, d]
theorem with1_eq (x : S23) (r : R4) : with1 x r = if vF 1 x = true then (if x.f0 = 0 then (0, 0, ⟨#[]⟩, 0) else r) else (0, 0, ⟨#[]⟩, 1) := by
  unfold with1
  rw [null1_eq]
  cases vF 1 x with
  | false => simp
  | true =>
    by_cases c : x.f0 = 0
    · simp [c]
    · simp [c]
theorem refAdd_eq (a0 a1 : Int) (a2 : ByteArray) (b0 b1 : Int) (b2 : ByteArray) (h0 : -9223372036854775808 ≤ a1 ∧ a1 ≤ 9223372036854775807) (h1 : -9223372036854775808 ≤ b1 ∧ b1 ≤ 9223372036854775807) :
    weathercockref01_Add.f a0 a1 a2 b0 b1 b2 = some (with2 ⟨a0, a1, a2⟩ ⟨b0, b1, b2⟩ (inR (a1 + b1))) := by
  unfold weathercockref01_Add.f refRAdd
  rw [of_eq, Option.bind_some, with2_eq]
  cases (vF 1 ⟨a0, a1, a2⟩ && vF 1 ⟨b0, b1, b2⟩) with
  | false => rfl
  | true =>
    rw [if_neg (by decide), if_pos rfl]
    dsimp only
    by_cases z : a0 = 0 ∨ b0 = 0
    · rw [if_pos z, if_pos z]
    · rw [if_neg z, if_neg z]
      have o : refOAdd a1 b1 = decide (¬ (-9223372036854775808 ≤ a1 + b1 ∧ a1 + b1 ≤ 9223372036854775807)) := by
        unfold refOAdd
        rw [decide_eq_decide]
        unfold wrap64
        omega
      unfold inR
      rw [o]
      by_cases c : -9223372036854775808 ≤ a1 + b1 ∧ a1 + b1 ≤ 9223372036854775807
      · rw [if_pos c, decide_eq_false (fun x => x c), if_neg (by decide), w64 c.1 c.2]
      · rw [if_neg c, decide_eq_true c, if_pos rfl]
theorem refSub_eq (a0 a1 : Int) (a2 : ByteArray) (b0 b1 : Int) (b2 : ByteArray) (h0 : -9223372036854775808 ≤ a1 ∧ a1 ≤ 9223372036854775807) (h1 : -9223372036854775808 ≤ b1 ∧ b1 ≤ 9223372036854775807) :
    weathercockref01_Sub.f a0 a1 a2 b0 b1 b2 = some (with2 ⟨a0, a1, a2⟩ ⟨b0, b1, b2⟩ (inR (a1 - b1))) := by
  unfold weathercockref01_Sub.f refRSub
  rw [of_eq, Option.bind_some, with2_eq]
  cases (vF 1 ⟨a0, a1, a2⟩ && vF 1 ⟨b0, b1, b2⟩) with
  | false => rfl
  | true =>
    rw [if_neg (by decide), if_pos rfl]
    dsimp only
    by_cases z : a0 = 0 ∨ b0 = 0
    · rw [if_pos z, if_pos z]
    · rw [if_neg z, if_neg z]
      have o : refOSub a1 b1 = decide (¬ (-9223372036854775808 ≤ a1 - b1 ∧ a1 - b1 ≤ 9223372036854775807)) := by
        unfold refOSub
        rw [decide_eq_decide]
        unfold wrap64
        omega
      unfold inR
      rw [o]
      by_cases c : -9223372036854775808 ≤ a1 - b1 ∧ a1 - b1 ≤ 9223372036854775807
      · rw [if_pos c, decide_eq_false (fun x => x c), if_neg (by decide), w64 c.1 c.2]
      · rw [if_neg c, decide_eq_true c, if_pos rfl]
theorem mul_back (a b : Int) (h0 : -9223372036854775808 ≤ a ∧ a ≤ 9223372036854775807) (h1 : -9223372036854775808 ≤ b ∧ b ≤ 9223372036854775807) (ha : a ≠ 0) (hx : ¬ (a = -1 ∧ b = -9223372036854775808)) :
    wrap64 (Int.tdiv (wrap64 (a * b)) a) = b ↔ (-9223372036854775808 ≤ a * b ∧ a * b ≤ 9223372036854775807) := by
  constructor
  · intro e
    by_cases c1 : a = -1
    · subst c1; omega
    · by_cases c2 : a = 1
      · subst c2; omega
      · have rn := w64r (a * b)
        have hw : ∃ q : Int, wrap64 (a * b) = a * b + 18446744073709551616 * q := ⟨-((a * b + 9223372036854775808) / 18446744073709551616), by unfold wrap64; omega⟩
        obtain ⟨q, hq⟩ := hw
        generalize hn : wrap64 (a * b) = n at *
        have hd : a * Int.tdiv n a + Int.tmod n a = n := Int.mul_tdiv_add_tmod n a
        have hm : (Int.tmod n a).natAbs < a.natAbs := by rw [Int.natAbs_tmod]; exact Nat.mod_lt _ (by omega)
        have hs : (Int.tdiv n a).natAbs ≤ 4611686018427387904 := by
          rw [Int.natAbs_tdiv]
          have h2 : 2 ≤ a.natAbs := by omega
          have h3 : n.natAbs ≤ 9223372036854775808 := by omega
          calc n.natAbs / a.natAbs ≤ n.natAbs / 2 := Nat.div_le_div_left h2 (by decide)
            _ ≤ 4611686018427387904 := by omega
        rw [w64 (by omega) (by omega)] at e
        rw [e] at hd
        generalize Int.tmod n a = m at *
        have : q = 0 := by omega
        subst this
        omega
  · intro c
    rw [w64 c.1 c.2, Int.mul_tdiv_cancel_left _ ha, w64 h1.1 h1.2]
theorem refMul_ev (a0 a1 : Int) (a2 : ByteArray) (b0 b1 : Int) (b2 : ByteArray) (h0 : -9223372036854775808 ≤ a1 ∧ a1 ≤ 9223372036854775807) (h1 : -9223372036854775808 ≤ b1 ∧ b1 ≤ 9223372036854775807) :
    Ev (fun k => weathercockref01_Mul.f k a0 a1 a2 b0 b1 b2) (with2 ⟨a0, a1, a2⟩ ⟨b0, b1, b2⟩ (inR (a1 * b1))) := by
  refine ⟨1, fun k hk => ?_⟩
  obtain ⟨k, rfl⟩ : ∃ m, k = m + 1 := ⟨k - 1, by omega⟩
  show weathercockref01_Mul.f (k + 1) a0 a1 a2 b0 b1 b2 = _
  have hz : weathercockref01_Mul.j0 (k + 1) false a0 a1 a2 b0 b1 b2 = some (inR (a1 * b1)) := by
    simp only [weathercockref01_Mul.j0, weathercockref01_one.f, Option.bind_some]
    rw [if_neg (by simp)]
    unfold inR
    by_cases z : a1 = 0
    · subst z
      rw [if_pos rfl, Int.zero_mul, w64 (by omega) (by omega), if_pos (by omega)]
    · rw [if_neg z]
      by_cases x : a1 = -1 ∧ b1 = -9223372036854775808
      · obtain ⟨rfl, rfl⟩ := x
        rw [if_neg (c := -9223372036854775808 ≤ (-1 : Int) * -9223372036854775808 ∧ _) (by omega)]
        simp
      · by_cases c : -9223372036854775808 ≤ a1 * b1 ∧ a1 * b1 ≤ 9223372036854775807
        · rw [if_pos c, if_pos ((mul_back a1 b1 h0 h1 z x).2 c), w64 c.1 c.2]
          by_cases y : a1 = -1
          · rw [if_pos y, if_neg (fun t => x ⟨y, t⟩)]
          · rw [if_neg y]
        · rw [if_neg c, if_neg (fun t => c ((mul_back a1 b1 h0 h1 z x).1 t))]
  unfold weathercockref01_Mul.f
  rw [of_eq, Option.bind_some, with2_eq]
  cases (vF 1 ⟨a0, a1, a2⟩ && vF 1 ⟨b0, b1, b2⟩) with
  | false => rfl
  | true =>
    rw [if_pos rfl, if_pos rfl]
    dsimp only
    by_cases z : a0 = 0
    · rw [if_pos z, if_pos (.inl z)]
      simp [weathercockref01_Mul.j0]
    · rw [if_neg z]
      by_cases y : b0 = 0
      · rw [if_pos (.inr y)]
        simp [weathercockref01_Mul.j0, y]
      · rw [if_neg (by omega), show (b0 == 0) = false by simpa using y, hz]
theorem refDiv_ev (a0 a1 : Int) (a2 : ByteArray) (b0 b1 : Int) (b2 : ByteArray) :
    Ev (fun k => weathercockref01_Div.f k a0 a1 a2 b0 b1 b2) (with2 ⟨a0, a1, a2⟩ ⟨b0, b1, b2⟩ (divRest a1 b1)) := by
  refine ⟨1, fun k hk => ?_⟩
  obtain ⟨k, rfl⟩ : ∃ m, k = m + 1 := ⟨k - 1, by omega⟩
  show weathercockref01_Div.f (k + 1) a0 a1 a2 b0 b1 b2 = _
  have hz : weathercockref01_Div.j0 (k + 1) false a0 a1 a2 b0 b1 b2 = some (divRest a1 b1) := by
    simp only [weathercockref01_Div.j0, weathercockref01_one.f, Option.bind_some]
    rw [if_neg (by simp)]
    unfold divRest
    by_cases z : b1 = 0
    · rw [if_pos z, if_pos z]
    · rw [if_neg z, if_neg z]
      by_cases y : a1 = -9223372036854775808
      · rw [if_pos y]
        by_cases x : b1 = -1
        · rw [if_pos x, if_pos ⟨y, x⟩]
        · rw [if_neg x, if_neg (fun t => x t.2)]
      · rw [if_neg y, if_neg (fun t => y t.1)]
  unfold weathercockref01_Div.f
  rw [of_eq, Option.bind_some, with2_eq]
  cases (vF 1 ⟨a0, a1, a2⟩ && vF 1 ⟨b0, b1, b2⟩) with
  | false => rfl
  | true =>
    rw [if_pos rfl, if_pos rfl]
    dsimp only
    by_cases z : a0 = 0
    · rw [if_pos z, if_pos (.inl z)]
      simp [weathercockref01_Div.j0]
    · rw [if_neg z]
      by_cases y : b0 = 0
      · rw [if_pos (.inr y)]
        simp [weathercockref01_Div.j0, y]
      · rw [if_neg (by omega), show (b0 == 0) = false by simpa using y, hz]
theorem neg_ev (a0 a1 : Int) (a2 : ByteArray) (h0 : -9223372036854775808 ≤ a1 ∧ a1 ≤ 9223372036854775807) : Ev (fun k => value_Neg.f k a0 a1 a2) (with1 ⟨a0, a1, a2⟩ (inR (0 - a1))) := by
  obtain ⟨K, hK⟩ := null1_ev 1 ⟨a0, a1, a2⟩
  obtain ⟨K2, hK2⟩ := sub_ev 1 0 ⟨#[]⟩ a0 a1 a2 (by decide) h0
  refine ⟨K + K2, fun k hk => ?_⟩
  show value_Neg.f k a0 a1 a2 = _
  unfold value_Neg.f value_number.f
  rw [show value_null.f k _ _ = some _ from hK k (by omega), Option.bind_some]
  simp only [Option.bind_some]
  rw [show value_Sub.f k 1 0 _ a0 a1 a2 = some _ from hK2 k (by omega), Option.bind_some, with1_eq, with2_eq, null1_eq]
  have e : vF 1 ⟨1, 0, ⟨#[]⟩⟩ = true := by decide +kernel
  rw [e, Bool.true_and]
  cases vF 1 ⟨a0, a1, a2⟩ with
  | false => rfl
  | true =>
    simp only [if_true]
    by_cases z : a0 = 0
    · simp [z]
    · simp [z]
theorem refNeg_eq (a0 a1 : Int) (a2 : ByteArray) (h0 : -9223372036854775808 ≤ a1 ∧ a1 ≤ 9223372036854775807) : weathercockref01_Neg.f a0 a1 a2 = some (with1 ⟨a0, a1, a2⟩ (inR (0 - a1))) := by
  unfold weathercockref01_Neg.f weathercockref01_one.f
  rw [of_eq, Option.bind_some, with1_eq, Bool.and_self]
  cases vF 1 ⟨a0, a1, a2⟩ with
  | false => rfl
  | true =>
    rw [if_pos rfl, if_pos rfl]
    dsimp only
    by_cases z : a0 = 0
    · rw [if_pos z, if_pos z]
    · rw [if_neg z, if_neg z]
      unfold inR
      by_cases c : a1 = -9223372036854775808
      · rw [if_pos c, if_neg (by omega)]
      · rw [if_neg c, if_pos (by omega), w64 (by omega) (by omega), Option.bind_some, show 0 - a1 = -a1 by omega]
theorem examples_ev : Ev (fun k => weathercocklaw01_examples.f k) true := Ev.of weathercocklaw01_examples.mono (k := 40) (by decide +kernel)
theorem same_none (r : R4) : ¬ ((!(r.1 == r.1) || (!(r.2.1 == r.2.1) || (!(r.2.2.1.toList == r.2.2.1.toList)))) = true) := by simp
theorem same_all (r : R4) : (r.1 == r.1 && (r.2.1 == r.2.1 && (r.2.2.1.toList == r.2.2.1.toList))) = true := by simp
theorem ne_self (n : Int) : (n != n) = false := by simp
theorem ValueReckons : weathercocklaw01_ValueReckons.Pure := by
  intro a0 a1 a2 b0 b1 b2 _ wa _ _ wb _
  have h0 := i64_bd wa
  have h1 := i64_bd wb
  obtain ⟨K0, g0⟩ := examples_ev
  obtain ⟨K1, g1⟩ := add_ev a0 a1 a2 b0 b1 b2 h0 h1
  obtain ⟨K2, g2⟩ := sub_ev a0 a1 a2 b0 b1 b2 h0 h1
  obtain ⟨K3, g3⟩ := mul_ev a0 a1 a2 b0 b1 b2 h0 h1
  obtain ⟨K4, g4⟩ := refMul_ev a0 a1 a2 b0 b1 b2 h0 h1
  obtain ⟨K5, g5⟩ := div_ev a0 a1 a2 b0 b1 b2
  obtain ⟨K6, g6⟩ := refDiv_ev a0 a1 a2 b0 b1 b2
  obtain ⟨K7, g7⟩ := neg_ev a0 a1 a2 h0
  refine ⟨K0 + K1 + K2 + K3 + K4 + K5 + K6 + K7 + 4, ?_⟩
  generalize hk : K0 + K1 + K2 + K3 + K4 + K5 + K6 + K7 = k
  unfold weathercocklaw01_ValueReckons.f
  rw [show weathercocklaw01_examples.f (k + 4) = some _ from g0 _ (by omega), Option.bind_some, show value_Add.f (k + 4) a0 a1 a2 b0 b1 b2 = some _ from g1 _ (by omega), Option.bind_some,
    refAdd_eq a0 a1 a2 b0 b1 b2 h0 h1, Option.bind_some, if_neg (same_none _), ne_self]
  simp only [weathercocklaw01_ValueReckons.j0]
  rw [if_neg (by decide), show value_Sub.f (k + 3) a0 a1 a2 b0 b1 b2 = some _ from g2 _ (by omega), Option.bind_some, refSub_eq a0 a1 a2 b0 b1 b2 h0 h1, Option.bind_some, if_neg (same_none _), ne_self]
  simp only [weathercocklaw01_ValueReckons.j1]
  rw [if_neg (by decide), show value_Mul.f (k + 2) a0 a1 a2 b0 b1 b2 = some _ from g3 _ (by omega), Option.bind_some, show weathercockref01_Mul.f (k + 2) a0 a1 a2 b0 b1 b2 = some _ from g4 _ (by omega), Option.bind_some, if_neg (same_none _), ne_self]
  simp only [weathercocklaw01_ValueReckons.j2]
  rw [if_neg (by decide), show value_Div.f (k + 1) a0 a1 a2 b0 b1 b2 = some _ from g5 _ (by omega), Option.bind_some, show weathercockref01_Div.f (k + 1) a0 a1 a2 b0 b1 b2 = some _ from g6 _ (by omega), Option.bind_some, if_neg (same_none _), ne_self]
  simp only [weathercocklaw01_ValueReckons.j3]
  rw [if_neg (by decide), show value_Neg.f k a0 a1 a2 = some _ from g7 _ (by omega), Option.bind_some, refNeg_eq a0 a1 a2 h0, Option.bind_some]
  simp

end Go.Proofs.Ytihfljdcmncicaa.Pure
