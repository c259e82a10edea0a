import Derived.Test.YtihfljdcmncicaaQValueRestx6
import Derived.Lib.Mul64
import Derived.Laws.MathBits
/- ValueRest: the pure statement of the law ValueRest, proved: over the functions that the printer wrote for the Go code. No condition beside the statement's own. -/
namespace Go.Proofs.Ytihfljdcmncicaa.Pure
open Go.RowKit Go.Proofs.Ytihfljdcmncicaa.QValueRest Go.Proofs.YtihfljdcmncicaaW.PrintWords Go.Proofs.YtihfljdcmncicaaW.PrintLast Go.Proofs.YtihfljdcmncicaaW.PrintMore
set_option linter.unusedVariables false

/- BLOCK base -/
theorem ev_pos {α : Type} {c : Prop} [Decidable c] {A B : Nat → Option α} {r : α} (h : c) (k : Ev A r) : Ev (fun n => if c then A n else B n) r := Ev.congr (fun _ => if_pos h) k
theorem ev_neg {α : Type} {c : Prop} [Decidable c] {A B : Nat → Option α} {r : α} (h : ¬ c) (k : Ev B r) : Ev (fun n => if c then A n else B n) r := Ev.congr (fun _ => if_neg h) k
theorem ev_some {α : Type} (r : α) : Ev (fun _ => some r) r := Ev.now r
theorem ev_eq {α : Type} {A : Nat → Option α} {r : α} (h : ∀ k, A k = some r) : Ev A r := ⟨0, fun k _ => h k⟩
theorem w64 {n : Int} (h0 : -9223372036854775808 ≤ n) (h1 : n ≤ 9223372036854775807) : wrap64 n = n := by unfold wrap64; omega
theorem u64w {n : Int} (h0 : 0 ≤ n) (h1 : n < 18446744073709551616) : IntKind.u64.wrap n = n := by
  have : IntKind.u64.wrap n = n % 18446744073709551616 := by simp [IntKind.wrap, IntKind.bits, IntKind.signed]
  rw [this]; omega
theorem u64m (n : Int) : IntKind.u64.wrap n = n % 18446744073709551616 := by simp [IntKind.wrap, IntKind.bits, IntKind.signed]
theorem i64_bd {n : Int} (h : (Lit.int .i64 n).wf = true) : -9223372036854775808 ≤ n ∧ n ≤ 9223372036854775807 := by
  simp [Lit.wf, IntKind.min, IntKind.max, IntKind.bits, IntKind.signed] at h; omega
theorem mn_def (a b : Int) : mn a b = if b < a then b else a := rfl
theorem mx_def (a b : Int) : mx a b = if a < b then b else a := rfl
theorem rd_get (l : List Int) (i : Int) (h : i.toNat < l.length) : rd l i = l[i.toNat] := by
  unfold rd; rw [List.getD_eq_getElem?_getD, List.getElem?_eq_getElem h]; rfl

/- BLOCK mul64: what bits.Mul64's text computes -/
theorem mul64_eq (x y : Int) (hx0 : 0 ≤ x) (hx : x < 18446744073709551616) (hy0 : 0 ≤ y) (hy : y < 18446744073709551616) :
    bits_Mul64.f x y = some (x * y / 18446744073709551616, x * y % 18446744073709551616) := by
  obtain ⟨a, rfl⟩ := Int.eq_ofNat_of_zero_le hx0
  obtain ⟨b, rfl⟩ := Int.eq_ofNat_of_zero_le hy0
  have ha : a < 18446744073709551616 := by omega
  have hb : b < 18446744073709551616 := by omega
  obtain ⟨h1, h2, h3, h4⟩ := Go.Lib.mul64_hi a b ha hb
  have q1 := Go.Lib.half_mul_le (a := a / 4294967296) (b := b / 4294967296) (by omega) (by omega)
  have q2 := Go.Lib.half_mul_le (a := a / 4294967296) (b := b % 4294967296) (by omega) (by omega)
  have q3 := Go.Lib.half_mul_le (a := a % 4294967296) (b := b / 4294967296) (by omega) (by omega)
  have q4 := Go.Lib.half_mul_le (a := a % 4294967296) (b := b % 4294967296) (by omega) (by omega)
  unfold bits_Mul64.f
  rw [and_low32 (a : Int) (by omega) (by omega), and_low32 (b : Int) (by omega) (by omega)]
  simp only [u64m]
  have e1 : ((a : Int) / 4294967296) * ((b : Int) % 4294967296) = (((a / 4294967296) * (b % 4294967296) : Nat) : Int) := rfl
  have e2 : ((a : Int) % 4294967296) * ((b : Int) % 4294967296) = (((a % 4294967296) * (b % 4294967296) : Nat) : Int) := rfl
  have e3 : ((a : Int) % 4294967296) * ((b : Int) / 4294967296) = (((a % 4294967296) * (b / 4294967296) : Nat) : Int) := rfl
  have e4 : ((a : Int) / 4294967296) * ((b : Int) / 4294967296) = (((a / 4294967296) * (b / 4294967296) : Nat) : Int) := rfl
  have e5 : (a : Int) * (b : Int) = ((a * b : Nat) : Int) := rfl
  rw [e1, e2, e3, e4, e5, and_low32 _ (by omega) (by omega)]
  generalize (a / 4294967296) * (b / 4294967296) = p1 at *
  generalize (a / 4294967296) * (b % 4294967296) = p2 at *
  generalize (a % 4294967296) * (b / 4294967296) = p3 at *
  generalize (a % 4294967296) * (b % 4294967296) = p4 at *
  generalize a * b = p at *
  congr 1
  rw [Prod.mk.injEq]
  exact ⟨by omega, rfl⟩

/- BLOCK valnull: value.null of one and of two values -/
def vR (k n : Int) (s : ByteArray) : Bool := if k = 0 then (n == 0 && (s.toList == [])) else if k = 1 then (s.toList == []) else if k = 2 then (if n / 2 = 0 then (s.toList == []) else false) else if k = 3 then (if n = 0 then decide ((s.size : Int) ≤ 40) else false) else false
def vF (kind : Int) (x : S23) : Bool := vR x.f0 x.f1 x.f2 && (x.f0 == 0 || x.f0 == kind)
def nullP (kind : Int) (l : List S23) : Int × Bool := if l.all (vF kind) = true then (0, l.any (fun x => x.f0 == 0)) else (1, true)
theorem right_eq (k n : Int) (s : ByteArray) : value_Right.f k n s = some (vR k n s) := by
  unfold value_Right.f vR
  by_cases h0 : k = 0
  · subst h0; simp
  · rw [if_neg h0, if_neg h0]
    by_cases h1 : k = 1
    · rw [if_pos h1, if_pos h1]
    · rw [if_neg h1, if_neg h1]
      by_cases h2 : k = 2
      · rw [if_pos h2, if_pos h2]; split <;> rfl
      · rw [if_neg h2, if_neg h2]
        by_cases h3 : k = 3
        · rw [if_pos h3, if_pos h3]; split <;> rfl
        · rw [if_neg h3, if_neg h3]
theorem fits_l (kind : Int) (l : List S23) (hl : l.length ≤ 9223372036854775807) : ∀ (m i k : Nat), i + m = l.length → m < k → value_fits.l0 k kind l (l.length : Int) (i : Int) = some ((l.drop i).all (vF kind))
  | m, i, 0, _, h => absurd h (Nat.not_lt_zero _)
  | 0, i, k + 1, hi, _ => by
    have e : l.drop i = [] := List.drop_of_length_le (by omega)
    simp only [value_fits.l0, e, List.all_nil]
    rw [if_neg (by omega)]
  | m + 1, i, k + 1, hi, h => by
    have e : l.drop i = rd_T23 l (i : Int) :: l.drop (i + 1) := by
      rw [List.drop_eq_getElem_cons (by omega)]
      congr 1
      unfold rd_T23
      rw [Int.toNat_natCast, List.getD_eq_getElem?_getD, List.getElem?_eq_getElem (by omega)]
      rfl
    have ih := fits_l kind l hl m (i + 1) k (by omega) (by omega)
    have w1 : wrap64 ((i : Int) + 1) = ((i + 1 : Nat) : Int) := by rw [w64 (by omega) (by omega)]; push_cast; rfl
    simp only [value_fits.l0, right_eq, Option.bind_some, w1, ih, e, List.all_cons]
    rw [if_pos (by omega), if_pos (by omega), if_pos (by omega)]
    generalize rd_T23 l (i : Int) = x
    generalize (l.drop (i + 1)).all (vF kind) = b
    unfold vF
    cases vR x.f0 x.f1 x.f2 with
    | false => simp
    | true =>
      by_cases h0 : x.f0 = 0
      · simp [h0]
      · by_cases h1 : x.f0 = kind
        · simp [h1]
        · simp [h0, h1]
theorem null_l (l : List S23) (hl : l.length ≤ 9223372036854775807) : ∀ (m i k : Nat), i + m = l.length → m < k → value_null.l0 k l (l.length : Int) (i : Int) = some (0, (l.drop i).any (fun x => x.f0 == 0))
  | m, i, 0, _, h => absurd h (Nat.not_lt_zero _)
  | 0, i, k + 1, hi, _ => by
    have e : l.drop i = [] := List.drop_of_length_le (by omega)
    simp only [value_null.l0, e, List.any_nil]
    rw [if_neg (by omega)]
  | m + 1, i, k + 1, hi, h => by
    have e : l.drop i = rd_T23 l (i : Int) :: l.drop (i + 1) := by
      rw [List.drop_eq_getElem_cons (by omega)]
      congr 1
      unfold rd_T23
      rw [Int.toNat_natCast, List.getD_eq_getElem?_getD, List.getElem?_eq_getElem (by omega)]
      rfl
    have ih := null_l l hl m (i + 1) k (by omega) (by omega)
    have w1 : wrap64 ((i : Int) + 1) = ((i + 1 : Nat) : Int) := by rw [w64 (by omega) (by omega)]; push_cast; rfl
    simp only [value_null.l0, w1, ih, e, List.any_cons]
    rw [if_pos (by omega), if_pos (by omega), if_pos (by omega)]
    by_cases h0 : (rd_T23 l (i : Int)).f0 = 0
    · simp [h0]
    · simp [h0]
theorem null_ev (kind : Int) (l : List S23) (hl : l.length ≤ 9223372036854775807) : Ev (fun k => value_null.f k kind l) (nullP kind l) := by
  refine ⟨l.length + 1, fun k hk => ?_⟩
  show value_null.f k kind l = _
  have hf := fits_l kind l hl l.length 0 k (by omega) (by omega)
  have hn := null_l l hl l.length 0 k (by omega) (by omega)
  unfold value_null.f value_fits.f nullP
  rw [show ((0 : Nat) : Int) = 0 from rfl, List.drop_zero] at hf hn
  rw [hf, Option.bind_some]
  cases l.all (vF kind) with
  | true => rw [if_pos rfl, if_pos rfl]; exact hn
  | false => rw [if_neg (by decide), if_neg (by decide)]
theorem null1_ev (kind : Int) (x : S23) : Ev (fun k => value_null.f k kind [x]) (nullP kind [x]) := null_ev kind [x] (by simp)
theorem null2_ev (kind : Int) (x y : S23) : Ev (fun k => value_null.f k kind [x, y]) (nullP kind [x, y]) := null_ev kind [x, y] (by simp)

/- BLOCK valarith: value.Add, Sub, Mul, Div, Neg -/
theorem i64m (n : Int) : IntKind.i64.wrap n = (n + 9223372036854775808) % 18446744073709551616 - 9223372036854775808 := by
  simp [IntKind.wrap, IntKind.bits, IntKind.signed]
  omega
theorem bv_sgn (v : BitVec 64) : IntKind.i64.wrap (v.toNat : Int) < 0 ↔ v.msb = true := by
  rw [i64m, BitVec.msb_eq_decide, decide_eq_true_eq]
  have := v.isLt
  omega
theorem bv_rng (v : BitVec 64) : -9223372036854775808 ≤ IntKind.i64.wrap (v.toNat : Int) ∧ IntKind.i64.wrap (v.toNat : Int) ≤ 9223372036854775807 := by
  rw [i64m]
  have := v.isLt
  omega
theorem bv_int (a : Int) (h0 : -9223372036854775808 ≤ a) (h1 : a ≤ 9223372036854775807) : (BitVec.ofInt 64 a).msb = decide (a < 0) := by
  rw [BitVec.msb_eq_decide, BitVec.toNat_ofInt, decide_eq_decide]
  norm_cast
  omega
theorem xor_sgn (a b : Int) (h0 : -9223372036854775808 ≤ a) (h1 : a ≤ 9223372036854775807) (h2 : -9223372036854775808 ≤ b) (h3 : b ≤ 9223372036854775807) : Go.bits .xor .i64 a b < 0 ↔ ((a < 0 ∧ 0 ≤ b) ∨ (0 ≤ a ∧ b < 0)) := by
  show IntKind.i64.wrap ((BitVec.ofInt 64 a ^^^ BitVec.ofInt 64 b).toNat : Int) < 0 ↔ _
  rw [bv_sgn, BitVec.msb_xor, bv_int a h0 h1, bv_int b h2 h3]
  by_cases c1 : a < 0 <;> by_cases c2 : b < 0 <;> simp [c1, c2] <;> omega
theorem and_sgn (a b : Int) (h0 : -9223372036854775808 ≤ a) (h1 : a ≤ 9223372036854775807) (h2 : -9223372036854775808 ≤ b) (h3 : b ≤ 9223372036854775807) : Go.bits .and .i64 a b < 0 ↔ (a < 0 ∧ b < 0) := by
  show IntKind.i64.wrap ((BitVec.ofInt 64 a &&& BitVec.ofInt 64 b).toNat : Int) < 0 ↔ _
  rw [bv_sgn, BitVec.msb_and, bv_int a h0 h1, bv_int b h2 h3]
  by_cases c1 : a < 0 <;> by_cases c2 : b < 0 <;> simp [c1, c2]
theorem xor_rng (a b : Int) : -9223372036854775808 ≤ Go.bits .xor .i64 a b ∧ Go.bits .xor .i64 a b ≤ 9223372036854775807 := bv_rng (BitVec.ofInt 64 a ^^^ BitVec.ofInt 64 b)
theorem w64r (n : Int) : -9223372036854775808 ≤ wrap64 n ∧ wrap64 n ≤ 9223372036854775807 := by unfold wrap64; omega
theorem addOver_eq (a b : Int) (h0 : -9223372036854775808 ≤ a) (h1 : a ≤ 9223372036854775807) (h2 : -9223372036854775808 ≤ b) (h3 : b ≤ 9223372036854775807) : addOver a b = decide (¬ (-9223372036854775808 ≤ a + b ∧ a + b ≤ 9223372036854775807)) := by
  unfold addOver
  rw [decide_eq_decide, and_sgn _ _ (xor_rng _ _).1 (xor_rng _ _).2 (xor_rng _ _).1 (xor_rng _ _).2, xor_sgn _ _ h0 h1 (w64r _).1 (w64r _).2, xor_sgn _ _ h2 h3 (w64r _).1 (w64r _).2]
  unfold wrap64
  omega
theorem subOver_eq (a b : Int) (h0 : -9223372036854775808 ≤ a) (h1 : a ≤ 9223372036854775807) (h2 : -9223372036854775808 ≤ b) (h3 : b ≤ 9223372036854775807) : subOver a b = decide (¬ (-9223372036854775808 ≤ a - b ∧ a - b ≤ 9223372036854775807)) := by
  unfold subOver
  rw [decide_eq_decide, and_sgn _ _ (xor_rng _ _).1 (xor_rng _ _).2 (xor_rng _ _).1 (xor_rng _ _).2, xor_sgn _ _ h0 h1 h2 h3, xor_sgn _ _ h0 h1 (w64r _).1 (w64r _).2]
  unfold wrap64
  omega
abbrev R4 := Int × Int × ByteArray × Int
def inR (n : Int) : R4 := if -9223372036854775808 ≤ n ∧ n ≤ 9223372036854775807 then (1, n, ⟨#[]⟩, 0) else (0, 0, ⟨#[]⟩, 3)
def with2 (x y : S23) (r : R4) : R4 := if (nullP 1 [x, y]).2 = true then (0, 0, ⟨#[]⟩, (nullP 1 [x, y]).1) else r
def with1 (x : S23) (r : R4) : R4 := if (nullP 1 [x]).2 = true then (0, 0, ⟨#[]⟩, (nullP 1 [x]).1) else r
theorem add_ev (a0 a1 : Int) (a2 : ByteArray) (b0 b1 : Int) (b2 : ByteArray) (h0 : -9223372036854775808 ≤ a1 ∧ a1 ≤ 9223372036854775807) (h1 : -9223372036854775808 ≤ b1 ∧ b1 ≤ 9223372036854775807) : Ev (fun k => value_Add.f k a0 a1 a2 b0 b1 b2) (with2 ⟨a0, a1, a2⟩ ⟨b0, b1, b2⟩ (inR (a1 + b1))) := by
  obtain ⟨K, hK⟩ := null2_ev 1 ⟨a0, a1, a2⟩ ⟨b0, b1, b2⟩
  refine ⟨K, fun k hk => ?_⟩
  show value_Add.f k a0 a1 a2 b0 b1 b2 = _
  unfold value_Add.f with2 inR
  rw [show value_null.f k _ _ = some _ from hK k hk, Option.bind_some, addOver_eq a1 b1 h0.1 h0.2 h1.1 h1.2]
  by_cases c : -9223372036854775808 ≤ a1 + b1 ∧ a1 + b1 ≤ 9223372036854775807
  · rw [if_pos c, w64 c.1 c.2, decide_eq_false (fun x => x c), if_neg Bool.false_ne_true]
    split <;> rfl
  · rw [if_neg c, decide_eq_true c, if_pos rfl]
    split <;> rfl
theorem sub_ev (a0 a1 : Int) (a2 : ByteArray) (b0 b1 : Int) (b2 : ByteArray) (h0 : -9223372036854775808 ≤ a1 ∧ a1 ≤ 9223372036854775807) (h1 : -9223372036854775808 ≤ b1 ∧ b1 ≤ 9223372036854775807) : Ev (fun k => value_Sub.f k a0 a1 a2 b0 b1 b2) (with2 ⟨a0, a1, a2⟩ ⟨b0, b1, b2⟩ (inR (a1 - b1))) := by
  obtain ⟨K, hK⟩ := null2_ev 1 ⟨a0, a1, a2⟩ ⟨b0, b1, b2⟩
  refine ⟨K, fun k hk => ?_⟩
  show value_Sub.f k a0 a1 a2 b0 b1 b2 = _
  unfold value_Sub.f with2 inR
  rw [show value_null.f k _ _ = some _ from hK k hk, Option.bind_some, subOver_eq a1 b1 h0.1 h0.2 h1.1 h1.2]
  by_cases c : -9223372036854775808 ≤ a1 - b1 ∧ a1 - b1 ≤ 9223372036854775807
  · rw [if_pos c, w64 c.1 c.2, decide_eq_false (fun x => x c), if_neg Bool.false_ne_true]
    split <;> rfl
  · rw [if_neg c, decide_eq_true c, if_pos rfl]
    split <;> rfl
theorem size_eq (a : Int) (h0 : -9223372036854775808 ≤ a) (h1 : a ≤ 9223372036854775807) : value_size.f a = some (if a < 0 then -a else a) := by
  unfold value_size.f
  rw [u64m, u64m]
  by_cases c : a < 0
  · rw [if_pos c, if_pos c]; congr 1; omega
  · rw [if_neg c, if_neg c]; congr 1; omega
theorem mulR_eq (p : Int) (c : Bool) (h0 : 0 ≤ p) : mulRest (p / 18446744073709551616) (p % 18446744073709551616) c = inR (if c = true then -p else p) := by
  unfold mulRest inR
  cases c with
  | true =>
    simp only [if_true, Bool.true_eq_false, and_false, or_false, u64m]
    by_cases g : p ≤ 9223372036854775808
    · rw [if_neg (by omega), if_pos (by omega)]
      congr 2
      unfold wrap64
      omega
    · rw [if_pos (by omega), if_neg (by omega)]
  | false =>
    simp only [Bool.false_eq_true, if_false, and_true]
    by_cases g : p ≤ 9223372036854775807
    · rw [if_neg (by omega), if_pos (by omega)]
      congr 2
      unfold wrap64
      omega
    · rw [if_pos (by omega), if_neg (by omega)]
theorem mul_ev (a0 a1 : Int) (a2 : ByteArray) (b0 b1 : Int) (b2 : ByteArray) (h0 : -9223372036854775808 ≤ a1 ∧ a1 ≤ 9223372036854775807) (h1 : -9223372036854775808 ≤ b1 ∧ b1 ≤ 9223372036854775807) : Ev (fun k => value_Mul.f k a0 a1 a2 b0 b1 b2) (with2 ⟨a0, a1, a2⟩ ⟨b0, b1, b2⟩ (inR (a1 * b1))) := by
  obtain ⟨K, hK⟩ := null2_ev 1 ⟨a0, a1, a2⟩ ⟨b0, b1, b2⟩
  refine ⟨K, fun k hk => ?_⟩
  show value_Mul.f k a0 a1 a2 b0 b1 b2 = _
  have hp : 0 ≤ (if a1 < 0 then -a1 else a1) * (if b1 < 0 then -b1 else b1) := Int.mul_nonneg (by split <;> omega) (by split <;> omega)
  have hs : (if (decide (a1 < 0) != decide (b1 < 0)) = true then -((if a1 < 0 then -a1 else a1) * (if b1 < 0 then -b1 else b1)) else (if a1 < 0 then -a1 else a1) * (if b1 < 0 then -b1 else b1)) = a1 * b1 := by
    by_cases c1 : a1 < 0 <;> by_cases c2 : b1 < 0 <;> simp [c1, c2, Int.neg_mul, Int.mul_neg]
  unfold value_Mul.f with2
  rw [show value_null.f k _ _ = some _ from hK k hk, Option.bind_some, size_eq a1 h0.1 h0.2, Option.bind_some, size_eq b1 h1.1 h1.2, Option.bind_some,
    mul64_eq _ _ (by split <;> omega) (by split <;> omega) (by split <;> omega) (by split <;> omega), Option.bind_some, mulR_eq _ _ hp, hs]
  split <;> rfl
theorem div_ev (a0 a1 : Int) (a2 : ByteArray) (b0 b1 : Int) (b2 : ByteArray) : Ev (fun k => value_Div.f k a0 a1 a2 b0 b1 b2) (with2 ⟨a0, a1, a2⟩ ⟨b0, b1, b2⟩ (divRest a1 b1)) := by
  obtain ⟨K, hK⟩ := null2_ev 1 ⟨a0, a1, a2⟩ ⟨b0, b1, b2⟩
  refine ⟨K, fun k hk => ?_⟩
  show value_Div.f k a0 a1 a2 b0 b1 b2 = _
  unfold value_Div.f with2
  rw [show value_null.f k _ _ = some _ from hK k hk, Option.bind_some]
  split <;> rfl
theorem with2_num (a b : Int) (r : R4) : with2 ⟨1, a, ⟨#[]⟩⟩ ⟨1, b, ⟨#[]⟩⟩ r = r := by
  have e : (⟨#[]⟩ : ByteArray).toList = [] := by decide +kernel
  simp [with2, nullP, vF, vR, e]

/- BLOCK the law ValueRest -/
theorem examplesR_ev : Ev (fun k => weathercocklaw01_examples.f k) true := Ev.of weathercocklaw01_examples.mono (k := 40) (by decide +kernel)
set_option maxHeartbeats 1000000 in
theorem ValueRest : weathercocklaw01_ValueRest.Pure := by
  intro a b wa wb
  obtain ⟨K0, g0⟩ := examplesR_ev
  have h0 := i64_bd wa
  have h1 := i64_bd wb
  obtain ⟨K1, g1⟩ := div_ev 1 a ⟨#[]⟩ 1 b ⟨#[]⟩
  rw [with2_num] at g1
  by_cases z : b = 0
  · subst z
    have e : divRest a 0 = (0, 0, ⟨#[]⟩, 4) := if_pos rfl
    rw [e] at g1
    refine ⟨K0 + K1, ?_⟩
    generalize hk : K0 + K1 = k
    unfold weathercocklaw01_ValueRest.f weathercocklaw01_n.f
    rw [show weathercocklaw01_examples.f k = some _ from g0 k (by omega)]
    simp only [Option.bind_some]
    rw [show value_Div.f k 1 a ⟨#[]⟩ 1 0 ⟨#[]⟩ = some _ from g1 k (by omega), Option.bind_some, if_neg (by decide)]
    simp
  by_cases m : a = -9223372036854775808 ∧ b = -1
  · obtain ⟨rfl, rfl⟩ := m
    have e : divRest (-9223372036854775808) (-1) = (0, 0, ⟨#[]⟩, 3) := by decide +kernel
    rw [e] at g1
    refine ⟨K0 + K1, ?_⟩
    generalize hk : K0 + K1 = k
    unfold weathercocklaw01_ValueRest.f weathercocklaw01_n.f
    rw [show weathercocklaw01_examples.f k = some _ from g0 k (by omega)]
    simp only [Option.bind_some]
    rw [show value_Div.f k 1 (-9223372036854775808) ⟨#[]⟩ 1 (-1) ⟨#[]⟩ = some _ from g1 k (by omega), Option.bind_some, if_neg (by decide)]
    simp
  have dm : b * Int.tdiv a b + Int.tmod a b = a := Int.mul_tdiv_add_tmod a b
  have hm : (Int.tmod a b).natAbs < b.natAbs := by rw [Int.natAbs_tmod]; exact Nat.mod_lt _ (by omega)
  have hs0 : 0 ≤ a → 0 ≤ Int.tmod a b := fun h => Int.tmod_nonneg b h
  have hs1 : a ≤ 0 → Int.tmod a b ≤ 0 := fun h => by
    have := Int.tmod_nonneg b (a := -a) (by omega)
    rw [Int.neg_tmod] at this
    omega
  have hc : b * Int.tdiv a b = Int.tdiv a b * b := Int.mul_comm _ _
  generalize hr : Int.tmod a b = r at *
  have hq : -9223372036854775808 ≤ Int.tdiv a b ∧ Int.tdiv a b ≤ 9223372036854775807 := by
    have hn : (Int.tdiv a b).natAbs ≤ a.natAbs := by rw [Int.natAbs_tdiv]; exact Nat.div_le_self _ _
    by_cases ha : a = -9223372036854775808
    · have hb : b ≠ -1 := fun h => m ⟨ha, h⟩
      by_cases hb1 : b = 1
      · subst hb1; rw [Int.tdiv_one]; omega
      · have hn2 : (Int.tdiv a b).natAbs ≤ a.natAbs / 2 := by rw [Int.natAbs_tdiv]; exact Nat.div_le_div_left (by omega) (by omega)
        omega
    · omega
  have e : divRest a b = (1, Int.tdiv a b, ⟨#[]⟩, 0) := by
    unfold divRest
    rw [if_neg z, if_neg m, w64 hq.1 hq.2]
  generalize hqq : Int.tdiv a b = q at *
  have hp : -9223372036854775808 ≤ q * b ∧ q * b ≤ 9223372036854775807 := by omega
  obtain ⟨K2, g2⟩ := mul_ev 1 q ⟨#[]⟩ 1 b ⟨#[]⟩ hq h1
  obtain ⟨K3, g3⟩ := sub_ev 1 a ⟨#[]⟩ 1 (q * b) ⟨#[]⟩ h0 hp
  rw [with2_num, show inR (q * b) = (1, q * b, ⟨#[]⟩, 0) from if_pos hp] at g2
  rw [with2_num, show inR (a - q * b) = (1, a - q * b, ⟨#[]⟩, 0) from if_pos (by omega)] at g3
  rw [e] at g1
  have er : a - q * b = r := by omega
  rw [er] at g3
  refine ⟨K0 + K1 + K2 + K3, ?_⟩
  generalize hk : K0 + K1 + K2 + K3 = k
  unfold weathercocklaw01_ValueRest.f weathercocklaw01_n.f
  rw [show weathercocklaw01_examples.f k = some _ from g0 k (by omega)]
  simp only [Option.bind_some]
  rw [show value_Div.f k 1 a ⟨#[]⟩ 1 b ⟨#[]⟩ = some _ from g1 k (by omega), Option.bind_some, if_pos rfl,
    show value_Mul.f k 1 q ⟨#[]⟩ 1 b ⟨#[]⟩ = some _ from g2 k (by omega), Option.bind_some]
  simp only []
  rw [show value_Sub.f k 1 a ⟨#[]⟩ 1 (q * b) ⟨#[]⟩ = some _ from g3 k (by omega), Option.bind_some, if_pos trivial, if_pos trivial]
  try rw [if_pos rfl]
  dsimp only
  clear g0 g1 g2 g3 e hk
  have w1 : b ≠ -9223372036854775808 → wrap64 (-b) = -b := fun h => w64 (by omega) (by omega)
  have hneg : ∀ P : Option Bool, ¬ (b > 0) → (if b < 0 then (if r > b then (if b = (-9223372036854775808) then (some true) else (some (decide (r < (wrap64 (-b)))))) else (some false)) else P) = some true := by
    intro P hb
    rw [if_pos (show b < 0 by omega), if_pos (show r > b by omega)]
    by_cases c : b = -9223372036854775808
    · rw [if_pos c]
    · rw [if_neg c, w1 c, decide_eq_true (show r < -b by omega)]
  by_cases ha : a ≥ 0
  · have hr0 : r ≥ 0 := hs0 ha
    rw [if_pos ha, if_pos hr0]
    by_cases hb : b > 0
    · rw [if_pos hb, if_pos (show r < b by omega), w1 (by omega), if_pos (show r > -b by omega)]
    · rw [if_neg hb]
      exact hneg _ hb
  · have hr0 : r ≤ 0 := hs1 (by omega)
    rw [if_neg ha, if_pos (show a < 0 by omega), if_pos hr0]
    by_cases hb : b > 0
    · rw [if_pos hb, if_pos (show r < b by omega), w1 (by omega), if_pos (show r > -b by omega)]
    · rw [if_neg hb]
      exact hneg _ hb

end Go.Proofs.Ytihfljdcmncicaa.Pure
