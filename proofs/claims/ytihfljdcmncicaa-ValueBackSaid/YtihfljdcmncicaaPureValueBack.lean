import Derived.Test.YtihfljdcmncicaaQValueBackx6
import Derived.Lib.Mul64
import Derived.Laws.MathBits
/- ValueBack: the pure statement of the law ValueBack, proved: over the functions that the printer wrote for the Go code. No condition beside the statement's own. -/
namespace Go.Proofs.Ytihfljdcmncicaa.Pure
open Go.RowKit Go.Proofs.Ytihfljdcmncicaa.QValueBack Go.Proofs.YtihfljdcmncicaaW.PrintWords Go.Proofs.YtihfljdcmncicaaW.PrintLast Go.Proofs.YtihfljdcmncicaaW.PrintMore
set_option linter.unusedVariables false

/- BLOCK base -/
theorem ev_pos {α : Type} {c : Prop} [Decidable c] {A B : Nat → Option α} {r : α} (h : c) (k : Ev A r) : Ev (fun n => if c then A n else B n) r := Ev.congr (fun _ => if_pos h) k
theorem ev_neg {α : Type} {c : Prop} [Decidable c] {A B : Nat → Option α} {r : α} (h : ¬ c) (k : Ev B r) : Ev (fun n => if c then A n else B n) r := Ev.congr (fun _ => if_neg h) k
theorem ev_some {α : Type} (r : α) : Ev (fun _ => some r) r := Ev.now r
theorem ev_eq {α : Type} {A : Nat → Option α} {r : α} (h : ∀ k, A k = some r) : Ev A r := ⟨0, fun k _ => h k⟩
theorem w64 {n : Int} (h0 : -9223372036854775808 ≤ n) (h1 : n ≤ 9223372036854775807) : wrap64 n = n := by unfold wrap64; omega
theorem u64w {n : Int} (h0 : 0 ≤ n) (h1 : n < 18446744073709551616) : IntKind.u64.wrap n = n := by
  have : IntKind.u64.wrap n = n % 18446744073709551616 := by simp [IntKind.wrap, IntKind.bits, IntKind.signed]
  rw [this]; omega
theorem u64m (n : Int) : IntKind.u64.wrap n = n % 18446744073709551616 := by simp [IntKind.wrap, IntKind.bits, IntKind.signed]
theorem i64_bd {n : Int} (h : (Lit.int .i64 n).wf = true) : -9223372036854775808 ≤ n ∧ n ≤ 9223372036854775807 := by
  simp [Lit.wf, IntKind.min, IntKind.max, IntKind.bits, IntKind.signed] at h; omega
theorem mn_def (a b : Int) : mn a b = if b < a then b else a := rfl
theorem mx_def (a b : Int) : mx a b = if a < b then b else a := rfl
theorem rd_get (l : List Int) (i : Int) (h : i.toNat < l.length) : rd l i = l[i.toNat] := by
  unfold rd; rw [List.getD_eq_getElem?_getD, List.getElem?_eq_getElem h]; rfl

/- BLOCK mul64: what bits.Mul64's text computes -/
theorem mul64_eq (x y : Int) (hx0 : 0 ≤ x) (hx : x < 18446744073709551616) (hy0 : 0 ≤ y) (hy : y < 18446744073709551616) :
    bits_Mul64.f x y = some (x * y / 18446744073709551616, x * y % 18446744073709551616) := by
  obtain ⟨a, rfl⟩ := Int.eq_ofNat_of_zero_le hx0
  obtain ⟨b, rfl⟩ := Int.eq_ofNat_of_zero_le hy0
  have ha : a < 18446744073709551616 := by omega
  have hb : b < 18446744073709551616 := by omega
  obtain ⟨h1, h2, h3, h4⟩ := Go.Lib.mul64_hi a b ha hb
  have q1 := Go.Lib.half_mul_le (a := a / 4294967296) (b := b / 4294967296) (by omega) (by omega)
  have q2 := Go.Lib.half_mul_le (a := a / 4294967296) (b := b % 4294967296) (by omega) (by omega)
  have q3 := Go.Lib.half_mul_le (a := a % 4294967296) (b := b / 4294967296) (by omega) (by omega)
  have q4 := Go.Lib.half_mul_le (a := a % 4294967296) (b := b % 4294967296) (by omega) (by omega)
  unfold bits_Mul64.f
  rw [and_low32 (a : Int) (by omega) (by omega), and_low32 (b : Int) (by omega) (by omega)]
  simp only [u64m]
  have e1 : ((a : Int) / 4294967296) * ((b : Int) % 4294967296) = (((a / 4294967296) * (b % 4294967296) : Nat) : Int) := rfl
  have e2 : ((a : Int) % 4294967296) * ((b : Int) % 4294967296) = (((a % 4294967296) * (b % 4294967296) : Nat) : Int) := rfl
  have e3 : ((a : Int) % 4294967296) * ((b : Int) / 4294967296) = (((a % 4294967296) * (b / 4294967296) : Nat) : Int) := rfl
  have e4 : ((a : Int) / 4294967296) * ((b : Int) / 4294967296) = (((a / 4294967296) * (b / 4294967296) : Nat) : Int) := rfl
  have e5 : (a : Int) * (b : Int) = ((a * b : Nat) : Int) := rfl
  rw [e1, e2, e3, e4, e5, and_low32 _ (by omega) (by omega)]
  generalize (a / 4294967296) * (b / 4294967296) = p1 at *
  generalize (a / 4294967296) * (b % 4294967296) = p2 at *
  generalize (a % 4294967296) * (b / 4294967296) = p3 at *
  generalize (a % 4294967296) * (b % 4294967296) = p4 at *
  generalize a * b = p at *
  congr 1
  rw [Prod.mk.injEq]
  exact ⟨by omega, rfl⟩

/- BLOCK valnull: value.null of one and of two values -/
def vR (k n : Int) (s : ByteArray) : Bool := if k = 0 then (n == 0 && (s.toList == [])) else if k = 1 then (s.toList == []) else if k = 2 then (if n / 2 = 0 then (s.toList == []) else false) else if k = 3 then (if n = 0 then decide ((s.size : Int) ≤ 40) else false) else false
def vF (kind : Int) (x : S23) : Bool := vR x.f0 x.f1 x.f2 && (x.f0 == 0 || x.f0 == kind)
def nullP (kind : Int) (l : List S23) : Int × Bool := if l.all (vF kind) = true then (0, l.any (fun x => x.f0 == 0)) else (1, true)
theorem right_eq (k n : Int) (s : ByteArray) : value_Right.f k n s = some (vR k n s) := by
  unfold value_Right.f vR
  by_cases h0 : k = 0
  · subst h0; simp
  · rw [if_neg h0, if_neg h0]
    by_cases h1 : k = 1
    · rw [if_pos h1, if_pos h1]
    · rw [if_neg h1, if_neg h1]
      by_cases h2 : k = 2
      · rw [if_pos h2, if_pos h2]; split <;> rfl
      · rw [if_neg h2, if_neg h2]
        by_cases h3 : k = 3
        · rw [if_pos h3, if_pos h3]; split <;> rfl
        · rw [if_neg h3, if_neg h3]
theorem fits_l (kind : Int) (l : List S23) (hl : l.length ≤ 9223372036854775807) : ∀ (m i k : Nat), i + m = l.length → m < k → value_fits.l0 k kind l (l.length : Int) (i : Int) = some ((l.drop i).all (vF kind))
  | m, i, 0, _, h => absurd h (Nat.not_lt_zero _)
  | 0, i, k + 1, hi, _ => by
    have e : l.drop i = [] := List.drop_of_length_le (by omega)
    simp only [value_fits.l0, e, List.all_nil]
    rw [if_neg (by omega)]
  | m + 1, i, k + 1, hi, h => by
    have e : l.drop i = rd_T23 l (i : Int) :: l.drop (i + 1) := by
      rw [List.drop_eq_getElem_cons (by omega)]
      congr 1
      unfold rd_T23
      rw [Int.toNat_natCast, List.getD_eq_getElem?_getD, List.getElem?_eq_getElem (by omega)]
      rfl
    have ih := fits_l kind l hl m (i + 1) k (by omega) (by omega)
    have w1 : wrap64 ((i : Int) + 1) = ((i + 1 : Nat) : Int) := by rw [w64 (by omega) (by omega)]; push_cast; rfl
    simp only [value_fits.l0, right_eq, Option.bind_some, w1, ih, e, List.all_cons]
    rw [if_pos (by omega), if_pos (by omega), if_pos (by omega)]
    generalize rd_T23 l (i : Int) = x
    generalize (l.drop (i + 1)).all (vF kind) = b
    unfold vF
    cases vR x.f0 x.f1 x.f2 with
    | false => simp
    | true =>
      by_cases h0 : x.f0 = 0
      · simp [h0]
      · by_cases h1 : x.f0 = kind
        · simp [h1]
        · simp [h0, h1]
theorem null_l (l : List S23) (hl : l.length ≤ 9223372036854775807) : ∀ (m i k : Nat), i + m = l.length → m < k → value_null.l0 k l (l.length : Int) (i : Int) = some (0, (l.drop i).any (fun x => x.f0 == 0))
  | m, i, 0, _, h => absurd h (Nat.not_lt_zero _)
  | 0, i, k + 1, hi, _ => by
    have e : l.drop i = [] := List.drop_of_length_le (by omega)
    simp only [value_null.l0, e, List.any_nil]
    rw [if_neg (by omega)]
  | m + 1, i, k + 1, hi, h => by
    have e : l.drop i = rd_T23 l (i : Int) :: l.drop (i + 1) := by
      rw [List.drop_eq_getElem_cons (by omega)]
      congr 1
      unfold rd_T23
      rw [Int.toNat_natCast, List.getD_eq_getElem?_getD, List.getElem?_eq_getElem (by omega)]
      rfl
    have ih := null_l l hl m (i + 1) k (by omega) (by omega)
    have w1 : wrap64 ((i : Int) + 1) = ((i + 1 : Nat) : Int) := by rw [w64 (by omega) (by omega)]; push_cast; rfl
    simp only [value_null.l0, w1, ih, e, List.any_cons]
    rw [if_pos (by omega), if_pos (by omega), if_pos (by omega)]
    by_cases h0 : (rd_T23 l (i : Int)).f0 = 0
    · simp [h0]
    · simp [h0]
theorem null_ev (kind : Int) (l : List S23) (hl : l.length ≤ 9223372036854775807) : Ev (fun k => value_null.f k kind l) (nullP kind l) := by
  refine ⟨l.length + 1, fun k hk => ?_⟩
  show value_null.f k kind l = _
  have hf := fits_l kind l hl l.length 0 k (by omega) (by omega)
  have hn := null_l l hl l.length 0 k (by omega) (by omega)
  unfold value_null.f value_fits.f nullP
  rw [show ((0 : Nat) : Int) = 0 from rfl, List.drop_zero] at hf hn
  rw [hf, Option.bind_some]
  cases l.all (vF kind) with
  | true => rw [if_pos rfl, if_pos rfl]; exact hn
  | false => rw [if_neg (by decide), if_neg (by decide)]
theorem null1_ev (kind : Int) (x : S23) : Ev (fun k => value_null.f k kind [x]) (nullP kind [x]) := null_ev kind [x] (by simp)
theorem null2_ev (kind : Int) (x y : S23) : Ev (fun k => value_null.f k kind [x, y]) (nullP kind [x, y]) := null_ev kind [x, y] (by simp)

/- BLOCK valarith: value.Add, Sub, Mul, Div, Neg -/
theorem i64m (n : Int) : IntKind.i64.wrap n = (n + 9223372036854775808) % 18446744073709551616 - 9223372036854775808 := by
  simp [IntKind.wrap, IntKind.bits, IntKind.signed]
  omega
theorem bv_sgn (v : BitVec 64) : IntKind.i64.wrap (v.toNat : Int) < 0 ↔ v.msb = true := by
  rw [i64m, BitVec.msb_eq_decide, decide_eq_true_eq]
  have := v.isLt
  omega
theorem bv_rng (v : BitVec 64) : -9223372036854775808 ≤ IntKind.i64.wrap (v.toNat : Int) ∧ IntKind.i64.wrap (v.toNat : Int) ≤ 9223372036854775807 := by
  rw [i64m]
  have := v.isLt
  omega
theorem bv_int (a : Int) (h0 : -9223372036854775808 ≤ a) (h1 : a ≤ 9223372036854775807) : (BitVec.ofInt 64 a).msb = decide (a < 0) := by
  rw [BitVec.msb_eq_decide, BitVec.toNat_ofInt, decide_eq_decide]
  norm_cast
  omega
theorem xor_sgn (a b : Int) (h0 : -9223372036854775808 ≤ a) (h1 : a ≤ 9223372036854775807) (h2 : -9223372036854775808 ≤ b) (h3 : b ≤ 9223372036854775807) : Go.bits .xor .i64 a b < 0 ↔ ((a < 0 ∧ 0 ≤ b) ∨ (0 ≤ a ∧ b < 0)) := by
  show IntKind.i64.wrap ((BitVec.ofInt 64 a ^^^ BitVec.ofInt 64 b).toNat : Int) < 0 ↔ _
  rw [bv_sgn, BitVec.msb_xor, bv_int a h0 h1, bv_int b h2 h3]
  by_cases c1 : a < 0 <;> by_cases c2 : b < 0 <;> simp [c1, c2] <;> omega
theorem and_sgn (a b : Int) (h0 : -9223372036854775808 ≤ a) (h1 : a ≤ 9223372036854775807) (h2 : -9223372036854775808 ≤ b) (h3 : b ≤ 9223372036854775807) : Go.bits .and .i64 a b < 0 ↔ (a < 0 ∧ b < 0) := by
  show IntKind.i64.wrap ((BitVec.ofInt 64 a &&& BitVec.ofInt 64 b).toNat : Int) < 0 ↔ _
  rw [bv_sgn, BitVec.msb_and, bv_int a h0 h1, bv_int b h2 h3]
  by_cases c1 : a < 0 <;> by_cases c2 : b < 0 <;> simp [c1, c2]
theorem xor_rng (a b : Int) : -9223372036854775808 ≤ Go.bits .xor .i64 a b ∧ Go.bits .xor .i64 a b ≤ 9223372036854775807 := bv_rng (BitVec.ofInt 64 a ^^^ BitVec.ofInt 64 b)
theorem w64r (n : Int) : -9223372036854775808 ≤ wrap64 n ∧ wrap64 n ≤ 9223372036854775807 := by unfold wrap64; omega
theorem addOver_eq (a b : Int) (h0 : -9223372036854775808 ≤ a) (h1 : a ≤ 9223372036854775807) (h2 : -9223372036854775808 ≤ b) (h3 : b ≤ 9223372036854775807) : addOver a b = decide (¬ (-9223372036854775808 ≤ a + b ∧ a + b ≤ 9223372036854775807)) := by
  unfold addOver
  rw [decide_eq_decide, and_sgn _ _ (xor_rng _ _).1 (xor_rng _ _).2 (xor_rng _ _).1 (xor_rng _ _).2, xor_sgn _ _ h0 h1 (w64r _).1 (w64r _).2, xor_sgn _ _ h2 h3 (w64r _).1 (w64r _).2]
  unfold wrap64
  omega
theorem subOver_eq (a b : Int) (h0 : -9223372036854775808 ≤ a) (h1 : a ≤ 9223372036854775807) (h2 : -9223372036854775808 ≤ b) (h3 : b ≤ 9223372036854775807) : subOver a b = decide (¬ (-9223372036854775808 ≤ a - b ∧ a - b ≤ 9223372036854775807)) := by
  unfold subOver
  rw [decide_eq_decide, and_sgn _ _ (xor_rng _ _).1 (xor_rng _ _).2 (xor_rng _ _).1 (xor_rng _ _).2, xor_sgn _ _ h0 h1 h2 h3, xor_sgn _ _ h0 h1 (w64r _).1 (w64r _).2]
  unfold wrap64
  omega
abbrev R4 := Int × Int × ByteArray × Int
def inR (n : Int) : R4 := if -9223372036854775808 ≤ n ∧ n ≤ 9223372036854775807 then (1, n, ⟨#[]⟩, 0) else (0, 0, ⟨#[]⟩, 3)
def with2 (x y : S23) (r : R4) : R4 := if (nullP 1 [x, y]).2 = true then (0, 0, ⟨#[]⟩, (nullP 1 [x, y]).1) else r
def with1 (x : S23) (r : R4) : R4 := if (nullP 1 [x]).2 = true then (0, 0, ⟨#[]⟩, (nullP 1 [x]).1) else r
theorem add_ev (a0 a1 : Int) (a2 : ByteArray) (b0 b1 : Int) (b2 : ByteArray) (h0 : -9223372036854775808 ≤ a1 ∧ a1 ≤ 9223372036854775807) (h1 : -9223372036854775808 ≤ b1 ∧ b1 ≤ 9223372036854775807) : Ev (fun k => value_Add.f k a0 a1 a2 b0 b1 b2) (with2 ⟨a0, a1, a2⟩ ⟨b0, b1, b2⟩ (inR (a1 + b1))) := by
  obtain ⟨K, hK⟩ := null2_ev 1 ⟨a0, a1, a2⟩ ⟨b0, b1, b2⟩
  refine ⟨K, fun k hk => ?_⟩
  show value_Add.f k a0 a1 a2 b0 b1 b2 = _
  unfold value_Add.f with2 inR
  rw [show value_null.f k _ _ = some _ from hK k hk, Option.bind_some, addOver_eq a1 b1 h0.1 h0.2 h1.1 h1.2]
  by_cases c : -9223372036854775808 ≤ a1 + b1 ∧ a1 + b1 ≤ 9223372036854775807
  · rw [if_pos c, w64 c.1 c.2, decide_eq_false (fun x => x c), if_neg Bool.false_ne_true]
    split <;> rfl
  · rw [if_neg c, decide_eq_true c, if_pos rfl]
    split <;> rfl
theorem sub_ev (a0 a1 : Int) (a2 : ByteArray) (b0 b1 : Int) (b2 : ByteArray) (h0 : -9223372036854775808 ≤ a1 ∧ a1 ≤ 9223372036854775807) (h1 : -9223372036854775808 ≤ b1 ∧ b1 ≤ 9223372036854775807) : Ev (fun k => value_Sub.f k a0 a1 a2 b0 b1 b2) (with2 ⟨a0, a1, a2⟩ ⟨b0, b1, b2⟩ (inR (a1 - b1))) := by
  obtain ⟨K, hK⟩ := null2_ev 1 ⟨a0, a1, a2⟩ ⟨b0, b1, b2⟩
  refine ⟨K, fun k hk => ?_⟩
  show value_Sub.f k a0 a1 a2 b0 b1 b2 = _
  unfold value_Sub.f with2 inR
  rw [show value_null.f k _ _ = some _ from hK k hk, Option.bind_some, subOver_eq a1 b1 h0.1 h0.2 h1.1 h1.2]
  by_cases c : -9223372036854775808 ≤ a1 - b1 ∧ a1 - b1 ≤ 9223372036854775807
  · rw [if_pos c, w64 c.1 c.2, decide_eq_false (fun x => x c), if_neg Bool.false_ne_true]
    split <;> rfl
  · rw [if_neg c, decide_eq_true c, if_pos rfl]
    split <;> rfl
theorem size_eq (a : Int) (h0 : -9223372036854775808 ≤ a) (h1 : a ≤ 9223372036854775807) : value_size.f a = some (if a < 0 then -a else a) := by
  unfold value_size.f
  rw [u64m, u64m]
  by_cases c : a < 0
  · rw [if_pos c, if_pos c]; congr 1; omega
  · rw [if_neg c, if_neg c]; congr 1; omega
theorem mulR_eq (p : Int) (c : Bool) (h0 : 0 ≤ p) : mulRest (p / 18446744073709551616) (p % 18446744073709551616) c = inR (if c = true then -p else p) := by
  unfold mulRest inR
  cases c with
  | true =>
    simp only [if_true, Bool.true_eq_false, and_false, or_false, u64m]
    by_cases g : p ≤ 9223372036854775808
    · rw [if_neg (by omega), if_pos (by omega)]
      congr 2
      unfold wrap64
      omega
    · rw [if_pos (by omega), if_neg (by omega)]
  | false =>
    simp only [Bool.false_eq_true, if_false, and_true]
    by_cases g : p ≤ 9223372036854775807
    · rw [if_neg (by omega), if_pos (by omega)]
      congr 2
      unfold wrap64
      omega
    · rw [if_pos (by omega), if_neg (by omega)]
theorem mul_ev (a0 a1 : Int) (a2 : ByteArray) (b0 b1 : Int) (b2 : ByteArray) (h0 : -9223372036854775808 ≤ a1 ∧ a1 ≤ 9223372036854775807) (h1 : -9223372036854775808 ≤ b1 ∧ b1 ≤ 9223372036854775807) : Ev (fun k => value_Mul.f k a0 a1 a2 b0 b1 b2) (with2 ⟨a0, a1, a2⟩ ⟨b0, b1, b2⟩ (inR (a1 * b1))) := by
  obtain ⟨K, hK⟩ := null2_ev 1 ⟨a0, a1, a2⟩ ⟨b0, b1, b2⟩
  refine ⟨K, fun k hk => ?_⟩
  show value_Mul.f k a0 a1 a2 b0 b1 b2 = _
  have hp : 0 ≤ (if a1 < 0 then -a1 else a1) * (if b1 < 0 then -b1 else b1) := Int.mul_nonneg (by split <;> omega) (by split <;> omega)
  have hs : (if (decide (a1 < 0) != decide (b1 < 0)) = true then -((if a1 < 0 then -a1 else a1) * (if b1 < 0 then -b1 else b1)) else (if a1 < 0 then -a1 else a1) * (if b1 < 0 then -b1 else b1)) = a1 * b1 := by
    by_cases c1 : a1 < 0 <;> by_cases c2 : b1 < 0 <;> simp [c1, c2, Int.neg_mul, Int.mul_neg]
  unfold value_Mul.f with2
  rw [show value_null.f k _ _ = some _ from hK k hk, Option.bind_some, size_eq a1 h0.1 h0.2, Option.bind_some, size_eq b1 h1.1 h1.2, Option.bind_some,
    mul64_eq _ _ (by split <;> omega) (by split <;> omega) (by split <;> omega) (by split <;> omega), Option.bind_some, mulR_eq _ _ hp, hs]
  split <;> rfl
theorem div_ev (a0 a1 : Int) (a2 : ByteArray) (b0 b1 : Int) (b2 : ByteArray) : Ev (fun k => value_Div.f k a0 a1 a2 b0 b1 b2) (with2 ⟨a0, a1, a2⟩ ⟨b0, b1, b2⟩ (divRest a1 b1)) := by
  obtain ⟨K, hK⟩ := null2_ev 1 ⟨a0, a1, a2⟩ ⟨b0, b1, b2⟩
  refine ⟨K, fun k hk => ?_⟩
  show value_Div.f k a0 a1 a2 b0 b1 b2 = _
  unfold value_Div.f with2
  rw [show value_null.f k _ _ = some _ from hK k hk, Option.bind_some]
  split <;> rfl
theorem with2_num (a b : Int) (r : R4) : with2 ⟨1, a, ⟨#[]⟩⟩ ⟨1, b, ⟨#[]⟩⟩ r = r := by
  have e : (⟨#[]⟩ : ByteArray).toList = [] := by decide +kernel
  simp [with2, nullP, vF, vR, e]

/- BLOCK the law ValueBack -/
theorem neg_ev (a0 a1 : Int) (a2 : ByteArray) (h0 : -9223372036854775808 ≤ a1 ∧ a1 ≤ 9223372036854775807) : Ev (fun k => value_Neg.f k a0 a1 a2) (with1 ⟨a0, a1, a2⟩ (with2 ⟨1, 0, ⟨#[]⟩⟩ ⟨a0, a1, a2⟩ (inR (0 - a1)))) := by
  obtain ⟨K, hK⟩ := null1_ev 1 ⟨a0, a1, a2⟩
  obtain ⟨K2, hK2⟩ := sub_ev 1 0 ⟨#[]⟩ a0 a1 a2 (by decide) h0
  refine ⟨K + K2, fun k hk => ?_⟩
  show value_Neg.f k a0 a1 a2 = _
  unfold value_Neg.f value_number.f with1
  rw [show value_null.f k _ _ = some _ from hK k (by omega), Option.bind_some]
  simp only [Option.bind_some]
  rw [show value_Sub.f k 1 0 _ a0 a1 a2 = some _ from hK2 k (by omega), Option.bind_some]
  split <;> rfl
theorem examples_ev : Ev (fun k => weathercocklaw01_examples.f k) true := Ev.of weathercocklaw01_examples.mono (k := 40) (by decide +kernel)
theorem with1_num (a : Int) (r : R4) : with1 ⟨1, a, ⟨#[]⟩⟩ r = r := by
  have e : (⟨#[]⟩ : ByteArray).toList = [] := by decide +kernel
  simp [with1, nullP, vF, vR, e]
theorem tail_ev (a : Int) (h0 : -9223372036854775808 ≤ a ∧ a ≤ 9223372036854775807) : Ev (fun k => weathercocklaw01_ValueBack.j2 k a true) true := by
  obtain ⟨K1, h1⟩ := neg_ev 1 a ⟨#[]⟩ h0
  rw [with1_num, with2_num] at h1
  by_cases c : a = -9223372036854775808
  · have e : inR (0 - a) = (0, 0, ⟨#[]⟩, 3) := if_neg (by omega)
    rw [e] at h1
    obtain ⟨K2, h2⟩ := neg_ev 0 0 ⟨#[]⟩ (by decide)
    refine ⟨K1 + K2 + 1, fun k hk => ?_⟩
    obtain ⟨k, rfl⟩ : ∃ m, k = m + 1 := ⟨k - 1, by omega⟩
    show weathercocklaw01_ValueBack.j2 (k + 1) a true = _
    simp only [weathercocklaw01_ValueBack.j2, weathercocklaw01_n.f, Option.bind_some]
    rw [show value_Neg.f k 1 a ⟨#[]⟩ = some _ from h1 k (by omega), Option.bind_some]
    rw [show value_Neg.f k 0 0 ⟨#[]⟩ = some _ from h2 k (by omega), Option.bind_some, if_pos trivial, if_neg (by decide)]
    simp [c]
  · have e : inR (0 - a) = (1, 0 - a, ⟨#[]⟩, 0) := if_pos (by omega)
    rw [e] at h1
    obtain ⟨K2, h2⟩ := neg_ev 1 (0 - a) ⟨#[]⟩ (by omega)
    have e2 : inR (0 - (0 - a)) = (1, a, ⟨#[]⟩, 0) := by rw [show 0 - (0 - a) = a by omega]; exact if_pos h0
    rw [with1_num, with2_num, e2] at h2
    refine ⟨K1 + K2 + 1, fun k hk => ?_⟩
    obtain ⟨k, rfl⟩ : ∃ m, k = m + 1 := ⟨k - 1, by omega⟩
    show weathercocklaw01_ValueBack.j2 (k + 1) a true = _
    simp only [weathercocklaw01_ValueBack.j2, weathercocklaw01_n.f, Option.bind_some]
    rw [show value_Neg.f k 1 a ⟨#[]⟩ = some _ from h1 k (by omega), Option.bind_some]
    rw [show value_Neg.f k 1 (0 - a) ⟨#[]⟩ = some _ from h2 k (by omega), Option.bind_some, if_pos trivial, if_pos rfl, if_pos rfl]
    simp
theorem mid_ev (a b : Int) (h0 : -9223372036854775808 ≤ a ∧ a ≤ 9223372036854775807) (h1 : -9223372036854775808 ≤ b ∧ b ≤ 9223372036854775807) : Ev (fun k => weathercocklaw01_ValueBack.j0 k a b true) true := by
  obtain ⟨K1, g1⟩ := mul_ev 1 a ⟨#[]⟩ 1 b ⟨#[]⟩ h0 h1
  rw [with2_num] at g1
  obtain ⟨K2, g2⟩ := tail_ev a h0
  by_cases c : -9223372036854775808 ≤ a * b ∧ a * b ≤ 9223372036854775807
  · have e : inR (a * b) = (1, a * b, ⟨#[]⟩, 0) := if_pos c
    rw [e] at g1
    obtain ⟨K3, g3⟩ := div_ev 1 (a * b) ⟨#[]⟩ 1 b ⟨#[]⟩
    rw [with2_num] at g3
    refine ⟨K1 + K2 + K3 + 3, fun k hk => ?_⟩
    obtain ⟨k, rfl⟩ : ∃ m, k = m + 2 := ⟨k - 2, by omega⟩
    show weathercocklaw01_ValueBack.j0 (k + 2) a b true = _
    simp only [weathercocklaw01_ValueBack.j0, weathercocklaw01_n.f, Option.bind_some]
    rw [show value_Mul.f (k + 1) 1 a ⟨#[]⟩ 1 b ⟨#[]⟩ = some _ from g1 _ (by omega), Option.bind_some, if_pos rfl]
    simp only [weathercocklaw01_ValueBack.j1, weathercocklaw01_n.f, Option.bind_some]
    by_cases z : b = 0
    · rw [if_neg (by simp [z])]
      exact g2 k (by omega)
    · rw [if_pos (by simpa using z), show value_Div.f k 1 (a * b) ⟨#[]⟩ 1 b ⟨#[]⟩ = some _ from g3 k (by omega), Option.bind_some]
      have d : divRest (a * b) b = (1, a, ⟨#[]⟩, 0) := by
        unfold divRest
        rw [if_neg z, if_neg (by rintro ⟨x, rfl⟩; omega), Int.mul_tdiv_cancel _ z, w64 h0.1 h0.2]
      rw [d, if_neg (by simp), if_pos rfl]
      exact g2 k (by omega)
  · have e : inR (a * b) = (0, 0, ⟨#[]⟩, 3) := if_neg c
    rw [e] at g1
    refine ⟨K1 + K2 + 3, fun k hk => ?_⟩
    obtain ⟨k, rfl⟩ : ∃ m, k = m + 2 := ⟨k - 2, by omega⟩
    show weathercocklaw01_ValueBack.j0 (k + 2) a b true = _
    simp only [weathercocklaw01_ValueBack.j0, weathercocklaw01_n.f, Option.bind_some]
    rw [show value_Mul.f (k + 1) 1 a ⟨#[]⟩ 1 b ⟨#[]⟩ = some _ from g1 _ (by omega), Option.bind_some, if_neg (by decide)]
    simp only [weathercocklaw01_ValueBack.j1, Bool.false_eq_true, if_false]
    exact g2 k (by omega)
theorem ValueBack : weathercocklaw01_ValueBack.Pure := by
  intro a b wa wb
  have h0 := i64_bd wa
  have h1 := i64_bd wb
  obtain ⟨K0, g0⟩ := examples_ev
  obtain ⟨K1, g1⟩ := add_ev 1 a ⟨#[]⟩ 1 b ⟨#[]⟩ h0 h1
  rw [with2_num] at g1
  obtain ⟨K2, g2⟩ := mid_ev a b h0 h1
  by_cases c : -9223372036854775808 ≤ a + b ∧ a + b ≤ 9223372036854775807
  · have e : inR (a + b) = (1, a + b, ⟨#[]⟩, 0) := if_pos c
    rw [e] at g1
    obtain ⟨K3, g3⟩ := sub_ev 1 (a + b) ⟨#[]⟩ 1 b ⟨#[]⟩ c h1
    have e2 : inR (a + b - b) = (1, a, ⟨#[]⟩, 0) := by rw [show a + b - b = a by omega]; exact if_pos h0
    rw [with2_num, e2] at g3
    refine ⟨K0 + K1 + K2 + K3, ?_⟩
    generalize hk : K0 + K1 + K2 + K3 = k
    unfold weathercocklaw01_ValueBack.f weathercocklaw01_n.f
    rw [show weathercocklaw01_examples.f k = some _ from g0 k (by omega)]
    simp only [Option.bind_some]
    rw [show value_Add.f k 1 a ⟨#[]⟩ 1 b ⟨#[]⟩ = some _ from g1 k (by omega), Option.bind_some, if_pos rfl,
      show value_Sub.f k 1 (a + b) ⟨#[]⟩ 1 b ⟨#[]⟩ = some _ from g3 k (by omega), Option.bind_some, if_neg (by simp), if_pos rfl]
    exact g2 k (by omega)
  · have e : inR (a + b) = (0, 0, ⟨#[]⟩, 3) := if_neg c
    rw [e] at g1
    refine ⟨K0 + K1 + K2, ?_⟩
    generalize hk : K0 + K1 + K2 = k
    unfold weathercocklaw01_ValueBack.f weathercocklaw01_n.f
    rw [show weathercocklaw01_examples.f k = some _ from g0 k (by omega)]
    simp only [Option.bind_some]
    rw [show value_Add.f k 1 a ⟨#[]⟩ 1 b ⟨#[]⟩ = some _ from g1 k (by omega), Option.bind_some, if_neg (by decide)]
    exact g2 k (by omega)

end Go.Proofs.Ytihfljdcmncicaa.Pure
