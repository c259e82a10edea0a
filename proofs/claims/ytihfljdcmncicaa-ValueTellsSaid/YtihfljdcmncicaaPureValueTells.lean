import Derived.Test.YtihfljdcmncicaaQValueTellsx9
import Derived.Lib.Mul64
import Derived.Laws.MathBits
/- ValueTells: the pure statement of the law ValueTells, proved: over the functions that the printer wrote for the Go code. No condition beside the statement's own. -/
namespace Go.Proofs.Ytihfljdcmncicaa.Pure
open Go.RowKit Go.Proofs.Ytihfljdcmncicaa.QValueTells Go.Proofs.YtihfljdcmncicaaW.PrintWords Go.Proofs.YtihfljdcmncicaaW.PrintLast Go.Proofs.YtihfljdcmncicaaW.PrintMore
set_option linter.unusedVariables false

/- BLOCK base -/
theorem ev_pos {α : Type} {c : Prop} [Decidable c] {A B : Nat → Option α} {r : α} (h : c) (k : Ev A r) : Ev (fun n => if c then A n else B n) r := Ev.congr (fun _ => if_pos h) k
theorem ev_neg {α : Type} {c : Prop} [Decidable c] {A B : Nat → Option α} {r : α} (h : ¬ c) (k : Ev B r) : Ev (fun n => if c then A n else B n) r := Ev.congr (fun _ => if_neg h) k
theorem ev_some {α : Type} (r : α) : Ev (fun _ => some r) r := Ev.now r
theorem ev_eq {α : Type} {A : Nat → Option α} {r : α} (h : ∀ k, A k = some r) : Ev A r := ⟨0, fun k _ => h k⟩
theorem w64 {n : Int} (h0 : -9223372036854775808 ≤ n) (h1 : n ≤ 9223372036854775807) : wrap64 n = n := by unfold wrap64; omega
theorem u64w {n : Int} (h0 : 0 ≤ n) (h1 : n < 18446744073709551616) : IntKind.u64.wrap n = n := by
  have : IntKind.u64.wrap n = n % 18446744073709551616 := by simp [IntKind.wrap, IntKind.bits, IntKind.signed]
  rw [this]; omega
theorem u64m (n : Int) : IntKind.u64.wrap n = n % 18446744073709551616 := by simp [IntKind.wrap, IntKind.bits, IntKind.signed]
theorem i64_bd {n : Int} (h : (Lit.int .i64 n).wf = true) : -9223372036854775808 ≤ n ∧ n ≤ 9223372036854775807 := by
  simp [Lit.wf, IntKind.min, IntKind.max, IntKind.bits, IntKind.signed] at h; omega
theorem mn_def (a b : Int) : mn a b = if b < a then b else a := rfl
theorem mx_def (a b : Int) : mx a b = if a < b then b else a := rfl
theorem rd_get (l : List Int) (i : Int) (h : i.toNat < l.length) : rd l i = l[i.toNat] := by
  unfold rd; rw [List.getD_eq_getElem?_getD, List.getElem?_eq_getElem h]; rfl

/- BLOCK valcmp: value.Compare as printed is an order -/
theorem bl_irrefl : ∀ x : List UInt8, Op.bytesLess x x = false
  | [] => rfl
  | a :: x => by simp [Op.bytesLess, bl_irrefl x]
theorem bl_trans : ∀ x y z : List UInt8, Op.bytesLess x y = true → Op.bytesLess y z = true → Op.bytesLess x z = true
  | x, [], z, h, _ => by cases x <;> simp [Op.bytesLess] at h
  | x, _ :: _, [], _, h => by simp [Op.bytesLess] at h
  | [], _ :: _, _ :: _, _, _ => rfl
  | a :: x, b :: y, c :: z, h1, h2 => by
    simp only [Op.bytesLess, Bool.or_eq_true, decide_eq_true_eq, Bool.and_eq_true, beq_iff_eq] at h1 h2 ⊢
    rcases h1 with h1 | ⟨rfl, h1⟩
    · rcases h2 with h2 | ⟨rfl, h2⟩
      · exact .inl (UInt8.lt_trans h1 h2)
      · exact .inl h1
    · rcases h2 with h2 | ⟨rfl, h2⟩
      · exact .inl h2
      · exact .inr ⟨rfl, bl_trans x y z h1 h2⟩
theorem bl_total : ∀ x y : List UInt8, Op.bytesLess x y = true ∨ x = y ∨ Op.bytesLess y x = true
  | [], [] => .inr (.inl rfl)
  | [], _ :: _ => .inl rfl
  | _ :: _, [] => .inr (.inr rfl)
  | a :: x, b :: y => by
    simp only [Op.bytesLess, Bool.or_eq_true, decide_eq_true_eq, Bool.and_eq_true, beq_iff_eq]
    rcases UInt8.lt_or_lt_of_ne (a := a) (b := b) |> fun f => (Decidable.em (a = b)).imp id f with rfl | h | h
    · rcases bl_total x y with h | rfl | h
      · exact .inl (.inr ⟨rfl, h⟩)
      · exact .inr (.inl rfl)
      · exact .inr (.inr (.inr ⟨rfl, h⟩))
    · exact .inl (.inl h)
    · exact .inr (.inr (.inl h))
structure Ord3 {α : Type} (c : α → α → Int) : Prop where
  rng : ∀ a b, -1 ≤ c a b ∧ c a b ≤ 1
  anti : ∀ a b, c a b = -c b a
  eq0 : ∀ a b, c a b = 0 ↔ a = b
  trans : ∀ a b d, c a b ≤ 0 → c b d ≤ 0 → c a d ≤ 0
theorem Ord3.strict {α : Type} {c : α → α → Int} (o : Ord3 c) {a b d : α} (h1 : c a b < 0) (h2 : c b d ≤ 0) : c a d < 0 := by
  have h3 := o.trans a b d (by omega) h2
  by_cases h : c a d = 0
  · have := (o.eq0 a d).1 h
    subst this
    have := o.anti a b
    omega
  · omega
theorem Ord3.strict' {α : Type} {c : α → α → Int} (o : Ord3 c) {a b d : α} (h1 : c a b ≤ 0) (h2 : c b d < 0) : c a d < 0 := by
  have h3 := o.trans a b d h1 (by omega)
  by_cases h : c a d = 0
  · have := (o.eq0 a d).1 h
    subst this
    have := o.anti a b
    omega
  · omega
def lexC {α β : Type} (c : α → α → Int) (d : β → β → Int) (x y : α × β) : Int := if c x.1 y.1 ≠ 0 then c x.1 y.1 else d x.2 y.2
theorem Ord3.lex {α β : Type} {c : α → α → Int} {d : β → β → Int} (o : Ord3 c) (p : Ord3 d) : Ord3 (lexC c d) where
  rng a b := by unfold lexC; split; exact o.rng _ _; exact p.rng _ _
  anti a b := by
    have h := o.anti a.1 b.1
    have h' := p.anti a.2 b.2
    unfold lexC
    by_cases e : c a.1 b.1 = 0
    · rw [if_neg (by omega), if_neg (by omega)]; exact h'
    · rw [if_pos e, if_pos (by omega)]; exact h
  eq0 a b := by
    unfold lexC
    by_cases e : c a.1 b.1 = 0
    · rw [if_neg (by omega), p.eq0]
      have := (o.eq0 _ _).1 e
      exact ⟨fun h => Prod.ext this h, fun h => congrArg Prod.snd h⟩
    · rw [if_pos e]
      exact ⟨fun h => absurd h e, fun h => absurd ((o.eq0 _ _).2 (congrArg Prod.fst h)) e⟩
  trans a b f := by
    unfold lexC
    intro h1 h2
    by_cases e1 : c a.1 b.1 = 0
    · rw [if_neg (by omega)] at h1
      have q1 := (o.eq0 _ _).1 e1
      rw [q1]
      by_cases e2 : c b.1 f.1 = 0
      · rw [if_neg (by omega)] at h2 ⊢
        exact p.trans _ _ _ h1 h2
      · rw [if_pos e2] at h2 ⊢; exact h2
    · rw [if_pos e1] at h1
      have h1' : c a.1 b.1 < 0 := by omega
      have h2' : c b.1 f.1 ≤ 0 := by
        by_cases e2 : c b.1 f.1 = 0
        · omega
        · rw [if_pos e2] at h2; exact h2
      have := o.strict h1' h2'
      rw [if_pos (by omega)]; omega
def cI (x y : Int) : Int := if x < y then -1 else if y < x then 1 else 0
theorem ordI : Ord3 cI where
  rng a b := by unfold cI; (repeat' split) <;> omega
  anti a b := by unfold cI; (repeat' split) <;> omega
  eq0 a b := by unfold cI; constructor <;> intro h <;> (repeat' split at h) <;> (try split) <;> omega
  trans a b d := by unfold cI; (repeat' split) <;> omega
def cS (x y : List UInt8) : Int := if Op.bytesLess x y = true then -1 else if x = y then 0 else 1
theorem cS_anti (a b : List UInt8) : cS a b = -cS b a := by
  unfold cS
  rcases bl_total a b with h | rfl | h
  · have h2 : ¬ Op.bytesLess b a = true := fun h' => by have := bl_trans _ _ _ h h'; rw [bl_irrefl] at this; cases this
    have h3 : ¬ b = a := fun e => by subst e; rw [bl_irrefl] at h; cases h
    rw [if_pos h, if_neg h2, if_neg h3]
  · rw [if_neg (by rw [bl_irrefl]; decide), if_pos rfl]; rfl
  · have h2 : ¬ Op.bytesLess a b = true := fun h' => by have := bl_trans _ _ _ h h'; rw [bl_irrefl] at this; cases this
    have h3 : ¬ a = b := fun e => by subst e; rw [bl_irrefl] at h; cases h
    rw [if_pos h, if_neg h2, if_neg h3]; rfl
theorem ordS : Ord3 cS where
  rng a b := by unfold cS; (repeat' split) <;> omega
  anti := cS_anti
  eq0 a b := by
    unfold cS
    by_cases h : Op.bytesLess a b = true
    · rw [if_pos h]
      exact ⟨fun h' => (by omega), fun e => (by subst e; rw [bl_irrefl] at h; cases h)⟩
    · rw [if_neg h]
      by_cases e : a = b
      · rw [if_pos e]; exact ⟨fun _ => e, fun _ => rfl⟩
      · rw [if_neg e]; exact ⟨fun h' => (by omega), fun h' => absurd h' e⟩
  trans a b d h1 h2 := by
    have key : ∀ x y : List UInt8, cS x y ≤ 0 → Op.bytesLess x y = true ∨ x = y := by
      intro x y h
      unfold cS at h
      by_cases h' : Op.bytesLess x y = true
      · exact .inl h'
      · rw [if_neg h'] at h
        by_cases e : x = y
        · exact .inr e
        · rw [if_neg e] at h; omega
    rcases key _ _ h1 with h1 | rfl
    · rcases key _ _ h2 with h2 | rfl
      · unfold cS; rw [if_pos (bl_trans _ _ _ h1 h2)]; omega
      · unfold cS; rw [if_pos h1]; omega
    · exact h2
def cV (a0 a1 : Int) (a2 : ByteArray) (b0 b1 : Int) (b2 : ByteArray) : Int := lexC cI (lexC cI cS) (a0, a1, a2.toList) (b0, b1, b2.toList)
theorem ordV : Ord3 (lexC cI (lexC cI cS)) := ordI.lex (ordI.lex ordS)
theorem cmp_int_eq (a b : Int) : cmp_Compare_int.f a b = some (cI a b) := by
  have n : ∀ x : Int, cmp_isNaN_int.f x = some false := fun x => by simp [cmp_isNaN_int.f]
  unfold cmp_Compare_int.f cI
  rw [n, n]
  simp only [Option.bind_some, if_false, Bool.false_eq_true]
  by_cases h : a < b
  · rw [if_pos h, if_pos h]
  · rw [if_neg h, if_neg h]
    by_cases h2 : a > b
    · rw [if_pos h2, if_pos (by omega)]
    · rw [if_neg h2, if_neg (by omega)]
theorem cmp_str_eq (a b : ByteArray) : cmp_Compare_string.f a b = some (cS a.toList b.toList) := rfl
theorem first3_eq (k : Nat) (a b c : Int) : value_first_int.f (k + 4) [a, b, c] = some (if a ≠ 0 then a else if b ≠ 0 then b else c) := by
  have w1 : wrap64 (0 + 1) = 1 := w64 (by omega) (by omega)
  have w2 : wrap64 (1 + 1) = 2 := w64 (by omega) (by omega)
  have w3 : wrap64 (2 + 1) = 3 := w64 (by omega) (by omega)
  have r0 : rd [a, b, c] 0 = a := rfl
  have r1 : rd [a, b, c] 1 = b := rfl
  have r2 : rd [a, b, c] 2 = c := rfl
  unfold value_first_int.f
  simp only [value_first_int.l0, List.length_cons, List.length_nil, w1, w2, w3, r0, r1, r2]
  by_cases ha : a = 0
  · subst ha
    by_cases hb : b = 0
    · subst hb
      by_cases hc : c = 0
      · subst hc; simp
      · simp [hc]
    · simp [hb]
  · simp [ha]
theorem compare_ev (a0 a1 : Int) (a2 : ByteArray) (b0 b1 : Int) (b2 : ByteArray) : Ev (fun k => value_Compare.f k a0 a1 a2 b0 b1 b2) (cV a0 a1 a2 b0 b1 b2) := by
  refine ⟨4, fun k hk => ?_⟩
  obtain ⟨k, rfl⟩ : ∃ m, k = m + 4 := ⟨k - 4, by omega⟩
  show value_Compare.f (k + 4) a0 a1 a2 b0 b1 b2 = _
  unfold value_Compare.f
  rw [cmp_int_eq, Option.bind_some, cmp_int_eq, Option.bind_some, cmp_str_eq, Option.bind_some, first3_eq, Option.bind_some]
  rfl

/- BLOCK valnull: value.null of one and of two values -/
def vR (k n : Int) (s : ByteArray) : Bool := if k = 0 then (n == 0 && (s.toList == [])) else if k = 1 then (s.toList == []) else if k = 2 then (if n / 2 = 0 then (s.toList == []) else false) else if k = 3 then (if n = 0 then decide ((s.size : Int) ≤ 40) else false) else false
def vF (kind : Int) (x : S23) : Bool := vR x.f0 x.f1 x.f2 && (x.f0 == 0 || x.f0 == kind)
def nullP (kind : Int) (l : List S23) : Int × Bool := if l.all (vF kind) = true then (0, l.any (fun x => x.f0 == 0)) else (1, true)
theorem right_eq (k n : Int) (s : ByteArray) : value_Right.f k n s = some (vR k n s) := by
  unfold value_Right.f vR
  by_cases h0 : k = 0
  · subst h0; simp
  · rw [if_neg h0, if_neg h0]
    by_cases h1 : k = 1
    · rw [if_pos h1, if_pos h1]
    · rw [if_neg h1, if_neg h1]
      by_cases h2 : k = 2
      · rw [if_pos h2, if_pos h2]; split <;> rfl
      · rw [if_neg h2, if_neg h2]
        by_cases h3 : k = 3
        · rw [if_pos h3, if_pos h3]; split <;> rfl
        · rw [if_neg h3, if_neg h3]
theorem fits_l (kind : Int) (l : List S23) (hl : l.length ≤ 9223372036854775807) : ∀ (m i k : Nat), i + m = l.length → m < k → value_fits.l0 k kind l (l.length : Int) (i : Int) = some ((l.drop i).all (vF kind))
  | m, i, 0, _, h => absurd h (Nat.not_lt_zero _)
  | 0, i, k + 1, hi, _ => by
    have e : l.drop i = [] := List.drop_of_length_le (by omega)
    simp only [value_fits.l0, e, List.all_nil]
    rw [if_neg (by omega)]
  | m + 1, i, k + 1, hi, h => by
    have e : l.drop i = rd_T23 l (i : Int) :: l.drop (i + 1) := by
      rw [List.drop_eq_getElem_cons (by omega)]
      congr 1
      unfold rd_T23
      rw [Int.toNat_natCast, List.getD_eq_getElem?_getD, List.getElem?_eq_getElem (by omega)]
      rfl
    have ih := fits_l kind l hl m (i + 1) k (by omega) (by omega)
    have w1 : wrap64 ((i : Int) + 1) = ((i + 1 : Nat) : Int) := by rw [w64 (by omega) (by omega)]; push_cast; rfl
    simp only [value_fits.l0, right_eq, Option.bind_some, w1, ih, e, List.all_cons]
    rw [if_pos (by omega), if_pos (by omega), if_pos (by omega)]
    generalize rd_T23 l (i : Int) = x
    generalize (l.drop (i + 1)).all (vF kind) = b
    unfold vF
    cases vR x.f0 x.f1 x.f2 with
    | false => simp
    | true =>
      by_cases h0 : x.f0 = 0
      · simp [h0]
      · by_cases h1 : x.f0 = kind
        · simp [h1]
        · simp [h0, h1]
theorem null_l (l : List S23) (hl : l.length ≤ 9223372036854775807) : ∀ (m i k : Nat), i + m = l.length → m < k → value_null.l0 k l (l.length : Int) (i : Int) = some (0, (l.drop i).any (fun x => x.f0 == 0))
  | m, i, 0, _, h => absurd h (Nat.not_lt_zero _)
  | 0, i, k + 1, hi, _ => by
    have e : l.drop i = [] := List.drop_of_length_le (by omega)
    simp only [value_null.l0, e, List.any_nil]
    rw [if_neg (by omega)]
  | m + 1, i, k + 1, hi, h => by
    have e : l.drop i = rd_T23 l (i : Int) :: l.drop (i + 1) := by
      rw [List.drop_eq_getElem_cons (by omega)]
      congr 1
      unfold rd_T23
      rw [Int.toNat_natCast, List.getD_eq_getElem?_getD, List.getElem?_eq_getElem (by omega)]
      rfl
    have ih := null_l l hl m (i + 1) k (by omega) (by omega)
    have w1 : wrap64 ((i : Int) + 1) = ((i + 1 : Nat) : Int) := by rw [w64 (by omega) (by omega)]; push_cast; rfl
    simp only [value_null.l0, w1, ih, e, List.any_cons]
    rw [if_pos (by omega), if_pos (by omega), if_pos (by omega)]
    by_cases h0 : (rd_T23 l (i : Int)).f0 = 0
    · simp [h0]
    · simp [h0]
theorem null_ev (kind : Int) (l : List S23) (hl : l.length ≤ 9223372036854775807) : Ev (fun k => value_null.f k kind l) (nullP kind l) := by
  refine ⟨l.length + 1, fun k hk => ?_⟩
  show value_null.f k kind l = _
  have hf := fits_l kind l hl l.length 0 k (by omega) (by omega)
  have hn := null_l l hl l.length 0 k (by omega) (by omega)
  unfold value_null.f value_fits.f nullP
  rw [show ((0 : Nat) : Int) = 0 from rfl, List.drop_zero] at hf hn
  rw [hf, Option.bind_some]
  cases l.all (vF kind) with
  | true => rw [if_pos rfl, if_pos rfl]; exact hn
  | false => rw [if_neg (by decide), if_neg (by decide)]
theorem null1_ev (kind : Int) (x : S23) : Ev (fun k => value_null.f k kind [x]) (nullP kind [x]) := null_ev kind [x] (by simp)
theorem null2_ev (kind : Int) (x y : S23) : Ev (fun k => value_null.f k kind [x, y]) (nullP kind [x, y]) := null_ev kind [x, y] (by simp)

/- BLOCK valtest: value.Test -/
theorem nullP_cases (kind : Int) (l : List S23) : nullP kind l = (1, true) ∨ (nullP kind l = (0, true) ∧ l.any (fun x => x.f0 == 0) = true) ∨ (nullP kind l = (0, false) ∧ l.any (fun x => x.f0 == 0) = false) := by
  unfold nullP
  cases l.all (vF kind) with
  | false => left; rfl
  | true => cases l.any (fun x => x.f0 == 0) with
    | true => right; left; exact ⟨rfl, rfl⟩
    | false => right; right; exact ⟨rfl, rfl⟩
def testP (op : Int) (a0 a1 : Int) (a2 : ByteArray) (b0 b1 : Int) (b2 : ByteArray) : Int × Int × ByteArray × Int :=
  if (nullP (mx a0 b0) [⟨a0, a1, a2⟩, ⟨b0, b1, b2⟩]).2 = true then (0, 0, ⟨#[]⟩, (nullP (mx a0 b0) [⟨a0, a1, a2⟩, ⟨b0, b1, b2⟩]).1) else (2, bi (testB op (cV a0 a1 a2 b0 b1 b2)), ⟨#[]⟩, 0)
theorem test_ev (op : Int) (h : 9 ≤ op ∧ op ≤ 14) (a0 a1 : Int) (a2 : ByteArray) (b0 b1 : Int) (b2 : ByteArray) : Ev (fun k => value_Test.f k op a0 a1 a2 b0 b1 b2) (testP op a0 a1 a2 b0 b1 b2) := by
  obtain ⟨K1, h1⟩ := null2_ev (mx a0 b0) ⟨a0, a1, a2⟩ ⟨b0, b1, b2⟩
  obtain ⟨K2, h2⟩ := compare_ev a0 a1 a2 b0 b1 b2
  refine ⟨K1 + K2, fun k hk => ?_⟩
  show value_Test.f k op a0 a1 a2 b0 b1 b2 = _
  unfold value_Test.f testP
  rw [if_pos h, show value_null.f k _ _ = some _ from h1 k (by omega), Option.bind_some, show value_Compare.f k a0 a1 a2 b0 b1 b2 = some _ from h2 k (by omega), Option.bind_some]
  split <;> rfl

/- BLOCK valref: the document's answers of chapter 1: right, of -/
theorem refright_eq (k n : Int) (s : ByteArray) : weathercockref01_Right.f k n s = some (vR k n s) := by
  unfold weathercockref01_Right.f vR
  by_cases h0 : k = 0
  · subst h0
    by_cases c : n = 0
    · simp [c]
    · simp [c]
  · rw [if_neg h0, if_neg h0]
    by_cases h1 : k = 1
    · rw [if_pos h1, if_pos h1]
    · rw [if_neg h1, if_neg h1]
      by_cases h2 : k = 2
      · rw [if_pos h2, if_pos h2]
        by_cases c : n = 0
        · rw [if_pos c, if_pos (by omega)]
        · rw [if_neg c]
          by_cases c1 : n = 1
          · rw [if_pos c1, if_pos (by omega)]
          · rw [if_neg c1, if_neg (by omega)]
      · rw [if_neg h2, if_neg h2]
        by_cases h3 : k = 3
        · rw [if_pos h3, if_pos h3]; split <;> rfl
        · rw [if_neg h3, if_neg h3]
theorem of_eq (kind a0 a1 : Int) (a2 : ByteArray) (b0 b1 : Int) (b2 : ByteArray) : weathercockref01_of.f kind a0 a1 a2 b0 b1 b2 = some (vF kind ⟨a0, a1, a2⟩ && vF kind ⟨b0, b1, b2⟩) := by
  unfold weathercockref01_of.f ofB vF
  rw [refright_eq, refright_eq, Option.bind_some, Option.bind_some]
  congr 1
  dsimp only
  cases vR a0 a1 a2 <;> cases vR b0 b1 b2 <;> simp
theorem all2 (kind : Int) (x y : S23) : [x, y].all (vF kind) = (vF kind x && vF kind y) := by simp
theorem null2_eq (kind : Int) (x y : S23) : nullP kind [x, y] = if (vF kind x && vF kind y) = true then (0, (x.f0 == 0 || y.f0 == 0)) else (1, true) := by
  unfold nullP
  rw [all2]
  simp
theorem null1_eq (kind : Int) (x : S23) : nullP kind [x] = if vF kind x = true then (0, (x.f0 == 0)) else (1, true) := by
  unfold nullP
  simp

/- BLOCK the law ValueTells -/
abbrev R4 := Int × Int × ByteArray × Int
theorem same_none (r : R4) : ¬ ((!(r.1 == r.1) || (!(r.2.1 == r.2.1) || (!(r.2.2.1.toList == r.2.2.1.toList)))) = true) := by simp
theorem ne_self (n : Int) : (n != n) = false := by simp
theorem examples_ev : Ev (fun k => weathercocklaw01_examples.f k) true := Ev.of weathercocklaw01_examples.mono (k := 40) (by decide +kernel)
theorem refTruth_eq (b : Bool) : weathercockref01_Truth.f b = some (2, bi b, ⟨#[]⟩) := by cases b <;> rfl
theorem truth_eq (b : Bool) : value_truth.f b = some (2, bi b, ⟨#[]⟩) := rfl
theorem refCompare_eq (a0 a1 : Int) (a2 : ByteArray) (b0 b1 : Int) (b2 : ByteArray) : weathercockref01_Compare.f a0 a1 a2 b0 b1 b2 = some (cV a0 a1 a2 b0 b1 b2) := by
  unfold weathercockref01_Compare.f weathercockref01_sign.f cV lexC cI cS
  by_cases h0 : a0 = b0
  · by_cases h1 : a1 = b1
    · subst h0 h1
      by_cases h2 : a2.toList = b2.toList
      · simp [h2, bl_irrefl]
      · by_cases h3 : Op.bytesLess a2.toList b2.toList = true
        · simp [h2, h3]
        · simp [h2, h3]
    · subst h0
      by_cases h2 : a1 < b1
      · simp [h1, h2]
      · have h3 : b1 < a1 := by omega
        simp [h1, h2, h3]
  · by_cases h2 : a0 < b0
    · simp [h0, h2]
    · have h3 : b0 < a0 := by omega
      simp [h0, h2, h3]
def isT (t : Bool) (a0 a1 : Int) (a2 : ByteArray) : Bool := a0 == 2 && (a1 == bi t && (a2.toList == ([] : List UInt8)))
def logP (t : Bool) (x y : S23) : R4 := if (vF 2 x && vF 2 y) = true then (if (isT t x.f0 x.f1 x.f2 || isT t y.f0 y.f1 y.f2) = true then (2, bi t, ⟨#[]⟩, 0) else if x.f0 = 0 ∨ y.f0 = 0 then (0, 0, ⟨#[]⟩, 0) else (2, bi (!t), ⟨#[]⟩, 0)) else (0, 0, ⟨#[]⟩, 1)
theorem e0 : (⟨#[]⟩ : ByteArray).toList = [] := by decide +kernel
theorem decided_ev (t : Bool) (a0 a1 : Int) (a2 : ByteArray) (b0 b1 : Int) (b2 : ByteArray) : Ev (fun k => value_decided.f k t a0 a1 a2 b0 b1 b2) (logP t ⟨a0, a1, a2⟩ ⟨b0, b1, b2⟩) := by
  obtain ⟨K, hK⟩ := null2_ev 2 ⟨a0, a1, a2⟩ ⟨b0, b1, b2⟩
  refine ⟨K + 1, fun k hk => ?_⟩
  obtain ⟨k, rfl⟩ : ∃ m, k = m + 1 := ⟨k - 1, by omega⟩
  show value_decided.f (k + 1) t a0 a1 a2 b0 b1 b2 = _
  unfold value_decided.f logP isT
  rw [show value_null.f (k + 1) _ _ = some _ from hK _ (by omega), Option.bind_some, null2_eq]
  dsimp only
  cases (vF 2 ⟨a0, a1, a2⟩ && vF 2 ⟨b0, b1, b2⟩) with
  | false => rfl
  | true =>
    simp only [if_true, truth_eq, Option.bind_some, e0]
    cases (a0 == 2 && (a1 == bi t && (a2.toList == ([] : List UInt8)))) with
    | true => simp [value_decided.j0, truth_eq]
    | false =>
      cases (b0 == 2 && (b1 == bi t && (b2.toList == ([] : List UInt8)))) with
      | true => simp [value_decided.j0, truth_eq]
      | false =>
        by_cases z : a0 = 0
        · simp [value_decided.j0, z]
        · by_cases y : b0 = 0
          · simp [value_decided.j0, y]
          · simp [value_decided.j0, truth_eq, z, y]
theorem refAnd_ev (a0 a1 : Int) (a2 : ByteArray) (b0 b1 : Int) (b2 : ByteArray) : Ev (fun k => weathercockref01_And.f k a0 a1 a2 b0 b1 b2) (logP false ⟨a0, a1, a2⟩ ⟨b0, b1, b2⟩) := by
  refine ⟨1, fun k hk => ?_⟩
  obtain ⟨k, rfl⟩ : ∃ m, k = m + 1 := ⟨k - 1, by omega⟩
  show weathercockref01_And.f (k + 1) a0 a1 a2 b0 b1 b2 = _
  unfold weathercockref01_And.f logP isT
  rw [of_eq, Option.bind_some]
  dsimp only
  cases (vF 2 ⟨a0, a1, a2⟩ && vF 2 ⟨b0, b1, b2⟩) with
  | false => rfl
  | true =>
    simp only [if_true, refTruth_eq, Option.bind_some, e0]
    cases (a0 == 2 && (a1 == bi false && (a2.toList == ([] : List UInt8)))) with
    | true => simp [weathercockref01_And.j0, refTruth_eq]
    | false =>
      cases (b0 == 2 && (b1 == bi false && (b2.toList == ([] : List UInt8)))) with
      | true => simp [weathercockref01_And.j0, refTruth_eq]
      | false =>
        by_cases z : a0 = 0
        · simp [weathercockref01_And.j0, z]
        · by_cases y : b0 = 0
          · simp [weathercockref01_And.j0, y]
          · simp [weathercockref01_And.j0, refTruth_eq, z, y]
theorem refOr_ev (a0 a1 : Int) (a2 : ByteArray) (b0 b1 : Int) (b2 : ByteArray) : Ev (fun k => weathercockref01_Or.f k a0 a1 a2 b0 b1 b2) (logP true ⟨a0, a1, a2⟩ ⟨b0, b1, b2⟩) := by
  refine ⟨1, fun k hk => ?_⟩
  obtain ⟨k, rfl⟩ : ∃ m, k = m + 1 := ⟨k - 1, by omega⟩
  show weathercockref01_Or.f (k + 1) a0 a1 a2 b0 b1 b2 = _
  unfold weathercockref01_Or.f logP isT
  rw [of_eq, Option.bind_some]
  dsimp only
  cases (vF 2 ⟨a0, a1, a2⟩ && vF 2 ⟨b0, b1, b2⟩) with
  | false => rfl
  | true =>
    simp only [if_true, refTruth_eq, Option.bind_some, e0]
    cases (a0 == 2 && (a1 == bi true && (a2.toList == ([] : List UInt8)))) with
    | true => simp [weathercockref01_Or.j0, refTruth_eq]
    | false =>
      cases (b0 == 2 && (b1 == bi true && (b2.toList == ([] : List UInt8)))) with
      | true => simp [weathercockref01_Or.j0, refTruth_eq]
      | false =>
        by_cases z : a0 = 0
        · simp [weathercockref01_Or.j0, z]
        · by_cases y : b0 = 0
          · simp [weathercockref01_Or.j0, y]
          · simp [weathercockref01_Or.j0, refTruth_eq, z, y]
theorem and_ev (a0 a1 : Int) (a2 : ByteArray) (b0 b1 : Int) (b2 : ByteArray) : Ev (fun k => value_And.f k a0 a1 a2 b0 b1 b2) (logP false ⟨a0, a1, a2⟩ ⟨b0, b1, b2⟩) := by
  obtain ⟨K, hK⟩ := decided_ev false a0 a1 a2 b0 b1 b2
  refine ⟨K, fun k hk => ?_⟩
  show value_And.f k a0 a1 a2 b0 b1 b2 = _
  unfold value_And.f
  rw [show value_decided.f k false a0 a1 a2 b0 b1 b2 = some _ from hK k hk, Option.bind_some]
theorem or_ev (a0 a1 : Int) (a2 : ByteArray) (b0 b1 : Int) (b2 : ByteArray) : Ev (fun k => value_Or.f k a0 a1 a2 b0 b1 b2) (logP true ⟨a0, a1, a2⟩ ⟨b0, b1, b2⟩) := by
  obtain ⟨K, hK⟩ := decided_ev true a0 a1 a2 b0 b1 b2
  refine ⟨K, fun k hk => ?_⟩
  show value_Or.f k a0 a1 a2 b0 b1 b2 = _
  unfold value_Or.f
  rw [show value_decided.f k true a0 a1 a2 b0 b1 b2 = some _ from hK k hk, Option.bind_some]
def notP (x : S23) : R4 := if vF 2 x = true then (if x.f0 = 0 then (0, 0, ⟨#[]⟩, 0) else (2, bi (x.f1 == 0), ⟨#[]⟩, 0)) else (0, 0, ⟨#[]⟩, 1)
theorem not_ev (a0 a1 : Int) (a2 : ByteArray) : Ev (fun k => value_Not.f k a0 a1 a2) (notP ⟨a0, a1, a2⟩) := by
  obtain ⟨K, hK⟩ := null1_ev 2 ⟨a0, a1, a2⟩
  refine ⟨K, fun k hk => ?_⟩
  show value_Not.f k a0 a1 a2 = _
  unfold value_Not.f notP
  rw [show value_null.f k _ _ = some _ from hK k hk, Option.bind_some, null1_eq]
  cases vF 2 ⟨a0, a1, a2⟩ with
  | false => rfl
  | true =>
    by_cases z : a0 = 0
    · simp [z]
    · simp [z]
theorem refNot_eq (a0 a1 : Int) (a2 : ByteArray) : weathercockref01_Not.f a0 a1 a2 = some (notP ⟨a0, a1, a2⟩) := by
  unfold weathercockref01_Not.f notP
  rw [of_eq, Option.bind_some, Bool.and_self, refTruth_eq, Option.bind_some]
  cases vF 2 ⟨a0, a1, a2⟩ with
  | false => rfl
  | true =>
    by_cases z : a0 = 0
    · simp [z]
    · simp [z]
def tstP (op : Int) (x y : S23) : R4 := if (9 ≤ op ∧ op ≤ 14) ∧ (vF (mx x.f0 y.f0) x && vF (mx x.f0 y.f0) y) = true then (if x.f0 = 0 ∨ y.f0 = 0 then (0, 0, ⟨#[]⟩, 0) else (2, bi (testB op (cV x.f0 x.f1 x.f2 y.f0 y.f1 y.f2)), ⟨#[]⟩, 0)) else (0, 0, ⟨#[]⟩, 1)
theorem tst_ev (op : Int) (a0 a1 : Int) (a2 : ByteArray) (b0 b1 : Int) (b2 : ByteArray) : Ev (fun k => value_Test.f k op a0 a1 a2 b0 b1 b2) (tstP op ⟨a0, a1, a2⟩ ⟨b0, b1, b2⟩) := by
  by_cases h : 9 ≤ op ∧ op ≤ 14
  · have e : testP op a0 a1 a2 b0 b1 b2 = tstP op ⟨a0, a1, a2⟩ ⟨b0, b1, b2⟩ := by
      unfold testP tstP
      rw [null2_eq]
      dsimp only
      cases (vF (mx a0 b0) ⟨a0, a1, a2⟩ && vF (mx a0 b0) ⟨b0, b1, b2⟩) with
      | false => simp
      | true =>
        by_cases z : a0 = 0
        · simp [h, z]
        · by_cases y : b0 = 0
          · simp [h, y]
          · simp [h, z, y]
    rw [← e]
    exact test_ev op h a0 a1 a2 b0 b1 b2
  · refine ⟨0, fun k _ => ?_⟩
    show value_Test.f k op a0 a1 a2 b0 b1 b2 = _
    unfold value_Test.f tstP
    rw [if_neg h, if_neg (fun x => h x.1)]
theorem vR_kind {k n : Int} {s : ByteArray} (h : vR k n s = true) : 0 ≤ k ∧ k ≤ 3 := by
  unfold vR at h
  by_cases h0 : k = 0
  · omega
  · by_cases h1 : k = 1
    · omega
    · by_cases h2 : k = 2
      · omega
      · by_cases h3 : k = 3
        · omega
        · simp [h0, h1, h2, h3] at h
theorem refTest_ev (op : Int) (a0 a1 : Int) (a2 : ByteArray) (b0 b1 : Int) (b2 : ByteArray) : Ev (fun k => weathercockref01_Test.f k op a0 a1 a2 b0 b1 b2) (tstP op ⟨a0, a1, a2⟩ ⟨b0, b1, b2⟩) := by
  refine ⟨2, fun k hk => ?_⟩
  obtain ⟨k, rfl⟩ : ∃ m, k = m + 2 := ⟨k - 2, by omega⟩
  show weathercockref01_Test.f (k + 2) op a0 a1 a2 b0 b1 b2 = _
  have bad : weathercockref01_Test.j0 (k + 2) op true a0 a1 a2 b0 b1 b2 = some (0, 0, ⟨#[]⟩, 1) := by simp [weathercockref01_Test.j0]
  have good : 9 ≤ op → op ≤ 14 → weathercockref01_Test.j0 (k + 2) op false a0 a1 a2 b0 b1 b2 = some (if a0 = 0 ∨ b0 = 0 then (0, 0, ⟨#[]⟩, 0) else (2, bi (testB op (cV a0 a1 a2 b0 b1 b2)), ⟨#[]⟩, 0)) := by
    intro h9 h14
    simp only [weathercockref01_Test.j0, weathercockref01_Test.j1, refCompare_eq, refTruth_eq, Option.bind_some]
    generalize cV a0 a1 a2 b0 b1 b2 = c
    by_cases z : a0 = 0
    · simp [z]
    · by_cases y : b0 = 0
      · simp [y]
      · have g : op = 9 ∨ op = 10 ∨ op = 11 ∨ op = 12 ∨ op = 13 ∨ op = 14 := by omega
        rcases g with rfl | rfl | rfl | rfl | rfl | rfl <;> simp [z, y, testB]
  unfold weathercockref01_Test.f
  rw [refright_eq, Option.bind_some, refright_eq, Option.bind_some, bad]
  by_cases c1 : op < 9
  · rw [if_pos c1]
    unfold tstP
    rw [if_neg (by omega)]
  · rw [if_neg c1]
    by_cases c2 : op > 14
    · rw [if_pos c2]
      unfold tstP
      rw [if_neg (by omega)]
    · rw [if_neg c2]
      have g := good (by omega) (by omega)
      have hop : 9 ≤ op ∧ op ≤ 14 := by omega
      unfold tstP
      dsimp only
      by_cases r1 : vR a0 a1 a2 = true
      · by_cases r2 : vR b0 b1 b2 = true
        · have k1 := vR_kind r1
          have k2 := vR_kind r2
          have key : (vF (mx a0 b0) ⟨a0, a1, a2⟩ && vF (mx a0 b0) ⟨b0, b1, b2⟩) = decide (a0 = 0 ∨ b0 = 0 ∨ a0 = b0) := by
            unfold vF
            dsimp only
            rw [r1, r2, mx_def, Bool.eq_iff_iff]
            simp only [Bool.true_and, Bool.and_eq_true, Bool.or_eq_true, beq_iff_eq, decide_eq_true_eq]
            split <;> omega
          rw [key, if_pos r1, if_pos r2]
          by_cases z : a0 = 0
          · rw [if_pos z, g, if_pos (c := _ ∧ _) ⟨hop, decide_eq_true (.inl z)⟩]
          · rw [if_neg z]
            by_cases y : b0 = 0
            · rw [if_pos y, g, if_pos (c := _ ∧ _) ⟨hop, decide_eq_true (.inr (.inl y))⟩]
            · rw [if_neg y]
              by_cases x : a0 = b0
              · rw [show (a0 != b0) = false by simpa using x, g, if_pos (c := _ ∧ _) ⟨hop, decide_eq_true (.inr (.inr x))⟩]
              · rw [show (a0 != b0) = true by simpa using x, bad, if_neg (c := _ ∧ _) (fun t => by have := of_decide_eq_true t.2; omega)]
        · rw [if_pos r1, if_neg r2, if_neg (c := _ ∧ _) (fun t => by have h := t.2; simp [vF] at h; exact r2 h.2.1)]
      · rw [if_neg r1, if_neg (c := _ ∧ _) (fun t => by have h := t.2; simp [vF] at h; exact r1 h.1.1)]
theorem right_k (k n : Int) (s : ByteArray) : value_Right.f k n s = weathercockref01_Right.f k n s := by rw [right_eq, refright_eq]
theorem ValueTells : weathercocklaw01_ValueTells.Pure := by
  intro op a0 a1 a2 b0 b1 b2 _ _ _ _ _ _ _
  obtain ⟨K0, g0⟩ := examples_ev
  obtain ⟨K1, g1⟩ := tst_ev op a0 a1 a2 b0 b1 b2
  obtain ⟨K2, g2⟩ := refTest_ev op a0 a1 a2 b0 b1 b2
  obtain ⟨K3, g3⟩ := and_ev a0 a1 a2 b0 b1 b2
  obtain ⟨K4, g4⟩ := refAnd_ev a0 a1 a2 b0 b1 b2
  obtain ⟨K5, g5⟩ := or_ev a0 a1 a2 b0 b1 b2
  obtain ⟨K6, g6⟩ := refOr_ev a0 a1 a2 b0 b1 b2
  obtain ⟨K7, g7⟩ := not_ev a0 a1 a2
  obtain ⟨K8, g8⟩ := compare_ev a0 a1 a2 b0 b1 b2
  refine ⟨K0 + K1 + K2 + K3 + K4 + K5 + K6 + K7 + K8 + 3, ?_⟩
  generalize hk : K0 + K1 + K2 + K3 + K4 + K5 + K6 + K7 + K8 = k
  unfold weathercocklaw01_ValueTells.f
  rw [show weathercocklaw01_examples.f (k + 3) = some _ from g0 _ (by omega), Option.bind_some, show value_Test.f (k + 3) op a0 a1 a2 b0 b1 b2 = some _ from g1 _ (by omega), Option.bind_some,
    show weathercockref01_Test.f (k + 3) op a0 a1 a2 b0 b1 b2 = some _ from g2 _ (by omega), Option.bind_some, if_neg (same_none _), ne_self]
  simp only [weathercocklaw01_ValueTells.j0]
  rw [if_neg (by decide), show value_And.f (k + 2) a0 a1 a2 b0 b1 b2 = some _ from g3 _ (by omega), Option.bind_some, show weathercockref01_And.f (k + 2) a0 a1 a2 b0 b1 b2 = some _ from g4 _ (by omega), Option.bind_some, if_neg (same_none _), ne_self]
  simp only [weathercocklaw01_ValueTells.j1]
  rw [if_neg (by decide), show value_Or.f (k + 1) a0 a1 a2 b0 b1 b2 = some _ from g5 _ (by omega), Option.bind_some, show weathercockref01_Or.f (k + 1) a0 a1 a2 b0 b1 b2 = some _ from g6 _ (by omega), Option.bind_some, if_neg (same_none _), ne_self]
  simp only [weathercocklaw01_ValueTells.j2]
  rw [if_neg (by decide), show value_Not.f k a0 a1 a2 = some _ from g7 _ (by omega), Option.bind_some, refNot_eq, Option.bind_some]
  rw [right_eq, refright_eq, show value_Compare.f k a0 a1 a2 b0 b1 b2 = some _ from g8 _ (by omega), refCompare_eq]
  simp

end Go.Proofs.Ytihfljdcmncicaa.Pure
