import Derived.Test.YtihfljdcmncicaaQValueOrderx6
import Derived.Lib.Mul64
import Derived.Laws.MathBits
/- ValueOrder: the pure statement of the law ValueOrder, proved: over the functions that the printer wrote for the Go code. No condition beside the statement's own. -/
namespace Go.Proofs.Ytihfljdcmncicaa.Pure
open Go.RowKit Go.Proofs.Ytihfljdcmncicaa.QValueOrder Go.Proofs.YtihfljdcmncicaaW.PrintWords Go.Proofs.YtihfljdcmncicaaW.PrintLast Go.Proofs.YtihfljdcmncicaaW.PrintMore

/- BLOCK base -/
theorem ev_pos {α : Type} {c : Prop} [Decidable c] {A B : Nat → Option α} {r : α} (h : c) (k : Ev A r) : Ev (fun n => if c then A n else B n) r := Ev.congr (fun _ => if_pos h) k
theorem ev_neg {α : Type} {c : Prop} [Decidable c] {A B : Nat → Option α} {r : α} (h : ¬ c) (k : Ev B r) : Ev (fun n => if c then A n else B n) r := Ev.congr (fun _ => if_neg h) k
theorem ev_some {α : Type} (r : α) : Ev (fun _ => some r) r := Ev.now r
theorem ev_eq {α : Type} {A : Nat → Option α} {r : α} (h : ∀ k, A k = some r) : Ev A r := ⟨0, fun k _ => h k⟩
theorem w64 {n : Int} (h0 : -9223372036854775808 ≤ n) (h1 : n ≤ 9223372036854775807) : wrap64 n = n := by unfold wrap64; omega
theorem u64w {n : Int} (h0 : 0 ≤ n) (h1 : n < 18446744073709551616) : IntKind.u64.wrap n = n := by
  have : IntKind.u64.wrap n = n % 18446744073709551616 := by simp [IntKind.wrap, IntKind.bits, IntKind.signed]
  rw [this]; omega
theorem u64m (n : Int) : IntKind.u64.wrap n = n % 18446744073709551616 := by simp [IntKind.wrap, IntKind.bits, IntKind.signed]
theorem i64_bd {n : Int} (h : (Lit.int .i64 n).wf = true) : -9223372036854775808 ≤ n ∧ n ≤ 9223372036854775807 := by
  simp [Lit.wf, IntKind.min, IntKind.max, IntKind.bits, IntKind.signed] at h; omega
theorem mn_def (a b : Int) : mn a b = if b < a then b else a := rfl
theorem mx_def (a b : Int) : mx a b = if a < b then b else a := rfl
theorem rd_get (l : List Int) (i : Int) (h : i.toNat < l.length) : rd l i = l[i.toNat] := by
  unfold rd; rw [List.getD_eq_getElem?_getD, List.getElem?_eq_getElem h]; rfl

/- BLOCK valcmp: value.Compare as printed is an order -/
theorem bl_irrefl : ∀ x : List UInt8, Op.bytesLess x x = false
  | [] => rfl
  | a :: x => by simp [Op.bytesLess, bl_irrefl x]
theorem bl_trans : ∀ x y z : List UInt8, Op.bytesLess x y = true → Op.bytesLess y z = true → Op.bytesLess x z = true
  | x, [], z, h, _ => by cases x <;> simp [Op.bytesLess] at h
  | x, _ :: _, [], _, h => by simp [Op.bytesLess] at h
  | [], _ :: _, _ :: _, _, _ => rfl
  | a :: x, b :: y, c :: z, h1, h2 => by
    simp only [Op.bytesLess, Bool.or_eq_true, decide_eq_true_eq, Bool.and_eq_true, beq_iff_eq] at h1 h2 ⊢
    rcases h1 with h1 | ⟨rfl, h1⟩
    · rcases h2 with h2 | ⟨rfl, h2⟩
      · exact .inl (UInt8.lt_trans h1 h2)
      · exact .inl h1
    · rcases h2 with h2 | ⟨rfl, h2⟩
      · exact .inl h2
      · exact .inr ⟨rfl, bl_trans x y z h1 h2⟩
theorem bl_total : ∀ x y : List UInt8, Op.bytesLess x y = true ∨ x = y ∨ Op.bytesLess y x = true
  | [], [] => .inr (.inl rfl)
  | [], _ :: _ => .inl rfl
  | _ :: _, [] => .inr (.inr rfl)
  | a :: x, b :: y => by
    simp only [Op.bytesLess, Bool.or_eq_true, decide_eq_true_eq, Bool.and_eq_true, beq_iff_eq]
    rcases UInt8.lt_or_lt_of_ne (a := a) (b := b) |> fun f => (Decidable.em (a = b)).imp id f with rfl | h | h
    · rcases bl_total x y with h | rfl | h
      · exact .inl (.inr ⟨rfl, h⟩)
      · exact .inr (.inl rfl)
      · exact .inr (.inr (.inr ⟨rfl, h⟩))
    · exact .inl (.inl h)
    · exact .inr (.inr (.inl h))
structure Ord3 {α : Type} (c : α → α → Int) : Prop where
  rng : ∀ a b, -1 ≤ c a b ∧ c a b ≤ 1
  anti : ∀ a b, c a b = -c b a
  eq0 : ∀ a b, c a b = 0 ↔ a = b
  trans : ∀ a b d, c a b ≤ 0 → c b d ≤ 0 → c a d ≤ 0
theorem Ord3.strict {α : Type} {c : α → α → Int} (o : Ord3 c) {a b d : α} (h1 : c a b < 0) (h2 : c b d ≤ 0) : c a d < 0 := by
  have h3 := o.trans a b d (by omega) h2
  by_cases h : c a d = 0
  · have := (o.eq0 a d).1 h
    subst this
    have := o.anti a b
    omega
  · omega
theorem Ord3.strict' {α : Type} {c : α → α → Int} (o : Ord3 c) {a b d : α} (h1 : c a b ≤ 0) (h2 : c b d < 0) : c a d < 0 := by
  have h3 := o.trans a b d h1 (by omega)
  by_cases h : c a d = 0
  · have := (o.eq0 a d).1 h
    subst this
    have := o.anti a b
    omega
  · omega
def lexC {α β : Type} (c : α → α → Int) (d : β → β → Int) (x y : α × β) : Int := if c x.1 y.1 ≠ 0 then c x.1 y.1 else d x.2 y.2
theorem Ord3.lex {α β : Type} {c : α → α → Int} {d : β → β → Int} (o : Ord3 c) (p : Ord3 d) : Ord3 (lexC c d) where
  rng a b := by unfold lexC; split; exact o.rng _ _; exact p.rng _ _
  anti a b := by
    have h := o.anti a.1 b.1
    have h' := p.anti a.2 b.2
    unfold lexC
    by_cases e : c a.1 b.1 = 0
    · rw [if_neg (by omega), if_neg (by omega)]; exact h'
    · rw [if_pos e, if_pos (by omega)]; exact h
  eq0 a b := by
    unfold lexC
    by_cases e : c a.1 b.1 = 0
    · rw [if_neg (by omega), p.eq0]
      have := (o.eq0 _ _).1 e
      exact ⟨fun h => Prod.ext this h, fun h => congrArg Prod.snd h⟩
    · rw [if_pos e]
      exact ⟨fun h => absurd h e, fun h => absurd ((o.eq0 _ _).2 (congrArg Prod.fst h)) e⟩
  trans a b f := by
    unfold lexC
    intro h1 h2
    by_cases e1 : c a.1 b.1 = 0
    · rw [if_neg (by omega)] at h1
      have q1 := (o.eq0 _ _).1 e1
      rw [q1]
      by_cases e2 : c b.1 f.1 = 0
      · rw [if_neg (by omega)] at h2 ⊢
        exact p.trans _ _ _ h1 h2
      · rw [if_pos e2] at h2 ⊢; exact h2
    · rw [if_pos e1] at h1
      have h1' : c a.1 b.1 < 0 := by omega
      have h2' : c b.1 f.1 ≤ 0 := by
        by_cases e2 : c b.1 f.1 = 0
        · omega
        · rw [if_pos e2] at h2; exact h2
      have := o.strict h1' h2'
      rw [if_pos (by omega)]; omega
def cI (x y : Int) : Int := if x < y then -1 else if y < x then 1 else 0
theorem ordI : Ord3 cI where
  rng a b := by unfold cI; (repeat' split) <;> omega
  anti a b := by unfold cI; (repeat' split) <;> omega
  eq0 a b := by unfold cI; constructor <;> intro h <;> (repeat' split at h) <;> (try split) <;> omega
  trans a b d := by unfold cI; (repeat' split) <;> omega
def cS (x y : List UInt8) : Int := if Op.bytesLess x y = true then -1 else if x = y then 0 else 1
theorem cS_anti (a b : List UInt8) : cS a b = -cS b a := by
  unfold cS
  rcases bl_total a b with h | rfl | h
  · have h2 : ¬ Op.bytesLess b a = true := fun h' => by have := bl_trans _ _ _ h h'; rw [bl_irrefl] at this; cases this
    have h3 : ¬ b = a := fun e => by subst e; rw [bl_irrefl] at h; cases h
    rw [if_pos h, if_neg h2, if_neg h3]
  · rw [if_neg (by rw [bl_irrefl]; decide), if_pos rfl]; rfl
  · have h2 : ¬ Op.bytesLess a b = true := fun h' => by have := bl_trans _ _ _ h h'; rw [bl_irrefl] at this; cases this
    have h3 : ¬ a = b := fun e => by subst e; rw [bl_irrefl] at h; cases h
    rw [if_pos h, if_neg h2, if_neg h3]; rfl
theorem ordS : Ord3 cS where
  rng a b := by unfold cS; (repeat' split) <;> omega
  anti := cS_anti
  eq0 a b := by
    unfold cS
    by_cases h : Op.bytesLess a b = true
    · rw [if_pos h]
      exact ⟨fun h' => (by omega), fun e => (by subst e; rw [bl_irrefl] at h; cases h)⟩
    · rw [if_neg h]
      by_cases e : a = b
      · rw [if_pos e]; exact ⟨fun _ => e, fun _ => rfl⟩
      · rw [if_neg e]; exact ⟨fun h' => (by omega), fun h' => absurd h' e⟩
  trans a b d h1 h2 := by
    have key : ∀ x y : List UInt8, cS x y ≤ 0 → Op.bytesLess x y = true ∨ x = y := by
      intro x y h
      unfold cS at h
      by_cases h' : Op.bytesLess x y = true
      · exact .inl h'
      · rw [if_neg h'] at h
        by_cases e : x = y
        · exact .inr e
        · rw [if_neg e] at h; omega
    rcases key _ _ h1 with h1 | rfl
    · rcases key _ _ h2 with h2 | rfl
      · unfold cS; rw [if_pos (bl_trans _ _ _ h1 h2)]; omega
      · unfold cS; rw [if_pos h1]; omega
    · exact h2
def cV (a0 a1 : Int) (a2 : ByteArray) (b0 b1 : Int) (b2 : ByteArray) : Int := lexC cI (lexC cI cS) (a0, a1, a2.toList) (b0, b1, b2.toList)
theorem ordV : Ord3 (lexC cI (lexC cI cS)) := ordI.lex (ordI.lex ordS)
theorem cmp_int_eq (a b : Int) : cmp_Compare_int.f a b = some (cI a b) := by
  have n : ∀ x : Int, cmp_isNaN_int.f x = some false := fun x => by simp [cmp_isNaN_int.f]
  unfold cmp_Compare_int.f cI
  rw [n, n]
  simp only [Option.bind_some, if_false, Bool.false_eq_true]
  by_cases h : a < b
  · rw [if_pos h, if_pos h]
  · rw [if_neg h, if_neg h]
    by_cases h2 : a > b
    · rw [if_pos h2, if_pos (by omega)]
    · rw [if_neg h2, if_neg (by omega)]
theorem cmp_str_eq (a b : ByteArray) : cmp_Compare_string.f a b = some (cS a.toList b.toList) := rfl
theorem first3_eq (k : Nat) (a b c : Int) : value_first_int.f (k + 4) [a, b, c] = some (if a ≠ 0 then a else if b ≠ 0 then b else c) := by
  have w1 : wrap64 (0 + 1) = 1 := w64 (by omega) (by omega)
  have w2 : wrap64 (1 + 1) = 2 := w64 (by omega) (by omega)
  have w3 : wrap64 (2 + 1) = 3 := w64 (by omega) (by omega)
  have r0 : rd [a, b, c] 0 = a := rfl
  have r1 : rd [a, b, c] 1 = b := rfl
  have r2 : rd [a, b, c] 2 = c := rfl
  unfold value_first_int.f
  simp only [value_first_int.l0, List.length_cons, List.length_nil, w1, w2, w3, r0, r1, r2]
  by_cases ha : a = 0
  · subst ha
    by_cases hb : b = 0
    · subst hb
      by_cases hc : c = 0
      · subst hc; simp
      · simp [hc]
    · simp [hb]
  · simp [ha]
theorem compare_ev (a0 a1 : Int) (a2 : ByteArray) (b0 b1 : Int) (b2 : ByteArray) : Ev (fun k => value_Compare.f k a0 a1 a2 b0 b1 b2) (cV a0 a1 a2 b0 b1 b2) := by
  refine ⟨4, fun k hk => ?_⟩
  obtain ⟨k, rfl⟩ : ∃ m, k = m + 4 := ⟨k - 4, by omega⟩
  show value_Compare.f (k + 4) a0 a1 a2 b0 b1 b2 = _
  unfold value_Compare.f
  rw [cmp_int_eq, Option.bind_some, cmp_int_eq, Option.bind_some, cmp_str_eq, Option.bind_some, first3_eq, Option.bind_some]
  rfl

/- BLOCK the law ValueOrder -/
theorem examples_ev : Ev (fun k => weathercocklaw01_examples.f k) true := Ev.of weathercocklaw01_examples.mono (k := 40) (by decide +kernel)
theorem ValueOrder : weathercocklaw01_ValueOrder.Pure := by
  intro a0 a1 a2 b0 b1 b2 c0 c1 c2 _ _ _ _ _ _ _ _ _
  have o := ordV
  obtain ⟨K0, h0⟩ := examples_ev
  obtain ⟨K1, h1⟩ := compare_ev a0 a1 a2 b0 b1 b2
  obtain ⟨K2, h2⟩ := compare_ev b0 b1 b2 c0 c1 c2
  obtain ⟨K3, h3⟩ := compare_ev a0 a1 a2 c0 c1 c2
  obtain ⟨K4, h4⟩ := compare_ev b0 b1 b2 a0 a1 a2
  refine ⟨K0 + K1 + K2 + K3 + K4, ?_⟩
  generalize hk : K0 + K1 + K2 + K3 + K4 = k
  unfold weathercocklaw01_ValueOrder.f
  rw [show weathercocklaw01_examples.f k = some _ from h0 k (by omega), Option.bind_some, show value_Compare.f k a0 a1 a2 b0 b1 b2 = some _ from h1 k (by omega), Option.bind_some,
    show value_Compare.f k b0 b1 b2 c0 c1 c2 = some _ from h2 k (by omega), Option.bind_some, show value_Compare.f k a0 a1 a2 c0 c1 c2 = some _ from h3 k (by omega), Option.bind_some, if_pos rfl,
    show value_Compare.f k b0 b1 b2 a0 a1 a2 = some _ from h4 k (by omega), Option.bind_some]
  have r1 : -1 ≤ cV a0 a1 a2 b0 b1 b2 ∧ cV a0 a1 a2 b0 b1 b2 ≤ 1 := o.rng _ _
  have r4 : -1 ≤ cV b0 b1 b2 a0 a1 a2 ∧ cV b0 b1 b2 a0 a1 a2 ≤ 1 := o.rng _ _
  have an : cV a0 a1 a2 b0 b1 b2 = -cV b0 b1 b2 a0 a1 a2 := o.anti _ _
  have eq : cV a0 a1 a2 b0 b1 b2 = 0 ↔ (a0, a1, a2.toList) = (b0, b1, b2.toList) := o.eq0 _ _
  have tr : cV a0 a1 a2 b0 b1 b2 ≤ 0 → cV b0 b1 b2 c0 c1 c2 ≤ 0 → cV a0 a1 a2 c0 c1 c2 ≤ 0 := o.trans _ _ _
  have st : cV a0 a1 a2 b0 b1 b2 < 0 → cV b0 b1 b2 c0 c1 c2 ≤ 0 → cV a0 a1 a2 c0 c1 c2 < 0 := o.strict
  generalize cV a0 a1 a2 b0 b1 b2 = x at *
  generalize cV b0 b1 b2 c0 c1 c2 = y at *
  generalize cV a0 a1 a2 c0 c1 c2 = z at *
  generalize cV b0 b1 b2 a0 a1 a2 = u at *
  rw [w64 (n := -u) (by omega) (by omega), if_pos an]
  have hb : ((x == 0) == (a0 == b0 && (a1 == b1 && (a2.toList == b2.toList)))) = true := by
    rw [beq_iff_eq, Bool.eq_iff_iff, beq_iff_eq, eq]
    simp [Prod.mk.injEq]
  rw [if_pos hb]
  have e1 : decide (x ≤ 1) = true := decide_eq_true r1.2
  have e2 : x ≥ -1 := r1.1
  simp only [e1, if_pos e2]
  by_cases c1 : x > 0
  · rw [if_pos c1, if_pos (by omega)]
  · rw [if_neg c1]
    by_cases c2 : y > 0
    · rw [if_pos c2]; split <;> rfl
    · rw [if_neg c2, if_pos (tr (by omega) (by omega))]
      by_cases c3 : x ≥ 0
      · rw [if_pos c3]
      · rw [if_neg c3, if_pos (st (by omega) (by omega))]

end Go.Proofs.Ytihfljdcmncicaa.Pure
