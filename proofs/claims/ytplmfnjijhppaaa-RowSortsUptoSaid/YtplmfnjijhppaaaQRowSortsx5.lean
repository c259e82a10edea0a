-- Written by wip/tools/myprint.py of this project (the kit's printer with lines replaced in memory, and texts of ours)
import Derived.Test.YtplmfnjijhppaaaQRowSortsx0
import Derived.Test.YtplmfnjijhppaaaQRowSortsx2
import Derived.Test.YtplmfnjijhppaaaQRowSortsx3
import Derived.Test.YtplmfnjijhppaaaQRowSortsx4
namespace Go.Proofs.Ytplmfnjijhppaaa.QRowSorts
open Go.RowKit Go.Proofs.YtplmfnjijhppaaaW.PrintWords Go.Proofs.YtplmfnjijhppaaaW.PrintLast Go.Proofs.YtplmfnjijhppaaaW.PrintMore
attribute [local go_sem] max2_int min2_int max_two min_two max_three min_three max_four min_four   -- for this text's walks alone
set_option linter.unusedVariables false
set_option linter.unusedSimpArgs false

/-! ### row_Compare: function 18 -/
/- BLOCK base -/
theorem ev_pos {α : Type} {c : Prop} [Decidable c] {A B : Nat → Option α} {r : α} (h : c) (k : Ev A r) : Ev (fun n => if c then A n else B n) r := Ev.congr (fun _ => if_pos h) k
theorem ev_neg {α : Type} {c : Prop} [Decidable c] {A B : Nat → Option α} {r : α} (h : ¬ c) (k : Ev B r) : Ev (fun n => if c then A n else B n) r := Ev.congr (fun _ => if_neg h) k
theorem ev_some {α : Type} (r : α) : Ev (fun _ => some r) r := Ev.now r
theorem ev_eq {α : Type} {A : Nat → Option α} {r : α} (h : ∀ k, A k = some r) : Ev A r := ⟨0, fun k _ => h k⟩
theorem w64 {n : Int} (h0 : -9223372036854775808 ≤ n) (h1 : n ≤ 9223372036854775807) : wrap64 n = n := by unfold wrap64; omega
theorem u64w {n : Int} (h0 : 0 ≤ n) (h1 : n < 18446744073709551616) : IntKind.u64.wrap n = n := by
  have : IntKind.u64.wrap n = n % 18446744073709551616 := by simp [IntKind.wrap, IntKind.bits, IntKind.signed]
  rw [this]; omega
theorem u64m (n : Int) : IntKind.u64.wrap n = n % 18446744073709551616 := by simp [IntKind.wrap, IntKind.bits, IntKind.signed]
theorem i64_bd {n : Int} (h : (Lit.int .i64 n).wf = true) : -9223372036854775808 ≤ n ∧ n ≤ 9223372036854775807 := by
  simp [Lit.wf, IntKind.min, IntKind.max, IntKind.bits, IntKind.signed] at h; omega
theorem mn_def (a b : Int) : mn a b = if b < a then b else a := rfl
theorem mx_def (a b : Int) : mx a b = if a < b then b else a := rfl
theorem rd_get (l : List Int) (i : Int) (h : i.toNat < l.length) : rd l i = l[i.toNat] := by
  unfold rd; rw [List.getD_eq_getElem?_getD, List.getElem?_eq_getElem h]; rfl
/- BLOCK valcmp: value.Compare as printed is an order -/
theorem bl_irrefl : ∀ x : List UInt8, Op.bytesLess x x = false
  | [] => rfl
  | a :: x => by simp [Op.bytesLess, bl_irrefl x]
theorem bl_trans : ∀ x y z : List UInt8, Op.bytesLess x y = true → Op.bytesLess y z = true → Op.bytesLess x z = true
  | x, [], z, h, _ => by cases x <;> simp [Op.bytesLess] at h
  | x, _ :: _, [], _, h => by simp [Op.bytesLess] at h
  | [], _ :: _, _ :: _, _, _ => rfl
  | a :: x, b :: y, c :: z, h1, h2 => by
    simp only [Op.bytesLess, Bool.or_eq_true, decide_eq_true_eq, Bool.and_eq_true, beq_iff_eq] at h1 h2 ⊢
    rcases h1 with h1 | ⟨rfl, h1⟩
    · rcases h2 with h2 | ⟨rfl, h2⟩
      · exact .inl (UInt8.lt_trans h1 h2)
      · exact .inl h1
    · rcases h2 with h2 | ⟨rfl, h2⟩
      · exact .inl h2
      · exact .inr ⟨rfl, bl_trans x y z h1 h2⟩
theorem bl_total : ∀ x y : List UInt8, Op.bytesLess x y = true ∨ x = y ∨ Op.bytesLess y x = true
  | [], [] => .inr (.inl rfl)
  | [], _ :: _ => .inl rfl
  | _ :: _, [] => .inr (.inr rfl)
  | a :: x, b :: y => by
    simp only [Op.bytesLess, Bool.or_eq_true, decide_eq_true_eq, Bool.and_eq_true, beq_iff_eq]
    rcases UInt8.lt_or_lt_of_ne (a := a) (b := b) |> fun f => (Decidable.em (a = b)).imp id f with rfl | h | h
    · rcases bl_total x y with h | rfl | h
      · exact .inl (.inr ⟨rfl, h⟩)
      · exact .inr (.inl rfl)
      · exact .inr (.inr (.inr ⟨rfl, h⟩))
    · exact .inl (.inl h)
    · exact .inr (.inr (.inl h))
structure Ord3 {α : Type} (c : α → α → Int) : Prop where
  rng : ∀ a b, -1 ≤ c a b ∧ c a b ≤ 1
  anti : ∀ a b, c a b = -c b a
  eq0 : ∀ a b, c a b = 0 ↔ a = b
  trans : ∀ a b d, c a b ≤ 0 → c b d ≤ 0 → c a d ≤ 0
theorem Ord3.strict {α : Type} {c : α → α → Int} (o : Ord3 c) {a b d : α} (h1 : c a b < 0) (h2 : c b d ≤ 0) : c a d < 0 := by
  have h3 := o.trans a b d (by omega) h2
  by_cases h : c a d = 0
  · have := (o.eq0 a d).1 h
    subst this
    have := o.anti a b
    omega
  · omega
theorem Ord3.strict' {α : Type} {c : α → α → Int} (o : Ord3 c) {a b d : α} (h1 : c a b ≤ 0) (h2 : c b d < 0) : c a d < 0 := by
  have h3 := o.trans a b d h1 (by omega)
  by_cases h : c a d = 0
  · have := (o.eq0 a d).1 h
    subst this
    have := o.anti a b
    omega
  · omega
def lexC {α β : Type} (c : α → α → Int) (d : β → β → Int) (x y : α × β) : Int := if c x.1 y.1 ≠ 0 then c x.1 y.1 else d x.2 y.2
theorem Ord3.lex {α β : Type} {c : α → α → Int} {d : β → β → Int} (o : Ord3 c) (p : Ord3 d) : Ord3 (lexC c d) where
  rng a b := by unfold lexC; split; exact o.rng _ _; exact p.rng _ _
  anti a b := by
    have h := o.anti a.1 b.1
    have h' := p.anti a.2 b.2
    unfold lexC
    by_cases e : c a.1 b.1 = 0
    · rw [if_neg (by omega), if_neg (by omega)]; exact h'
    · rw [if_pos e, if_pos (by omega)]; exact h
  eq0 a b := by
    unfold lexC
    by_cases e : c a.1 b.1 = 0
    · rw [if_neg (by omega), p.eq0]
      have := (o.eq0 _ _).1 e
      exact ⟨fun h => Prod.ext this h, fun h => congrArg Prod.snd h⟩
    · rw [if_pos e]
      exact ⟨fun h => absurd h e, fun h => absurd ((o.eq0 _ _).2 (congrArg Prod.fst h)) e⟩
  trans a b f := by
    unfold lexC
    intro h1 h2
    by_cases e1 : c a.1 b.1 = 0
    · rw [if_neg (by omega)] at h1
      have q1 := (o.eq0 _ _).1 e1
      rw [q1]
      by_cases e2 : c b.1 f.1 = 0
      · rw [if_neg (by omega)] at h2 ⊢
        exact p.trans _ _ _ h1 h2
      · rw [if_pos e2] at h2 ⊢; exact h2
    · rw [if_pos e1] at h1
      have h1' : c a.1 b.1 < 0 := by omega
      have h2' : c b.1 f.1 ≤ 0 := by
        by_cases e2 : c b.1 f.1 = 0
        · omega
        · rw [if_pos e2] at h2; exact h2
      have := o.strict h1' h2'
      rw [if_pos (by omega)]; omega
def cI (x y : Int) : Int := if x < y then -1 else if y < x then 1 else 0
theorem ordI : Ord3 cI where
  rng a b := by unfold cI; (repeat' split) <;> omega
  anti a b := by unfold cI; (repeat' split) <;> omega
  eq0 a b := by unfold cI; constructor <;> intro h <;> (repeat' split at h) <;> (try split) <;> omega
  trans a b d := by unfold cI; (repeat' split) <;> omega
def cS (x y : List UInt8) : Int := if Op.bytesLess x y = true then -1 else if x = y then 0 else 1
theorem cS_anti (a b : List UInt8) : cS a b = -cS b a := by
  unfold cS
  rcases bl_total a b with h | rfl | h
  · have h2 : ¬ Op.bytesLess b a = true := fun h' => by have := bl_trans _ _ _ h h'; rw [bl_irrefl] at this; cases this
    have h3 : ¬ b = a := fun e => by subst e; rw [bl_irrefl] at h; cases h
    rw [if_pos h, if_neg h2, if_neg h3]
  · rw [if_neg (by rw [bl_irrefl]; decide), if_pos rfl]; rfl
  · have h2 : ¬ Op.bytesLess a b = true := fun h' => by have := bl_trans _ _ _ h h'; rw [bl_irrefl] at this; cases this
    have h3 : ¬ a = b := fun e => by subst e; rw [bl_irrefl] at h; cases h
    rw [if_pos h, if_neg h2, if_neg h3]; rfl
theorem ordS : Ord3 cS where
  rng a b := by unfold cS; (repeat' split) <;> omega
  anti := cS_anti
  eq0 a b := by
    unfold cS
    by_cases h : Op.bytesLess a b = true
    · rw [if_pos h]
      exact ⟨fun h' => (by omega), fun e => (by subst e; rw [bl_irrefl] at h; cases h)⟩
    · rw [if_neg h]
      by_cases e : a = b
      · rw [if_pos e]; exact ⟨fun _ => e, fun _ => rfl⟩
      · rw [if_neg e]; exact ⟨fun h' => (by omega), fun h' => absurd h' e⟩
  trans a b d h1 h2 := by
    have key : ∀ x y : List UInt8, cS x y ≤ 0 → Op.bytesLess x y = true ∨ x = y := by
      intro x y h
      unfold cS at h
      by_cases h' : Op.bytesLess x y = true
      · exact .inl h'
      · rw [if_neg h'] at h
        by_cases e : x = y
        · exact .inr e
        · rw [if_neg e] at h; omega
    rcases key _ _ h1 with h1 | rfl
    · rcases key _ _ h2 with h2 | rfl
      · unfold cS; rw [if_pos (bl_trans _ _ _ h1 h2)]; omega
      · unfold cS; rw [if_pos h1]; omega
    · exact h2
def cV (a0 a1 : Int) (a2 : ByteArray) (b0 b1 : Int) (b2 : ByteArray) : Int := lexC cI (lexC cI cS) (a0, a1, a2.toList) (b0, b1, b2.toList)
theorem ordV : Ord3 (lexC cI (lexC cI cS)) := ordI.lex (ordI.lex ordS)
theorem cmp_int_eq (a b : Int) : cmp_Compare_int.f a b = some (cI a b) := by
  have n : ∀ x : Int, cmp_isNaN_int.f x = some false := fun x => by simp [cmp_isNaN_int.f]
  unfold cmp_Compare_int.f cI
  rw [n, n]
  simp only [Option.bind_some, if_false, Bool.false_eq_true]
  by_cases h : a < b
  · rw [if_pos h, if_pos h]
  · rw [if_neg h, if_neg h]
    by_cases h2 : a > b
    · rw [if_pos h2, if_pos (by omega)]
    · rw [if_neg h2, if_neg (by omega)]
theorem cmp_str_eq (a b : ByteArray) : cmp_Compare_string.f a b = some (cS a.toList b.toList) := rfl
theorem first3_eq (k : Nat) (a b c : Int) : value_first_int.f (k + 4) [a, b, c] = some (if a ≠ 0 then a else if b ≠ 0 then b else c) := by
  have w1 : wrap64 (0 + 1) = 1 := w64 (by omega) (by omega)
  have w2 : wrap64 (1 + 1) = 2 := w64 (by omega) (by omega)
  have w3 : wrap64 (2 + 1) = 3 := w64 (by omega) (by omega)
  have r0 : rd [a, b, c] 0 = a := rfl
  have r1 : rd [a, b, c] 1 = b := rfl
  have r2 : rd [a, b, c] 2 = c := rfl
  unfold value_first_int.f
  simp only [value_first_int.l0, List.length_cons, List.length_nil, w1, w2, w3, r0, r1, r2]
  by_cases ha : a = 0
  · subst ha
    by_cases hb : b = 0
    · subst hb
      by_cases hc : c = 0
      · subst hc; simp
      · simp [hc]
    · simp [hb]
  · simp [ha]
theorem compare_ev (a0 a1 : Int) (a2 : ByteArray) (b0 b1 : Int) (b2 : ByteArray) : Ev (fun k => value_Compare.f k a0 a1 a2 b0 b1 b2) (cV a0 a1 a2 b0 b1 b2) := by
  refine ⟨4, fun k hk => ?_⟩
  obtain ⟨k, rfl⟩ : ∃ m, k = m + 4 := ⟨k - 4, by omega⟩
  show value_Compare.f (k + 4) a0 a1 a2 b0 b1 b2 = _
  unfold value_Compare.f
  rw [cmp_int_eq, Option.bind_some, cmp_int_eq, Option.bind_some, cmp_str_eq, Option.bind_some, first3_eq, Option.bind_some]
  rfl
theorem value_Compare.pure (a0 a1 : Int) (a2 : ByteArray) (b0 b1 : Int) (b2 : ByteArray) (w : World) :
    Calls Try.prog 31 #[.agg #[.int .i64 a0, .int .i64 a1, .string a2], .agg #[.int .i64 b0, .int .i64 b1, .string b2]] w fun e w' => e = .returned (.int .i64 (cV a0 a1 a2 b0 b1 b2)) ∧ Below w.heap.size w w' := by
  obtain ⟨k, h⟩ := (compare_ev a0 a1 a2 b0 b1 b2).rounds
  exact value_Compare.calls k a0 a1 a2 b0 b1 b2 _ w h
def cmpR : List (S36) → List (S36) → Int
  | [], [] => 0
  | [], _ :: _ => -1
  | _ :: _, [] => 1
  | x :: a, y :: b => if cV x.f0 x.f1 x.f2 y.f0 y.f1 y.f2 = 0 then cmpR a b else cV x.f0 x.f1 x.f2 y.f0 y.f1 y.f2
def row_Compare.f (l0 : List (S36)) (l1 : List (S36)) : Option Int := some (cmpR l0 l1)
theorem cmpR_drop (a b : List (S36)) (k : Nat) (ha : k < a.length) (hb : k < b.length) : cmpR (a.drop k) (b.drop k) = if cV a[k].f0 a[k].f1 a[k].f2 b[k].f0 b[k].f1 b[k].f2 = 0 then cmpR (a.drop (k + 1)) (b.drop (k + 1)) else cV a[k].f0 a[k].f1 a[k].f2 b[k].f0 b[k].f1 b[k].f2 := by
  rw [List.drop_eq_getElem_cons ha, List.drop_eq_getElem_cons hb]
  rfl
theorem cmpR_long (a b : List (S36)) (k : Nat) (ha : k < a.length) (hb : b.length ≤ k) : cmpR (a.drop k) (b.drop k) = 1 := by
  rw [List.drop_eq_getElem_cons ha, List.drop_eq_nil_of_le hb]
  rfl
theorem cmpR_end (a b : List (S36)) (k : Nat) (ha : a.length ≤ k) (hk : k ≤ a.length) : cmpR (a.drop k) (b.drop k) = if a.length < b.length then -1 else 0 := by
  rw [List.drop_eq_nil_of_le ha]
  by_cases h : a.length < b.length
  · rw [List.drop_eq_getElem_cons (show k < b.length by omega), if_pos h]
    rfl
  · rw [List.drop_eq_nil_of_le (by omega), if_neg h]
    rfl
set_option maxHeartbeats 4000000 in
theorem compare_func (A0 : Option Addr) (c0 : Nat) (l0 : List (S36)) (A1 : Option Addr) (c1 : Nat) (l1 : List (S36)) (w : World) (hr0 : Kd.C k36 w A0 l0.length l0) (hr1 : Kd.C k36 w A1 l1.length l1) (hlen : l0.length ≤ 9223372036854775807) (hlen1 : l1.length ≤ 9223372036854775807) :
    Calls Try.prog 30 #[.slice A0 l0.length c0, .slice A1 l1.length c1, .func (.func 31) #[] #[]] w fun e w' => e = .returned (.int .i64 (cmpR l0 l1)) ∧ Below w.heap.size w w' := by
  have hu := Try.underlying36
  have HR := Aside0.mk hr0
  have HQ := Aside0.mk hr1
  clear hr0 hr1
  go_enter Try.func30, Try.ntmps30
  go_wp2
  go_loopw [13] (fun i wr => ∃ k : Nat, k ≤ l0.length ∧ k ≤ l1.length ∧ i = .int .i64 k ∧ Aside0 (cmpR l0 l1 = cmpR (l0.drop k) (l1.drop k)) ∧ Aside0 (Below w.heap.size w wr)) (fun i _ => l0.length - (intOf i).toNat)
  case atStart => exact ⟨0, Nat.zero_le _, Nat.zero_le _, rfl, ⟨rfl⟩, ⟨Below.refl _ _⟩⟩
  case round =>
    obtain ⟨k, hk, hk1, rfl, HA, HB⟩ := hrel
    by_cases hlt : k < l0.length
    · obtain ⟨ad, e, hx0, hx1, hx2⟩ := at_T36 HR.out (k : Int) (by omega) (by omega)
      cases e
      replace hx0 := cells_later' HB.out hx0
      replace hx1 := cells_later' HB.out hx1
      replace hx2 := cells_later' HB.out hx2
      have e0 : rd_T36 l0 (k : Int) = l0[k] := by unfold rd_T36; rw [Int.toNat_natCast, List.getD_eq_getElem?_getD, List.getElem?_eq_getElem hlt]; rfl
      rw [e0] at hx0 hx1 hx2
      rw [Int.toNat_natCast] at hx0 hx1 hx2
      clear e0
      by_cases hlt1 : k < l1.length
      · obtain ⟨ad1, e, hy0, hy1, hy2⟩ := at_T36 HQ.out (k : Int) (by omega) (by omega)
        cases e
        replace hy0 := cells_later' HB.out hy0
        replace hy1 := cells_later' HB.out hy1
        replace hy2 := cells_later' HB.out hy2
        have e0 : rd_T36 l1 (k : Int) = l1[k] := by unfold rd_T36; rw [Int.toNat_natCast, List.getD_eq_getElem?_getD, List.getElem?_eq_getElem hlt1]; rfl
        rw [e0] at hy0 hy1 hy2
        rw [Int.toNat_natCast] at hy0 hy1 hy2
        clear e0
        have HD := Aside0.mk (cmpR_drop l0 l1 k hlt hlt1)
        have lb0 := World.block_lt_of_cell? wr _ hx0
        have lb1 := World.block_lt_of_cell? wr _ hy0
        generalize hx : l0[k] = x at *
        generalize hy : l1[k] = y at *
        by_cases hc : cV x.f0 x.f1 x.f2 y.f0 y.f1 y.f2 = 0
        all_goals
          have HC := Aside0.mk hc
          try have hcb : (cV x.f0 x.f1 x.f2 y.f0 y.f1 y.f2 != 0) = true := bne_iff_ne.mpr hc
          clear hc
          go_wp2_with (go_at_call 31; refine (value_Compare.pure x.f0 x.f1 x.f2 y.f0 y.f1 y.f2 _).mono ?_; (try rw [HC.out]); rintro e w1 ⟨rfl, hb⟩; have HB1 : Aside0 (Below w.heap.size w w1) := Aside0.mk (below_step (by repeat (first | exact HB.out | apply below_alloc | (refine below_set ?_ (by have := HB.out.size; simp; omega)))) hb); clear hb HB)
        · go_roundw
          case rel => exact ⟨k + 1, by omega, by omega, by go_num, ⟨by rw [HA.out, HD.out, if_pos HC.out]⟩, HB1⟩
          case measure => simp [intOf]; omega
        · go_ret
          exact ⟨by rw [HA.out, HD.out, if_neg HC.out]; rfl, HB1.out⟩
      · have HD := Aside0.mk (cmpR_long l0 l1 k hlt (by omega))
        have hge : l1.length ≤ k := by omega
        go_wp2
        go_ret
        exact ⟨by rw [HA.out, HD.out]; rfl, by repeat (first | exact HB.out | apply below_alloc | (refine below_set ?_ (by have := HB.out.size; simp; omega)))⟩
    · have HD := Aside0.mk (cmpR_end l0 l1 k (by omega) hk)
      have hle : l0.length ≤ k := by omega
      by_cases hl : l0.length < l1.length
      · have HL := Aside0.mk hl
        go_wp2
        go_ret
        exact ⟨by rw [HA.out, HD.out, if_pos HL.out]; rfl, HB.out⟩
      · have HL := Aside0.mk hl
        go_wp2
        go_ret
        exact ⟨by rw [HA.out, HD.out, if_neg HL.out]; rfl, HB.out⟩
set_option maxHeartbeats 2000000 in
theorem row_Compare.calls (A0 : Option Addr) (c0 : Nat) (l0 : List (S36)) (A1 : Option Addr) (c1 : Nat) (l1 : List (S36)) (r : Int) (w : World) (hr0 : Kd.C k36 w A0 l0.length l0) (hc0 : l0.length ≤ c0) (hr1 : Kd.C k36 w A1 l1.length l1) (hc1 : l1.length ≤ c1) (h : row_Compare.f l0 l1 = some r) :
    Calls Try.prog 18 #[.slice A0 l0.length c0, .slice A1 l1.length c1] w fun e w' => e = .returned (.int .i64 r) ∧ Below w.heap.size w w' := by
  obtain rfl := Option.some.inj h
  clear h
  have HR := Aside0.mk hr0
  have HL := Aside0.mk hr0.2.1
  have HQ := Aside0.mk hr1
  have HM := Aside0.mk hr1.2.1
  clear hr0 hr1
  go_enter Try.func18, Try.ntmps18
  go_wp2_with (go_at_call 30; refine (compare_func A0 c0 l0 A1 c1 l1 _ HR.out HQ.out HL.out HM.out).mono ?_; rintro e w1 ⟨rfl, hb⟩; have HB := Aside0.mk hb; clear hb)
  go_ret
  exact ⟨rfl, HB.out⟩

/-! ### row_Hash: function 19 -/
def hashN (h n : Int) : Int := IntKind.u64.wrap (Go.bits .xor .u64 h n * 1099511628211)
def hashB (h b : Int) : Int := hashN h (IntKind.u64.wrap b)
def hashV (h : Int) (v : S36) : Int := (bytesOf v.f2).foldl hashB (hashN (hashN (hashN h (IntKind.u64.wrap v.f0)) (IntKind.u64.wrap v.f1)) (IntKind.u64.wrap (v.f2.size : Int)))
def hashR (l : List (S36)) : Int := l.foldl hashV 14695981039346656037
def hashOk (l : List (S36)) : Bool := l.all fun v => decide (v.f2.size ≤ 4611686018427387904)
def row_Hash.f (l0 : List (S36)) : Option Int := if hashOk l0 = true then some (hashR l0) else none
theorem u64s {n : Int} (h0 : 0 ≤ n) (h1 : n < 18446744073709551616) : IntKind.u64.wrap n = n := by
  have : IntKind.u64.wrap n = n % 18446744073709551616 := by simp [IntKind.wrap, IntKind.bits, IntKind.signed]
  rw [this]; omega
set_option maxHeartbeats 1000000 in
theorem hash_take (w W : World) (g : Nat) (h n : Int) (hw : w.heap.size ≤ g) (hc : W.heap[g]? = some (.cells #[.int .u64 h] 40 (0, 0))) (HB : Below w.heap.size w W) :
    Calls Try.prog 32 #[.int .u64 n, .pointer (some ⟨g, 0, none⟩)] W fun e w' => e = .returned (.tuple #[]) ∧ w'.heap[g]? = some (.cells #[.int .u64 (hashN h n)] 40 (0, 0)) ∧ (∀ j, j ≠ g → w'.heap[j]? = W.heap[j]?) ∧ w'.heap.size = W.heap.size ∧ Below w.heap.size w w' := by
  have c0 : W.cell? ⟨g, 0, none⟩ = some (.int .u64 h) := (blk_cell hc 0).trans rfl
  have f0 := blk_frozen hc 0
  have HC := Aside0.mk hc
  have HB' := Aside0.mk HB
  clear hc HB
  go_enter Try.func32, Try.ntmps32
  go_wp2
  first | go_end0 | (simp only [Exit.inBlock, Exit.then]; refine bodyPost_ret (results_none rfl _ _ _) rfl ?_) | refine bodyPost_ret (results_none rfl _ _ _) rfl ?_
  refine ⟨rfl, ?_, ?_, ?_, ?_⟩
  · exact blk_put HC.out 0 _ rfl
  · exact fun j hj => Below.heap_setCell _ _ _ _ hj
  · simp
  · exact below_set HB'.out hw
set_option maxHeartbeats 4000000 in
theorem row_Hash.calls (A0 : Option Addr) (c0 : Nat) (l0 : List (S36)) (r : Int) (w : World) (hr0 : Kd.C k36 w A0 l0.length l0) (hc0 : l0.length ≤ c0) (h : row_Hash.f l0 = some r) :
    Calls Try.prog 19 #[.slice A0 l0.length c0] w fun e w' => e = .returned (.int .u64 r) ∧ Below w.heap.size w w' := by
  unfold row_Hash.f at h
  by_cases hok : hashOk l0 = true
  rotate_left
  · rw [if_neg hok] at h; cases h
  rw [if_pos hok] at h
  obtain rfl := Option.some.inj h
  clear h
  have HK := Aside0.mk hok
  clear hok
  have hu := Try.underlying36
  have hmf : ∀ (fn : Fn) (first cap : Array Value) (w : World), (Instr.makeFunc fn first cap).run Try.prog w = .ok (.func fn first cap) w := fun _ _ _ _ => rfl
  have HR := Aside0.mk hr0
  have hL := hr0.2.1
  clear hr0
  go_enter Try.func19, Try.ntmps19
  go_wp2
  go_loopw [12] (fun i wr => ∃ k : Nat, k ≤ l0.length ∧ i = .int .i64 k ∧ Aside0 (wr.heap[w.heap.size]? = some (.cells #[.int .u64 ((l0.take k).foldl hashV 14695981039346656037)] 40 (0, 0))) ∧ Aside0 (Below w.heap.size w wr)) (fun i _ => l0.length - (intOf i).toNat)
  case atStart => exact ⟨0, Nat.zero_le _, rfl, ⟨(blk_new w _).trans rfl⟩, ⟨below_alloc (Below.refl _ _) _⟩⟩
  case round =>
    obtain ⟨k, hk, rfl, HG, HB⟩ := hrel
    by_cases hlt : k < l0.length
    · obtain ⟨ad, e, hx0, hx1, hx2⟩ := at_T36 HR.out (k : Int) (by omega) (by omega)
      cases e
      replace hx0 := cells_later' HB.out hx0
      replace hx1 := cells_later' HB.out hx1
      replace hx2 := cells_later' HB.out hx2
      have e0 : rd_T36 l0 (k : Int) = l0[k] := by unfold rd_T36; rw [Int.toNat_natCast, List.getD_eq_getElem?_getD, List.getElem?_eq_getElem hlt]; rfl
      rw [e0] at hx0 hx1 hx2
      rw [Int.toNat_natCast] at hx0 hx1 hx2
      clear e0
      have HT := Aside0.mk (List.take_succ_eq_append_getElem hlt)
      have hsz2 : l0[k].f2.size ≤ 4611686018427387904 := of_decide_eq_true (List.all_eq_true.1 HK.out _ (List.getElem_mem hlt))
      generalize hv : l0[k] = v at *
      have hcv : ∀ W : World, (convert 9 46 (.string v.f2)).run Try.prog W = .ok (.slice (some ⟨W.heap.size, 0, none⟩) v.f2.size (grownCap W v.f2.size 0 5)) (Lib.bytesWorld W 5 v.f2) := fun W => Lib.run_convert_string_bytes W 9 46 5 v.f2 Try.underlying9 Try.underlying46 Try.underlying5
      generalize hH : (l0.take k).foldl hashV 14695981039346656037 = H at *
      have hgl := blk_lt HG.out
      have hn6 : wr.heap.size ≠ w.heap.size := by omega
      have n0_ : Aside0 ((wr.alloc (.cells #[.int .i64 v.f0, .int .i64 v.f1, .string v.f2] 36)).heap[w.heap.size]? = some (.cells #[.int .u64 H] 40 (0, 0))) := ⟨blk_alloc HG.out _⟩
      have HV : Aside0 ((wr.alloc (.cells #[.int .i64 v.f0, .int .i64 v.f1, .string v.f2] 36)).heap[wr.heap.size]? = some (.cells #[.int .i64 v.f0, .int .i64 v.f1, .string v.f2] 36 (0, 0))) := ⟨blk_new wr _⟩
      have n2_ : Aside0 (Below w.heap.size w (wr.alloc (.cells #[.int .i64 v.f0, .int .i64 v.f1, .string v.f2] 36))) := ⟨below_alloc HB.out _⟩
      clear HG HB
      have HG := n0_
      have HB := n2_
      clear n0_ n2_
      generalize hg6 : wr.heap.size = g6 at *
      go_wp2_with (first
        | (go_at_call 32; refine (hash_take w _ w.heap.size _ _ (Nat.le_refl _) HG.out HB.out).mono ?_; rintro e w11 ⟨rfl, hg1, hfar, hsz, hb⟩; have n0_ := Aside0.mk hg1; have n1_ := Aside0.mk ((hfar _ hn6).trans HV.out); have n2_ := Aside0.mk hb; clear HG HV HB hg1 hfar hsz hb; have HG := n0_; have HV := n1_; have HB := n2_; clear n0_ n1_ n2_; have hc_0 : w11.cell? ⟨g6, 0, none⟩ = some (.int .i64 v.f0) := (blk_cell HV.out 0).trans rfl; have hc_1 : w11.cell? ⟨g6, 1, none⟩ = some (.int .i64 v.f1) := (blk_cell HV.out 1).trans rfl; have hc_2 : w11.cell? ⟨g6, 2, none⟩ = some (.string v.f2) := (blk_cell HV.out 2).trans rfl))
      have HVe := Aside0.mk (show hashV H v = (bytesOf v.f2).foldl hashB (hashN (hashN (hashN H (IntKind.u64.wrap v.f0)) (IntKind.u64.wrap v.f1)) (v.f2.size : Int)) from by unfold hashV; rw [u64s (show (0 : Int) ≤ (v.f2.size : Int) by omega) (by omega)])
      have hw11 := blk_lt HG.out
      have BG : Aside0 ((Lib.bytesWorld w11 5 v.f2).heap[w.heap.size]? = _) := ⟨(Lib.bytesWorld_at_old w11 5 v.f2 _ hw11).trans HG.out⟩
      have BC : Aside0 (∀ j (hj : j < v.f2.size), (Lib.bytesWorld w11 5 v.f2).cell? ⟨w11.heap.size, j, none⟩ = some (.int .u8 ((bytesOf v.f2)[j]'(by rw [bytesOf_length]; exact hj)))) := ⟨fun j hj => by rw [Lib.bytesWorld_cell w11 5 v.f2 j hj, bytesOf_get v.f2 j hj]⟩
      have BB := Aside0.mk (below_step HB.out (bw_below w11 5 v.f2))
      clear HG HV HB
      generalize hashN (hashN (hashN H (IntKind.u64.wrap v.f0)) (IntKind.u64.wrap v.f1)) (v.f2.size : Int) = H3 at *
      generalize hB5 : Lib.bytesWorld w11 5 v.f2 = wb at *
      generalize w11.heap.size = gb at *
      go_loopw [36] (fun i w2 => ∃ m : Nat, m ≤ v.f2.size ∧ i = .int .i64 m ∧ Aside0 (w2.heap[w.heap.size]? = some (.cells #[.int .u64 (((bytesOf v.f2).take m).foldl hashB H3)] 40 (0, 0))) ∧ Aside0 (∀ j (hj : j < v.f2.size), w2.cell? ⟨gb, j, none⟩ = some (.int .u8 ((bytesOf v.f2)[j]'(by rw [bytesOf_length]; exact hj)))) ∧ Aside0 (Below w.heap.size w w2)) (fun i _ => v.f2.size - (intOf i).toNat)
      case atStart => exact ⟨0, Nat.zero_le _, rfl, BG, BC, BB⟩
      case round =>
        obtain ⟨m, hm, rfl, G2, C2, B2⟩ := hrel
        by_cases hl2 : m < v.f2.size
        · have hcm := C2.out m hl2
          have hlb : m < (bytesOf v.f2).length := by rw [bytesOf_length]; exact hl2
          have HT2 := Aside0.mk (List.take_succ_eq_append_getElem hlb)
          generalize (bytesOf v.f2)[m] = x at *
          go_wp2_with (go_at_call 32; go_loud (refine (hash_take w _ w.heap.size _ _ (Nat.le_refl _) G2.out B2.out).mono ?_); rintro e w12 ⟨rfl, hg1, hfar, hsz, hb⟩; have n0_ := Aside0.mk hg1; have n1_ := Aside0.mk (fun j (hj : j < v.f2.size) => (hash_far (hfar gb (by omega))).trans (C2.out j hj)); have n2_ := Aside0.mk hb; clear hg1 hfar hsz hb)
          go_roundw
          case rel => exact ⟨m + 1, by omega, by go_num, ⟨by rw [HT2.out, List.foldl_append]; exact n0_.out⟩, n1_, n2_⟩
          case measure => simp [intOf]; omega
        · have hk2 : m = v.f2.size := by omega
          have HE := Aside0.mk (show (bytesOf v.f2).take m = bytesOf v.f2 by rw [hk2, ← bytesOf_length]; exact List.take_length)
          have hle : v.f2.size ≤ m := by omega
          clear hk2
          go_wp2
          go_roundw
          case rel => exact ⟨k + 1, by omega, by go_num, ⟨by rw [HT.out, List.foldl_append, hH]; show _ = some (Obj.cells #[.int .u64 (hashV H v)] _ _); rw [HVe.out, ← HE.out]; exact G2.out⟩, B2⟩
          case measure => simp [intOf]; omega
    · have hk' : k = l0.length := by omega
      have HE := Aside0.mk (show l0.take k = l0 by rw [hk']; exact List.take_length)
      have hle : l0.length ≤ k := by omega
      clear hk'
      have hg0 : wr.cell? ⟨w.heap.size, 0, none⟩ = some (.int .u64 ((l0.take k).foldl hashV 14695981039346656037)) := (blk_cell HG.out 0).trans rfl
      go_wp2
      go_ret
      exact ⟨by rw [HE.out]; rfl, HB.out⟩

/-! ### weathercocklaw02_examples0: function 10 -/
def weathercocklaw02_examples0.f (k : Nat)  : Option (Bool) := (some (([(⟨1, 1, (⟨#[]⟩ : ByteArray)⟩ : S36), (⟨2, 1, (⟨#[]⟩ : ByteArray)⟩ : S36), (⟨3, 0, (⟨#[97, 98]⟩ : ByteArray)⟩ : S36), (⟨0, 0, (⟨#[]⟩ : ByteArray)⟩ : S36)] : List (S36)) : List (S36))).bind fun y125 => ((row_Encode.f y125).bind fun bt128 => ((row_Decode.f k (⟨#[2, 2]⟩ : ByteArray)).bind fun bt130 => (if bt128.1.toList = ([1, 0, 0, 0, 0, 0, 0, 0, 1, 2, 1, 3, 2, 97, 98, 0] : List UInt8) then (if bt128.2 = 0 then (if bt130.2 = 2 then (if 1 ≤ (y125.length : Int) then (if 2 ≤ (y125.length : Int) then ((row_Compare.f (y125.take 1) (y125.take 2)).bind fun t142 => (if t142 = (-1) then ((row_Right.f y125).bind fun t143 => (if t143 = true then ((row_Hash.f ([] : List (S36))).bind fun t144 => (some (t144 == 14695981039346656037))) else (some false))) else (some false))) else (none)) else (none)) else (some false)) else (some false)) else (some false))))
theorem weathercocklaw02_examples0.mono : ∀ k, LeO (weathercocklaw02_examples0.f k ) (weathercocklaw02_examples0.f (k + 1) ) := by
  intro  k
  unfold weathercocklaw02_examples0.f
  repeat' first
      | (with_reducible exact row_Decode.mono _ _)
      | (with_reducible exact LeO.refl _)
      | (with_reducible exact LeO.none _)
      | (with_reducible refine LeO.ite ?_ ?_)
      | (with_reducible refine LeO.bind ?_ (fun _ => ?_))
      | exact row_Decode.mono _ _
      | exact LeO.none _
      | refine LeO.ite ?_ ?_
      | refine LeO.bind ?_ (fun _ => ?_)
def weathercocklaw02_examples0.T4 : Bool × List (List Nat × List Nat) := (true, [([], []), ([0], [0]), ([1], [1]), ([2], [2]), ([3, 2], [2, 3]), ([2, 4], [2, 4]), ([5, 2], [5]), ([6], [6]), ([7, 6], [6, 7]), ([6, 8], [6, 8]), ([9, 6], [9]), ([10], [10]), ([11, 10], [10, 11]), ([10], [10]), ([13, 10], [10, 13]), ([12, 14, 10, 10], [10, 12, 14]), ([15, 10], [10, 15]), ([10, 16], [10, 16]), ([17, 15], [17]), ([18], [18]), ([19, 18, 18], [18, 19]), ([18, 20], [18, 20]), ([21, 20], [21]), ([22, 22], [22]), ([23, 22], [22, 23]), ([22, 24], [22, 24]), ([25, 23, 0, 1, 2, 3, 4, 5, 6, 7, 8, 9, 10, 11, 12, 13, 14, 15, 16, 17, 18, 19, 20, 21, 22, 23, 24, 25], [25])])
def weathercocklaw02_examples0.B4 : List Nat := [0, 1, 3, 7, 15, 31, 63, 127, 255, 511, 1023, 2047, 4095, 2047, 10239, 32767, 65535, 131071, 262143, 524287, 1048575, 2097151, 4194303, 8388607, 16777215, 33554431, 67108863]
theorem weathercocklaw02_examples0.tab4 : rtab .any (opsOf Try.f10 4) = weathercocklaw02_examples0.T4 := by kernel_rfl
theorem weathercocklaw02_examples0.bits4 : waitsOk weathercocklaw02_examples0.T4.2 weathercocklaw02_examples0.B4 = true := by kernel_rfl
set_option maxHeartbeats 8000000 in
set_option maxRecDepth 100000 in
theorem weathercocklaw02_examples0.calls (k : Nat)  (r : Bool) (w : World) (h : weathercocklaw02_examples0.f k  = some r) (hrt : r = true) :
    Calls Try.prog 10 #[] w fun e w' => e = .returned (.bool r) ∧ Below w.heap.size w w' := by
  have HRT := Aside0.mk hrt
  clear hrt
  have hu36 := Try.underlying36
  have HB := Aside0.mk (Below.refl w.heap.size w)
  have H : ((some (([(⟨1, 1, (⟨#[]⟩ : ByteArray)⟩ : S36), (⟨2, 1, (⟨#[]⟩ : ByteArray)⟩ : S36), (⟨3, 0, (⟨#[97, 98]⟩ : ByteArray)⟩ : S36), (⟨0, 0, (⟨#[]⟩ : ByteArray)⟩ : S36)] : List (S36)) : List (S36))).bind fun y125 => ((row_Encode.f y125).bind fun bt128 => ((row_Decode.f k (⟨#[2, 2]⟩ : ByteArray)).bind fun bt130 => (if bt128.1.toList = ([1, 0, 0, 0, 0, 0, 0, 0, 1, 2, 1, 3, 2, 97, 98, 0] : List UInt8) then (if bt128.2 = 0 then (if bt130.2 = 2 then (if 1 ≤ (y125.length : Int) then (if 2 ≤ (y125.length : Int) then ((row_Compare.f (y125.take 1) (y125.take 2)).bind fun t142 => (if t142 = (-1) then ((row_Right.f y125).bind fun t143 => (if t143 = true then ((row_Hash.f ([] : List (S36))).bind fun t144 => (some (t144 == 14695981039346656037))) else (some false))) else (some false))) else (none)) else (none)) else (some false)) else (some false)) else (some false))))) = some r := h
  clear h
  obtain ⟨y125, hy125⟩ : ∃ y_ : List (S36), y_ = (([(⟨1, 1, (⟨#[]⟩ : ByteArray)⟩ : S36), (⟨2, 1, (⟨#[]⟩ : ByteArray)⟩ : S36), (⟨3, 0, (⟨#[97, 98]⟩ : ByteArray)⟩ : S36), (⟨0, 0, (⟨#[]⟩ : ByteArray)⟩ : S36)] : List (S36))) := ⟨_, rfl⟩
  replace H : ((row_Encode.f y125).bind fun bt128 => ((row_Decode.f k (⟨#[2, 2]⟩ : ByteArray)).bind fun bt130 => (if bt128.1.toList = ([1, 0, 0, 0, 0, 0, 0, 0, 1, 2, 1, 3, 2, 97, 98, 0] : List UInt8) then (if bt128.2 = 0 then (if bt130.2 = 2 then (if 1 ≤ (y125.length : Int) then (if 2 ≤ (y125.length : Int) then ((row_Compare.f (y125.take 1) (y125.take 2)).bind fun t142 => (if t142 = (-1) then ((row_Right.f y125).bind fun t143 => (if t143 = true then ((row_Hash.f ([] : List (S36))).bind fun t144 => (some (t144 == 14695981039346656037))) else (some false))) else (some false))) else (none)) else (none)) else (some false)) else (some false)) else (some false)))) = some r := by first | (rw [hy125]; with_reducible exact H) | (have H2_ := (Option.bind_some _ _).symm.trans H; rw [hy125]; with_reducible exact H2_) | (have H2_ := (Option.bind_some _ _).symm.trans H; with_reducible exact H2_) | with_reducible exact H | (rw [hy125]; exact H) | exact H
  have Ny125 := Aside0.mk hy125
  clear hy125
  replace H := Option.bind_eq_some_iff.mp H
  obtain ⟨⟨t128, t129⟩, A10, H⟩ := H
  replace H : ((row_Decode.f k (⟨#[2, 2]⟩ : ByteArray)).bind fun bt130 => (if t128.toList = ([1, 0, 0, 0, 0, 0, 0, 0, 1, 2, 1, 3, 2, 97, 98, 0] : List UInt8) then (if t129 = 0 then (if bt130.2 = 2 then (if 1 ≤ (y125.length : Int) then (if 2 ≤ (y125.length : Int) then ((row_Compare.f (y125.take 1) (y125.take 2)).bind fun t142 => (if t142 = (-1) then ((row_Right.f y125).bind fun t143 => (if t143 = true then ((row_Hash.f ([] : List (S36))).bind fun t144 => (some (t144 == 14695981039346656037))) else (some false))) else (some false))) else (none)) else (none)) else (some false)) else (some false)) else (some false))) = some r := H
  have A1 := Aside0.mk A10
  clear A10
  replace H := Option.bind_eq_some_iff.mp H
  obtain ⟨⟨t130, t131⟩, A20, H⟩ := H
  replace H : (if t128.toList = ([1, 0, 0, 0, 0, 0, 0, 0, 1, 2, 1, 3, 2, 97, 98, 0] : List UInt8) then (if t129 = 0 then (if t131 = 2 then (if 1 ≤ (y125.length : Int) then (if 2 ≤ (y125.length : Int) then ((row_Compare.f (y125.take 1) (y125.take 2)).bind fun t142 => (if t142 = (-1) then ((row_Right.f y125).bind fun t143 => (if t143 = true then ((row_Hash.f ([] : List (S36))).bind fun t144 => (some (t144 == 14695981039346656037))) else (some false))) else (some false))) else (none)) else (none)) else (some false)) else (some false)) else (some false)) = some r := H
  have A2 := Aside0.mk A20
  clear A20
  by_cases c3 : t128.toList = ([1, 0, 0, 0, 0, 0, 0, 0, 1, 2, 1, 3, 2, 97, 98, 0] : List UInt8)
  · rw [if_pos c3] at H
    have c3b0 : (t128.toList == ([1, 0, 0, 0, 0, 0, 0, 0, 1, 2, 1, 3, 2, 97, 98, 0] : List UInt8)) = true := beq_iff_eq.mpr c3
    have c3b1 : (t128.toList != ([1, 0, 0, 0, 0, 0, 0, 0, 1, 2, 1, 3, 2, 97, 98, 0] : List UInt8)) = false := bne_eq_false_iff_eq.mpr c3
    clear c3
    by_cases c4 : t129 = 0
    · rw [if_pos c4] at H
      have c4b0 : (t129 == 0) = true := beq_iff_eq.mpr c4
      have c4b1 : (t129 != 0) = false := bne_eq_false_iff_eq.mpr c4
      clear c4
      by_cases c5 : t131 = 2
      · rw [if_pos c5] at H
        have c5b0 : (t131 == 2) = true := beq_iff_eq.mpr c5
        have c5b1 : (t131 != 2) = false := bne_eq_false_iff_eq.mpr c5
        clear c5
        by_cases c6 : 1 ≤ (y125.length : Int)
        · rw [if_pos c6] at H
          have c6b0 := eq_true c6
          have c6b1 : decide (1 ≤ (y125.length : Int)) = true := decide_eq_true c6
          clear c6
          obtain ⟨y134, hy134⟩ : ∃ y_ : List (S36), y_ = (y125.take 1) := ⟨_, rfl⟩
          replace H : (if 2 ≤ (y125.length : Int) then ((row_Compare.f y134 (y125.take 2)).bind fun t142 => (if t142 = (-1) then ((row_Right.f y125).bind fun t143 => (if t143 = true then ((row_Hash.f ([] : List (S36))).bind fun t144 => (some (t144 == 14695981039346656037))) else (some false))) else (some false))) else (none)) = some r := by first | (rw [hy134]; with_reducible exact H) | (have H2_ := (Option.bind_some _ _).symm.trans H; rw [hy134]; with_reducible exact H2_) | (have H2_ := (Option.bind_some _ _).symm.trans H; with_reducible exact H2_) | with_reducible exact H | (rw [hy134]; exact H) | exact H
          have Ny134 := Aside0.mk hy134
          clear hy134
          by_cases c7 : 2 ≤ (y125.length : Int)
          · rw [if_pos c7] at H
            have c7b0 := eq_true c7
            have c7b1 : decide (2 ≤ (y125.length : Int)) = true := decide_eq_true c7
            clear c7
            obtain ⟨y138, hy138⟩ : ∃ y_ : List (S36), y_ = (y125.take 2) := ⟨_, rfl⟩
            replace H : ((row_Compare.f y134 y138).bind fun t142 => (if t142 = (-1) then ((row_Right.f y125).bind fun t143 => (if t143 = true then ((row_Hash.f ([] : List (S36))).bind fun t144 => (some (t144 == 14695981039346656037))) else (some false))) else (some false))) = some r := by first | (rw [hy138]; with_reducible exact H) | (have H2_ := (Option.bind_some _ _).symm.trans H; rw [hy138]; with_reducible exact H2_) | (have H2_ := (Option.bind_some _ _).symm.trans H; with_reducible exact H2_) | with_reducible exact H | (rw [hy138]; exact H) | exact H
            have Ny138 := Aside0.mk hy138
            clear hy138
            replace H := Option.bind_eq_some_iff.mp H
            obtain ⟨t142, A80, H⟩ := H
            replace H : (if t142 = (-1) then ((row_Right.f y125).bind fun t143 => (if t143 = true then ((row_Hash.f ([] : List (S36))).bind fun t144 => (some (t144 == 14695981039346656037))) else (some false))) else (some false)) = some r := H
            have A8 := Aside0.mk A80
            clear A80
            by_cases c9 : t142 = (-1)
            · rw [if_pos c9] at H
              have c9b0 : (t142 == (-1)) = true := beq_iff_eq.mpr c9
              have c9b1 : (t142 != (-1)) = false := bne_eq_false_iff_eq.mpr c9
              clear c9
              replace H := Option.bind_eq_some_iff.mp H
              obtain ⟨t143, A100, H⟩ := H
              replace H : (if t143 = true then ((row_Hash.f ([] : List (S36))).bind fun t144 => (some (t144 == 14695981039346656037))) else (some false)) = some r := H
              have A10 := Aside0.mk A100
              clear A100
              by_cases c11 : t143 = true
              · subst c11
                have H1 : ((row_Hash.f ([] : List (S36))).bind fun t144 => (some (t144 == 14695981039346656037))) = some r := by rw [if_pos rfl] at H; exact H
                clear H
                have H := H1
                clear H1
                replace H := Option.bind_eq_some_iff.mp H
                obtain ⟨t144, A120, H⟩ := H
                replace H : (some (t144 == 14695981039346656037)) = some r := H
                have A12 := Aside0.mk A120
                clear A120
                obtain rfl := Option.some.inj H
                go_enter Try.func10, Try.ntmps10
                try go_wp2_with (first | ((with_reducible refine gate_dst (N := 10) rfl ?_); refine Kd.R_lit k36 _ 36 ?hg (N := 10) ?hd (xs := ([(⟨1, 1, (⟨#[]⟩ : ByteArray)⟩ : S36), (⟨2, 1, (⟨#[]⟩ : ByteArray)⟩ : S36), (⟨3, 0, (⟨#[97, 98]⟩ : ByteArray)⟩ : S36), (⟨0, 0, (⟨#[]⟩ : ByteArray)⟩ : S36)] : List (S36))) (inner := [.int .i64 1, .int .i64 1, .string (⟨#[]⟩ : ByteArray), .int .i64 2, .int .i64 1, .string (⟨#[]⟩ : ByteArray), .int .i64 3, .int .i64 0, .string (⟨#[97, 98]⟩ : ByteArray), .int .i64 0, .int .i64 0, .string (⟨#[]⟩ : ByteArray)]) (ok := fun _ => True) (okp := fun _ => True) ?hr ?hp (fun _ hk => hk) trivial (Below.refl _ _) (Nat.le_refl _) (by simp) ?_; (case hd => rfl); (case hg => rfl); (case hr => first | (go_simp; done) | (go_simp; rfl)); (case hp => exact (Reps.c3 (show Kd.M k36 _ _ _ (⟨1, 1, (⟨#[]⟩ : ByteArray)⟩ : S36) [.int .i64 1, .int .i64 1, .string (⟨#[]⟩ : ByteArray)] from (k36_mkM _ _ _ (⟨1, 1, (⟨#[]⟩ : ByteArray)⟩ : S36) )) (Reps.c3 (show Kd.M k36 _ _ _ (⟨2, 1, (⟨#[]⟩ : ByteArray)⟩ : S36) [.int .i64 2, .int .i64 1, .string (⟨#[]⟩ : ByteArray)] from (k36_mkM _ _ _ (⟨2, 1, (⟨#[]⟩ : ByteArray)⟩ : S36) )) (Reps.c3 (show Kd.M k36 _ _ _ (⟨3, 0, (⟨#[97, 98]⟩ : ByteArray)⟩ : S36) [.int .i64 3, .int .i64 0, .string (⟨#[97, 98]⟩ : ByteArray)] from (k36_mkM _ _ _ (⟨3, 0, (⟨#[97, 98]⟩ : ByteArray)⟩ : S36) )) (Reps.c3 (show Kd.M k36 _ _ _ (⟨0, 0, (⟨#[]⟩ : ByteArray)⟩ : S36) [.int .i64 0, .int .i64 0, .string (⟨#[]⟩ : ByteArray)] from (k36_mkM _ _ _ (⟨0, 0, (⟨#[]⟩ : ByteArray)⟩ : S36) )) (Reps.none _ _)))))); intro v126 w13 ho14 hb hg_ hnew_; clear hg_ hnew_; (first | rw [← Ny125.out] at ho14 | (simp only [Int.reduceToNat] at ho14; rw [← Ny125.out] at ho14)); have n0_ := Aside0.mk (Kd.R_lower ho14 (below_size (by repeat (first | (with_reducible first | exact HB.out | apply below_alloc | apply pw_below_drewN | apply below_drew1) | exact HB.out)))); have n1_ := Aside0.mk (below_step (by repeat (first | (with_reducible first | exact HB.out | apply below_alloc | apply pw_below_drewN | apply below_drew1) | exact HB.out)) hb); clear HB; have HO127 := n0_; have HB := n1_; clear n0_ n1_; clear hb ho14; obtain ⟨Ao15, co15, eo15⟩ := Kd.R_slice HO127.out; subst eo15) | ((with_reducible refine gate_callee (f := 11) rfl ?_); refine goesL_ (some 13) rfl rfl Try.func11 (by kernel_rfl) rfl #[.slice Ao15 y125.length co15] rfl (by (try simp only [List.map_toArray, List.map_cons, List.map_nil]); first | done | rfl | (simp only [List.length_drop, List.length_take]; rfl)) ?_; (with_reducible refine (row_Encode.calls _ _ y125 t128 t129 _ ?side1 ?side2 A1.out).mono ?_); (case side1 => repeat (first | exact (Kd.R_reads' HO127.out).2.2 | (with_reducible refine Kd.C_alloc ?_ _) | (with_reducible refine Kd.C_drewN ?_ _) | (with_reducible refine Kd.C_drew ?_))); (case side2 => exact (Kd.R_reads' HO127.out).2.1); rintro e w16 ⟨rfl, hb⟩; refine ⟨_, rfl, ?_⟩; have n0_ := Aside0.mk (Kd.R_below (by (with_reducible repeat (first | apply Kd.R_alloc | apply Kd.R_drewN | apply Kd.R_drew)); exact HO127.out) hb); have n1_ := Aside0.mk (below_step (by repeat (first | (with_reducible first | exact HB.out | apply below_alloc | apply pw_below_drewN | apply below_drew1) | exact HB.out)) hb); clear HO127; clear HB; have HO127 := n0_; have HB := n1_; clear n0_ n1_; (try clear hb); (try clear hb2); (try clear hk); (try clear hi)) | ((with_reducible refine gate_callee (f := 14) rfl ?_); refine goesL_ (some 17) rfl rfl Try.func14 (by kernel_rfl) rfl #[.string (⟨#[2, 2]⟩ : ByteArray)] rfl (by (try simp only [List.map_toArray, List.map_cons, List.map_nil]); first | done | rfl | (simp only [List.length_drop, List.length_take]; rfl)) ?_; (with_reducible refine (row_Decode.calls k (⟨#[2, 2]⟩ : ByteArray) t130 t131 _ A2.out).mono ?_); rintro e w17 ⟨v132, rfl, ho0, hb⟩; refine ⟨_, rfl, ?_⟩; have n0_ := Aside0.mk (Kd.R_elder' (by (with_reducible repeat (first | apply Kd.R_alloc | apply Kd.R_drewN | apply Kd.R_drew)); exact HO127.out) (Kd.R_base ho0) hb); have n1_ := Aside0.mk (Kd.R_lower (Kd.R_new' ho0 (Kd.R_lt (by (with_reducible repeat (first | apply Kd.R_alloc | apply Kd.R_drewN | apply Kd.R_drew)); exact HO127.out))) (below_size (by repeat (first | (with_reducible first | exact HB.out | apply below_alloc | apply pw_below_drewN | apply below_drew1) | exact HB.out)))); have n2_ := Aside0.mk (below_step (by repeat (first | (with_reducible first | exact HB.out | apply below_alloc | apply pw_below_drewN | apply below_drew1) | exact HB.out)) hb); clear HO127; clear HB; have HO127 := n0_; have HO133 := n1_; have HB := n2_; clear n0_ n1_ n2_; (try clear hb); (try clear hb2); (try clear hk); (try clear hi); (try clear ho0)))
                have n0_ := Aside0.mk (Kd.R_drew HO127.out)
                have n1_ := Aside0.mk (Kd.R_drew HO133.out)
                have n2_ := Aside0.mk (below_drew1 HB.out)
                clear HO127
                clear HO133
                clear HB
                have HO127 := n0_
                have HO133 := n1_
                have HB := n2_
                clear n0_ n1_ n2_
                have q19 : (1 : Int) ≤ ((y125.length : Int) : Int) := of_decide_eq_true (by first | (with_reducible assumption) | assumption)
                obtain ⟨i019, hi019, _, hsz19, _⟩ := info_parts info36
                have hroom19 : y125.length ≤ co15 := (Kd.R_reads' HO127.out).2.1
                have hC19 : Kd.C k36 _ Ao15 y125.length y125 := (Kd.R_reads' HO127.out).2.2
                have hcut19 := cut_to (P := Try.prog) 22 36 .i64 Try.underlying22 hi019 Ao15 y125.length co15 1 (by omega) q19 hroom19
                have hr19 := Kd.C_take (m := 1) hC19 (by omega)
                have hy19 : y134.length = (1 : Int).toNat := (by rw [Ny134.out, List.length_take]; omega)
                rw [← Ny134.out] at hr19
                rw [← hy19] at hcut19
                have HR137 := Aside0.mk hr19
                have HC137 := Aside0.mk (show y134.length ≤ co15 from by omega)
                clear hr19 hC19 hroom19 hi019 hsz19
                have KY19 := Aside0.mk hy19
                clear hy19
                have KL19 := Aside0.mk (show 1 ≤ y125.length from by omega)
                replace q19 := eq_true q19
                have q20 : (2 : Int) ≤ ((y125.length : Int) : Int) := of_decide_eq_true (by first | (with_reducible assumption) | assumption)
                obtain ⟨i020, hi020, _, hsz20, _⟩ := info_parts info36
                have hroom20 : y125.length ≤ co15 := (Kd.R_reads' HO127.out).2.1
                have hC20 : Kd.C k36 _ Ao15 y125.length y125 := (Kd.R_reads' HO127.out).2.2
                have hcut20 := cut_to (P := Try.prog) 22 36 .i64 Try.underlying22 hi020 Ao15 y125.length co15 2 (by omega) q20 hroom20
                have hr20 := Kd.C_take (m := 2) hC20 (by omega)
                have hy20 : y138.length = (2 : Int).toNat := (by rw [Ny138.out, List.length_take]; omega)
                rw [← Ny138.out] at hr20
                rw [← hy20] at hcut20
                have HR141 := Aside0.mk hr20
                have HC141 := Aside0.mk (show y138.length ≤ co15 from by omega)
                clear hr20 hC20 hroom20 hi020 hsz20
                have KY20 := Aside0.mk hy20
                clear hy20
                have KL20 := Aside0.mk (show 2 ≤ y125.length from by omega)
                replace q20 := eq_true q20
                refine start_ (n := 27) (S := fun w' => True) (ds := []) #[false, false, false, false, false, false, false, false, false, false, false, false, false, false, false, false, false, false, false, false, false, false, false, false, false, false, false] (by kernel_rfl) rfl rfl trivial (fun hHeld => ?_); refine with_tabW weathercocklaw02_examples0.tab4 weathercocklaw02_examples0.bits4 (fun HT_ HW_ => ?_)
                generalize w17.drew = w18 at HO127 HO133 HB HR137 HR141 hHeld ⊢
                refine pure_ (i := 0) (N := some 20) (v := ?_) (a' := ?_) #[true, false, false, false, false, false, false, false, false, false, false, false, false, false, false, false, false, false, false, false, false, false, false, false, false, false, false] rfl rfl (any_of HT_.out (by kernel_rfl)) (fun _ _ _ h => h) (Or.inl ⟨by rfl, ?_⟩) ?_ ?_
                rotate_left
                · intro w'
                  go_simp
                  with_reducible rfl
                rotate_left
                · simp only [Act.put, List.setIfInBounds_toArray, List.set_cons_zero, List.set_cons_succ, i64_w, i32_w]
                  rfl
                refine pure_ (i := 1) (N := some 21) (v := ?_) (a' := ?_) #[true, true, false, false, false, false, false, false, false, false, false, false, false, false, false, false, false, false, false, false, false, false, false, false, false, false, false] rfl rfl (any_of HT_.out (by kernel_rfl)) (fun _ _ _ h => h) (Or.inl ⟨by rfl, ?_⟩) ?_ ?_
                rotate_left
                · intro w'
                  go_simp
                  with_reducible rfl
                rotate_left
                · simp only [Act.put, List.setIfInBounds_toArray, List.set_cons_zero, List.set_cons_succ, i64_w, i32_w]
                  rfl
                refine pure_ (i := 2) (N := some 22) (v := ?_) (a' := ?_) #[true, true, true, false, false, false, false, false, false, false, false, false, false, false, false, false, false, false, false, false, false, false, false, false, false, false, false] rfl rfl (any_of HT_.out (by kernel_rfl)) (fun _ _ _ h => h) (Or.inl ⟨by rfl, ?_⟩) ?_ ?_
                rotate_left
                · intro w'
                  go_simp
                  with_reducible rfl
                rotate_left
                · simp only [Act.put, List.setIfInBounds_toArray, List.set_cons_zero, List.set_cons_succ, i64_w, i32_w]
                  rfl
                refine pure_ (i := 3) (N := some 23) (v := ?_) (a' := ?_) #[true, true, true, true, false, false, false, false, false, false, false, false, false, false, false, false, false, false, false, false, false, false, false, false, false, false, false] rfl rfl (any_of HT_.out (by kernel_rfl)) (fun _ _ _ h => h) (Or.inl ⟨by rfl, ?_⟩) ?_ ?_
                rotate_left
                · intro w'
                  go_simp
                  with_reducible rfl
                rotate_left
                · simp only [Act.put, List.setIfInBounds_toArray, List.set_cons_zero, List.set_cons_succ, i64_w, i32_w]
                  rfl
                refine pure_ (i := 4) (N := some 24) (v := ?_) (a' := ?_) #[true, true, true, true, true, false, false, false, false, false, false, false, false, false, false, false, false, false, false, false, false, false, false, false, false, false, false] rfl rfl (any_of HT_.out (by kernel_rfl)) (fun _ _ _ h => h) (Or.inl ⟨by rfl, ?_⟩) ?_ ?_
                rotate_left
                · intro w'
                  go_simp
                  with_reducible rfl
                rotate_left
                · simp only [Act.put, List.setIfInBounds_toArray, List.set_cons_zero, List.set_cons_succ, i64_w, i32_w]
                  rfl
                refine pure_ (i := 5) (N := some 25) (v := ?_) (a' := ?_) #[true, true, true, true, true, true, false, false, false, false, false, false, false, false, false, false, false, false, false, false, false, false, false, false, false, false, false] rfl rfl (any_of HT_.out (by kernel_rfl)) (fun _ _ _ h => h) (Or.inl ⟨by rfl, ?_⟩) ?_ ?_
                rotate_left
                · intro w'
                  go_simp
                  with_reducible rfl
                rotate_left
                · simp only [Act.put, List.setIfInBounds_toArray, List.set_cons_zero, List.set_cons_succ, i64_w, i32_w]
                  rfl
                refine pure_ (i := 6) (N := some 26) (v := ?_) (a' := ?_) #[true, true, true, true, true, true, true, false, false, false, false, false, false, false, false, false, false, false, false, false, false, false, false, false, false, false, false] rfl rfl (any_of HT_.out (by kernel_rfl)) (fun _ _ _ h => h) (Or.inl ⟨by rfl, ?_⟩) ?_ ?_
                rotate_left
                · intro w'
                  go_simp
                  with_reducible rfl
                rotate_left
                · simp only [Act.put, List.setIfInBounds_toArray, List.set_cons_zero, List.set_cons_succ, i64_w, i32_w]
                  rfl
                refine pure_ (i := 7) (N := some 27) (v := ?_) (a' := ?_) #[true, true, true, true, true, true, true, true, false, false, false, false, false, false, false, false, false, false, false, false, false, false, false, false, false, false, false] rfl rfl (any_of HT_.out (by kernel_rfl)) (fun _ _ _ h => h) (Or.inl ⟨by rfl, ?_⟩) ?_ ?_
                rotate_left
                · intro w'
                  go_simp
                  with_reducible rfl
                rotate_left
                · simp only [Act.put, List.setIfInBounds_toArray, List.set_cons_zero, List.set_cons_succ, i64_w, i32_w]
                  rfl
                refine pure_ (i := 8) (N := some 28) (v := ?_) (a' := ?_) #[true, true, true, true, true, true, true, true, true, false, false, false, false, false, false, false, false, false, false, false, false, false, false, false, false, false, false] rfl rfl (any_of HT_.out (by kernel_rfl)) (fun _ _ _ h => h) (Or.inl ⟨by rfl, ?_⟩) ?_ ?_
                rotate_left
                · intro w'
                  go_simp
                  with_reducible rfl
                rotate_left
                · simp only [Act.put, List.setIfInBounds_toArray, List.set_cons_zero, List.set_cons_succ, i64_w, i32_w]
                  rfl
                refine pure_ (i := 9) (N := some 29) (v := ?_) (a' := ?_) #[true, true, true, true, true, true, true, true, true, true, false, false, false, false, false, false, false, false, false, false, false, false, false, false, false, false, false] rfl rfl (any_of HT_.out (by kernel_rfl)) (fun _ _ _ h => h) (Or.inl ⟨by rfl, ?_⟩) ?_ ?_
                rotate_left
                · intro w'
                  go_simp
                  with_reducible rfl
                rotate_left
                · simp only [Act.put, List.setIfInBounds_toArray, List.set_cons_zero, List.set_cons_succ, i64_w, i32_w]
                  rfl
                refine pure_ (i := 10) (N := some 30) (v := ?_) (a' := ?_) #[true, true, true, true, true, true, true, true, true, true, true, false, false, false, false, false, false, false, false, false, false, false, false, false, false, false, false] rfl rfl (any_of HT_.out (by kernel_rfl)) (fun _ _ _ h => h) (Or.inl ⟨by rfl, ?_⟩) ?_ ?_
                rotate_left
                · intro w'
                  go_simp
                  with_reducible rfl
                rotate_left
                · simp only [Act.put, List.setIfInBounds_toArray, List.set_cons_zero, List.set_cons_succ, i64_w, i32_w]
                  rfl
                refine pure_ (i := 11) (N := some 31) (v := ?_) (a' := ?_) #[true, true, true, true, true, true, true, true, true, true, true, true, false, false, false, false, false, false, false, false, false, false, false, false, false, false, false] rfl rfl (any_of HT_.out (by kernel_rfl)) (fun _ _ _ h => h) (Or.inl ⟨by rfl, ?_⟩) ?_ ?_
                rotate_left
                · intro w'
                  go_simp
                  with_reducible rfl
                rotate_left
                · simp only [Act.put, List.setIfInBounds_toArray, List.set_cons_zero, List.set_cons_succ, i64_w, i32_w]
                  rfl
                refine pure_ (i := 12) (N := some 32) (v := ?_) (a' := ?_) #[true, true, true, true, true, true, true, true, true, true, true, true, true, false, false, false, false, false, false, false, false, false, false, false, false, false, false] rfl rfl (any_of HT_.out (by kernel_rfl)) (fun _ _ _ h => h) (Or.inl ⟨by rfl, ?_⟩) ?_ ?_
                rotate_left
                · intro w'
                  go_simp
                  with_reducible rfl
                rotate_left
                · simp only [Act.put, List.setIfInBounds_toArray, List.set_cons_zero, List.set_cons_succ, i64_w, i32_w]
                  rfl
                refine pure_ (i := 13) (N := some 33) (v := ?_) (a' := ?_) #[true, true, true, true, true, true, true, true, true, true, true, true, true, true, false, false, false, false, false, false, false, false, false, false, false, false, false] rfl rfl (any_of HT_.out (by kernel_rfl)) (fun _ _ _ h => h) (Or.inl ⟨by rfl, ?_⟩) ?_ ?_
                rotate_left
                · intro w'
                  go_simp
                  with_reducible rfl
                rotate_left
                · simp only [Act.put, List.setIfInBounds_toArray, List.set_cons_zero, List.set_cons_succ, i64_w, i32_w]
                  rfl
                refine pure_ (i := 14) (N := some 34) (v := ?_) (a' := ?_) #[true, true, true, true, true, true, true, true, true, true, true, true, true, true, true, false, false, false, false, false, false, false, false, false, false, false, false] rfl rfl (any_of HT_.out (by kernel_rfl)) (fun _ _ _ h => h) (Or.inl ⟨by rfl, ?_⟩) ?_ ?_
                rotate_left
                · intro w'
                  go_simp
                  with_reducible rfl
                rotate_left
                · simp only [Act.put, List.setIfInBounds_toArray, List.set_cons_zero, List.set_cons_succ, i64_w, i32_w]
                  rfl
                refine one_ (i := 15) (N := some 35) #[true, true, true, true, true, true, true, true, true, true, true, true, true, true, true, true, false, false, false, false, false, false, false, false, false, false, false] rfl rfl (one_of HT_.out (by kernel_rfl)) (by decide) (fun K hK => ?_)
                refine goes_ Try.func18 (by kernel_rfl) rfl #[.slice Ao15 y134.length co15, .slice Ao15 y138.length co15] (by rfl) rfl rfl (by (try simp only [List.map_toArray, List.map_cons, List.map_nil]); first | done | rfl | (simp only [List.length_drop, List.length_take]; rfl)) ?_
                with_reducible refine (row_Compare.calls _ _ y134 _ _ y138 t142 _ ?side1 ?side2 ?side3 ?side4 A8.out).mono ?_
                (case side1 => repeat (first | exact (by repeat (first | (with_reducible exact HR137.out) | (with_reducible refine Kd.C_alloc ?_ _) | (with_reducible refine Kd.C_drewN ?_ _) | (with_reducible refine Kd.C_drew ?_) | exact HR137.out)) | (with_reducible refine Kd.C_alloc ?_ _) | (with_reducible refine Kd.C_drewN ?_ _) | (with_reducible refine Kd.C_drew ?_)))
                (case side2 => exact HC137.out)
                (case side3 => repeat (first | exact (by repeat (first | (with_reducible exact HR141.out) | (with_reducible refine Kd.C_alloc ?_ _) | (with_reducible refine Kd.C_drewN ?_ _) | (with_reducible refine Kd.C_drew ?_) | exact HR141.out)) | (with_reducible refine Kd.C_alloc ?_ _) | (with_reducible refine Kd.C_drewN ?_ _) | (with_reducible refine Kd.C_drew ?_)))
                (case side4 => exact HC141.out)
                rintro e w21 ⟨rfl, hb⟩
                refine ⟨_, rfl, ?_⟩
                have n0_ := Aside0.mk (Kd.R_below (by (with_reducible repeat (first | apply Kd.R_alloc | apply Kd.R_drewN | apply Kd.R_drew)); exact HO127.out) hb)
                have n1_ := Aside0.mk (Kd.R_below (by (with_reducible repeat (first | apply Kd.R_alloc | apply Kd.R_drewN | apply Kd.R_drew)); exact HO133.out) hb)
                have n2_ := Aside0.mk (Kd.C_below (by repeat (first | (with_reducible exact HR137.out) | (with_reducible refine Kd.C_alloc ?_ _) | (with_reducible refine Kd.C_drewN ?_ _) | (with_reducible refine Kd.C_drew ?_) | exact HR137.out)) hb)
                have n3_ := Aside0.mk (Kd.C_below (by repeat (first | (with_reducible exact HR141.out) | (with_reducible refine Kd.C_alloc ?_ _) | (with_reducible refine Kd.C_drewN ?_ _) | (with_reducible refine Kd.C_drew ?_) | exact HR141.out)) hb)
                have n4_ := Aside0.mk (below_step (by repeat (first | (with_reducible first | exact HB.out | apply below_alloc | apply pw_below_drewN | apply below_drew1) | exact HB.out)) hb)
                clear HO127
                clear HO133
                clear HR137
                clear HR141
                clear HB
                have HO127 := n0_
                have HO133 := n1_
                have HR137 := n2_
                have HR141 := n3_
                have HB := n4_
                clear n0_ n1_ n2_ n3_ n4_
                (try clear hb)
                (try clear hb2)
                (try clear hk)
                (try clear hi)
                refine hK.out _ _ trivial (fun hHeld => ?_)
                clear hK K
                refine norm_ (a' := ?_) ?_ ?_
                rotate_left
                · show Act.put _ (some 35) _ = _
                  simp only [Act.put, List.setIfInBounds_toArray, List.set_cons_zero, List.set_cons_succ, i64_w, i32_w]
                  rfl
                refine pure_ (i := 16) (N := some 36) (v := ?_) (a' := ?_) #[true, true, true, true, true, true, true, true, true, true, true, true, true, true, true, true, true, false, false, false, false, false, false, false, false, false, false] rfl rfl (any_of HT_.out (by kernel_rfl)) (fun _ _ _ h => h) (Or.inl ⟨by rfl, ?_⟩) ?_ ?_
                rotate_left
                · intro w'
                  go_simp
                  with_reducible rfl
                rotate_left
                · simp only [Act.put, List.setIfInBounds_toArray, List.set_cons_zero, List.set_cons_succ, i64_w, i32_w]
                  rfl
                refine pure_ (i := 17) (N := some 37) (v := ?_) (a' := ?_) #[true, true, true, true, true, true, true, true, true, true, true, true, true, true, true, true, true, true, false, false, false, false, false, false, false, false, false] rfl rfl (any_of HT_.out (by kernel_rfl)) (fun _ _ _ h => h) (Or.inl ⟨by rfl, ?_⟩) ?_ ?_
                rotate_left
                · intro w'
                  go_simp
                  with_reducible rfl
                rotate_left
                · simp only [Act.put, List.setIfInBounds_toArray, List.set_cons_zero, List.set_cons_succ, i64_w, i32_w]
                  rfl
                refine pure_ (i := 18) (N := some 38) (v := ?_) (a' := ?_) #[true, true, true, true, true, true, true, true, true, true, true, true, true, true, true, true, true, true, true, false, false, false, false, false, false, false, false] rfl rfl (any_of HT_.out (by kernel_rfl)) (fun _ _ _ h => h) (Or.inl ⟨by rfl, ?_⟩) ?_ ?_
                rotate_left
                · intro w'
                  go_simp
                  with_reducible rfl
                rotate_left
                · simp only [Act.put, List.setIfInBounds_toArray, List.set_cons_zero, List.set_cons_succ, i64_w, i32_w]
                  rfl
                refine pure_ (i := 19) (N := some 39) (v := ?_) (a' := ?_) #[true, true, true, true, true, true, true, true, true, true, true, true, true, true, true, true, true, true, true, true, false, false, false, false, false, false, false] rfl rfl (any_of HT_.out (by kernel_rfl)) (fun _ _ _ h => h) (Or.inl ⟨by rfl, ?_⟩) ?_ ?_
                rotate_left
                · intro w'
                  go_simp
                  with_reducible rfl
                rotate_left
                · simp only [Act.put, List.setIfInBounds_toArray, List.set_cons_zero, List.set_cons_succ, i64_w, i32_w]
                  rfl
                refine one_ (i := 20) (N := some 40) #[true, true, true, true, true, true, true, true, true, true, true, true, true, true, true, true, true, true, true, true, true, false, false, false, false, false, false] rfl rfl (one_of HT_.out (by kernel_rfl)) (by decide) (fun K hK => ?_)
                refine goes_ Try.func16 (by kernel_rfl) rfl #[.slice Ao15 y125.length co15] (by rfl) rfl rfl (by (try simp only [List.map_toArray, List.map_cons, List.map_nil]); first | done | rfl | (simp only [List.length_drop, List.length_take]; rfl)) ?_
                with_reducible refine (row_Right.calls _ _ y125 true _ ?side1 ?side2 A10.out).mono ?_
                (case side1 => repeat (first | exact (Kd.R_reads' HO127.out).2.2 | (with_reducible refine Kd.C_alloc ?_ _) | (with_reducible refine Kd.C_drewN ?_ _) | (with_reducible refine Kd.C_drew ?_)))
                (case side2 => exact (Kd.R_reads' HO127.out).2.1)
                rintro e w22 ⟨rfl, hb⟩
                refine ⟨_, rfl, ?_⟩
                have n0_ := Aside0.mk (Kd.R_below (by (with_reducible repeat (first | apply Kd.R_alloc | apply Kd.R_drewN | apply Kd.R_drew)); exact HO127.out) hb)
                have n1_ := Aside0.mk (Kd.R_below (by (with_reducible repeat (first | apply Kd.R_alloc | apply Kd.R_drewN | apply Kd.R_drew)); exact HO133.out) hb)
                have n2_ := Aside0.mk (Kd.C_below (by repeat (first | (with_reducible exact HR137.out) | (with_reducible refine Kd.C_alloc ?_ _) | (with_reducible refine Kd.C_drewN ?_ _) | (with_reducible refine Kd.C_drew ?_) | exact HR137.out)) hb)
                have n3_ := Aside0.mk (Kd.C_below (by repeat (first | (with_reducible exact HR141.out) | (with_reducible refine Kd.C_alloc ?_ _) | (with_reducible refine Kd.C_drewN ?_ _) | (with_reducible refine Kd.C_drew ?_) | exact HR141.out)) hb)
                have n4_ := Aside0.mk (below_step (by repeat (first | (with_reducible first | exact HB.out | apply below_alloc | apply pw_below_drewN | apply below_drew1) | exact HB.out)) hb)
                clear HO127
                clear HO133
                clear HR137
                clear HR141
                clear HB
                have HO127 := n0_
                have HO133 := n1_
                have HR137 := n2_
                have HR141 := n3_
                have HB := n4_
                clear n0_ n1_ n2_ n3_ n4_
                (try clear hb)
                (try clear hb2)
                (try clear hk)
                (try clear hi)
                refine hK.out _ _ trivial (fun hHeld => ?_)
                clear hK K
                refine norm_ (a' := ?_) ?_ ?_
                rotate_left
                · show Act.put _ (some 40) _ = _
                  simp only [Act.put, List.setIfInBounds_toArray, List.set_cons_zero, List.set_cons_succ, i64_w, i32_w]
                  rfl
                refine pure_ (i := 21) (N := some 41) (v := ?_) (a' := ?_) #[true, true, true, true, true, true, true, true, true, true, true, true, true, true, true, true, true, true, true, true, true, true, false, false, false, false, false] rfl rfl (any_of HT_.out (by kernel_rfl)) (fun _ _ _ h => h) (Or.inl ⟨by rfl, ?_⟩) ?_ ?_
                rotate_left
                · intro w'
                  go_simp
                  with_reducible rfl
                rotate_left
                · simp only [Act.put, List.setIfInBounds_toArray, List.set_cons_zero, List.set_cons_succ, i64_w, i32_w]
                  rfl
                refine pure_ (i := 22) (N := some 42) (v := ?_) (a' := ?_) #[true, true, true, true, true, true, true, true, true, true, true, true, true, true, true, true, true, true, true, true, true, true, true, false, false, false, false] rfl rfl (any_of HT_.out (by kernel_rfl)) (fun _ _ _ h => h) (Or.inl ⟨by rfl, ?_⟩) ?_ ?_
                rotate_left
                · intro w'
                  go_simp
                  with_reducible rfl
                rotate_left
                · simp only [Act.put, List.setIfInBounds_toArray, List.set_cons_zero, List.set_cons_succ, i64_w, i32_w]
                  rfl
                refine one_ (i := 23) (N := some 43) #[true, true, true, true, true, true, true, true, true, true, true, true, true, true, true, true, true, true, true, true, true, true, true, true, false, false, false] rfl rfl (one_of HT_.out (by kernel_rfl)) (by decide) (fun K hK => ?_)
                refine goes_ Try.func19 (by kernel_rfl) rfl #[.slice none 0 0] (by rfl) rfl rfl (by (try simp only [List.map_toArray, List.map_cons, List.map_nil]); first | done | rfl | (simp only [List.length_drop, List.length_take]; rfl)) ?_
                refine (row_Hash.calls _ _ ([] : List (S36)) t144 _ ?side1 ?side2 A12.out).mono ?_
                (case side1 => exact Kd.C_nil _ _)
                (case side2 => exact Nat.le_refl _)
                rintro e w23 ⟨rfl, hb⟩
                refine ⟨_, rfl, ?_⟩
                have n0_ := Aside0.mk (Kd.R_below (by (with_reducible repeat (first | apply Kd.R_alloc | apply Kd.R_drewN | apply Kd.R_drew)); exact HO127.out) hb)
                have n1_ := Aside0.mk (Kd.R_below (by (with_reducible repeat (first | apply Kd.R_alloc | apply Kd.R_drewN | apply Kd.R_drew)); exact HO133.out) hb)
                have n2_ := Aside0.mk (Kd.C_below (by repeat (first | (with_reducible exact HR137.out) | (with_reducible refine Kd.C_alloc ?_ _) | (with_reducible refine Kd.C_drewN ?_ _) | (with_reducible refine Kd.C_drew ?_) | exact HR137.out)) hb)
                have n3_ := Aside0.mk (Kd.C_below (by repeat (first | (with_reducible exact HR141.out) | (with_reducible refine Kd.C_alloc ?_ _) | (with_reducible refine Kd.C_drewN ?_ _) | (with_reducible refine Kd.C_drew ?_) | exact HR141.out)) hb)
                have n4_ := Aside0.mk (below_step (by repeat (first | (with_reducible first | exact HB.out | apply below_alloc | apply pw_below_drewN | apply below_drew1) | exact HB.out)) hb)
                clear HO127
                clear HO133
                clear HR137
                clear HR141
                clear HB
                have HO127 := n0_
                have HO133 := n1_
                have HR137 := n2_
                have HR141 := n3_
                have HB := n4_
                clear n0_ n1_ n2_ n3_ n4_
                (try clear hb)
                (try clear hb2)
                (try clear hk)
                (try clear hi)
                refine hK.out _ _ trivial (fun hHeld => ?_)
                clear hK K
                refine norm_ (a' := ?_) ?_ ?_
                rotate_left
                · show Act.put _ (some 43) _ = _
                  simp only [Act.put, List.setIfInBounds_toArray, List.set_cons_zero, List.set_cons_succ, i64_w, i32_w]
                  rfl
                refine pure_ (i := 24) (N := some 44) (v := ?_) (a' := ?_) #[true, true, true, true, true, true, true, true, true, true, true, true, true, true, true, true, true, true, true, true, true, true, true, true, true, false, false] rfl rfl (any_of HT_.out (by kernel_rfl)) (fun _ _ _ h => h) (Or.inl ⟨by rfl, ?_⟩) ?_ ?_
                rotate_left
                · intro w'
                  go_simp
                  with_reducible rfl
                rotate_left
                · simp only [Act.put, List.setIfInBounds_toArray, List.set_cons_zero, List.set_cons_succ, i64_w, i32_w]
                  rfl
                refine pure_ (i := 25) (N := some 45) (v := ?_) (a' := ?_) #[true, true, true, true, true, true, true, true, true, true, true, true, true, true, true, true, true, true, true, true, true, true, true, true, true, true, false] rfl rfl (any_of HT_.out (by kernel_rfl)) (fun _ _ _ h => h) (Or.inl ⟨by rfl, ?_⟩) ?_ ?_
                rotate_left
                · intro w'
                  go_simp
                  with_reducible rfl
                rotate_left
                · simp only [Act.put, List.setIfInBounds_toArray, List.set_cons_zero, List.set_cons_succ, i64_w, i32_w]
                  rfl
                refine pure_ (i := 26) (N := some 0) (v := ?_) (a' := ?_) #[true, true, true, true, true, true, true, true, true, true, true, true, true, true, true, true, true, true, true, true, true, true, true, true, true, true, true] rfl rfl (any_of HT_.out (by kernel_rfl)) (fun _ _ _ h => h) (Or.inl ⟨by rfl, ?_⟩) ?_ ?_
                rotate_left
                · intro w'
                  go_simp
                  with_reducible rfl
                rotate_left
                · simp only [Act.put, List.setIfInBounds_toArray, List.set_cons_zero, List.set_cons_succ, i64_w, i32_w]
                  rfl
                refine done_ (done_of HT_.out (by kernel_rfl)) ?_
                try go_wp2
                go_ret
                exact ⟨by first | rfl | (simp [errW_none, errW_some] <;> rfl) | (simp [*, errW_none, errW_some] <;> rfl), by repeat (first | (with_reducible first | exact HB.out | apply below_alloc | apply pw_below_drewN | apply below_drew1) | exact HB.out)⟩
              · replace c11 := Bool.eq_false_iff.mpr c11
                subst c11
                have H1 : (some false) = some r := by rw [if_neg (show ¬ (false = true) by decide)] at H; exact H
                clear H
                have H := H1
                clear H1
                exact absurd (Option.some.inj H) (fun h_ => absurd (h_.trans HRT.out) (by decide))
            · rw [if_neg c9] at H
              have c9b0 : (t142 == (-1)) = false := beq_eq_false_iff_ne.mpr c9
              have c9b1 : (t142 != (-1)) = true := bne_iff_ne.mpr c9
              exact absurd (Option.some.inj H) (fun h_ => absurd (h_.trans HRT.out) (by decide))
          · rw [if_neg c7] at H
            exact absurd H (by simp)
        · rw [if_neg c6] at H
          exact absurd H (by simp)
      · rw [if_neg c5] at H
        have c5b0 : (t131 == 2) = false := beq_eq_false_iff_ne.mpr c5
        have c5b1 : (t131 != 2) = true := bne_iff_ne.mpr c5
        exact absurd (Option.some.inj H) (fun h_ => absurd (h_.trans HRT.out) (by decide))
    · rw [if_neg c4] at H
      have c4b0 : (t129 == 0) = false := beq_eq_false_iff_ne.mpr c4
      have c4b1 : (t129 != 0) = true := bne_iff_ne.mpr c4
      exact absurd (Option.some.inj H) (fun h_ => absurd (h_.trans HRT.out) (by decide))
  · rw [if_neg c3] at H
    have c3b0 : (t128.toList == ([1, 0, 0, 0, 0, 0, 0, 0, 1, 2, 1, 3, 2, 97, 98, 0] : List UInt8)) = false := beq_eq_false_iff_ne.mpr c3
    have c3b1 : (t128.toList != ([1, 0, 0, 0, 0, 0, 0, 0, 1, 2, 1, 3, 2, 97, 98, 0] : List UInt8)) = true := bne_iff_ne.mpr c3
    exact absurd (Option.some.inj H) (fun h_ => absurd (h_.trans HRT.out) (by decide))
def weathercocklaw02_examples.f (k : Nat) : Option (Bool) := if weathercocklaw02_examples0.f k = some true then some true else none
theorem weathercocklaw02_examples.mono : ∀ k, LeO (weathercocklaw02_examples.f k) (weathercocklaw02_examples.f (k + 1)) := by
  intro k r h
  unfold weathercocklaw02_examples.f at h ⊢
  by_cases c : weathercocklaw02_examples0.f k = some true
  · rw [if_pos c] at h; rw [if_pos (weathercocklaw02_examples0.mono k true c)]; exact h
  · rw [if_neg c] at h; cases h
theorem weathercocklaw02_examples.calls (k : Nat) (r : Bool) (w : World) (h : weathercocklaw02_examples.f k = some r) :
    Calls Try.prog 10 #[] w fun e w' => e = .returned (.bool r) ∧ Below w.heap.size w w' := by
  unfold weathercocklaw02_examples.f at h
  by_cases c : weathercocklaw02_examples0.f k = some true
  · rw [if_pos c] at h
    obtain rfl := Option.some.inj h
    exact weathercocklaw02_examples0.calls k true w c rfl
  · rw [if_neg c] at h; cases h

end Go.Proofs.Ytplmfnjijhppaaa.QRowSorts
