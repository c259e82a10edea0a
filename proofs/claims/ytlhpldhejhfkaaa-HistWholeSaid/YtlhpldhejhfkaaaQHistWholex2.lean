-- Written by wip/tools/myprint.py of this project (the kit's printer with lines replaced in memory, and texts of ours)
import Derived.Test.YtlhpldhejhfkaaaQHistWholex0
import Derived.Test.YtlhpldhejhfkaaaQHistWholex1
namespace Go.Proofs.Ytlhpldhejhfkaaa.QHistWhole
open Go.RowKit Go.Proofs.YtlhpldhejhfkaaaW.PrintWords Go.Proofs.YtlhpldhejhfkaaaW.PrintLast Go.Proofs.YtlhpldhejhfkaaaW.PrintMore
attribute [local go_sem] max2_int min2_int max_two min_two max_three min_three max_four min_four   -- for this text's walks alone
set_option linter.unusedVariables false
set_option linter.unusedSimpArgs false

/-! ### hist_Below: function 22 -/
/- BLOCK base -/
theorem ev_pos {α : Type} {c : Prop} [Decidable c] {A B : Nat → Option α} {r : α} (h : c) (k : Ev A r) : Ev (fun n => if c then A n else B n) r := Ev.congr (fun _ => if_pos h) k
theorem ev_neg {α : Type} {c : Prop} [Decidable c] {A B : Nat → Option α} {r : α} (h : ¬ c) (k : Ev B r) : Ev (fun n => if c then A n else B n) r := Ev.congr (fun _ => if_neg h) k
theorem ev_some {α : Type} (r : α) : Ev (fun _ => some r) r := Ev.now r
theorem ev_eq {α : Type} {A : Nat → Option α} {r : α} (h : ∀ k, A k = some r) : Ev A r := ⟨0, fun k _ => h k⟩
theorem w64 {n : Int} (h0 : -9223372036854775808 ≤ n) (h1 : n ≤ 9223372036854775807) : wrap64 n = n := by unfold wrap64; omega
theorem u64w {n : Int} (h0 : 0 ≤ n) (h1 : n < 18446744073709551616) : IntKind.u64.wrap n = n := by
  have : IntKind.u64.wrap n = n % 18446744073709551616 := by simp [IntKind.wrap, IntKind.bits, IntKind.signed]
  rw [this]; omega
theorem u64m (n : Int) : IntKind.u64.wrap n = n % 18446744073709551616 := by simp [IntKind.wrap, IntKind.bits, IntKind.signed]
theorem i64_bd {n : Int} (h : (Lit.int .i64 n).wf = true) : -9223372036854775808 ≤ n ∧ n ≤ 9223372036854775807 := by
  simp [Lit.wf, IntKind.min, IntKind.max, IntKind.bits, IntKind.signed] at h; omega
theorem mn_def (a b : Int) : mn a b = if b < a then b else a := rfl
theorem mx_def (a b : Int) : mx a b = if a < b then b else a := rfl
theorem rd_get (l : List Int) (i : Int) (h : i.toNat < l.length) : rd l i = l[i.toNat] := by
  unfold rd; rw [List.getD_eq_getElem?_getD, List.getElem?_eq_getElem h]; rfl
/- BLOCK valcmp: value.Compare as printed is an order -/
theorem bl_irrefl : ∀ x : List UInt8, Op.bytesLess x x = false
  | [] => rfl
  | a :: x => by simp [Op.bytesLess, bl_irrefl x]
theorem bl_trans : ∀ x y z : List UInt8, Op.bytesLess x y = true → Op.bytesLess y z = true → Op.bytesLess x z = true
  | x, [], z, h, _ => by cases x <;> simp [Op.bytesLess] at h
  | x, _ :: _, [], _, h => by simp [Op.bytesLess] at h
  | [], _ :: _, _ :: _, _, _ => rfl
  | a :: x, b :: y, c :: z, h1, h2 => by
    simp only [Op.bytesLess, Bool.or_eq_true, decide_eq_true_eq, Bool.and_eq_true, beq_iff_eq] at h1 h2 ⊢
    rcases h1 with h1 | ⟨rfl, h1⟩
    · rcases h2 with h2 | ⟨rfl, h2⟩
      · exact .inl (UInt8.lt_trans h1 h2)
      · exact .inl h1
    · rcases h2 with h2 | ⟨rfl, h2⟩
      · exact .inl h2
      · exact .inr ⟨rfl, bl_trans x y z h1 h2⟩
theorem bl_total : ∀ x y : List UInt8, Op.bytesLess x y = true ∨ x = y ∨ Op.bytesLess y x = true
  | [], [] => .inr (.inl rfl)
  | [], _ :: _ => .inl rfl
  | _ :: _, [] => .inr (.inr rfl)
  | a :: x, b :: y => by
    simp only [Op.bytesLess, Bool.or_eq_true, decide_eq_true_eq, Bool.and_eq_true, beq_iff_eq]
    rcases UInt8.lt_or_lt_of_ne (a := a) (b := b) |> fun f => (Decidable.em (a = b)).imp id f with rfl | h | h
    · rcases bl_total x y with h | rfl | h
      · exact .inl (.inr ⟨rfl, h⟩)
      · exact .inr (.inl rfl)
      · exact .inr (.inr (.inr ⟨rfl, h⟩))
    · exact .inl (.inl h)
    · exact .inr (.inr (.inl h))
structure Ord3 {α : Type} (c : α → α → Int) : Prop where
  rng : ∀ a b, -1 ≤ c a b ∧ c a b ≤ 1
  anti : ∀ a b, c a b = -c b a
  eq0 : ∀ a b, c a b = 0 ↔ a = b
  trans : ∀ a b d, c a b ≤ 0 → c b d ≤ 0 → c a d ≤ 0
theorem Ord3.strict {α : Type} {c : α → α → Int} (o : Ord3 c) {a b d : α} (h1 : c a b < 0) (h2 : c b d ≤ 0) : c a d < 0 := by
  have h3 := o.trans a b d (by omega) h2
  by_cases h : c a d = 0
  · have := (o.eq0 a d).1 h
    subst this
    have := o.anti a b
    omega
  · omega
theorem Ord3.strict' {α : Type} {c : α → α → Int} (o : Ord3 c) {a b d : α} (h1 : c a b ≤ 0) (h2 : c b d < 0) : c a d < 0 := by
  have h3 := o.trans a b d h1 (by omega)
  by_cases h : c a d = 0
  · have := (o.eq0 a d).1 h
    subst this
    have := o.anti a b
    omega
  · omega
def lexC {α β : Type} (c : α → α → Int) (d : β → β → Int) (x y : α × β) : Int := if c x.1 y.1 ≠ 0 then c x.1 y.1 else d x.2 y.2
theorem Ord3.lex {α β : Type} {c : α → α → Int} {d : β → β → Int} (o : Ord3 c) (p : Ord3 d) : Ord3 (lexC c d) where
  rng a b := by unfold lexC; split; exact o.rng _ _; exact p.rng _ _
  anti a b := by
    have h := o.anti a.1 b.1
    have h' := p.anti a.2 b.2
    unfold lexC
    by_cases e : c a.1 b.1 = 0
    · rw [if_neg (by omega), if_neg (by omega)]; exact h'
    · rw [if_pos e, if_pos (by omega)]; exact h
  eq0 a b := by
    unfold lexC
    by_cases e : c a.1 b.1 = 0
    · rw [if_neg (by omega), p.eq0]
      have := (o.eq0 _ _).1 e
      exact ⟨fun h => Prod.ext this h, fun h => congrArg Prod.snd h⟩
    · rw [if_pos e]
      exact ⟨fun h => absurd h e, fun h => absurd ((o.eq0 _ _).2 (congrArg Prod.fst h)) e⟩
  trans a b f := by
    unfold lexC
    intro h1 h2
    by_cases e1 : c a.1 b.1 = 0
    · rw [if_neg (by omega)] at h1
      have q1 := (o.eq0 _ _).1 e1
      rw [q1]
      by_cases e2 : c b.1 f.1 = 0
      · rw [if_neg (by omega)] at h2 ⊢
        exact p.trans _ _ _ h1 h2
      · rw [if_pos e2] at h2 ⊢; exact h2
    · rw [if_pos e1] at h1
      have h1' : c a.1 b.1 < 0 := by omega
      have h2' : c b.1 f.1 ≤ 0 := by
        by_cases e2 : c b.1 f.1 = 0
        · omega
        · rw [if_pos e2] at h2; exact h2
      have := o.strict h1' h2'
      rw [if_pos (by omega)]; omega
def cI (x y : Int) : Int := if x < y then -1 else if y < x then 1 else 0
theorem ordI : Ord3 cI where
  rng a b := by unfold cI; (repeat' split) <;> omega
  anti a b := by unfold cI; (repeat' split) <;> omega
  eq0 a b := by unfold cI; constructor <;> intro h <;> (repeat' split at h) <;> (try split) <;> omega
  trans a b d := by unfold cI; (repeat' split) <;> omega
def cS (x y : List UInt8) : Int := if Op.bytesLess x y = true then -1 else if x = y then 0 else 1
theorem cS_anti (a b : List UInt8) : cS a b = -cS b a := by
  unfold cS
  rcases bl_total a b with h | rfl | h
  · have h2 : ¬ Op.bytesLess b a = true := fun h' => by have := bl_trans _ _ _ h h'; rw [bl_irrefl] at this; cases this
    have h3 : ¬ b = a := fun e => by subst e; rw [bl_irrefl] at h; cases h
    rw [if_pos h, if_neg h2, if_neg h3]
  · rw [if_neg (by rw [bl_irrefl]; decide), if_pos rfl]; rfl
  · have h2 : ¬ Op.bytesLess a b = true := fun h' => by have := bl_trans _ _ _ h h'; rw [bl_irrefl] at this; cases this
    have h3 : ¬ a = b := fun e => by subst e; rw [bl_irrefl] at h; cases h
    rw [if_pos h, if_neg h2, if_neg h3]; rfl
theorem ordS : Ord3 cS where
  rng a b := by unfold cS; (repeat' split) <;> omega
  anti := cS_anti
  eq0 a b := by
    unfold cS
    by_cases h : Op.bytesLess a b = true
    · rw [if_pos h]
      exact ⟨fun h' => (by omega), fun e => (by subst e; rw [bl_irrefl] at h; cases h)⟩
    · rw [if_neg h]
      by_cases e : a = b
      · rw [if_pos e]; exact ⟨fun _ => e, fun _ => rfl⟩
      · rw [if_neg e]; exact ⟨fun h' => (by omega), fun h' => absurd h' e⟩
  trans a b d h1 h2 := by
    have key : ∀ x y : List UInt8, cS x y ≤ 0 → Op.bytesLess x y = true ∨ x = y := by
      intro x y h
      unfold cS at h
      by_cases h' : Op.bytesLess x y = true
      · exact .inl h'
      · rw [if_neg h'] at h
        by_cases e : x = y
        · exact .inr e
        · rw [if_neg e] at h; omega
    rcases key _ _ h1 with h1 | rfl
    · rcases key _ _ h2 with h2 | rfl
      · unfold cS; rw [if_pos (bl_trans _ _ _ h1 h2)]; omega
      · unfold cS; rw [if_pos h1]; omega
    · exact h2
def cV (a0 a1 : Int) (a2 : ByteArray) (b0 b1 : Int) (b2 : ByteArray) : Int := lexC cI (lexC cI cS) (a0, a1, a2.toList) (b0, b1, b2.toList)
theorem ordV : Ord3 (lexC cI (lexC cI cS)) := ordI.lex (ordI.lex ordS)
theorem cmp_int_eq (a b : Int) : cmp_Compare_int.f a b = some (cI a b) := by
  have n : ∀ x : Int, cmp_isNaN_int.f x = some false := fun x => by simp [cmp_isNaN_int.f]
  unfold cmp_Compare_int.f cI
  rw [n, n]
  simp only [Option.bind_some, if_false, Bool.false_eq_true]
  by_cases h : a < b
  · rw [if_pos h, if_pos h]
  · rw [if_neg h, if_neg h]
    by_cases h2 : a > b
    · rw [if_pos h2, if_pos (by omega)]
    · rw [if_neg h2, if_neg (by omega)]
theorem cmp_str_eq (a b : ByteArray) : cmp_Compare_string.f a b = some (cS a.toList b.toList) := rfl
theorem first3_eq (k : Nat) (a b c : Int) : value_first_int.f (k + 4) [a, b, c] = some (if a ≠ 0 then a else if b ≠ 0 then b else c) := by
  have w1 : wrap64 (0 + 1) = 1 := w64 (by omega) (by omega)
  have w2 : wrap64 (1 + 1) = 2 := w64 (by omega) (by omega)
  have w3 : wrap64 (2 + 1) = 3 := w64 (by omega) (by omega)
  have r0 : rd [a, b, c] 0 = a := rfl
  have r1 : rd [a, b, c] 1 = b := rfl
  have r2 : rd [a, b, c] 2 = c := rfl
  unfold value_first_int.f
  simp only [value_first_int.l0, List.length_cons, List.length_nil, w1, w2, w3, r0, r1, r2]
  by_cases ha : a = 0
  · subst ha
    by_cases hb : b = 0
    · subst hb
      by_cases hc : c = 0
      · subst hc; simp
      · simp [hc]
    · simp [hb]
  · simp [ha]
theorem compare_ev (a0 a1 : Int) (a2 : ByteArray) (b0 b1 : Int) (b2 : ByteArray) : Ev (fun k => value_Compare.f k a0 a1 a2 b0 b1 b2) (cV a0 a1 a2 b0 b1 b2) := by
  refine ⟨4, fun k hk => ?_⟩
  obtain ⟨k, rfl⟩ : ∃ m, k = m + 4 := ⟨k - 4, by omega⟩
  show value_Compare.f (k + 4) a0 a1 a2 b0 b1 b2 = _
  unfold value_Compare.f
  rw [cmp_int_eq, Option.bind_some, cmp_int_eq, Option.bind_some, cmp_str_eq, Option.bind_some, first3_eq, Option.bind_some]
  rfl
theorem value_Compare.pure (a0 a1 : Int) (a2 : ByteArray) (b0 b1 : Int) (b2 : ByteArray) (w : World) :
    Calls Try.prog 24 #[.agg #[.int .i64 a0, .int .i64 a1, .string a2], .agg #[.int .i64 b0, .int .i64 b1, .string b2]] w fun e w' => e = .returned (.int .i64 (cV a0 a1 a2 b0 b1 b2)) ∧ Below w.heap.size w w' := by
  obtain ⟨k, h⟩ := (compare_ev a0 a1 a2 b0 b1 b2).rounds
  exact value_Compare.calls k a0 a1 a2 b0 b1 b2 _ w h
theorem cells_later {w w1 : World} {p : Addr} {v : Value} (hb : Below w.heap.size w w1) (h : w.cell? p = some v) : w1.cell? p = some v := (hb.cell (World.block_lt_of_cell? w _ h)).trans h
theorem belowA_later {W w w1 : World} (hb : Below w.heap.size w w1) (h : Aside0 (Below W.heap.size W w)) : Aside0 (Below W.heap.size W w1) := ⟨below_step h.out hb⟩
theorem cells_later' {w w1 : World} {p : Addr} {v : Value} (hb : Below w.heap.size w w1) (h : w.cell? p = some v) : w1.cell? p = some v := cells_later hb h
theorem bcell_' {W w1 : World} (hb : Below W.heap.size W w1) : (∀ b o, b < W.heap.size → w1.cell? ⟨b, o, none⟩ = W.cell? ⟨b, o, none⟩) ∧ (∀ b o, b < W.heap.size → w1.frozen? ⟨b, o, none⟩ = W.frozen? ⟨b, o, none⟩) :=
  ⟨fun b o h => hb.cell (p := ⟨b, o, none⟩) h, fun b o h => hb.frozen (p := ⟨b, o, none⟩) h⟩
theorem cells_b0 {W : World} {o : Obj} {p : Addr} {v : Value} (h : W.cell? p = some v) : (W.alloc o).drew.cell? p = some v := cells_later (below_drew1 (below_alloc (Below.refl _ _) _)) h
theorem cells_a0 {W : World} {o : Obj} {p : Addr} {v : Value} (h : W.cell? p = some v) : (W.alloc o).cell? p = some v := cells_later (below_alloc (Below.refl _ _) _) h
theorem below_b0 {W : World} {o : Obj} : Aside0 (Below W.heap.size W (W.alloc o).drew) := ⟨below_drew1 (below_alloc (Below.refl _ _) _)⟩
def belowP (v : S31) (most : Int) (s : S39) : Bool := decide (cV s.f0.f0 s.f0.f1 s.f0.f2 v.f0 v.f1 v.f2 ≤ most)
def hist_Below.f (a0_0 : Int) (a0_1 : Int) (l0_2 : List (S39)) (a1_0 : Int) (a1_1 : Int) (a1_2 : ByteArray) (a2 : Bool) : Option (Int) := some (someI (belowP ⟨a1_0, a1_1, a1_2⟩ (if a2 = true then 0 else -1)) l0_2)
set_option maxHeartbeats 2000000 in
theorem below_closure (W : World) (g gm : Nat) (v : S31) (most : Int) (s : S39) (h0 : W.cell? ⟨g, 0, none⟩ = some (.int .i64 v.f0)) (h1 : W.cell? ⟨g, 1, none⟩ = some (.int .i64 v.f1)) (h2 : W.cell? ⟨g, 2, none⟩ = some (.string v.f2)) (h3 : W.cell? ⟨gm, 0, none⟩ = some (.int .i64 most)) :
    Calls Try.prog 31 #[.agg #[.int .i64 s.f0.f0, .int .i64 s.f0.f1, .string s.f0.f2, .int .i64 s.f1], .pointer (some ⟨g, 0, none⟩), .pointer (some ⟨gm, 0, none⟩)] W fun e w' => e = .returned (.bool (belowP v most s)) ∧ Below W.heap.size W w' := by
  have hu := Try.underlying39
  have hu2 := Try.underlying31
  have l0 := World.block_lt_of_cell? W _ h0
  have l3 := World.block_lt_of_cell? W _ h3
  simp only at l0 l3
  go_enter Try.func31, Try.ntmps31
  go_wp2
  go_region_held3 (fun w' => w'.cell? ⟨W.heap.size, 0, none⟩ = some (.int .i64 s.f0.f0) ∧ w'.cell? ⟨W.heap.size, 1, none⟩ = some (.int .i64 s.f0.f1) ∧ w'.cell? ⟨W.heap.size, 2, none⟩ = some (.string s.f0.f2) ∧ w'.cell? ⟨g, 0, none⟩ = some (.int .i64 v.f0) ∧ w'.cell? ⟨g, 1, none⟩ = some (.int .i64 v.f1) ∧ w'.cell? ⟨g, 2, none⟩ = some (.string v.f2) ∧ w'.cell? ⟨gm, 0, none⟩ = some (.int .i64 most) ∧ Aside0 (Below W.heap.size W w'))
    (first | (refine ⟨?_, ?_, ?_, ?_, ?_, ?_, ?_, ?_⟩ <;> (first | assumption | exact cells_later (by assumption) (by assumption) | exact belowA_later (by assumption) (by assumption) | exact below_b0 | exact belowA_later (by assumption) below_b0 | exact cells_b0 (by assumption) | exact cells_later (by assumption) (cells_b0 (by assumption)) | (refine cells_later (by assumption) ?_; simp [*]; done) | (simp [*]; done))) | (first | assumption | exact cells_later (by assumption) (by assumption) | exact belowA_later (by assumption) (by assumption) | exact below_b0 | exact belowA_later (by assumption) below_b0 | exact cells_b0 (by assumption) | exact cells_later (by assumption) (cells_b0 (by assumption)) | (refine cells_later (by assumption) ?_; simp [*]; done) | (simp [*]; done)))
    (first | (go_at_call 24; refine (value_Compare.pure s.f0.f0 s.f0.f1 s.f0.f2 v.f0 v.f1 v.f2 _).mono ?_; rintro e w' ⟨rfl, hb⟩))
  all_goals
    go_wp2
    go_ret
    first | exact ⟨rfl, Aside0.out (by assumption)⟩ | (rename_i hh_; exact ⟨rfl, hh_.2.2.2.2.2.2.2.out⟩)
set_option maxHeartbeats 2000000 in
theorem hist_some_below (a0_0 : Int) (a0_1 : Int) (A0_2 : Option Addr) (c0_2 : Nat) (l : List (S39)) (g gm : Nat) (v : S31) (most : Int) (w : World) (hr : Kd.C k39 w A0_2 l.length l) (hlen : l.length ≤ 9223372036854775807)
    (h0 : w.cell? ⟨g, 0, none⟩ = some (.int .i64 v.f0)) (h1 : w.cell? ⟨g, 1, none⟩ = some (.int .i64 v.f1)) (h2 : w.cell? ⟨g, 2, none⟩ = some (.string v.f2)) (h3 : w.cell? ⟨gm, 0, none⟩ = some (.int .i64 most)) :
    Calls Try.prog 29 #[.agg #[.int .i64 a0_0, .int .i64 a0_1, .slice A0_2 l.length c0_2], .func (.func 31) #[] #[.pointer (some ⟨g, 0, none⟩), .pointer (some ⟨gm, 0, none⟩)]] w fun e w' => e = .returned (.int .i64 (someI (belowP v most) l)) ∧ Below w.heap.size w w' := by
  have hu := Try.underlying29
  have hu2 := Try.underlying39
  have HR := Aside0.mk hr
  have H0 := Aside0.mk h0
  have H1 := Aside0.mk h1
  have H2 := Aside0.mk h2
  have H3 := Aside0.mk h3
  clear hr h0 h1 h2 h3
  go_enter Try.func29, Try.ntmps29
  go_wp2
  go_loopw [5, 11] (fun n i wr => ∃ k : Nat, k ≤ l.length ∧ i = .int .i64 k ∧ n = .int .i64 (someI (belowP v most) (l.take k)) ∧ Aside0 (Below w.heap.size w wr)) (fun _ i _ => l.length - (intOf i).toNat)
  case atStart => exact ⟨0, Nat.zero_le _, rfl, rfl, ⟨below_alloc (Below.refl _ _) _⟩⟩
  case round =>
    obtain ⟨k, hk, rfl, rfl, HB⟩ := hrel
    by_cases hlt : k < l.length
    · obtain ⟨ad, e, hx0, hx1, hx2, hx3⟩ := at_T39 HR.out (k : Int) (by omega) (by omega)
      cases e
      replace hx0 := cells_later' HB.out hx0
      replace hx1 := cells_later' HB.out hx1
      replace hx2 := cells_later' HB.out hx2
      replace hx3 := cells_later' HB.out hx3
      have e0 : rd_T39 l (k : Int) = l[k] := by unfold rd_T39; rw [Int.toNat_natCast, List.getD_eq_getElem?_getD, List.getElem?_eq_getElem hlt]; rfl
      rw [e0] at hx0 hx1 hx2 hx3
      rw [Int.toNat_natCast] at hx0 hx1 hx2 hx3
      have HS := Aside0.mk (someI_snoc (belowP v most) (l.take k) l[k])
      have HT := Aside0.mk (List.take_succ_eq_append_getElem hlt)
      clear e0
      have k0 := cells_later' HB.out H0.out
      have k1 := cells_later' HB.out H1.out
      have k2 := cells_later' HB.out H2.out
      have k3 := cells_later' HB.out H3.out
      have lg := World.block_lt_of_cell? wr _ k0
      have lm := World.block_lt_of_cell? wr _ k3
      simp only at lg lm
      have hpb : belowP v most l[k] = true ∨ belowP v most l[k] = false := by cases belowP v most l[k] <;> simp
      rcases hpb with hp | hp
      all_goals
        have HP := Aside0.mk hp
        go_wp2_with (first | (go_at_call 12; (with_reducible refine (hist_Add.calls (someI (belowP v most) (l.take k)) l[k].f1 _ _ (histAdd_some _ _)).mono ?_); rintro e w2 ⟨rfl, hb⟩; have HB2 : Aside0 (Below w.heap.size w w2) := Aside0.mk (below_step (Aside0.out (by assumption)) hb); clear hb) | (go_at_call 31; refine (below_closure _ g gm v most l[k] ?qa ?qb ?qc ?qd).mono ?_; (case qa => exact cells_a0 k0); (case qb => exact cells_a0 k1); (case qc => exact cells_a0 k2); (case qd => exact cells_a0 k3); rw [HP.out]; rintro e w1 ⟨rfl, hb⟩; obtain ⟨hc, hf⟩ := bcell_' hb; have HB1 : Aside0 (Below w.heap.size w w1) := Aside0.mk (below_step (by repeat (first | exact HB.out | apply below_alloc)) hb); clear hb HB))
      · go_roundw
        case rel => exact ⟨k + 1, by omega, by go_num, by rw [HT.out, HS.out, if_pos HP.out], Aside0.mk (Aside0.out (by assumption))⟩
        case measure => simp [intOf]; omega
      · go_roundw
        case rel => exact ⟨k + 1, by omega, by go_num, by rw [HT.out, HS.out, if_neg (by rw [HP.out]; decide)], Aside0.mk (Aside0.out (by assumption))⟩
        case measure => simp [intOf]; omega
    · have hk' : k = l.length := by omega
      have HE := Aside0.mk (show l.take k = l by rw [hk']; exact List.take_length)
      have hle : l.length ≤ k := by omega
      clear hk'
      go_wp2
      go_ret
      exact ⟨by first | rfl | (rw [HE.out]; rfl), HB.out⟩
set_option maxHeartbeats 2000000 in
theorem hist_Below.calls (a0_0 : Int) (a0_1 : Int) (A0_2 : Option Addr) (c0_2 : Nat) (l0_2 : List (S39)) (a1_0 : Int) (a1_1 : Int) (a1_2 : ByteArray) (a2 : Bool) (r : Int) (w : World) (hr0_2 : Kd.C k39 w A0_2 l0_2.length l0_2) (hc0_2 : l0_2.length ≤ c0_2) (h : hist_Below.f a0_0 a0_1 l0_2 a1_0 a1_1 a1_2 a2 = some r) :
    Calls Try.prog 22 #[.agg #[.int .i64 a0_0, .int .i64 a0_1, .slice A0_2 l0_2.length c0_2], .agg #[.int .i64 a1_0, .int .i64 a1_1, .string a1_2], .bool a2] w fun e w' => e = .returned (.int .i64 r) ∧ Below w.heap.size w w' := by
  obtain rfl := Option.some.inj h
  clear h
  have hu := Try.underlying29
  have hu2 := Try.underlying31
  have HR := Aside0.mk hr0_2
  have HL := Aside0.mk hr0_2.2.1
  clear hr0_2
  cases a2 with
  | true =>
    go_enter Try.func22, Try.ntmps22
    go_wp2_with (go_at_call 29; go_loud (refine (hist_some_below a0_0 a0_1 A0_2 c0_2 l0_2 (w.heap.size + 1) (w.heap.size + 1 + 1) ⟨a1_0, a1_1, a1_2⟩ (0) _ (Kd.C_below HR.out ?qz) HL.out ?qe ?qf ?qg ?qh).mono ?_); (case qz => repeat (first | exact Below.refl _ _ | apply below_alloc)); (case qe => first | (go_simp; done) | (simp; done)); (case qf => first | (go_simp; done) | (simp; done)); (case qg => first | (go_simp; done) | (simp; done)); (case qh => first | (go_simp; done) | (simp; done)); rintro e w1 ⟨rfl, hb⟩; have HB1 : Aside0 (Below w.heap.size w w1) := Aside0.mk (below_step (by repeat (first | exact Below.refl _ _ | apply below_alloc)) hb); clear hb)
    go_ret
    exact ⟨rfl, Aside0.out (by assumption)⟩
  | false =>
    go_enter Try.func22, Try.ntmps22
    go_wp2_with (go_at_call 29; go_loud (refine (hist_some_below a0_0 a0_1 A0_2 c0_2 l0_2 (w.heap.size + 1) (w.heap.size + 1 + 1) ⟨a1_0, a1_1, a1_2⟩ (-1) _ (Kd.C_below HR.out ?qz) HL.out ?qe ?qf ?qg ?qh).mono ?_); (case qz => repeat (first | exact Below.refl _ _ | apply below_alloc)); (case qe => first | (go_simp; done) | (simp; done)); (case qf => first | (go_simp; done) | (simp; done)); (case qg => first | (go_simp; done) | (simp; done)); (case qh => first | (go_simp; done) | (simp; done)); rintro e w1 ⟨rfl, hb⟩; have HB1 : Aside0 (Below w.heap.size w w1) := Aside0.mk (below_step (by repeat (first | exact Below.refl _ _ | apply below_alloc)) hb); clear hb)
    go_ret
    exact ⟨rfl, Aside0.out (by assumption)⟩

end Go.Proofs.Ytlhpldhejhfkaaa.QHistWhole
