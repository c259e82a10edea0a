import Derived.Test.YtpkhdljlhdomlaaQIndexFindsx1
import Derived.Maps.OwnSet
import Derived.Maps.Views
import Derived.Lib.SliceRun
import Derived.DeepKeys4
/- Index: walks by hand; the conditions stand in each theorem. -/
namespace Go.Proofs.Ytpkhdljlhdomlaa.QIndexFinds
open Go.RowKit Go.Proofs.YtpkhdljlhdomlaaW.PrintWords Go.Proofs.YtpkhdljlhdomlaaW.PrintLast Go.Proofs.YtpkhdljlhdomlaaW.PrintMore
attribute [local go_sem] max2_int min2_int max_two min_two max_three min_three max_four min_four
set_option linter.unusedVariables false
set_option linter.unusedSimpArgs false
structure S24 where
  f0 : Int
  f1 : Int
  f2 : ByteArray
def z24 : S24 := ⟨(0 : Int), (0 : Int), (⟨#[]⟩ : ByteArray)⟩
def k24 : Kd S24 := Kd.iso (Kd.pair (Kd.int .i64) (Kd.pair (Kd.int .i64) Kd.string)) (fun x : S24 => (x.f0, x.f1, x.f2))
theorem k24_open {w : World} {x : S24} {cs : List Value} (h : k24.K w x cs) : cs = [.int .i64 x.f0, .int .i64 x.f1, .string x.f2] := by
  obtain ⟨_, _, rfl, rfl, ⟨_, _, rfl, rfl, rfl⟩⟩ := h
  exact rfl
theorem k24_openM {w : World} {base : Nat} {ok : Nat → Prop} {x : S24} {cs : List Value} (h : k24.M w base ok x cs) : cs = [.int .i64 x.f0, .int .i64 x.f1, .string x.f2] := by
  obtain ⟨_, _, rfl, rfl, ⟨_, _, rfl, rfl, rfl⟩⟩ := h
  exact rfl
theorem k24_mk (w : World) (x : S24)  : k24.K w x [.int .i64 x.f0, .int .i64 x.f1, .string x.f2] := ⟨[.int .i64 x.f0], [.int .i64 x.f1, .string x.f2], rfl, rfl, ⟨[.int .i64 x.f1], [.string x.f2], rfl, rfl, rfl⟩⟩
theorem k24_mkM (w : World) (base : Nat) (ok : Nat → Prop) (x : S24)  : k24.M w base ok x [.int .i64 x.f0, .int .i64 x.f1, .string x.f2] := ⟨[.int .i64 x.f0], [.int .i64 x.f1, .string x.f2], rfl, rfl, ⟨[.int .i64 x.f1], [.string x.f2], rfl, rfl, rfl⟩⟩
theorem k24_mkF (W : World) (ok : Nat → Prop) (x : S24) : Kd.FK k24 W ok x [.int .i64 x.f0, .int .i64 x.f1, .string x.f2] := fun W2 _ => k24_mk W2 x
def rd_T24 (xs : List S24) (i : Int) : S24 := xs.getD i.toNat z24
theorem at_T24 {w : World} {A : Option Addr} {n : Nat} {xs : List S24} (h : Kd.C k24 w A n xs) (i : Int) (h0 : 0 ≤ i) (h1 : i < n) : ∃ ad , A = some ad ∧ w.cell? (ad.add (i.toNat * 3)) = some (.int .i64 (rd_T24 xs i).f0) ∧ w.cell? ⟨(ad.add (i.toNat * 3)).block, (ad.add (i.toNat * 3)).off + 1, none⟩ = some (.int .i64 (rd_T24 xs i).f1) ∧ w.cell? ⟨(ad.add (i.toNat * 3)).block, (ad.add (i.toNat * 3)).off + 2, none⟩ = some (.string (rd_T24 xs i).f2) := by
  obtain ⟨ad, c, e, _, hK, hc0⟩ := Kd.C_get h z24 i h0 h1
  have hc : ∀ j u, c[j]? = some u → w.cell? (ad.add (i.toNat * 3 + j)) = some u := hc0
  obtain rfl := k24_open hK
  exact ⟨ad, e, hc 0 _ rfl, by rw [← add_field _ _ 1 (by omega)]; exact hc 1 _ rfl, by rw [← add_field _ _ 2 (by omega)]; exact hc 2 _ rfl⟩

def rd_L3 (xs : List (List S24)) (i : Int) : (List S24) := xs.getD i.toNat ([] : List S24)
theorem at_L3 {w : World} {A : Option Addr} {n : Nat} {xs : List (List S24)} (h : Kd.C (Kd.slice 24 k24) w A n xs) (i : Int) (h0 : 0 ≤ i) (h1 : i < n) : ∃ ad A0 c0, A = some ad ∧ w.cell? (ad.add i.toNat) = some (.slice A0 (rd_L3 xs i).length c0) ∧ (rd_L3 xs i).length ≤ c0 ∧ k24.C w A0 (rd_L3 xs i).length (rd_L3 xs i) := by
  obtain ⟨ad, c, e, _, hK, hc0⟩ := Kd.C_get h ([] : List S24) i h0 h1
  have hc : ∀ j u, c[j]? = some u → w.cell? (ad.add (i.toNat * 1 + j)) = some u := hc0
  obtain ⟨A0, c0, rfl, l0, g0⟩ := hK
  exact ⟨ad, A0, c0, e, by have hq := hc 0 _ rfl; rwa [Nat.mul_one, Nat.add_zero] at hq, l0, g0⟩

/- BLOCK base -/
theorem ev_pos {α : Type} {c : Prop} [Decidable c] {A B : Nat → Option α} {r : α} (h : c) (k : Ev A r) : Ev (fun n => if c then A n else B n) r := Ev.congr (fun _ => if_pos h) k
theorem ev_neg {α : Type} {c : Prop} [Decidable c] {A B : Nat → Option α} {r : α} (h : ¬ c) (k : Ev B r) : Ev (fun n => if c then A n else B n) r := Ev.congr (fun _ => if_neg h) k
theorem ev_some {α : Type} (r : α) : Ev (fun _ => some r) r := Ev.now r
theorem ev_eq {α : Type} {A : Nat → Option α} {r : α} (h : ∀ k, A k = some r) : Ev A r := ⟨0, fun k _ => h k⟩
theorem w64 {n : Int} (h0 : -9223372036854775808 ≤ n) (h1 : n ≤ 9223372036854775807) : wrap64 n = n := by unfold wrap64; omega
theorem u64w {n : Int} (h0 : 0 ≤ n) (h1 : n < 18446744073709551616) : IntKind.u64.wrap n = n := by
  have : IntKind.u64.wrap n = n % 18446744073709551616 := by simp [IntKind.wrap, IntKind.bits, IntKind.signed]
  rw [this]; omega
theorem u64m (n : Int) : IntKind.u64.wrap n = n % 18446744073709551616 := by simp [IntKind.wrap, IntKind.bits, IntKind.signed]
theorem i64_bd {n : Int} (h : (Lit.int .i64 n).wf = true) : -9223372036854775808 ≤ n ∧ n ≤ 9223372036854775807 := by
  simp [Lit.wf, IntKind.min, IntKind.max, IntKind.bits, IntKind.signed] at h; omega
theorem mn_def (a b : Int) : mn a b = if b < a then b else a := rfl
theorem mx_def (a b : Int) : mx a b = if a < b then b else a := rfl
theorem rd_get (l : List Int) (i : Int) (h : i.toNat < l.length) : rd l i = l[i.toNat] := by
  unfold rd; rw [List.getD_eq_getElem?_getD, List.getElem?_eq_getElem h]; rfl
/- BLOCK valcmp: value.Compare as printed is an order -/
theorem bl_irrefl : ∀ x : List UInt8, Op.bytesLess x x = false
  | [] => rfl
  | a :: x => by simp [Op.bytesLess, bl_irrefl x]
theorem bl_trans : ∀ x y z : List UInt8, Op.bytesLess x y = true → Op.bytesLess y z = true → Op.bytesLess x z = true
  | x, [], z, h, _ => by cases x <;> simp [Op.bytesLess] at h
  | x, _ :: _, [], _, h => by simp [Op.bytesLess] at h
  | [], _ :: _, _ :: _, _, _ => rfl
  | a :: x, b :: y, c :: z, h1, h2 => by
    simp only [Op.bytesLess, Bool.or_eq_true, decide_eq_true_eq, Bool.and_eq_true, beq_iff_eq] at h1 h2 ⊢
    rcases h1 with h1 | ⟨rfl, h1⟩
    · rcases h2 with h2 | ⟨rfl, h2⟩
      · exact .inl (UInt8.lt_trans h1 h2)
      · exact .inl h1
    · rcases h2 with h2 | ⟨rfl, h2⟩
      · exact .inl h2
      · exact .inr ⟨rfl, bl_trans x y z h1 h2⟩
theorem bl_total : ∀ x y : List UInt8, Op.bytesLess x y = true ∨ x = y ∨ Op.bytesLess y x = true
  | [], [] => .inr (.inl rfl)
  | [], _ :: _ => .inl rfl
  | _ :: _, [] => .inr (.inr rfl)
  | a :: x, b :: y => by
    simp only [Op.bytesLess, Bool.or_eq_true, decide_eq_true_eq, Bool.and_eq_true, beq_iff_eq]
    rcases UInt8.lt_or_lt_of_ne (a := a) (b := b) |> fun f => (Decidable.em (a = b)).imp id f with rfl | h | h
    · rcases bl_total x y with h | rfl | h
      · exact .inl (.inr ⟨rfl, h⟩)
      · exact .inr (.inl rfl)
      · exact .inr (.inr (.inr ⟨rfl, h⟩))
    · exact .inl (.inl h)
    · exact .inr (.inr (.inl h))
structure Ord3 {α : Type} (c : α → α → Int) : Prop where
  rng : ∀ a b, -1 ≤ c a b ∧ c a b ≤ 1
  anti : ∀ a b, c a b = -c b a
  eq0 : ∀ a b, c a b = 0 ↔ a = b
  trans : ∀ a b d, c a b ≤ 0 → c b d ≤ 0 → c a d ≤ 0
theorem Ord3.strict {α : Type} {c : α → α → Int} (o : Ord3 c) {a b d : α} (h1 : c a b < 0) (h2 : c b d ≤ 0) : c a d < 0 := by
  have h3 := o.trans a b d (by omega) h2
  by_cases h : c a d = 0
  · have := (o.eq0 a d).1 h
    subst this
    have := o.anti a b
    omega
  · omega
theorem Ord3.strict' {α : Type} {c : α → α → Int} (o : Ord3 c) {a b d : α} (h1 : c a b ≤ 0) (h2 : c b d < 0) : c a d < 0 := by
  have h3 := o.trans a b d h1 (by omega)
  by_cases h : c a d = 0
  · have := (o.eq0 a d).1 h
    subst this
    have := o.anti a b
    omega
  · omega
def lexC {α β : Type} (c : α → α → Int) (d : β → β → Int) (x y : α × β) : Int := if c x.1 y.1 ≠ 0 then c x.1 y.1 else d x.2 y.2
theorem Ord3.lex {α β : Type} {c : α → α → Int} {d : β → β → Int} (o : Ord3 c) (p : Ord3 d) : Ord3 (lexC c d) where
  rng a b := by unfold lexC; split; exact o.rng _ _; exact p.rng _ _
  anti a b := by
    have h := o.anti a.1 b.1
    have h' := p.anti a.2 b.2
    unfold lexC
    by_cases e : c a.1 b.1 = 0
    · rw [if_neg (by omega), if_neg (by omega)]; exact h'
    · rw [if_pos e, if_pos (by omega)]; exact h
  eq0 a b := by
    unfold lexC
    by_cases e : c a.1 b.1 = 0
    · rw [if_neg (by omega), p.eq0]
      have := (o.eq0 _ _).1 e
      exact ⟨fun h => Prod.ext this h, fun h => congrArg Prod.snd h⟩
    · rw [if_pos e]
      exact ⟨fun h => absurd h e, fun h => absurd ((o.eq0 _ _).2 (congrArg Prod.fst h)) e⟩
  trans a b f := by
    unfold lexC
    intro h1 h2
    by_cases e1 : c a.1 b.1 = 0
    · rw [if_neg (by omega)] at h1
      have q1 := (o.eq0 _ _).1 e1
      rw [q1]
      by_cases e2 : c b.1 f.1 = 0
      · rw [if_neg (by omega)] at h2 ⊢
        exact p.trans _ _ _ h1 h2
      · rw [if_pos e2] at h2 ⊢; exact h2
    · rw [if_pos e1] at h1
      have h1' : c a.1 b.1 < 0 := by omega
      have h2' : c b.1 f.1 ≤ 0 := by
        by_cases e2 : c b.1 f.1 = 0
        · omega
        · rw [if_pos e2] at h2; exact h2
      have := o.strict h1' h2'
      rw [if_pos (by omega)]; omega
def cI (x y : Int) : Int := if x < y then -1 else if y < x then 1 else 0
theorem ordI : Ord3 cI where
  rng a b := by unfold cI; (repeat' split) <;> omega
  anti a b := by unfold cI; (repeat' split) <;> omega
  eq0 a b := by unfold cI; constructor <;> intro h <;> (repeat' split at h) <;> (try split) <;> omega
  trans a b d := by unfold cI; (repeat' split) <;> omega
def cS (x y : List UInt8) : Int := if Op.bytesLess x y = true then -1 else if x = y then 0 else 1
theorem cS_anti (a b : List UInt8) : cS a b = -cS b a := by
  unfold cS
  rcases bl_total a b with h | rfl | h
  · have h2 : ¬ Op.bytesLess b a = true := fun h' => by have := bl_trans _ _ _ h h'; rw [bl_irrefl] at this; cases this
    have h3 : ¬ b = a := fun e => by subst e; rw [bl_irrefl] at h; cases h
    rw [if_pos h, if_neg h2, if_neg h3]
  · rw [if_neg (by rw [bl_irrefl]; decide), if_pos rfl]; rfl
  · have h2 : ¬ Op.bytesLess a b = true := fun h' => by have := bl_trans _ _ _ h h'; rw [bl_irrefl] at this; cases this
    have h3 : ¬ a = b := fun e => by subst e; rw [bl_irrefl] at h; cases h
    rw [if_pos h, if_neg h2, if_neg h3]; rfl
theorem ordS : Ord3 cS where
  rng a b := by unfold cS; (repeat' split) <;> omega
  anti := cS_anti
  eq0 a b := by
    unfold cS
    by_cases h : Op.bytesLess a b = true
    · rw [if_pos h]
      exact ⟨fun h' => (by omega), fun e => (by subst e; rw [bl_irrefl] at h; cases h)⟩
    · rw [if_neg h]
      by_cases e : a = b
      · rw [if_pos e]; exact ⟨fun _ => e, fun _ => rfl⟩
      · rw [if_neg e]; exact ⟨fun h' => (by omega), fun h' => absurd h' e⟩
  trans a b d h1 h2 := by
    have key : ∀ x y : List UInt8, cS x y ≤ 0 → Op.bytesLess x y = true ∨ x = y := by
      intro x y h
      unfold cS at h
      by_cases h' : Op.bytesLess x y = true
      · exact .inl h'
      · rw [if_neg h'] at h
        by_cases e : x = y
        · exact .inr e
        · rw [if_neg e] at h; omega
    rcases key _ _ h1 with h1 | rfl
    · rcases key _ _ h2 with h2 | rfl
      · unfold cS; rw [if_pos (bl_trans _ _ _ h1 h2)]; omega
      · unfold cS; rw [if_pos h1]; omega
    · exact h2
def cV (a0 a1 : Int) (a2 : ByteArray) (b0 b1 : Int) (b2 : ByteArray) : Int := lexC cI (lexC cI cS) (a0, a1, a2.toList) (b0, b1, b2.toList)
theorem ordV : Ord3 (lexC cI (lexC cI cS)) := ordI.lex (ordI.lex ordS)
theorem cmp_int_eq (a b : Int) : cmp_Compare_int.f a b = some (cI a b) := by
  have n : ∀ x : Int, cmp_isNaN_int.f x = some false := fun x => by simp [cmp_isNaN_int.f]
  unfold cmp_Compare_int.f cI
  rw [n, n]
  simp only [Option.bind_some, if_false, Bool.false_eq_true]
  by_cases h : a < b
  · rw [if_pos h, if_pos h]
  · rw [if_neg h, if_neg h]
    by_cases h2 : a > b
    · rw [if_pos h2, if_pos (by omega)]
    · rw [if_neg h2, if_neg (by omega)]
theorem cmp_str_eq (a b : ByteArray) : cmp_Compare_string.f a b = some (cS a.toList b.toList) := rfl
theorem first3_eq (k : Nat) (a b c : Int) : value_first_int.f (k + 4) [a, b, c] = some (if a ≠ 0 then a else if b ≠ 0 then b else c) := by
  have w1 : wrap64 (0 + 1) = 1 := w64 (by omega) (by omega)
  have w2 : wrap64 (1 + 1) = 2 := w64 (by omega) (by omega)
  have w3 : wrap64 (2 + 1) = 3 := w64 (by omega) (by omega)
  have r0 : rd [a, b, c] 0 = a := rfl
  have r1 : rd [a, b, c] 1 = b := rfl
  have r2 : rd [a, b, c] 2 = c := rfl
  unfold value_first_int.f
  simp only [value_first_int.l0, List.length_cons, List.length_nil, w1, w2, w3, r0, r1, r2]
  by_cases ha : a = 0
  · subst ha
    by_cases hb : b = 0
    · subst hb
      by_cases hc : c = 0
      · subst hc; simp
      · simp [hc]
    · simp [hb]
  · simp [ha]
theorem compare_ev (a0 a1 : Int) (a2 : ByteArray) (b0 b1 : Int) (b2 : ByteArray) : Ev (fun k => value_Compare.f k a0 a1 a2 b0 b1 b2) (cV a0 a1 a2 b0 b1 b2) := by
  refine ⟨4, fun k hk => ?_⟩
  obtain ⟨k, rfl⟩ : ∃ m, k = m + 4 := ⟨k - 4, by omega⟩
  show value_Compare.f (k + 4) a0 a1 a2 b0 b1 b2 = _
  unfold value_Compare.f
  rw [cmp_int_eq, Option.bind_some, cmp_int_eq, Option.bind_some, cmp_str_eq, Option.bind_some, first3_eq, Option.bind_some]
  rfl
theorem s24_ext {x y : S24} (h0 : x.f0 = y.f0) (h1 : x.f1 = y.f1) (h2 : x.f2 = y.f2) : x = y := by
  cases x; cases y; simp_all
theorem ba_eq {a b : ByteArray} (h : a.toList = b.toList) : a = b := by
  rw [ByteArray.toList_eq, ByteArray.toList_eq] at h
  cases a with
  | mk x => cases b with
    | mk y => simpa using h
def cVs (x y : S24) : Int := cV x.f0 x.f1 x.f2 y.f0 y.f1 y.f2
theorem ordVs : Ord3 cVs where
  rng a b := ordV.rng _ _
  anti a b := ordV.anti _ _
  eq0 a b := by
    have h := ordV.eq0 (a.f0, a.f1, a.f2.toList) (b.f0, b.f1, b.f2.toList)
    constructor
    · intro e
      have := h.1 e
      simp only [Prod.mk.injEq] at this
      exact s24_ext this.1 this.2.1 (ba_eq this.2.2)
    · rintro rfl
      exact h.2 rfl
  trans a b d := ordV.trans _ _ _

/- A value as it stands in the machine. -/
def encV (x : S24) : Value := .agg #[.int .i64 x.f0, .int .i64 x.f1, .string x.f2]
def okS (x : S24) : Prop := (Lit.int .i64 x.f0).wf = true ∧ (Lit.int .i64 x.f1).wf = true ∧ x.f2.size ≤ maxLen
theorem value_cmp (x y : S24) (w : World) : Calls Try.prog 11 #[encV x, encV y] w fun e w' => e = .returned (.int .i64 (cVs x y)) ∧ Below w.heap.size w w' := by
  obtain ⟨k, h⟩ := (compare_ev x.f0 x.f1 x.f2 y.f0 y.f1 y.f2).rounds
  exact value_Compare.calls k _ _ _ _ _ _ _ w h
theorem laidOut_ : laidOutB Try.prog = true := by kernel_rfl
theorem key_law : Go.Maps.Keyed Try.prog 24 := Go.Maps.Keyed.of_law (deep_law_laid laidOut_ (m := 2) (by omega) (of_decide_eq_true (by kernel_rfl)) (by kernel_rfl) (by rw [Try.underlying24]))
def keyL (x : S24) : Lit := .string (keyBytes [.int .i64 x.f0, .int .i64 x.f1, .string x.f2.data.toList])
theorem types_size : Try.prog.types.size = 78 := by kernel_rfl
theorem cells24 : Try.prog.cellsOf 24 = 3 := by kernel_rfl
theorem cells3 : Try.prog.cellsOf 3 = 1 := by kernel_rfl
theorem cells9 : Try.prog.cellsOf 9 = 1 := by kernel_rfl
theorem key_type : Try.prog.keyType 24 = true := by kernel_rfl
theorem formed24 (a b c : Value) : (Value.agg #[a, b, c]).formed Try.prog 24 = true := by simp [Value.formed, Try.underlying24, cells24]
theorem keyLits_one (n : Nat) (cs : List Value) (a b : Int) (s : ByteArray) (h0 : (Lit.int .i64 a).wf = true) (h1 : (Lit.int .i64 b).wf = true) (h2 : s.size ≤ maxLen) : Try.prog.keyLits (n + 2) 24 [.int .i64 a, .int .i64 b, .string s] = some [.int .i64 a, .int .i64 b, .string s.data.toList] := by
  simp [Program.keyLits, Try.underlying24, Try.underlying3, Try.underlying9, cells24, cells3, cells9, h0, h1, h2]
theorem key_of (x : S24) (h : okS x) : keyOf Try.prog 24 (encV x) = some (keyL x) := by
  obtain ⟨h0, h1, h2⟩ := h
  unfold keyOf
  rw [Try.underlying24]
  simp only [encV, key_type, formed24, Bool.and_self, if_true, types_size]
  have := keyLits_one 77 [] x.f0 x.f1 x.f2 h0 h1 h2
  rw [show (Value.agg #[Value.int .i64 x.f0, .int .i64 x.f1, .string x.f2]).cells.toList = [.int .i64 x.f0, .int .i64 x.f1, .string x.f2] from rfl, this]
  rfl

end Go.Proofs.Ytpkhdljlhdomlaa.QIndexFinds
