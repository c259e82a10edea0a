import Derived.Test.YtmnjaihalajhcaaDoorPlCo
import Derived.Lib.Mul64
import Derived.Laws.MathBits
/- Plan: walks by hand; the conditions stand in each theorem. -/
namespace Go.Proofs.YtmnjaihalajhcaaDoor.QPlanConds
open Go.RowKit Go.Proofs.YtmnjaihalajhcaaDoorW.PrintWords Go.Proofs.YtmnjaihalajhcaaDoorW.PrintLast Go.Proofs.YtmnjaihalajhcaaDoorW.PrintMore
attribute [local go_sem] max2_int min2_int max_two min_two max_three min_three max_four min_four
set_option linter.unusedVariables false
set_option linter.unusedSimpArgs false
/- BLOCK base -/
theorem ev_pos {α : Type} {c : Prop} [Decidable c] {A B : Nat → Option α} {r : α} (h : c) (k : Ev A r) : Ev (fun n => if c then A n else B n) r := Ev.congr (fun _ => if_pos h) k
theorem ev_neg {α : Type} {c : Prop} [Decidable c] {A B : Nat → Option α} {r : α} (h : ¬ c) (k : Ev B r) : Ev (fun n => if c then A n else B n) r := Ev.congr (fun _ => if_neg h) k
theorem ev_some {α : Type} (r : α) : Ev (fun _ => some r) r := Ev.now r
theorem ev_eq {α : Type} {A : Nat → Option α} {r : α} (h : ∀ k, A k = some r) : Ev A r := ⟨0, fun k _ => h k⟩
theorem w64 {n : Int} (h0 : -9223372036854775808 ≤ n) (h1 : n ≤ 9223372036854775807) : wrap64 n = n := by unfold wrap64; omega
theorem u64w {n : Int} (h0 : 0 ≤ n) (h1 : n < 18446744073709551616) : IntKind.u64.wrap n = n := by
  have : IntKind.u64.wrap n = n % 18446744073709551616 := by simp [IntKind.wrap, IntKind.bits, IntKind.signed]
  rw [this]; omega
theorem u64m (n : Int) : IntKind.u64.wrap n = n % 18446744073709551616 := by simp [IntKind.wrap, IntKind.bits, IntKind.signed]
theorem i64_bd {n : Int} (h : (Lit.int .i64 n).wf = true) : -9223372036854775808 ≤ n ∧ n ≤ 9223372036854775807 := by
  simp [Lit.wf, IntKind.min, IntKind.max, IntKind.bits, IntKind.signed] at h; omega
theorem mn_def (a b : Int) : mn a b = if b < a then b else a := rfl
theorem mx_def (a b : Int) : mx a b = if a < b then b else a := rfl
theorem rd_get (l : List Int) (i : Int) (h : i.toNat < l.length) : rd l i = l[i.toNat] := by
  unfold rd; rw [List.getD_eq_getElem?_getD, List.getElem?_eq_getElem h]; rfl

/- BLOCK clip: what hist.Clip, Add, Mul compute -/
def clipI (x : Int) : Int := mn (mx x 0) 1000000000000
theorem clip_b (x : Int) : 0 ≤ clipI x ∧ clipI x ≤ 1000000000000 := by unfold clipI mn mx; (repeat' split) <;> omega
theorem clip_id {x : Int} (h0 : 0 ≤ x) (h1 : x ≤ 1000000000000) : clipI x = x := by unfold clipI mn mx; (repeat' split) <;> omega
theorem clip_hi {x : Int} (h1 : 1000000000000 ≤ x) : clipI x = 1000000000000 := by unfold clipI mn mx; (repeat' split) <;> omega
theorem clip_lo {x : Int} (h1 : x ≤ 0) : clipI x = 0 := by unfold clipI mn mx; (repeat' split) <;> omega
theorem clip_mono {x y : Int} (h : x ≤ y) : clipI x ≤ clipI y := by unfold clipI mn mx; (repeat' split) <;> omega
def addI (a b : Int) : Int := clipI (clipI a + clipI b)
def mulI (a b : Int) : Int := clipI (clipI a * clipI b)
theorem add_b (a b : Int) : 0 ≤ addI a b ∧ addI a b ≤ 1000000000000 := clip_b _
theorem mul_b (a b : Int) : 0 ≤ mulI a b ∧ mulI a b ≤ 1000000000000 := clip_b _
theorem mul_mono {a b c d : Int} (h : a ≤ b) (k : c ≤ d) : mulI a c ≤ mulI b d := by
  unfold mulI
  exact clip_mono (Int.mul_le_mul (clip_mono h) (clip_mono k) (clip_b _).1 (clip_b _).1)
theorem add_mono {a b c d : Int} (h : a ≤ b) (k : c ≤ d) : addI a c ≤ addI b d := by
  unfold addI
  have := clip_mono h; have := clip_mono k
  exact clip_mono (by omega)
def sumI : List Int → Int
  | [] => 0
  | x :: l => clipI x + sumI l
theorem sumI_nn (l : List Int) : 0 ≤ sumI l := by
  induction l with
  | nil => exact Int.le_refl 0
  | cons x l ih => have := clip_b x; simp only [sumI]; omega
theorem sumI_app (a b : List Int) : sumI (a ++ b) = sumI a + sumI b := by
  induction a with
  | nil => simp [sumI]
  | cons x l ih => simp only [List.cons_append, sumI, ih]; omega
theorem sumI_rev (l : List Int) : sumI l.reverse = sumI l := by
  induction l with
  | nil => rfl
  | cons x l ih => simp only [List.reverse_cons, sumI_app, sumI, ih]; omega
def totI (l : List Int) : Int := clipI (sumI l)

/- BLOCK mul64: what bits.Mul64's text computes -/
theorem mul64_eq (x y : Int) (hx0 : 0 ≤ x) (hx : x < 18446744073709551616) (hy0 : 0 ≤ y) (hy : y < 18446744073709551616) :
    bits_Mul64.f x y = some (x * y / 18446744073709551616, x * y % 18446744073709551616) := by
  obtain ⟨a, rfl⟩ := Int.eq_ofNat_of_zero_le hx0
  obtain ⟨b, rfl⟩ := Int.eq_ofNat_of_zero_le hy0
  have ha : a < 18446744073709551616 := by omega
  have hb : b < 18446744073709551616 := by omega
  obtain ⟨h1, h2, h3, h4⟩ := Go.Lib.mul64_hi a b ha hb
  have q1 := Go.Lib.half_mul_le (a := a / 4294967296) (b := b / 4294967296) (by omega) (by omega)
  have q2 := Go.Lib.half_mul_le (a := a / 4294967296) (b := b % 4294967296) (by omega) (by omega)
  have q3 := Go.Lib.half_mul_le (a := a % 4294967296) (b := b / 4294967296) (by omega) (by omega)
  have q4 := Go.Lib.half_mul_le (a := a % 4294967296) (b := b % 4294967296) (by omega) (by omega)
  unfold bits_Mul64.f
  rw [and_low32 (a : Int) (by omega) (by omega), and_low32 (b : Int) (by omega) (by omega)]
  simp only [u64m]
  have e1 : ((a : Int) / 4294967296) * ((b : Int) % 4294967296) = (((a / 4294967296) * (b % 4294967296) : Nat) : Int) := rfl
  have e2 : ((a : Int) % 4294967296) * ((b : Int) % 4294967296) = (((a % 4294967296) * (b % 4294967296) : Nat) : Int) := rfl
  have e3 : ((a : Int) % 4294967296) * ((b : Int) / 4294967296) = (((a % 4294967296) * (b / 4294967296) : Nat) : Int) := rfl
  have e4 : ((a : Int) / 4294967296) * ((b : Int) / 4294967296) = (((a / 4294967296) * (b / 4294967296) : Nat) : Int) := rfl
  have e5 : (a : Int) * (b : Int) = ((a * b : Nat) : Int) := rfl
  rw [e1, e2, e3, e4, e5, and_low32 _ (by omega) (by omega)]
  generalize (a / 4294967296) * (b / 4294967296) = p1 at *
  generalize (a / 4294967296) * (b % 4294967296) = p2 at *
  generalize (a % 4294967296) * (b / 4294967296) = p3 at *
  generalize (a % 4294967296) * (b % 4294967296) = p4 at *
  generalize a * b = p at *
  congr 1
  rw [Prod.mk.injEq]
  exact ⟨by omega, rfl⟩

/- BLOCK histarith: hist.Clip, Add, Mul as printed -/
theorem hist_Clip_eq (x : Int) : hist_Clip.f x = some (clipI x) := rfl
theorem hist_Add_eq (a b : Int) : hist_Add.f a b = some (addI a b) := by
  unfold hist_Add.f
  simp only [hist_Clip_eq, Option.bind_some]
  have := clip_b a; have := clip_b b
  rw [w64 (by omega) (by omega)]; rfl
theorem hist_Mul_eq (a b : Int) : hist_Mul.f a b = some (mulI a b) := by
  unfold hist_Mul.f
  simp only [hist_Clip_eq, Option.bind_some]
  obtain ⟨ha0, ha1⟩ := clip_b a
  obtain ⟨hb0, hb1⟩ := clip_b b
  rw [u64w ha0 (by omega), u64w hb0 (by omega), mul64_eq _ _ ha0 (by omega) hb0 (by omega)]
  simp only [Option.bind_some]
  unfold mulI
  have hp : 0 ≤ clipI a * clipI b := Int.mul_nonneg ha0 hb0
  generalize clipI a * clipI b = p at *
  by_cases h : p / 18446744073709551616 = 0
  · rw [if_pos h]
    have : p % 18446744073709551616 = p := by omega
    rw [this]
    show some (wrap64 (clipI p)) = some (clipI p)
    have := clip_b p
    rw [w64 (by omega) (by omega)]
  · rw [if_neg h, clip_hi (by omega)]

/- BLOCK costsum: cost.sum as printed -/
theorem cost_sum_l0_ev (l : List Int) (hl : l.length ≤ 140737488351232) (d : Nat) : ∀ (i s : Int), 0 ≤ i → i ≤ l.length → (l.length : Int) - i = d → 0 ≤ s →
    Ev (fun k => cost_sum.l0 k (clipI s) l (l.length : Int) i) (clipI (s + sumI (l.drop i.toNat))) := by
  induction d with
  | zero =>
    intro i s h0 h1 hd hs
    have : l.drop i.toNat = [] := List.drop_eq_nil_of_le (by omega)
    rw [this]
    simp only [sumI, Int.add_zero]
    refine Ev.step (fun k => rfl) ?_
    simp only [cost_sum.l0]
    exact (ev_neg (by omega) (ev_some _))
  | succ d ih =>
    intro i s h0 h1 hd hs
    have hlt : i.toNat < l.length := by omega
    have e : l.drop i.toNat = l[i.toNat] :: l.drop (i.toNat + 1) := List.drop_eq_getElem_cons hlt
    rw [e]
    refine Ev.step (fun k => rfl) ?_
    simp only [cost_sum.l0]
    refine (ev_pos (by omega) (ev_pos h0 (ev_pos (by omega) ?_)))
    have hr : rd l i = l[i.toNat] := rd_get _ _ hlt
    have hb := clip_b l[i.toNat]
    have hcs := clip_b s
    simp only [hist_Add_eq, Option.bind_some]
    rw [w64 (by omega) (by omega)]
    have := ih (i + 1) (s + clipI l[i.toNat]) (by omega) (by omega) (by omega) (by omega)
    have e2 : (i + 1).toNat = i.toNat + 1 := by omega
    rw [e2] at this
    have e3 : addI (clipI s) (rd l i) = clipI (s + clipI l[i.toNat]) := by
      rw [hr]; unfold addI
      generalize clipI l[i.toNat] = c at *
      rw [clip_id hcs.1 hcs.2]
      unfold clipI mn mx
      (repeat' split) <;> omega
    rw [e3]
    simp only [sumI]
    rw [show s + (clipI l[i.toNat] + sumI (l.drop (i.toNat + 1))) = s + clipI l[i.toNat] + sumI (l.drop (i.toNat + 1)) by omega]
    exact this
theorem cost_sum_ev (l : List Int) (hl : l.length ≤ 140737488351232) : Ev (fun k => cost_sum.f k l) (totI l) := by
  have := cost_sum_l0_ev l hl l.length 0 0 (by omega) (by omega) (by omega) (by omega)
  simp only [Int.toNat_zero, List.drop_zero, Int.zero_add] at this
  exact this

/- BLOCK bitslen: bits.Len as printed (its table by decide in the kernel) -/
def blen (n : Nat) : Nat := if n = 0 then 0 else Nat.log2 n + 1
theorem blen_half {n : Nat} (h : 0 < n) : blen n = 1 + blen (n / 2) := by
  unfold blen
  rw [if_neg (by omega), Nat.log2_def]
  by_cases h2 : n ≥ 2
  · rw [if_pos h2, if_neg (by omega)]; omega
  · rw [if_neg h2, if_pos (by omega)]
theorem blen_shift (k : Nat) : ∀ n, 1 ≤ n / 2 ^ k → blen n = k + blen (n / 2 ^ k) := by
  induction k with
  | zero => intro n _; simp
  | succ k ih =>
    intro n h
    have e : n / 2 / 2 ^ k = n / 2 ^ (k + 1) := by rw [Nat.div_div_eq_div_mul, Nat.pow_succ, Nat.mul_comm]
    have hn : 0 < n := by
      apply Nat.pos_of_ne_zero
      rintro rfl
      simp at h
    rw [blen_half hn, ih (n / 2) (by rw [e]; exact h), e]; omega
theorem blen_mono {n m : Nat} (h : n ≤ m) : blen n ≤ blen m := by
  induction m using Nat.strongRecOn generalizing n with
  | _ m ih =>
    by_cases h0 : n = 0
    · subst h0; simp [blen]
    · rw [blen_half (by omega : 0 < n), blen_half (by omega : 0 < m)]
      have := ih (m / 2) (by omega) (n := n / 2) (by omega)
      omega
theorem blen_le {n k : Nat} (h : n < 2 ^ k) : blen n ≤ k := by
  induction k generalizing n with
  | zero => have : n = 0 := by simpa using h
            subst this; simp [blen]
  | succ k ih =>
    by_cases h0 : n = 0
    · subst h0; simp [blen]
    · rw [blen_half (by omega)]
      have := ih (n := n / 2) (by rw [Nat.pow_succ] at h; omega)
      omega
def bl (x : Int) : Int := (blen x.toNat : Int)
theorem bl_mono {x y : Int} (h : x ≤ y) : bl x ≤ bl y := by
  unfold bl; have := blen_mono (n := x.toNat) (m := y.toNat) (by omega); omega
theorem bl_b {x : Int} (h : x < 18446744073709551616) : 0 ≤ bl x ∧ bl x ≤ 64 := by
  unfold bl; have := blen_le (n := x.toNat) (k := 64) (by omega); omega
theorem bl_half {x : Int} (h : 0 < x) : bl x = 1 + bl (x / 2) := by
  unfold bl
  have e : (x / 2).toNat = x.toNat / 2 := by omega
  rw [e, blen_half (by omega)]; omega
theorem bl_shift (k : Nat) (d : Int) (hd : d = 2 ^ k) {x : Int} (h0 : 0 ≤ x) (h : 1 ≤ x / d) : bl x = k + bl (x / d) := by
  subst hd
  obtain ⟨n, rfl⟩ := Int.eq_ofNat_of_zero_le h0
  have e : ((n : Int) / 2 ^ k) = ((n / 2 ^ k : Nat) : Int) := by push_cast; rfl
  rw [e] at h ⊢
  unfold bl
  rw [Int.toNat_natCast, Int.toNat_natCast, blen_shift k n (by omega)]; omega
set_option maxRecDepth 100000 in
theorem tab_len (i : Int) (h0 : 0 ≤ i) (h1 : i < 256) : bt (⟨#[0, 1, 2, 2, 3, 3, 3, 3, 4, 4, 4, 4, 4, 4, 4, 4, 5, 5, 5, 5, 5, 5, 5, 5, 5, 5, 5, 5, 5, 5, 5, 5, 6, 6, 6, 6, 6, 6, 6, 6, 6, 6, 6, 6, 6, 6, 6, 6, 6, 6, 6, 6, 6, 6, 6, 6, 6, 6, 6, 6, 6, 6, 6, 6, 7, 7, 7, 7, 7, 7, 7, 7, 7, 7, 7, 7, 7, 7, 7, 7, 7, 7, 7, 7, 7, 7, 7, 7, 7, 7, 7, 7, 7, 7, 7, 7, 7, 7, 7, 7, 7, 7, 7, 7, 7, 7, 7, 7, 7, 7, 7, 7, 7, 7, 7, 7, 7, 7, 7, 7, 7, 7, 7, 7, 7, 7, 7, 7, 8, 8, 8, 8, 8, 8, 8, 8, 8, 8, 8, 8, 8, 8, 8, 8, 8, 8, 8, 8, 8, 8, 8, 8, 8, 8, 8, 8, 8, 8, 8, 8, 8, 8, 8, 8, 8, 8, 8, 8, 8, 8, 8, 8, 8, 8, 8, 8, 8, 8, 8, 8, 8, 8, 8, 8, 8, 8, 8, 8, 8, 8, 8, 8, 8, 8, 8, 8, 8, 8, 8, 8, 8, 8, 8, 8, 8, 8, 8, 8, 8, 8, 8, 8, 8, 8, 8, 8, 8, 8, 8, 8, 8, 8, 8, 8, 8, 8, 8, 8, 8, 8, 8, 8, 8, 8, 8, 8, 8, 8, 8, 8, 8, 8, 8, 8, 8, 8, 8, 8, 8, 8, 8, 8, 8, 8, 8, 8]⟩ : ByteArray) i = bl i := by
  obtain ⟨n, rfl⟩ := Int.eq_ofNat_of_zero_le h0
  have : ∀ m : Fin 256, bt (⟨#[0, 1, 2, 2, 3, 3, 3, 3, 4, 4, 4, 4, 4, 4, 4, 4, 5, 5, 5, 5, 5, 5, 5, 5, 5, 5, 5, 5, 5, 5, 5, 5, 6, 6, 6, 6, 6, 6, 6, 6, 6, 6, 6, 6, 6, 6, 6, 6, 6, 6, 6, 6, 6, 6, 6, 6, 6, 6, 6, 6, 6, 6, 6, 6, 7, 7, 7, 7, 7, 7, 7, 7, 7, 7, 7, 7, 7, 7, 7, 7, 7, 7, 7, 7, 7, 7, 7, 7, 7, 7, 7, 7, 7, 7, 7, 7, 7, 7, 7, 7, 7, 7, 7, 7, 7, 7, 7, 7, 7, 7, 7, 7, 7, 7, 7, 7, 7, 7, 7, 7, 7, 7, 7, 7, 7, 7, 7, 7, 8, 8, 8, 8, 8, 8, 8, 8, 8, 8, 8, 8, 8, 8, 8, 8, 8, 8, 8, 8, 8, 8, 8, 8, 8, 8, 8, 8, 8, 8, 8, 8, 8, 8, 8, 8, 8, 8, 8, 8, 8, 8, 8, 8, 8, 8, 8, 8, 8, 8, 8, 8, 8, 8, 8, 8, 8, 8, 8, 8, 8, 8, 8, 8, 8, 8, 8, 8, 8, 8, 8, 8, 8, 8, 8, 8, 8, 8, 8, 8, 8, 8, 8, 8, 8, 8, 8, 8, 8, 8, 8, 8, 8, 8, 8, 8, 8, 8, 8, 8, 8, 8, 8, 8, 8, 8, 8, 8, 8, 8, 8, 8, 8, 8, 8, 8, 8, 8, 8, 8, 8, 8, 8, 8, 8, 8, 8, 8]⟩ : ByteArray) ((m.1 : Nat) : Int) = bl ((m.1 : Nat) : Int) := by decide +kernel
  exact this ⟨n, by omega⟩
theorem w64_bl {i : Int} (h1 : i < 256) : wrap64 (bl i) = bl i := by
  have := bl_b (x := i) (by omega); exact w64 (by omega) (by omega)
set_option maxRecDepth 100000 in
theorem bits_Len64_j0_eq (k : Nat) (x y : Int) (h0 : 0 ≤ x) (h1 : x < 4294967296) (y0 : 0 ≤ y) (y1 : y ≤ 32) : bits_Len64.j0 (k + 1) x y = some (y + bl x) := by
  rw [bits_Len64.j0]
  by_cases c1 : x ≥ 65536
  · rw [if_pos c1]
    have a1 := bl_shift 16 65536 (by decide) h0 (by omega)
    by_cases c2 : x / 65536 ≥ 256
    · rw [if_pos c2, if_pos (by omega), if_pos (by omega)]
      have a2 := bl_shift 8 256 (by decide) (x := x / 65536) (by omega) (by omega)
      have e : (x / 65536 / 256) % 256 = x / 65536 / 256 := by omega
      rw [e, tab_len _ (by omega) (by omega), w64_bl (by omega), w64 (n := y + 16) (by omega) (by omega), w64 (n := y + 16 + 8) (by omega) (by omega)]
      have := bl_b (x := x / 65536 / 256) (by omega)
      rw [w64 (by omega) (by omega)]; congr 1; omega
    · rw [if_neg c2, if_pos (by omega), if_pos (by omega)]
      have e : (x / 65536) % 256 = x / 65536 := by omega
      rw [e, tab_len _ (by omega) (by omega), w64_bl (by omega), w64 (n := y + 16) (by omega) (by omega)]
      have := bl_b (x := x / 65536) (by omega)
      rw [w64 (by omega) (by omega)]; congr 1; omega
  · rw [if_neg c1]
    by_cases c2 : x ≥ 256
    · rw [if_pos c2, if_pos (by omega), if_pos (by omega)]
      have a2 := bl_shift 8 256 (by decide) h0 (by omega)
      have e : (x / 256) % 256 = x / 256 := by omega
      rw [e, tab_len _ (by omega) (by omega), w64_bl (by omega), w64 (n := y + 8) (by omega) (by omega)]
      have := bl_b (x := x / 256) (by omega)
      rw [w64 (by omega) (by omega)]; congr 1; omega
    · rw [if_neg c2, if_pos (by omega), if_pos (by omega)]
      have e : x % 256 = x := by omega
      rw [e, tab_len _ (by omega) (by omega), w64_bl (by omega)]
      have := bl_b (x := x) (by omega)
      rw [w64 (by omega) (by omega)]
theorem bits_Len64_eq (k : Nat) (x : Int) (h0 : 0 ≤ x) (h1 : x < 18446744073709551616) : bits_Len64.f (k + 1) x = some (bl x) := by
  unfold bits_Len64.f
  by_cases c : x ≥ 4294967296
  · rw [if_pos c, bits_Len64_j0_eq k _ _ (by omega) (by omega) (by omega) (by omega)]
    have a1 := bl_shift 32 4294967296 (by decide) h0 (by omega)
    congr 1; omega
  · rw [if_neg c, bits_Len64_j0_eq k _ _ (by omega) (by omega) (by omega) (by omega)]; congr 1; omega
theorem bits_Len_ev (x : Int) (h0 : 0 ≤ x) (h1 : x < 18446744073709551616) : Ev (fun k => bits_Len.f k x) (bl x) := by
  refine ⟨1, fun k hk => ?_⟩
  obtain ⟨k, rfl⟩ : ∃ m, k = m + 1 := ⟨k - 1, by omega⟩
  show (bits_Len64.f (k + 1) x).bind _ = _
  rw [bits_Len64_eq k x h0 h1]; rfl

/- BLOCK costmore: cost.Bits, Sort, Loop, Hash, Merge as printed -/
def bitsI (x : Int) : Int := bl (clipI x)
theorem bitsI_b (x : Int) : 0 ≤ bitsI x ∧ bitsI x ≤ 64 := bl_b (by have := clip_b x; omega)
theorem cost_Bits_ev (x : Int) : Ev (fun k => cost_Bits.f k x) (bitsI x) := by
  have hb := clip_b x
  unfold cost_Bits.f
  simp only [hist_Clip_eq, Option.bind_some]
  rw [u64w hb.1 (by omega)]
  exact Ev.bind (bits_Len_ev _ hb.1 (by omega)) (ev_some _)
def sortI (x : Int) : Int := mulI x (bitsI x)
theorem cost_Sort_ev (x : Int) : Ev (fun k => cost_Sort.f k x) (sortI x) := by
  unfold cost_Sort.f
  refine Ev.bind (cost_Bits_ev x) ?_
  simp only [hist_Mul_eq, Option.bind_some]
  exact ev_some _
theorem cost_Loop_ev (a b c : Int) : Ev (fun k => cost_Loop.f k a b c) (totI [a, mulI a b, c]) := by
  unfold cost_Loop.f
  simp only [hist_Mul_eq, Option.bind_some]
  exact Ev.bind (cost_sum_ev _ (by simp)) (ev_some _)
theorem cost_Hash_ev (a b c : Int) : Ev (fun k => cost_Hash.f k a b c) (totI [a, b, b, c, 4]) := by
  unfold cost_Hash.f
  exact Ev.bind (cost_sum_ev _ (by simp)) (ev_some _)
theorem cost_Merge_ev (a b c : Int) : Ev (fun k => cost_Merge.f k a b c) (totI [sortI a, sortI b, a, b, c, 2]) := by
  unfold cost_Merge.f
  refine Ev.bind (cost_Sort_ev a) (Ev.bind (cost_Sort_ev b) ?_)
  exact Ev.bind (cost_sum_ev _ (by simp)) (ev_some _)
def Le2 : List Int → List Int → Prop
  | [], [] => True
  | x :: l, y :: m => x ≤ y ∧ Le2 l m
  | _, _ => False
theorem Le2.refl : ∀ l, Le2 l l
  | [] => trivial
  | x :: l => ⟨Int.le_refl x, Le2.refl l⟩
theorem sumI_mono : ∀ (l m : List Int), Le2 l m → sumI l ≤ sumI m
  | [], [], _ => Int.le_refl _
  | x :: l, y :: m, h => by
    have h1 := clip_mono h.1
    have h2 := sumI_mono l m h.2
    simp only [sumI]; omega
theorem tot_mono {l m : List Int} (h : Le2 l m) : totI l ≤ totI m := clip_mono (sumI_mono l m h)
theorem Le2.len : ∀ {l m : List Int}, Le2 l m → l.length = m.length
  | [], [], _ => rfl
  | _ :: _, _ :: _, h => congrArg (· + 1) (Le2.len h.2)
theorem Le2.at : ∀ {l m : List Int}, Le2 l m → ∀ (i : Nat) (h : i < l.length) (h' : i < m.length), l[i] ≤ m[i]
  | _ :: _, _ :: _, q, 0, _, _ => q.1
  | _ :: l, _ :: m, q, i + 1, h, h' => Le2.at (l := l) (m := m) q.2 i (by simpa using h) (by simpa using h')
def AllB : List Int → Prop
  | [] => True
  | x :: l => (0 ≤ x ∧ x ≤ 1000000000000) ∧ AllB l
theorem AllB.at : ∀ {l : List Int}, AllB l → ∀ (i : Nat) (h : i < l.length), 0 ≤ l[i] ∧ l[i] ≤ 1000000000000
  | _ :: _, q, 0, _ => q.1
  | _ :: l, q, i + 1, h => AllB.at (l := l) q.2 i (by simpa using h)
theorem tot_b (l : List Int) : 0 ≤ totI l ∧ totI l ≤ 1000000000000 := clip_b _
theorem bitsI_mono {a b : Int} (h : a ≤ b) : bitsI a ≤ bitsI b := bl_mono (clip_mono h)
theorem sortI_mono {a b : Int} (h : a ≤ b) : sortI a ≤ sortI b := mul_mono h (bitsI_mono h)
theorem sortI_b (a : Int) : 0 ≤ sortI a ∧ sortI a ≤ 1000000000000 := mul_b _ _
theorem cost_Scan_ev (x : Int) : Ev (fun k => cost_Scan.f k x) (totI [x, 1]) := by
  unfold cost_Scan.f
  exact Ev.bind (cost_sum_ev _ (by simp)) (ev_some _)
theorem cost_Index_ev (x : Int) : Ev (fun k => cost_Index.f k x) (totI [x, 2]) := by
  unfold cost_Index.f
  exact Ev.bind (cost_sum_ev _ (by simp)) (ev_some _)
theorem cost_Temp_eq (x : Int) : cost_Temp.f x = some (clipI x) := rfl
theorem c32 (a : Int) (w : World) : Calls Tryd.prog 32 #[.int .i64 a] w fun e_ w' => e_ = .returned (.int .i64 (totI [a, 1])) ∧ Below w.heap.size w w' := by
  obtain ⟨K, hK⟩ := cost_Scan_ev a
  exact cost_Scan.calls K a _ w (hK K (Nat.le_refl _))
theorem c33 (a : Int) (w : World) : Calls Tryd.prog 33 #[.int .i64 a] w fun e_ w' => e_ = .returned (.int .i64 (totI [a, 2])) ∧ Below w.heap.size w w' := by
  obtain ⟨K, hK⟩ := cost_Index_ev a
  exact cost_Index.calls K a _ w (hK K (Nat.le_refl _))
theorem c34 (a b c : Int) (w : World) : Calls Tryd.prog 34 #[.int .i64 a, .int .i64 b, .int .i64 c] w fun e_ w' => e_ = .returned (.int .i64 (totI [a, mulI a b, c])) ∧ Below w.heap.size w w' := by
  obtain ⟨K, hK⟩ := cost_Loop_ev a b c
  exact cost_Loop.calls K a b c _ w (hK K (Nat.le_refl _))
theorem c35 (a b c : Int) (w : World) : Calls Tryd.prog 35 #[.int .i64 a, .int .i64 b, .int .i64 c] w fun e_ w' => e_ = .returned (.int .i64 (totI [a, b, b, c, 4])) ∧ Below w.heap.size w w' := by
  obtain ⟨K, hK⟩ := cost_Hash_ev a b c
  exact cost_Hash.calls K a b c _ w (hK K (Nat.le_refl _))
theorem c36 (a b c : Int) (w : World) : Calls Tryd.prog 36 #[.int .i64 a, .int .i64 b, .int .i64 c] w fun e_ w' => e_ = .returned (.int .i64 (totI [sortI a, sortI b, a, b, c, 2])) ∧ Below w.heap.size w w' := by
  obtain ⟨K, hK⟩ := cost_Merge_ev a b c
  exact cost_Merge.calls K a b c _ w (hK K (Nat.le_refl _))
theorem c37 (a : Int) (w : World) : Calls Tryd.prog 37 #[.int .i64 a] w fun e_ w' => e_ = .returned (.int .i64 (clipI a)) ∧ Below w.heap.size w w' := by
  exact cost_Temp.calls a _ w rfl
theorem c38 (A : Option Addr) (c : Nat) (l : List Int) (w : World) (hC : (Kd.int .i64).C w A l.length l) (hc : l.length ≤ c) (hl : l.length ≤ 140737488351232) : Calls Tryd.prog 38 #[.slice A l.length c] w fun e_ w' => e_ = .returned (.int .i64 (totI l)) ∧ Below w.heap.size w w' := by
  obtain ⟨K, hK⟩ := cost_sum_ev l hl
  refine cost_Sum.calls K A c l _ w hC hc ?_
  unfold cost_Sum.f
  have h1 : cost_sum.f K l = some (totI l) := hK K (Nat.le_refl _)
  rw [h1]
  rfl

end Go.Proofs.YtmnjaihalajhcaaDoor.QPlanConds
