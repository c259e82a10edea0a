import Derived.Test.YtdghbkffcmikhaaQCostSumsx3
import Derived.Lib.Mul64
import Derived.Laws.MathBits
/- CostSums: the pure statement of the law CostSums, proved: over the functions that the printer wrote for the Go code. No condition beside the statement's own. -/
namespace Go.Proofs.Ytdghbkffcmikhaa.Pure
open Go.RowKit Go.Proofs.Ytdghbkffcmikhaa.QCostSums Go.Proofs.YtdghbkffcmikhaaW.PrintWords Go.Proofs.YtdghbkffcmikhaaW.PrintLast Go.Proofs.YtdghbkffcmikhaaW.PrintMore

/- BLOCK base -/
theorem ev_pos {α : Type} {c : Prop} [Decidable c] {A B : Nat → Option α} {r : α} (h : c) (k : Ev A r) : Ev (fun n => if c then A n else B n) r := Ev.congr (fun _ => if_pos h) k
theorem ev_neg {α : Type} {c : Prop} [Decidable c] {A B : Nat → Option α} {r : α} (h : ¬ c) (k : Ev B r) : Ev (fun n => if c then A n else B n) r := Ev.congr (fun _ => if_neg h) k
theorem ev_some {α : Type} (r : α) : Ev (fun _ => some r) r := Ev.now r
theorem ev_eq {α : Type} {A : Nat → Option α} {r : α} (h : ∀ k, A k = some r) : Ev A r := ⟨0, fun k _ => h k⟩
theorem w64 {n : Int} (h0 : -9223372036854775808 ≤ n) (h1 : n ≤ 9223372036854775807) : wrap64 n = n := by unfold wrap64; omega
theorem u64w {n : Int} (h0 : 0 ≤ n) (h1 : n < 18446744073709551616) : IntKind.u64.wrap n = n := by
  have : IntKind.u64.wrap n = n % 18446744073709551616 := by simp [IntKind.wrap, IntKind.bits, IntKind.signed]
  rw [this]; omega
theorem u64m (n : Int) : IntKind.u64.wrap n = n % 18446744073709551616 := by simp [IntKind.wrap, IntKind.bits, IntKind.signed]
theorem i64_bd {n : Int} (h : (Lit.int .i64 n).wf = true) : -9223372036854775808 ≤ n ∧ n ≤ 9223372036854775807 := by
  simp [Lit.wf, IntKind.min, IntKind.max, IntKind.bits, IntKind.signed] at h; omega
theorem mn_def (a b : Int) : mn a b = if b < a then b else a := rfl
theorem mx_def (a b : Int) : mx a b = if a < b then b else a := rfl
theorem rd_get (l : List Int) (i : Int) (h : i.toNat < l.length) : rd l i = l[i.toNat] := by
  unfold rd; rw [List.getD_eq_getElem?_getD, List.getElem?_eq_getElem h]; rfl

/- BLOCK clip: what hist.Clip, Add, Mul compute -/
def clipI (x : Int) : Int := mn (mx x 0) 1000000000000
theorem clip_b (x : Int) : 0 ≤ clipI x ∧ clipI x ≤ 1000000000000 := by unfold clipI mn mx; (repeat' split) <;> omega
theorem clip_id {x : Int} (h0 : 0 ≤ x) (h1 : x ≤ 1000000000000) : clipI x = x := by unfold clipI mn mx; (repeat' split) <;> omega
theorem clip_hi {x : Int} (h1 : 1000000000000 ≤ x) : clipI x = 1000000000000 := by unfold clipI mn mx; (repeat' split) <;> omega
theorem clip_lo {x : Int} (h1 : x ≤ 0) : clipI x = 0 := by unfold clipI mn mx; (repeat' split) <;> omega
theorem clip_mono {x y : Int} (h : x ≤ y) : clipI x ≤ clipI y := by unfold clipI mn mx; (repeat' split) <;> omega
def addI (a b : Int) : Int := clipI (clipI a + clipI b)
def mulI (a b : Int) : Int := clipI (clipI a * clipI b)
theorem add_b (a b : Int) : 0 ≤ addI a b ∧ addI a b ≤ 1000000000000 := clip_b _
theorem mul_b (a b : Int) : 0 ≤ mulI a b ∧ mulI a b ≤ 1000000000000 := clip_b _
theorem mul_mono {a b c d : Int} (h : a ≤ b) (k : c ≤ d) : mulI a c ≤ mulI b d := by
  unfold mulI
  exact clip_mono (Int.mul_le_mul (clip_mono h) (clip_mono k) (clip_b _).1 (clip_b _).1)
theorem add_mono {a b c d : Int} (h : a ≤ b) (k : c ≤ d) : addI a c ≤ addI b d := by
  unfold addI
  have := clip_mono h; have := clip_mono k
  exact clip_mono (by omega)
def sumI : List Int → Int
  | [] => 0
  | x :: l => clipI x + sumI l
theorem sumI_nn (l : List Int) : 0 ≤ sumI l := by
  induction l with
  | nil => exact Int.le_refl 0
  | cons x l ih => have := clip_b x; simp only [sumI]; omega
theorem sumI_app (a b : List Int) : sumI (a ++ b) = sumI a + sumI b := by
  induction a with
  | nil => simp [sumI]
  | cons x l ih => simp only [List.cons_append, sumI, ih]; omega
theorem sumI_rev (l : List Int) : sumI l.reverse = sumI l := by
  induction l with
  | nil => rfl
  | cons x l ih => simp only [List.reverse_cons, sumI_app, sumI, ih]; omega
def totI (l : List Int) : Int := clipI (sumI l)

/- BLOCK mul64: what bits.Mul64's text computes -/
theorem mul64_eq (x y : Int) (hx0 : 0 ≤ x) (hx : x < 18446744073709551616) (hy0 : 0 ≤ y) (hy : y < 18446744073709551616) :
    bits_Mul64.f x y = some (x * y / 18446744073709551616, x * y % 18446744073709551616) := by
  obtain ⟨a, rfl⟩ := Int.eq_ofNat_of_zero_le hx0
  obtain ⟨b, rfl⟩ := Int.eq_ofNat_of_zero_le hy0
  have ha : a < 18446744073709551616 := by omega
  have hb : b < 18446744073709551616 := by omega
  obtain ⟨h1, h2, h3, h4⟩ := Go.Lib.mul64_hi a b ha hb
  have q1 := Go.Lib.half_mul_le (a := a / 4294967296) (b := b / 4294967296) (by omega) (by omega)
  have q2 := Go.Lib.half_mul_le (a := a / 4294967296) (b := b % 4294967296) (by omega) (by omega)
  have q3 := Go.Lib.half_mul_le (a := a % 4294967296) (b := b / 4294967296) (by omega) (by omega)
  have q4 := Go.Lib.half_mul_le (a := a % 4294967296) (b := b % 4294967296) (by omega) (by omega)
  unfold bits_Mul64.f
  rw [and_low32 (a : Int) (by omega) (by omega), and_low32 (b : Int) (by omega) (by omega)]
  simp only [u64m]
  have e1 : ((a : Int) / 4294967296) * ((b : Int) % 4294967296) = (((a / 4294967296) * (b % 4294967296) : Nat) : Int) := rfl
  have e2 : ((a : Int) % 4294967296) * ((b : Int) % 4294967296) = (((a % 4294967296) * (b % 4294967296) : Nat) : Int) := rfl
  have e3 : ((a : Int) % 4294967296) * ((b : Int) / 4294967296) = (((a % 4294967296) * (b / 4294967296) : Nat) : Int) := rfl
  have e4 : ((a : Int) / 4294967296) * ((b : Int) / 4294967296) = (((a / 4294967296) * (b / 4294967296) : Nat) : Int) := rfl
  have e5 : (a : Int) * (b : Int) = ((a * b : Nat) : Int) := rfl
  rw [e1, e2, e3, e4, e5, and_low32 _ (by omega) (by omega)]
  generalize (a / 4294967296) * (b / 4294967296) = p1 at *
  generalize (a / 4294967296) * (b % 4294967296) = p2 at *
  generalize (a % 4294967296) * (b / 4294967296) = p3 at *
  generalize (a % 4294967296) * (b % 4294967296) = p4 at *
  generalize a * b = p at *
  congr 1
  rw [Prod.mk.injEq]
  exact ⟨by omega, rfl⟩

/- BLOCK histarith: hist.Clip, Add, Mul as printed -/
theorem hist_Clip_eq (x : Int) : hist_Clip.f x = some (clipI x) := rfl
theorem hist_Add_eq (a b : Int) : hist_Add.f a b = some (addI a b) := by
  unfold hist_Add.f
  simp only [hist_Clip_eq, Option.bind_some]
  have := clip_b a; have := clip_b b
  rw [w64 (by omega) (by omega)]; rfl
theorem hist_Mul_eq (a b : Int) : hist_Mul.f a b = some (mulI a b) := by
  unfold hist_Mul.f
  simp only [hist_Clip_eq, Option.bind_some]
  obtain ⟨ha0, ha1⟩ := clip_b a
  obtain ⟨hb0, hb1⟩ := clip_b b
  rw [u64w ha0 (by omega), u64w hb0 (by omega), mul64_eq _ _ ha0 (by omega) hb0 (by omega)]
  simp only [Option.bind_some]
  unfold mulI
  have hp : 0 ≤ clipI a * clipI b := Int.mul_nonneg ha0 hb0
  generalize clipI a * clipI b = p at *
  by_cases h : p / 18446744073709551616 = 0
  · rw [if_pos h]
    have : p % 18446744073709551616 = p := by omega
    rw [this]
    show some (wrap64 (clipI p)) = some (clipI p)
    have := clip_b p
    rw [w64 (by omega) (by omega)]
  · rw [if_neg h, clip_hi (by omega)]

/- BLOCK costsum: cost.sum as printed -/
theorem cost_sum_l0_ev (l : List Int) (hl : l.length ≤ 140737488351232) (d : Nat) : ∀ (i s : Int), 0 ≤ i → i ≤ l.length → (l.length : Int) - i = d → 0 ≤ s →
    Ev (fun k => cost_sum.l0 k (clipI s) l (l.length : Int) i) (clipI (s + sumI (l.drop i.toNat))) := by
  induction d with
  | zero =>
    intro i s h0 h1 hd hs
    have : l.drop i.toNat = [] := List.drop_eq_nil_of_le (by omega)
    rw [this]
    simp only [sumI, Int.add_zero]
    refine Ev.step (fun k => rfl) ?_
    simp only [cost_sum.l0]
    exact (ev_neg (by omega) (ev_some _))
  | succ d ih =>
    intro i s h0 h1 hd hs
    have hlt : i.toNat < l.length := by omega
    have e : l.drop i.toNat = l[i.toNat] :: l.drop (i.toNat + 1) := List.drop_eq_getElem_cons hlt
    rw [e]
    refine Ev.step (fun k => rfl) ?_
    simp only [cost_sum.l0]
    refine (ev_pos (by omega) (ev_pos h0 (ev_pos (by omega) ?_)))
    have hr : rd l i = l[i.toNat] := rd_get _ _ hlt
    have hb := clip_b l[i.toNat]
    have hcs := clip_b s
    simp only [hist_Add_eq, Option.bind_some]
    rw [w64 (by omega) (by omega)]
    have := ih (i + 1) (s + clipI l[i.toNat]) (by omega) (by omega) (by omega) (by omega)
    have e2 : (i + 1).toNat = i.toNat + 1 := by omega
    rw [e2] at this
    have e3 : addI (clipI s) (rd l i) = clipI (s + clipI l[i.toNat]) := by
      rw [hr]; unfold addI
      generalize clipI l[i.toNat] = c at *
      rw [clip_id hcs.1 hcs.2]
      unfold clipI mn mx
      (repeat' split) <;> omega
    rw [e3]
    simp only [sumI]
    rw [show s + (clipI l[i.toNat] + sumI (l.drop (i.toNat + 1))) = s + clipI l[i.toNat] + sumI (l.drop (i.toNat + 1)) by omega]
    exact this
theorem cost_sum_ev (l : List Int) (hl : l.length ≤ 140737488351232) : Ev (fun k => cost_sum.f k l) (totI l) := by
  have := cost_sum_l0_ev l hl l.length 0 0 (by omega) (by omega) (by omega) (by omega)
  simp only [Int.toNat_zero, List.drop_zero, Int.zero_add] at this
  exact this

/- BLOCK bitslen: bits.Len as printed (its table by decide in the kernel) -/
def blen (n : Nat) : Nat := if n = 0 then 0 else Nat.log2 n + 1
theorem blen_half {n : Nat} (h : 0 < n) : blen n = 1 + blen (n / 2) := by
  unfold blen
  rw [if_neg (by omega), Nat.log2_def]
  by_cases h2 : n ≥ 2
  · rw [if_pos h2, if_neg (by omega)]; omega
  · rw [if_neg h2, if_pos (by omega)]
theorem blen_shift (k : Nat) : ∀ n, 1 ≤ n / 2 ^ k → blen n = k + blen (n / 2 ^ k) := by
  induction k with
  | zero => intro n _; simp
  | succ k ih =>
    intro n h
    have e : n / 2 / 2 ^ k = n / 2 ^ (k + 1) := by rw [Nat.div_div_eq_div_mul, Nat.pow_succ, Nat.mul_comm]
    have hn : 0 < n := by
      apply Nat.pos_of_ne_zero
      rintro rfl
      simp at h
    rw [blen_half hn, ih (n / 2) (by rw [e]; exact h), e]; omega
theorem blen_mono {n m : Nat} (h : n ≤ m) : blen n ≤ blen m := by
  induction m using Nat.strongRecOn generalizing n with
  | _ m ih =>
    by_cases h0 : n = 0
    · subst h0; simp [blen]
    · rw [blen_half (by omega : 0 < n), blen_half (by omega : 0 < m)]
      have := ih (m / 2) (by omega) (n := n / 2) (by omega)
      omega
theorem blen_le {n k : Nat} (h : n < 2 ^ k) : blen n ≤ k := by
  induction k generalizing n with
  | zero => have : n = 0 := by simpa using h
            subst this; simp [blen]
  | succ k ih =>
    by_cases h0 : n = 0
    · subst h0; simp [blen]
    · rw [blen_half (by omega)]
      have := ih (n := n / 2) (by rw [Nat.pow_succ] at h; omega)
      omega
def bl (x : Int) : Int := (blen x.toNat : Int)
theorem bl_mono {x y : Int} (h : x ≤ y) : bl x ≤ bl y := by
  unfold bl; have := blen_mono (n := x.toNat) (m := y.toNat) (by omega); omega
theorem bl_b {x : Int} (h : x < 18446744073709551616) : 0 ≤ bl x ∧ bl x ≤ 64 := by
  unfold bl; have := blen_le (n := x.toNat) (k := 64) (by omega); omega
theorem bl_half {x : Int} (h : 0 < x) : bl x = 1 + bl (x / 2) := by
  unfold bl
  have e : (x / 2).toNat = x.toNat / 2 := by omega
  rw [e, blen_half (by omega)]; omega
theorem bl_shift (k : Nat) (d : Int) (hd : d = 2 ^ k) {x : Int} (h0 : 0 ≤ x) (h : 1 ≤ x / d) : bl x = k + bl (x / d) := by
  subst hd
  obtain ⟨n, rfl⟩ := Int.eq_ofNat_of_zero_le h0
  have e : ((n : Int) / 2 ^ k) = ((n / 2 ^ k : Nat) : Int) := by push_cast; rfl
  rw [e] at h ⊢
  unfold bl
  rw [Int.toNat_natCast, Int.toNat_natCast, blen_shift k n (by omega)]; omega
set_option maxRecDepth 100000 in
theorem tab_len (i : Int) (h0 : 0 ≤ i) (h1 : i < 256) : bt (⟨#[0, 1, 2, 2, 3, 3, 3, 3, 4, 4, 4, 4, 4, 4, 4, 4, 5, 5, 5, 5, 5, 5, 5, 5, 5, 5, 5, 5, 5, 5, 5, 5, 6, 6, 6, 6, 6, 6, 6, 6, 6, 6, 6, 6, 6, 6, 6, 6, 6, 6, 6, 6, 6, 6, 6, 6, 6, 6, 6, 6, 6, 6, 6, 6, 7, 7, 7, 7, 7, 7, 7, 7, 7, 7, 7, 7, 7, 7, 7, 7, 7, 7, 7, 7, 7, 7, 7, 7, 7, 7, 7, 7, 7, 7, 7, 7, 7, 7, 7, 7, 7, 7, 7, 7, 7, 7, 7, 7, 7, 7, 7, 7, 7, 7, 7, 7, 7, 7, 7, 7, 7, 7, 7, 7, 7, 7, 7, 7, 8, 8, 8, 8, 8, 8, 8, 8, 8, 8, 8, 8, 8, 8, 8, 8, 8, 8, 8, 8, 8, 8, 8, 8, 8, 8, 8, 8, 8, 8, 8, 8, 8, 8, 8, 8, 8, 8, 8, 8, 8, 8, 8, 8, 8, 8, 8, 8, 8, 8, 8, 8, 8, 8, 8, 8, 8, 8, 8, 8, 8, 8, 8, 8, 8, 8, 8, 8, 8, 8, 8, 8, 8, 8, 8, 8, 8, 8, 8, 8, 8, 8, 8, 8, 8, 8, 8, 8, 8, 8, 8, 8, 8, 8, 8, 8, 8, 8, 8, 8, 8, 8, 8, 8, 8, 8, 8, 8, 8, 8, 8, 8, 8, 8, 8, 8, 8, 8, 8, 8, 8, 8, 8, 8, 8, 8, 8, 8]⟩ : ByteArray) i = bl i := by
  obtain ⟨n, rfl⟩ := Int.eq_ofNat_of_zero_le h0
  have : ∀ m : Fin 256, bt (⟨#[0, 1, 2, 2, 3, 3, 3, 3, 4, 4, 4, 4, 4, 4, 4, 4, 5, 5, 5, 5, 5, 5, 5, 5, 5, 5, 5, 5, 5, 5, 5, 5, 6, 6, 6, 6, 6, 6, 6, 6, 6, 6, 6, 6, 6, 6, 6, 6, 6, 6, 6, 6, 6, 6, 6, 6, 6, 6, 6, 6, 6, 6, 6, 6, 7, 7, 7, 7, 7, 7, 7, 7, 7, 7, 7, 7, 7, 7, 7, 7, 7, 7, 7, 7, 7, 7, 7, 7, 7, 7, 7, 7, 7, 7, 7, 7, 7, 7, 7, 7, 7, 7, 7, 7, 7, 7, 7, 7, 7, 7, 7, 7, 7, 7, 7, 7, 7, 7, 7, 7, 7, 7, 7, 7, 7, 7, 7, 7, 8, 8, 8, 8, 8, 8, 8, 8, 8, 8, 8, 8, 8, 8, 8, 8, 8, 8, 8, 8, 8, 8, 8, 8, 8, 8, 8, 8, 8, 8, 8, 8, 8, 8, 8, 8, 8, 8, 8, 8, 8, 8, 8, 8, 8, 8, 8, 8, 8, 8, 8, 8, 8, 8, 8, 8, 8, 8, 8, 8, 8, 8, 8, 8, 8, 8, 8, 8, 8, 8, 8, 8, 8, 8, 8, 8, 8, 8, 8, 8, 8, 8, 8, 8, 8, 8, 8, 8, 8, 8, 8, 8, 8, 8, 8, 8, 8, 8, 8, 8, 8, 8, 8, 8, 8, 8, 8, 8, 8, 8, 8, 8, 8, 8, 8, 8, 8, 8, 8, 8, 8, 8, 8, 8, 8, 8, 8, 8]⟩ : ByteArray) ((m.1 : Nat) : Int) = bl ((m.1 : Nat) : Int) := by decide +kernel
  exact this ⟨n, by omega⟩
theorem w64_bl {i : Int} (h1 : i < 256) : wrap64 (bl i) = bl i := by
  have := bl_b (x := i) (by omega); exact w64 (by omega) (by omega)
set_option maxRecDepth 100000 in
theorem bits_Len64_j0_eq (k : Nat) (x y : Int) (h0 : 0 ≤ x) (h1 : x < 4294967296) (y0 : 0 ≤ y) (y1 : y ≤ 32) : bits_Len64.j0 (k + 1) x y = some (y + bl x) := by
  rw [bits_Len64.j0]
  by_cases c1 : x ≥ 65536
  · rw [if_pos c1]
    have a1 := bl_shift 16 65536 (by decide) h0 (by omega)
    by_cases c2 : x / 65536 ≥ 256
    · rw [if_pos c2, if_pos (by omega), if_pos (by omega)]
      have a2 := bl_shift 8 256 (by decide) (x := x / 65536) (by omega) (by omega)
      have e : (x / 65536 / 256) % 256 = x / 65536 / 256 := by omega
      rw [e, tab_len _ (by omega) (by omega), w64_bl (by omega), w64 (n := y + 16) (by omega) (by omega), w64 (n := y + 16 + 8) (by omega) (by omega)]
      have := bl_b (x := x / 65536 / 256) (by omega)
      rw [w64 (by omega) (by omega)]; congr 1; omega
    · rw [if_neg c2, if_pos (by omega), if_pos (by omega)]
      have e : (x / 65536) % 256 = x / 65536 := by omega
      rw [e, tab_len _ (by omega) (by omega), w64_bl (by omega), w64 (n := y + 16) (by omega) (by omega)]
      have := bl_b (x := x / 65536) (by omega)
      rw [w64 (by omega) (by omega)]; congr 1; omega
  · rw [if_neg c1]
    by_cases c2 : x ≥ 256
    · rw [if_pos c2, if_pos (by omega), if_pos (by omega)]
      have a2 := bl_shift 8 256 (by decide) h0 (by omega)
      have e : (x / 256) % 256 = x / 256 := by omega
      rw [e, tab_len _ (by omega) (by omega), w64_bl (by omega), w64 (n := y + 8) (by omega) (by omega)]
      have := bl_b (x := x / 256) (by omega)
      rw [w64 (by omega) (by omega)]; congr 1; omega
    · rw [if_neg c2, if_pos (by omega), if_pos (by omega)]
      have e : x % 256 = x := by omega
      rw [e, tab_len _ (by omega) (by omega), w64_bl (by omega)]
      have := bl_b (x := x) (by omega)
      rw [w64 (by omega) (by omega)]
theorem bits_Len64_eq (k : Nat) (x : Int) (h0 : 0 ≤ x) (h1 : x < 18446744073709551616) : bits_Len64.f (k + 1) x = some (bl x) := by
  unfold bits_Len64.f
  by_cases c : x ≥ 4294967296
  · rw [if_pos c, bits_Len64_j0_eq k _ _ (by omega) (by omega) (by omega) (by omega)]
    have a1 := bl_shift 32 4294967296 (by decide) h0 (by omega)
    congr 1; omega
  · rw [if_neg c, bits_Len64_j0_eq k _ _ (by omega) (by omega) (by omega) (by omega)]; congr 1; omega
theorem bits_Len_ev (x : Int) (h0 : 0 ≤ x) (h1 : x < 18446744073709551616) : Ev (fun k => bits_Len.f k x) (bl x) := by
  refine ⟨1, fun k hk => ?_⟩
  obtain ⟨k, rfl⟩ : ∃ m, k = m + 1 := ⟨k - 1, by omega⟩
  show (bits_Len64.f (k + 1) x).bind _ = _
  rw [bits_Len64_eq k x h0 h1]; rfl

/- BLOCK costmore: cost.Bits, Sort, Loop, Hash, Merge as printed -/
def bitsI (x : Int) : Int := bl (clipI x)
theorem bitsI_b (x : Int) : 0 ≤ bitsI x ∧ bitsI x ≤ 64 := bl_b (by have := clip_b x; omega)
theorem cost_Bits_ev (x : Int) : Ev (fun k => cost_Bits.f k x) (bitsI x) := by
  have hb := clip_b x
  unfold cost_Bits.f
  simp only [hist_Clip_eq, Option.bind_some]
  rw [u64w hb.1 (by omega)]
  exact Ev.bind (bits_Len_ev _ hb.1 (by omega)) (ev_some _)
def sortI (x : Int) : Int := mulI x (bitsI x)
theorem cost_Sort_ev (x : Int) : Ev (fun k => cost_Sort.f k x) (sortI x) := by
  unfold cost_Sort.f
  refine Ev.bind (cost_Bits_ev x) ?_
  simp only [hist_Mul_eq, Option.bind_some]
  exact ev_some _
theorem cost_Loop_ev (a b c : Int) : Ev (fun k => cost_Loop.f k a b c) (totI [a, mulI a b, c]) := by
  unfold cost_Loop.f
  simp only [hist_Mul_eq, Option.bind_some]
  exact Ev.bind (cost_sum_ev _ (by simp)) (ev_some _)
theorem cost_Hash_ev (a b c : Int) : Ev (fun k => cost_Hash.f k a b c) (totI [a, b, b, c, 4]) := by
  unfold cost_Hash.f
  exact Ev.bind (cost_sum_ev _ (by simp)) (ev_some _)
theorem cost_Merge_ev (a b c : Int) : Ev (fun k => cost_Merge.f k a b c) (totI [sortI a, sortI b, a, b, c, 2]) := by
  unfold cost_Merge.f
  refine Ev.bind (cost_Sort_ev a) (Ev.bind (cost_Sort_ev b) ?_)
  exact Ev.bind (cost_sum_ev _ (by simp)) (ev_some _)
theorem examples_ev : Ev (fun k => weathercocklaw16_examples.f k) true := by
  have h : Ev (fun k => weathercocklaw16_examples0.f k) true := by
    unfold weathercocklaw16_examples0.f
    refine Ev.bind (cost_Bits_ev 5) (ev_pos (by decide +kernel) ?_)
    refine Ev.bind (cost_Sort_ev 8) (ev_pos (by decide +kernel) ?_)
    refine Ev.bind (cost_Loop_ev 3 4 2) (ev_pos (by decide +kernel) ?_)
    refine Ev.bind (cost_Hash_ev 3 4 2) (ev_pos (by decide +kernel) ?_)
    refine Ev.bind (cost_Merge_ev 3 4 2) ?_
    exact ev_eq fun _ => by decide +kernel
  obtain ⟨K, hK⟩ := h
  exact ⟨K, fun k hk => by unfold weathercocklaw16_examples.f; exact if_pos (hK k hk)⟩

/- BLOCK the law CostSums -/
theorem cost_Sum_ev (l : List Int) (hl : l.length ≤ 140737488351232) : Ev (fun k => cost_Sum.f k l) (totI l) := by
  unfold cost_Sum.f
  exact Ev.bind (cost_sum_ev _ hl) (ev_some _)
theorem clip_two (x y : Int) (hx : 0 ≤ x) (hy : 0 ≤ y) : clipI (clipI (clipI x) + (clipI (clipI y) + 0)) = clipI (x + y) := by
  have bx := clip_b x; have by' := clip_b y
  rw [clip_id bx.1 bx.2, clip_id by'.1 by'.2]
  by_cases c1 : x ≤ 1000000000000
  · rw [clip_id hx c1]
    by_cases c2 : y ≤ 1000000000000
    · rw [clip_id hy c2, Int.add_zero]
    · rw [clip_hi (x := y) (by omega), clip_hi (by omega), clip_hi (by omega)]
  · rw [clip_hi (x := x) (by omega), clip_hi (by omega), clip_hi (by omega)]
theorem tot_two (a b : List Int) : totI [totI a, totI b] = totI (a ++ b) := by
  unfold totI
  simp only [sumI, sumI_app]
  exact clip_two _ _ (sumI_nn a) (sumI_nn b)
theorem tot_one (x : Int) : totI [x] = mn (mx x 0) 1000000000000 := by
  unfold totI
  simp only [sumI, Int.add_zero]
  have := clip_b x
  rw [clip_id this.1 this.2]; rfl
theorem j2_ev (x : List Int) (hx : x.length ≤ 100) (at_ : Int) (h0 : 0 ≤ at_) (h1 : at_ ≤ x.length) (y : List Int) (hy : y = x.reverse) (z : Int) :
    Ev (fun k => weathercocklaw16_CostSums.j2 k x at_ true y (totI x) z) true := by
  obtain ⟨K1, h1'⟩ := cost_Sum_ev y (by rw [hy, List.length_reverse]; omega)
  obtain ⟨K2, h2⟩ := cost_Sum_ev (x.take at_.toNat) (by rw [List.length_take]; omega)
  obtain ⟨K3, h3⟩ := cost_Sum_ev (x.drop at_.toNat) (by rw [List.length_drop]; omega)
  obtain ⟨K4, h4⟩ := cost_Sum_ev [totI (x.take at_.toNat), totI (x.drop at_.toNat)] (by simp)
  obtain ⟨K5, h5⟩ := cost_Sum_ev [z] (by simp)
  obtain ⟨K6, h6⟩ := cost_Sum_ev [] (by simp)
  have e1 : totI y = totI x := by rw [hy]; unfold totI; rw [sumI_rev]
  have e2 : totI [totI (x.take at_.toNat), totI (x.drop at_.toNat)] = totI x := by rw [tot_two, List.take_append_drop]
  refine ⟨K1 + K2 + K3 + K4 + K5 + K6 + 1, fun k hk => ?_⟩
  obtain ⟨k, rfl⟩ : ∃ m, k = m + 1 := ⟨k - 1, by omega⟩
  show weathercocklaw16_CostSums.j2 (k + 1) x at_ true y (totI x) z = some true
  rw [weathercocklaw16_CostSums.j2, if_pos rfl, show cost_Sum.f k y = some _ from h1' k (by omega), Option.bind_some, if_pos e1.symm, if_pos h0, if_pos h1]
  rw [show cost_Sum.f k (x.take at_.toNat) = some _ from h2 k (by omega), Option.bind_some, show cost_Sum.f k (x.drop at_.toNat) = some _ from h3 k (by omega), Option.bind_some]
  rw [show cost_Sum.f k [totI (x.take at_.toNat), totI (x.drop at_.toNat)] = some _ from h4 k (by omega), Option.bind_some, if_pos e2.symm]
  rw [show cost_Sum.f k [z] = some _ from h5 k (by omega), Option.bind_some, if_pos (tot_one z), show cost_Sum.f k [] = some _ from h6 k (by omega), Option.bind_some]
  rfl
theorem l0_ev (x : List Int) (hx : x.length ≤ 100) (at_ : Int) (h0 : 0 ≤ at_) (h1 : at_ ≤ x.length) (d : Nat) : ∀ (i : Int) (y : List Int), (i + 1 = d) → i < x.length → y = (x.drop (i + 1).toNat).reverse →
    Ev (fun k => weathercocklaw16_CostSums.l0 k x at_ true y i) true := by
  induction d with
  | zero =>
    intro i y hd hi hy
    have hy' : y = x.reverse := by rw [hy, show (i + 1).toNat = 0 by omega, List.drop_zero]
    refine Ev.step (fun k => rfl) ?_
    simp only [weathercocklaw16_CostSums.l0]
    refine ev_neg (by omega) (Ev.bind (cost_Sum_ev x (by omega)) ?_)
    by_cases c : (x.length : Int) > 0
    · exact ev_pos c (ev_pos (by omega) (j2_ev x hx at_ h0 h1 y hy' _))
    · exact ev_neg c (j2_ev x hx at_ h0 h1 y hy' _)
  | succ d ih =>
    intro i y hd hi hy
    have hlt : i.toNat < x.length := by omega
    have hyl : y.length ≤ 100 := by rw [hy, List.length_reverse, List.length_drop]; omega
    refine Ev.step (fun k => rfl) ?_
    simp only [weathercocklaw16_CostSums.l0]
    refine ev_pos (by omega) (ev_pos (by omega) (ev_pos (by omega) (ev_pos (by omega) ?_)))
    rw [w64 (by omega) (by omega)]
    refine ih (i - 1) _ (by omega) (by omega) ?_
    rw [rd_get _ _ hlt, show (i - 1 + 1).toNat = i.toNat by omega, List.drop_eq_getElem_cons hlt, List.reverse_cons, hy, show (i + 1).toNat = i.toNat + 1 by omega]
theorem j0_ev (x : List Int) (hx : x.length ≤ 100) (m : Int) (hm : 0 ≤ m) : Ev (fun k => weathercocklaw16_CostSums.j0 k x m true) true := by
  refine Ev.step (fun k => rfl) ?_
  simp only [weathercocklaw16_CostSums.j0]
  have e1 : wrap64 ((x.length : Int) + 1) = (x.length : Int) + 1 := w64 (by omega) (by omega)
  have e2 : wrap64 ((x.length : Int) - 1) = (x.length : Int) - 1 := w64 (by omega) (by omega)
  simp only [e1, e2]
  refine ev_neg (by omega) ?_
  have hr : 0 ≤ Int.tmod m ((x.length : Int) + 1) ∧ Int.tmod m ((x.length : Int) + 1) < (x.length : Int) + 1 := by
    rw [Int.tmod_eq_emod_of_nonneg hm]
    exact ⟨Int.emod_nonneg _ (by omega), Int.emod_lt_of_pos _ (by omega)⟩
  refine l0_ev x hx _ hr.1 (by omega) x.length _ _ (by omega) (by omega) ?_
  rw [show ((x.length : Int) - 1 + 1).toNat = x.length by omega, List.drop_length]; rfl
theorem CostSums : weathercocklaw16_CostSums.Pure := by
  intro l m _ _ _ hm
  have hm := i64_bd hm
  have q : 0 ≤ mn (l.length : Int) 100 ∧ mn (l.length : Int) 100 ≤ 100 ∧ mn (l.length : Int) 100 ≤ l.length := by unfold mn; split <;> omega
  apply Ev.rounds
  unfold weathercocklaw16_CostSums.f
  refine Ev.bind examples_ev (ev_pos q.1 (ev_pos q.2.2 ?_))
  simp only [Option.bind_some]
  have hx : (l.take (mn (l.length : Int) 100).toNat).length ≤ 100 := by rw [List.length_take]; omega
  by_cases c1 : m < 0
  · refine ev_pos c1 ?_
    rw [w64 (n := m + 1) (by omega) (by omega), w64 (by omega) (by omega)]
    exact j0_ev _ hx _ (by omega)
  · exact ev_neg c1 (j0_ev _ hx _ (by omega))

end Go.Proofs.Ytdghbkffcmikhaa.Pure
