import Derived.Test.YtplmfnjijhppaaaQRowTwox6
import Derived.Lib.Mul64
import Derived.Laws.MathBits
/- RowTwo: the pure statement of the law RowTwo, proved: over the functions that the printer wrote for the Go code. No condition beside the statement's own. -/
namespace Go.Proofs.Ytplmfnjijhppaaa.Pure
open Go.RowKit Go.Proofs.Ytplmfnjijhppaaa.QRowTwo Go.Proofs.YtplmfnjijhppaaaW.PrintWords Go.Proofs.YtplmfnjijhppaaaW.PrintLast Go.Proofs.YtplmfnjijhppaaaW.PrintMore
set_option linter.unusedVariables false

/- BLOCK base -/
theorem ev_pos {α : Type} {c : Prop} [Decidable c] {A B : Nat → Option α} {r : α} (h : c) (k : Ev A r) : Ev (fun n => if c then A n else B n) r := Ev.congr (fun _ => if_pos h) k
theorem ev_neg {α : Type} {c : Prop} [Decidable c] {A B : Nat → Option α} {r : α} (h : ¬ c) (k : Ev B r) : Ev (fun n => if c then A n else B n) r := Ev.congr (fun _ => if_neg h) k
theorem ev_some {α : Type} (r : α) : Ev (fun _ => some r) r := Ev.now r
theorem ev_eq {α : Type} {A : Nat → Option α} {r : α} (h : ∀ k, A k = some r) : Ev A r := ⟨0, fun k _ => h k⟩
theorem w64 {n : Int} (h0 : -9223372036854775808 ≤ n) (h1 : n ≤ 9223372036854775807) : wrap64 n = n := by unfold wrap64; omega
theorem u64w {n : Int} (h0 : 0 ≤ n) (h1 : n < 18446744073709551616) : IntKind.u64.wrap n = n := by
  have : IntKind.u64.wrap n = n % 18446744073709551616 := by simp [IntKind.wrap, IntKind.bits, IntKind.signed]
  rw [this]; omega
theorem u64m (n : Int) : IntKind.u64.wrap n = n % 18446744073709551616 := by simp [IntKind.wrap, IntKind.bits, IntKind.signed]
theorem i64_bd {n : Int} (h : (Lit.int .i64 n).wf = true) : -9223372036854775808 ≤ n ∧ n ≤ 9223372036854775807 := by
  simp [Lit.wf, IntKind.min, IntKind.max, IntKind.bits, IntKind.signed] at h; omega
theorem mn_def (a b : Int) : mn a b = if b < a then b else a := rfl
theorem mx_def (a b : Int) : mx a b = if a < b then b else a := rfl
theorem rd_get (l : List Int) (i : Int) (h : i.toNat < l.length) : rd l i = l[i.toNat] := by
  unfold rd; rw [List.getD_eq_getElem?_getD, List.getElem?_eq_getElem h]; rfl

/- BLOCK rowpure: rows' bytes -/
theorem rowEx_ev : Ev (fun k => weathercocklaw02_examples.f k) true := Ev.of weathercocklaw02_examples.mono (k := 40) (by decide +kernel)
theorem strOf_size (l : List Int) : (strOfNums l).size = l.length := by simp [strOfNums, ByteArray.size]
theorem encR_long (l : List (S36)) (h : 100 < l.length) : encR l = ((⟨#[]⟩ : ByteArray), 5) := if_pos h
theorem encR_ok (l : List (S36)) (h : ¬ 100 < l.length) (a : l.all vRs = true) : encR l = (strOfNums (encL l), 0) := by unfold encR; rw [if_neg h, if_pos a]
theorem encR_bad (l : List (S36)) (h : ¬ 100 < l.length) (a : ¬ l.all vRs = true) : encR l = ((⟨#[]⟩ : ByteArray), 1) := by unfold encR; rw [if_neg h, if_neg a]
theorem rd_at (l : List (S36)) (i : Nat) (h : i < l.length) : rd_T36 l (i : Int) = l[i] := by unfold rd_T36; rw [Int.toNat_natCast, List.getD_eq_getElem?_getD, List.getElem?_eq_getElem h]; rfl
theorem empty_list : ((⟨#[]⟩ : ByteArray).toList == ([] : List UInt8)) = true := by decide +kernel

/- BLOCK rowba: bytes, values -/
theorem ba_inj {a b : ByteArray} (h : a.toList = b.toList) : a = b := by
  rw [ByteArray.toList_eq, ByteArray.toList_eq] at h
  cases a with
  | mk x => cases b with
    | mk y => simpa using h
theorem ba_nil {a : ByteArray} (h : a.toList = []) : a = ⟨#[]⟩ := ba_inj (h.trans (by decide +kernel))
theorem S36_ext {x y : S36} (h0 : x.f0 = y.f0) (h1 : x.f1 = y.f1) (h2 : x.f2 = y.f2) : x = y := by
  cases x; cases y; simp_all

/- BLOCK rowinj: the same rows have the same bytes, order and hash -/
theorem cV_zero (x y : S36) : cV x.f0 x.f1 x.f2 y.f0 y.f1 y.f2 = 0 ↔ x = y := by
  have h := ordV.eq0 (x.f0, x.f1, x.f2.toList) (y.f0, y.f1, y.f2.toList)
  constructor
  · intro e
    have := h.1 e
    simp only [Prod.mk.injEq] at this
    exact S36_ext this.1 this.2.1 (ba_inj this.2.2)
  · rintro rfl
    exact h.2 rfl
theorem cmpR_zero : ∀ a b : List S36, cmpR a b = 0 ↔ a = b
  | [], [] => by simp [cmpR]
  | [], _ :: _ => by simp [cmpR]
  | _ :: _, [] => by simp [cmpR]
  | x :: a, y :: b => by
    unfold cmpR
    by_cases h : cV x.f0 x.f1 x.f2 y.f0 y.f1 y.f2 = 0
    · rw [if_pos h, cmpR_zero a b, (cV_zero x y).1 h]
      simp
    · rw [if_neg h]
      constructor
      · exact fun e => absurd e h
      · intro e
        injection e with e1 e2
        exact absurd ((cV_zero x y).2 e1) h
theorem vRs_cases (x : S36) (h : vRs x = true) : (x.f0 = 0 ∧ x.f1 = 0 ∧ x.f2 = ⟨#[]⟩) ∨ (x.f0 = 1 ∧ x.f2 = ⟨#[]⟩) ∨ (x.f0 = 2 ∧ (x.f1 = 0 ∨ x.f1 = 1) ∧ x.f2 = ⟨#[]⟩) ∨ (x.f0 = 3 ∧ x.f1 = 0 ∧ x.f2.size ≤ 40) := by
  unfold vRs vR at h
  by_cases c0 : x.f0 = 0
  · rw [if_pos c0] at h
    simp only [Bool.and_eq_true, beq_iff_eq] at h
    exact .inl ⟨c0, h.1, ba_nil h.2⟩
  · rw [if_neg c0] at h
    by_cases c1 : x.f0 = 1
    · rw [if_pos c1] at h
      exact .inr (.inl ⟨c1, ba_nil (beq_iff_eq.1 h)⟩)
    · rw [if_neg c1] at h
      by_cases c2 : x.f0 = 2
      · rw [if_pos c2] at h
        split at h
        · exact .inr (.inr (.inl ⟨c2, by omega, ba_nil (beq_iff_eq.1 h)⟩))
        · cases h
      · rw [if_neg c2] at h
        by_cases c3 : x.f0 = 3
        · rw [if_pos c3] at h
          split at h
          · have := of_decide_eq_true h
            exact .inr (.inr (.inr ⟨c3, by assumption, by omega⟩))
          · cases h
        · rw [if_neg c3] at h
          cases h
theorem bytesOf_inj {a b : ByteArray} (h : bytesOf a = bytesOf b) : a = b := by
  apply ba_inj
  rw [ByteArray.toList_eq, ByteArray.toList_eq]
  unfold bytesOf at h
  exact (List.map_inj_right (f := fun b : UInt8 => (b.toNat : Int)) (fun x y e => UInt8.toNat_inj.1 (by exact_mod_cast e))).1 h
theorem eight_inj (n m : Int) (hn : -9223372036854775808 ≤ n ∧ n ≤ 9223372036854775807) (hm : -9223372036854775808 ≤ m ∧ m ≤ 9223372036854775807) (h : eightL n = eightL m) : n = m := by
  unfold eightL at h
  simp only [List.cons.injEq, and_true] at h
  obtain ⟨h0, h1, h2, h3, h4, h5, h6, h7⟩ := h
  omega
theorem encV_inj (x y : S36) (a b : List Int) (hx : vRs x = true) (hy : vRs y = true) (wx : -9223372036854775808 ≤ x.f1 ∧ x.f1 ≤ 9223372036854775807) (wy : -9223372036854775808 ≤ y.f1 ∧ y.f1 ≤ 9223372036854775807) (h : encV x ++ a = encV y ++ b) : x = y ∧ a = b := by
  have cx := vRs_cases x hx
  have cy := vRs_cases y hy
  have hk : x.f0 = y.f0 := by
    have h' := h
    unfold encV at h'
    rw [List.append_assoc, List.append_assoc] at h'
    have := (List.cons.inj h').1
    omega
  unfold encV at h
  rw [hk] at h
  rw [List.append_assoc, List.append_assoc] at h
  have h := List.append_cancel_left h
  rcases cx with ⟨x0, x1, x2⟩ | ⟨x0, x2⟩ | ⟨x0, x1, x2⟩ | ⟨x0, x1, x2⟩
  · rw [← hk, x0] at h
    rcases cy with ⟨y0, y1, y2⟩ | ⟨y0, y2⟩ | ⟨y0, y1, y2⟩ | ⟨y0, y1, y2⟩
    · exact ⟨S36_ext hk (by omega) (x2.trans y2.symm), by simpa using h⟩
    all_goals omega
  · simp only [← hk, x0, eq_self, if_true] at h
    rcases cy with ⟨y0, y1, y2⟩ | ⟨y0, y2⟩ | ⟨y0, y1, y2⟩ | ⟨y0, y1, y2⟩
    · omega
    · have h2 := List.append_inj h rfl
      exact ⟨S36_ext hk (eight_inj _ _ wx wy h2.1) (x2.trans y2.symm), h2.2⟩
    all_goals omega
  · simp only [← hk, x0, show ((2 : Int) = 1) ↔ False from by decide, eq_self, if_true, if_false] at h
    rcases cy with ⟨y0, y1, y2⟩ | ⟨y0, y2⟩ | ⟨y0, y1, y2⟩ | ⟨y0, y1, y2⟩
    · omega
    · omega
    · have h2 := List.cons.inj h
      exact ⟨S36_ext hk (by omega) (x2.trans y2.symm), h2.2⟩
    · omega
  · simp only [← hk, x0, show ((3 : Int) = 1) ↔ False from by decide, show ((3 : Int) = 2) ↔ False from by decide, eq_self, if_true, if_false] at h
    rcases cy with ⟨y0, y1, y2⟩ | ⟨y0, y2⟩ | ⟨y0, y1, y2⟩ | ⟨y0, y1, y2⟩
    · omega
    · omega
    · omega
    · rw [List.append_assoc, List.append_assoc] at h
      have h2 := List.cons.inj h
      have hs : x.f2.size = y.f2.size := by have := h2.1; omega
      have h22 : bytesOf x.f2 ++ a = bytesOf y.f2 ++ b := h2.2
      have h3 := List.append_inj h22 (by rw [bytesOf_length, bytesOf_length]; exact hs)
      exact ⟨S36_ext hk (by omega) (bytesOf_inj h3.1), h3.2⟩
theorem encL_inj : ∀ a b : List S36, a.all vRs = true → b.all vRs = true → (∀ x ∈ a, -9223372036854775808 ≤ x.f1 ∧ x.f1 ≤ 9223372036854775807) → (∀ x ∈ b, -9223372036854775808 ≤ x.f1 ∧ x.f1 ≤ 9223372036854775807) → encL a = encL b → a = b
  | [], [], _, _, _, _, _ => rfl
  | [], y :: b, _, _, _, _, h => by simp [encL, encV] at h
  | x :: a, [], _, _, _, _, h => by simp [encL, encV] at h
  | x :: a, y :: b, ha, hb, wa, wb, h => by
    rw [List.all_cons, Bool.and_eq_true] at ha hb
    have h2 := encV_inj x y (encL a) (encL b) ha.1 hb.1 (wa x (by simp)) (wb y (by simp)) h
    rw [h2.1, encL_inj a b ha.2 hb.2 (fun z hz => wa z (by simp [hz])) (fun z hz => wb z (by simp [hz])) h2.2]
theorem encV_rng (v : S36) : ∀ n ∈ encV v, 0 ≤ n ∧ n < 256 := by
  intro n hn
  unfold encV at hn
  rw [List.mem_append] at hn
  rcases hn with hn | hn
  · simp only [List.mem_singleton] at hn
    omega
  · split at hn
    · simp only [eightL, List.mem_cons, List.not_mem_nil, or_false] at hn
      omega
    · split at hn
      · simp only [List.mem_singleton] at hn
        omega
      · split at hn
        · rw [List.mem_append] at hn
          rcases hn with hn | hn
          · simp only [List.mem_singleton] at hn
            omega
          · unfold bytesOf at hn
            obtain ⟨b, _, rfl⟩ := List.mem_map.1 hn
            have := b.toNat_lt
            omega
        · cases hn
theorem encL_rng : ∀ l : List S36, ∀ n ∈ encL l, 0 ≤ n ∧ n < 256
  | [], n, h => by cases h
  | v :: l, n, h => by
    rw [encL, List.mem_append] at h
    exact h.elim (encV_rng v n) (encL_rng l n)
theorem bytesOf_str (l : List Int) (h : ∀ n ∈ l, 0 ≤ n ∧ n < 256) : bytesOf (strOfNums l) = l := by
  unfold bytesOf strOfNums
  rw [List.map_map]
  conv => rhs; rw [← List.map_id l]
  apply List.map_congr_left
  intro n hn
  have := h n hn
  simp only [Function.comp, id, UInt8.toNat_ofNat']
  omega
theorem str_inj (a b : List Int) (ha : ∀ n ∈ a, 0 ≤ n ∧ n < 256) (hb : ∀ n ∈ b, 0 ≤ n ∧ n < 256) (h : (strOfNums a).toList = (strOfNums b).toList) : a = b := by
  rw [← bytesOf_str a ha, ← bytesOf_str b hb, ba_inj h]

/- BLOCK the law RowTwo, of rows of at most 1048576 values -/
theorem all_app (a b : List S36) : (a ++ b).all vRs = (a.all vRs && b.all vRs) := List.all_append
theorem cmp_pre : ∀ a b : List S36, (cmpR a (a ++ b) < 0) ↔ 0 < b.length
  | [], [] => by simp [cmpR]
  | [], y :: b => by simp [cmpR]
  | x :: a, b => by
    show cmpR (x :: a) (x :: (a ++ b)) < 0 ↔ _
    unfold cmpR
    rw [if_pos ((cV_zero x x).2 rfl)]
    exact cmp_pre a b
theorem str_append (a b : List Int) : strOfNums (a ++ b) = strOfNums a ++ strOfNums b := by
  apply ba_inj
  rw [ByteArray.toList_eq, ByteArray.toList_eq]
  simp [strOfNums, ByteArray.data_append]
theorem RowTwo (l r : List S36) (hl : l.length ≤ 1048576) (hr : r.length ≤ 1048576) : ∃ k, weathercocklaw02_RowTwo.f k l r = some true := by
  obtain ⟨K, h⟩ := rowEx_ev
  refine ⟨K + 1, ?_⟩
  unfold weathercocklaw02_RowTwo.f row_Encode.f
  rw [show weathercocklaw02_examples.f (K + 1) = some true from h _ (by omega), Option.bind_some, Option.bind_some, Option.bind_some, if_pos (by simp; omega), Option.bind_some, if_pos (by simp; omega), Option.bind_some, Option.bind_some, List.nil_append]
  have hlen : (l ++ r).length = l.length + r.length := List.length_append
  have hbad : ∀ x : Bool, (encR (l ++ r)).2 ≠ 0 → x = true → weathercocklaw02_RowTwo.j0 (K + 1) l r true (encR l).1 (encR r).1 (l ++ r) (encR (l ++ r)).1 (encR (l ++ r)).2 x = some true := by
    rintro x hx rfl
    simp only [weathercocklaw02_RowTwo.j0]
    rw [if_pos trivial, if_pos trivial]
    simpa using hx
  have hne : ∀ a : List S36, (encR a).2 = 0 → ¬ 100 < a.length ∧ a.all vRs = true := by
    intro a ha
    by_cases c : 100 < a.length
    · rw [encR_long a c] at ha
      cases ha
    · by_cases d : a.all vRs = true
      · exact ⟨c, d⟩
      · rw [encR_bad a c d] at ha
        cases ha
  by_cases c : (encR l).2 = 0
  · rw [if_pos c]
    have hcl := hne l c
    by_cases d : (encR r).2 = 0
    · have hcr := hne r d
      rw [show ((encR r).2 != 0) = false by rw [d]; rfl]
      simp only [weathercocklaw02_RowTwo.j0, row_Compare.f]
      rw [if_neg (by decide)]
      by_cases e : 100 < (l ++ r).length
      · rw [if_pos (by omega), if_pos trivial, encR_long _ e]
        rfl
      · have ha : (l ++ r).all vRs = true := by rw [all_app, hcl.2, hcr.2]; rfl
        have hsz := encL_len _ hcl.2
        have hsz2 := encL_len _ hcr.2
        rw [if_neg (by omega), if_pos trivial, encR_ok _ e ha, encR_ok _ hcl.1 hcl.2, encR_ok _ hcr.1 hcr.2]
        dsimp only
        rw [if_pos (by rw [strOf_size, strOf_size]; omega), encL_append, str_append, if_pos rfl, if_pos rfl, Option.bind_some]
        have hp := cmp_pre l r
        by_cases z : 0 < r.length
        · rw [decide_eq_true (hp.2 z), decide_eq_true (show (r.length : Int) > 0 by omega)]
          rfl
        · rw [decide_eq_false (fun q => z (hp.1 q)), decide_eq_false (show ¬ (r.length : Int) > 0 by omega)]
          rfl
    · refine hbad _ ?_ (by simpa using d)
      intro q
      have hq := hne _ q
      rw [all_app, Bool.and_eq_true] at hq
      exact d (by rw [encR_ok r (by omega) hq.2.2])
  · rw [if_neg c]
    refine hbad _ ?_ rfl
    intro q
    have hq := hne _ q
    rw [all_app, Bool.and_eq_true] at hq
    exact c (by rw [encR_ok l (by omega) hq.2.1])

end Go.Proofs.Ytplmfnjijhppaaa.Pure
