import Derived.Test.YtplmfnjijhppaaaQRowBytesx9
import Derived.Lib.Mul64
import Derived.Laws.MathBits
/- RowBytes: the pure statement of the law RowBytes, proved: over the functions that the printer wrote for the Go code. No condition beside the statement's own. -/
namespace Go.Proofs.Ytplmfnjijhppaaa.Pure
open Go.RowKit Go.Proofs.Ytplmfnjijhppaaa.QRowBytes Go.Proofs.YtplmfnjijhppaaaW.PrintWords Go.Proofs.YtplmfnjijhppaaaW.PrintLast Go.Proofs.YtplmfnjijhppaaaW.PrintMore
set_option linter.unusedVariables false

/- BLOCK base -/
theorem ev_pos {α : Type} {c : Prop} [Decidable c] {A B : Nat → Option α} {r : α} (h : c) (k : Ev A r) : Ev (fun n => if c then A n else B n) r := Ev.congr (fun _ => if_pos h) k
theorem ev_neg {α : Type} {c : Prop} [Decidable c] {A B : Nat → Option α} {r : α} (h : ¬ c) (k : Ev B r) : Ev (fun n => if c then A n else B n) r := Ev.congr (fun _ => if_neg h) k
theorem ev_some {α : Type} (r : α) : Ev (fun _ => some r) r := Ev.now r
theorem ev_eq {α : Type} {A : Nat → Option α} {r : α} (h : ∀ k, A k = some r) : Ev A r := ⟨0, fun k _ => h k⟩
theorem w64 {n : Int} (h0 : -9223372036854775808 ≤ n) (h1 : n ≤ 9223372036854775807) : wrap64 n = n := by unfold wrap64; omega
theorem u64w {n : Int} (h0 : 0 ≤ n) (h1 : n < 18446744073709551616) : IntKind.u64.wrap n = n := by
  have : IntKind.u64.wrap n = n % 18446744073709551616 := by simp [IntKind.wrap, IntKind.bits, IntKind.signed]
  rw [this]; omega
theorem u64m (n : Int) : IntKind.u64.wrap n = n % 18446744073709551616 := by simp [IntKind.wrap, IntKind.bits, IntKind.signed]
theorem i64_bd {n : Int} (h : (Lit.int .i64 n).wf = true) : -9223372036854775808 ≤ n ∧ n ≤ 9223372036854775807 := by
  simp [Lit.wf, IntKind.min, IntKind.max, IntKind.bits, IntKind.signed] at h; omega
theorem mn_def (a b : Int) : mn a b = if b < a then b else a := rfl
theorem mx_def (a b : Int) : mx a b = if a < b then b else a := rfl
theorem rd_get (l : List Int) (i : Int) (h : i.toNat < l.length) : rd l i = l[i.toNat] := by
  unfold rd; rw [List.getD_eq_getElem?_getD, List.getElem?_eq_getElem h]; rfl

/- BLOCK rowpure: rows' bytes -/
theorem rowEx_ev : Ev (fun k => weathercocklaw02_examples.f k) true := Ev.of weathercocklaw02_examples.mono (k := 40) (by decide +kernel)
theorem strOf_size (l : List Int) : (strOfNums l).size = l.length := by simp [strOfNums, ByteArray.size]
theorem encR_long (l : List (S36)) (h : 100 < l.length) : encR l = ((⟨#[]⟩ : ByteArray), 5) := if_pos h
theorem encR_ok (l : List (S36)) (h : ¬ 100 < l.length) (a : l.all vRs = true) : encR l = (strOfNums (encL l), 0) := by unfold encR; rw [if_neg h, if_pos a]
theorem encR_bad (l : List (S36)) (h : ¬ 100 < l.length) (a : ¬ l.all vRs = true) : encR l = ((⟨#[]⟩ : ByteArray), 1) := by unfold encR; rw [if_neg h, if_neg a]
theorem rd_at (l : List (S36)) (i : Nat) (h : i < l.length) : rd_T36 l (i : Int) = l[i] := by unfold rd_T36; rw [Int.toNat_natCast, List.getD_eq_getElem?_getD, List.getElem?_eq_getElem h]; rfl
theorem empty_list : ((⟨#[]⟩ : ByteArray).toList == ([] : List UInt8)) = true := by decide +kernel

/- BLOCK rowba: bytes, values -/
theorem ba_inj {a b : ByteArray} (h : a.toList = b.toList) : a = b := by
  rw [ByteArray.toList_eq, ByteArray.toList_eq] at h
  cases a with
  | mk x => cases b with
    | mk y => simpa using h
theorem ba_nil {a : ByteArray} (h : a.toList = []) : a = ⟨#[]⟩ := ba_inj (h.trans (by decide +kernel))
theorem S36_ext {x y : S36} (h0 : x.f0 = y.f0) (h1 : x.f1 = y.f1) (h2 : x.f2 = y.f2) : x = y := by
  cases x; cases y; simp_all

/- BLOCK rowsame: the comparison of two rows -/
theorem sameV_iff (x y : S36) : sameV x y = true ↔ x = y := by
  unfold sameV
  constructor
  · intro h
    simp only [Bool.and_eq_true, beq_iff_eq] at h
    exact S36_ext h.1 h.2.1 (ba_inj h.2.2)
  · rintro rfl
    simp
theorem sameL_iff : ∀ a b : List S36, sameL a b = true ↔ a = b
  | [], [] => by simp [sameL]
  | [], _ :: _ => by simp [sameL]
  | _ :: _, [] => by simp [sameL]
  | x :: a, y :: b => by rw [sameL, Bool.and_eq_true, sameV_iff, sameL_iff a b]; simp

/- BLOCK rowinj: the same rows have the same bytes, order and hash -/
theorem cV_zero (x y : S36) : cV x.f0 x.f1 x.f2 y.f0 y.f1 y.f2 = 0 ↔ x = y := by
  have h := ordV.eq0 (x.f0, x.f1, x.f2.toList) (y.f0, y.f1, y.f2.toList)
  constructor
  · intro e
    have := h.1 e
    simp only [Prod.mk.injEq] at this
    exact S36_ext this.1 this.2.1 (ba_inj this.2.2)
  · rintro rfl
    exact h.2 rfl
theorem cmpR_zero : ∀ a b : List S36, cmpR a b = 0 ↔ a = b
  | [], [] => by simp [cmpR]
  | [], _ :: _ => by simp [cmpR]
  | _ :: _, [] => by simp [cmpR]
  | x :: a, y :: b => by
    unfold cmpR
    by_cases h : cV x.f0 x.f1 x.f2 y.f0 y.f1 y.f2 = 0
    · rw [if_pos h, cmpR_zero a b, (cV_zero x y).1 h]
      simp
    · rw [if_neg h]
      constructor
      · exact fun e => absurd e h
      · intro e
        injection e with e1 e2
        exact absurd ((cV_zero x y).2 e1) h
theorem vRs_cases (x : S36) (h : vRs x = true) : (x.f0 = 0 ∧ x.f1 = 0 ∧ x.f2 = ⟨#[]⟩) ∨ (x.f0 = 1 ∧ x.f2 = ⟨#[]⟩) ∨ (x.f0 = 2 ∧ (x.f1 = 0 ∨ x.f1 = 1) ∧ x.f2 = ⟨#[]⟩) ∨ (x.f0 = 3 ∧ x.f1 = 0 ∧ x.f2.size ≤ 40) := by
  unfold vRs vR at h
  by_cases c0 : x.f0 = 0
  · rw [if_pos c0] at h
    simp only [Bool.and_eq_true, beq_iff_eq] at h
    exact .inl ⟨c0, h.1, ba_nil h.2⟩
  · rw [if_neg c0] at h
    by_cases c1 : x.f0 = 1
    · rw [if_pos c1] at h
      exact .inr (.inl ⟨c1, ba_nil (beq_iff_eq.1 h)⟩)
    · rw [if_neg c1] at h
      by_cases c2 : x.f0 = 2
      · rw [if_pos c2] at h
        split at h
        · exact .inr (.inr (.inl ⟨c2, by omega, ba_nil (beq_iff_eq.1 h)⟩))
        · cases h
      · rw [if_neg c2] at h
        by_cases c3 : x.f0 = 3
        · rw [if_pos c3] at h
          split at h
          · have := of_decide_eq_true h
            exact .inr (.inr (.inr ⟨c3, by assumption, by omega⟩))
          · cases h
        · rw [if_neg c3] at h
          cases h
theorem bytesOf_inj {a b : ByteArray} (h : bytesOf a = bytesOf b) : a = b := by
  apply ba_inj
  rw [ByteArray.toList_eq, ByteArray.toList_eq]
  unfold bytesOf at h
  exact (List.map_inj_right (f := fun b : UInt8 => (b.toNat : Int)) (fun x y e => UInt8.toNat_inj.1 (by exact_mod_cast e))).1 h
theorem eight_inj (n m : Int) (hn : -9223372036854775808 ≤ n ∧ n ≤ 9223372036854775807) (hm : -9223372036854775808 ≤ m ∧ m ≤ 9223372036854775807) (h : eightL n = eightL m) : n = m := by
  unfold eightL at h
  simp only [List.cons.injEq, and_true] at h
  obtain ⟨h0, h1, h2, h3, h4, h5, h6, h7⟩ := h
  omega
theorem encV_inj (x y : S36) (a b : List Int) (hx : vRs x = true) (hy : vRs y = true) (wx : -9223372036854775808 ≤ x.f1 ∧ x.f1 ≤ 9223372036854775807) (wy : -9223372036854775808 ≤ y.f1 ∧ y.f1 ≤ 9223372036854775807) (h : encV x ++ a = encV y ++ b) : x = y ∧ a = b := by
  have cx := vRs_cases x hx
  have cy := vRs_cases y hy
  have hk : x.f0 = y.f0 := by
    have h' := h
    unfold encV at h'
    rw [List.append_assoc, List.append_assoc] at h'
    have := (List.cons.inj h').1
    omega
  unfold encV at h
  rw [hk] at h
  rw [List.append_assoc, List.append_assoc] at h
  have h := List.append_cancel_left h
  rcases cx with ⟨x0, x1, x2⟩ | ⟨x0, x2⟩ | ⟨x0, x1, x2⟩ | ⟨x0, x1, x2⟩
  · rw [← hk, x0] at h
    rcases cy with ⟨y0, y1, y2⟩ | ⟨y0, y2⟩ | ⟨y0, y1, y2⟩ | ⟨y0, y1, y2⟩
    · exact ⟨S36_ext hk (by omega) (x2.trans y2.symm), by simpa using h⟩
    all_goals omega
  · simp only [← hk, x0, eq_self, if_true] at h
    rcases cy with ⟨y0, y1, y2⟩ | ⟨y0, y2⟩ | ⟨y0, y1, y2⟩ | ⟨y0, y1, y2⟩
    · omega
    · have h2 := List.append_inj h rfl
      exact ⟨S36_ext hk (eight_inj _ _ wx wy h2.1) (x2.trans y2.symm), h2.2⟩
    all_goals omega
  · simp only [← hk, x0, show ((2 : Int) = 1) ↔ False from by decide, eq_self, if_true, if_false] at h
    rcases cy with ⟨y0, y1, y2⟩ | ⟨y0, y2⟩ | ⟨y0, y1, y2⟩ | ⟨y0, y1, y2⟩
    · omega
    · omega
    · have h2 := List.cons.inj h
      exact ⟨S36_ext hk (by omega) (x2.trans y2.symm), h2.2⟩
    · omega
  · simp only [← hk, x0, show ((3 : Int) = 1) ↔ False from by decide, show ((3 : Int) = 2) ↔ False from by decide, eq_self, if_true, if_false] at h
    rcases cy with ⟨y0, y1, y2⟩ | ⟨y0, y2⟩ | ⟨y0, y1, y2⟩ | ⟨y0, y1, y2⟩
    · omega
    · omega
    · omega
    · rw [List.append_assoc, List.append_assoc] at h
      have h2 := List.cons.inj h
      have hs : x.f2.size = y.f2.size := by have := h2.1; omega
      have h22 : bytesOf x.f2 ++ a = bytesOf y.f2 ++ b := h2.2
      have h3 := List.append_inj h22 (by rw [bytesOf_length, bytesOf_length]; exact hs)
      exact ⟨S36_ext hk (by omega) (bytesOf_inj h3.1), h3.2⟩
theorem encL_inj : ∀ a b : List S36, a.all vRs = true → b.all vRs = true → (∀ x ∈ a, -9223372036854775808 ≤ x.f1 ∧ x.f1 ≤ 9223372036854775807) → (∀ x ∈ b, -9223372036854775808 ≤ x.f1 ∧ x.f1 ≤ 9223372036854775807) → encL a = encL b → a = b
  | [], [], _, _, _, _, _ => rfl
  | [], y :: b, _, _, _, _, h => by simp [encL, encV] at h
  | x :: a, [], _, _, _, _, h => by simp [encL, encV] at h
  | x :: a, y :: b, ha, hb, wa, wb, h => by
    rw [List.all_cons, Bool.and_eq_true] at ha hb
    have h2 := encV_inj x y (encL a) (encL b) ha.1 hb.1 (wa x (by simp)) (wb y (by simp)) h
    rw [h2.1, encL_inj a b ha.2 hb.2 (fun z hz => wa z (by simp [hz])) (fun z hz => wb z (by simp [hz])) h2.2]
theorem encV_rng (v : S36) : ∀ n ∈ encV v, 0 ≤ n ∧ n < 256 := by
  intro n hn
  unfold encV at hn
  rw [List.mem_append] at hn
  rcases hn with hn | hn
  · simp only [List.mem_singleton] at hn
    omega
  · split at hn
    · simp only [eightL, List.mem_cons, List.not_mem_nil, or_false] at hn
      omega
    · split at hn
      · simp only [List.mem_singleton] at hn
        omega
      · split at hn
        · rw [List.mem_append] at hn
          rcases hn with hn | hn
          · simp only [List.mem_singleton] at hn
            omega
          · unfold bytesOf at hn
            obtain ⟨b, _, rfl⟩ := List.mem_map.1 hn
            have := b.toNat_lt
            omega
        · cases hn
theorem encL_rng : ∀ l : List S36, ∀ n ∈ encL l, 0 ≤ n ∧ n < 256
  | [], n, h => by cases h
  | v :: l, n, h => by
    rw [encL, List.mem_append] at h
    exact h.elim (encV_rng v n) (encL_rng l n)
theorem bytesOf_str (l : List Int) (h : ∀ n ∈ l, 0 ≤ n ∧ n < 256) : bytesOf (strOfNums l) = l := by
  unfold bytesOf strOfNums
  rw [List.map_map]
  conv => rhs; rw [← List.map_id l]
  apply List.map_congr_left
  intro n hn
  have := h n hn
  simp only [Function.comp, id, UInt8.toNat_ofNat']
  omega
theorem str_inj (a b : List Int) (ha : ∀ n ∈ a, 0 ≤ n ∧ n < 256) (hb : ∀ n ∈ b, 0 ≤ n ∧ n < 256) (h : (strOfNums a).toList = (strOfNums b).toList) : a = b := by
  rw [← bytesOf_str a ha, ← bytesOf_str b hb, ba_inj h]

/- BLOCK rowdec: what is written is read as it was; what is read is written as it stood -/
theorem i64m (n : Int) : IntKind.i64.wrap n = (n + 9223372036854775808) % 18446744073709551616 - 9223372036854775808 := by
  simp [IntKind.wrap, IntKind.bits, IntKind.signed]
  omega
theorem or_byte (x b : Int) (h0 : 0 ≤ b) (h1 : b < 256) : Go.bits .or .i64 (wrap64 (x * 256)) (wrap64 b) = wrap64 (x * 256) + b := by
  have hwb : wrap64 b = b := w64 (by omega) (by omega)
  rw [hwb]
  have e : Go.bits .or .i64 (wrap64 (x * 256)) b = IntKind.i64.wrap (((BitVec.ofInt 64 (wrap64 (x * 256)) ||| BitVec.ofInt 64 b).toNat : Nat) : Int) := rfl
  rw [e, BitVec.toNat_or, i64m]
  have hA : ((BitVec.ofInt 64 (wrap64 (x * 256))).toNat : Int) = wrap64 (x * 256) % 18446744073709551616 := by
    rw [BitVec.toNat_ofInt]
    omega
  have hB : ((BitVec.ofInt 64 b).toNat : Int) = b := by
    rw [BitVec.toNat_ofInt]
    omega
  have hm : wrap64 (x * 256) % 256 = 0 := by unfold wrap64; omega
  have hr : -9223372036854775808 ≤ wrap64 (x * 256) ∧ wrap64 (x * 256) ≤ 9223372036854775807 := by unfold wrap64; omega
  generalize (BitVec.ofInt 64 (wrap64 (x * 256))).toNat = A at *
  generalize (BitVec.ofInt 64 b).toNat = B at *
  generalize wrap64 (x * 256) = y at *
  obtain ⟨A', rfl⟩ : ∃ q, A = 256 * q := ⟨A / 256, by omega⟩
  have ho : 256 * A' ||| B = 256 * A' + B := (Nat.two_pow_add_eq_or_of_lt (i := 8) (b := B) (by omega) A').symm
  rw [ho]
  omega
theorem or_step (x b : Int) (h0 : 0 ≤ b) (h1 : b < 256) (hx : 0 ≤ x) (hx2 : x < 36028797018963968) : Go.bits .or .i64 (wrap64 (x * 256)) (wrap64 b) = x * 256 + b := by
  rw [or_byte x b h0 h1, w64 (by omega) (by omega)]
theorem num_eight (n : Int) (h0 : -9223372036854775808 ≤ n ∧ n ≤ 9223372036854775807) : (eightL n).foldl (fun n b => Go.bits .or .i64 (wrap64 (n * 256)) (wrap64 b)) 0 = n := by
  unfold eightL
  simp only [List.foldl]
  rw [or_step 0 _ (by omega) (by omega) (by omega) (by omega)]
  rw [show 0 * 256 + n / 72057594037927936 % 256 = n / 72057594037927936 % 256 by omega]
  rw [or_step (n / 72057594037927936 % 256) _ (by omega) (by omega) (by omega) (by omega)]
  rw [show n / 72057594037927936 % 256 * 256 + n / 281474976710656 % 256 = n / 281474976710656 % 65536 by omega]
  rw [or_step (n / 281474976710656 % 65536) _ (by omega) (by omega) (by omega) (by omega)]
  rw [show n / 281474976710656 % 65536 * 256 + n / 1099511627776 % 256 = n / 1099511627776 % 16777216 by omega]
  rw [or_step (n / 1099511627776 % 16777216) _ (by omega) (by omega) (by omega) (by omega)]
  rw [show n / 1099511627776 % 16777216 * 256 + n / 4294967296 % 256 = n / 4294967296 % 4294967296 by omega]
  rw [or_step (n / 4294967296 % 4294967296) _ (by omega) (by omega) (by omega) (by omega)]
  rw [show n / 4294967296 % 4294967296 * 256 + n / 16777216 % 256 = n / 16777216 % 1099511627776 by omega]
  rw [or_step (n / 16777216 % 1099511627776) _ (by omega) (by omega) (by omega) (by omega)]
  rw [show n / 16777216 % 1099511627776 * 256 + n / 65536 % 256 = n / 65536 % 281474976710656 by omega]
  rw [or_step (n / 65536 % 281474976710656) _ (by omega) (by omega) (by omega) (by omega)]
  rw [show n / 65536 % 281474976710656 * 256 + n / 256 % 256 = n / 256 % 72057594037927936 by omega]
  rw [or_byte (n / 256 % 72057594037927936) _ (by omega) (by omega)]
  unfold wrap64
  omega
theorem str_extract (l : List Int) (i j : Nat) : (strOfNums l).extract i j = strOfNums ((l.take j).drop i) := by
  unfold strOfNums
  apply ba_inj
  rw [ByteArray.toList_eq, ByteArray.toList_eq, ByteArray.data_extract]
  simp [List.map_take, List.map_drop, List.drop_take]
theorem str_tail (l : List Int) (i : Nat) : (strOfNums l).extract i (strOfNums l).size = strOfNums (l.drop i) := by
  rw [str_extract, strOf_size, List.take_length]
theorem bt_str (x : Int) (l : List Int) (h0 : 0 ≤ x) (h1 : x < 256) : bt (strOfNums (x :: l)) 0 = x := by
  rw [← rd_bytesOf]
  show ((UInt8.ofNat x.toNat).toNat : Int) = x
  rw [UInt8.toNat_ofNat']
  omega
theorem cut_eq (s : ByteArray) (a : Int) (h : 0 ≤ a) : row_cut.f s a = some (if (s.size : Int) < a then ((⟨#[]⟩ : ByteArray), (⟨#[]⟩ : ByteArray), false) else (s.extract 0 a.toNat, s.extract a.toNat s.size, true)) := by
  unfold row_cut.f
  by_cases c : (s.size : Int) < a
  · rw [if_pos c, if_pos c]
  · rw [if_neg c, if_neg c, if_pos h, if_pos (by omega)]
theorem next_total (s : ByteArray) (h : 0 < s.size) : ∃ r : Int × Int × ByteArray × ByteArray × Bool, row_next.f s = some r ∧ (r.2.2.2.2 = true → r.2.2.2.1.size < s.size) := by
  have hb := bt_range s 0
  have he : (s.extract 1 s.size).size = s.size - 1 := by simp
  unfold row_next.f
  rw [if_pos (by omega), if_pos (by omega), w64 (by omega) (by omega)]
  generalize s.extract 1 s.size = t at *
  by_cases c1 : bt s 0 = 1
  · rw [if_pos c1, cut_eq t 8 (by omega), Option.bind_some]
    by_cases d : (t.size : Int) < 8
    · rw [if_pos d, if_neg (by decide)]
      exact ⟨_, rfl, fun x => by cases x⟩
    · rw [if_neg d, if_pos rfl, if_pos (by simp; omega)]
      exact ⟨_, rfl, fun _ => by simp; omega⟩
  · rw [if_neg c1]
    by_cases c2 : bt s 0 = 2
    · rw [if_pos c2, cut_eq t 1 (by omega), Option.bind_some]
      by_cases d : (t.size : Int) < 1
      · rw [if_pos d, if_neg (by decide)]
        exact ⟨_, rfl, fun x => by cases x⟩
      · rw [if_neg d, if_pos rfl, if_pos (by simp; omega)]
        exact ⟨_, rfl, fun _ => by simp; omega⟩
    · rw [if_neg c2]
      by_cases c3 : bt s 0 = 3
      · rw [if_pos c3, cut_eq t 1 (by omega), Option.bind_some]
        by_cases d : (t.size : Int) < 1
        · rw [if_pos d, if_neg (by decide)]
          exact ⟨_, rfl, fun x => by cases x⟩
        · rw [if_neg d, if_pos rfl, if_pos (by simp; omega)]
          have hb2 := bt_range (t.extract 0 (1 : Int).toNat) 0
          dsimp only
          rw [w64 (by omega) (by omega), cut_eq _ _ hb2.1, Option.bind_some]
          refine ⟨_, rfl, fun x => ?_⟩
          dsimp only at x ⊢
          split at x
          · cases x
          · rw [if_neg (by assumption)]
            simp
            omega
      · rw [if_neg c3]
        exact ⟨_, rfl, fun _ => by dsimp only; omega⟩
def DecOk (x0 : ByteArray) (r : List S36 × Int) : Prop := (r.2 = 2 ∧ r.1 = []) ∨ (r.2 = 0 ∧ (encR r.1).2 = 0 ∧ (encR r.1).1.toList = x0.toList)
theorem dec_end (x0 : ByteArray) (x4 : List S36) (x5 : ByteArray) (h : x5.toList = []) : ∃ r, (∀ k, row_Decode.l0 (k + 1) x0 x4 x5 = some r) ∧ DecOk x0 r := by
  by_cases c : (encR x4).2 = 0
  · by_cases d : (encR x4).1.toList = x0.toList
    · refine ⟨(x4, 0), fun k => ?_, .inr ⟨rfl, c, d⟩⟩
      unfold row_Decode.l0 row_Encode.f
      rw [if_pos h, Option.bind_some, if_pos c, if_pos d]
    · refine ⟨([], 2), fun k => ?_, .inl ⟨rfl, rfl⟩⟩
      unfold row_Decode.l0 row_Encode.f
      rw [if_pos h, Option.bind_some, if_pos c, if_neg d]
  · refine ⟨([], 2), fun k => ?_, .inl ⟨rfl, rfl⟩⟩
    unfold row_Decode.l0 row_Encode.f
    rw [if_pos h, Option.bind_some, if_neg c]
theorem ba_size {s : ByteArray} (h : ¬ s.toList = []) : 0 < s.size := by
  rw [ByteArray.toList_eq] at h
  have h1 : s.data.toList.length ≠ 0 := fun e => h (List.eq_nil_of_length_eq_zero e)
  have h2 : s.size = s.data.toList.length := rfl
  omega
theorem dec_l (x0 : ByteArray) : ∀ n (x4 : List S36) (x5 : ByteArray), x5.size ≤ n → x4.length + n ≤ 2000000 → ∃ r, (∀ k, n < k → row_Decode.l0 k x0 x4 x5 = some r) ∧ DecOk x0 r := by
  intro n
  induction n with
  | zero =>
    intro x4 x5 h5 h4
    by_cases e : x5.toList = []
    · obtain ⟨r, hr, ho⟩ := dec_end x0 x4 x5 e
      exact ⟨r, fun k hk => by obtain ⟨k, rfl⟩ : ∃ m, k = m + 1 := ⟨k - 1, by omega⟩; exact hr k, ho⟩
    · have := ba_size e
      omega
  | succ n ih =>
    intro x4 x5 h5 h4
    by_cases e : x5.toList = []
    · obtain ⟨r, hr, ho⟩ := dec_end x0 x4 x5 e
      exact ⟨r, fun k hk => by obtain ⟨k, rfl⟩ : ∃ m, k = m + 1 := ⟨k - 1, by omega⟩; exact hr k, ho⟩
    · obtain ⟨q, hq, hlt⟩ := next_total x5 (ba_size e)
      by_cases o : q.2.2.2.2 = true
      · obtain ⟨r, hr, ho⟩ := ih (x4 ++ [⟨q.1, q.2.1, q.2.2.1⟩]) q.2.2.2.1 (by have := hlt o; omega) (by simp; omega)
        refine ⟨r, fun k hk => ?_, ho⟩
        obtain ⟨k, rfl⟩ : ∃ m, k = m + 1 := ⟨k - 1, by omega⟩
        unfold row_Decode.l0
        rw [if_neg e, hq, Option.bind_some, if_pos o, if_pos (by omega)]
        exact hr k (by omega)
      · refine ⟨([], 2), fun k hk => ?_, .inl ⟨rfl, rfl⟩⟩
        obtain ⟨k, rfl⟩ : ∃ m, k = m + 1 := ⟨k - 1, by omega⟩
        unfold row_Decode.l0
        rw [if_neg e, hq, Option.bind_some, if_neg o]
theorem dec_all (s : ByteArray) (h : s.size ≤ 1048576) : ∃ r, (∀ k, s.size < k → row_Decode.f k s = some r) ∧ DecOk s r := dec_l s s.size [] s (Nat.le_refl _) (by simp; omega)
theorem str_bytes (s : ByteArray) : strOfNums (bytesOf s) = s := by
  apply ba_inj
  rw [ByteArray.toList_eq, ByteArray.toList_eq]
  unfold strOfNums bytesOf
  simp [Function.comp_def]
theorem next_enc (v : S36) (r : List Int) (h : vRs v = true) (w : -9223372036854775808 ≤ v.f1 ∧ v.f1 ≤ 9223372036854775807) : row_next.f (strOfNums (encV v ++ r)) = some (v.f0, v.f1, v.f2, strOfNums r, true) := by
  have hc := vRs_cases v h
  have hd : ∃ t, encV v ++ r = v.f0 :: t ∧ t = (if v.f0 = 1 then eightL v.f1 else if v.f0 = 2 then [v.f1 % 256] else if v.f0 = 3 then [(v.f2.size : Int) % 256] ++ bytesOf v.f2 else []) ++ r := by
    refine ⟨_, ?_, rfl⟩
    unfold encV
    rw [List.append_assoc, show v.f0 % 256 = v.f0 by omega]
    rfl
  obtain ⟨t, e, ht⟩ := hd
  rw [e]
  have hz : (strOfNums (v.f0 :: t)).size = t.length + 1 := by rw [strOf_size]; rfl
  unfold row_next.f
  rw [if_pos (by omega), if_pos (by omega), bt_str v.f0 t (by omega) (by omega), w64 (by omega) (by omega), str_tail, show List.drop 1 (v.f0 :: t) = t from rfl]
  rcases hc with ⟨x0, x1, x2⟩ | ⟨x0, x2⟩ | ⟨x0, x1, x2⟩ | ⟨x0, x1, x2⟩
  · rw [if_neg (by omega), if_neg (by omega), if_neg (by omega)]
    rw [if_neg (by omega), if_neg (by omega), if_neg (by omega), List.nil_append] at ht
    rw [ht, x1, x2]
  · rw [if_pos x0] at ht
    rw [if_pos x0, cut_eq _ 8 (by omega), Option.bind_some, if_neg (show ¬ (((strOfNums t).size : Int) < 8) by rw [strOf_size, ht, List.length_append]; simp [eightL]; omega), if_pos rfl]
    dsimp only
    rw [show (8 : Int).toNat = 8 from rfl, str_tail, str_extract, ht]
    have e8 : List.drop 0 (List.take 8 (eightL v.f1 ++ r)) = eightL v.f1 := by rw [List.drop_zero]; exact List.take_left' rfl
    have e9 : List.drop 8 (eightL v.f1 ++ r) = r := List.drop_left' rfl
    rw [e8, e9, if_pos (by rw [strOf_size]; simp [eightL])]
    unfold numB
    rw [bytesOf_str _ (fun n hn => by simp only [eightL, List.mem_cons, List.not_mem_nil, or_false] at hn; omega), num_eight v.f1 w, x2]
  · rw [if_neg (by omega), if_pos x0] at ht
    rw [if_neg (by omega), if_pos x0, cut_eq _ 1 (by omega), Option.bind_some, if_neg (show ¬ (((strOfNums t).size : Int) < 1) by rw [strOf_size, ht]; simp; omega), if_pos rfl]
    dsimp only
    rw [show (1 : Int).toNat = 1 from rfl, str_tail, str_extract, ht]
    show (if 0 < ((strOfNums [v.f1 % 256]).size : Int) then some (v.f0, wrap64 (bt (strOfNums [v.f1 % 256]) 0), _, strOfNums r, true) else none) = _
    rw [if_pos (by rw [strOf_size]; simp), bt_str _ _ (by omega) (by omega), w64 (by omega) (by omega), show v.f1 % 256 = v.f1 by omega, x2]
  · rw [if_neg (by omega), if_neg (by omega), if_pos x0] at ht
    rw [if_neg (by omega), if_neg (by omega), if_pos x0, cut_eq _ 1 (by omega), Option.bind_some, if_neg (show ¬ (((strOfNums t).size : Int) < 1) by rw [strOf_size, ht]; simp; omega), if_pos rfl]
    dsimp only
    rw [show (1 : Int).toNat = 1 from rfl, str_tail, str_extract, ht]
    show (if 0 < ((strOfNums [(v.f2.size : Int) % 256]).size : Int) then (row_cut.f (strOfNums (bytesOf v.f2 ++ r)) (wrap64 (bt (strOfNums [(v.f2.size : Int) % 256]) 0))).bind _ else none) = _
    rw [if_pos (by rw [strOf_size]; simp), bt_str _ _ (by omega) (by omega), show (v.f2.size : Int) % 256 = v.f2.size by omega, w64 (by omega) (by omega), cut_eq _ _ (by omega), Option.bind_some,
      if_neg (show ¬ (((strOfNums (bytesOf v.f2 ++ r)).size : Int) < (v.f2.size : Int)) by rw [strOf_size, List.length_append, bytesOf_length]; omega)]
    dsimp only
    rw [Int.toNat_natCast, str_tail, str_extract]
    have e8 : List.drop 0 (List.take v.f2.size (bytesOf v.f2 ++ r)) = bytesOf v.f2 := by rw [List.drop_zero]; exact List.take_left' (bytesOf_length _)
    have e9 : List.drop v.f2.size (bytesOf v.f2 ++ r) = r := List.drop_left' (bytesOf_length _)
    rw [e8, e9, str_bytes, x1]
theorem dec_enc (l : List S36) (a : l.all vRs = true) (hl : ¬ 100 < l.length) (w : ∀ x ∈ l, -9223372036854775808 ≤ x.f1 ∧ x.f1 ≤ 9223372036854775807) : ∀ m i : Nat, i + m = l.length → ∀ k, m < k → row_Decode.l0 k (strOfNums (encL l)) (l.take i) (strOfNums (encL (l.drop i))) = some (l, 0) := by
  intro m
  induction m with
  | zero =>
    intro i hi k hk
    obtain ⟨k, rfl⟩ : ∃ n, k = n + 1 := ⟨k - 1, by omega⟩
    rw [List.drop_eq_nil_of_le (by omega), show l.take i = l by rw [show i = l.length by omega]; exact List.take_length]
    unfold row_Decode.l0 row_Encode.f
    rw [if_pos (by decide +kernel), Option.bind_some, encR_ok l hl a, if_pos rfl, if_pos rfl]
  | succ m ih =>
    intro i hi k hk
    obtain ⟨k, rfl⟩ : ∃ n, k = n + 1 := ⟨k - 1, by omega⟩
    have hlt : i < l.length := by omega
    have hm := List.getElem_mem hlt
    have hz : ¬ (strOfNums (encV l[i] ++ encL (l.drop (i + 1)))).toList = [] := by
      intro e
      have e2 := ba_nil e
      have : (strOfNums (encV l[i] ++ encL (l.drop (i + 1)))).size = 0 := by rw [e2]; rfl
      rw [strOf_size] at this
      simp [encV] at this
    rw [List.drop_eq_getElem_cons hlt]
    unfold row_Decode.l0
    rw [show encL (l[i] :: l.drop (i + 1)) = encV l[i] ++ encL (l.drop (i + 1)) from rfl, if_neg hz, next_enc l[i] _ (List.all_eq_true.1 a _ hm) (w _ hm), Option.bind_some, if_pos rfl, if_pos (by rw [List.length_take]; omega)]
    have := ih (i + 1) (by omega) k (by omega)
    rw [List.take_succ_eq_append_getElem hlt] at this
    exact this

/- BLOCK rowref: the document's answer writes and reads as the program does -/
theorem right01 (k n : Int) (s : ByteArray) : weathercockref01_Right.f k n s = some (vR k n s) := by
  unfold weathercockref01_Right.f vR
  by_cases h0 : k = 0
  · rw [if_pos h0, if_pos h0]
    by_cases c : n = 0
    · rw [if_pos c]; simp [c]
    · rw [if_neg c]; simp [c]
  · rw [if_neg h0, if_neg h0]
    by_cases h1 : k = 1
    · rw [if_pos h1, if_pos h1]
    · rw [if_neg h1, if_neg h1]
      by_cases h2 : k = 2
      · rw [if_pos h2, if_pos h2]
        by_cases c : n = 0
        · rw [if_pos c, if_pos (by omega)]
        · rw [if_neg c]
          by_cases d : n = 1
          · rw [if_pos d, if_pos (by omega)]
          · rw [if_neg d, if_neg (by omega)]
      · rw [if_neg h2, if_neg h2]
        by_cases h3 : k = 3
        · rw [if_pos h3, if_pos h3]; split <;> rfl
        · rw [if_neg h3, if_neg h3]
theorem right02 (l : List S36) (hb : l.length ≤ 4611686018427387904) : ∀ m i k : Nat, i + m = l.length → m < k → weathercockref02_Right.l0 k l (i : Int) = some ((l.drop i).all vRs && decide (l.length ≤ 100)) := by
  intro m
  induction m with
  | zero =>
    intro i k hi hk
    obtain ⟨k, rfl⟩ : ∃ n, k = n + 1 := ⟨k - 1, by omega⟩
    unfold weathercockref02_Right.l0
    rw [if_neg (by omega), List.drop_eq_nil_of_le (by omega)]
    simp
    omega
  | succ m ih =>
    intro i k hi hk
    obtain ⟨k, rfl⟩ : ∃ n, k = n + 1 := ⟨k - 1, by omega⟩
    have hlt : i < l.length := by omega
    have hw : wrap64 ((i : Int) + 1) = ((i + 1 : Nat) : Int) := by unfold wrap64; omega
    unfold weathercockref02_Right.l0
    rw [if_pos (by omega), if_pos (by omega), rd_at l i hlt, right01, Option.bind_some, hw, ih (i + 1) k (by omega) (by omega), List.drop_eq_getElem_cons hlt, List.all_cons]
    show (if vRs l[i] = true then _ else _) = _
    cases vRs l[i] <;> rfl
theorem right02_f (l : List S36) (hb : l.length ≤ 4611686018427387904) (k : Nat) (hk : l.length < k) : weathercockref02_Right.f k l = some (rightR l) := by
  unfold weathercockref02_Right.f rightR
  rw [show weathercockref02_Right.l0 k l 0 = _ from right02 l hb l.length 0 k (by omega) hk, List.drop_zero, Bool.and_comm]
theorem enc_step (k : Nat) (x0 : List S36) (x5 : List Int) (x6 j : Int) (a n : Int) (c : ByteArray) (h0 : 0 ≤ j) (h1 : j ≤ 7) (hl : x5.length < 100000) :
    weathercockref02_Encode.l1 (k + 1) x0 x5 x6 j a n c = weathercockref02_Encode.l1 k x0 (x5 ++ [n / 2 ^ (8 * j).toNat % 256]) x6 (j - 1) a n c := by
  rw [weathercockref02_Encode.l1, w64 (n := 8 * j) (by omega) (by omega), w64 (n := j - 1) (by omega) (by omega), if_pos h0, if_pos (by omega), if_pos (by omega)]
  have : shr .i64 n (8 * j) = n / 2 ^ (8 * j).toNat := by
    show n / 2 ^ min (8 * j).toNat 64 = _
    rw [Nat.min_eq_left (by omega)]
  rw [this]
theorem enc_eight (k : Nat) (x0 : List S36) (x5 : List Int) (x6 : Int) (a n : Int) (c : ByteArray) (hl : x5.length < 10000) :
    weathercockref02_Encode.l1 (k + 9) x0 x5 x6 7 a n c = weathercockref02_Encode.l0 k x0 (x5 ++ eightL n) (wrap64 (x6 + 1)) := by
  rw [enc_step (k + 8) x0 x5 x6 7 a n c (by omega) (by omega) (by omega)]
  rw [show (7 : Int) - 1 = 6 by omega, enc_step (k + 7) x0 _ x6 6 a n c (by omega) (by omega) (by simp; omega)]
  rw [show (6 : Int) - 1 = 5 by omega, enc_step (k + 6) x0 _ x6 5 a n c (by omega) (by omega) (by simp; omega)]
  rw [show (5 : Int) - 1 = 4 by omega, enc_step (k + 5) x0 _ x6 4 a n c (by omega) (by omega) (by simp; omega)]
  rw [show (4 : Int) - 1 = 3 by omega, enc_step (k + 4) x0 _ x6 3 a n c (by omega) (by omega) (by simp; omega)]
  rw [show (3 : Int) - 1 = 2 by omega, enc_step (k + 3) x0 _ x6 2 a n c (by omega) (by omega) (by simp; omega)]
  rw [show (2 : Int) - 1 = 1 by omega, enc_step (k + 2) x0 _ x6 1 a n c (by omega) (by omega) (by simp; omega)]
  rw [show (1 : Int) - 1 = 0 by omega, enc_step (k + 1) x0 _ x6 0 a n c (by omega) (by omega) (by simp; omega)]
  rw [weathercockref02_Encode.l1, if_neg (by omega)]
  have e : x5 ++ eightL n = x5 ++ [n / 2 ^ (8 * (7 : Int)).toNat % 256] ++ [n / 2 ^ (8 * (6 : Int)).toNat % 256] ++ [n / 2 ^ (8 * (5 : Int)).toNat % 256] ++ [n / 2 ^ (8 * (4 : Int)).toNat % 256] ++ [n / 2 ^ (8 * (3 : Int)).toNat % 256] ++ [n / 2 ^ (8 * (2 : Int)).toNat % 256] ++ [n / 2 ^ (8 * (1 : Int)).toNat % 256] ++ [n / 2 ^ (8 * (0 : Int)).toNat % 256] := by
    simp only [List.append_assoc]
    unfold eightL
    simp
  rw [e]
theorem refEnc_l (l : List S36) (h : l.all vRs = true) (hl : l.length ≤ 100) : ∀ m i k : Nat, i + m = l.length → 10 * m < k → weathercockref02_Encode.l0 k l (encL (l.take i)) (i : Int) = some (strOfNums (encL l), 0) := by
  intro m
  induction m with
  | zero =>
    intro i k hi hk
    obtain ⟨k, rfl⟩ : ∃ n, k = n + 1 := ⟨k - 1, by omega⟩
    rw [weathercockref02_Encode.l0, if_neg (by omega), show l.take i = l by rw [show i = l.length by omega]; exact List.take_length]
  | succ m ih =>
    intro i k hi hk
    obtain ⟨k, rfl⟩ : ∃ n, k = n + 10 := ⟨k - 10, by omega⟩
    have hlt : i < l.length := by omega
    have hw : wrap64 ((i : Int) + 1) = ((i + 1 : Nat) : Int) := by unfold wrap64; omega
    have hb := encL_len _ (all_take h i)
    rw [List.length_take, Nat.min_eq_left (by omega)] at hb
    have hv : vRs l[i] = true := List.all_eq_true.1 h _ (List.getElem_mem hlt)
    have ht := encL_take l i hlt
    have hn1 := ih (i + 1) k (by omega) (by omega)
    have hn2 := ih (i + 1) (k + 9) (by omega) (by omega)
    rw [ht] at hn1 hn2
    have h3 := vRs_text l[i] hv
    rw [weathercockref02_Encode.l0, if_pos (by omega), if_pos (by omega), if_pos (by omega), Option.bind_some, rd_at l i hlt, hw]
    unfold encV at hn1 hn2
    generalize encL (l.take i) = E at *
    generalize l[i] = v at *
    by_cases c1 : v.f0 = 1
    · rw [if_pos c1, enc_eight k l _ _ _ _ _ (by simp; omega), hw, List.append_assoc]
      rw [if_pos c1] at hn1
      exact hn1
    · rw [if_neg c1] at hn2
      rw [if_neg c1]
      by_cases c2 : v.f0 = 2
      · rw [if_pos c2] at hn2
        rw [if_pos c2, if_pos (by simp; omega), List.append_assoc]
        exact hn2
      · rw [if_neg c2] at hn2
        rw [if_neg c2]
        by_cases c3 : v.f0 = 3
        · rw [if_pos c3] at hn2
          have := h3 c3
          rw [if_pos c3, if_pos (by simp; omega), Option.bind_some, if_pos (by simp; omega), List.append_assoc, List.append_assoc]
          exact hn2
        · rw [if_neg c3, List.append_nil] at hn2
          rw [if_neg c3]
          exact hn2
theorem refEnc_f (l : List S36) (k : Nat) (hk : 2000 ≤ k) : weathercockref02_Encode.f k l = some (encR l) := by
  unfold weathercockref02_Encode.f
  by_cases c : 100 < l.length
  · rw [if_pos (by omega), encR_long l c]
  · rw [if_neg (by omega), right02_f l (by omega) k (by omega), Option.bind_some]
    unfold rightR
    rw [decide_eq_true (show l.length ≤ 100 by omega), Bool.true_and]
    by_cases a : l.all vRs = true
    · rw [if_pos a, encR_ok l c a]
      exact refEnc_l l a (by omega) l.length 0 k (by omega) (by omega)
    · rw [if_neg a, encR_bad l c a]

/- BLOCK rowref2: the document's answer reads as the program does -/
theorem bytesOf_rng (s : ByteArray) : ∀ n ∈ bytesOf s, 0 ≤ n ∧ n < 256 := by
  intro n hn
  unfold bytesOf at hn
  obtain ⟨b, _, rfl⟩ := List.mem_map.1 hn
  have := b.toNat_lt
  omega
theorem bytesOf_ext (s : ByteArray) (a b : Nat) : bytesOf (s.extract a b) = ((bytesOf s).take b).drop a := by
  have h : s.extract a b = strOfNums (((bytesOf s).take b).drop a) := by
    rw [← str_extract, str_bytes]
  rw [h, bytesOf_str _ (fun n hn => bytesOf_rng s n (List.mem_of_mem_take (List.mem_of_mem_drop hn)))]
theorem ext_size (s : ByteArray) (a b : Nat) : (s.extract a b).size = min b s.size - a := by simp
theorem bt_get (s : ByteArray) (i : Nat) (h : i < s.size) : bt s (i : Int) = (bytesOf s)[i]'(by rw [bytesOf_length]; exact h) := by
  rw [← rd_bytesOf]
  unfold rd
  rw [Int.toNat_natCast, List.getD_eq_getElem?_getD, List.getElem?_eq_getElem (by rw [bytesOf_length]; exact h)]
  rfl
theorem bt_ext (s : ByteArray) (a b i : Nat) (h : a + i < b) (hb : b ≤ s.size) : bt (s.extract a b) (i : Int) = bt s ((a + i : Nat) : Int) := by
  rw [bt_get _ i (by rw [ext_size]; omega), bt_get s (a + i) (by omega)]
  simp only [bytesOf_ext, List.getElem_drop, List.getElem_take]
theorem ext_ext (s : ByteArray) (a c d : Nat) (ha : a ≤ s.size) (hd : a + d ≤ s.size) : (s.extract a s.size).extract c d = s.extract (a + c) (a + d) := by
  apply bytesOf_inj
  rw [bytesOf_ext, bytesOf_ext, bytesOf_ext, show s.size = (bytesOf s).length from (bytesOf_length s).symm, List.take_length, List.take_drop, List.drop_drop]
theorem ext_tail (s : ByteArray) (a c : Nat) (ha : a ≤ s.size) : (s.extract a s.size).extract c (s.extract a s.size).size = s.extract (a + c) s.size := by
  rw [ext_size, Nat.min_self, ext_ext s a c _ ha (by omega), show a + (s.size - a) = s.size by omega]
def btF (n b : Int) : Int := Go.bits .or .i64 (wrap64 (n * 256)) (wrap64 b)
theorem ref_num (s : ByteArray) (hs : s.size ≤ 1048576) (x4 : List S36) (hx : x4.length ≤ 2000000) (at_ : Nat) (h8 : at_ + 8 ≤ s.size) (k : Nat) (kd : Int) (c : ByteArray) : ∀ m i : Nat, i + m = 8 →
    weathercockref02_Decode.l1 (k + m + 1) s x4 (at_ : Int) 8 (i : Int) kd (((bytesOf (s.extract at_ (at_ + 8))).take i).foldl btF 0) c = weathercockref02_Decode.l0 k s (x4 ++ [⟨kd, numB (s.extract at_ (at_ + 8)), c⟩]) ((at_ + 8 : Nat) : Int) := by
  have hl : (bytesOf (s.extract at_ (at_ + 8))).length = 8 := by rw [bytesOf_length, ext_size]; omega
  intro m
  induction m with
  | zero =>
    intro i hi
    rw [weathercockref02_Decode.l1, if_neg (by omega), if_pos (by omega), show wrap64 ((at_ : Int) + 8) = ((at_ + 8 : Nat) : Int) by unfold wrap64; omega, show i = (bytesOf (s.extract at_ (at_ + 8))).length by omega, List.take_length]
    rfl
  | succ m ih =>
    intro i hi
    have hw : wrap64 ((at_ : Int) + (i : Int)) = ((at_ + i : Nat) : Int) := by unfold wrap64; omega
    have hw1 : wrap64 ((i : Int) + 1) = ((i + 1 : Nat) : Int) := by unfold wrap64; omega
    have hi8 : i < (bytesOf (s.extract at_ (at_ + 8))).length := by omega
    have hg : bt s ((at_ + i : Nat) : Int) = (bytesOf (s.extract at_ (at_ + 8)))[i] := by
      rw [← bt_get _ i (by rw [ext_size]; omega), bt_ext s at_ (at_ + 8) i (by omega) h8]
    rw [show k + (m + 1) + 1 = (k + m + 1) + 1 by omega, weathercockref02_Decode.l1, if_pos (by omega), hw, hw1, if_pos (by omega), if_pos (by omega), hg]
    have := ih (i + 1) (by omega)
    rw [List.take_succ_eq_append_getElem hi8, List.foldl_append] at this
    exact this
set_option maxHeartbeats 4000000 in
theorem dec_same (s : ByteArray) (hs : s.size ≤ 1048576) : ∀ n at_ (x4 : List S36), s.size - at_ ≤ n → at_ ≤ s.size → x4.length + n ≤ 2000000 →
    ∃ r : List S36 × Int, DecOk s r ∧ ∀ k, 20 * n + 3000 < k → row_Decode.l0 k s x4 (s.extract at_ s.size) = some r ∧ weathercockref02_Decode.l0 k s x4 (at_ : Int) = some (r.1, r.2 == 0) := by
  intro n
  induction n with
  | zero =>
    intro at_ x4 hn ha h4
    have e : s.extract at_ s.size = ⟨#[]⟩ := by
      apply bytesOf_inj
      apply List.eq_nil_of_length_eq_zero
      rw [bytesOf_length, ext_size]
      omega
    obtain ⟨r, hr, ho⟩ := dec_end s x4 (s.extract at_ s.size) (by rw [e]; decide +kernel)
    refine ⟨r, ho, fun k hk => ?_⟩
    obtain ⟨k, rfl⟩ : ∃ m, k = m + 1 := ⟨k - 1, by omega⟩
    have h0 := hr k
    refine ⟨h0, ?_⟩
    rw [weathercockref02_Decode.l0, if_neg (by omega), refEnc_f x4 k (by omega), Option.bind_some]
    rw [row_Decode.l0, if_pos (by rw [e]; decide +kernel)] at h0
    unfold row_Encode.f at h0
    rw [Option.bind_some] at h0
    by_cases c : (encR x4).2 = 0
    · rw [if_pos c] at h0
      rw [if_pos c]
      by_cases d : (encR x4).1.toList = s.toList
      · rw [if_pos d] at h0
        obtain rfl := Option.some.inj h0
        rw [if_pos d]
        rfl
      · rw [if_neg d] at h0
        obtain rfl := Option.some.inj h0
        rw [if_neg d]
        rfl
    · rw [if_neg c] at h0
      obtain rfl := Option.some.inj h0
      rw [if_neg c]
      rfl
  | succ n ih =>
    intro at_ x4 hn ha h4
    by_cases hlt : at_ < s.size
    rotate_left
    · obtain ⟨r, ho, hr⟩ := ih at_ x4 (by omega) ha (by omega)
      exact ⟨r, ho, fun k hk => hr k (by omega)⟩
    have hz : ¬ (s.extract at_ s.size).toList = [] := by
      intro e
      have e2 := ba_nil e
      have : (s.extract at_ s.size).size = 0 := by rw [e2]; rfl
      rw [ext_size] at this
      omega
    have hts : (s.extract at_ s.size).size = s.size - at_ := by rw [ext_size, Nat.min_self]
    have hb0 : bt (s.extract at_ s.size) 0 = bt s (at_ : Int) := bt_ext s at_ s.size 0 (by omega) (Nat.le_refl _)
    have hbr := bt_range s (at_ : Int)
    have hwb : wrap64 (bt s (at_ : Int)) = bt s (at_ : Int) := w64 (by omega) (by omega)
    have hw1 : wrap64 ((at_ : Int) + 1) = ((at_ + 1 : Nat) : Int) := by unfold wrap64; omega
    have htl : (s.extract at_ s.size).extract 1 (s.extract at_ s.size).size = s.extract (at_ + 1) s.size := ext_tail s at_ 1 ha
    have hsz1 : (s.extract (at_ + 1) s.size).size = s.size - (at_ + 1) := by rw [ext_size, Nat.min_self]
    have fail : (∀ k, 20 * (n + 1) + 3000 < k → row_Decode.l0 k s x4 (s.extract at_ s.size) = some (([] : List S36), (2 : Int)) ∧ weathercockref02_Decode.l0 k s x4 (at_ : Int) = some (([] : List S36), false)) → ∃ r : List S36 × Int, DecOk s r ∧ ∀ k, 20 * (n + 1) + 3000 < k → row_Decode.l0 k s x4 (s.extract at_ s.size) = some r ∧ weathercockref02_Decode.l0 k s x4 (at_ : Int) = some (r.1, r.2 == 0) := fun h => ⟨([], 2), .inl ⟨rfl, rfl⟩, h⟩
    by_cases c1 : bt s (at_ : Int) = 1
    · by_cases d : (s.extract (at_ + 1) s.size).size < 8
      · refine fail fun k hk => ?_
        obtain ⟨k, rfl⟩ : ∃ m, k = m + 2 := ⟨k - 2, by omega⟩
        constructor
        · rw [row_Decode.l0, if_neg hz]
          unfold row_next.f
          rw [if_pos (by omega), if_pos (by omega), hb0, hwb, htl, if_pos c1, cut_eq _ 8 (by omega), Option.bind_some, if_pos (show ((s.extract (at_ + 1) s.size).size : Int) < 8 by omega), if_neg (by decide), Option.bind_some, if_neg (by simp)]
        · rw [weathercockref02_Decode.l0, if_pos (by omega), if_pos (by omega), hwb, if_pos c1, hw1, weathercockref02_Decode.j1, if_pos (by unfold wrap64; omega)]
      · obtain ⟨r, ho, hr⟩ := ih (at_ + 9) (x4 ++ [⟨bt s (at_ : Int), numB (s.extract (at_ + 1) (at_ + 9)), ⟨#[]⟩⟩]) (by omega) (by omega) (by simp; omega)
        refine ⟨r, ho, fun k hk => ?_⟩
        constructor
        · obtain ⟨k, rfl⟩ : ∃ m, k = m + 1 := ⟨k - 1, by omega⟩
          rw [row_Decode.l0, if_neg hz]
          unfold row_next.f
          rw [if_pos (by omega), if_pos (by omega), hb0, hwb, htl, if_pos c1, cut_eq _ 8 (by omega), Option.bind_some, if_neg (show ¬ ((s.extract (at_ + 1) s.size).size : Int) < 8 by omega), if_pos rfl]
          dsimp only
          rw [show (8 : Int).toNat = 8 from rfl, ext_tail s (at_ + 1) 8 (by omega), ext_ext s (at_ + 1) 0 8 (by omega) (by omega), if_pos (by rw [ext_size]; omega), Option.bind_some, if_pos rfl, if_pos (by omega)]
          exact (hr k (by omega)).1
        · obtain ⟨k, rfl⟩ : ∃ m, k = m + 8 + 1 + 1 + 1 := ⟨k - 11, by omega⟩
          rw [weathercockref02_Decode.l0, if_pos (by omega), if_pos (by omega), hwb, if_pos c1, hw1, weathercockref02_Decode.j1, if_neg (by unfold wrap64; omega), if_pos c1]
          have := ref_num s hs x4 (by omega) (at_ + 1) (by omega) k (bt s (at_ : Int)) ⟨#[]⟩ 8 0 rfl
          exact this.trans (hr k (by omega)).2
    by_cases c2 : bt s (at_ : Int) = 2
    · by_cases d : (s.extract (at_ + 1) s.size).size < 1
      · refine fail fun k hk => ?_
        obtain ⟨k, rfl⟩ : ∃ m, k = m + 2 := ⟨k - 2, by omega⟩
        constructor
        · rw [row_Decode.l0, if_neg hz]
          unfold row_next.f
          rw [if_pos (by omega), if_pos (by omega), hb0, hwb, htl, if_neg c1, if_pos c2, cut_eq _ 1 (by omega), Option.bind_some, if_pos (show ((s.extract (at_ + 1) s.size).size : Int) < 1 by omega), if_neg (by decide), Option.bind_some, if_neg (by simp)]
        · rw [weathercockref02_Decode.l0, if_pos (by omega), if_pos (by omega), hwb, if_neg c1, if_pos c2, hw1, weathercockref02_Decode.j1, if_pos (by unfold wrap64; omega)]
      · have hb1 : bt (s.extract (at_ + 1) (at_ + 2)) 0 = bt s ((at_ + 1 : Nat) : Int) := bt_ext s (at_ + 1) (at_ + 2) 0 (by omega) (by omega)
        obtain ⟨r, ho, hr⟩ := ih (at_ + 2) (x4 ++ [⟨bt s (at_ : Int), wrap64 (bt s ((at_ + 1 : Nat) : Int)), ⟨#[]⟩⟩]) (by omega) (by omega) (by simp; omega)
        refine ⟨r, ho, fun k hk => ?_⟩
        obtain ⟨k, rfl⟩ : ∃ m, k = m + 2 := ⟨k - 2, by omega⟩
        constructor
        · rw [row_Decode.l0, if_neg hz]
          unfold row_next.f
          rw [if_pos (by omega), if_pos (by omega), hb0, hwb, htl, if_neg c1, if_pos c2, cut_eq _ 1 (by omega), Option.bind_some, if_neg (show ¬ ((s.extract (at_ + 1) s.size).size : Int) < 1 by omega), if_pos rfl]
          dsimp only
          rw [show (1 : Int).toNat = 1 from rfl, ext_tail s (at_ + 1) 1 (by omega), ext_ext s (at_ + 1) 0 1 (by omega) (by omega), if_pos (by rw [ext_size]; omega), Option.bind_some, if_pos rfl, if_pos (by omega)]
          rw [show at_ + 1 + 0 = at_ + 1 from rfl, show at_ + 1 + 1 = at_ + 2 from rfl, hb1]
          exact (hr (k + 1) (by omega)).1
        · rw [weathercockref02_Decode.l0, if_pos (by omega), if_pos (by omega), hwb, if_neg c1, if_pos c2, hw1, weathercockref02_Decode.j1, if_neg (by unfold wrap64; omega), if_neg c1, if_pos c2, if_pos (by omega), if_pos (by omega), if_pos (by omega)]
          rw [show wrap64 (((at_ + 1 : Nat) : Int) + 1) = ((at_ + 2 : Nat) : Int) by unfold wrap64; omega]
          exact (hr k (by omega)).2
    by_cases c3 : bt s (at_ : Int) = 3
    · by_cases d : (s.extract (at_ + 1) s.size).size < 1
      · refine fail fun k hk => ?_
        obtain ⟨k, rfl⟩ : ∃ m, k = m + 2 := ⟨k - 2, by omega⟩
        constructor
        · rw [row_Decode.l0, if_neg hz]
          unfold row_next.f
          rw [if_pos (by omega), if_pos (by omega), hb0, hwb, htl, if_neg c1, if_neg c2, if_pos c3, cut_eq _ 1 (by omega), Option.bind_some, if_pos (show ((s.extract (at_ + 1) s.size).size : Int) < 1 by omega), if_neg (by decide), Option.bind_some, if_neg (by simp)]
        · rw [weathercockref02_Decode.l0, if_pos (by omega), if_pos (by omega), hwb, if_neg c1, if_neg c2, if_pos c3, hw1, weathercockref02_Decode.j1, if_pos (by unfold wrap64; omega)]
      · have hb1 : bt (s.extract (at_ + 1) (at_ + 2)) 0 = bt s ((at_ + 1 : Nat) : Int) := bt_ext s (at_ + 1) (at_ + 2) 0 (by omega) (by omega)
        have hbr1 := bt_range s ((at_ + 1 : Nat) : Int)
        have hw2 : wrap64 (bt s ((at_ + 1 : Nat) : Int)) = bt s ((at_ + 1 : Nat) : Int) := w64 (by omega) (by omega)
        have hsz2 : (s.extract (at_ + 2) s.size).size = s.size - (at_ + 2) := by rw [ext_size, Nat.min_self]
        obtain ⟨q, hq⟩ : ∃ q : Nat, bt s ((at_ + 1 : Nat) : Int) = q := ⟨(bt s ((at_ + 1 : Nat) : Int)).toNat, by omega⟩
        have prog : ∀ k, row_Decode.l0 (k + 1) s x4 (s.extract at_ s.size) = ((if ((s.extract (at_ + 2) s.size).size : Int) < (q : Int) then some ((⟨#[]⟩ : ByteArray), (⟨#[]⟩ : ByteArray), false) else some (s.extract (at_ + 2) (at_ + 2 + q), s.extract (at_ + 2 + q) s.size, true)) : Option (ByteArray × ByteArray × Bool)).bind fun z => if z.2.2 = true then (if x4.length < 4398046511104 then row_Decode.l0 k s (x4 ++ [⟨bt s (at_ : Int), 0, z.1⟩]) z.2.1 else none) else some ([], 2) := by
          intro k
          rw [row_Decode.l0, if_neg hz]
          unfold row_next.f
          rw [if_pos (by omega), if_pos (by omega), hb0, hwb, htl, if_neg c1, if_neg c2, if_pos c3, cut_eq _ 1 (by omega), Option.bind_some, if_neg (show ¬ ((s.extract (at_ + 1) s.size).size : Int) < 1 by omega), if_pos rfl]
          dsimp only
          rw [show (1 : Int).toNat = 1 from rfl, ext_tail s (at_ + 1) 1 (by omega), ext_ext s (at_ + 1) 0 1 (by omega) (by omega), if_pos (by rw [ext_size]; omega)]
          rw [show at_ + 1 + 0 = at_ + 1 from rfl, show at_ + 1 + 1 = at_ + 2 from rfl, hb1, hw2, hq, cut_eq _ _ (by omega)]
          by_cases z : ((s.extract (at_ + 2) s.size).size : Int) < (q : Int)
          · rw [if_pos z, if_pos z]
            rfl
          · rw [if_neg z, if_neg z, Int.toNat_natCast, ext_tail s (at_ + 2) q (by omega), ext_ext s (at_ + 2) 0 q (by omega) (by omega)]
            rfl
        have ref : ∀ k, weathercockref02_Decode.l0 (k + 2) s x4 (at_ : Int) = if ((s.extract (at_ + 2) s.size).size : Int) < (q : Int) then some ([], false) else weathercockref02_Decode.l0 k s (x4 ++ [⟨bt s (at_ : Int), 0, s.extract (at_ + 2) (at_ + 2 + q)⟩]) ((at_ + 2 + q : Nat) : Int) := by
          intro k
          rw [weathercockref02_Decode.l0, if_pos (by omega), if_pos (by omega), hwb, if_neg c1, if_neg c2, if_pos c3, hw1, weathercockref02_Decode.j1, if_neg (by unfold wrap64; omega), if_neg c1, if_neg c2, if_pos c3, if_pos (by omega), if_pos (by omega), hw2, hq]
          rw [show wrap64 (((at_ + 1 : Nat) : Int) + 1) = ((at_ + 2 : Nat) : Int) by unfold wrap64; omega, show wrap64 (((at_ + 2 : Nat) : Int) + (q : Int)) = ((at_ + 2 + q : Nat) : Int) by unfold wrap64; omega]
          by_cases z : ((s.extract (at_ + 2) s.size).size : Int) < (q : Int)
          · rw [if_pos z, if_pos (by omega)]
          · rw [if_neg z, if_neg (by omega), if_pos (by omega), if_pos (by omega), if_pos (by omega), if_pos (by omega), Int.toNat_natCast, Int.toNat_natCast]
            rw [show wrap64 (1 + (q : Int)) = 1 + (q : Int) from w64 (by omega) (by omega), show wrap64 (((at_ + 1 : Nat) : Int) + (1 + (q : Int))) = ((at_ + 2 + q : Nat) : Int) from (w64 (by omega) (by omega)).trans (by omega)]
        by_cases z : ((s.extract (at_ + 2) s.size).size : Int) < (q : Int)
        · refine fail fun k hk => ?_
          obtain ⟨k, rfl⟩ : ∃ m, k = m + 2 := ⟨k - 2, by omega⟩
          rw [prog, ref, if_pos z, if_pos z]
          exact ⟨rfl, rfl⟩
        · obtain ⟨r, ho, hr⟩ := ih (at_ + 2 + q) (x4 ++ [⟨bt s (at_ : Int), 0, s.extract (at_ + 2) (at_ + 2 + q)⟩]) (by omega) (by omega) (by simp; omega)
          refine ⟨r, ho, fun k hk => ?_⟩
          obtain ⟨k, rfl⟩ : ∃ m, k = m + 2 := ⟨k - 2, by omega⟩
          rw [prog, ref, if_neg z, if_neg z, Option.bind_some, if_pos rfl, if_pos (by omega)]
          exact ⟨(hr (k + 1) (by omega)).1, (hr k (by omega)).2⟩
    · obtain ⟨r, ho, hr⟩ := ih (at_ + 1) (x4 ++ [⟨bt s (at_ : Int), 0, ⟨#[]⟩⟩]) (by omega) (by omega) (by simp; omega)
      refine ⟨r, ho, fun k hk => ?_⟩
      obtain ⟨k, rfl⟩ : ∃ m, k = m + 2 := ⟨k - 2, by omega⟩
      constructor
      · rw [row_Decode.l0, if_neg hz]
        unfold row_next.f
        rw [if_pos (by omega), if_pos (by omega), hb0, hwb, htl, if_neg c1, if_neg c2, if_neg c3, Option.bind_some, if_pos rfl, if_pos (by omega)]
        exact (hr (k + 1) (by omega)).1
      · rw [weathercockref02_Decode.l0, if_pos (by omega), if_pos (by omega), hwb, if_neg c1, if_neg c2, if_neg c3, hw1, weathercockref02_Decode.j1, if_neg (by unfold wrap64; omega), if_neg c1, if_neg c2, if_neg c3, if_pos (by omega)]
        rw [show wrap64 (((at_ + 1 : Nat) : Int) + 0) = ((at_ + 1 : Nat) : Int) by unfold wrap64; omega]
        exact (hr k (by omega)).2

/- BLOCK the law RowBytes, of texts of at most 1048576 bytes -/
theorem bytes_l1 (x0 : List S36) (x1 : ByteArray) (x6 : ByteArray) (x7 : Int) (x8 : ByteArray) (x9 : Int) (x10 : List S36) (x11 : Bool) (t : Int) (k : Nat) : ∀ m i (y : List S36), i + m = y.length → y.length ≤ 2000000 →
    weathercocklaw02_RowBytes.l1 (k + m + 1) x0 x1 true x6 x7 x8 x9 x10 x11 t y (i : Int) = weathercocklaw02_RowBytes.l0 k x0 x1 true x6 x7 x8 x9 x10 x11 (wrap64 (t + 1)) := by
  intro m
  induction m with
  | zero =>
    intro i y hi hy
    rw [weathercocklaw02_RowBytes.l1, if_neg (by omega)]
  | succ m ih =>
    intro i y hi hy
    rw [show k + (m + 1) + 1 = (k + m + 1) + 1 by omega, weathercocklaw02_RowBytes.l1, if_pos (by omega), if_pos (by omega), show wrap64 ((i : Int) + 1) = ((i + 1 : Nat) : Int) by unfold wrap64; omega]
    exact ih (i + 1) _ (by simp; omega) (by simp; omega)
theorem bytes_turn (x0 : List S36) (s : ByteArray) (x6 : ByteArray) (x7 : Int) (x8 : ByteArray) (x9 : Int) (r : List S36 × Int) (ho : DecOk s r) (hr : ∀ k, 20 * s.size + 3000 < k → row_Decode.f k s = some r) (hlen : r.1.length ≤ 2000000) (t : Int) (ht : t < 2) (k : Nat) (hk : 20 * s.size + 3000 < k) :
    weathercocklaw02_RowBytes.l0 (k + r.1.length + 1 + 1 + 1) x0 s true x6 x7 x8 x9 r.1 (r.2 == 0) t = weathercocklaw02_RowBytes.l0 k x0 s true x6 x7 x8 x9 r.1 (r.2 == 0) (wrap64 (t + 1)) := by
  rw [weathercocklaw02_RowBytes.l0, if_pos ht, hr _ (by omega), Option.bind_some]
  unfold weathercocklaw02_rows.f
  rw [Option.bind_some, if_pos ((sameL_iff _ _).2 rfl)]
  have hj : weathercocklaw02_RowBytes.j1 (k + r.1.length + 1 + 1) x0 s true x6 x7 x8 x9 r.1 (r.2 == 0) t r.1 false = weathercocklaw02_RowBytes.l0 k x0 s true x6 x7 x8 x9 r.1 (r.2 == 0) (wrap64 (t + 1)) := by
    rw [weathercocklaw02_RowBytes.j1, if_neg (by decide)]
    exact bytes_l1 x0 s x6 x7 x8 x9 r.1 _ t k r.1.length 0 r.1 (by omega) hlen
  have hx : ((r.2 == 0) != (r.2 == 0)) = false := by simp
  rw [hx, if_neg (by decide)]
  by_cases c : (r.2 == 0) = true
  · rw [if_pos c]
    exact hj
  · rw [if_neg c]
    rcases ho with ⟨h2, _⟩ | ⟨h2, _⟩
    · rw [show (r.2 != 2) = false by rw [h2]; rfl]
      exact hj
    · exact absurd (by rw [h2]; rfl) c
theorem RowBytes (l : List S36) (s : ByteArray) (hl : l.length ≤ 4611686018427387904) (hs : s.size ≤ 1048576) : ∃ k, weathercocklaw02_RowBytes.f k l s = some true := by
  obtain ⟨K, h⟩ := rowEx_ev
  obtain ⟨r, ho, hr⟩ := dec_same s hs s.size 0 [] (by omega) (by omega) (by simp; omega)
  have he : s.extract 0 s.size = s := by
    apply bytesOf_inj
    rw [bytesOf_ext, List.drop_zero, show s.size = (bytesOf s).length from (bytesOf_length s).symm, List.take_length]
  have hp : ∀ k, 20 * s.size + 3000 < k → row_Decode.f k s = some r := fun k hk => by
    have := (hr k hk).1
    rw [he] at this
    exact this
  have hd : ∀ k, 20 * s.size + 3000 < k → weathercockref02_Decode.f k s = some (r.1, r.2 == 0) := fun k hk => (hr k hk).2
  have hlen : r.1.length ≤ 2000000 := by
    rcases ho with ⟨_, h1⟩ | ⟨_, h3, _⟩
    · rw [h1]
      exact Nat.zero_le _
    · by_cases c : 100 < r.1.length
      · rw [encR_long _ c] at h3
        cases h3
      · omega
  obtain ⟨J, hJ⟩ : ∃ J, J = K + 20 * s.size + 4000 + l.length := ⟨_, rfl⟩
  refine ⟨J + 1 + r.1.length + 1 + 1 + 1 + r.1.length + 1 + 1 + 1, ?_⟩
  unfold weathercocklaw02_RowBytes.f row_Encode.f
  rw [show weathercocklaw02_examples.f (J + 1 + r.1.length + 1 + 1 + 1 + r.1.length + 1 + 1 + 1) = some true from h _ (by omega), Option.bind_some, Option.bind_some, refEnc_f l _ (by omega), Option.bind_some, hd _ (by omega), Option.bind_some]
  dsimp only
  rw [bytes_turn l s _ _ _ _ r ho hp hlen 0 (by decide) _ (by omega), show wrap64 (0 + 1) = 1 by unfold wrap64; omega, bytes_turn l s _ _ _ _ r ho hp hlen 1 (by decide) _ (by omega), show wrap64 (1 + 1) = 2 by unfold wrap64; omega]
  rw [weathercocklaw02_RowBytes.l0, if_neg (by decide), if_pos rfl, if_pos rfl, if_pos rfl]
  unfold row_Right.f
  rw [Option.bind_some, right02_f l hl _ (by omega), Option.bind_some]
  simp

end Go.Proofs.Ytplmfnjijhppaaa.Pure
