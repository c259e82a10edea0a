import Derived.Test.YtmnjaihalajhcaaDoorPlS
import Derived.Test.YtmnjaihalajhcaaDoorPlR
import Derived.Lib.ItoaLen
import Derived.Lib.AppendIntMem
/- Plan: walks by hand; the conditions stand in each theorem. -/
namespace Go.Proofs.YtmnjaihalajhcaaDoor.QPlanConds
open Go.RowKit Go.Proofs.YtmnjaihalajhcaaDoorW.PrintWords Go.Proofs.YtmnjaihalajhcaaDoorW.PrintLast Go.Proofs.YtmnjaihalajhcaaDoorW.PrintMore
attribute [local go_sem] max2_int min2_int max_two min_two max_three min_three max_four min_four
set_option linter.unusedVariables false
set_option linter.unusedSimpArgs false
theorem rdl_get {l : List S34} {i : Nat} (h : i < l.length) : l[i] = rd_T34 l (i : Int) := by unfold rd_T34; rw [Int.toNat_natCast, List.getD_eq_getElem?_getD, List.getElem?_eq_getElem h]; rfl
/- Texts of right plans: no two have one. -/
def dgB (b : UInt8) : Prop := 48 ≤ b.toNat ∧ b.toNat ≤ 57
theorem dg_of (k : Nat) (h : k < 10) : dgB (UInt8.ofNat (48 + k)) ∧ (UInt8.ofNat (48 + k)).toNat = 48 + k := by
  have e : (UInt8.ofNat (48 + k)).toNat = 48 + k := by simp; omega
  exact ⟨by unfold dgB; omega, e⟩
theorem dec_dig : ∀ u, ∀ b ∈ Lib.decDigits u, dgB b := by
  intro u
  induction u using Nat.strongRecOn with
  | _ u ih =>
    intro b hb
    rw [Lib.decDigits] at hb
    split at hb
    · rename_i h
      rw [List.mem_singleton] at hb
      rw [hb]
      exact (dg_of u h).1
    · rename_i h
      rcases List.mem_append.1 hb with hb | hb
      · exact ih (u / 10) (by omega) b hb
      · rw [List.mem_singleton] at hb
        rw [hb]
        exact (dg_of (u % 10) (by omega)).1
def valD (l : List UInt8) : Nat := l.foldl (fun a b => a * 10 + (b.toNat - 48)) 0
theorem valD_snoc (l : List UInt8) (b : UInt8) : valD (l ++ [b]) = valD l * 10 + (b.toNat - 48) := by
  unfold valD
  rw [List.foldl_append]
  rfl
theorem valD_dec : ∀ u, valD (Lib.decDigits u) = u := by
  intro u
  induction u using Nat.strongRecOn with
  | _ u ih =>
    rw [Lib.decDigits]
    split
    · rename_i h
      show 0 * 10 + ((UInt8.ofNat (48 + u)).toNat - 48) = u
      rw [(dg_of u h).2]
      omega
    · rename_i h
      rw [valD_snoc, ih (u / 10) (by omega), (dg_of (u % 10) (by omega)).2]
      omega
theorem dec_inj {u v : Nat} (h : Lib.decDigits u = Lib.decDigits v) : u = v := by
  have := congrArg valD h
  rwa [valD_dec, valD_dec] at this
/- Nothing, or something that is no digit. -/
def noD (r : List UInt8) : Prop := ∀ c t, r = c :: t → ¬ dgB c
theorem dig_split : ∀ (a b r s : List UInt8), (∀ x ∈ a, dgB x) → (∀ x ∈ b, dgB x) → noD r → noD s → a ++ r = b ++ s → a = b ∧ r = s
  | [], [], r, s, _, _, _, _, h => ⟨rfl, h⟩
  | [], y :: b, r, s, _, hb, hr, _, h => absurd (hb y List.mem_cons_self) (hr y (b ++ s) h)
  | x :: a, [], r, s, ha, _, _, hs, h => absurd (ha x List.mem_cons_self) (hs x (a ++ r) h.symm)
  | x :: a, y :: b, r, s, ha, hb, hr, hs, h => by
    have h : x :: (a ++ r) = y :: (b ++ s) := h
    injection h with h1 h2
    obtain ⟨h3, h4⟩ := dig_split a b r s (fun z hz => ha z (List.mem_cons_of_mem _ hz)) (fun z hz => hb z (List.mem_cons_of_mem _ hz)) hr hs h2
    exact ⟨by rw [h1, h3], h4⟩
theorem itoa_dec {n : Int} (h : 0 ≤ n) : Lib.itoa n = Lib.decDigits n.toNat := by unfold Lib.itoa; rw [if_neg (by omega)]
theorem num_split {n m : Int} (hn : 0 ≤ n) (hm : 0 ≤ m) {r s : List UInt8} (hr : noD r) (hs : noD s) (h : Lib.itoa n ++ r = Lib.itoa m ++ s) : n = m ∧ r = s := by
  rw [itoa_dec hn, itoa_dec hm] at h
  obtain ⟨h1, h2⟩ := dig_split _ _ r s (dec_dig _) (dec_dig _) hr hs h
  have := dec_inj h1
  exact ⟨by omega, h2⟩
/- What stands behind a plan within another's text. -/
def endT (r : List UInt8) : Prop := r = [] ∨ (∃ t, r = 32 :: t) ∨ ∃ t, r = 41 :: t
theorem endT.no {r : List UInt8} (h : endT r) : noD r := by
  intro c t e
  rcases h with h | ⟨u, h⟩ | ⟨u, h⟩
  · rw [h] at e; cases e
  · rw [h] at e; injection e with e _; rw [← e]; unfold dgB; decide
  · rw [h] at e; injection e with e _; rw [← e]; unfold dgB; decide
theorem endT.ne {r t : List UInt8} (h : endT r) : r ≠ 33 :: t := by
  intro e
  rcases h with h | ⟨u, h⟩ | ⟨u, h⟩
  · rw [h] at e; cases e
  · rw [h] at e; injection e with e _; revert e; decide
  · rw [h] at e; injection e with e _; revert e; decide
theorem no_cons {c : UInt8} {t : List UInt8} (h : ¬ dgB c) : noD (c :: t) := by
  intro d u e
  injection e with e _
  rw [← e]
  exact h
/- Alike. -/
def allZ : List (S34 → Bool) → List S34 → Bool
  | f :: fs, x :: xs => f x && allZ fs xs
  | _, _ => true
def alikeF (p : S34) (fs : List (S34 → Bool)) (q : S34) : Bool :=
  (p.f0 == q.f0) && ((p.f1 == q.f1) && ((p.f2 == q.f2) && ((p.f3 == q.f3) && ((p.f4 == q.f4) && (((p.f7.length : Int) == (q.f7.length : Int)) && allZ fs q.f7)))))
def alikeX : S34 → S34 → Bool := foldP alikeF
theorem alikeX_eq (p : S34) : alikeX p = alikeF p (p.f7.map alikeX) := foldP_eq _ p
theorem allZ_iff (f : S34 → S34 → Bool) : ∀ l m : List S34, l.length = m.length → (allZ (l.map f) m = true ↔ ∀ i (h : i < l.length) (h' : i < m.length), f l[i] m[i] = true)
  | [], [], _ => ⟨fun _ i h => absurd h (Nat.not_lt_zero _), fun _ => rfl⟩
  | [], y :: m, h => by simp at h
  | x :: l, [], h => by simp at h
  | x :: l, y :: m, h => by
    have ih := allZ_iff f l m (by simpa using h)
    show (f x y && allZ (l.map f) m) = true ↔ _
    rw [Bool.and_eq_true, ih]
    constructor
    · rintro ⟨h1, h2⟩ i hi hi'
      cases i with
      | zero => exact h1
      | succ i => exact h2 i (by simpa using hi) (by simpa using hi')
    · intro h1
      exact ⟨h1 0 (by simp) (by simp), fun i hi hi' => h1 (i + 1) (by simpa using hi) (by simpa using hi')⟩
theorem alike_mk {p q : S34} (h0 : p.f0 = q.f0) (h1 : p.f1 = q.f1) (h2 : p.f2 = q.f2) (h3 : p.f3 = q.f3) (h4 : p.f4 = q.f4) (h7 : p.f7.length = q.f7.length) (h : ∀ i (h : i < p.f7.length) (h' : i < q.f7.length), alikeX p.f7[i] q.f7[i] = true) : alikeX p q = true := by
  rw [alikeX_eq]
  unfold alikeF
  rw [h0, h1, h2, h3, h4, h7, (allZ_iff alikeX p.f7 q.f7 h7).2 h]
  simp
theorem alike_open {p q : S34} (h : alikeX p q = true) : p.f0 = q.f0 ∧ p.f1 = q.f1 ∧ p.f2 = q.f2 ∧ p.f3 = q.f3 ∧ p.f4 = q.f4 ∧ p.f7.length = q.f7.length ∧ ∀ i (h : i < p.f7.length) (h' : i < q.f7.length), alikeX p.f7[i] q.f7[i] = true := by
  rw [alikeX_eq] at h
  unfold alikeF at h
  simp only [Bool.and_eq_true, beq_iff_eq] at h
  obtain ⟨h0, h1, h2, h3, h4, h7, h⟩ := h
  have h7 : p.f7.length = q.f7.length := by omega
  exact ⟨h0, h1, h2, h3, h4, h7, (allZ_iff alikeX p.f7 q.f7 h7).1 h⟩
theorem alike_self : ∀ p, alikeX p p = true := by
  refine ind34 ?_
  intro p ih
  exact alike_mk rfl rfl rfl rfl rfl rfl (fun i h _ => ih _ (List.getElem_mem h))
theorem map_eq {f : S34 → List UInt8} {l m : List S34} (h7 : l.length = m.length) (h : ∀ i (h : i < l.length) (h' : i < m.length), f l[i] = f m[i]) : l.map f = m.map f := by
  refine List.ext_getElem (by simpa using h7) (fun i h1 h2 => ?_)
  rw [List.getElem_map, List.getElem_map]
  exact h i (by simpa using h1) (by simpa using h2)
theorem alike_text : ∀ p q, alikeX p q = true → textX p = textX q := by
  refine ind34 ?_
  intro p ih q h
  obtain ⟨h0, h1, h2, h3, h4, h7, h⟩ := alike_open h
  rw [textX_eq, textX_eq]
  have e : p.f7.map textX = q.f7.map textX := map_eq h7 (fun i hi hi' => ih _ (List.getElem_mem hi) _ (h i hi hi'))
  rw [e, h4]
  unfold bodyX
  rw [h0, h1, h2, h3]
theorem leaf_text {p : S34} (h4 : p.f4 = false) (l : List (List UInt8)) : (p.f0 = 1 → bodyX p l = 115 :: Lib.itoa p.f1) ∧ (p.f0 = 2 → bodyX p l = 105 :: (Lib.itoa p.f1 ++ 58 :: Lib.itoa p.f2)) ∧ (p.f0 = 6 → bodyX p l = 116 :: Lib.itoa p.f3) := by
  unfold bodyX
  refine ⟨fun h => ?_, fun h => ?_, fun h => ?_⟩ <;> rw [h] <;> rfl
theorem leaf_check {p : S34} (hb : badB p = false) (hj : joinB p = false) : p.f4 = false := by
  rcases Bool.eq_false_or_eq_true p.f4 with h | h
  · unfold badB at hb
    rw [if_pos h, if_neg (by rw [hj]; decide)] at hb
    cases hb
  · exact h
theorem join_op {p : S34} (h : joinB p = true) : p.f0 = 3 ∨ p.f0 = 4 ∨ p.f0 = 5 := by
  unfold joinB at h
  simp only [Bool.or_eq_true, beq_iff_eq] at h
  exact h
/- A join's text: its letters, its inputs' texts, the mark. -/
def opT (p : S34) : List UInt8 := if p.f0 = 3 then [108] else if p.f0 = 4 then 104 :: Lib.itoa p.f2 else 109 :: Lib.itoa p.f2
def ckT (p : S34) : List UInt8 := if p.f4 = true then [33] else []
theorem join_text {p : S34} (hj : joinB p = true) (hl : p.f7.length = 2) (r : List UInt8) : textX p ++ r = opT p ++ 40 :: (textX (rd_T34 p.f7 0) ++ 32 :: (textX (rd_T34 p.f7 1) ++ 41 :: (ckT p ++ r))) := by
  have e : p.f7.map textX = [textX (rd_T34 p.f7 0), textX (rd_T34 p.f7 1)] := congrArg (fun l => List.map textX l) (list_two hl)
  rw [textX_eq, e]
  unfold bodyX opT ckT innX
  rcases join_op hj with h | h | h <;> rw [h] <;> simp [joinT]
theorem cond_nn {L : List S46} {p : S34} (h : condB L p = true) (h0 : p.f0 ≠ 3) : 0 ≤ p.f2 := by
  unfold condB at h
  rw [if_neg h0] at h
  unfold joinsX at h
  split at h
  · cases h
  · rename_i x hx
    unfold eqX at hx
    split at hx
    · rename_i h1; exact h1.1
    · cases hx
theorem looks_nn {L : List S46} {p : S34} (h : (looksO L p.f2 p.f1).isSome = true) : 0 ≤ p.f2 := by
  unfold looksO at h
  split at h
  · cases h
  · rename_i x hx
    unfold eqX at hx
    split at hx
    · rename_i h1; exact h1.1
    · cases hx
theorem op_split {L : List S46} {p q : S34} (hp : joinB p = true) (hq : joinB q = true) (cp : condB L p = true) (cq : condB L q = true) {r s : List UInt8} (h : opT p ++ 40 :: r = opT q ++ 40 :: s) : p.f0 = q.f0 ∧ p.f2 = q.f2 ∧ r = s := by
  have h40 : ∀ t : List UInt8, noD (40 :: t) := fun t => no_cons (by unfold dgB; decide)
  have h3 : ∀ x : S34, condB L x = true → x.f0 = 3 → x.f2 = 0 := fun x hx e => by
    unfold condB at hx
    rw [if_pos e] at hx
    exact beq_iff_eq.1 hx
  unfold opT at h
  rcases join_op hp with a | a | a <;> rcases join_op hq with b | b | b <;> rw [a, b] at h <;> simp at h
  · exact ⟨by omega, by rw [h3 p cp a, h3 q cq b], h⟩
  · obtain ⟨e1, e2⟩ := num_split (cond_nn cp (by omega)) (cond_nn cq (by omega)) (h40 r) (h40 s) h
    injection e2 with _ e2
    exact ⟨by omega, e1, e2⟩
  · obtain ⟨e1, e2⟩ := num_split (cond_nn cp (by omega)) (cond_nn cq (by omega)) (h40 r) (h40 s) h
    injection e2 with _ e2
    exact ⟨by omega, e1, e2⟩
theorem ck_split {p q : S34} {r s : List UInt8} (hr : endT r) (hs : endT s) (h : ckT p ++ r = ckT q ++ s) : p.f4 = q.f4 ∧ r = s := by
  unfold ckT at h
  rcases Bool.eq_false_or_eq_true p.f4 with a | a <;> rcases Bool.eq_false_or_eq_true q.f4 with b | b <;> rw [a, b] at h <;> simp at h
  · exact ⟨by rw [a, b], h⟩
  · exact absurd h.symm hs.ne
  · exact absurd h hr.ne
  · exact ⟨by rw [a, b], h⟩
theorem read_law {core : Int} {L : List S46} {T : List Int} : ∀ p, nodeX core L T p = true → ∀ q, nodeX core L T q = true → ∀ r s, endT r → endT s → textX p ++ r = textX q ++ s → alikeX p q = true ∧ r = s := by
  refine ind34 ?_
  intro p ih hp q hq r s hr hs h
  have e32 : ∀ t, endT (32 :: t) := fun t => Or.inr (Or.inl ⟨t, rfl⟩)
  have e41 : ∀ t, endT (41 :: t) := fun t => Or.inr (Or.inr ⟨t, rfl⟩)
  obtain ⟨bp, wp⟩ := node_ways hp
  obtain ⟨bq, wq⟩ := node_ways hq
  -- the letter ahead tells the operation
  have hd : ∀ x : S34, nodeX core L T x = true → ∀ t, ∃ c u, textX x ++ t = c :: u ∧ ((x.f0 = 1 ∧ c = 115) ∨ (x.f0 = 2 ∧ c = 105) ∨ (x.f0 = 6 ∧ c = 116) ∨ (joinB x = true ∧ x.f7.length = 2 ∧ (c = 108 ∨ c = 104 ∨ c = 109))) := by
    intro x hx t
    obtain ⟨bx, ⟨j, l, _⟩ | ⟨j, _, ⟨o, _⟩ | ⟨o, _⟩ | ⟨o, _⟩⟩⟩ := node_ways hx
    · have e := join_text j l t
      rw [e]
      unfold opT
      rcases join_op j with o | o | o <;> rw [o] <;> exact ⟨_, _, rfl, Or.inr (Or.inr (Or.inr ⟨j, l, by simp⟩))⟩
    · rw [textX_eq, (leaf_text (leaf_check bx j) _).1 o]
      exact ⟨_, _, rfl, Or.inl ⟨o, rfl⟩⟩
    · rw [textX_eq, (leaf_text (leaf_check bx j) _).2.1 o]
      exact ⟨_, _, rfl, Or.inr (Or.inl ⟨o, rfl⟩)⟩
    · rw [textX_eq, (leaf_text (leaf_check bx j) _).2.2 o]
      exact ⟨_, _, rfl, Or.inr (Or.inr (Or.inl ⟨o, rfl⟩))⟩
  obtain ⟨c, u, e1, k1⟩ := hd p hp r
  obtain ⟨c', u', e2, k2⟩ := hd q hq s
  have hc : c = c' := by
    rw [e1, e2] at h
    injection h
  clear hd e1 e2
  subst hc
  have wrap_inj : ∀ x : S34, tableB core x = true → x.f3 = wrap64 (2 ^ x.f1.toNat) := fun x hx => (tableB_eq hx).2.2
  obtain ⟨jp, lp, rp, np0, np1, cp, sp⟩ | ⟨jp, lp, wp⟩ := wp
  · obtain ⟨jq, lq, rq, nq0, nq1, cq, sq⟩ | ⟨jq, lq, wq⟩ := wq
    · rw [join_text jp lp, join_text jq lq] at h
      obtain ⟨h0, h2, h⟩ := op_split jp jq cp cq h
      obtain ⟨ax, h⟩ := ih _ (mem_two lp).1 np0 _ nq0 _ _ (e32 _) (e32 _) h
      injection h with _ h
      obtain ⟨ay, h⟩ := ih _ (mem_two lp).2 np1 _ nq1 _ _ (e41 _) (e41 _) h
      injection h with _ h
      obtain ⟨h4, h⟩ := ck_split hr hs h
      have sx := (alike_open ax).2.2.2.1
      have sy := (alike_open ay).2.2.2.1
      refine ⟨alike_mk h0 (by rw [rp, rq]) h2 (by rw [(setB_eq sp).2, (setB_eq sq).2, sx, sy]) h4 (by rw [lp, lq]) ?_, h⟩
      intro i hi hi'
      rw [rdl_get hi, rdl_get hi']
      have : i = 0 ∨ i = 1 := by omega
      rcases this with rfl | rfl
      · exact ax
      · exact ay
    · exfalso
      rcases k1 with ⟨o, _⟩ | ⟨o, _⟩ | ⟨o, _⟩ | ⟨_, _, k1⟩
      · rcases join_op jp with a | a | a <;> omega
      · rcases join_op jp with a | a | a <;> omega
      · rcases join_op jp with a | a | a <;> omega
      · rcases k2 with ⟨_, e⟩ | ⟨_, e⟩ | ⟨_, e⟩ | ⟨j, _⟩
        · rw [e] at k1; revert k1; decide
        · rw [e] at k1; revert k1; decide
        · rw [e] at k1; revert k1; decide
        · rw [jq] at j; cases j
  · obtain ⟨jq, lq, rq, nq0, nq1, cq, sq⟩ | ⟨jq, lq, wq⟩ := wq
    · exfalso
      rcases k2 with ⟨o, _⟩ | ⟨o, _⟩ | ⟨o, _⟩ | ⟨_, _, k2⟩
      · rcases join_op jq with a | a | a <;> omega
      · rcases join_op jq with a | a | a <;> omega
      · rcases join_op jq with a | a | a <;> omega
      · rcases k1 with ⟨_, e⟩ | ⟨_, e⟩ | ⟨_, e⟩ | ⟨j, _⟩
        · rw [e] at k2; revert k2; decide
        · rw [e] at k2; revert k2; decide
        · rw [e] at k2; revert k2; decide
        · rw [jp] at j; cases j
    · have p4 := leaf_check bp jp
      have q4 := leaf_check bq jq
      have n58 : ∀ t : List UInt8, noD (58 :: t) := fun t => no_cons (by unfold dgB; decide)
      have fin : p.f0 = q.f0 → p.f1 = q.f1 → p.f2 = q.f2 → p.f3 = q.f3 → alikeX p q = true := fun a b d e => alike_mk a b d e (by rw [p4, q4]) (by rw [lp, lq]) (fun i hi _ => absurd hi (by omega))
      have tail : ∀ x : S34, x.f4 = false → (if x.f4 = true then ([33] : List UInt8) else []) = [] := fun x hx => by rw [hx]; rfl
      rw [textX_eq, textX_eq, tail p p4, tail q q4, List.append_nil, List.append_nil] at h
      rcases wp with ⟨a, tp, cp⟩ | ⟨a, tp, cp⟩ | ⟨a, tp⟩
      · rcases wq with ⟨b, tq, cq⟩ | ⟨b, tq, cq⟩ | ⟨b, tq⟩
        · rw [(leaf_text p4 _).1 a, (leaf_text q4 _).1 b] at h
          injection h with _ h
          obtain ⟨e, h⟩ := num_split (tableB_eq tp).1 (tableB_eq tq).1 hr.no hs.no h
          exact ⟨fin (by omega) e (by omega) (by rw [wrap_inj p tp, wrap_inj q tq, e]), h⟩
        · exfalso
          rw [(leaf_text p4 _).1 a, (leaf_text q4 _).2.1 b] at h
          injection h with h _; revert h; decide
        · exfalso
          rw [(leaf_text p4 _).1 a, (leaf_text q4 _).2.2 b] at h
          injection h with h _; revert h; decide
      · rcases wq with ⟨b, tq, cq⟩ | ⟨b, tq, cq⟩ | ⟨b, tq⟩
        · exfalso
          rw [(leaf_text p4 _).2.1 a, (leaf_text q4 _).1 b] at h
          injection h with h _; revert h; decide
        · rw [(leaf_text p4 _).2.1 a, (leaf_text q4 _).2.1 b] at h
          injection h with _ h
          have h : (Lib.itoa p.f1 ++ 58 :: Lib.itoa p.f2) ++ r = (Lib.itoa q.f1 ++ 58 :: Lib.itoa q.f2) ++ s := h
          rw [List.append_assoc, List.append_assoc] at h
          obtain ⟨e, h⟩ := num_split (tableB_eq tp).1 (tableB_eq tq).1 (n58 _) (n58 _) h
          injection h with _ h
          obtain ⟨e2, h⟩ := num_split (looks_nn cp) (looks_nn cq) hr.no hs.no h
          exact ⟨fin (by omega) e e2 (by rw [wrap_inj p tp, wrap_inj q tq, e]), h⟩
        · exfalso
          rw [(leaf_text p4 _).2.1 a, (leaf_text q4 _).2.2 b] at h
          injection h with h _; revert h; decide
      · rcases wq with ⟨b, tq, cq⟩ | ⟨b, tq, cq⟩ | ⟨b, tq⟩
        · exfalso
          rw [(leaf_text p4 _).2.2 a, (leaf_text q4 _).1 b] at h
          injection h with h _; revert h; decide
        · exfalso
          rw [(leaf_text p4 _).2.2 a, (leaf_text q4 _).2.1 b] at h
          injection h with h _; revert h; decide
        · rw [(leaf_text p4 _).2.2 a, (leaf_text q4 _).2.2 b] at h
          injection h with _ h
          obtain ⟨x1, _, x3, x4, _⟩ := tempB_eq tp
          obtain ⟨y1, _, y3, y4, _⟩ := tempB_eq tq
          obtain ⟨e, h⟩ := num_split (by omega) (by omega) hr.no hs.no h
          exact ⟨fin (by omega) (by omega) (by omega) e, h⟩
theorem texts_law {nT : Nat} {core : Int} {L : List S46} {T : List Int} {p q : S34} (hp : rightP nT core L T p = true) (hq : rightP nT core L T q = true) : (textX p = textX q) ↔ alikeX p q = true := by
  constructor
  · intro h
    exact (read_law p (right_node hp).2.2.2.2 q (right_node hq).2.2.2.2 [] [] (Or.inl rfl) (Or.inl rfl) (by rw [h])).1
  · exact alike_text p q
/- How long a text is. -/
theorem body_len {p : S34} (h : numsP I64 p) (l : List (List UInt8)) : (bodyX p l).length ≤ 60 + (joinT l).length := by
  rw [numsP_eq] at h
  obtain ⟨h1, h2, h3, _⟩ := h
  have a1 := Lib.itoa_length_le p.f1 h1.1 h1.2
  have a2 := Lib.itoa_length_le p.f2 h2.1 h2.2
  have a3 := Lib.itoa_length_le p.f3 h3.1 h3.2
  unfold bodyX innX
  (repeat' split) <;> simp <;> omega
theorem joinT_bound : ∀ l : List (List UInt8), (joinT l).length ≤ (l.map (fun x => x.length + 1)).sum
  | [] => Nat.zero_le _
  | [x] => by simp [joinT]
  | x :: y :: l => by
    have := joinT_bound (y :: l)
    simp [joinT] at this ⊢
    omega
theorem text_len : ∀ p, numsP I64 p → (textX p).length + 1 ≤ 64 * szP p := by
  refine ind34 ?_
  intro p ih hn
  have hb := body_len hn (p.f7.map textX)
  have hj := joinT_bound (p.f7.map textX)
  have hs : ((p.f7.map textX).map (fun x => x.length + 1)).sum ≤ 64 * (p.f7.map szP).sum := by
    have : ∀ l : List S34, (∀ x ∈ l, (textX x).length + 1 ≤ 64 * szP x) → ((l.map textX).map (fun x => x.length + 1)).sum ≤ 64 * (l.map szP).sum := by
      intro l
      induction l with
      | nil => intro _; exact Nat.le_refl _
      | cons x l ih2 =>
        intro hx
        have h1 := hx x List.mem_cons_self
        have h2 := ih2 (fun y hy => hx y (List.mem_cons_of_mem _ hy))
        simp only [List.map_cons, List.sum_cons]
        omega
    exact this p.f7 (fun x hx => ih x hx (numsP_in hn hx))
  rw [textX_eq, szP_eq, List.length_append]
  have hc : (if p.f4 = true then ([33] : List UInt8) else []).length ≤ 1 := by split <;> simp
  omega
theorem right_len {nT : Nat} {core : Int} {L : List S46} {T : List Int} {p : S34} (h : rightP nT core L T p = true) (hn : numsP I64 p) : (textX p).length ≤ 140737488355328 := by
  have h4 := (right_node h).2.2.2.1
  have := text_len p hn
  unfold nodesX at h4
  omega
theorem tab_HQ {W : World} (h : Lib.TabIs Tryd.prog W "internal/strconv.uint64pow10" .u64 Lib.pow10Tab) : HQ I64 W := fun n hn w' hb => itoa43 n hn.1 hn.2 w' ((Lib.tabBelow_of_tabIs h) w' hb)
theorem HQ_below {Q : Int → Prop} {w w' : World} (h : HQ Q w) (hb : Below w.heap.size w w') : HQ Q w' := fun n hn w2 hb2 => h n hn w2 (bst hb hb2)

end Go.Proofs.YtmnjaihalajhcaaDoor.QPlanConds
