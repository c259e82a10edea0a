import Derived.Test.YtmnjaihalajhcaaDoorPlX
import Derived.Laws.BitsLemmas
/- Plan: walks by hand; the conditions stand in each theorem. -/
namespace Go.Proofs.YtmnjaihalajhcaaDoor.QPlanConds
open Go.RowKit Go.Proofs.YtmnjaihalajhcaaDoorW.PrintWords Go.Proofs.YtmnjaihalajhcaaDoorW.PrintLast Go.Proofs.YtmnjaihalajhcaaDoorW.PrintMore
attribute [local go_sem] max2_int min2_int max_two min_two max_three min_three max_four min_four
set_option linter.unusedVariables false
set_option linter.unusedSimpArgs false
/- Sets of tables. -/
theorem bits63 (a b : Nat) (ha : a < 2 ^ 63) (hb : b < 2 ^ 63) : Go.bits .and .i64 a b = ((a &&& b : Nat) : Int) ∧ Go.bits .or .i64 a b = ((a ||| b : Nat) : Int) :=
  bits_nat .i64 63 (by decide) (fun n h0 h1 => by rw [IntKind.wrap_i64]; omega) a b ha hb
theorem andNot_zero (a b : Nat) (ha : a < 2 ^ 63) (hb : b < 2 ^ 63) : (Go.bits .andNot .i64 a b == 0) = (a &&& b == a) := by
  have h1 : Go.bits .andNot .i64 a b = IntKind.i64.wrap (((BitVec.ofNat 64 a &&& ~~~ (BitVec.ofNat 64 b)).toNat : Nat) : Int) := by
    simp only [Go.bits, BitVec.ofInt_natCast]
    rfl
  have h2 : ∀ n : Nat, n < 2 ^ 64 → (IntKind.i64.wrap (n : Int) = 0 ↔ n = 0) := by
    intro n hn
    rw [IntKind.wrap_i64]
    omega
  have h3 := h2 _ (BitVec.isLt (BitVec.ofNat 64 a &&& ~~~ (BitVec.ofNat 64 b)))
  have h4 : (BitVec.ofNat 64 a &&& ~~~ (BitVec.ofNat 64 b)).toNat = 0 ↔ a &&& b = a := by
    have key : ∀ i, (BitVec.ofNat 64 a &&& ~~~ (BitVec.ofNat 64 b)).toNat.testBit i = (a.testBit i && !b.testBit i) := by
      intro i
      rw [BitVec.testBit_toNat, BitVec.getLsbD_and, BitVec.getLsbD_not, BitVec.getLsbD_ofNat, BitVec.getLsbD_ofNat]
      by_cases hi : i < 64
      · simp [hi]
      · have : a.testBit i = false := Nat.testBit_lt_two_pow (Nat.lt_of_lt_of_le ha (Nat.pow_le_pow_right (by decide) (by omega)))
        simp [hi, this]
    constructor
    · intro h
      apply Nat.eq_of_testBit_eq
      intro i
      have := key i
      rw [h] at this
      simp at this
      rw [Nat.testBit_and]
      cases hx : a.testBit i <;> cases hy : b.testBit i <;> simp_all
    · intro h
      apply Nat.eq_of_testBit_eq
      intro i
      rw [key i]
      have : (a &&& b).testBit i = a.testBit i := by rw [h]
      rw [Nat.testBit_and] at this
      simp
      cases hx : a.testBit i <;> cases hy : b.testBit i <;> simp_all
  rw [h1]
  rw [Bool.eq_iff_iff, beq_iff_eq, beq_iff_eq, h3, h4]
theorem inB_nat (a s : Nat) (ha : a < 2 ^ 63) (hs : s < 2 ^ 63) : inB (a : Int) (s : Int) = true ↔ a ≠ 0 ∧ a &&& s = a := by
  unfold inB
  rw [andNot_zero a s ha hs]
  by_cases h : a = 0
  · subst h; simp
  · rw [if_neg (by omega)]; simp [h]
theorem sub_or {a s m : Nat} (h : a &&& s = a) : a &&& (s ||| m) = a := by
  apply Nat.eq_of_testBit_eq
  intro i
  have : (a &&& s).testBit i = a.testBit i := by rw [h]
  rw [Nat.testBit_and] at this
  rw [Nat.testBit_and, Nat.testBit_or]
  cases hx : a.testBit i <;> cases hy : s.testBit i <;> simp_all
theorem or_sub {a b s : Nat} (h : a &&& s = a) (k : b &&& s = b) : (a ||| b) &&& s = a ||| b := by
  apply Nat.eq_of_testBit_eq
  intro i
  have h1 : (a &&& s).testBit i = a.testBit i := by rw [h]
  have h2 : (b &&& s).testBit i = b.testBit i := by rw [k]
  rw [Nat.testBit_and] at h1 h2
  rw [Nat.testBit_and, Nat.testBit_or]
  cases hx : a.testBit i <;> cases hy : b.testBit i <;> cases hz : s.testBit i <;> simp_all
theorem or_meets {a b s : Nat} (h0 : a ≠ 0) (h : a &&& s = a) : (a ||| b) &&& s ≠ 0 := by
  intro e
  apply h0
  apply Nat.eq_of_testBit_eq
  intro i
  have h1 : (a &&& s).testBit i = a.testBit i := by rw [h]
  have h2 : ((a ||| b) &&& s).testBit i = (0 : Nat).testBit i := by rw [e]
  rw [Nat.testBit_and] at h1
  rw [Nat.testBit_and, Nat.testBit_or, Nat.zero_testBit] at h2
  rw [Nat.zero_testBit]
  cases hx : a.testBit i <;> cases hz : s.testBit i <;> simp_all
theorem or_comm_ (a b : Nat) : a ||| b = b ||| a := Nat.or_comm a b
/- The tables of a term are added to what there is. -/
theorem tb_or : ∀ k e, okD k e = true → ∃ u : Nat, u < 65536 ∧ ∀ v : Nat, v < 65536 → tb k e (v : Int) = ((v ||| u : Nat) : Int) ∧ tb (k + 1) e (v : Int) = tb k e (v : Int) := by
  intro k
  induction k with
  | zero => intro e h; cases h
  | succ k ih =>
    intro e h
    unfold okD at h
    obtain ⟨ho, hl⟩ := Bool.and_eq_true_iff.1 h
    have hL : ∀ l : List S46, l.all (okD k) = true → ∃ u : Nat, u < 65536 ∧ ∀ v : Nat, v < 65536 → l.foldl (fun v x => tb k x v) (v : Int) = ((v ||| u : Nat) : Int) ∧ l.foldl (fun v x => tb (k + 1) x v) (v : Int) = l.foldl (fun v x => tb k x v) (v : Int) := by
      intro l
      induction l with
      | nil => intro _; exact ⟨0, by decide, fun v _ => ⟨by simp, rfl⟩⟩
      | cons x l ihl =>
        intro hl
        rw [List.all_cons] at hl
        obtain ⟨h1, h2⟩ := Bool.and_eq_true_iff.1 hl
        obtain ⟨u1, b1, e1⟩ := ih x h1
        obtain ⟨u2, b2, e2⟩ := ihl h2
        refine ⟨u1 ||| u2, Nat.or_lt_two_pow (n := 16) b1 b2, fun v hv => ?_⟩
        have hv1 : v ||| u1 < 65536 := Nat.or_lt_two_pow (n := 16) hv b1
        rw [List.foldl_cons, List.foldl_cons, (e1 v hv).2, (e1 v hv).1, (e2 _ hv1).1, (e2 _ hv1).2, (e2 _ hv1).1, Nat.or_assoc]
        exact ⟨rfl, rfl⟩
    obtain ⟨u, bu, eu⟩ := hL e.f6 hl
    have hO : ∃ t : Nat, t < 65536 ∧ ∀ v : Nat, v < 65536 → orT e (v : Int) = ((v ||| t : Nat) : Int) := by
      by_cases h2 : e.f0 = 2
      · obtain ⟨r0, r1⟩ := own_rel ho h2
        obtain ⟨n, hn⟩ := Int.eq_ofNat_of_zero_le r0
        have hn16 : n ≤ 15 := by omega
        have hp : (2 : Nat) ^ n ≤ 2 ^ 15 := Nat.pow_le_pow_right (by decide) hn16
        refine ⟨2 ^ n, by omega, fun v hv => ?_⟩
        unfold orT
        rw [if_pos h2, hn, Int.toNat_natCast]
        have hw : wrap64 ((2 : Int) ^ n) = ((2 ^ n : Nat) : Int) := by
          have h2 : ((2 : Int) ^ n) = ((2 ^ n : Nat) : Int) := by simp
          rw [h2]
          clear h2
          generalize (2 : Nat) ^ n = q at hp ⊢
          exact w64_ (by omega) (by omega)
        rw [hw]
        exact (bits63 v (2 ^ n) (by omega) (by omega)).2
      · exact ⟨0, by decide, fun v _ => by unfold orT; rw [if_neg h2]; simp⟩
    obtain ⟨t, bt, et⟩ := hO
    refine ⟨t ||| u, Nat.or_lt_two_pow (n := 16) bt bu, fun v hv => ?_⟩
    have hv1 : v ||| t < 65536 := Nat.or_lt_two_pow (n := 16) hv bt
    constructor
    · show e.f6.foldl (fun v x => tb k x v) (orT e v) = _
      rw [et v hv, (eu _ hv1).1, Nat.or_assoc]
    · show e.f6.foldl (fun v x => tb (k + 1) x v) (orT e v) = e.f6.foldl (fun v x => tb k x v) (orT e v)
      rw [et v hv, (eu _ hv1).2]
/- A part of a right term is right. -/
theorem wk_shift : ∀ k e n, (wk k e n).2 = true → ∀ d n', n' + d = n → (wk (k + 1) e n').2 = true ∧ (wk (k + 1) e n').1 + d = (wk k e n).1 := by
  intro k
  induction k with
  | zero => intro e n h; cases h
  | succ k ih =>
    intro e n h d n' hd
    have hL : ∀ (l : List S46) n, (wkL (wk k) l n).2 = true → ∀ d n', n' + d = n → (wkL (wk (k + 1)) l n').2 = true ∧ (wkL (wk (k + 1)) l n').1 + d = (wkL (wk k) l n).1 := by
      intro l
      induction l with
      | nil => intro n _ d n' hd; exact ⟨rfl, hd⟩
      | cons x l ihl =>
        intro n h d n' hd
        unfold wkL at h ⊢
        split at h
        · rename_i hx
          obtain ⟨a1, a2⟩ := ih x n hx d n' hd
          rw [if_pos a1, if_pos hx]
          exact ihl _ h d _ a2
        · cases h
    rw [wk] at h ⊢
    split at h
    · cases h
    · rename_i hn
      rw [if_neg (by omega)]
      split at h
      · rename_i ho
        rw [if_pos ho]
        have := hL e.f6 (n + 1) h d (n' + 1) (by omega)
        rw [wk, if_neg hn, if_pos ho]
        exact this
      · cases h
theorem wkL_in {k : Nat} : ∀ (l : List S46) n, (wkL (wk k) l n).2 = true → ∀ x ∈ l, ∃ m, (wk k x m).2 = true := by
  intro l
  induction l with
  | nil => intro n _ x hx; cases hx
  | cons y l ih =>
    intro n h x hx
    unfold wkL at h
    split at h
    · rename_i hy
      rcases List.mem_cons.1 hx with rfl | hx
      · exact ⟨n, hy⟩
      · exact ih _ h x hx
    · cases h
theorem right_in {e x : S46} (h : rightX e = true) (hx : x ∈ e.f6) : rightX x = true ∧ okD 19 x = true := by
  unfold rightX at h
  rw [wk] at h
  split at h
  · cases h
  · split at h
    · obtain ⟨m, hm⟩ := wkL_in _ _ h x hx
      exact ⟨(wk_shift 19 x m hm m 0 (by omega)).1, wk_ok _ _ _ hm⟩
    · cases h
theorem mem_two46 {l : List S46} (hl : l.length = 2) : l = [rd_T46 l 0, rd_T46 l 1] := by
  match l, hl with
  | [x, y], _ => rfl
theorem eq_tables {L : List S46} {i : Int} {x : S46} (h : eqX L i = some x) : ∃ a b : Nat, a < 65536 ∧ b < 65536 ∧ tablesX (rd_T46 x.f6 0) = (a : Int) ∧ tablesX (rd_T46 x.f6 1) = (b : Int) ∧ tablesX x = ((a ||| b : Nat) : Int) := by
  obtain ⟨h9, hr⟩ := eqX_some h
  have hl := eq_two h
  have hz := mem_two46 hl
  have m0 : rd_T46 x.f6 0 ∈ x.f6 := by
    have : rd_T46 x.f6 0 ∈ [rd_T46 x.f6 0, rd_T46 x.f6 1] := List.mem_cons_self
    exact Eq.mpr (congrArg (fun l => rd_T46 x.f6 0 ∈ l) hz) this
  have m1 : rd_T46 x.f6 1 ∈ x.f6 := by
    have : rd_T46 x.f6 1 ∈ [rd_T46 x.f6 0, rd_T46 x.f6 1] := List.mem_cons_of_mem _ List.mem_cons_self
    exact Eq.mpr (congrArg (fun l => rd_T46 x.f6 1 ∈ l) hz) this
  obtain ⟨r0, o0⟩ := right_in hr m0
  obtain ⟨r1, o1⟩ := right_in hr m1
  obtain ⟨a, ba, ea⟩ := tb_or 19 _ o0
  obtain ⟨b, bb, eb⟩ := tb_or 19 _ o1
  refine ⟨a, b, ba, bb, ?_, ?_, ?_⟩
  · unfold tablesX
    rw [if_pos r0]
    have := ea 0 (by decide)
    rw [Nat.zero_or] at this
    exact this.2.trans this.1
  · unfold tablesX
    rw [if_pos r1]
    have := eb 0 (by decide)
    rw [Nat.zero_or] at this
    exact this.2.trans this.1
  · unfold tablesX
    rw [if_pos hr]
    have e1 : tb 20 x 0 = x.f6.foldl (fun v x => tb 19 x v) (orT x 0) := by rw [tb]
    have e2 : orT x 0 = ((0 : Nat) : Int) := by unfold orT; rw [if_neg (by omega)]; rfl
    have e3 : x.f6.foldl (fun v x => tb 19 x v) ((0 : Nat) : Int) = [rd_T46 x.f6 0, rd_T46 x.f6 1].foldl (fun v x => tb 19 x v) ((0 : Nat) : Int) := congrArg (fun l => List.foldl (fun v x => tb 19 x v) ((0 : Nat) : Int) l) hz
    rw [e1, e2, e3]
    have h0 := (ea 0 (by decide)).1
    rw [Nat.zero_or] at h0
    rw [List.foldl_cons, List.foldl_cons, List.foldl_nil, h0]
    exact (eb a ba).1
theorem joins_law {L : List S46} {i l r m : Int} (h : joinsX L i l r = true) (hl : l ≤ 9223372036854775807) (hr : r ≤ 9223372036854775807) (m0 : 0 ≤ m) (hm : m ≤ 9223372036854775807) :
    ∃ x, eqX L i = some x ∧ joinsX L i r l = true ∧ joinsX L i (Go.bits .or .i64 l m) r = true ∧ Go.bits .and .i64 (tablesX x) (Go.bits .or .i64 l r) = tablesX x ∧ Go.bits .and .i64 (tablesX x) l ≠ 0 ∧ Go.bits .and .i64 (tablesX x) r ≠ 0 := by
  unfold joinsX at h
  split at h
  · cases h
  rename_i x hx
  split at h
  · cases h
  rename_i l0
  split at h
  · cases h
  rename_i r0
  obtain ⟨a, b, ha, hb, ea, eb, et⟩ := eq_tables hx
  obtain ⟨ln, rfl⟩ := Int.eq_ofNat_of_zero_le (show 0 ≤ l by omega)
  obtain ⟨rn, rfl⟩ := Int.eq_ofNat_of_zero_le (show 0 ≤ r by omega)
  obtain ⟨mn, rfl⟩ := Int.eq_ofNat_of_zero_le m0
  have hl63 : ln < 2 ^ 63 := by omega
  have hr63 : rn < 2 ^ 63 := by omega
  have hm63 : mn < 2 ^ 63 := by omega
  have ha63 : a < 2 ^ 63 := by omega
  have hb63 : b < 2 ^ 63 := by omega
  have hlm : ln ||| mn < 2 ^ 63 := Nat.or_lt_two_pow hl63 hm63
  have hlr : ln ||| rn < 2 ^ 63 := Nat.or_lt_two_pow hl63 hr63
  have hab : a ||| b < 2 ^ 63 := Nat.or_lt_two_pow ha63 hb63
  have eE : ∀ s t : Int, joinsE x s t = ((inB (a : Int) s && inB (b : Int) t) || (inB (a : Int) t && inB (b : Int) s)) := fun s t => by unfold joinsE; rw [ea, eb]
  have eJ : ∀ s t : Nat, joinsE x (s : Int) (t : Int) = true → joinsX L i (s : Int) (t : Int) = true := fun s t h => by unfold joinsX; rw [hx]; show (if _ then _ else _) = _; rw [if_neg (by omega), if_neg (by omega)]; exact h
  have hw : (a ≠ 0 ∧ a &&& ln = a) ∧ (b ≠ 0 ∧ b &&& rn = b) ∨ (a ≠ 0 ∧ a &&& rn = a) ∧ (b ≠ 0 ∧ b &&& ln = b) := by
    rw [eE] at h
    rcases Bool.or_eq_true_iff.1 h with h | h
    · obtain ⟨p, q⟩ := Bool.and_eq_true_iff.1 h
      exact Or.inl ⟨(inB_nat a ln ha63 hl63).1 p, (inB_nat b rn hb63 hr63).1 q⟩
    · obtain ⟨p, q⟩ := Bool.and_eq_true_iff.1 h
      exact Or.inr ⟨(inB_nat a rn ha63 hr63).1 p, (inB_nat b ln hb63 hl63).1 q⟩
  refine ⟨x, hx, ?_, ?_, ?_⟩
  · apply eJ
    rw [eE, Bool.or_comm]
    rw [eE] at h
    exact h
  · rw [(bits63 ln mn hl63 hm63).2]
    apply eJ
    rw [eE]
    rcases hw with ⟨⟨p1, p2⟩, ⟨q1, q2⟩⟩ | ⟨⟨p1, p2⟩, ⟨q1, q2⟩⟩
    · rw [(inB_nat a _ ha63 hlm).2 ⟨p1, sub_or p2⟩, (inB_nat b rn hb63 hr63).2 ⟨q1, q2⟩]; rfl
    · rw [(inB_nat a rn ha63 hr63).2 ⟨p1, p2⟩, (inB_nat b _ hb63 hlm).2 ⟨q1, sub_or q2⟩, Bool.or_comm]; rfl
  · rw [et, (bits63 ln rn hl63 hr63).2, (bits63 (a ||| b) (ln ||| rn) hab hlr).1, (bits63 (a ||| b) ln hab hl63).1, (bits63 (a ||| b) rn hab hr63).1]
    rcases hw with ⟨⟨p1, p2⟩, ⟨q1, q2⟩⟩ | ⟨⟨p1, p2⟩, ⟨q1, q2⟩⟩
    · have e1 : (a ||| b) &&& (ln ||| rn) = a ||| b := or_sub (sub_or p2) (by rw [Nat.or_comm]; exact sub_or q2)
      have e2 := or_meets (b := b) p1 p2
      have e3 := or_meets (b := a) q1 q2
      rw [Nat.or_comm] at e3
      exact ⟨by rw [e1], by omega, by omega⟩
    · have e1 : (a ||| b) &&& (ln ||| rn) = a ||| b := or_sub (by rw [Nat.or_comm]; exact sub_or p2) (sub_or q2)
      have e2 := or_meets (b := b) p1 p2
      have e3 := or_meets (b := a) q1 q2
      rw [Nat.or_comm] at e3
      exact ⟨by rw [e1], by omega, by omega⟩
theorem eqX_at {L : List S46} {i : Int} {x : S46} (h : eqX L i = some x) : 0 ≤ i ∧ i < (L.length : Int) ∧ rd_T46 L i = x ∧ x.f0 = 9 := by
  have h9 := (eqX_some h).1
  unfold eqX at h
  split at h
  · rename_i h1
    injection h with h
    exact ⟨h1.1, h1.2.1, h, h9⟩
  · cases h
set_option maxRecDepth 8000 in
set_option maxHeartbeats 8000000 in
theorem joins_row (W : World) (b : BV) (L : List S46) (i left right more : Int) (hn : b.n4 = L.length) (hL : k46.C W b.A4 b.n4 L) (wi : (Lit.int .i64 i).wf = true) (wl : (Lit.int .i64 left).wf = true) (wr : (Lit.int .i64 right).wf = true) (wm : (Lit.int .i64 more).wf = true) :
    Calls Tryd.prog 6 #[b.enc, .int .i64 i, .int .i64 left, .int .i64 right, .int .i64 more] W fun e_ w' => e_ = .returned (.bool true) ∧ Below W.heap.size W w' := by
  have hu26 := Tryd.underlying26
  have hu46 := Tryd.underlying46
  have il := i64_bd wl
  have ir := i64_bd wr
  have im := i64_bd wm
  clear wi wl wr wm
  have HLc := Aside0.mk hL
  obtain ⟨r, hr⟩ : ∃ r, r = joinsX L i left right := ⟨_, rfl⟩
  have J1 : Aside0 (∀ w', Below W.heap.size W w' → Calls Tryd.prog 12 #[b.enc, .int .i64 i, .int .i64 left, .int .i64 right] w' fun e_ w'' => e_ = .returned (.bool r) ∧ Below w'.heap.size w' w'') := ⟨fun w' hb => by rw [hr]; exact joins12 b L i left right w' hn (Kd.C_below hL hb)⟩
  rcases r with _ | _
  · clear hr hL hn il ir im
    unfold BV.enc
    go_enter Tryd.func6, Tryd.ntmps6
    go_wp2_with (first | ((with_reducible refine gate_dst (N := 5) rfl ?_); refine box_event ?hg (N := 5) ?hd (cs := b.cells) (t := 26) ?hr ?_; (case hd => rfl); (case hg => rfl); (case hr => unfold BV.cells; first | (go_simp; done) | (go_simp; rfl)); intro gb hg1 w1 hbox hb; have BB1 := Aside0.mk hbox; have HB1 := Aside0.mk hb; clear hbox hb hg1) | (go_at_call 9; refine (examples9 _).mono ?_; rintro e_ w3 ⟨rfl, hb3⟩; have HB3 := Aside0.mk (bst HB1.out hb3); have BB3 := Aside0.mk ((hb3.block gb (blk_lt BB1.out)).trans BB1.out); clear hb3; have b0 := (blk_cell BB3.out 0).trans (rfl : _ = some (Value.slice b.A0 b.n0 b.c0)); have b1 := (blk_cell BB3.out 1).trans (rfl : _ = some (Value.int .i64 b.core)); have b2 := (blk_cell BB3.out 2).trans (rfl : _ = some (Value.slice b.A2 b.n2 b.c2)); have b3 := (blk_cell BB3.out 3).trans (rfl : _ = some (Value.slice b.A3 b.n3 b.c3)); have b4 := (blk_cell BB3.out 4).trans (rfl : _ = some (Value.slice b.A4 b.n4 b.c4)); have b5 := (blk_cell BB3.out 5).trans (rfl : _ = some (Value.slice b.A5 b.n5 b.c5)); have b6 := (blk_cell BB3.out 6).trans (rfl : _ = some (Value.slice b.A6 b.n6 b.c6)); have b7 := (blk_cell BB3.out 7).trans (rfl : _ = some (Value.bool b.g7)); have b8 := (blk_cell BB3.out 8).trans (rfl : _ = some (Value.slice b.A8 b.n8 b.c8)); have b9 := (blk_cell BB3.out 9).trans (rfl : _ = some (Value.slice b.A9 b.n9 b.c9)); have b10 := (blk_cell BB3.out 10).trans (rfl : _ = some (Value.bool b.d10))) | (go_at_call 12; have H12 := J1.out _ HB3.out; refine H12.mono ?_; clear H12; rintro e_ w4 ⟨rfl, hb4⟩; have HB4 := Aside0.mk (bst HB3.out hb4); have BB4 := Aside0.mk ((hb4.block gb (blk_lt BB3.out)).trans BB3.out); clear hb4 HB3 b0 b1 b2 b3 b4 b5 b6 b7 b8 b9 b10))
    go_ret
    exact ⟨rfl, HB4.out⟩
  · have HMM : Aside0 (∀ m : Int, 0 ≤ m → m ≤ 9223372036854775807 → ∃ x, eqX L i = some x ∧ joinsX L i right left = true ∧ joinsX L i (Go.bits .or .i64 left m) right = true ∧ Go.bits .and .i64 (tablesX x) (Go.bits .or .i64 left right) = tablesX x ∧ Go.bits .and .i64 (tablesX x) left ≠ 0 ∧ Go.bits .and .i64 (tablesX x) right ≠ 0) := ⟨fun m m0 hm => joins_law hr.symm il.2 ir.2 m0 hm⟩
    have HIM := Aside0.mk im
    obtain ⟨x0, hx0, _⟩ := HMM.out 0 (by decide) (by decide)
    obtain ⟨h0, hl, hrd, h9⟩ := eqX_at hx0
    have hL2 : k46.C W b.A4 L.length L := by rw [← hn]; exact hL
    obtain ⟨ad, Ae, ce, e0, y0, y1, y2, y3, y4, y5, y6, y7, y8, _, g8⟩ := at_T46 hL2 i h0 hl
    rw [hrd] at y0 y1 y2 y3 y4 y5 y6 y7 y8 g8
    have HG8 := Aside0.mk g8
    have HX0 := Aside0.mk hx0
    have H9 : Aside0 (x0.f0 = 9) := ⟨h9⟩
    have HY := Aside0.mk (And.intro y0 (And.intro y1 (And.intro y2 (And.intro y3 (And.intro y4 (And.intro y5 (And.intro y6 (And.intro y7 y8))))))))
    have HCL : Aside0 (∀ w', Below W.heap.size W w' → ∀ s t : Int, joinsX L i s t = true → Calls Tryd.prog 12 #[b.enc, .int .i64 i, .int .i64 s, .int .i64 t] w' fun e_ w'' => e_ = .returned (.bool true) ∧ Below w'.heap.size w' w'') := ⟨fun w' hb s t hj => by have h := joins12 b L i s t w' hn (Kd.C_below hL hb); rw [hj] at h; exact h⟩
    have hlt0 : decide (i < 0) = false := decide_eq_false (by omega)
    have hge0 : decide (i ≥ (L.length : Int)) = false := decide_eq_false (by omega)
    clear hr hL hL2 il ir im y0 y1 y2 y3 y4 y5 y6 y7 y8 g8 hx0 h9 hrd HLc
    rcases b with ⟨A0, n0, c0, core, A2, n2, c2, A3, n3, c3, A4, n4, c4, A5, n5, c5, A6, n6, c6, g7, A8, n8, c8, A9, n9, c9, d10⟩
    dsimp only at hn e0
    subst hn
    subst e0
    unfold BV.enc
    dsimp only
    go_enter Tryd.func6, Tryd.ntmps6
    go_upto_if 22 with (first | ((with_reducible refine gate_dst (N := 5) rfl ?_); refine box_event ?hg (N := 5) ?hd (cs := (BV.cells ⟨A0, n0, c0, core, A2, n2, c2, A3, n3, c3, some ad, L.length, c4, A5, n5, c5, A6, n6, c6, g7, A8, n8, c8, A9, n9, c9, d10⟩)) (t := 26) ?hr ?_; (case hd => rfl); (case hg => rfl); (case hr => unfold BV.cells; first | (go_simp; done) | (go_simp; rfl)); intro gb hg1 w1 hbox hb; have BB1 := Aside0.mk hbox; have HB1 := Aside0.mk hb; clear hbox hb hg1) | (go_at_call 9; refine (examples9 _).mono ?_; rintro e_ w3 ⟨rfl, hb3⟩; have HB3 := Aside0.mk (bst HB1.out hb3); have BB3 := Aside0.mk ((hb3.block gb (blk_lt BB1.out)).trans BB1.out); clear hb3; have b0 := (blk_cell BB3.out 0).trans (rfl : _ = some (Value.slice A0 n0 c0)); have b1 := (blk_cell BB3.out 1).trans (rfl : _ = some (Value.int .i64 core)); have b2 := (blk_cell BB3.out 2).trans (rfl : _ = some (Value.slice A2 n2 c2)); have b3 := (blk_cell BB3.out 3).trans (rfl : _ = some (Value.slice A3 n3 c3)); have b4 := (blk_cell BB3.out 4).trans (rfl : _ = some (Value.slice (some ad) L.length c4)); have b5 := (blk_cell BB3.out 5).trans (rfl : _ = some (Value.slice A5 n5 c5)); have b6 := (blk_cell BB3.out 6).trans (rfl : _ = some (Value.slice A6 n6 c6)); have b7 := (blk_cell BB3.out 7).trans (rfl : _ = some (Value.bool g7)); have b8 := (blk_cell BB3.out 8).trans (rfl : _ = some (Value.slice A8 n8 c8)); have b9 := (blk_cell BB3.out 9).trans (rfl : _ = some (Value.slice A9 n9 c9)); have b10 := (blk_cell BB3.out 10).trans (rfl : _ = some (Value.bool d10))) | (go_at_call 12; have H12 := J1.out _ HB3.out; refine H12.mono ?_; clear H12; rintro e_ w4 ⟨rfl, hb4⟩; have HB4 := Aside0.mk (bst HB3.out hb4); have BB4 := Aside0.mk ((hb4.block gb (blk_lt BB3.out)).trans BB3.out); clear hb4 HB3 b0 b1 b2 b3 b4 b5 b6 b7 b8 b9 b10))
    go_cut [4] (fun s4 wx => ∃ m : Int, s4 = .int .i64 m ∧ Aside0 (0 ≤ m ∧ m ≤ 9223372036854775807) ∧ w4 = wx)
    case first =>
      as_aux_lemma =>
        by_cases qm : more < 0
        · have hw1 : wrap64 (more + 1) = more + 1 := w64_ (by have := HIM.out; omega) (by omega)
          have hw2 : wrap64 (-(more + 1)) = -(more + 1) := w64_ (by omega) (by have := HIM.out; omega)
          have HM : Aside0 (0 ≤ wrap64 (-(more + 1)) ∧ wrap64 (-(more + 1)) ≤ 9223372036854775807) := ⟨by rw [hw2]; have := HIM.out; omega⟩
          go_wp2_with fail
          go_meet
          exact ⟨_, rfl, HM, rfl⟩
        · have HM : Aside0 (0 ≤ more ∧ more ≤ 9223372036854775807) := ⟨by have := HIM.out; omega⟩
          go_wp2_with fail
          go_meet
          exact ⟨_, rfl, HM, rfl⟩
    case rest =>
    obtain ⟨m, rfl, HM, rfl⟩ := hcut
    obtain ⟨x, hx, hj1, hj2, ht1, ht2, ht3⟩ := HMM.out m HM.out.1 HM.out.2
    have hxe : x = x0 := Option.some.inj (hx.symm.trans HX0.out)
    subst hxe
    have HJ1 := Aside0.mk hj1
    have HJ2 := Aside0.mk hj2
    have q1 : (Go.bits .and .i64 (tablesX x) (Go.bits .or .i64 left right) == tablesX x) = true := beq_iff_eq.2 ht1
    have q2 : (Go.bits .and .i64 (tablesX x) left != 0) = true := bne_iff_ne.2 ht2
    have q3 : (Go.bits .and .i64 (tablesX x) right != 0) = true := bne_iff_ne.2 ht3
    have q9 : (x.f0 == 9) = true := beq_iff_eq.2 H9.out
    clear hx hj1 hj2 ht1 ht2 ht3 HX0 HMM
    have b0 := (blk_cell BB4.out 0).trans (rfl : _ = some (Value.slice A0 n0 c0))
    have b1 := (blk_cell BB4.out 1).trans (rfl : _ = some (Value.int .i64 core))
    have b2 := (blk_cell BB4.out 2).trans (rfl : _ = some (Value.slice A2 n2 c2))
    have b3 := (blk_cell BB4.out 3).trans (rfl : _ = some (Value.slice A3 n3 c3))
    have b4 := (blk_cell BB4.out 4).trans (rfl : _ = some (Value.slice (some ad) L.length c4))
    have b5 := (blk_cell BB4.out 5).trans (rfl : _ = some (Value.slice A5 n5 c5))
    have b6 := (blk_cell BB4.out 6).trans (rfl : _ = some (Value.slice A6 n6 c6))
    have b7 := (blk_cell BB4.out 7).trans (rfl : _ = some (Value.bool g7))
    have b8 := (blk_cell BB4.out 8).trans (rfl : _ = some (Value.slice A8 n8 c8))
    have b9 := (blk_cell BB4.out 9).trans (rfl : _ = some (Value.slice A9 n9 c9))
    have b10 := (blk_cell BB4.out 10).trans (rfl : _ = some (Value.bool d10))
    have y0 := cells_later HB4.out HY.out.1
    have y1 := cells_later HB4.out HY.out.2.1
    have y2 := cells_later HB4.out HY.out.2.2.1
    have y3 := cells_later HB4.out HY.out.2.2.2.1
    have y4 := cells_later HB4.out HY.out.2.2.2.2.1
    have y5 := cells_later HB4.out HY.out.2.2.2.2.2.1
    have y6 := cells_later HB4.out HY.out.2.2.2.2.2.2.1
    have y7 := cells_later HB4.out HY.out.2.2.2.2.2.2.2.1
    have y8 := cells_later HB4.out HY.out.2.2.2.2.2.2.2.2
    go_wp2_with (first | (go_at_call 19; have H19 := tables19 x Ae ce w4 (Kd.C_below HG8.out HB4.out); refine H19.mono ?_; clear H19; rintro e_ w6 ⟨rfl, hb6⟩; have HB6 := Aside0.mk (bst HB4.out hb6); have BB6 := Aside0.mk ((hb6.block gb (blk_lt BB4.out)).trans BB4.out); clear hb6 b0 b1 b2 b3 b4 b5 b6 b7 b8 b9 b10 y0 y1 y2 y3 y4 y5 y6 y7 y8; have b0 := (blk_cell BB6.out 0).trans (rfl : _ = some (Value.slice A0 n0 c0)); have b1 := (blk_cell BB6.out 1).trans (rfl : _ = some (Value.int .i64 core)); have b2 := (blk_cell BB6.out 2).trans (rfl : _ = some (Value.slice A2 n2 c2)); have b3 := (blk_cell BB6.out 3).trans (rfl : _ = some (Value.slice A3 n3 c3)); have b4 := (blk_cell BB6.out 4).trans (rfl : _ = some (Value.slice (some ad) L.length c4)); have b5 := (blk_cell BB6.out 5).trans (rfl : _ = some (Value.slice A5 n5 c5)); have b6 := (blk_cell BB6.out 6).trans (rfl : _ = some (Value.slice A6 n6 c6)); have b7 := (blk_cell BB6.out 7).trans (rfl : _ = some (Value.bool g7)); have b8 := (blk_cell BB6.out 8).trans (rfl : _ = some (Value.slice A8 n8 c8)); have b9 := (blk_cell BB6.out 9).trans (rfl : _ = some (Value.slice A9 n9 c9)); have b10 := (blk_cell BB6.out 10).trans (rfl : _ = some (Value.bool d10))) | (go_at_call 12; have H12 := HCL.out w6 HB6.out right left HJ1.out; refine H12.mono ?_; clear H12; rintro e_ w7 ⟨rfl, hb7⟩; have HB7 := Aside0.mk (bst HB6.out hb7); have BB7 := Aside0.mk ((hb7.block gb (blk_lt BB6.out)).trans BB6.out); clear hb7 HJ1 b0 b1 b2 b3 b4 b5 b6 b7 b8 b9 b10; have b0 := (blk_cell BB7.out 0).trans (rfl : _ = some (Value.slice A0 n0 c0)); have b1 := (blk_cell BB7.out 1).trans (rfl : _ = some (Value.int .i64 core)); have b2 := (blk_cell BB7.out 2).trans (rfl : _ = some (Value.slice A2 n2 c2)); have b3 := (blk_cell BB7.out 3).trans (rfl : _ = some (Value.slice A3 n3 c3)); have b4 := (blk_cell BB7.out 4).trans (rfl : _ = some (Value.slice (some ad) L.length c4)); have b5 := (blk_cell BB7.out 5).trans (rfl : _ = some (Value.slice A5 n5 c5)); have b6 := (blk_cell BB7.out 6).trans (rfl : _ = some (Value.slice A6 n6 c6)); have b7 := (blk_cell BB7.out 7).trans (rfl : _ = some (Value.bool g7)); have b8 := (blk_cell BB7.out 8).trans (rfl : _ = some (Value.slice A8 n8 c8)); have b9 := (blk_cell BB7.out 9).trans (rfl : _ = some (Value.slice A9 n9 c9)); have b10 := (blk_cell BB7.out 10).trans (rfl : _ = some (Value.bool d10))) | (go_at_call 12; have H12 := HCL.out w7 HB7.out (Go.bits .or .i64 left m) right HJ2.out; refine H12.mono ?_; clear H12; rintro e_ w8 ⟨rfl, hb8⟩; have HB8 := Aside0.mk (bst HB7.out hb8); have BB8 := Aside0.mk ((hb8.block gb (blk_lt BB7.out)).trans BB7.out); clear hb8 HJ2 b0 b1 b2 b3 b4 b5 b6 b7 b8 b9 b10; have b0 := (blk_cell BB8.out 0).trans (rfl : _ = some (Value.slice A0 n0 c0)); have b1 := (blk_cell BB8.out 1).trans (rfl : _ = some (Value.int .i64 core)); have b2 := (blk_cell BB8.out 2).trans (rfl : _ = some (Value.slice A2 n2 c2)); have b3 := (blk_cell BB8.out 3).trans (rfl : _ = some (Value.slice A3 n3 c3)); have b4 := (blk_cell BB8.out 4).trans (rfl : _ = some (Value.slice (some ad) L.length c4)); have b5 := (blk_cell BB8.out 5).trans (rfl : _ = some (Value.slice A5 n5 c5)); have b6 := (blk_cell BB8.out 6).trans (rfl : _ = some (Value.slice A6 n6 c6)); have b7 := (blk_cell BB8.out 7).trans (rfl : _ = some (Value.bool g7)); have b8 := (blk_cell BB8.out 8).trans (rfl : _ = some (Value.slice A8 n8 c8)); have b9 := (blk_cell BB8.out 9).trans (rfl : _ = some (Value.slice A9 n9 c9)); have b10 := (blk_cell BB8.out 10).trans (rfl : _ = some (Value.bool d10)); have y0 := cells_later HB8.out HY.out.1; have y1 := cells_later HB8.out HY.out.2.1; have y2 := cells_later HB8.out HY.out.2.2.1; have y3 := cells_later HB8.out HY.out.2.2.2.1; have y4 := cells_later HB8.out HY.out.2.2.2.2.1; have y5 := cells_later HB8.out HY.out.2.2.2.2.2.1; have y6 := cells_later HB8.out HY.out.2.2.2.2.2.2.1; have y7 := cells_later HB8.out HY.out.2.2.2.2.2.2.2.1; have y8 := cells_later HB8.out HY.out.2.2.2.2.2.2.2.2))
    go_ret
    exact ⟨rfl, HB8.out⟩

end Go.Proofs.YtmnjaihalajhcaaDoor.QPlanConds
