-- Written by wip/tools/myprint.py of this project (the kit's printer with lines replaced in memory, and texts of ours)
import Derived.Test.YtihfljdcmncicaaQValueBackx0
import Derived.Test.YtihfljdcmncicaaQValueBackx3
namespace Go.Proofs.Ytihfljdcmncicaa.QValueBack
open Go.RowKit Go.Proofs.YtihfljdcmncicaaW.PrintWords Go.Proofs.YtihfljdcmncicaaW.PrintLast Go.Proofs.YtihfljdcmncicaaW.PrintMore
attribute [local go_sem] max2_int min2_int max_two min_two max_three min_three max_four min_four   -- for this text's walks alone
set_option linter.unusedVariables false
set_option linter.unusedSimpArgs false

/-! ### bits_Mul64: function 46 -/
def bits_Mul64.f (a0 : Int) (a1 : Int) : Option (Int × Int) := some (IntKind.u64.wrap ((IntKind.u64.wrap ((IntKind.u64.wrap ((a0 / 4294967296) * (a1 / 4294967296))) + ((IntKind.u64.wrap ((IntKind.u64.wrap ((a0 / 4294967296) * (Go.bits .and .u64 a1 4294967295))) + ((IntKind.u64.wrap ((Go.bits .and .u64 a0 4294967295) * (Go.bits .and .u64 a1 4294967295))) / 4294967296))) / 4294967296))) + ((IntKind.u64.wrap ((Go.bits .and .u64 (IntKind.u64.wrap ((IntKind.u64.wrap ((a0 / 4294967296) * (Go.bits .and .u64 a1 4294967295))) + ((IntKind.u64.wrap ((Go.bits .and .u64 a0 4294967295) * (Go.bits .and .u64 a1 4294967295))) / 4294967296))) 4294967295) + (IntKind.u64.wrap ((Go.bits .and .u64 a0 4294967295) * (a1 / 4294967296))))) / 4294967296)), IntKind.u64.wrap (a0 * a1))
set_option maxHeartbeats 8000000 in
set_option maxRecDepth 100000 in
theorem bits_Mul64.calls (a0 : Int) (a1 : Int) (r1 : Int) (r2 : Int) (w : World) (h : bits_Mul64.f a0 a1 = some (r1, r2)) :
    Calls Try.prog 46 #[.int .u64 a0, .int .u64 a1] w fun e w' => e = .returned (.tuple #[.int .u64 r1, .int .u64 r2]) ∧ Drawn0 w w' := by
  have H : (some (IntKind.u64.wrap ((IntKind.u64.wrap ((IntKind.u64.wrap ((a0 / 4294967296) * (a1 / 4294967296))) + ((IntKind.u64.wrap ((IntKind.u64.wrap ((a0 / 4294967296) * (Go.bits .and .u64 a1 4294967295))) + ((IntKind.u64.wrap ((Go.bits .and .u64 a0 4294967295) * (Go.bits .and .u64 a1 4294967295))) / 4294967296))) / 4294967296))) + ((IntKind.u64.wrap ((Go.bits .and .u64 (IntKind.u64.wrap ((IntKind.u64.wrap ((a0 / 4294967296) * (Go.bits .and .u64 a1 4294967295))) + ((IntKind.u64.wrap ((Go.bits .and .u64 a0 4294967295) * (Go.bits .and .u64 a1 4294967295))) / 4294967296))) 4294967295) + (IntKind.u64.wrap ((Go.bits .and .u64 a0 4294967295) * (a1 / 4294967296))))) / 4294967296)), IntKind.u64.wrap (a0 * a1))) = some (r1, r2) := h
  clear h
  simp only [Option.some.injEq, Prod.mk.injEq] at H
  obtain ⟨rfl, rfl⟩ := H
  go_enter Try.func46, Try.ntmps46
  go_wp2
  go_ret2
  exact ⟨by first | rfl | (simp; done) | (simp [*]; done), by repeat (first | exact Drawn0.refl _ | apply Drawn0.step)⟩

/-! ### value_size: function 47 -/
def value_size.f (a0 : Int) : Option (Int) := if a0 < 0 then (some (IntKind.u64.wrap (-(IntKind.u64.wrap (a0))))) else (some (IntKind.u64.wrap (a0)))
set_option maxHeartbeats 8000000 in
set_option maxRecDepth 100000 in
theorem value_size.calls (a0 : Int) (r : Int) (w : World) (h : value_size.f a0 = some r) :
    Calls Try.prog 47 #[.int .i64 a0] w fun e w' => e = .returned (.int .u64 r) ∧ Drawn0 w w' := by
  have H : (if a0 < 0 then (some (IntKind.u64.wrap (-(IntKind.u64.wrap (a0))))) else (some (IntKind.u64.wrap (a0)))) = some r := h
  clear h
  by_cases c2 : a0 < 0
  · rw [if_pos c2] at H
    have c2b0 : decide (a0 < 0) = true := decide_eq_true c2
    clear c2
    obtain rfl := Option.some.inj H
    go_enter Try.func47, Try.ntmps47
    go_wp2
    go_ret
    exact ⟨by first | rfl | (simp; done) | (simp [*]; done), by repeat (first | exact Drawn0.refl _ | apply Drawn0.step)⟩
  · rw [if_neg c2] at H
    have c2b0 : decide (a0 < 0) = false := decide_eq_false c2
    clear c2
    obtain rfl := Option.some.inj H
    go_enter Try.func47, Try.ntmps47
    go_wp2
    go_ret
    exact ⟨by first | rfl | (simp; done) | (simp [*]; done), by repeat (first | exact Drawn0.refl _ | apply Drawn0.step)⟩

/-! ### value_Mul: function 27 -/
def mulRest (hi lo : Int) (below : Bool) : Int × Int × ByteArray × Int := if hi ≠ 0 ∨ 9223372036854775808 < lo ∨ (lo = 9223372036854775808 ∧ below = false) then (0, 0, (⟨#[]⟩ : ByteArray), 3) else (1, wrap64 (if below = true then IntKind.u64.wrap (-lo) else lo), (⟨#[]⟩ : ByteArray), 0)
def value_Mul.f (k : Nat) (a0_0 : Int) (a0_1 : Int) (a0_2 : ByteArray) (a1_0 : Int) (a1_1 : Int) (a1_2 : ByteArray) : Option (Int × Int × ByteArray × Int) :=
  (value_null.f k 1 [(⟨a0_0, a0_1, a0_2⟩ : S23), ⟨a1_0, a1_1, a1_2⟩]).bind fun p => if p.2 = true then some (0, 0, (⟨#[]⟩ : ByteArray), p.1) else (value_size.f a0_1).bind fun x => (value_size.f a1_1).bind fun y => (bits_Mul64.f x y).bind fun q => some (mulRest q.1 q.2 (decide (a0_1 < 0) != decide (a1_1 < 0)))
theorem value_Mul.mono : ∀ a0 a1 a2 a3 a4 a5 k, LeO (value_Mul.f k a0 a1 a2 a3 a4 a5) (value_Mul.f (k + 1) a0 a1 a2 a3 a4 a5) := by
  intro a0 a1 a2 a3 a4 a5 k
  unfold value_Mul.f
  exact LeO.bind (value_null.mono _ _ _) (fun _ => LeO.refl _)
theorem value_Mul.nr (n : Int) (w : World) : Calls Try.prog 45 #[.int .i64 n] w fun e w' => e = .returned (.agg #[.int .i64 1, .int .i64 n, .string (⟨#[]⟩ : ByteArray)]) ∧ Below w.heap.size w w' := value_number.calls n 1 _ _ w rfl
theorem value_Mul.over {hi lo : Int} {c : Bool} (h : hi ≠ 0 ∨ 9223372036854775808 < lo ∨ (lo = 9223372036854775808 ∧ c = false)) : mulRest hi lo c = (0, 0, (⟨#[]⟩ : ByteArray), 3) := if_pos h
theorem value_Mul.okay {hi lo : Int} {c d : Bool} (hc : c = d) (h : ¬ (hi ≠ 0 ∨ 9223372036854775808 < lo ∨ (lo = 9223372036854775808 ∧ d = false))) : mulRest hi lo c = (1, wrap64 (if d = true then IntKind.u64.wrap (-lo) else lo), (⟨#[]⟩ : ByteArray), 0) := by subst hc; exact if_neg h
theorem value_Mul.b0 {a b : Bool} (h : (a == b) = true) : (a != b) = false := by cases a <;> cases b <;> first | rfl | simp at h
theorem value_Mul.b1 {a b : Bool} (h : (!(a == b)) = true) : (a != b) = true := by cases a <;> cases b <;> first | rfl | simp at h
theorem value_Mul.b2 {a b : Bool} (h : (!(a == b)) = false) : (a != b) = false := by cases a <;> cases b <;> first | rfl | simp at h
theorem value_Mul.b3 {a b : Bool} (h : (a == b) = false) (h2 : (!(a == b)) = false) : False := by cases a <;> cases b <;> simp at h h2
theorem value_Mul.ce {w w1 : World} {p : Addr} {v : Value} (hb : Below w.heap.size w w1) (h : w.cell? p = some v) : w1.cell? p = some v := (hb.cell (World.block_lt_of_cell? w _ h)).trans h
theorem value_Mul.bl {W w w1 : World} (hb : Below w.heap.size w w1) (h : Aside0 (Below W.heap.size W w)) : Aside0 (Below W.heap.size W w1) := ⟨below_step h.out hb⟩
theorem value_Mul.cl {w w1 : World} {g : Nat} {f : Nat → Option Value} (hb : Below w.heap.size w w1) (hg : g < w.heap.size) (h : ∀ o, w.cell? ⟨g, o, none⟩ = f o) : ∀ o, w1.cell? ⟨g, o, none⟩ = f o := fun o => ((bcell_ hb).1 g o hg).trans (h o)
theorem value_Mul.fl {w w1 : World} {g : Nat} (hb : Below w.heap.size w w1) (hg : g < w.heap.size) (h : ∀ o, w.frozen? ⟨g, o, none⟩ = false) : ∀ o, w1.frozen? ⟨g, o, none⟩ = false := fun o => ((bcell_ hb).2 g o hg).trans (h o)
theorem value_Mul.keep {w w' w2 : World} {a0_1 a1_1 : Int} (h : w'.cell? ⟨w.heap.size, 1, none⟩ = some (.int .i64 a0_1) ∧ w'.cell? ⟨w.heap.size + 1, 1, none⟩ = some (.int .i64 a1_1) ∧ (∀ o, w'.cell? ⟨w.heap.size + 1 + 1, o, none⟩ = #[Value.int .i64 0, .int .i64 0, .string (⟨#[]⟩ : ByteArray)][o]?) ∧ (∀ o, w'.frozen? ⟨w.heap.size + 1 + 1, o, none⟩ = false) ∧ w.heap.size + 1 + 1 + 1 + 1 ≤ w'.heap.size ∧ Aside0 (Below w.heap.size w w')) (hb : Below w'.heap.size w' w2) : w2.cell? ⟨w.heap.size, 1, none⟩ = some (.int .i64 a0_1) ∧ w2.cell? ⟨w.heap.size + 1, 1, none⟩ = some (.int .i64 a1_1) ∧ (∀ o, w2.cell? ⟨w.heap.size + 1 + 1, o, none⟩ = #[Value.int .i64 0, .int .i64 0, .string (⟨#[]⟩ : ByteArray)][o]?) ∧ (∀ o, w2.frozen? ⟨w.heap.size + 1 + 1, o, none⟩ = false) ∧ w.heap.size + 1 + 1 + 1 + 1 ≤ w2.heap.size ∧ Aside0 (Below w.heap.size w w2) := ⟨value_Mul.ce hb h.1, value_Mul.ce hb h.2.1, value_Mul.cl hb (by have := h.2.2.2.2.1; omega) h.2.2.1, value_Mul.fl hb (by have := h.2.2.2.2.1; omega) h.2.2.2.1, Nat.le_trans h.2.2.2.2.1 hb.size, value_Mul.bl hb h.2.2.2.2.2⟩
theorem value_Mul.bd {W w' : World} (hb : Below W.drew.heap.size W.drew w') : Below W.heap.size W w' := below_step (below_drew1 (Below.refl _ _)) hb
set_option maxHeartbeats 2000000 in
theorem value_Mul.calls (k : Nat) (a0_0 : Int) (a0_1 : Int) (a0_2 : ByteArray) (a1_0 : Int) (a1_1 : Int) (a1_2 : ByteArray) (r1 : Int) (r2 : Int) (r3 : ByteArray) (r4 : Int) (w : World) (h : value_Mul.f k a0_0 a0_1 a0_2 a1_0 a1_1 a1_2 = some (r1, r2, r3, r4)) :
    Calls Try.prog 27 #[.agg #[.int .i64 a0_0, .int .i64 a0_1, .string a0_2], .agg #[.int .i64 a1_0, .int .i64 a1_1, .string a1_2]] w fun e w' => e = .returned (.tuple #[.agg #[.int .i64 r1, .int .i64 r2, .string r3], .int .i64 r4]) ∧ Below w.heap.size w w' := by
  have hu := Try.underlying23
  unfold value_Mul.f at h
  obtain ⟨⟨e0, ok⟩, hN, H⟩ := Option.bind_eq_some_iff.mp h
  clear h
  have HN := Aside0.mk hN
  clear hN
  cases ok with
  | true =>
    simp only [if_pos, Option.some.injEq, Prod.mk.injEq] at H
    obtain ⟨rfl, rfl, rfl, rfl⟩ := H
    go_enter Try.func27, Try.ntmps27
    go_wp2_with (first | (go_at_call 40; refine (value_null.calls k 1 _ _ [(⟨a0_0, a0_1, a0_2⟩ : S23), ⟨a1_0, a1_1, a1_2⟩] e0 true _ (two_vals _ _ _ _ ?hh) (Nat.le_refl 2) HN.out).mono ?_; (case hh => exact heap_new_ _ _ (by simp)); rintro e w1 ⟨rfl, hb⟩; obtain ⟨hc, hf⟩ := bcell_ hb; have HZ := hb.size; simp at HZ; have HB : Aside0 (Below w.heap.size w w1) := Aside0.mk (below_step (by repeat (first | exact Below.refl _ _ | apply below_alloc)) hb); clear hb))
    refine bodyPost_ret (v := .tuple #[.agg #[.int .i64 0, .int .i64 0, .string (⟨#[]⟩ : ByteArray)], .int .i64 e0]) (by simp [results, Try.results27, go_sem, hc, hf]) rfl ⟨rfl, (by repeat (first | exact Aside0.out (by assumption) | refine below_set ?_ (by omega) | apply below_alloc))⟩
  | false =>
    simp only [Bool.false_eq_true, if_false] at H
    obtain ⟨x, hX, H2⟩ := Option.bind_eq_some_iff.mp H
    clear H
    obtain ⟨y, hY, H3⟩ := Option.bind_eq_some_iff.mp H2
    clear H2
    obtain ⟨⟨hi, lo⟩, hM, H4⟩ := Option.bind_eq_some_iff.mp H3
    clear H3
    have H := Option.some.inj H4
    clear H4
    have HX := Aside0.mk hX
    have HY := Aside0.mk hY
    have HM := Aside0.mk hM
    have HR := Aside0.mk H
    clear hX hY hM H
    go_enter Try.func27, Try.ntmps27
    go_wp2_with (first | (go_at_call 40; refine (value_null.calls k 1 _ _ [(⟨a0_0, a0_1, a0_2⟩ : S23), ⟨a1_0, a1_1, a1_2⟩] e0 false _ (two_vals _ _ _ _ ?hh) (Nat.le_refl 2) HN.out).mono ?_; (case hh => exact heap_new_ _ _ (by simp)); rintro e w1 ⟨rfl, hb⟩; obtain ⟨hc, hf⟩ := bcell_ hb; have HZ := hb.size; simp at HZ; have HB : Aside0 (Below w.heap.size w w1) := Aside0.mk (below_step (by repeat (first | exact Below.refl _ _ | apply below_alloc)) hb); clear hb))
    have q0 : w1.cell? ⟨w.heap.size, 1, none⟩ = some (.int .i64 a0_1) := by rw [hc _ _ (by simp; omega)]; simp [go_sem]
    have q1 : w1.cell? ⟨w.heap.size + 1, 1, none⟩ = some (.int .i64 a1_1) := by rw [hc _ _ (by simp)]; simp [go_sem]
    have q2 : ∀ o, w1.cell? ⟨w.heap.size + 1 + 1, o, none⟩ = #[Value.int .i64 0, .int .i64 0, .string (⟨#[]⟩ : ByteArray)][o]? := fun o => by rw [hc _ _ (by simp)]; simp [go_sem]
    have q2f : ∀ o, w1.frozen? ⟨w.heap.size + 1 + 1, o, none⟩ = false := fun o => by rw [hf _ _ (by simp)]; simp [go_sem]
    have hS : w1.cell? ⟨w.heap.size, 1, none⟩ = some (.int .i64 a0_1) ∧ w1.cell? ⟨w.heap.size + 1, 1, none⟩ = some (.int .i64 a1_1) ∧ (∀ o, w1.cell? ⟨w.heap.size + 1 + 1, o, none⟩ = #[Value.int .i64 0, .int .i64 0, .string (⟨#[]⟩ : ByteArray)][o]?) ∧ (∀ o, w1.frozen? ⟨w.heap.size + 1 + 1, o, none⟩ = false) ∧ w.heap.size + 1 + 1 + 1 + 1 ≤ w1.heap.size ∧ Aside0 (Below w.heap.size w w1) := ⟨q0, q1, q2, q2f, HZ, HB⟩
    clear hc hf q0 q1 q2 q2f HZ HB
    go_region_held3 (fun w' => w'.cell? ⟨w.heap.size, 1, none⟩ = some (.int .i64 a0_1) ∧ w'.cell? ⟨w.heap.size + 1, 1, none⟩ = some (.int .i64 a1_1) ∧ (∀ o, w'.cell? ⟨w.heap.size + 1 + 1, o, none⟩ = #[Value.int .i64 0, .int .i64 0, .string (⟨#[]⟩ : ByteArray)][o]?) ∧ (∀ o, w'.frozen? ⟨w.heap.size + 1 + 1, o, none⟩ = false) ∧ w.heap.size + 1 + 1 + 1 + 1 ≤ w'.heap.size ∧ Aside0 (Below w.heap.size w w'))
      (first | assumption | exact value_Mul.keep (by assumption) (below_drew1 (Below.refl _ _)) | exact value_Mul.keep (by assumption) (by assumption) | exact value_Mul.keep (by assumption) (value_Mul.bd (by assumption)))
      (first | (go_at_call 47; first | (refine (value_size.calls a0_1 x _ HX.out).mono ?_; rintro e w' ⟨rfl, hb⟩; replace hb := hb.below) | (refine (value_size.calls a1_1 y _ HY.out).mono ?_; rintro e w' ⟨rfl, hb⟩; replace hb := hb.below)) | (go_at_call 46; refine (bits_Mul64.calls x y hi lo _ HM.out).mono ?_; rintro e w' ⟨rfl, hb⟩; replace hb := hb.below))
    rename_i hh_
    obtain ⟨q0, q1, q2, q2f, HZ, HB⟩ := hh_
    go_wp2_with (first | (go_at_call 45; refine (value_Mul.nr _ _).mono ?_; rintro e w3 ⟨rfl, hb3⟩; obtain ⟨hc3, hf3⟩ := bcell_ hb3; have q3 : ∀ o, w3.cell? ⟨w.heap.size + 1 + 1, o, none⟩ = #[Value.int .i64 0, .int .i64 0, .string (⟨#[]⟩ : ByteArray)][o]? := value_Mul.cl hb3 (by omega) q2; have q3f : ∀ o, w3.frozen? ⟨w.heap.size + 1 + 1, o, none⟩ = false := value_Mul.fl hb3 (by omega) q2f; have HZ2 := hb3.size; have HB2 : Aside0 (Below w.heap.size w w3) := Aside0.mk (below_step HB.out hb3); clear HB hb3 hc3 hf3; have HB := HB2; clear HB2))
    all_goals clear HN HX HY HM
    · have H := HR.out
      rw [value_Mul.over (.inl (by simpa using (by assumption : (hi != 0) = true)))] at H
      simp only [Prod.mk.injEq] at H
      obtain ⟨rfl, rfl, rfl, rfl⟩ := H
      refine bodyPost_ret ?_ rfl ⟨rfl, (by repeat (first | exact HB.out | refine below_set ?_ (by omega)))⟩
      simp [results, Try.results27, go_sem, q2, q2f]
    · have H := HR.out
      rw [value_Mul.over (.inr (.inl (by assumption)))] at H
      simp only [Prod.mk.injEq] at H
      obtain ⟨rfl, rfl, rfl, rfl⟩ := H
      refine bodyPost_ret ?_ rfl ⟨rfl, (by repeat (first | exact HB.out | refine below_set ?_ (by omega)))⟩
      simp [results, Try.results27, go_sem, q2, q2f]
    · have H := HR.out
      rw [value_Mul.over (.inr (.inr ⟨by assumption, value_Mul.b0 (by assumption)⟩))] at H
      simp only [Prod.mk.injEq] at H
      obtain ⟨rfl, rfl, rfl, rfl⟩ := H
      refine bodyPost_ret ?_ rfl ⟨rfl, (by repeat (first | exact HB.out | refine below_set ?_ (by omega)))⟩
      simp [results, Try.results27, go_sem, q2, q2f]
    · have H := HR.out
      rw [value_Mul.okay (value_Mul.b1 (by assumption)) (fun x => x.elim (show ¬ hi ≠ 0 from fun x => x (by simpa using (by assumption : (hi != 0) = false))) fun x => x.elim (by omega) fun x => Bool.noConfusion x.2)] at H
      simp only [Prod.mk.injEq] at H
      obtain ⟨rfl, rfl, rfl, rfl⟩ := H
      refine bodyPost_ret ?_ rfl ⟨rfl, (by repeat (first | exact HB.out | refine below_set ?_ (by omega)))⟩
      simp [results, Try.results27, go_sem, q3, q3f, *]
    · exact (value_Mul.b3 (by assumption) (by assumption)).elim
    · have H := HR.out
      rw [value_Mul.okay (value_Mul.b1 (by assumption)) (fun x => x.elim (show ¬ hi ≠ 0 from fun x => x (by simpa using (by assumption : (hi != 0) = false))) fun x => x.elim (by omega) fun x => Bool.noConfusion x.2)] at H
      simp only [Prod.mk.injEq] at H
      obtain ⟨rfl, rfl, rfl, rfl⟩ := H
      refine bodyPost_ret ?_ rfl ⟨rfl, (by repeat (first | exact HB.out | refine below_set ?_ (by omega)))⟩
      simp [results, Try.results27, go_sem, q3, q3f]
    · have H := HR.out
      rw [value_Mul.okay (value_Mul.b2 (by assumption)) (fun x => x.elim (show ¬ hi ≠ 0 from fun x => x (by simpa using (by assumption : (hi != 0) = false))) fun x => x.elim (by omega) fun x => absurd x.1 (by omega))] at H
      simp only [Prod.mk.injEq] at H
      obtain ⟨rfl, rfl, rfl, rfl⟩ := H
      refine bodyPost_ret ?_ rfl ⟨rfl, (by repeat (first | exact HB.out | refine below_set ?_ (by omega)))⟩
      simp [results, Try.results27, go_sem, q3, q3f]

/-! ### value_Sub: function 28 -/
def subOver (a b : Int) : Bool := decide (Go.bits .and .i64 (Go.bits .xor .i64 a b) (Go.bits .xor .i64 a (wrap64 (a - b))) < 0)
def value_Sub.f (k : Nat) (a0_0 : Int) (a0_1 : Int) (a0_2 : ByteArray) (a1_0 : Int) (a1_1 : Int) (a1_2 : ByteArray) : Option (Int × Int × ByteArray × Int) :=
  (value_null.f k 1 [(⟨a0_0, a0_1, a0_2⟩ : S23), ⟨a1_0, a1_1, a1_2⟩]).bind fun p => if p.2 = true then some (0, 0, (⟨#[]⟩ : ByteArray), p.1) else if subOver a0_1 a1_1 = true then some (0, 0, (⟨#[]⟩ : ByteArray), 3) else some (1, wrap64 (a0_1 - a1_1), (⟨#[]⟩ : ByteArray), 0)
theorem value_Sub.mono : ∀ a0 a1 a2 a3 a4 a5 k, LeO (value_Sub.f k a0 a1 a2 a3 a4 a5) (value_Sub.f (k + 1) a0 a1 a2 a3 a4 a5) := by
  intro a0 a1 a2 a3 a4 a5 k
  unfold value_Sub.f
  exact LeO.bind (value_null.mono _ _ _) (fun _ => LeO.refl _)
set_option maxHeartbeats 2000000 in
theorem value_Sub.calls (k : Nat) (a0_0 : Int) (a0_1 : Int) (a0_2 : ByteArray) (a1_0 : Int) (a1_1 : Int) (a1_2 : ByteArray) (r1 : Int) (r2 : Int) (r3 : ByteArray) (r4 : Int) (w : World) (h : value_Sub.f k a0_0 a0_1 a0_2 a1_0 a1_1 a1_2 = some (r1, r2, r3, r4)) :
    Calls Try.prog 28 #[.agg #[.int .i64 a0_0, .int .i64 a0_1, .string a0_2], .agg #[.int .i64 a1_0, .int .i64 a1_1, .string a1_2]] w fun e w' => e = .returned (.tuple #[.agg #[.int .i64 r1, .int .i64 r2, .string r3], .int .i64 r4]) ∧ Below w.heap.size w w' := by
  have hu := Try.underlying23
  unfold value_Sub.f at h
  obtain ⟨⟨e0, ok⟩, hN, H⟩ := Option.bind_eq_some_iff.mp h
  clear h
  have HN := Aside0.mk hN
  have HH := Aside0.mk H
  clear hN H
  go_enter Try.func28, Try.ntmps28
  go_wp2_with (first | (go_at_call 40; refine (value_null.calls k 1 _ _ [(⟨a0_0, a0_1, a0_2⟩ : S23), ⟨a1_0, a1_1, a1_2⟩] e0 ok _ (two_vals _ _ _ _ ?hh) (Nat.le_refl 2) HN.out).mono ?_; (case hh => exact heap_new_ _ _ (by simp)); rintro e w1 ⟨rfl, hb⟩; obtain ⟨hc, hf⟩ := bcell_ hb; have HZ := hb.size; simp at HZ; have HB : Aside0 (Below w.heap.size w w1) := Aside0.mk (below_step (by repeat (first | exact Below.refl _ _ | apply below_alloc)) hb); clear hb) | (go_at_call 45; refine (value_number.calls (wrap64 (a0_1 - a1_1)) 1 (wrap64 (a0_1 - a1_1)) (⟨#[]⟩ : ByteArray) _ rfl).mono ?_; rintro e w2 ⟨rfl, hb2⟩; obtain ⟨hc2, hf2⟩ := bcell_ hb2; have q2 := fun o => hc2 (w.heap.size + 1 + 1) o (by omega); have q2f := fun o => hf2 (w.heap.size + 1 + 1) o (by omega); have HZ2 := hb2.size; have HB2 : Aside0 (Below w.heap.size w w2) := Aside0.mk (below_step HB.out hb2); clear HB hb2 hc2 hf2; have HB := HB2; clear HB2))
  all_goals have H := HH.out
  · have h1 : ok = true := by assumption
    subst h1
    simp only [if_pos, Option.some.injEq, Prod.mk.injEq] at H
    obtain ⟨rfl, rfl, rfl, rfl⟩ := H
    refine bodyPost_ret (v := .tuple #[.agg #[.int .i64 0, .int .i64 0, .string (⟨#[]⟩ : ByteArray)], .int .i64 e0]) (by simp [results, Try.results28, go_sem, hc, hf]) rfl ⟨rfl, (by repeat (first | exact Aside0.out (by assumption) | refine below_set ?_ (by omega) | apply below_alloc))⟩
  · have h1 : ok = false := by assumption
    have h2 : Go.bits .and .i64 (Go.bits .xor .i64 a0_1 a1_1) (Go.bits .xor .i64 a0_1 (wrap64 (a0_1 - a1_1))) < 0 := by assumption
    have o : subOver a0_1 a1_1 = true := by unfold subOver; exact decide_eq_true h2
    subst h1
    simp only [Bool.false_eq_true, if_false, o, if_true, Option.some.injEq, Prod.mk.injEq] at H
    obtain ⟨rfl, rfl, rfl, rfl⟩ := H
    refine bodyPost_ret (v := .tuple #[.agg #[.int .i64 0, .int .i64 0, .string (⟨#[]⟩ : ByteArray)], .int .i64 3]) (by simp [results, Try.results28, go_sem, hc, hf]) rfl ⟨rfl, (by repeat (first | exact Aside0.out (by assumption) | refine below_set ?_ (by omega) | apply below_alloc))⟩
  · have h1 : ok = false := by assumption
    have h2 : 0 ≤ Go.bits .and .i64 (Go.bits .xor .i64 a0_1 a1_1) (Go.bits .xor .i64 a0_1 (wrap64 (a0_1 - a1_1))) := by assumption
    have o : subOver a0_1 a1_1 = false := by unfold subOver; exact decide_eq_false (by omega)
    subst h1
    simp only [Bool.false_eq_true, if_false, o, Option.some.injEq, Prod.mk.injEq] at H
    obtain ⟨rfl, rfl, rfl, rfl⟩ := H
    refine bodyPost_ret (v := .tuple #[.agg #[.int .i64 1, .int .i64 (wrap64 (a0_1 - a1_1)), .string (⟨#[]⟩ : ByteArray)], .int .i64 0]) (by simp [results, Try.results28, go_sem, q2, q2f, hc, hf]) rfl ⟨rfl, (by repeat (first | exact Aside0.out (by assumption) | refine below_set ?_ (by omega) | apply below_alloc))⟩

/-! ### value_Neg: function 34 -/
def value_Neg.f (k : Nat) (a0_0 : Int) (a0_1 : Int) (a0_2 : ByteArray) : Option (Int × Int × ByteArray × Int) := (value_null.f k 1 (([(⟨a0_0, a0_1, a0_2⟩ : S23)] : List (S23)))).bind fun bt236 => (if bt236.2 = true then (some (0, 0, (⟨#[]⟩ : ByteArray), bt236.1)) else ((value_number.f 0).bind fun bt238 => ((value_Sub.f k bt238.1 bt238.2.1 bt238.2.2 a0_0 a0_1 a0_2).bind fun bt241 => (some (bt241.1, bt241.2.1, bt241.2.2.1, bt241.2.2.2)))))
theorem value_Neg.mono : ∀ a0 a1 a2 k, LeO (value_Neg.f k a0 a1 a2) (value_Neg.f (k + 1) a0 a1 a2) := by
  intro a0 a1 a2 k
  unfold value_Neg.f
  repeat' first
      | (with_reducible exact value_Sub.mono _ _ _ _ _ _ _)
      | (with_reducible exact value_null.mono _ _ _)
      | (with_reducible exact LeO.refl _)
      | (with_reducible exact LeO.none _)
      | (with_reducible refine LeO.ite ?_ ?_)
      | (with_reducible refine LeO.bind ?_ (fun _ => ?_))
      | exact value_Sub.mono _ _ _ _ _ _ _
      | exact value_null.mono _ _ _
      | exact LeO.none _
      | refine LeO.ite ?_ ?_
      | refine LeO.bind ?_ (fun _ => ?_)
set_option maxHeartbeats 8000000 in
set_option maxRecDepth 100000 in
theorem value_Neg.calls (k : Nat) (a0_0 : Int) (a0_1 : Int) (a0_2 : ByteArray) (r1 : Int) (r2 : Int) (r3 : ByteArray) (r4 : Int) (w : World) (h : value_Neg.f k a0_0 a0_1 a0_2 = some (r1, r2, r3, r4)) :
    Calls Try.prog 34 #[.agg #[.int .i64 a0_0, .int .i64 a0_1, .string a0_2]] w fun e w' => e = .returned (.tuple #[.agg #[.int .i64 r1, .int .i64 r2, .string r3], .int .i64 r4]) ∧ Below w.heap.size w w' := by
  have hu23 := Try.underlying23
  have HB := Aside0.mk (Below.refl w.heap.size w)
  have H : ((value_null.f k 1 (([(⟨a0_0, a0_1, a0_2⟩ : S23)] : List (S23)))).bind fun bt236 => (if bt236.2 = true then (some (0, 0, (⟨#[]⟩ : ByteArray), bt236.1)) else ((value_number.f 0).bind fun bt238 => ((value_Sub.f k bt238.1 bt238.2.1 bt238.2.2 a0_0 a0_1 a0_2).bind fun bt241 => (some (bt241.1, bt241.2.1, bt241.2.2.1, bt241.2.2.2)))))) = some (r1, r2, r3, r4) := h
  clear h
  obtain ⟨y233, hy233⟩ : ∃ y_ : List (S23), y_ = (([(⟨a0_0, a0_1, a0_2⟩ : S23)] : List (S23))) := ⟨_, rfl⟩
  replace H : ((value_null.f k 1 y233).bind fun bt236 => (if bt236.2 = true then (some (0, 0, (⟨#[]⟩ : ByteArray), bt236.1)) else ((value_number.f 0).bind fun bt238 => ((value_Sub.f k bt238.1 bt238.2.1 bt238.2.2 a0_0 a0_1 a0_2).bind fun bt241 => (some (bt241.1, bt241.2.1, bt241.2.2.1, bt241.2.2.2)))))) = some (r1, r2, r3, r4) := by first | (rw [hy233]; with_reducible exact H) | (have H2_ := (Option.bind_some _ _).symm.trans H; rw [hy233]; with_reducible exact H2_) | (have H2_ := (Option.bind_some _ _).symm.trans H; with_reducible exact H2_) | with_reducible exact H | (rw [hy233]; exact H) | exact H
  have Ny233 := Aside0.mk hy233
  clear hy233
  replace H := Option.bind_eq_some_iff.mp H
  obtain ⟨⟨t236, t237⟩, A20, H⟩ := H
  replace H : (if t237 = true then (some (0, 0, (⟨#[]⟩ : ByteArray), t236)) else ((value_number.f 0).bind fun bt238 => ((value_Sub.f k bt238.1 bt238.2.1 bt238.2.2 a0_0 a0_1 a0_2).bind fun bt241 => (some (bt241.1, bt241.2.1, bt241.2.2.1, bt241.2.2.2))))) = some (r1, r2, r3, r4) := H
  have A2 := Aside0.mk A20
  clear A20
  by_cases c3 : t237 = true
  · subst c3
    have H1 : (some (0, 0, (⟨#[]⟩ : ByteArray), t236)) = some (r1, r2, r3, r4) := by rw [if_pos rfl] at H; exact H
    clear H
    have H := H1
    clear H1
    simp only [Option.some.injEq, Prod.mk.injEq] at H
    obtain ⟨rfl, rfl, rfl, rfl⟩ := H
    go_enter Try.func34, Try.ntmps34
    go_wp2_with (first | ((with_reducible refine gate_dst (N := 1) rfl ?_); refine box_event ?hg (N := 1) ?hd (cs := #[.int .i64 a0_0, .int .i64 a0_1, .string a0_2]) (t := 23) ?hr ?_; (case hd => rfl); (case hg => rfl); (case hr => first | (go_simp; done) | (go_simp; rfl)); intro gb231 hg w4 hbox hb; have n0_ := Aside0.mk (below_step (by repeat (first | (with_reducible first | exact HB.out | apply below_alloc | apply pw_below_drewN | apply below_drew1) | exact HB.out)) hb); have n1_ := Aside0.mk (hbox); have n2_ := Aside0.mk ((by rw [hg]; exact (below_size (by repeat (first | (with_reducible first | exact HB.out | apply below_alloc | apply pw_below_drewN | apply below_drew1) | exact HB.out))) : w.heap.size ≤ gb231)); have n3_ := Aside0.mk ((by rw [hg]; exact (below_size (by repeat (first | (with_reducible first | exact HB.out | apply below_alloc | apply pw_below_drewN | apply below_drew1) | exact HB.out))) : w.heap.size ≤ gb231)); clear HB; have HB := n0_; have BK231 := n1_; have GW231 := n2_; have GE231 := n3_; clear n0_ n1_ n2_ n3_; clear hb hbox hg) | ((with_reducible refine gate_dst (N := 2) rfl ?_); refine box_event ?hg (N := 2) ?hd (cs := #[.int .i64 0, .int .i64 0, .string (⟨#[]⟩ : ByteArray)]) (t := 23) ?hr ?_; (case hd => rfl); (case hg => rfl); (case hr => first | (go_simp; done) | (go_simp; rfl)); intro gb232 hg w5 hbox hb; have n0_ := Aside0.mk (blk_below (g := gb231) (o := .cells #[.int .i64 a0_0, .int .i64 a0_1, .string a0_2] 23 (0, 0)) (by (with_reducible repeat (first | refine blk_drewN ?_ _ | refine blk_drew ?_ | refine blk_alloc ?_ _)); exact BK231.out) hb); have n1_ := Aside0.mk (below_step (by repeat (first | (with_reducible first | exact HB.out | apply below_alloc | apply pw_below_drewN | apply below_drew1 | refine below_set ?_ GE231.out) | exact HB.out)) hb); have n2_ := Aside0.mk (hbox); have n3_ := Aside0.mk ((by rw [hg]; exact (below_size (by repeat (first | (with_reducible first | exact HB.out | apply below_alloc | apply pw_below_drewN | apply below_drew1 | refine below_set ?_ GE231.out) | exact HB.out))) : w.heap.size ≤ gb232)); have n4_ := Aside0.mk ((by rw [hg]; exact (below_size (by repeat (first | (with_reducible first | exact HB.out | apply below_alloc | apply pw_below_drewN | apply below_drew1 | refine below_set ?_ GE231.out) | exact HB.out))) : w.heap.size ≤ gb232)); have n5_ := Aside0.mk ((by rw [hg]; exact Nat.ne_of_lt (blk_lt (g := gb231) (o := .cells #[.int .i64 a0_0, .int .i64 a0_1, .string a0_2] 23 (0, 0)) (by (with_reducible repeat (first | refine blk_drewN ?_ _ | refine blk_drew ?_ | refine blk_alloc ?_ _)); exact BK231.out)) : gb231 ≠ gb232)); have n6_ := Aside0.mk ((by rw [hg]; exact Nat.ne_of_gt (blk_lt (g := gb231) (o := .cells #[.int .i64 a0_0, .int .i64 a0_1, .string a0_2] 23 (0, 0)) (by (with_reducible repeat (first | refine blk_drewN ?_ _ | refine blk_drew ?_ | refine blk_alloc ?_ _)); exact BK231.out)) : gb232 ≠ gb231)); clear BK231; clear HB; have BK231 := n0_; have HB := n1_; have BK232 := n2_; have GW232 := n3_; have GE232 := n4_; have NB231_232 := n5_; have NB232_231 := n6_; clear n0_ n1_ n2_ n3_ n4_ n5_ n6_; clear hb hbox hg; have hnb6 := NB231_232.out; have hnc6 := NB232_231.out; have hcz7_0 : w5.cell? ⟨gb231, 0, none⟩ = some (.int .i64 a0_0) := (blk_cell BK231.out 0).trans rfl; have hcz7_1 : w5.cell? ⟨gb231, 1, none⟩ = some (.int .i64 a0_1) := (blk_cell BK231.out 1).trans rfl; have hcz7_2 : w5.cell? ⟨gb231, 2, none⟩ = some (.string a0_2) := (blk_cell BK231.out 2).trans rfl; have hfz7_0 := blk_frozen BK231.out 0; have hfz7_1 := blk_frozen BK231.out 1; have hfz7_2 := blk_frozen BK231.out 2) | ((with_reducible refine gate_dst (N := 8) rfl ?_); refine Kd.R_lit k23 _ 23 ?hg (N := 8) ?hd (xs := ([(⟨a0_0, a0_1, a0_2⟩ : S23)] : List (S23))) (inner := [.int .i64 a0_0, .int .i64 a0_1, .string a0_2]) (ok := fun _ => True) (okp := fun _ => True) ?hr ?hp (fun _ hk => hk) trivial (Below.refl _ _) (Nat.le_refl _) (by simp) ?_; (case hd => rfl); (case hg => rfl); (case hr => first | (go_simp; done) | (go_simp; rfl)); (case hp => exact (Reps.c3 (show Kd.M k23 _ _ _ (⟨a0_0, a0_1, a0_2⟩ : S23) [.int .i64 a0_0, .int .i64 a0_1, .string a0_2] from (k23_mkM _ _ _ (⟨a0_0, a0_1, a0_2⟩ : S23) )) (Reps.none _ _))); intro v234 w8 ho9 hb hg_ hnew_; clear hg_ hnew_; (first | rw [← Ny233.out] at ho9 | (simp only [Int.reduceToNat] at ho9; rw [← Ny233.out] at ho9)); have n0_ := Aside0.mk (Kd.R_lower (Kd.R_newB (Kd.R_newB ho9 (g := gb231) (o := .cells #[.int .i64 a0_0, .int .i64 a0_1, .string a0_2] 23 (0, 0)) (by (with_reducible repeat (first | refine blk_drewN ?_ _ | refine blk_drew ?_ | refine blk_alloc ?_ _)); exact BK231.out)) (g := gb232) (o := .cells #[.int .i64 0, .int .i64 0, .string (⟨#[]⟩ : ByteArray)] 23 (0, 0)) (by (with_reducible repeat (first | refine blk_drewN ?_ _ | refine blk_drew ?_ | refine blk_alloc ?_ _)); exact BK232.out)) (below_size (by repeat (first | (with_reducible first | exact HB.out | apply below_alloc | apply pw_below_drewN | apply below_drew1 | refine below_set ?_ GE231.out | refine below_set ?_ GE232.out) | exact HB.out)))); have n1_ := Aside0.mk (blk_below (g := gb231) (o := .cells #[.int .i64 a0_0, .int .i64 a0_1, .string a0_2] 23 (0, 0)) (by (with_reducible repeat (first | refine blk_drewN ?_ _ | refine blk_drew ?_ | refine blk_alloc ?_ _)); exact BK231.out) hb); have n2_ := Aside0.mk (blk_below (g := gb232) (o := .cells #[.int .i64 0, .int .i64 0, .string (⟨#[]⟩ : ByteArray)] 23 (0, 0)) (by (with_reducible repeat (first | refine blk_drewN ?_ _ | refine blk_drew ?_ | refine blk_alloc ?_ _)); exact BK232.out) hb); have n3_ := Aside0.mk (below_step (by repeat (first | (with_reducible first | exact HB.out | apply below_alloc | apply pw_below_drewN | apply below_drew1 | refine below_set ?_ GE231.out | refine below_set ?_ GE232.out) | exact HB.out)) hb); clear BK231; clear BK232; clear HB; have HO235 := n0_; have BK231 := n1_; have BK232 := n2_; have HB := n3_; clear n0_ n1_ n2_ n3_; clear hb ho9; obtain ⟨Ao10, co10, eo10⟩ := Kd.R_slice HO235.out; subst eo10) | ((with_reducible refine gate_callee (f := 40) rfl ?_); refine goesL_ (some 9) rfl rfl Try.func40 (by kernel_rfl) rfl #[.int .i64 1, .slice Ao10 y233.length co10] rfl (by (try simp only [List.map_toArray, List.map_cons, List.map_nil]); first | done | rfl | (simp only [List.length_drop, List.length_take]; rfl)) ?_; (with_reducible refine (value_null.calls k 1 _ _ y233 t236 true _ ?side1 ?side2 A2.out).mono ?_); (case side1 => repeat (first | exact (Kd.R_reads' HO235.out).2.2 | (with_reducible refine Kd.C_alloc ?_ _) | (with_reducible refine Kd.C_drewN ?_ _) | (with_reducible refine Kd.C_drew ?_))); (case side2 => exact (Kd.R_reads' HO235.out).2.1); rintro e w11 ⟨rfl, hb⟩; refine ⟨_, rfl, ?_⟩; have n0_ := Aside0.mk (Kd.R_below (by (with_reducible repeat (first | apply Kd.R_alloc | apply Kd.R_drewN | apply Kd.R_drew)); exact HO235.out) hb); have n1_ := Aside0.mk (blk_below (g := gb231) (o := .cells #[.int .i64 a0_0, .int .i64 a0_1, .string a0_2] 23 (0, 0)) (by (with_reducible repeat (first | refine blk_drewN ?_ _ | refine blk_drew ?_ | refine blk_alloc ?_ _)); exact BK231.out) hb); have n2_ := Aside0.mk (blk_below (g := gb232) (o := .cells #[.int .i64 0, .int .i64 0, .string (⟨#[]⟩ : ByteArray)] 23 (0, 0)) (by (with_reducible repeat (first | refine blk_drewN ?_ _ | refine blk_drew ?_ | refine blk_alloc ?_ _)); exact BK232.out) hb); have n3_ := Aside0.mk (below_step (by repeat (first | (with_reducible first | exact HB.out | apply below_alloc | apply pw_below_drewN | apply below_drew1 | refine below_set ?_ GE231.out | refine below_set ?_ GE232.out) | exact HB.out)) hb); clear HO235; clear BK231; clear BK232; clear HB; have HO235 := n0_; have BK231 := n1_; have BK232 := n2_; have HB := n3_; clear n0_ n1_ n2_ n3_; (try clear hb); (try clear hb2); (try clear hk); (try clear hi); have hcz12_0 : w11.cell? ⟨gb232, 0, none⟩ = some (.int .i64 0) := (blk_cell BK232.out 0).trans rfl; have hcz12_1 : w11.cell? ⟨gb232, 1, none⟩ = some (.int .i64 0) := (blk_cell BK232.out 1).trans rfl; have hcz12_2 : w11.cell? ⟨gb232, 2, none⟩ = some (.string (⟨#[]⟩ : ByteArray)) := (blk_cell BK232.out 2).trans rfl; have hfz12_0 := blk_frozen BK232.out 0; have hfz12_1 := blk_frozen BK232.out 1; have hfz12_2 := blk_frozen BK232.out 2))
    refine bodyPost_ret (results_ct rfl _ _ gb232 23 #[.int .i64 0, .int .i64 0, .string (⟨#[]⟩ : ByteArray)] (0, 0) _ rfl (by (with_reducible repeat (first | refine blk_drewN ?_ _ | refine blk_drew ?_ | refine blk_alloc ?_ _)); refine blk_put (cs := #[.int .i64 0, .int .i64 0, .string (⟨#[]⟩ : ByteArray)]) ?_ 2 _ rfl; (with_reducible repeat (first | refine blk_drewN ?_ _ | refine blk_drew ?_ | refine blk_alloc ?_ _)); refine blk_put (cs := #[.int .i64 0, .int .i64 0, .string (⟨#[]⟩ : ByteArray)]) ?_ 1 _ rfl; (with_reducible repeat (first | refine blk_drewN ?_ _ | refine blk_drew ?_ | refine blk_alloc ?_ _)); refine blk_put (cs := #[.int .i64 0, .int .i64 0, .string (⟨#[]⟩ : ByteArray)]) ?_ 0 _ rfl; (with_reducible repeat (first | refine blk_drewN ?_ _ | refine blk_drew ?_ | refine blk_alloc ?_ _)); exact BK232.out) Try.underlying23 rfl (by kernel_rfl)) rfl ?_
    exact ⟨by first | rfl | (simp [errW_none, errW_some] <;> rfl) | (simp [*, errW_none, errW_some] <;> rfl), by repeat (first | (with_reducible first | exact HB.out | apply below_alloc | apply pw_below_drewN | apply below_drew1 | refine below_set ?_ GE231.out | refine below_set ?_ GE232.out) | exact HB.out)⟩
  · replace c3 := Bool.eq_false_iff.mpr c3
    subst c3
    have H1 : ((value_number.f 0).bind fun bt238 => ((value_Sub.f k bt238.1 bt238.2.1 bt238.2.2 a0_0 a0_1 a0_2).bind fun bt241 => (some (bt241.1, bt241.2.1, bt241.2.2.1, bt241.2.2.2)))) = some (r1, r2, r3, r4) := by rw [if_neg (show ¬ (false = true) by decide)] at H; exact H
    clear H
    have H := H1
    clear H1
    replace H := Option.bind_eq_some_iff.mp H
    obtain ⟨⟨t238, t239, t240⟩, A130, H⟩ := H
    replace H : ((value_Sub.f k t238 t239 t240 a0_0 a0_1 a0_2).bind fun bt241 => (some (bt241.1, bt241.2.1, bt241.2.2.1, bt241.2.2.2))) = some (r1, r2, r3, r4) := H
    have A13 := Aside0.mk A130
    clear A130
    replace H := Option.bind_eq_some_iff.mp H
    obtain ⟨⟨t241, t242, t243, t244⟩, A140, H⟩ := H
    replace H : (some (t241, t242, t243, t244)) = some (r1, r2, r3, r4) := H
    have A14 := Aside0.mk A140
    clear A140
    simp only [Option.some.injEq, Prod.mk.injEq] at H
    obtain ⟨rfl, rfl, rfl, rfl⟩ := H
    go_enter Try.func34, Try.ntmps34
    try go_wp2_with (first | ((with_reducible refine gate_dst (N := 1) rfl ?_); refine box_event ?hg (N := 1) ?hd (cs := #[.int .i64 a0_0, .int .i64 a0_1, .string a0_2]) (t := 23) ?hr ?_; (case hd => rfl); (case hg => rfl); (case hr => first | (go_simp; done) | (go_simp; rfl)); intro gb231 hg w15 hbox hb; have n0_ := Aside0.mk (below_step (by repeat (first | (with_reducible first | exact HB.out | apply below_alloc | apply pw_below_drewN | apply below_drew1) | exact HB.out)) hb); have n1_ := Aside0.mk (hbox); have n2_ := Aside0.mk ((by rw [hg]; exact (below_size (by repeat (first | (with_reducible first | exact HB.out | apply below_alloc | apply pw_below_drewN | apply below_drew1) | exact HB.out))) : w.heap.size ≤ gb231)); have n3_ := Aside0.mk ((by rw [hg]; exact (below_size (by repeat (first | (with_reducible first | exact HB.out | apply below_alloc | apply pw_below_drewN | apply below_drew1) | exact HB.out))) : w.heap.size ≤ gb231)); clear HB; have HB := n0_; have BK231 := n1_; have GW231 := n2_; have GE231 := n3_; clear n0_ n1_ n2_ n3_; clear hb hbox hg) | ((with_reducible refine gate_dst (N := 2) rfl ?_); refine box_event ?hg (N := 2) ?hd (cs := #[.int .i64 0, .int .i64 0, .string (⟨#[]⟩ : ByteArray)]) (t := 23) ?hr ?_; (case hd => rfl); (case hg => rfl); (case hr => first | (go_simp; done) | (go_simp; rfl)); intro gb232 hg w16 hbox hb; have n0_ := Aside0.mk (blk_below (g := gb231) (o := .cells #[.int .i64 a0_0, .int .i64 a0_1, .string a0_2] 23 (0, 0)) (by (with_reducible repeat (first | refine blk_drewN ?_ _ | refine blk_drew ?_ | refine blk_alloc ?_ _)); exact BK231.out) hb); have n1_ := Aside0.mk (below_step (by repeat (first | (with_reducible first | exact HB.out | apply below_alloc | apply pw_below_drewN | apply below_drew1 | refine below_set ?_ GE231.out) | exact HB.out)) hb); have n2_ := Aside0.mk (hbox); have n3_ := Aside0.mk ((by rw [hg]; exact (below_size (by repeat (first | (with_reducible first | exact HB.out | apply below_alloc | apply pw_below_drewN | apply below_drew1 | refine below_set ?_ GE231.out) | exact HB.out))) : w.heap.size ≤ gb232)); have n4_ := Aside0.mk ((by rw [hg]; exact (below_size (by repeat (first | (with_reducible first | exact HB.out | apply below_alloc | apply pw_below_drewN | apply below_drew1 | refine below_set ?_ GE231.out) | exact HB.out))) : w.heap.size ≤ gb232)); have n5_ := Aside0.mk ((by rw [hg]; exact Nat.ne_of_lt (blk_lt (g := gb231) (o := .cells #[.int .i64 a0_0, .int .i64 a0_1, .string a0_2] 23 (0, 0)) (by (with_reducible repeat (first | refine blk_drewN ?_ _ | refine blk_drew ?_ | refine blk_alloc ?_ _)); exact BK231.out)) : gb231 ≠ gb232)); have n6_ := Aside0.mk ((by rw [hg]; exact Nat.ne_of_gt (blk_lt (g := gb231) (o := .cells #[.int .i64 a0_0, .int .i64 a0_1, .string a0_2] 23 (0, 0)) (by (with_reducible repeat (first | refine blk_drewN ?_ _ | refine blk_drew ?_ | refine blk_alloc ?_ _)); exact BK231.out)) : gb232 ≠ gb231)); clear BK231; clear HB; have BK231 := n0_; have HB := n1_; have BK232 := n2_; have GW232 := n3_; have GE232 := n4_; have NB231_232 := n5_; have NB232_231 := n6_; clear n0_ n1_ n2_ n3_ n4_ n5_ n6_; clear hb hbox hg; have hnb17 := NB231_232.out; have hnc17 := NB232_231.out; have hcz18_0 : w16.cell? ⟨gb231, 0, none⟩ = some (.int .i64 a0_0) := (blk_cell BK231.out 0).trans rfl; have hcz18_1 : w16.cell? ⟨gb231, 1, none⟩ = some (.int .i64 a0_1) := (blk_cell BK231.out 1).trans rfl; have hcz18_2 : w16.cell? ⟨gb231, 2, none⟩ = some (.string a0_2) := (blk_cell BK231.out 2).trans rfl; have hfz18_0 := blk_frozen BK231.out 0; have hfz18_1 := blk_frozen BK231.out 1; have hfz18_2 := blk_frozen BK231.out 2) | ((with_reducible refine gate_dst (N := 8) rfl ?_); refine Kd.R_lit k23 _ 23 ?hg (N := 8) ?hd (xs := ([(⟨a0_0, a0_1, a0_2⟩ : S23)] : List (S23))) (inner := [.int .i64 a0_0, .int .i64 a0_1, .string a0_2]) (ok := fun _ => True) (okp := fun _ => True) ?hr ?hp (fun _ hk => hk) trivial (Below.refl _ _) (Nat.le_refl _) (by simp) ?_; (case hd => rfl); (case hg => rfl); (case hr => first | (go_simp; done) | (go_simp; rfl)); (case hp => exact (Reps.c3 (show Kd.M k23 _ _ _ (⟨a0_0, a0_1, a0_2⟩ : S23) [.int .i64 a0_0, .int .i64 a0_1, .string a0_2] from (k23_mkM _ _ _ (⟨a0_0, a0_1, a0_2⟩ : S23) )) (Reps.none _ _))); intro v234 w19 ho20 hb hg_ hnew_; clear hg_ hnew_; (first | rw [← Ny233.out] at ho20 | (simp only [Int.reduceToNat] at ho20; rw [← Ny233.out] at ho20)); have n0_ := Aside0.mk (Kd.R_lower (Kd.R_newB (Kd.R_newB ho20 (g := gb231) (o := .cells #[.int .i64 a0_0, .int .i64 a0_1, .string a0_2] 23 (0, 0)) (by (with_reducible repeat (first | refine blk_drewN ?_ _ | refine blk_drew ?_ | refine blk_alloc ?_ _)); exact BK231.out)) (g := gb232) (o := .cells #[.int .i64 0, .int .i64 0, .string (⟨#[]⟩ : ByteArray)] 23 (0, 0)) (by (with_reducible repeat (first | refine blk_drewN ?_ _ | refine blk_drew ?_ | refine blk_alloc ?_ _)); exact BK232.out)) (below_size (by repeat (first | (with_reducible first | exact HB.out | apply below_alloc | apply pw_below_drewN | apply below_drew1 | refine below_set ?_ GE231.out | refine below_set ?_ GE232.out) | exact HB.out)))); have n1_ := Aside0.mk (blk_below (g := gb231) (o := .cells #[.int .i64 a0_0, .int .i64 a0_1, .string a0_2] 23 (0, 0)) (by (with_reducible repeat (first | refine blk_drewN ?_ _ | refine blk_drew ?_ | refine blk_alloc ?_ _)); exact BK231.out) hb); have n2_ := Aside0.mk (blk_below (g := gb232) (o := .cells #[.int .i64 0, .int .i64 0, .string (⟨#[]⟩ : ByteArray)] 23 (0, 0)) (by (with_reducible repeat (first | refine blk_drewN ?_ _ | refine blk_drew ?_ | refine blk_alloc ?_ _)); exact BK232.out) hb); have n3_ := Aside0.mk (below_step (by repeat (first | (with_reducible first | exact HB.out | apply below_alloc | apply pw_below_drewN | apply below_drew1 | refine below_set ?_ GE231.out | refine below_set ?_ GE232.out) | exact HB.out)) hb); clear BK231; clear BK232; clear HB; have HO235 := n0_; have BK231 := n1_; have BK232 := n2_; have HB := n3_; clear n0_ n1_ n2_ n3_; clear hb ho20; obtain ⟨Ao21, co21, eo21⟩ := Kd.R_slice HO235.out; subst eo21) | ((with_reducible refine gate_callee (f := 40) rfl ?_); refine goesL_ (some 9) rfl rfl Try.func40 (by kernel_rfl) rfl #[.int .i64 1, .slice Ao21 y233.length co21] rfl (by (try simp only [List.map_toArray, List.map_cons, List.map_nil]); first | done | rfl | (simp only [List.length_drop, List.length_take]; rfl)) ?_; (with_reducible refine (value_null.calls k 1 _ _ y233 t236 false _ ?side1 ?side2 A2.out).mono ?_); (case side1 => repeat (first | exact (Kd.R_reads' HO235.out).2.2 | (with_reducible refine Kd.C_alloc ?_ _) | (with_reducible refine Kd.C_drewN ?_ _) | (with_reducible refine Kd.C_drew ?_))); (case side2 => exact (Kd.R_reads' HO235.out).2.1); rintro e w22 ⟨rfl, hb⟩; refine ⟨_, rfl, ?_⟩; have n0_ := Aside0.mk (Kd.R_below (by (with_reducible repeat (first | apply Kd.R_alloc | apply Kd.R_drewN | apply Kd.R_drew)); exact HO235.out) hb); have n1_ := Aside0.mk (blk_below (g := gb231) (o := .cells #[.int .i64 a0_0, .int .i64 a0_1, .string a0_2] 23 (0, 0)) (by (with_reducible repeat (first | refine blk_drewN ?_ _ | refine blk_drew ?_ | refine blk_alloc ?_ _)); exact BK231.out) hb); have n2_ := Aside0.mk (blk_below (g := gb232) (o := .cells #[.int .i64 0, .int .i64 0, .string (⟨#[]⟩ : ByteArray)] 23 (0, 0)) (by (with_reducible repeat (first | refine blk_drewN ?_ _ | refine blk_drew ?_ | refine blk_alloc ?_ _)); exact BK232.out) hb); have n3_ := Aside0.mk (below_step (by repeat (first | (with_reducible first | exact HB.out | apply below_alloc | apply pw_below_drewN | apply below_drew1 | refine below_set ?_ GE231.out | refine below_set ?_ GE232.out) | exact HB.out)) hb); clear HO235; clear BK231; clear BK232; clear HB; have HO235 := n0_; have BK231 := n1_; have BK232 := n2_; have HB := n3_; clear n0_ n1_ n2_ n3_; (try clear hb); (try clear hb2); (try clear hk); (try clear hi)))
    have n0_ := Aside0.mk (Kd.R_drew HO235.out)
    have n1_ := Aside0.mk (blk_drew BK231.out)
    have n2_ := Aside0.mk (blk_drew BK232.out)
    have n3_ := Aside0.mk (below_drew1 HB.out)
    clear HO235
    clear BK231
    clear BK232
    clear HB
    have HO235 := n0_
    have BK231 := n1_
    have BK232 := n2_
    have HB := n3_
    clear n0_ n1_ n2_ n3_
    refine start_ (n := 7) (S := fun w' => w'.cell? ⟨gb231, 0, none⟩ = some (.int .i64 a0_0) ∧ w'.cell? ⟨gb231, 1, none⟩ = some (.int .i64 a0_1) ∧ w'.cell? ⟨gb231, 2, none⟩ = some (.string a0_2)) (ds := []) #[false, false, false, false, false, false, false] (by kernel_rfl) rfl rfl ⟨(blk_cell BK231.out 0).trans rfl, (blk_cell BK231.out 1).trans rfl, (blk_cell BK231.out 2).trans rfl⟩ (fun hHeld => ?_)
    generalize w22.drew = w23 at HO235 BK231 BK232 HB hHeld ⊢
    refine take_ (i := 1) (N := some 16) (v := ?_) (a' := ?_) #[false, true, false, false, false, false, false] rfl rfl (by kernel_rfl) (fun _ _ _ h => h) (Or.inl ⟨by rfl, ?_⟩) hHeld ?_ ?_
    rotate_left
    · rintro w' ⟨s0, s1, s2⟩
      go_simp
      with_reducible rfl
    rotate_left
    · simp only [Act.put, List.setIfInBounds_toArray, List.set_cons_zero, List.set_cons_succ, i64_w, i32_w]
      rfl
    refine one_ (i := 0) (N := some 15) #[true, true, false, false, false, false, false] rfl rfl (by kernel_rfl) (by decide) (fun K hK => ?_)
    refine goes_ Try.func45 (by kernel_rfl) rfl #[.int .i64 0] (by rfl) rfl rfl (by (try simp only [List.map_toArray, List.map_cons, List.map_nil]); first | done | rfl | (simp only [List.length_drop, List.length_take]; rfl)) ?_
    with_reducible refine (value_number.calls 0 t238 t239 t240 _ A13.out).mono ?_
    rintro e w24 ⟨rfl, hb⟩
    refine ⟨_, rfl, ?_⟩
    have n0_ := Aside0.mk (Kd.R_below (by (with_reducible repeat (first | apply Kd.R_alloc | apply Kd.R_drewN | apply Kd.R_drew)); exact HO235.out) hb)
    have n1_ := Aside0.mk (blk_below (g := gb231) (o := .cells #[.int .i64 a0_0, .int .i64 a0_1, .string a0_2] 23 (0, 0)) (by (with_reducible repeat (first | refine blk_drewN ?_ _ | refine blk_drew ?_ | refine blk_alloc ?_ _)); exact BK231.out) hb)
    have n2_ := Aside0.mk (blk_below (g := gb232) (o := .cells #[.int .i64 0, .int .i64 0, .string (⟨#[]⟩ : ByteArray)] 23 (0, 0)) (by (with_reducible repeat (first | refine blk_drewN ?_ _ | refine blk_drew ?_ | refine blk_alloc ?_ _)); exact BK232.out) hb)
    have n3_ := Aside0.mk (below_step (by repeat (first | (with_reducible first | exact HB.out | apply below_alloc | apply pw_below_drewN | apply below_drew1 | refine below_set ?_ GE231.out | refine below_set ?_ GE232.out) | exact HB.out)) hb)
    clear HO235
    clear BK231
    clear BK232
    clear HB
    have HO235 := n0_
    have BK231 := n1_
    have BK232 := n2_
    have HB := n3_
    clear n0_ n1_ n2_ n3_
    (try clear hb)
    (try clear hb2)
    (try clear hk)
    (try clear hi)
    refine hK.out _ _ ⟨(blk_cell BK231.out 0).trans rfl, (blk_cell BK231.out 1).trans rfl, (blk_cell BK231.out 2).trans rfl⟩ (fun hHeld => ?_)
    clear hK K
    refine norm_ (a' := ?_) ?_ ?_
    rotate_left
    · show Act.put _ (some 15) _ = _
      simp only [Act.put, List.setIfInBounds_toArray, List.set_cons_zero, List.set_cons_succ, i64_w, i32_w]
      rfl
    refine one_ (i := 2) (N := some 17) #[true, true, true, false, false, false, false] rfl rfl (by kernel_rfl) (by decide) (fun K hK => ?_)
    refine goes_ Try.func28 (by kernel_rfl) rfl #[.agg #[.int .i64 t238, .int .i64 t239, .string t240], .agg #[.int .i64 a0_0, .int .i64 a0_1, .string a0_2]] (by rfl) rfl rfl (by (try simp only [List.map_toArray, List.map_cons, List.map_nil]); first | done | rfl | (simp only [List.length_drop, List.length_take]; rfl)) ?_
    with_reducible refine (value_Sub.calls k t238 t239 t240 a0_0 a0_1 a0_2 t241 t242 t243 t244 _ A14.out).mono ?_
    rintro e w25 ⟨rfl, hb⟩
    refine ⟨_, rfl, ?_⟩
    have n0_ := Aside0.mk (Kd.R_below (by (with_reducible repeat (first | apply Kd.R_alloc | apply Kd.R_drewN | apply Kd.R_drew)); exact HO235.out) hb)
    have n1_ := Aside0.mk (blk_below (g := gb231) (o := .cells #[.int .i64 a0_0, .int .i64 a0_1, .string a0_2] 23 (0, 0)) (by (with_reducible repeat (first | refine blk_drewN ?_ _ | refine blk_drew ?_ | refine blk_alloc ?_ _)); exact BK231.out) hb)
    have n2_ := Aside0.mk (blk_below (g := gb232) (o := .cells #[.int .i64 0, .int .i64 0, .string (⟨#[]⟩ : ByteArray)] 23 (0, 0)) (by (with_reducible repeat (first | refine blk_drewN ?_ _ | refine blk_drew ?_ | refine blk_alloc ?_ _)); exact BK232.out) hb)
    have n3_ := Aside0.mk (below_step (by repeat (first | (with_reducible first | exact HB.out | apply below_alloc | apply pw_below_drewN | apply below_drew1 | refine below_set ?_ GE231.out | refine below_set ?_ GE232.out) | exact HB.out)) hb)
    clear HO235
    clear BK231
    clear BK232
    clear HB
    have HO235 := n0_
    have BK231 := n1_
    have BK232 := n2_
    have HB := n3_
    clear n0_ n1_ n2_ n3_
    (try clear hb)
    (try clear hb2)
    (try clear hk)
    (try clear hi)
    refine hK.out _ _ ⟨(blk_cell BK231.out 0).trans rfl, (blk_cell BK231.out 1).trans rfl, (blk_cell BK231.out 2).trans rfl⟩ (fun hHeld => ?_)
    clear hK K
    refine norm_ (a' := ?_) ?_ ?_
    rotate_left
    · show Act.put _ (some 17) _ = _
      simp only [Act.put, List.setIfInBounds_toArray, List.set_cons_zero, List.set_cons_succ, i64_w, i32_w]
      rfl
    refine pure_ (i := 3) (N := some 18) (v := ?_) (a' := ?_) #[true, true, true, true, false, false, false] rfl rfl (by kernel_rfl) (fun _ _ _ h => h) (Or.inl ⟨by rfl, ?_⟩) ?_ ?_
    rotate_left
    · intro w'
      go_simp
      with_reducible rfl
    rotate_left
    · simp only [Act.put, List.setIfInBounds_toArray, List.set_cons_zero, List.set_cons_succ, i64_w, i32_w]
      rfl
    refine pure_ (i := 4) (N := some 19) (v := ?_) (a' := ?_) #[true, true, true, true, true, false, false] rfl rfl (by kernel_rfl) (fun _ _ _ h => h) (Or.inl ⟨by rfl, ?_⟩) ?_ ?_
    rotate_left
    · intro w'
      go_simp
      with_reducible rfl
    rotate_left
    · simp only [Act.put, List.setIfInBounds_toArray, List.set_cons_zero, List.set_cons_succ, i64_w, i32_w]
      rfl
    refine one_ (i := 5) (N := none) #[true, true, true, true, true, true, false] rfl rfl (by kernel_rfl) (by decide) (fun K hK => ?_)
    have hs26 : w25.cell? ⟨gb232, 0, none⟩ = some (.int .i64 0) := (blk_cell BK232.out 0).trans rfl
    have hfs26 := blk_frozen BK232.out 0
    have hns26_0 := NB231_232.out
    have hms26_0 := NB232_231.out
    have hs27 : w25.cell? ⟨gb232, 1, none⟩ = some (.int .i64 0) := (blk_cell BK232.out 1).trans rfl
    have hfs27 := blk_frozen BK232.out 1
    have hns27_0 := NB231_232.out
    have hms27_0 := NB232_231.out
    have hs28 : w25.cell? ⟨gb232, 2, none⟩ = some (.string (⟨#[]⟩ : ByteArray)) := (blk_cell BK232.out 2).trans rfl
    have hfs28 := blk_frozen BK232.out 2
    have hns28_0 := NB231_232.out
    have hms28_0 := NB232_231.out
    refine skip_ (w1 := ?_) (by rfl) rfl ?_ ?_
    rotate_left
    · go_simp
      rfl
    refine hK.out _ _ ⟨((cell_far (p := ⟨gb232, _, none⟩) NB231_232.out _).trans (((cell_far (p := ⟨gb232, _, none⟩) NB231_232.out _).trans (((cell_far (p := ⟨gb232, _, none⟩) NB231_232.out _).trans (hHeld.1)))))), ((cell_far (p := ⟨gb232, _, none⟩) NB231_232.out _).trans (((cell_far (p := ⟨gb232, _, none⟩) NB231_232.out _).trans (((cell_far (p := ⟨gb232, _, none⟩) NB231_232.out _).trans (hHeld.2.1)))))), ((cell_far (p := ⟨gb232, _, none⟩) NB231_232.out _).trans (((cell_far (p := ⟨gb232, _, none⟩) NB231_232.out _).trans (((cell_far (p := ⟨gb232, _, none⟩) NB231_232.out _).trans (hHeld.2.2))))))⟩ (fun hHeld => ?_)
    clear hK K
    refine pure_ (i := 6) (N := some 3) (v := ?_) (a' := ?_) #[true, true, true, true, true, true, true] rfl rfl (by kernel_rfl) (fun _ _ _ h => h) (Or.inl ⟨by rfl, ?_⟩) ?_ ?_
    rotate_left
    · intro w'
      go_simp
      with_reducible rfl
    rotate_left
    · simp only [Act.put, List.setIfInBounds_toArray, List.set_cons_zero, List.set_cons_succ, i64_w, i32_w]
      rfl
    refine done_ (by kernel_rfl) ?_
    try go_wp2
    refine bodyPost_ret (results_ct rfl _ _ gb232 23 #[.int .i64 t241, .int .i64 t242, .string t243] (0, 0) _ rfl (by (with_reducible repeat (first | refine blk_drewN ?_ _ | refine blk_drew ?_ | refine blk_alloc ?_ _)); refine blk_put (cs := #[.int .i64 t241, .int .i64 t242, .string (⟨#[]⟩ : ByteArray)]) ?_ 2 _ rfl; (with_reducible repeat (first | refine blk_drewN ?_ _ | refine blk_drew ?_ | refine blk_alloc ?_ _)); refine blk_put (cs := #[.int .i64 t241, .int .i64 0, .string (⟨#[]⟩ : ByteArray)]) ?_ 1 _ rfl; (with_reducible repeat (first | refine blk_drewN ?_ _ | refine blk_drew ?_ | refine blk_alloc ?_ _)); refine blk_put (cs := #[.int .i64 0, .int .i64 0, .string (⟨#[]⟩ : ByteArray)]) ?_ 0 _ rfl; (with_reducible repeat (first | refine blk_drewN ?_ _ | refine blk_drew ?_ | refine blk_alloc ?_ _)); exact BK232.out) Try.underlying23 rfl (by kernel_rfl)) rfl ?_
    exact ⟨by first | rfl | (simp [errW_none, errW_some] <;> rfl) | (simp [*, errW_none, errW_some] <;> rfl), by repeat (first | (with_reducible first | exact HB.out | apply below_alloc | apply pw_below_drewN | apply below_drew1 | refine below_set ?_ GE231.out | refine below_set ?_ GE232.out) | exact HB.out)⟩

end Go.Proofs.Ytihfljdcmncicaa.QValueBack
